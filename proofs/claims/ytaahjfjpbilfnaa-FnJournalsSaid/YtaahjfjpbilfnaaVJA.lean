/- Plain: what is put for a record, and what a scan then finds. -/
import Derived.Test.YtaahjfjpbilfnaaVGJ
import Derived.Test.YtaahjfjpbilfnaaVQP
namespace Go.Proofs.Ytaahjfjpbilfnaa.V
open Go
set_option linter.unusedVariables false
set_option linter.unusedSimpArgs false
/-- What is wrong with a record. -/
def rF (w : List Int) : Int := if 1 ≤ w.length ∧ w.length ≤ 8 then (if w.all wOK = true then 0 else 3) else 2
theorem rF_zero {w : List Int} (h : rF w = 0) : (1 ≤ w.length ∧ w.length ≤ 8) ∧ ∀ x ∈ w, wOK x = true := by
  unfold rF at h
  by_cases h1 : 1 ≤ w.length ∧ w.length ≤ 8
  · rw [if_pos h1] at h
    by_cases h2 : w.all wOK = true
    · exact ⟨h1, List.all_eq_true.1 h2⟩
    · rw [if_neg h2] at h; cases h
  · rw [if_neg h1] at h; cases h
/-- Words put one behind the other. -/
def row : Nat → List Int → List Bk
  | _, [] => []
  | u, x :: l => ⟨(u : Int), x⟩ :: row (u + 1) l
theorem row_len : ∀ (l : List Int) (u : Nat), (row u l).length = l.length
  | [], _ => rfl
  | x :: l, u => by simp [row, row_len l (u + 1)]
theorem row_take : ∀ (l : List Int) (u j : Nat) (hj : j < l.length), row u (l.take (j + 1)) = row u (l.take j) ++ [(⟨((u + j : Nat) : Int), l[j]⟩ : Bk)]
  | x :: l, u, 0, hj => by simp [row]
  | x :: l, u, j + 1, hj => by
    have := row_take l (u + 1) j (by simpa using hj)
    simp only [List.take_succ_cons, row, this, List.getElem_cons_succ, List.cons_append]
    congr 5
    omega
theorem row_mem : ∀ (l : List Int) (u : Nat), ∀ y ∈ row u l, ((u : Int) ≤ y.r ∧ y.r < (u : Int) + l.length) ∧ y.d ∈ l
  | [], u, y, h => by simp [row] at h
  | x :: l, u, y, h => by
    simp only [row, List.mem_cons] at h
    rcases h with rfl | h
    · simp; omega
    · have := row_mem l (u + 1) y h
      refine ⟨by simp only [List.length_cons]; omega, List.mem_cons_of_mem _ this.2⟩
theorem flP_row : ∀ (l : List Int) (u : Nat) (w : List Int), u + l.length ≤ w.length → flP w (row u l) = w.take u ++ l ++ w.drop (u + l.length)
  | [], u, w, h => by simp [row, flP]
  | x :: l, u, w, h => by
    simp only [List.length_cons] at h
    have ih := flP_row l (u + 1) (w.set u x) (by simp; omega)
    have e : flP w (row u (x :: l)) = flP (w.set u x) (row (u + 1) l) := by simp [flP, row]
    rw [e, ih]
    have h1 : (w.set u x).take (u + 1) = w.take u ++ [x] := by
      rw [List.take_succ_eq_append_getElem (by simp; omega), List.getElem_set_self, List.take_set_of_le (Nat.le_refl _)]
    have h2 : (w.set u x).drop (u + 1 + l.length) = w.drop (u + (x :: l).length) := by
      rw [List.drop_set_of_lt (by omega), List.length_cons, show u + 1 + l.length = u + (l.length + 1) by omega]
    rw [h1, h2, List.append_assoc, List.append_assoc, List.append_assoc]; rfl
theorem flP_pre : ∀ (p : List Bk) (u : Nat) (w : List Int), (∀ x ∈ p, (u : Int) ≤ x.r) → (flP w p).take u = w.take u
  | [], u, w, h => rfl
  | x :: p, u, w, h => by
    have ih := flP_pre p u (w.set x.r.toNat x.d) (fun y hy => h y (by simp [hy]))
    have e : flP w (x :: p) = flP (w.set x.r.toNat x.d) p := rfl
    have := h x (by simp)
    rw [e, ih, List.take_set_of_le (by omega)]
theorem flP_app (w : List Int) (p r : List Bk) : flP w (p ++ r) = flP (flP w p) r := by simp [flP]
/-! ### A scan of words that agree -/
theorem at_pre {a b : List Int} {u i : Nat} (h : b.take u = a.take u) (hi : i < u) : b[i]? = a[i]? := by
  have := congrArg (fun l => l[i]?) h
  simpa only [List.getElem?_take, if_pos hi] using this
theorem recL_pre {a b : List Int} {u i m : Nat} (h : b.take u = a.take u) (hi : i + 2 + m ≤ u) : recL b i m = recL a i m := by
  unfold recL
  apply List.ext_getElem?
  intro j
  by_cases hj : j < m
  · simp only [List.getElem?_take, if_pos hj, List.getElem?_drop]
    exact at_pre h (by omega)
  · simp only [List.getElem?_take, if_neg hj]
theorem recN_pre {a b : List Int} {u i k : Nat} (h : b.take u = a.take u) (hl : b.length = a.length) (hn : recN a i k ≠ 0) (hi : i + 2 + recN a i k ≤ u) : recN b i k = recN a i k := by
  have h1 := recN_le a i k hn
  unfold recN at hn h1 hi ⊢
  have e0 := at_pre h (show i < u by omega)
  cases hx : a[i]? with
  | none => rw [hx] at hn; exact absurd rfl hn
  | some n =>
    rw [e0, hx]
    rw [hx] at hn h1 hi
    simp only at hn h1 hi ⊢
    by_cases c1 : 1 ≤ n ∧ n ≤ 8 ∧ (i : Int) + 2 + n ≤ (a.length : Int)
    · rw [if_pos c1] at hn h1 hi
      by_cases c2 : a[i + 1]? = some (sumW ((k : Int) :: (a.drop (i + 2)).take n.toNat) 9)
      · rw [if_pos c2] at hn h1 hi
        have e1 := at_pre h (show i + 1 < u by omega)
        have e2 := recL_pre h (show i + 2 + n.toNat ≤ u by omega)
        unfold recL at e2
        rw [hl, e1, e2]
      · rw [if_neg c2] at hn; exact absurd rfl hn
    · rw [if_neg c1] at hn; exact absurd rfl hn
theorem scanR_ge (a : List Int) : ∀ (f i : Nat) (o : List (List Int)), i ≤ (scanR a f i o).2
  | 0, i, o => Nat.le_refl _
  | f + 1, i, o => by
    unfold scanR
    by_cases h : recN a i o.length = 0
    · rw [if_pos h]; exact Nat.le_refl _
    · rw [if_neg h]
      have := scanR_ge a f (i + 2 + recN a i o.length) (o ++ [recL a i (recN a i o.length)])
      omega
theorem scanR_ext (a : List Int) : ∀ (f i : Nat) (o : List (List Int)), ∃ t, (scanR a f i o).1 = o ++ t
  | 0, i, o => ⟨[], (List.append_nil _).symm⟩
  | f + 1, i, o => by
    unfold scanR
    by_cases h : recN a i o.length = 0
    · rw [if_pos h]; exact ⟨[], (List.append_nil _).symm⟩
    · rw [if_neg h]
      obtain ⟨t, e⟩ := scanR_ext a f (i + 2 + recN a i o.length) (o ++ [recL a i (recN a i o.length)])
      exact ⟨recL a i (recN a i o.length) :: t, by rw [e, List.append_assoc]; rfl⟩
/-- Words that agree as far as a scan went: the scan goes on from there. -/
theorem scanR_pre (a b : List Int) (hl : b.length = a.length) : ∀ (f i : Nat) (o : List (List Int)), b.take (scanR a f i o).2 = a.take (scanR a f i o).2 → ∃ g, f + i ≤ g + (scanR a f i o).2 ∧ scanR b f i o = scanR b g (scanR a f i o).2 (scanR a f i o).1
  | 0, i, o, h => ⟨0, Nat.le_refl _, rfl⟩
  | f + 1, i, o, h => by
    by_cases hn : recN a i o.length = 0
    · have e : scanR a (f + 1) i o = (o, i) := by unfold scanR; rw [if_pos hn]
      rw [e]
      exact ⟨f + 1, Nat.le_refl _, rfl⟩
    · have e : scanR a (f + 1) i o = scanR a f (i + 2 + recN a i o.length) (o ++ [recL a i (recN a i o.length)]) := by
        conv => lhs; unfold scanR
        rw [if_neg hn]
      rw [e] at h ⊢
      have hge := scanR_ge a f (i + 2 + recN a i o.length) (o ++ [recL a i (recN a i o.length)])
      have e1 := recN_pre h hl hn hge
      have e2 := recL_pre h hge
      obtain ⟨g, hg, ih⟩ := scanR_pre a b hl f _ _ h
      refine ⟨g, by omega, ?_⟩
      conv => lhs; unfold scanR
      rw [e1, if_neg hn, e2]
      exact ih
theorem recN_stop (a : List Int) {k i : Nat} (h : a.length ≤ i + 2 ∨ a[i]? = some 0) : recN a i k = 0 := by
  rcases h with h | h
  · exact recN_far h
  · exact recN_bad h (by omega)
theorem scanR_stop (a : List Int) {f i : Nat} {o : List (List Int)} (h : recN a i o.length = 0) : scanR a f i o = (o, i) := by
  cases f with
  | zero => rfl
  | succ f => unfold scanR; rw [if_pos h]
/-- What stands for a record, as far as there is room. -/
def apL (u k : Nat) (w : List Int) : List Int := (((w.length : Int) :: sumW ((k : Int) :: w) 9 :: w) ++ [0]).take (64 - u)
theorem apL_len {u k : Nat} {w : List Int} (h : u + 2 + w.length ≤ 64) : (apL u k w).length = if u + 2 + w.length < 64 then w.length + 3 else w.length + 2 := by
  unfold apL
  rw [List.length_take]
  simp only [List.length_append, List.length_cons, List.length_nil]
  split <;> omega
/-- The scan of words with a record more. -/
theorem scan_more {a : List Int} (h64 : a.length = 64) {w : List Int} (h1 : 1 ≤ w.length) (h8 : w.length ≤ 8) (hu : (scanR a 65 0 []).2 + 2 + w.length ≤ 64) :
    scanR (flP a (row (scanR a 65 0 []).2 (apL (scanR a 65 0 []).2 (scanR a 65 0 []).1.length w))) 65 0 [] = ((scanR a 65 0 []).1 ++ [w], (scanR a 65 0 []).2 + 2 + w.length) := by
  obtain ⟨u, hU⟩ : ∃ u, u = (scanR a 65 0 []).2 := ⟨_, rfl⟩
  obtain ⟨L, hL⟩ : ∃ L, L = (scanR a 65 0 []).1 := ⟨_, rfl⟩
  rw [← hU] at hu
  have hal := apL_len (k := L.length) hu
  have hrow : ∀ x ∈ row u (apL u L.length w), (u : Int) ≤ x.r := fun x hx => (row_mem _ _ x hx).1.1
  have hpre := flP_pre _ u a hrow
  have hlen : (flP a (row u (apL u L.length w))).length = 64 := by rw [flP_len]; exact h64
  have hfl := flP_row (apL u L.length w) u a (by rw [hal]; split <;> omega)
  rw [← hU, ← hL]
  obtain ⟨b, hb⟩ : ∃ b, b = flP a (row u (apL u L.length w)) := ⟨_, rfl⟩
  rw [← hb] at hpre hlen hfl ⊢
  obtain ⟨g, hg, e⟩ := scanR_pre a b (by omega) 65 0 [] (by rw [← hU]; exact hpre)
  rw [← hU, ← hL] at e
  rw [← hU] at hg
  rw [e]
  have hseg : ∀ i, i < w.length + 2 → b[u + i]? = ((w.length : Int) :: sumW ((L.length : Int) :: w) 9 :: w)[i]? := by
    intro i hi
    rw [hfl, List.append_assoc, List.getElem?_append_right (by rw [List.length_take]; omega), List.getElem?_append_left (by rw [List.length_take, hal]; split <;> omega), List.length_take, show u + i - min u a.length = i by omega]
    unfold apL
    rw [List.getElem?_take, if_pos (by omega), List.getElem?_append_left (by simp; omega)]
  have hn : b[u]? = some (w.length : Int) := hseg 0 (by omega)
  have hs : b[u + 1]? = some (sumW ((L.length : Int) :: w) 9) := hseg 1 (by omega)
  have hw : recL b u w.length = w := by
    unfold recL
    apply List.ext_getElem?
    intro j
    by_cases hj : j < w.length
    · rw [List.getElem?_take, if_pos hj, List.getElem?_drop, show u + 2 + j = u + (2 + j) by omega, hseg (2 + j) (by omega), show 2 + j = j + 1 + 1 by omega, List.getElem?_cons_succ, List.getElem?_cons_succ]
    · rw [List.getElem?_take, if_neg hj, List.getElem?_eq_none (by omega)]
  have hN : recN b u L.length = w.length := by
    rw [recN_sum hn h1 h8 (by omega), hw, hs, if_pos rfl]
  have hstop : recN b (u + 2 + w.length) (L ++ [w]).length = 0 := by
    refine recN_stop b ?_
    by_cases hc : u + 2 + w.length < 64
    · right
      rw [if_pos hc] at hal
      rw [hfl, List.append_assoc, List.getElem?_append_right (by rw [List.length_take]; omega), List.getElem?_append_left (by rw [List.length_take, hal]; omega), List.length_take, show u + 2 + w.length - min u a.length = w.length + 2 by omega]
      unfold apL
      rw [List.getElem?_take, if_pos (by omega), List.getElem?_append_right (by simp)]
      simp
    · left; omega
  obtain ⟨g', rfl⟩ : ∃ g', g = g' + 1 := ⟨g - 1, by omega⟩
  conv => lhs; unfold scanR
  rw [hN, if_neg (by omega), hw]
  exact scanR_stop b hstop
/-! ### A record behind the others -/
def uRD (D : Dk) : Nat := (scanR (flP D.w D.p) 65 0 []).2
def nRD (D : Dk) : Nat := (scanR (flP D.w D.p) 65 0 []).1.length
def apD (D : Dk) (w : List Int) : Dk := ⟨D.w, D.p ++ row (uRD D) (apL (uRD D) (nRD D) w)⟩
/-- The code of an append. -/
def apC (D : Dk) (w : List Int) : Int := if dF D = 0 then (if rF w = 0 then (if 64 < uRD D + 2 + w.length ∨ 200 < D.p.length + 3 + w.length then 8 else 0) else rF w) else dF D
theorem apC_zero {D : Dk} {w : List Int} (h : apC D w = 0) : dF D = 0 ∧ rF w = 0 ∧ uRD D + 2 + w.length ≤ 64 ∧ D.p.length + 3 + w.length ≤ 200 := by
  unfold apC at h
  by_cases h1 : dF D = 0
  · rw [if_pos h1] at h
    by_cases h2 : rF w = 0
    · rw [if_pos h2] at h
      by_cases h3 : 64 < uRD D + 2 + w.length ∨ 200 < D.p.length + 3 + w.length
      · rw [if_pos h3] at h; cases h
      · exact ⟨h1, h2, by omega, by omega⟩
    · rw [if_neg h2] at h; exact absurd h h2
  · rw [if_neg h1] at h; exact absurd h h1
theorem apL_ok {u k : Nat} {w : List Int} (h : rF w = 0) : ∀ x ∈ apL u k w, wOK x = true := by
  obtain ⟨⟨h1, h8⟩, h2⟩ := rF_zero h
  intro x hx
  have hx := List.mem_of_mem_take hx
  simp only [List.mem_append, List.mem_cons, List.not_mem_nil, or_false] at hx
  have hr := sumW_range ((k : Int) :: w) 9 (by omega) (by omega)
  rcases hx with (rfl | rfl | hx) | rfl
  · unfold wOK; exact decide_eq_true (by omega)
  · unfold wOK; exact decide_eq_true (by omega)
  · exact h2 x hx
  · rfl
theorem apD_good {D : Dk} {w : List Int} (h : apC D w = 0) : dF (apD D w) = 0 := by
  obtain ⟨h0, hr, hu, hp⟩ := apC_zero h
  have g := dF_zero h0
  obtain ⟨h1, h2⟩ := dF_all h0
  have hal := apL_len (k := nRD D) hu
  have hal2 : (apL (uRD D) (nRD D) w).length ≤ w.length + 3 ∧ uRD D + (apL (uRD D) (nRD D) w).length ≤ 64 := by rw [hal]; split <;> omega
  refine dF_of g.w (by simp only [apD, List.length_append, row_len]; omega) h1 fun y hy => ?_
  rcases List.mem_append.1 hy with e | e
  · exact h2 y e
  · obtain ⟨⟨e1, e2⟩, e3⟩ := row_mem _ _ y e
    have := apL_ok hr _ e3
    unfold pOK
    rw [this, decide_eq_true (by omega)]; rfl
theorem apD_scan {D : Dk} {w : List Int} (h : apC D w = 0) : scanR (flP (apD D w).w (apD D w).p) 65 0 [] = ((scanR (flP D.w D.p) 65 0 []).1 ++ [w], uRD D + 2 + w.length) := by
  obtain ⟨h0, hr, hu, hp⟩ := apC_zero h
  obtain ⟨⟨h1, h8⟩, _⟩ := rF_zero hr
  have g := dF_zero h0
  have e : flP (apD D w).w (apD D w).p = flP (flP D.w D.p) (row (uRD D) (apL (uRD D) (nRD D) w)) := flP_app _ _ _
  rw [e]
  exact scan_more (by rw [flP_len]; exact g.w) h1 h8 hu
/-- What a crash leaves behind a committed journal: the records that were. -/
theorem crash_scan {C : Dk} {w : List Int} (h : apC C w = 0) (hc : C.p = []) (bs : List Bool) : ∃ t, (scanR (flP (apD C w).w (kp (apD C w).p bs)) 65 0 []).1 = (scanR (flP C.w C.p) 65 0 []).1 ++ t := by
  obtain ⟨h0, hr, hu, hp⟩ := apC_zero h
  have g := dF_zero h0
  have hpre := flP_pre (kp (apD C w).p bs) (uRD C) C.w (fun x hx => by
    have := kp_mem _ _ x hx
    simp only [apD, hc, List.nil_append] at this
    exact (row_mem _ _ x this).1.1)
  have e0 : flP C.w C.p = C.w := by rw [hc]; rfl
  have hu0 : uRD C = (scanR C.w 65 0 []).2 := by unfold uRD; rw [e0]
  rw [hu0] at hpre
  obtain ⟨gg, _, e⟩ := scanR_pre C.w (flP (apD C w).w (kp (apD C w).p bs)) (by rw [flP_len]; rfl) 65 0 [] hpre
  rw [e, e0]
  exact scanR_ext _ _ _ _
end Go.Proofs.Ytaahjfjpbilfnaa.V
