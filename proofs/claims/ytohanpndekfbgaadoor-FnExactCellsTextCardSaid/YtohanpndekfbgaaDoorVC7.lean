/- Faults of blocks; may a node name a place? -/
import Derived.Test.YtohanpndekfbgaaDoorVC5
namespace Go.Proofs.YtohanpndekfbgaaDoor.V
open Go
set_option linter.unusedVariables false
set_option linter.unusedSimpArgs false
set_option maxRecDepth 100000
/-- The first code that is not 0. -/
def ff : List Int → Int
  | [] => 0
  | x :: r => if x = 0 then ff r else x
theorem ff_zero : ∀ {c : List Int}, ff c = 0 → ∀ y ∈ c, y = 0
  | [], _, y, h => by simp at h
  | x :: r, h, y, hy => by
    simp only [ff] at h
    by_cases hx : x = 0
    · rw [if_pos hx] at h
      rcases List.mem_cons.1 hy with e | e
      · rw [e, hx]
      · exact ff_zero h y e
    · rw [if_neg hx] at h; exact absurd h hx
theorem ff_app : ∀ (c : List Int) (x : Int), (∀ y ∈ c, y = 0) → ∀ r, ff (c ++ x :: r) = if x = 0 then ff r else x
  | [], x, _, r => rfl
  | y :: c, x, h, r => by
    have := h y (by simp)
    simp only [List.cons_append, ff, this, if_true]
    exact ff_app c x (fun z hz => h z (by simp [hz])) r
theorem ff_all : ∀ {c : List Int}, (∀ y ∈ c, y = 0) → ff c = 0
  | [], _ => rfl
  | x :: r, h => by simp only [ff, h x (by simp), if_true]; exact ff_all fun y hy => h y (by simp [hy])
/-- A loop that leaves at the first code that is not 0; memory may grow. -/
theorem lim_first {f : Ts → Hp → Option (VE × Ts × Hp)} {H : Hp} {R : Hp → VE × Ts × Hp} {E : Int → Hp → VE × Ts × Hp} (hR : ∀ H, (R H).1 ≠ .normal) (hE : ∀ x H, (E x H).1 ≠ .normal) (T : Nat → Ts) (c : List Int)
    (hround : ∀ i x H', c[i]? = some x → Fn H H' → (∀ y ∈ c.take i, y = 0) → ∃ H'', f (T i) H' = some (if x = 0 then (.normal, T (i + 1), H'') else E x H'') ∧ Fn H H'')
    (hend : ∀ H', Fn H H' → (∀ y ∈ c, y = 0) → f (T c.length) H' = some (R H')) {H' : Hp} (h' : Fn H H') : ∃ H'', lim f (T 0) H' = some (if ff c = 0 then R H'' else E (ff c) H'') ∧ Fn H H'' := by
  have key : ∀ k i H', c.length - i = k → i ≤ c.length → Fn H H' → (∀ y ∈ c.take i, y = 0) → ∃ H'', lim f (T i) H' = some (if ff c = 0 then R H'' else E (ff c) H'') ∧ Fn H H'' := by
    intro k
    induction k with
    | zero =>
      intro i H' hk hi hf h0
      obtain rfl : i = c.length := by omega
      rw [List.take_length] at h0
      have := hend H' hf h0
      exact ⟨H', by rw [if_pos (ff_all h0)]; exact lim_end this (hR _), hf⟩
    | succ k ih =>
      intro i H' hk hi hf h0
      have hil : i < c.length := by omega
      obtain ⟨H2, h1, h2⟩ := hround i c[i] H' (List.getElem?_eq_getElem hil) hf h0
      have hsplit : c = c.take i ++ c[i] :: c.drop (i + 1) := by rw [← List.drop_eq_getElem_cons hil, List.take_append_drop]
      have hff := ff_app (c.take i) c[i] h0 (c.drop (i + 1))
      rw [← hsplit] at hff
      by_cases hx : c[i] = 0
      · rw [if_pos hx] at h1
        obtain ⟨H3, h3, h4⟩ := ih (i + 1) H2 (by omega) (by omega) h2 (by
          intro y hy
          rw [List.take_succ_eq_append_getElem hil] at hy
          rcases List.mem_append.1 hy with e | e
          · exact h0 y e
          · simp at e; rw [e, hx])
        exact ⟨H3, lim_step h1 h3, h4⟩
      · rw [if_neg hx] at h1 hff
        exact ⟨H2, by rw [hff, if_neg hx]; exact lim_end h1 (hE _ _), h2⟩
  exact key c.length 0 H' (by omega) (by omega) h' (by simp)

/-- The same, where memory stays as it is. -/
theorem lim_firstC {f : Ts → Hp → Option (VE × Ts × Hp)} {H : Hp} {R : VE × Ts × Hp} {E : Int → VE × Ts × Hp} (hR : R.1 ≠ .normal) (hE : ∀ x, (E x).1 ≠ .normal) (T : Nat → Ts) (c : List Int)
    (hround : ∀ i x, c[i]? = some x → (∀ y ∈ c.take i, y = 0) → f (T i) H = some (if x = 0 then (.normal, T (i + 1), H) else E x))
    (hend : (∀ y ∈ c, y = 0) → f (T c.length) H = some R) : lim f (T 0) H = some (if ff c = 0 then R else E (ff c)) := by
  have key : ∀ k i, c.length - i = k → i ≤ c.length → (∀ y ∈ c.take i, y = 0) → lim f (T i) H = some (if ff c = 0 then R else E (ff c)) := by
    intro k
    induction k with
    | zero =>
      intro i hk hi h0
      obtain rfl : i = c.length := by omega
      rw [List.take_length] at h0
      rw [if_pos (ff_all h0)]
      obtain ⟨e, ts, H'⟩ := R
      exact lim_end (hend h0) hR
    | succ k ih =>
      intro i hk hi h0
      have hil : i < c.length := by omega
      have h1 := hround i c[i] (List.getElem?_eq_getElem hil) h0
      have hsplit : c = c.take i ++ c[i] :: c.drop (i + 1) := by rw [← List.drop_eq_getElem_cons hil, List.take_append_drop]
      have hff := ff_app (c.take i) c[i] h0 (c.drop (i + 1))
      rw [← hsplit] at hff
      by_cases hx : c[i] = 0
      · rw [if_pos hx] at h1
        exact lim_step h1 (ih (i + 1) (by omega) (by omega) (by
          intro y hy
          rw [List.take_succ_eq_append_getElem hil] at hy
          rcases List.mem_append.1 hy with e | e
          · exact h0 y e
          · simp at e; rw [e, hx]))
      · rw [if_neg hx] at h1 hff
        have hE' := hE c[i]
        rw [hff, if_neg hx]
        generalize E c[i] = r at *
        obtain ⟨e, ts, H'⟩ := r
        exact lim_end h1 hE'
  exact key c.length 0 (by omega) (by omega) (by simp)

/-! ### Blocks -/
def bF (b : Bk) : Int := if (0 ≤ b.r ∧ b.r ≤ 200) ∧ 0 ≤ b.d ∧ b.d ≤ 255 then (if b.r = 0 ∧ b.d ≠ 0 then 1 else 0) else 3
def fB (l : List Bk) : Int := if 24 < l.length then 2 else ff (l.map bF)
theorem l3Data_c (d lo : Nat) (H : Hp) (v : Int) : vcall env (d + 2) 43 [.int .i64 v] lo H = some (.bool (decide (0 ≤ v ∧ v ≤ 255)), H) := by
  rw [call_eq find43 _ _ _ rfl]
  simp -implicitDefEqProofs only [v43, VMs, noRef, noRef1, isRef, List.all_cons, List.all_nil, vop, VOp.still, VOp.app, VOp.plain, allP, lof, evs, start, asI, vbin, vcells, ntup, setAll, vfill, vress, vres, tup, Nat.reduceEqDiff, ↓reduceIte, Nat.reduceAdd, Nat.reduceMul, Nat.reduceLeDiff, reduceCtorEq, l1In_c]
theorem isByte_c (d lo : Nat) (H : Hp) (v : Int) : vcall env (d + 2) 33 [.int .i64 v] lo H = some (.bool (decide (0 ≤ v ∧ v ≤ 255)), H) := by
  rw [call_eq find33 _ _ _ rfl]
  simp -implicitDefEqProofs only [v33, VMs, noRef, noRef1, isRef, List.all_cons, List.all_nil, vop, VOp.still, VOp.app, VOp.plain, allP, lof, evs, start, asI, vbin, vcells, ntup, setAll, vfill, vress, vres, tup, Nat.reduceEqDiff, ↓reduceIte, Nat.reduceAdd, Nat.reduceMul, Nat.reduceLeDiff, reduceCtorEq, within_c]
theorem EB.fn {H H' : Hp} (hf : Fn H H') {i o : Nat} {x : Bk} (h : EB H i o x) : EB H' i o x := hf.EB id h
theorem map_at {α : Type} {l : List α} {f : α → Int} {i : Nat} {x : Int} (h : (l.map f)[i]? = some x) : ∃ hi : i < l.length, x = f l[i] := by
  rw [List.getElem?_map] at h
  obtain ⟨b, hb, rfl⟩ := Option.map_eq_some_iff.1 h
  obtain ⟨hi, rfl⟩ := List.getElem?_eq_some_iff.1 hb
  exact ⟨hi, rfl⟩
end Go.Proofs.YtohanpndekfbgaaDoor.V
