/- Fewer and more refer to blocks and nodes: plain law. -/
import Derived.Test.YtmcljallamhccaaVDC
namespace Go.Proofs.Ytmcljallamhccaa.V
open Go
set_option linter.unusedVariables false
set_option linter.unusedSimpArgs false
set_option maxRecDepth 100000
theorem bF_ok {b : Bk} : bF b = 0 ↔ (0 ≤ b.r ∧ b.r ≤ 200) ∧ (0 ≤ b.d ∧ b.d ≤ 255) ∧ (b.r = 0 → b.d = 0) := by
  unfold bF
  by_cases h1 : (0 ≤ b.r ∧ b.r ≤ 200) ∧ 0 ≤ b.d ∧ b.d ≤ 255
  · rw [if_pos h1]
    by_cases h2 : b.r = 0 ∧ b.d ≠ 0
    · rw [if_pos h2]; constructor
      · intro h; omega
      · intro h; exact absurd (h.2.2 h2.1) h2.2
    · rw [if_neg h2]; constructor
      · intro _; exact ⟨h1.1, h1.2, fun e => Decidable.byContradiction fun e' => h2 ⟨e, e'⟩⟩
      · intro _; rfl
  · rw [if_neg h1]; constructor
    · intro h; omega
    · intro h; exact absurd ⟨h.1, h.2.1⟩ h1
theorem fB_ok {l : List Bk} : fB l = 0 ↔ l.length ≤ 24 ∧ ∀ b ∈ l, (0 ≤ b.r ∧ b.r ≤ 200) ∧ (0 ≤ b.d ∧ b.d ≤ 255) ∧ (b.r = 0 → b.d = 0) := by
  unfold fB
  by_cases h : 24 < l.length
  · rw [if_pos h]; constructor
    · intro e; omega
    · intro e; omega
  · rw [if_neg h]; constructor
    · intro e; exact ⟨by omega, fun b hb => bF_ok.1 (ff_zero e _ (List.mem_map_of_mem hb))⟩
    · intro e; exact ff_all fun y hy => by
        obtain ⟨b, hb, rfl⟩ := List.mem_map.1 hy
        exact bF_ok.2 (e.2 b hb)
abbrev z0 : Nat → Int := fun _ => 0
theorem fF_zero {F : Fo} (h : fF F = 0) : Good F ∧ (∀ y ∈ c1 F, y = 0) ∧ ∀ y ∈ c2 F, y = 0 := by
  have g := good_of h
  unfold fF at h
  rw [if_pos g.b, if_neg (by have := g.l; omega)] at h
  have h3 : ff (F.n.map (nodeF F)) = 0 := ff_all fun y hy => by obtain ⟨x, hx, rfl⟩ := List.mem_map.1 hy; exact g.n x hx
  rw [if_pos h3] at h
  by_cases h4 : ff (c1 F) = 0
  · rw [if_pos h4] at h; exact ⟨g, ff_zero h4, ff_zero h⟩
  · rw [if_neg h4] at h; exact absurd h h4
theorem inv_of {F : Fo} (h : fF F = 0) : Inv F z0 z0 := by
  obtain ⟨g, h1, h2⟩ := fF_zero h
  obtain ⟨b1, b2⟩ := fB_ok.1 g.b
  have hk0 : ∀ x ∈ F.n, x.r = 0 → x.f = false ∧ x.k = [] := fun x hx hr => by
    have := g.n x hx
    unfold nodeF at this
    rw [if_pos (by omega), if_pos hr] at this
    by_cases hc : x.f = true ∨ 0 < x.k.length
    · rw [if_pos hc] at this; omega
    · exact ⟨eq_false_of_ne_true fun e => hc (Or.inl e), List.length_eq_zero_iff.1 (by have : ¬ 0 < x.k.length := fun e => hc (Or.inr e); omega)⟩
  have hr : ∀ x ∈ F.n, 0 ≤ x.r ∧ x.r ≤ 200 := fun x hx => by
    have := g.n x hx
    unfold nodeF at this
    by_cases hc : 0 ≤ x.r ∧ x.r ≤ 200
    · exact hc
    · rw [if_neg hc] at this; omega
  have h4 : ∀ x ∈ F.n, x.r ≠ 0 → x.k.length = 4 ∧ x.k.all (kidB F x.f) = true ∧ ∃ k ∈ x.k, 0 ≤ k := fun x hx hr0 => by
    have := g.n x hx
    obtain ⟨q1, q2⟩ := nodeF_four this hr0
    unfold nodeF at this
    rw [if_pos (hr x hx), if_neg hr0, if_pos q1] at this
    by_cases hc : x.k.all (kidB F x.f) = true ∧ (x.k.any fun k => decide (0 ≤ k)) = true
    · obtain ⟨k, hk, hk2⟩ := List.any_eq_true.1 hc.2
      exact ⟨q1, q2, k, hk, by simpa using hk2⟩
    · rw [if_neg hc] at this; omega
  refine ⟨g.l, b1, b2, hr, hk0, fun x hx hr0 => ⟨(h4 x hx hr0).1, (h4 x hx hr0).2.2⟩, fun x hx hf k hk => ?_, fun x hx hf k hk => ?_, fun i hi => ?_, fun j hj hf => ?_⟩
  · have hr0 : x.r ≠ 0 := fun e => by rw [(hk0 x hx e).1] at hf; cases hf
    have := List.all_eq_true.1 (h4 x hx hr0).2.1 k hk
    rw [hf] at this
    rcases blk_at this with e | ⟨j, hj, e, _⟩
    · exact Or.inl e
    · exact Or.inr ⟨by omega, by omega⟩
  · have hr0 : x.r ≠ 0 := fun e => by rw [(hk0 x hx e).2] at hk; simp at hk
    have := List.all_eq_true.1 (h4 x hx hr0).2.1 k hk
    rw [hf] at this
    rcases leaf_at this with e | ⟨j, hj, e, _, hf'⟩
    · exact Or.inl e
    · exact Or.inr ⟨j, hj, e, hf'⟩
  · have := h1 _ (List.mem_map.2 ⟨i, List.mem_range.2 hi, rfl⟩)
    rw [getE hi] at this
    simp only at this
    by_cases e : F.b[i].r = nmS F.n true (i : Int)
    · rw [e]; simp
    · rw [if_neg e] at this; omega
  · have := h2 _ (List.mem_map.2 ⟨j, List.mem_range.2 hj, rfl⟩)
    rw [getE hj] at this
    simp only at this
    by_cases e : F.n[j].f = true ∧ F.n[j].r < nmS F.n false (j : Int)
    · rw [if_pos e] at this; omega
    · have : ¬ F.n[j].r < nmS F.n false (j : Int) := fun e' => e ⟨hf, e'⟩
      show nmS F.n false (j : Int) + 0 ≤ F.n[j].r
      omega
theorem Inv.kid {F : Fo} {eN : Nat → Int} (h : Inv F z0 eN) {x : Nd} (hx : x ∈ F.n) (hr : x.r ≠ 0) {k : Int} (hk : k ∈ x.k) : kidB F x.f k = true := by
  by_cases hf : x.f = true
  · rw [hf]
    rcases h.kl x hx hf k hk with e | ⟨e1, e2⟩
    · rw [e]; exact kidB_m _ _
    · obtain ⟨j, rfl⟩ : ∃ j : Nat, k = j := ⟨k.toNat, by omega⟩
      have hj : j < F.b.length := by omega
      rw [kidB_b hj]
      have h1 : F.b[j].r = nmS F.n true (j : Int) + 0 := h.cb j hj
      have h2 := nm_le_nmS hx true (j : Int)
      rw [nm_live hr hf] at h2
      have h3 := List.count_pos_iff.2 hk
      exact decide_eq_true (by omega)
  · replace hf := eq_false_of_ne_true hf
    rw [hf]
    rcases h.kr x hx hf k hk with e | ⟨j, hj, rfl, hf'⟩
    · rw [e]; exact kidB_m _ _
    · rw [kidB_n hj, hf', Bool.and_true]
      have h1 := h.live (List.getElem_mem hj) hf'
      have h2 := h.nr _ (List.getElem_mem hj)
      exact decide_eq_true (by omega)
theorem Inv.fF {F : Fo} (h : Inv F z0 z0) : fF F = 0 := by
  unfold V.fF
  have hB : fB F.b = 0 := fB_ok.2 ⟨h.b24, h.bd⟩
  have hN : ff (F.n.map (nodeF F)) = 0 := ff_all fun y hy => by
    obtain ⟨x, hx, rfl⟩ := List.mem_map.1 hy
    unfold nodeF
    rw [if_pos (h.nr x hx)]
    by_cases hr : x.r = 0
    · obtain ⟨e1, e2⟩ := h.n0 x hx hr
      rw [if_pos hr, if_neg (by rw [e1, e2]; simp)]
    · obtain ⟨e1, k, hk, hk0⟩ := h.n4 x hx hr
      rw [if_neg hr, if_pos e1, if_pos]
      exact ⟨List.all_eq_true.2 fun k hk => h.kid hx hr hk, List.any_eq_true.2 ⟨k, hk, by simpa using hk0⟩⟩
  have h1 : ff (c1 F) = 0 := ff_all fun y hy => by
    obtain ⟨i, hi, rfl⟩ := List.mem_map.1 hy
    have hi := List.mem_range.1 hi
    rw [getE hi]
    simp only
    rw [if_pos]
    have : F.b[i].r = nmS F.n true (i : Int) + 0 := h.cb i hi
    omega
  have h2 : ff (c2 F) = 0 := ff_all fun y hy => by
    obtain ⟨i, hi, rfl⟩ := List.mem_map.1 hy
    have hi := List.mem_range.1 hi
    rw [getE hi]
    simp only
    rw [if_neg]
    intro hh
    have : nmS F.n false (i : Int) + 0 ≤ F.n[i].r := h.cn i hi hh.1
    omega
  rw [if_pos hB, if_neg (by have := h.n60; omega), if_pos hN, if_pos h1, h2]
/-! ### Fewer -/
def decB (b : Bk) : Bk := ⟨b.r - 1, if b.r = 1 then 0 else b.d⟩
def dropB (B : List Bk) (k : Int) : List Bk := if k < 0 then B else match B[k.toNat]? with
  | some b => B.set k.toNat (decB b)
  | none => B
def dead : Nd := ⟨0, false, []⟩
def lessL (F : Fo) (j : Nat) : Fo := match F.n[j]? with
  | some x => if 1 < x.r then ⟨F.n.set j ⟨x.r - 1, x.f, x.k⟩, F.b⟩ else ⟨F.n.set j dead, x.k.foldl dropB F.b⟩
  | none => F
def lessK (F : Fo) (k : Int) : Fo := if k < 0 then F else lessL F k.toNat
def lessR (F : Fo) (j : Nat) : Fo := match F.n[j]? with
  | some x => if 1 < x.r then ⟨F.n.set j ⟨x.r - 1, x.f, x.k⟩, F.b⟩ else x.k.foldl lessK ⟨F.n.set j dead, F.b⟩
  | none => F
theorem dropB_m (B : List Bk) {k : Int} (h : k < 0) : dropB B k = B := by unfold dropB; rw [if_pos h]
theorem dropB_n {B : List Bk} {j : Nat} (h : j < B.length) : dropB B (j : Int) = B.set j (decB B[j]) := by
  unfold dropB; rw [if_neg (by omega), Int.toNat_natCast, getE h]
theorem dropB_len (B : List Bk) (k : Int) : (dropB B k).length = B.length := by
  unfold dropB; split
  · rfl
  · split <;> simp
theorem Inv.drop {F : Fo} {eB eN : Nat → Int} (h : Inv F eB eN) {j : Nat} (hj : j < F.b.length) (h1 : 1 ≤ eB j) : Inv ⟨F.n, F.b.set j (decB F.b[j])⟩ (fun i => eB i - if i = j then 1 else 0) eN := by
  have hb := h.bd _ (List.getElem_mem hj)
  have hc := h.cb j hj
  have hn := nmS_nonneg F.n true (j : Int)
  refine h.blk hj _ _ ?_ (fun i hi => by rw [if_neg hi]; omega) (by simp only [decB, if_true]; omega)
  unfold decB
  refine ⟨by simp only; omega, ?_, ?_⟩
  · simp only; split <;> omega
  · simp only; intro e; rw [if_pos (by omega)]
theorem Inv.dropK {F : Fo} {eB eN : Nat → Int} (h : Inv F eB eN) {k : Int} (hk : k = -1 ∨ (0 ≤ k ∧ k < (F.b.length : Int))) (h1 : ∀ i : Nat, k = (i : Int) → 1 ≤ eB i) : Inv ⟨F.n, dropB F.b k⟩ (fun i => eB i - kI k i) eN := by
  rcases hk with rfl | ⟨e1, e2⟩
  · rw [dropB_m _ (by omega)]
    exact h.eq (fun i _ => by unfold kI; rw [if_neg (by omega)]; omega) (fun _ _ => Int.le_refl _)
  · obtain ⟨j, rfl⟩ : ∃ j : Nat, k = j := ⟨k.toNat, by omega⟩
    have hj : j < F.b.length := by omega
    rw [dropB_n hj]
    refine (h.drop hj (h1 j rfl)).eq (fun i _ => ?_) (fun _ _ => Int.le_refl _)
    unfold kI
    by_cases e : i = j
    · rw [if_pos (by rw [e]), if_pos e]
    · rw [if_neg (by omega), if_neg e]
theorem count_kI (k : Int) (ks : List Int) (i : Nat) : ((k :: ks).count (i : Int) : Int) = kI k i + (ks.count (i : Int) : Int) := by
  unfold kI
  rw [List.count_cons]
  by_cases h : k = (i : Int)
  · simp [h]; omega
  · have : (k == (i : Int)) = false := by simp [h]
    simp [h]
theorem Inv.drops {eN : Nat → Int} : ∀ (ks : List Int) (F : Fo) (eB : Nat → Int), Inv F eB eN → (∀ k ∈ ks, k = -1 ∨ (0 ≤ k ∧ k < (F.b.length : Int))) → (∀ i : Nat, (ks.count (i : Int) : Int) ≤ eB i) → Inv ⟨F.n, ks.foldl dropB F.b⟩ (fun i => eB i - (ks.count (i : Int) : Int)) eN
  | [], F, eB, h, _, _ => h.eq (fun i _ => by simp) (fun _ _ => Int.le_refl _)
  | k :: ks, F, eB, h, hk, hc => by
    have h1 := h.dropK (hk k (by simp)) (fun i e => by
      have := hc i
      rw [count_kI] at this
      unfold kI at this
      rw [if_pos e] at this
      omega)
    have h2 := Inv.drops ks ⟨F.n, dropB F.b k⟩ _ h1 (fun k' hk' => by simp only [dropB_len]; exact hk k' (by simp [hk'])) (fun i => by
      have := hc i
      rw [count_kI] at this
      omega)
    refine h2.eq (fun i _ => ?_) (fun _ _ => Int.le_refl _)
    rw [count_kI]; omega
def at1 (j : Nat) : Nat → Int := fun i => if i = j then 1 else 0
/-- More or fewer refer to a node that stays. -/
theorem Inv.refs {F : Fo} {eB eN : Nat → Int} (h : Inv F eB eN) {j : Nat} (hj : j < F.n.length) (δ : Int) (h0 : F.n[j].r ≠ 0) (h1 : 1 ≤ F.n[j].r + δ) (h2 : F.n[j].r + δ ≤ 200) : Inv ⟨F.n.set j ⟨F.n[j].r + δ, F.n[j].f, F.n[j].k⟩, F.b⟩ eB (fun i => eN i + if i = j then δ else 0) := by
  have hx := List.getElem_mem hj
  have hnm : ∀ leaf a, nm leaf a ⟨F.n[j].r + δ, F.n[j].f, F.n[j].k⟩ = nm leaf a F.n[j] := fun leaf a => by
    unfold nm
    simp only
    by_cases hc : F.n[j].f ≠ leaf
    · rw [if_pos (Or.inr hc), if_pos (Or.inr hc)]
    · rw [if_neg (fun e => e.elim (fun e => by omega) hc), if_neg (fun e => e.elim h0 hc)]
  refine h.upd hj _ _ _ ⟨by simp only; omega, by simp only; omega⟩ (fun e => by simp only at e; omega) (fun _ => h.n4 F.n[j] hx h0) (fun hf k hk => h.kl F.n[j] hx hf k hk) (fun hf k hk => ?_) (fun hf => Or.inl hf) (fun i _ => by rw [hnm]; omega) (fun i _ hij => by rw [hnm, if_neg hij]; omega) (fun hf => ?_)
  · rcases h.kr _ hx hf k hk with e | ⟨i, hi, e, e'⟩
    · exact Or.inl e
    · refine Or.inr ⟨i, hi, e, fun e2 => ?_, e'⟩
      subst e2
      simp only at hf
      rw [hf] at e'; cases e'
  · simp only at hf
    have := h.cn j hj hf
    rw [hnm, if_pos rfl]
    simp only; omega
theorem Inv.killL {F : Fo} {eB eN : Nat → Int} (h : Inv F eB eN) {j : Nat} (hj : j < F.n.length) (hf : F.n[j].f = true) (hr : F.n[j].r = 1) (he : 1 ≤ eN j) : Inv ⟨F.n.set j dead, F.b⟩ (fun i => eB i + (F.n[j].k.count (i : Int) : Int)) (fun i => eN i - if i = j then 1 else 0) := by
  have hx := List.getElem_mem hj
  have h1 := h.cn j hj hf
  have h2 := nmS_nonneg F.n false (j : Int)
  have hd : ∀ leaf a, nm leaf a dead = 0 := fun leaf a => nm_oth (Or.inl rfl)
  refine h.upd hj dead _ _ ⟨by simp [dead], by simp [dead]⟩ (fun _ => ⟨rfl, rfl⟩) (fun e => absurd rfl e) (fun e => by cases e) (fun _ k hk => by simp [dead] at hk) (fun _ => Or.inr (by omega)) (fun i _ => ?_) (fun i _ hij => ?_) (fun e => by cases e)
  · rw [hd, nm_live (by omega) hf]; omega
  · rw [hd, nm_oth (Or.inr (by rw [hf]; simp)), if_neg hij]; omega
theorem Inv.killR {F : Fo} {eB eN : Nat → Int} (h : Inv F eB eN) {j : Nat} (hj : j < F.n.length) (hf : F.n[j].f = false) (hr : F.n[j].r ≠ 0) : Inv ⟨F.n.set j dead, F.b⟩ eB (fun i => eN i + (F.n[j].k.count (i : Int) : Int)) := by
  have hd : ∀ leaf a, nm leaf a dead = 0 := fun leaf a => nm_oth (Or.inl rfl)
  refine h.upd hj dead _ _ ⟨by simp [dead], by simp [dead]⟩ (fun _ => ⟨rfl, rfl⟩) (fun e => absurd rfl e) (fun e => by cases e) (fun _ k hk => by simp [dead] at hk) (fun e => by rw [hf] at e; cases e) (fun i _ => ?_) (fun i _ hij => ?_) (fun e => by cases e)
  · rw [hd, nm_oth (Or.inr (by rw [hf]; simp))]; omega
  · rw [hd, nm_live hr hf]; omega
theorem lessL_at {F : Fo} {j : Nat} (hj : j < F.n.length) : lessL F j = if 1 < F.n[j].r then ⟨F.n.set j ⟨F.n[j].r - 1, F.n[j].f, F.n[j].k⟩, F.b⟩ else ⟨F.n.set j dead, F.n[j].k.foldl dropB F.b⟩ := by unfold lessL; rw [getE hj]
theorem lessR_at {F : Fo} {j : Nat} (hj : j < F.n.length) : lessR F j = if 1 < F.n[j].r then ⟨F.n.set j ⟨F.n[j].r - 1, F.n[j].f, F.n[j].k⟩, F.b⟩ else F.n[j].k.foldl lessK ⟨F.n.set j dead, F.b⟩ := by unfold lessR; rw [getE hj]
theorem Inv.lessL {F : Fo} {eB eN : Nat → Int} (h : Inv F eB eN) (h0 : ∀ i, 0 ≤ eB i) {j : Nat} (hj : j < F.n.length) (hf : F.n[j].f = true) (he : 1 ≤ eN j) : Inv (lessL F j) eB (fun i => eN i - if i = j then 1 else 0) := by
  have hx := List.getElem_mem hj
  have h1 := h.nr _ hx
  have h2 := h.live hx hf
  rw [lessL_at hj]
  by_cases hr : 1 < F.n[j].r
  · rw [if_pos hr]
    refine (h.refs hj (-1) h2 (by omega) (by omega)).eq (fun _ _ => rfl) (fun i _ => ?_)
    by_cases e : i = j
    · rw [if_pos e, if_pos e]; omega
    · rw [if_neg e, if_neg e]; omega
  · rw [if_neg hr]
    have hk := h.killL hj hf (by omega) he
    refine (Inv.drops F.n[j].k _ _ hk (fun k hk => h.kl _ hx hf k hk) (fun i => by have := h0 i; omega)).eq (fun i _ => by omega) (fun _ _ => Int.le_refl _)
theorem lessL_len (F : Fo) (j : Nat) : (lessL F j).n.length = F.n.length := by
  unfold lessL; split
  · split <;> simp
  · rfl
theorem dropB_fold_len : ∀ (ks : List Int) (B : List Bk), (ks.foldl dropB B).length = B.length
  | [], B => rfl
  | k :: ks, B => by rw [List.foldl_cons, dropB_fold_len ks, dropB_len]
/-- Another leaf stays one. -/
theorem lessL_flag {F : Fo} {j i : Nat} (hi : i < F.n.length) (hij : i ≠ j ∨ 1 < F.n[i].r) (hi' : i < (V.lessL F j).n.length) : (V.lessL F j).n[i].f = F.n[i].f := by
  by_cases hj : j < F.n.length
  · have e : (V.lessL F j).n = F.n.set j (if 1 < F.n[j].r then ⟨F.n[j].r - 1, F.n[j].f, F.n[j].k⟩ else dead) := by
      rw [lessL_at hj]; split <;> rfl
    have : (V.lessL F j).n[i]? = (F.n.set j (if 1 < F.n[j].r then ⟨F.n[j].r - 1, F.n[j].f, F.n[j].k⟩ else dead))[i]? := by rw [e]
    rw [getE hi', List.getElem?_set] at this
    by_cases hji : j = i
    · subst hji
      rw [if_pos rfl, if_pos hj] at this
      have hr := hij.resolve_left (fun e => e rfl)
      rw [if_pos hr] at this
      rw [Option.some.inj this]
    · rw [if_neg hji, getE hi] at this
      rw [Option.some.inj this]
  · have : V.lessL F j = F := by unfold V.lessL; rw [List.getElem?_eq_none (by omega)]
    simp only [this]
theorem Inv.lessKs {eB : Nat → Int} (h0 : ∀ i, 0 ≤ eB i) : ∀ (ks : List Int) (F : Fo) (eN : Nat → Int), Inv F eB eN → (∀ k ∈ ks, k = -1 ∨ ∃ (i : Nat) (hi : i < F.n.length), k = (i : Int) ∧ F.n[i].f = true) → (∀ i : Nat, (ks.count (i : Int) : Int) ≤ eN i) → Inv (ks.foldl lessK F) eB (fun i => eN i - (ks.count (i : Int) : Int))
  | [], F, eN, h, _, _ => h.eq (fun _ _ => rfl) (fun i _ => by simp)
  | k :: ks, F, eN, h, hk, hc => by
    rw [List.foldl_cons]
    rcases hk k (by simp) with rfl | ⟨j, hj, rfl, hf⟩
    · have : lessK F (-1) = F := rfl
      rw [this]
      refine (Inv.lessKs h0 ks F eN h (fun k' hk' => hk k' (by simp [hk'])) (fun i => ?_)).eq (fun _ _ => rfl) (fun i _ => ?_)
      · have := hc i
        rw [count_kI] at this
        unfold kI at this
        rw [if_neg (by omega)] at this
        omega
      · rw [count_kI]; unfold kI; rw [if_neg (by omega)]; omega
    · have e : lessK F (j : Int) = V.lessL F j := by unfold lessK; rw [if_neg (by omega), Int.toNat_natCast]
      rw [e]
      have hcj := hc j
      rw [count_kI] at hcj
      unfold kI at hcj
      rw [if_pos rfl] at hcj
      have h1 := h.lessL h0 hj hf (by omega)
      have hcn := h.cn j hj hf
      have hnn := nmS_nonneg F.n false (j : Int)
      refine (Inv.lessKs h0 ks _ _ h1 (fun k' hk' => ?_) (fun i => ?_)).eq (fun _ _ => rfl) (fun i _ => ?_)
      · rcases hk k' (by simp [hk']) with e1 | ⟨i, hi, e1, hf'⟩
        · exact Or.inl e1
        · refine Or.inr ⟨i, by rw [lessL_len]; exact hi, e1, ?_⟩
          rw [lessL_flag hi]
          · exact hf'
          · by_cases hij : i = j
            · subst hij
              have := List.count_pos_iff.2 hk'
              rw [e1] at this
              exact Or.inr (by omega)
            · exact Or.inl hij
      · have := hc i
        rw [count_kI] at this
        unfold kI at this
        by_cases e : i = j
        · rw [if_pos e]; rw [if_pos (by rw [e])] at this; omega
        · rw [if_neg e]; rw [if_neg (by omega)] at this; omega
      · rw [count_kI]
        unfold kI
        by_cases e : i = j
        · rw [if_pos e, if_pos (by rw [e])]; omega
        · rw [if_neg e, if_neg (by omega)]; omega
theorem Inv.lessR {F : Fo} {eB eN : Nat → Int} (h : Inv F eB eN) (h0 : ∀ i, 0 ≤ eB i) (h0' : ∀ i, 0 ≤ eN i) {j : Nat} (hj : j < F.n.length) (hf : F.n[j].f = false) (hr : F.n[j].r ≠ 0) : Inv (lessR F j) eB eN := by
  have hx := List.getElem_mem hj
  have h1 := h.nr _ hx
  rw [lessR_at hj]
  by_cases hr1 : 1 < F.n[j].r
  · rw [if_pos hr1]
    have h2 := h.refs hj (-1) hr (by omega) (by omega)
    refine ⟨h2.n60, h2.b24, h2.bd, h2.nr, h2.n0, h2.n4, h2.kl, h2.kr, h2.cb, fun i hi hfi => ?_⟩
    have h3 := h2.cn i hi hfi
    by_cases e : i = j
    · subst e
      simp only [List.getElem_set, if_true] at hfi
      rw [hf] at hfi; cases hfi
    · rw [if_neg e] at h3
      simp only [Int.add_zero] at h3
      exact h3
  · rw [if_neg hr1]
    have h2 := h.killR hj hf hr
    refine (Inv.lessKs h0 F.n[j].k _ _ h2 (fun k hk => ?_) (fun i => by have := h0' i; omega)).eq (fun _ _ => rfl) (fun i _ => by omega)
    rcases h.kr _ hx hf k hk with e | ⟨i, hi, e, hf'⟩
    · exact Or.inl e
    · refine Or.inr ⟨i, by simpa using hi, e, ?_⟩
      simp only [List.getElem_set]
      rw [if_neg (fun e2 => by subst e2; rw [hf] at hf'; cases hf')]
      exact hf'
end Go.Proofs.Ytmcljallamhccaa.V
