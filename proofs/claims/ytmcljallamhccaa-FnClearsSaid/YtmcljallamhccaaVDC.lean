/- What counts in a right forest: how often each block and each leaf is named, plain law. -/
import Derived.Test.YtmcljallamhccaaVCE
namespace Go.Proofs.Ytmcljallamhccaa.V
open Go
set_option linter.unusedVariables false
set_option linter.unusedSimpArgs false
set_option maxRecDepth 100000
theorem nm_nonneg (leaf : Bool) (a : Int) (x : Nd) : 0 ≤ nm leaf a x := by unfold nm; split <;> omega
theorem nmS_nonneg (l : List Nd) (leaf : Bool) (a : Int) : 0 ≤ nmS l leaf a := by
  unfold nmS
  induction l with
  | nil => simp
  | cons x r ih => simp only [List.map_cons, List.sum_cons]; have := nm_nonneg leaf a x; omega
theorem nmS_cons (x : Nd) (l : List Nd) (leaf : Bool) (a : Int) : nmS (x :: l) leaf a = nm leaf a x + nmS l leaf a := by simp [nmS]
theorem nmS_app (l : List Nd) (y : Nd) (leaf : Bool) (a : Int) : nmS (l ++ [y]) leaf a = nmS l leaf a + nm leaf a y := by simp [nmS]
theorem nmS_set : ∀ (l : List Nd) (j : Nat) (hj : j < l.length) (y : Nd) (leaf : Bool) (a : Int), nmS (l.set j y) leaf a = nmS l leaf a - nm leaf a l[j] + nm leaf a y
  | x :: r, 0, _, y, leaf, a => by simp only [List.set_cons_zero, nmS_cons, List.getElem_cons_zero]; omega
  | x :: r, j + 1, hj, y, leaf, a => by
    have := nmS_set r j (by simpa using hj) y leaf a
    simp only [List.set_cons_succ, nmS_cons, List.getElem_cons_succ, this]; omega
theorem nm_le_nmS {l : List Nd} {x : Nd} (hx : x ∈ l) (leaf : Bool) (a : Int) : nm leaf a x ≤ nmS l leaf a := by
  induction l with
  | nil => simp at hx
  | cons y r ih =>
    rw [nmS_cons]
    have h1 := nm_nonneg leaf a y
    have h2 := nmS_nonneg r leaf a
    rcases List.mem_cons.1 hx with e | e
    · rw [e]; omega
    · have := ih e; omega
theorem nm_live {leaf : Bool} {a : Int} {x : Nd} (hr : x.r ≠ 0) (hf : x.f = leaf) : nm leaf a x = (x.k.count a : Int) := by unfold nm; rw [if_neg (fun h => h.elim hr (fun e => e hf))]
theorem nm_oth {leaf : Bool} {a : Int} {x : Nd} (h : x.r = 0 ∨ x.f ≠ leaf) : nm leaf a x = 0 := by unfold nm; rw [if_pos h]
/-- Nobody names it: it stands in no node's kids. -/
theorem not_named {l : List Nd} {leaf : Bool} {a : Int} (h : nmS l leaf a = 0) {x : Nd} (hx : x ∈ l) (hr : x.r ≠ 0) (hf : x.f = leaf) : a ∉ x.k := by
  have h1 := nm_le_nmS hx leaf a
  rw [nm_live hr hf] at h1
  intro hm
  have := List.count_pos_iff.2 hm
  omega
def kI (k : Int) (i : Nat) : Int := if k = (i : Int) then 1 else 0
/-- What a forest holds to; eB, eN: by how much more the counts of blocks and of leaves are than what names them. -/
structure Inv (F : Fo) (eB eN : Nat → Int) : Prop where
  n60 : F.n.length ≤ 60
  b24 : F.b.length ≤ 24
  bd : ∀ b ∈ F.b, (0 ≤ b.r ∧ b.r ≤ 200) ∧ (0 ≤ b.d ∧ b.d ≤ 255) ∧ (b.r = 0 → b.d = 0)
  nr : ∀ x ∈ F.n, 0 ≤ x.r ∧ x.r ≤ 200
  n0 : ∀ x ∈ F.n, x.r = 0 → x.f = false ∧ x.k = []
  n4 : ∀ x ∈ F.n, x.r ≠ 0 → x.k.length = 4 ∧ ∃ k ∈ x.k, 0 ≤ k
  kl : ∀ x ∈ F.n, x.f = true → ∀ k ∈ x.k, k = -1 ∨ (0 ≤ k ∧ k < (F.b.length : Int))
  kr : ∀ x ∈ F.n, x.f = false → ∀ k ∈ x.k, k = -1 ∨ ∃ (i : Nat) (hi : i < F.n.length), k = (i : Int) ∧ F.n[i].f = true
  cb : ∀ i (hi : i < F.b.length), F.b[i].r = nmS F.n true (i : Int) + eB i
  cn : ∀ j (hj : j < F.n.length), F.n[j].f = true → nmS F.n false (j : Int) + eN j ≤ F.n[j].r
theorem Inv.eq {F : Fo} {eB eN eB' eN' : Nat → Int} (h : Inv F eB eN) (hb : ∀ i, i < F.b.length → eB' i = eB i) (hn : ∀ j, j < F.n.length → eN' j ≤ eN j) : Inv F eB' eN' :=
  { h with
    cb := fun i hi => by rw [hb i hi]; exact h.cb i hi
    cn := fun j hj hf => by have := h.cn j hj hf; have := hn j hj; omega }
theorem Inv.live {F : Fo} {eB eN : Nat → Int} (h : Inv F eB eN) {x : Nd} (hx : x ∈ F.n) (hf : x.f = true) : x.r ≠ 0 := fun e => by
  have := (h.n0 x hx e).1
  rw [hf] at this; cases this
/-- A node in another one's place. -/
theorem Inv.upd {F : Fo} {eB eN : Nat → Int} (h : Inv F eB eN) {j : Nat} (hj : j < F.n.length) (y : Nd) (eB' eN' : Nat → Int)
    (ynr : 0 ≤ y.r ∧ y.r ≤ 200) (yn0 : y.r = 0 → y.f = false ∧ y.k = []) (yn4 : y.r ≠ 0 → y.k.length = 4 ∧ ∃ k ∈ y.k, 0 ≤ k)
    (ykl : y.f = true → ∀ k ∈ y.k, k = -1 ∨ (0 ≤ k ∧ k < (F.b.length : Int)))
    (ykr : y.f = false → ∀ k ∈ y.k, k = -1 ∨ ∃ (i : Nat) (hi : i < F.n.length), k = (i : Int) ∧ i ≠ j ∧ F.n[i].f = true)
    (flag : F.n[j].f = true → y.f = true ∨ nmS F.n false (j : Int) = 0)
    (cb : ∀ i, i < F.b.length → eB' i = eB i + nm true (i : Int) F.n[j] - nm true (i : Int) y)
    (cn : ∀ i, i < F.n.length → i ≠ j → eN' i ≤ eN i + nm false (i : Int) F.n[j] - nm false (i : Int) y)
    (cnj : y.f = true → nmS F.n false (j : Int) - nm false (j : Int) F.n[j] + nm false (j : Int) y + eN' j ≤ y.r) : Inv ⟨F.n.set j y, F.b⟩ eB' eN' := by
  have hm : ∀ x, x ∈ F.n.set j y → x ∈ F.n ∨ x = y := fun x hx => List.mem_or_eq_of_mem_set hx
  have hl : (F.n.set j y).length = F.n.length := List.length_set
  refine ⟨by simpa using h.n60, h.b24, h.bd, fun x hx => ?_, fun x hx => ?_, fun x hx => ?_, fun x hx => ?_, fun x hx hf k hk => ?_, fun i hi => ?_, fun i hi hf => ?_⟩
  · rcases hm x hx with e | e
    · exact h.nr x e
    · rw [e]; exact ynr
  · rcases hm x hx with e | e
    · exact h.n0 x e
    · rw [e]; exact yn0
  · rcases hm x hx with e | e
    · exact h.n4 x e
    · rw [e]; exact yn4
  · rcases hm x hx with e | e
    · exact h.kl x e
    · rw [e]; exact ykl
  · rcases hm x hx with e | e
    · rcases h.kr x e hf k hk with h1 | ⟨i, hi, h1, h2⟩
      · exact Or.inl h1
      · refine Or.inr ⟨i, by simpa using hi, h1, ?_⟩
        simp only [List.getElem_set]
        by_cases hij : j = i
        · rw [if_pos hij]
          subst hij
          rcases flag h2 with g | g
          · exact g
          · have hr : x.r ≠ 0 := fun e0 => by rw [(h.n0 x e e0).2] at hk; simp at hk
            exact absurd (h1 ▸ hk) (not_named g e hr hf)
        · rw [if_neg hij]; exact h2
    · rw [e] at hf hk
      rcases ykr hf k hk with h1 | ⟨i, hi, h1, h2, h3⟩
      · exact Or.inl h1
      · refine Or.inr ⟨i, by simpa using hi, h1, ?_⟩
        simp only [List.getElem_set]
        rw [if_neg (fun e => h2 e.symm)]; exact h3
  · have h1 := h.cb i hi
    have h2 := cb i hi
    rw [nmS_set _ _ hj]
    simp only at h1 ⊢
    omega
  · simp only [List.getElem_set] at hf ⊢
    rw [nmS_set _ _ hj]
    by_cases hij : j = i
    · subst hij
      rw [if_pos rfl] at hf ⊢
      exact cnj hf
    · rw [if_neg hij] at hf ⊢
      have h1 := h.cn i (by simpa using hi) hf
      have h2 := cn i (by simpa using hi) (fun e => hij e.symm)
      omega
/-- A node behind all others. -/
theorem Inv.add {F : Fo} {eB eN : Nat → Int} (h : Inv F eB eN) (y : Nd) (eB' eN' : Nat → Int) (hl60 : F.n.length < 60)
    (ynr : 0 ≤ y.r ∧ y.r ≤ 200) (yr0 : y.r ≠ 0) (yn4 : y.k.length = 4 ∧ ∃ k ∈ y.k, 0 ≤ k)
    (ykl : y.f = true → ∀ k ∈ y.k, k = -1 ∨ (0 ≤ k ∧ k < (F.b.length : Int)))
    (ykr : y.f = false → ∀ k ∈ y.k, k = -1 ∨ ∃ (i : Nat) (hi : i < F.n.length), k = (i : Int) ∧ F.n[i].f = true)
    (cb : ∀ i, i < F.b.length → eB' i = eB i - nm true (i : Int) y)
    (cn : ∀ i, i < F.n.length → eN' i ≤ eN i - nm false (i : Int) y)
    (cnj : y.f = true → eN' F.n.length ≤ y.r) : Inv ⟨F.n ++ [y], F.b⟩ eB' eN' := by
  have hm : ∀ x, x ∈ F.n ++ [y] → x ∈ F.n ∨ x = y := fun x hx => by simpa using hx
  have hget : ∀ i (hi : i < F.n.length) (hi' : i < (F.n ++ [y]).length), (F.n ++ [y])[i] = F.n[i] := fun i hi hi' => List.getElem_append_left hi
  refine ⟨by simp; omega, h.b24, h.bd, fun x hx => ?_, fun x hx => ?_, fun x hx => ?_, fun x hx => ?_, fun x hx hf k hk => ?_, fun i hi => ?_, fun i hi hf => ?_⟩
  · rcases hm x hx with e | e
    · exact h.nr x e
    · rw [e]; exact ynr
  · rcases hm x hx with e | e
    · exact h.n0 x e
    · rw [e]; exact fun e0 => absurd e0 yr0
  · rcases hm x hx with e | e
    · exact h.n4 x e
    · rw [e]; exact fun _ => yn4
  · rcases hm x hx with e | e
    · exact h.kl x e
    · rw [e]; exact ykl
  · have key : (k = -1 ∨ ∃ (i : Nat) (hi : i < F.n.length), k = (i : Int) ∧ F.n[i].f = true) → k = -1 ∨ ∃ (i : Nat) (hi : i < (F.n ++ [y]).length), k = (i : Int) ∧ (F.n ++ [y])[i].f = true := by
      rintro (h1 | ⟨i, hi, h1, h2⟩)
      · exact Or.inl h1
      · exact Or.inr ⟨i, by simp; omega, h1, by rw [hget i hi]; exact h2⟩
    rcases hm x hx with e | e
    · exact key (h.kr x e hf k hk)
    · rw [e] at hf hk; exact key (ykr hf k hk)
  · have h1 := h.cb i hi
    have h2 := cb i hi
    rw [nmS_app]
    simp only at h1 ⊢
    omega
  · rw [nmS_app]
    simp only at hi hf ⊢
    by_cases hil : i < F.n.length
    · rw [hget i hil hi] at hf ⊢
      have h1 := h.cn i hil hf
      have h2 := cn i hil
      omega
    · have hie : i = F.n.length := by simp at hi; omega
      subst hie
      have hy : (F.n ++ [y])[F.n.length] = y := by simp
      rw [hy] at hf ⊢
      have h3 : nmS F.n false ((F.n.length : Nat) : Int) = 0 := by
        have key : ∀ l : List Nd, (∀ x ∈ l, nm false ((F.n.length : Nat) : Int) x = 0) → nmS l false ((F.n.length : Nat) : Int) = 0 := by
          intro l
          induction l with
          | nil => intro _; simp [nmS]
          | cons x r ih => intro hx; rw [nmS_cons, hx x (by simp), ih fun z hz => hx z (by simp [hz])]; rfl
        refine key _ fun x hx => ?_
        by_cases hr : x.r = 0
        · exact nm_oth (Or.inl hr)
        · by_cases hxf : x.f = false
          · rw [nm_live hr hxf]
            have : ((F.n.length : Nat) : Int) ∉ x.k := fun hk => by
              rcases h.kr x hx hxf _ hk with e | ⟨i, hi, e, _⟩
              · omega
              · omega
            rw [List.count_eq_zero.2 this]; rfl
          · exact nm_oth (Or.inr hxf)
      have h4 : nm false ((F.n.length : Nat) : Int) y = 0 := nm_oth (Or.inr (by rw [hf]; simp))
      have := cnj hf
      omega
/-- A block in another one's place. -/
theorem Inv.blk {F : Fo} {eB eN : Nat → Int} (h : Inv F eB eN) {j : Nat} (hj : j < F.b.length) (y : Bk) (eB' : Nat → Int) (hy : (0 ≤ y.r ∧ y.r ≤ 200) ∧ (0 ≤ y.d ∧ y.d ≤ 255) ∧ (y.r = 0 → y.d = 0))
    (cb : ∀ i, i ≠ j → eB' i = eB i) (cbj : y.r - F.b[j].r = eB' j - eB j) : Inv ⟨F.n, F.b.set j y⟩ eB' eN := by
  refine ⟨h.n60, by simpa using h.b24, fun b hb => ?_, h.nr, h.n0, h.n4, fun x hx hf k hk => by simpa using h.kl x hx hf k hk, h.kr, fun i hi => ?_, h.cn⟩
  · rcases List.mem_or_eq_of_mem_set hb with e | e
    · exact h.bd b e
    · rw [e]; exact hy
  · simp only [List.getElem_set]
    have h1 := h.cb i (by simpa using hi)
    by_cases hij : j = i
    · subst hij
      rw [if_pos rfl]; omega
    · rw [if_neg hij, cb i (fun e => hij e.symm)]; exact h1
end Go.Proofs.Ytmcljallamhccaa.V
