/- The block of a place of a tree. -/
import Derived.Test.YtohanpndekfbgaaDoorVCD
namespace Go.Proofs.YtohanpndekfbgaaDoor.V
open Go
set_option linter.unusedVariables false
set_option linter.unusedSimpArgs false
set_option maxRecDepth 100000
/-- A forest without a fault. -/
structure Good (F : Fo) : Prop where
  b : fB F.b = 0
  l : F.n.length ≤ 60
  n : ∀ x ∈ F.n, nodeF F x = 0
theorem good_of {F : Fo} (h : fF F = 0) : Good F := by
  unfold fF at h
  by_cases h1 : fB F.b = 0
  · rw [if_pos h1] at h
    by_cases h2 : 60 < F.n.length
    · rw [if_pos h2] at h; omega
    · rw [if_neg h2] at h
      by_cases h3 : ff (F.n.map (nodeF F)) = 0
      · exact ⟨h1, by omega, fun x hx => ff_zero h3 _ (List.mem_map_of_mem hx)⟩
      · rw [if_neg h3] at h; exact absurd h h3
  · rw [if_neg h1] at h; exact absurd h h1
theorem ask_zero {F : Fo} {root : Int} {fine : Bool} (h : askF F root fine = 0) : Good F ∧ rootB F root = true ∧ fine = true ∧ fF F = 0 := by
  unfold askF at h
  by_cases h0 : fF F = 0
  · rw [if_pos h0] at h
    cases hr : rootB F root <;> cases hf : fine <;> simp_all
    exact good_of h0
  · rw [if_neg h0] at h; exact absurd h h0
theorem Good.k {F : Fo} (g : Good F) {j : Nat} (hj : j < F.n.length) (hr : 0 < F.n[j].r) : F.n[j].k.length = 4 ∧ ∀ k ∈ F.n[j].k, kidB F F.n[j].f k = true := by
  have := nodeF_four (g.n _ (List.getElem_mem hj)) (by omega)
  exact ⟨this.1, List.all_eq_true.1 this.2⟩
/-- A root, or -1; a leaf, or -1; a block, or -1. -/
theorem root_at {F : Fo} {k : Int} (h : rootB F k = true) : k = -1 ∨ ∃ (j : Nat) (hj : j < F.n.length), k = (j : Int) ∧ 0 < F.n[j].r ∧ F.n[j].f = false := by
  by_cases h0 : k = -1
  · exact Or.inl h0
  · by_cases hk : 0 ≤ k ∧ k ≤ (F.n.length : Int) - 1
    · obtain ⟨j, rfl⟩ : ∃ j : Nat, k = j := ⟨k.toNat, by omega⟩
      have hj : j < F.n.length := by omega
      rw [rootB_n hj] at h
      simp only [Bool.and_eq_true, decide_eq_true_eq, Bool.not_eq_true'] at h
      exact Or.inr ⟨j, hj, rfl, h.1, h.2⟩
    · rw [rootB_o h0 hk] at h; cases h
theorem leaf_at {F : Fo} {k : Int} (h : kidB F false k = true) : k = -1 ∨ ∃ (j : Nat) (hj : j < F.n.length), k = (j : Int) ∧ 0 < F.n[j].r ∧ F.n[j].f = true := by
  by_cases h0 : k = -1
  · exact Or.inl h0
  · by_cases hk : 0 ≤ k ∧ k ≤ (F.n.length : Int) - 1
    · obtain ⟨j, rfl⟩ : ∃ j : Nat, k = j := ⟨k.toNat, by omega⟩
      have hj : j < F.n.length := by omega
      rw [kidB_n hj] at h
      simp only [Bool.and_eq_true, decide_eq_true_eq] at h
      exact Or.inr ⟨j, hj, rfl, h.1, h.2⟩
    · rw [kidB_no h0 hk] at h; cases h
theorem blk_at {F : Fo} {k : Int} (h : kidB F true k = true) : k = -1 ∨ ∃ (j : Nat) (hj : j < F.b.length), k = (j : Int) ∧ 0 < F.b[j].r := by
  by_cases h0 : k = -1
  · exact Or.inl h0
  · by_cases hk : 0 ≤ k ∧ k ≤ (F.b.length : Int) - 1
    · obtain ⟨j, rfl⟩ : ∃ j : Nat, k = j := ⟨k.toNat, by omega⟩
      have hj : j < F.b.length := by omega
      rw [kidB_b hj] at h
      exact Or.inr ⟨j, hj, rfl, by simpa using h⟩
    · rw [kidB_bo h0 hk] at h; cases h
def kidOf (F : Fo) (n : Int) (i : Nat) : Int := if n = -1 then -1 else ((F.n[n.toNat]?).bind fun x => x.k[i]?).getD (-1)
theorem kidOf_m (F : Fo) (i : Nat) : kidOf F (-1) i = -1 := rfl
theorem kidOf_n {F : Fo} {j i : Nat} (hj : j < F.n.length) (hi : i < F.n[j].k.length) : kidOf F (j : Int) i = F.n[j].k[i] := by
  have h1 : ¬ (j : Int) = -1 := by omega
  simp only [kidOf, if_neg h1, Int.toNat_natCast, getE hj, Option.bind_some, getE hi, Option.getD_some]
def blkOf (F : Fo) (root : Int) (p : Nat) : Int := kidOf F (kidOf F root (p / 4)) (p % 4)
/-- May a place of a node be asked for? -/
def Has (F : Fo) (n : Int) (i : Nat) : Prop := n = -1 ∨ ∃ (j : Nat) (hj : j < F.n.length), n = (j : Int) ∧ i < F.n[j].k.length
theorem has_root {F : Fo} (g : Good F) {root : Int} (h : rootB F root = true) {i : Nat} (hi : i < 4) : Has F root i ∧ kidB F false (kidOf F root i) = true := by
  rcases root_at h with rfl | ⟨j, hj, rfl, hr, hf⟩
  · exact ⟨Or.inl rfl, by rw [kidOf_m]; exact kidB_m _ _⟩
  · obtain ⟨h4, hk⟩ := g.k hj hr
    have hi4 : i < F.n[j].k.length := by omega
    refine ⟨Or.inr ⟨j, hj, rfl, hi4⟩, ?_⟩
    rw [kidOf_n hj hi4, ← hf]
    exact hk _ (List.getElem_mem hi4)
theorem has_leaf {F : Fo} (g : Good F) {k : Int} (h : kidB F false k = true) {i : Nat} (hi : i < 4) : Has F k i ∧ kidB F true (kidOf F k i) = true := by
  rcases leaf_at h with rfl | ⟨j, hj, rfl, hr, hf⟩
  · exact ⟨Or.inl rfl, by rw [kidOf_m]; exact kidB_m _ _⟩
  · obtain ⟨h4, hk⟩ := g.k hj hr
    have hi4 : i < F.n[j].k.length := by omega
    refine ⟨Or.inr ⟨j, hj, rfl, hi4⟩, ?_⟩
    rw [kidOf_n hj hi4]
    have := hk _ (List.getElem_mem hi4)
    rw [hf] at this; exact this
theorem blkOf_ok {F : Fo} (g : Good F) {root : Int} (h : rootB F root = true) {p : Nat} (hp : p ≤ 15) : kidB F true (blkOf F root p) = true := (has_leaf g (has_root g h (by omega : p / 4 < 4)).2 (by omega)).2
theorem quo4 {p : Nat} (hp : p ≤ 15) : IntKind.i64.wrap ((p : Int).tdiv 4) = ((p / 4 : Nat) : Int) := by
  have : (p : Int).tdiv 4 = ((p / 4 : Nat) : Int) := rfl
  rw [this, wr (by omega) (by omega)]
theorem rem4 (p : Nat) : (p : Int).tmod 4 = ((p % 4 : Nat) : Int) := rfl
end Go.Proofs.YtohanpndekfbgaaDoor.V
