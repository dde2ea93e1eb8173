/- May a node name a place? What is wrong with a node? -/
import Derived.Test.YtohanpndekfbgaaDoorVC7
namespace Go.Proofs.YtohanpndekfbgaaDoor.V
open Go
set_option linter.unusedVariables false
set_option linter.unusedSimpArgs false
set_option maxRecDepth 100000
/-- A pointer to a forest. -/
structure PF (H : Hp) (q o : Nat) (an : Option Addr) (nn : Nat) (ab : Option Addr) (nb : Nat) (F : Fo) : Prop where
  n : rd H ⟨q, o, none⟩ = some (.slice an nn (sg an 3))
  b : rd H ⟨q, o + 1, none⟩ = some (.slice ab nb (sg ab 2))
  f : RF H an nn ab nb F
theorem PF.fn {H H' : Hp} {q o an nn ab nb F} (h : PF H q o an nn ab nb F) (hf : Fn H H') : PF H' q o an nn ab nb F := ⟨(hf.rd _ _ (rd_lt h.n) id).trans h.n, (hf.rd _ _ (rd_lt h.b) id).trans h.b, h.f.fn hf⟩
def kidB (F : Fo) (leaf : Bool) (k : Int) : Bool := decide (k = -1) || (decide (0 ≤ k) && (if leaf = true then (F.b[k.toNat]?).any (fun b => decide (0 < b.r)) else (F.n[k.toNat]?).any fun x => decide (0 < x.r) && x.f))
theorem kidB_m (F : Fo) (leaf : Bool) : kidB F leaf (-1) = true := rfl
theorem kidB_b {F : Fo} {j : Nat} (h : j < F.b.length) : kidB F true (j : Int) = decide (0 < F.b[j].r) := by
  have h1 : decide ((j : Int) = -1) = false := decide_eq_false (by omega)
  have h2 : decide (0 ≤ (j : Int)) = true := decide_eq_true (by omega)
  simp only [kidB, h1, h2, Bool.false_or, Bool.true_and, if_true, Int.toNat_natCast, getE h, Option.any_some]
theorem kidB_n {F : Fo} {j : Nat} (h : j < F.n.length) : kidB F false (j : Int) = (decide (0 < F.n[j].r) && F.n[j].f) := by
  have h1 : decide ((j : Int) = -1) = false := decide_eq_false (by omega)
  have h2 : decide (0 ≤ (j : Int)) = true := decide_eq_true (by omega)
  simp only [kidB, h1, h2, Bool.false_or, Bool.true_and, Bool.false_eq_true, if_false, Int.toNat_natCast, getE h, Option.any_some]
theorem kidB_bo {F : Fo} {k : Int} (h : k ≠ -1) (h' : ¬ (0 ≤ k ∧ k ≤ (F.b.length : Int) - 1)) : kidB F true k = false := by
  have h1 : decide (k = -1) = false := decide_eq_false h
  by_cases h0 : 0 ≤ k
  · simp only [kidB, h1, Bool.false_or, if_true]
    rw [List.getElem?_eq_none (by omega)]; simp
  · simp only [kidB, h1, decide_eq_false h0, Bool.false_or, Bool.false_and]
theorem kidB_no {F : Fo} {k : Int} (h : k ≠ -1) (h' : ¬ (0 ≤ k ∧ k ≤ (F.n.length : Int) - 1)) : kidB F false k = false := by
  have h1 : decide (k = -1) = false := decide_eq_false h
  by_cases h0 : 0 ≤ k
  · simp only [kidB, h1, Bool.false_or, Bool.false_eq_true, if_false]
    rw [List.getElem?_eq_none (by omega)]; simp
  · simp only [kidB, h1, decide_eq_false h0, Bool.false_or, Bool.false_and]
theorem Sm.w1 {n : Nat} (h : Sm n) : IntKind.i64.wrap ((n : Int) - 1) = (n : Int) - 1 := by unfold Sm at h; exact wr (by omega) (by omega)
end Go.Proofs.YtohanpndekfbgaaDoor.V
