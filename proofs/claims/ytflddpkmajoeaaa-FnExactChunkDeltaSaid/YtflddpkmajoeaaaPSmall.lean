/- Whether a number lies between two others, as the program and the reference ask it. -/
import Derived.Test.YtflddpkmajoeaaaPPx4
import Derived.Test.YtflddpkmajoeaaaPPx5
import Derived.Test.YtflddpkmajoeaaaLem
namespace Go.Proofs.Ytflddpkmajoeaaa.SmallP
open Go.RowKit Go.Proofs.Ytflddpkmajoeaaa.PP Go.Proofs.YtflddpkmajoeaaaW.PrintWords Go.Proofs.Ytflddpkmajoeaaa.Lem
set_option linter.unusedVariables false
set_option linter.unusedSimpArgs false

def inB (a b c : Int) : Bool := decide (b ≤ a) && decide (a ≤ c)
theorem inB_iff {a b c : Int} : inB a b c = true ↔ b ≤ a ∧ a ≤ c := by simp [inB]
theorem inB_not {a b c : Int} : inB a b c = false ↔ a < b ∨ c < a := by simp [inB]; omega
theorem l1In_eq (a b c : Int) : spec_l1In.f a b c = some (inB a b c) := by
  unfold spec_l1In.f inB
  by_cases h : b ≤ a
  · rw [if_pos h]; simp [h]
  · rw [if_neg h]; simp [h]
theorem within_eq (a b c : Int) : impl_within.f a b c = some (inB a b c) := by
  unfold impl_within.f inB
  by_cases h : b ≤ a
  · rw [if_pos h]; simp [h]
  · rw [if_neg h]; simp [h]
end Go.Proofs.Ytflddpkmajoeaaa.SmallP
