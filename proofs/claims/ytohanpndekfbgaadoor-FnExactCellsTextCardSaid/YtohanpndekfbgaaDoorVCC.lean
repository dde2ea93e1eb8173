/- What is wrong with a forest? The program's answer. -/
import Derived.Test.YtohanpndekfbgaaDoorVCB
namespace Go.Proofs.YtohanpndekfbgaaDoor.V
open Go
set_option linter.unusedVariables false
set_option linter.unusedSimpArgs false
set_option maxRecDepth 100000
theorem PF.rdN {H : Hp} {q o an nn ab nb F} (h : PF H q o an nn ab nb F) : V.rdN H ⟨q, o, none⟩ 2 = some [.slice an nn (sg an 3), .slice ab nb (sg ab 2)] := rdN2 h.n h.b
theorem any_kid {F : Fo} {leaf : Bool} {l : List Int} (h : l.all (kidB F leaf) = true) : l.any (fun k => decide (0 ≤ k)) = l.any fun k => k != -1 := by
  rw [List.all_eq_true] at h
  apply Bool.eq_iff_iff.2
  rw [List.any_eq_true, List.any_eq_true]
  constructor
  · rintro ⟨k, hk, h1⟩
    have : 0 ≤ k := by simpa using h1
    exact ⟨k, hk, by simp; omega⟩
  · rintro ⟨k, hk, h1⟩
    refine ⟨k, hk, ?_⟩
    have h2 := h k hk
    have h3 : k ≠ -1 := by simpa using h1
    by_cases h0 : 0 ≤ k
    · simp [h0]
    · simp only [kidB, decide_eq_false h3, decide_eq_false h0, Bool.false_or, Bool.false_and, Bool.false_eq_true] at h2
theorem any_not (l : List Int) (f : Int → Bool) : l.any (fun k => !f k) = !l.all f := by
  induction l with
  | nil => rfl
  | cons x r ih => simp only [List.any_cons, List.all_cons, ih, Bool.not_and]
end Go.Proofs.YtohanpndekfbgaaDoor.V
