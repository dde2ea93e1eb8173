/- What is wrong with a node? Searches in lists of numbers. -/
import Derived.Test.YtohanpndekfbgaaDoorVC8
import Derived.Test.YtohanpndekfbgaaDoorVC6
namespace Go.Proofs.YtohanpndekfbgaaDoor.V
open Go
set_option linter.unusedVariables false
set_option linter.unusedSimpArgs false
set_option maxRecDepth 100000
def nodeF (F : Fo) (x : Nd) : Int := if 0 ≤ x.r ∧ x.r ≤ 200 then (if x.r = 0 then (if x.f = true ∨ 0 < x.k.length then 1 else 0) else if x.k.length = 4 then (if x.k.all (kidB F x.f) = true ∧ x.k.any (fun k => decide (0 ≤ k)) = true then 0 else 1) else 1) else 3
end Go.Proofs.YtohanpndekfbgaaDoor.V
