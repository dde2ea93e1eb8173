-- Laid by a program of this session's (wip/xprint.py) over the kit's print. Nothing in it is trusted: Lean checks it.
import Derived.Test.YtflddpkmajoeaaaPPx0
import Derived.Test.YtflddpkmajoeaaaPPx174
import Derived.Test.YtflddpkmajoeaaaPPx175
namespace Go.Proofs.Ytflddpkmajoeaaa.PP
open Go.RowKit Go.Proofs.YtflddpkmajoeaaaW.PrintWords Go.Proofs.YtflddpkmajoeaaaW.PrintLast Go.Proofs.YtflddpkmajoeaaaW.PrintMore
attribute [local go_sem] max2_int min2_int max_two min_two max_three min_three max_four min_four   -- for this text's walks alone
set_option linter.unusedVariables false
set_option linter.unusedSimpArgs false

def laws_FnExactDeltaFault.Pure : Prop := ∀ (x0 : S79), g79 x0 → ∃ k, laws_FnExactDeltaFault.f k (x0.f0) (x0.f1) (x0.f2) (x0.f3) = some true

end Go.Proofs.Ytflddpkmajoeaaa.PP
