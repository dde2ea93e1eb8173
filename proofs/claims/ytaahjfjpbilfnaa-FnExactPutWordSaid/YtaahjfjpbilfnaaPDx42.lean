-- Laid by a program of this session's (wip/xprint.py) over the kit's print. Nothing in it is trusted: Lean checks it.
import Derived.Test.YtaahjfjpbilfnaaPDx0
import Derived.Test.YtaahjfjpbilfnaaPDx13
import Derived.Test.YtaahjfjpbilfnaaPDx41
namespace Go.Proofs.Ytaahjfjpbilfnaa.PD
open Go.RowKit Go.Proofs.YtaahjfjpbilfnaaW.PrintWords Go.Proofs.YtaahjfjpbilfnaaW.PrintLast Go.Proofs.YtaahjfjpbilfnaaW.PrintMore
attribute [local go_sem] max2_int min2_int max_two min_two max_three min_three max_four min_four   -- for this text's walks alone
set_option linter.unusedVariables false
set_option linter.unusedSimpArgs false

/-! ### what the law's arguments read as; the one plain statement -/
def laws_FnExactPutWord.Pure : Prop := ∀ (x0 : S25) (a1 : Int) (a2 : Int), g25 x0 → (Lit.int .i64 a1).wf = true → (Lit.int .i64 a2).wf = true → ∃ k, laws_FnExactPutWord.f k (x0.f0) (x0.f1) (a1) (a2) = some true

end Go.Proofs.Ytaahjfjpbilfnaa.PD
