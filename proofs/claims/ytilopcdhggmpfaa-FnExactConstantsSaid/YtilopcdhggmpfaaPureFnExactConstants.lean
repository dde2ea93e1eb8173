/- The constants' law answers true. No conditions. -/
import Derived.Test.YtilopcdhggmpfaaPAx1
namespace Go.Proofs.Ytilopcdhggmpfaa.Pure
open Go.RowKit Go.Proofs.Ytilopcdhggmpfaa.PA
set_option linter.unusedVariables false
set_option linter.unusedSimpArgs false

theorem FnExactConstants : laws_FnExactConstants.Pure := rfl

end Go.Proofs.Ytilopcdhggmpfaa.Pure
