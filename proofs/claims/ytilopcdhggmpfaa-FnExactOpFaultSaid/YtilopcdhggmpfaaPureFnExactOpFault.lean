/- The law of OpFault answers true at every operation: the program's answer is the reference's. No condition beside the statement's own bounds. -/
import Derived.Test.YtilopcdhggmpfaaPAx3
import Derived.Test.YtilopcdhggmpfaaAOpF
namespace Go.Proofs.Ytilopcdhggmpfaa.Pure
open Go.RowKit Go.Proofs.Ytilopcdhggmpfaa.PA Go.Proofs.YtilopcdhggmpfaaW.PrintWords Go.Proofs.Ytilopcdhggmpfaa.Lem
set_option linter.unusedVariables false
set_option linter.unusedSimpArgs false

theorem FnExactOpFault : laws_FnExactOpFault.Pure := by
  intro x _
  refine ⟨4, ?_⟩
  unfold laws_FnExactOpFault.f laws_toOp.f
  obtain ⟨r, h1, h2⟩ := OpFA.same x.f0 x.f1 x.f2 x.f3
  simp only [Option.bind_some, h1, h2, if_true]
end Go.Proofs.Ytilopcdhggmpfaa.Pure
