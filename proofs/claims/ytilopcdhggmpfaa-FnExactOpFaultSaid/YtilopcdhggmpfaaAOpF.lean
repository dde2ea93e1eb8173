/- What is wrong with an operation: the program's answer and the reference's are one. -/
import Derived.Test.YtilopcdhggmpfaaPAx3
import Derived.Test.YtilopcdhggmpfaaPAx2
import Derived.Test.YtilopcdhggmpfaaASmall
namespace Go.Proofs.Ytilopcdhggmpfaa.OpFA
open Go.RowKit Go.Proofs.Ytilopcdhggmpfaa.PA Go.Proofs.YtilopcdhggmpfaaW.PrintWords Go.Proofs.Ytilopcdhggmpfaa.Lem Go.Proofs.Ytilopcdhggmpfaa.SmallA
set_option linter.unusedVariables false
set_option linter.unusedSimpArgs false

theorem same (a b c d : Int) : ∃ r, spec_OpFault.f 4 a b c d = some r ∧ impl_OpFault.f 4 a b c d = some r := by
  simp only [spec_OpFault.f, impl_OpFault.f, spec_OpFault.j0, spec_OpFault.j1, spec_OpFault.j2, impl_OpFault.j0, impl_OpFault.j1, spec_l5Id.f, spec_l4Place.f, spec_l3Data.f, impl_isQuota.f, impl_isByte.f, impl_isId.f, impl_isTreePlace.f, l1In_eq, within_eq, Option.bind_some]
  cases h : inB a 1 6
  · exact ⟨1, rfl, rfl⟩
  · have h6 : a = 1 ∨ a = 2 ∨ a = 3 ∨ a = 4 ∨ a = 5 ∨ a = 6 := by have := inB_iff.1 h; omega
    rcases h6 with rfl | rfl | rfl | rfl | rfl | rfl
    all_goals
      simp [show inB 1 2 4 = false from rfl, show inB 2 2 4 = true from rfl, show inB 3 2 4 = true from rfl, show inB 4 2 4 = true from rfl, show inB 5 2 4 = false from rfl, show inB 6 2 4 = false from rfl]
      cases inB b 1 99 <;> cases inB c 0 15 <;> cases inB d 0 255 <;> cases inB d 1 99 <;> cases inB d 1 16 <;> by_cases hc : c = 0 <;> by_cases hd : d = 0 <;> simp [hc, hd]
end Go.Proofs.Ytilopcdhggmpfaa.OpFA
