/- The law of RecordFault answers true at every list of words: the program's answer is the reference's, and the words stay. No condition beside the statement's own bounds. -/
import Derived.Test.YtilopcdhggmpfaaPAx4
import Derived.Test.YtilopcdhggmpfaaAInts
import Derived.Test.YtilopcdhggmpfaaARec
namespace Go.Proofs.Ytilopcdhggmpfaa.Pure
open Go.RowKit Go.Proofs.Ytilopcdhggmpfaa.PA Go.Proofs.YtilopcdhggmpfaaW.PrintWords Go.Proofs.Ytilopcdhggmpfaa.Lem
set_option linter.unusedVariables false
set_option linter.unusedSimpArgs false

theorem FnExactRecordFault : laws_FnExactRecordFault.Pure := by
  intro l ⟨h8, _⟩
  refine Ev.rounds (r := true) ?_
  have hl : l.length ≤ 35184372088832 := by omega
  unfold laws_FnExactRecordFault.f
  by_cases c : (l.length : Int) > 1048576
  · simp only [if_pos c]
    exact ev_now rfl
  · simp only [if_neg c]
    refine ev_bind (IntsA.to_ev l hl) (ev_bind (RecA.spec_ev l (by omega)) (ev_bind (IntsA.to_ev l hl) (ev_bind (RecA.impl_ev l (by omega)) ?_)))
    simp only [if_true]
    refine ev_bind (IntsA.to_ev l hl) (ev_bind (IntsA.eq_ev l (by omega)) ?_)
    exact ev_now rfl
end Go.Proofs.Ytilopcdhggmpfaa.Pure
