/- The law of BlocksFault answers true at every list of blocks: the program's answer is the reference's, and the blocks stay. No condition beside the statement's own bounds. -/
import Derived.Test.YtilopcdhggmpfaaPAx6
import Derived.Test.YtilopcdhggmpfaaABlk
namespace Go.Proofs.Ytilopcdhggmpfaa.Pure
open Go.RowKit Go.Proofs.Ytilopcdhggmpfaa.PA Go.Proofs.YtilopcdhggmpfaaW.PrintWords Go.Proofs.Ytilopcdhggmpfaa.Lem
set_option linter.unusedVariables false
set_option linter.unusedSimpArgs false

theorem FnExactBlocksFault : laws_FnExactBlocksFault.Pure := by
  intro l ⟨h8, _⟩
  refine Ev.rounds (r := true) ?_
  unfold laws_FnExactBlocksFault.f
  simp only [BlkA.sz_eq l 1048576 (by omega) (by omega) (by omega), Option.bind_some]
  by_cases c : (1048576 : Int) - l.length < 0
  · simp only [if_pos c]
    exact ev_now rfl
  · simp only [if_neg c]
    have hm : (l.map BlkA.toB).length ≤ 140737488351232 := by simp; omega
    refine ev_bind (BlkA.to_ev l (by omega)) (ev_bind (BlkA.spec_ev _ hm) (ev_bind (BlkA.to_ev l (by omega)) (ev_bind (BlkA.impl_ev _ hm) ?_)))
    simp only [if_true]
    refine ev_bind (BlkA.to_ev l (by omega)) (ev_bind (BlkA.eq_ev _ hm) ?_)
    exact ev_now rfl
end Go.Proofs.Ytilopcdhggmpfaa.Pure
