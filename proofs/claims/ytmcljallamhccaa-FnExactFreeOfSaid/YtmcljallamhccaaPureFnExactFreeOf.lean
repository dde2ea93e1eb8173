/- The law of FreeOf answers true at every list of blocks: the program's answer is the reference's, and the blocks stay. No condition beside the statement's own bounds. -/
import Derived.Test.YtmcljallamhccaaPBx3
import Derived.Test.YtmcljallamhccaaPBx3
import Derived.Test.YtmcljallamhccaaBBlkOps
namespace Go.Proofs.Ytmcljallamhccaa.Pure
open Go.RowKit Go.Proofs.Ytmcljallamhccaa.PB Go.Proofs.YtmcljallamhccaaW.PrintWords Go.Proofs.Ytmcljallamhccaa.Lem Go.Proofs.Ytmcljallamhccaa.BlkB
set_option linter.unusedVariables false
set_option linter.unusedSimpArgs false

theorem FnExactFreeOf : laws_FnExactFreeOf.Pure := by
  intro l ⟨h8, _⟩
  refine Ev.rounds (r := true) ?_
  unfold laws_FnExactFreeOf.f
  simp only [sz_eq l 1048576 (by omega) (by omega) (by omega), Option.bind_some]
  by_cases c : (1048576 : Int) - l.length < 0
  · simp only [if_pos c]
    exact ev_now rfl
  · simp only [if_neg c]
    have hm : (l.map toB).length ≤ 1048576 := by simp; omega
    refine ev_bind (to_ev l (by omega)) (ev_bind (free_spec _ hm) (ev_bind (to_ev l (by omega)) (ev_bind (free_impl _ hm) ?_)))
    simp only [laws_eqIntResult.f, if_true, Option.bind_some]
    refine ev_bind (to_ev l (by omega)) (ev_bind (eq_ev _ (by omega)) ?_)
    simp only [if_true]
    exact ev_now rfl
end Go.Proofs.Ytmcljallamhccaa.Pure
