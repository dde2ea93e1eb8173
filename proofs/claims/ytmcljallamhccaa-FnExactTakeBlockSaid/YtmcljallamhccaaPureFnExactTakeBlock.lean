/- The law of TakeBlock answers true at every list of blocks and every number: the program's answer is the reference's, it is new memory, and the blocks stay. No condition beside the statement's own bounds. -/
import Derived.Test.YtmcljallamhccaaPBx7
import Derived.Test.YtmcljallamhccaaBBlkOps
import Derived.Test.YtmcljallamhccaaBBlkMark
namespace Go.Proofs.Ytmcljallamhccaa.Pure
open Go.RowKit Go.Proofs.Ytmcljallamhccaa.PB Go.Proofs.YtmcljallamhccaaW.PrintWords Go.Proofs.Ytmcljallamhccaa.Lem Go.Proofs.Ytmcljallamhccaa.BlkB
set_option linter.unusedVariables false
set_option linter.unusedSimpArgs false

theorem FnExactTakeBlock : laws_FnExactTakeBlock.Pure := by
  intro l a ⟨h8, _⟩ _
  refine Ev.rounds (r := true) ?_
  unfold laws_FnExactTakeBlock.f
  simp only [sz_eq l 1048576 (by omega) (by omega) (by omega), Option.bind_some]
  by_cases c : (1048576 : Int) - l.length < 0
  · simp only [if_pos c]
    exact ev_now rfl
  · simp only [if_neg c]
    have hm : (l.map toB).length ≤ 1048576 := by simp; omega
    have hr := takeR_length (l.map toB) a hm
    have hs := take_spec (l.map toB) a hm
    have hi := take_impl (l.map toB) a hm
    generalize takeR (l.map toB) a = r at hr hs hi
    obtain ⟨r1, r2, r3⟩ := r
    have hr' : r3.length ≤ 1048576 := hr
    refine ev_bind (to_ev l (by omega)) (ev_bind hs (ev_bind (to_ev l (by omega)) (ev_bind hi (ev_bind (eqRes_ev r1 r2 r3 (by omega)) ?_))))
    simp only [if_true]
    refine ev_bind (to_ev l (by omega)) (ev_bind (eq_ev _ (by omega)) ?_)
    simp only [if_true]
    refine ev_bind (mark_ev (l.map toB) 1 (by omega) (by omega) (by omega)) ?_
    simp only [if_neg (show ¬ (1 : Int) + 2 * ((l.map toB).length : Int) < 0 by omega)]
    refine ev_bind (eqRes_ev r1 r2 r3 (by omega)) ?_
    refine ev_succ ?_
    simp only [laws_FnExactTakeBlock.j0, Bool.not_true, Bool.false_eq_true, if_false]
    refine ev_bind (markRes_ev r1 r2 r3 (by omega)) (ev_bind (heldRes_ev r1 r2 r3.length (by omega)) ?_)
    simp only [if_neg (show ¬ (1 : Int) + 2 * (r3.length : Int) < 0 by omega), if_true]
    refine ev_bind (to_ev l (by omega)) (ev_bind hi (ev_bind (eqRes_ev r1 r2 r3 (by omega)) ?_))
    simp only [if_true]
    refine ev_bind (heldRes_ev r1 r2 r3.length (by omega)) ?_
    simp only [if_neg (show ¬ (1 : Int) + 2 * (r3.length : Int) < 0 by omega), if_true]
    exact ev_now rfl
end Go.Proofs.Ytmcljallamhccaa.Pure
