/- The law of NewBlocks answers true at every number: the program's answer is the reference's, in new memory. No condition. -/
import Derived.Test.YtmcljallamhccaaPBx2
import Derived.Test.YtmcljallamhccaaPBx1
import Derived.Test.YtmcljallamhccaaPBx1
import Derived.Test.YtmcljallamhccaaBBlkMark
namespace Go.Proofs.Ytmcljallamhccaa.Pure
open Go.RowKit Go.Proofs.Ytmcljallamhccaa.PB Go.Proofs.YtmcljallamhccaaW.PrintWords Go.Proofs.Ytmcljallamhccaa.Lem Go.Proofs.Ytmcljallamhccaa.BlkB Go.Proofs.Ytmcljallamhccaa.SmallB
set_option linter.unusedVariables false
set_option linter.unusedSimpArgs false

theorem newBlocks_same (a : Int) : ∃ r : Int × Int × List B, r.2.2.length ≤ 1048576 ∧ spec_NewBlocks.f a = some r ∧ impl_NewBlocks.f a = some r := by
  unfold spec_NewBlocks.f impl_NewBlocks.f spec_l3Bad.f
  simp only [l1In_eq, within_eq, Option.bind_some]
  by_cases h : inB a 0 24 = true
  · have h2 := inB_iff.1 h
    simp only [if_pos h, if_pos h2.1, if_pos (show a.toNat ≤ 17592186044416 by omega)]
    exact ⟨_, by simp only [List.length_replicate]; omega, rfl, rfl⟩
  · simp only [if_neg h]
    exact ⟨_, by simp, rfl, rfl⟩
theorem FnExactNewBlocks : laws_FnExactNewBlocks.Pure := by
  intro a _
  refine Ev.rounds (r := true) ?_
  unfold laws_FnExactNewBlocks.f
  obtain ⟨⟨r1, r2, r3⟩, hr, hs, hi⟩ := newBlocks_same a
  simp only [hs, hi, Option.bind_some]
  have hr' : r3.length ≤ 1048576 := hr
  refine ev_bind (eqRes_ev r1 r2 r3 (by omega)) ?_
  simp only [if_true]
  refine ev_bind (markRes_ev r1 r2 r3 (by omega)) (ev_bind (heldRes_ev r1 r2 r3.length (by omega)) ?_)
  simp only [if_neg (show ¬ (1 : Int) + 2 * (r3.length : Int) < 0 by omega), if_true]
  refine ev_bind (eqRes_ev r1 r2 r3 (by omega)) ?_
  simp only [if_true]
  refine ev_bind (heldRes_ev r1 r2 r3.length (by omega)) ?_
  simp only [if_neg (show ¬ (1 : Int) + 2 * (r3.length : Int) < 0 by omega), if_true]
  exact ev_now rfl
end Go.Proofs.Ytmcljallamhccaa.Pure
