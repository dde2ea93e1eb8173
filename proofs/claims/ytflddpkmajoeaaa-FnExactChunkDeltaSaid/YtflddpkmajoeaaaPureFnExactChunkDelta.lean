/- The law of ChunkDelta answers true at every argument: the program's answer is the reference's, it is new memory, and the words stay. No condition beside the statement's own bounds. -/
import Derived.Test.YtflddpkmajoeaaaPPx11
import Derived.Test.YtflddpkmajoeaaaPIntsRes
import Derived.Test.YtflddpkmajoeaaaPChunk
namespace Go.Proofs.Ytflddpkmajoeaaa.Pure
open Go.RowKit Go.Proofs.Ytflddpkmajoeaaa.PP Go.Proofs.YtflddpkmajoeaaaW.PrintWords Go.Proofs.Ytflddpkmajoeaaa.Lem Go.Proofs.Ytflddpkmajoeaaa.DiskP
set_option linter.unusedVariables false
set_option linter.unusedSimpArgs false

theorem FnExactChunkDelta : laws_FnExactChunkDelta.Pure := by
  intro l a n hg _ _
  refine Ev.rounds (r := true) ?_
  unfold laws_FnExactChunkDelta.f
  by_cases cl : (l.length : Int) > 1048576
  · simp only [if_pos cl]
    exact ev_now rfl
  simp only [if_neg cl]
  obtain ⟨⟨r1, r2⟩, hs, hi, hr⟩ := chunk_both l a n (by omega)
  have hr2 : r2.length ≤ 1048576 := hr
  have cp := IntsP.to_ev l (by omega)
  refine ev_bind cp (ev_bind0 hs (ev_bind cp (ev_bind0 hi (ev_bind (eqInts_ev r1 r2 hr2) ?_))))
  simp only [if_true]
  refine ev_bind cp (ev_bind (IntsP.eq_ev l (by omega)) ?_)
  simp only [if_true]
  refine ev_bind (IntsP.mark_ev l 1 (by omega) (by omega) (by omega)) ?_
  simp only [if_neg (show ¬ (1 : Int) + (l.length : Int) < 0 by omega)]
  refine ev_bind (eqInts_ev r1 r2 hr2) ?_
  refine ev_succ ?_
  simp only [laws_FnExactChunkDelta.j0, Bool.not_true, Bool.false_eq_true, if_false]
  refine ev_bind (markInts_ev r1 r2 hr2) (ev_bind (heldInts_ev r1 r2.length hr2) ?_)
  simp only [if_neg (show ¬ (1 : Int) + (r2.length : Int) < 0 by omega), if_true]
  refine ev_bind cp (ev_bind0 hi (ev_bind (eqInts_ev r1 r2 hr2) ?_))
  simp only [if_true]
  refine ev_bind (heldInts_ev r1 r2.length hr2) ?_
  simp only [if_neg (show ¬ (1 : Int) + (r2.length : Int) < 0 by omega), if_true]
  exact ev_now rfl
end Go.Proofs.Ytflddpkmajoeaaa.Pure
