/- Results that hold numbers, as the laws mark, look at and compare them. -/
import Derived.Test.YtflddpkmajoeaaaPPx8
import Derived.Test.YtflddpkmajoeaaaPPx9
import Derived.Test.YtflddpkmajoeaaaPPx8
import Derived.Test.YtflddpkmajoeaaaPIntsMark
import Derived.Test.YtflddpkmajoeaaaPSmall
namespace Go.Proofs.Ytflddpkmajoeaaa.DiskP
open Go.RowKit Go.Proofs.Ytflddpkmajoeaaa.PP Go.Proofs.YtflddpkmajoeaaaW.PrintWords Go.Proofs.Ytflddpkmajoeaaa.Lem Go.Proofs.Ytflddpkmajoeaaa.SmallP
set_option linter.unusedVariables false
set_option linter.unusedSimpArgs false

theorem markInts_ev (c : Int) (ws : List Int) (h : ws.length ≤ 1048576) : Ev (fun k => laws_markIntsResult.f k c ws 1) (1 + ws.length, IntsP.markL 1 ws.length) := by
  unfold laws_markIntsResult.f
  exact ev_bind (IntsP.mark_ev ws 1 (by omega) (by omega) (by omega)) (ev_now rfl)
theorem heldInts_ev (c : Int) (n : Nat) (h : n ≤ 1048576) : Ev (fun k => laws_heldIntsResult.f k c (IntsP.markL 1 n) 1) (1 + n) := by
  unfold laws_heldIntsResult.f
  refine ev_bind (IntsP.held_ev n 1 (by omega) (by omega) (by omega)) ?_
  simp only [if_neg (show ¬ (1 : Int) + n < 0 by omega)]
  exact ev_now rfl
theorem eqInts_ev (c : Int) (ws : List Int) (h : ws.length ≤ 1048576) : Ev (fun k => laws_eqIntsResult.f k c ws c ws) true := by
  unfold laws_eqIntsResult.f
  simp only [if_true]
  refine ev_bind (IntsP.eq_ev ws (by omega)) ?_
  simp only [if_true]
  exact ev_now rfl
end Go.Proofs.Ytflddpkmajoeaaa.DiskP
