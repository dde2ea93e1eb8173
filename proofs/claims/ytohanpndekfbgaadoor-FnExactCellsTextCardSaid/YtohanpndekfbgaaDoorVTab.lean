/- What the row's condition gives: the table that strconv reads lies as it is told. -/
import Derived.Test.YtohanpndekfbgaaDoorVNat
import Derived.Test.YtohanpndekfbgaaDoorRows
import Derived.LaidMore
import Derived.MakeChecks
import Derived.KernelRfl
namespace Go.Proofs.YtohanpndekfbgaaDoor.V
open Go
set_option linter.unusedVariables false
theorem laid_tab {W : World} (h : laidMetH Tryd.prog Rows.fnExactCellsTextRow.laid W) :
    ∃ gi e fl, Tryd.prog.globalNamed "internal/strconv.uint64pow10" = some gi ∧ W.heap[gi]? = some (.cells tabArr e fl) := by
  rw [MakeChecks.laidMetH_plain _ _ _ (by kernel_rfl)] at h
  change laidMet Tryd.prog [_, _, ("internal/strconv.uint64pow10", Lib.tabData .u64 Lib.pow10Tab)] W at h
  obtain ⟨ps, ⟨g0, t0, cs0, f0, p0, q0, _, _, _, _, ⟨g1, t1, cs1, f1, p1, q1, _, _, _, _, ⟨g2, t2, cs2, f2, p2, q2, hg, ht, hv, hd, _, _⟩, _⟩, _⟩, _, _⟩ := h
  obtain ⟨gi, hgi⟩ : ∃ gi, gi = g2 := ⟨_, rfl⟩
  have hty : ((Tryd.prog.globalNamed "internal/strconv.uint64pow10").bind fun g => (Tryd.prog.globals[g]?).map (·.type)) = some t2 := by rw [hg]; exact ht
  obtain ⟨T, E, N, e1, e2, e3, e4, e5⟩ : ∃ T E N, ((Tryd.prog.globalNamed "internal/strconv.uint64pow10").bind fun g => (Tryd.prog.globals[g]?).map (·.type)) = some T ∧ Tryd.prog.underlying T = some (.array N E) ∧ Tryd.prog.underlying E = some (.int .u64) ∧ Tryd.prog.cellsOf E = 1 ∧ Tryd.prog.cellsOf T = N := by
    exact ⟨107, 97, 20, by kernel_rfl, by kernel_rfl, by kernel_rfl, by kernel_rfl, by kernel_rfl⟩
  obtain rfl := Option.some.inj (e1.symm.trans hty)
  have hcs := Lib.cells_of_tab e2 e3 e4 e5 hd
  unfold World.var? at hv
  rw [hg, Option.bind_some] at hv
  split at hv
  · rename_i c ty fl hh
    obtain rfl := Option.some.inj hv
    refine ⟨g2, ty, fl, hg, ?_⟩
    rw [hh]
    have : c = tabArr := Array.ext' (by rw [hcs]; rfl)
    rw [this]
  · cases hv
end Go.Proofs.YtohanpndekfbgaaDoor.V
