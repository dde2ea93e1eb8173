/- The law of DiskFault answers true at every disk. No condition beside the statement's own bounds. -/
import Derived.Test.YtaahjfjpbilfnaaPDx4
import Derived.Test.YtaahjfjpbilfnaaDDisk
namespace Go.Proofs.Ytaahjfjpbilfnaa.Pure
open Go.RowKit Go.Proofs.Ytaahjfjpbilfnaa.PD Go.Proofs.YtaahjfjpbilfnaaW.PrintWords Go.Proofs.Ytaahjfjpbilfnaa.Lem Go.Proofs.Ytaahjfjpbilfnaa.DiskD
set_option linter.unusedVariables false
set_option linter.unusedSimpArgs false

theorem FnExactDiskFault : laws_FnExactDiskFault.Pure := by
  intro x0 hg
  obtain ⟨ws, lp⟩ := x0
  have g1 : ws.length ≤ 140737488351232 := by have := hg; simp [g25] at this; omega
  have g2 : lp.length ≤ 140737488351232 := by have := hg; simp [g25] at this; omega
  refine Ev.rounds (r := true) ?_
  unfold laws_FnExactDiskFault.f
  obtain ⟨t, ht, hb⟩ := sz_ok ws lp g1 g2
  simp only [ht, Option.bind_some]
  by_cases c : t < 0
  · simp only [if_pos c]
    exact ev_now rfl
  · simp only [if_neg c]
    obtain ⟨b1, b2⟩ := hb c
    have b3 : (lp.map PutD.toB).length ≤ 1048576 := by simpa using b2
    refine ev_bind (to_ev ws lp b1 b2) (ev_bind (spec_ev ws (lp.map PutD.toB) (by omega) (by omega)) (ev_bind (to_ev ws lp b1 b2) (ev_bind (impl_ev ws (lp.map PutD.toB) (by omega) (by omega)) ?_)))
    simp only [if_true]
    refine ev_bind (to_ev ws lp b1 b2) (ev_bind (eq_ev ws (lp.map PutD.toB) (by omega) (by omega)) ?_)
    simp only [if_true]
    exact ev_now rfl
end Go.Proofs.Ytaahjfjpbilfnaa.Pure
