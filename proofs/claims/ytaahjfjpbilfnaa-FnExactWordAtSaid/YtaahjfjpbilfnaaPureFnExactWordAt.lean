/- The law of WordAt answers true at every disk and every place. No condition beside the statement's own bounds. -/
import Derived.Test.YtaahjfjpbilfnaaPDx5
import Derived.Test.YtaahjfjpbilfnaaPDx5
import Derived.Test.YtaahjfjpbilfnaaPDx4
import Derived.Test.YtaahjfjpbilfnaaDFlush
namespace Go.Proofs.Ytaahjfjpbilfnaa.Pure
open Go.RowKit Go.Proofs.Ytaahjfjpbilfnaa.PD Go.Proofs.YtaahjfjpbilfnaaW.PrintWords Go.Proofs.Ytaahjfjpbilfnaa.Lem Go.Proofs.Ytaahjfjpbilfnaa.DiskD
set_option linter.unusedVariables false
set_option linter.unusedSimpArgs false

def atR (ws : List Int) (ps : List P) (a : Int) : Int × Int := if df ws ps = 0 then (if isP a = true then (0, rd (fl ws ps) a) else (3, 0)) else (df ws ps, 0)
theorem at_spec (ws : List Int) (ps : List P) (a : Int) (h : ws.length ≤ 1048576) (h2 : ps.length ≤ 1048576) : Ev (fun k => spec_WordAt.f k ws ps a) (atR ws ps a) := by
  unfold spec_WordAt.f atR
  refine ev_bind (l1Fault_ev ws ps (by omega) (by omega)) ?_
  by_cases h0 : df ws ps = 0
  · simp only [if_pos h0, l1Place_eq, Option.bind_some]
    by_cases h1 : isP a = true
    · simp only [if_pos h1]
      obtain ⟨n, rfl, hn⟩ := isP_cast h1
      have hf := fine h0
      exact ev_bind (at_ev ws ps n (by have := hf.len; omega) (by omega) hf.bound) (ev_now rfl)
    · simp only [if_neg h1]; exact ev_now rfl
  · simp only [if_neg h0]; exact ev_now rfl
theorem at_impl (ws : List Int) (ps : List P) (a : Int) (h : ws.length ≤ 1048576) (h2 : ps.length ≤ 1048576) : Ev (fun k => impl_WordAt.f k ws ps a) (atR ws ps a) := by
  unfold impl_WordAt.f impl_diskCode.f atR
  simp only [isPlace_eq, Option.bind_some]
  by_cases h0 : df ws ps = 0
  · simp only [if_pos h0]
    have hf := fine h0
    by_cases h1 : isP a = true
    · simp only [if_pos h1]
      refine ev_bind (ev_bind (impl_ev ws ps (by omega) (by omega)) ?_ : Ev _ (0 : Int)) ?_
      · simp only [if_pos h0]; exact ev_now rfl
      · simp only [if_true]
        obtain ⟨n, rfl, hn⟩ := isP_cast h1
        refine ev_bind (flush_fine hf) ?_
        simp only [if_pos (show 0 ≤ (n : Int) by omega), if_pos (show (n : Int) < ((fl ws ps).length : Int) by rw [fl_length, hf.len]; omega)]
        exact ev_now rfl
    · simp only [if_neg h1]
      refine ev_bind (ev_bind (impl_ev ws ps (by omega) (by omega)) ?_ : Ev _ (3 : Int)) ?_
      · simp only [if_pos h0]; exact ev_now rfl
      · exact ev_now rfl
  · simp only [if_neg h0]
    refine ev_bind (ev_bind (impl_ev ws ps (by omega) (by omega)) ?_ : Ev _ (df ws ps)) ?_
    · simp only [if_neg h0]; exact ev_now rfl
    · simp only [if_neg h0]; exact ev_now rfl
theorem FnExactWordAt : laws_FnExactWordAt.Pure := by
  intro x0 a hg _
  obtain ⟨ws, lp⟩ := x0
  have g1 : ws.length ≤ 140737488351232 := by have := hg; simp [g25] at this; omega
  have g2 : lp.length ≤ 140737488351232 := by have := hg; simp [g25] at this; omega
  refine Ev.rounds (r := true) ?_
  unfold laws_FnExactWordAt.f
  obtain ⟨t, ht, hb⟩ := sz_ok ws lp g1 g2
  simp only [ht, Option.bind_some]
  by_cases c : t < 0
  · simp only [if_pos c]
    exact ev_now rfl
  · simp only [if_neg c]
    obtain ⟨b1, b2⟩ := hb c
    have b3 : (lp.map PutD.toB).length ≤ 1048576 := by simpa using b2
    have hs := at_spec ws (lp.map PutD.toB) a b1 b3
    have hi := at_impl ws (lp.map PutD.toB) a b1 b3
    generalize atR ws (lp.map PutD.toB) a = r at hs hi
    refine ev_bind (to_ev ws lp b1 b2) (ev_bind hs (ev_bind (to_ev ws lp b1 b2) (ev_bind hi ?_)))
    simp only [laws_eqIntResult.f, if_true, Option.bind_some]
    refine ev_bind (to_ev ws lp b1 b2) (ev_bind (eq_ev ws (lp.map PutD.toB) (by omega) (by omega)) ?_)
    simp only [if_true]
    exact ev_now rfl
end Go.Proofs.Ytaahjfjpbilfnaa.Pure
