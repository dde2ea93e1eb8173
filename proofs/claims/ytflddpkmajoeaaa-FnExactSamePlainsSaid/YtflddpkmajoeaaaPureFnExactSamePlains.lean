/- The law of SamePlains answers true at all plain pools. No condition beside the statement's own bounds. -/
import Derived.Test.YtflddpkmajoeaaaPPx25
import Derived.Test.YtflddpkmajoeaaaPPlain
namespace Go.Proofs.Ytflddpkmajoeaaa.Pure
open Go.RowKit Go.Proofs.Ytflddpkmajoeaaa.PP Go.Proofs.YtflddpkmajoeaaaW.PrintWords Go.Proofs.Ytflddpkmajoeaaa.Lem Go.Proofs.Ytflddpkmajoeaaa.PlainP
set_option linter.unusedVariables false
set_option linter.unusedSimpArgs false

theorem FnExactSamePlains : laws_FnExactSamePlains.Pure := by
  intro x0 x1 hg hg'
  obtain ⟨n, vs, cs, l⟩ := x0
  obtain ⟨m, ws, ds, q⟩ := x1
  obtain ⟨g1, g2, g3⟩ : vs.length ≤ 140737488351232 ∧ cs.length ≤ 140737488351232 ∧ l.length ≤ 140737488351232 := by have := hg; simp [g35] at this; omega
  obtain ⟨g4, g5, g6⟩ : ws.length ≤ 140737488351232 ∧ ds.length ≤ 140737488351232 ∧ q.length ≤ 140737488351232 := by have := hg'; simp [g35] at this; omega
  clear hg hg'
  refine Ev.rounds (r := true) ?_
  unfold laws_FnExactSamePlains.f
  obtain ⟨t, ht, hb⟩ := sz_ok n vs cs l 1048576 (by omega) (by omega) g1 g2 g3
  simp only [ht, Option.bind_some]
  by_cases c : t < 0
  · simp only [if_pos c]
    exact ev_now rfl
  · simp only [if_neg c]
    obtain ⟨b1, b2, b3, t0, t1⟩ := hb c
    obtain ⟨t', ht', hb'⟩ := sz_ok m ws ds q t t0 t1 g4 g5 g6
    simp only [ht', Option.bind_some]
    by_cases c' : t' < 0
    · simp only [if_pos c']
      exact ev_now rfl
    · simp only [if_neg c']
      obtain ⟨b4, b5, b6, _, _⟩ := hb' c'
      have cp := to_ev n vs cs l b1 b2 b3
      have cp' := to_ev m ws ds q b4 b5 b6
      have v1 : (vs.map VolP.toB).length ≤ 1048576 := by simpa using b1
      have v2 : (cs.map CellP.toB).length ≤ 1048576 := by simpa using b2
      have v4 : (ws.map VolP.toB).length ≤ 1048576 := by simpa using b4
      have v5 : (ds.map CellP.toB).length ≤ 1048576 := by simpa using b5
      generalize vs.map VolP.toB = vs' at cp v1
      generalize cs.map CellP.toB = cs' at cp v2
      generalize ws.map VolP.toB = ws' at cp' v4
      generalize ds.map CellP.toB = ds' at cp' v5
      refine ev_bind cp (ev_bind cp' (ev_bind (same_spec n m vs' ws' cs' ds' l q v1 v2) (ev_bind cp (ev_bind cp' (ev_bind (same_impl n m vs' ws' cs' ds' l q v1 v2) ?_)))))
      have e : ∀ b : Bool, (b != b) = false := by decide
      simp only [e, Bool.false_eq_true, if_false]
      refine ev_bind cp (ev_bind (eq_ev n vs' cs' l v1 v2 b3) ?_)
      simp only [if_true]
      refine ev_bind cp' (ev_bind (eq_ev m ws' ds' q v4 v5 b6) ?_)
      simp only [if_true]
      exact ev_now rfl
end Go.Proofs.Ytflddpkmajoeaaa.Pure
