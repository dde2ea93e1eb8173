/- Plain pools as the laws copy and compare them; whether two are the same: both answers are one. -/
import Derived.Test.YtflddpkmajoeaaaPPx12
import Derived.Test.YtflddpkmajoeaaaPPx15
import Derived.Test.YtflddpkmajoeaaaPPx22
import Derived.Test.YtflddpkmajoeaaaPPx13
import Derived.Test.YtflddpkmajoeaaaPPx18
import Derived.Test.YtflddpkmajoeaaaPInts
import Derived.Test.YtflddpkmajoeaaaPVolEq
import Derived.Test.YtflddpkmajoeaaaPCellEq
namespace Go.Proofs.Ytflddpkmajoeaaa.PlainP
open Go.RowKit Go.Proofs.Ytflddpkmajoeaaa.PP Go.Proofs.YtflddpkmajoeaaaW.PrintWords Go.Proofs.Ytflddpkmajoeaaa.Lem
set_option linter.unusedVariables false
set_option linter.unusedSimpArgs false
abbrev V := S93
abbrev C := S95
abbrev LV := S143
abbrev LC := S145

theorem to_ev (n : Int) (vs : List LV) (cs : List LC) (l : List Int) (h1 : vs.length ≤ 1048576) (h2 : cs.length ≤ 1048576) (h3 : l.length ≤ 1048576) : Ev (fun k => laws_toPlain.f k n vs cs l) (n, vs.map VolP.toB, cs.map CellP.toB, l) := by
  unfold laws_toPlain.f
  exact ev_bind (VolP.to_ev vs h1) (ev_bind (CellP.to_ev cs h2) (ev_bind (IntsP.to_ev l (by omega)) (ev_now rfl)))
theorem eq_ev (n : Int) (vs : List V) (cs : List C) (l : List Int) (h1 : vs.length ≤ 1048576) (h2 : cs.length ≤ 1048576) (h3 : l.length ≤ 1048576) : Ev (fun k => laws_eqPlain.f k n vs cs l n vs cs l) true := by
  unfold laws_eqPlain.f
  simp only [if_true]
  refine ev_bind (VolP.eq_ev vs (by omega)) ?_
  simp only [if_true]
  refine ev_bind (CellP.eq_ev cs (by omega)) ?_
  simp only [if_true]
  refine ev_bind (IntsP.eq_ev l (by omega)) ?_
  simp only [if_true]
  exact ev_now rfl
theorem sz_ints (l : List Int) (a : Int) (ha : 0 ≤ a) (ha2 : a ≤ 1048576) (hl : l.length ≤ 140737488351232) : laws_szInt64S.f l a = some (if a - l.length < 0 then -1 else a - l.length) := by
  unfold laws_szInt64S.f
  rw [wrap_id (by omega) (by omega)]
  split <;> rfl
theorem sz_ok (n : Int) (vs : List LV) (cs : List LC) (l : List Int) (a : Int) (ha : 0 ≤ a) (ha2 : a ≤ 1048576) (h1 : vs.length ≤ 140737488351232) (h2 : cs.length ≤ 140737488351232) (h3 : l.length ≤ 140737488351232) : ∃ t, laws_szPlain.f n vs cs l a = some t ∧ (¬ t < 0 → vs.length ≤ 1048576 ∧ cs.length ≤ 1048576 ∧ l.length ≤ 1048576 ∧ 0 ≤ t ∧ t ≤ 1048576) := by
  unfold laws_szPlain.f
  rw [VolP.sz_eq vs a ha ha2 h1]
  simp only [Option.bind_some]
  by_cases c : a - vs.length < 0
  · exact ⟨-1, by simp only [if_pos c]; rfl, by omega⟩
  · simp only [if_neg c]
    rw [CellP.sz_eq cs _ (by omega) (by omega) h2]
    simp only [Option.bind_some]
    by_cases c2 : a - vs.length - cs.length < 0
    · exact ⟨-1, by simp only [if_pos c2]; rfl, by omega⟩
    · simp only [if_neg c2]
      rw [sz_ints l _ (by omega) (by omega) h3]
      simp only [Option.bind_some]
      by_cases c3 : a - vs.length - cs.length - l.length < 0
      · exact ⟨-1, by simp only [if_pos c3]; rfl, by omega⟩
      · exact ⟨_, by simp only [if_neg c3]; rfl, by omega⟩
theorem cells_loop (n m : Int) (vs ws : List V) (cs ds : List C) (l q : List Int) (h : cs.length = ds.length) (hl : cs.length ≤ 140737488351232) : ∀ (d i : Nat), cs.length - i = d → i ≤ cs.length → Ev (fun k => spec_SamePlains.l1 k (i : Int) n vs cs l m ws ds q) (decide (cs.drop i = ds.drop i)) := by
  intro d
  induction d with
  | zero =>
    intro i hd hi
    refine ev_succ ?_
    simp only [spec_SamePlains.l1]
    simp only [if_neg (show ¬ (i : Int) < (cs.length : Int) by omega)]
    exact ev_now (by rw [List.drop_of_length_le (by omega), List.drop_of_length_le (by omega)]; rfl)
  | succ d ih =>
    intro i hd hi
    have h1 : i < cs.length := by omega
    have h2 : i < ds.length := by omega
    have ih' := ih (i + 1) (by omega) (by omega)
    rw [List.drop_eq_getElem_cons h1, List.drop_eq_getElem_cons h2]
    refine ev_succ ?_
    simp only [spec_SamePlains.l1, CellP.rdB h1, CellP.rdB h2, CellP.differ]
    simp only [if_pos (show (i : Int) < (cs.length : Int) by omega), if_pos (show 0 ≤ (i : Int) by omega), if_pos (show (i : Int) < (ds.length : Int) by omega), wrap_succ h1 hl]
    by_cases c : cs[i] = ds[i]
    · simp only [c, decide_true, Bool.not_true, Bool.false_eq_true, if_false]
      refine ev_eq ih' ?_
      simp only [List.cons.injEq, true_and]
    · simp only [decide_eq_false c, Bool.not_false, if_true]
      exact ev_now (by rw [eq_comm, decide_eq_false_iff_not]; intro e; exact c (List.cons.inj e).1)
theorem vols_loop (n m : Int) (vs ws : List V) (cs ds : List C) (l q : List Int) (h : cs.length = ds.length) (hl : cs.length ≤ 140737488351232) (h' : vs.length = ws.length) (hl' : vs.length ≤ 140737488351232) : ∀ (d i : Nat), vs.length - i = d → i ≤ vs.length → Ev (fun k => spec_SamePlains.l0 k (i : Int) n vs cs l m ws ds q) (decide (vs.drop i = ws.drop i) && decide (cs = ds)) := by
  intro d
  induction d with
  | zero =>
    intro i hd hi
    refine ev_succ ?_
    simp only [spec_SamePlains.l0]
    simp only [if_neg (show ¬ (i : Int) < (vs.length : Int) by omega)]
    have := cells_loop n m vs ws cs ds l q h hl cs.length 0 (by omega) (by omega)
    rw [List.drop_zero, List.drop_zero] at this
    rw [List.drop_of_length_le (show vs.length ≤ i by omega), List.drop_of_length_le (show ws.length ≤ i by omega)]
    simpa using this
  | succ d ih =>
    intro i hd hi
    have h1 : i < vs.length := by omega
    have h2 : i < ws.length := by omega
    have ih' := ih (i + 1) (by omega) (by omega)
    rw [List.drop_eq_getElem_cons h1, List.drop_eq_getElem_cons h2]
    refine ev_succ ?_
    simp only [spec_SamePlains.l0, VolP.rdB h1, VolP.rdB h2, VolP.differ]
    simp only [if_pos (show (i : Int) < (vs.length : Int) by omega), if_pos (show 0 ≤ (i : Int) by omega), if_pos (show (i : Int) < (ws.length : Int) by omega), wrap_succ h1 hl']
    by_cases c : vs[i] = ws[i]
    · simp only [c, decide_true, Bool.not_true, Bool.false_eq_true, if_false]
      refine ev_eq ih' ?_
      simp only [List.cons.injEq, true_and]
    · simp only [decide_eq_false c, Bool.not_false, if_true]
      refine ev_now ?_
      rw [decide_eq_false (fun e => c (List.cons.inj e).1)]
      rfl
def same (n m : Int) (vs ws : List V) (cs ds : List C) : Bool := decide (n = m) && (decide (vs = ws) && decide (cs = ds))
theorem same_spec (n m : Int) (vs ws : List V) (cs ds : List C) (l q : List Int) (h1 : vs.length ≤ 1048576) (h2 : cs.length ≤ 1048576) : Ev (fun k => spec_SamePlains.f k n vs cs l m ws ds q) (same n m vs ws cs ds) := by
  unfold spec_SamePlains.f same
  by_cases c : n = m
  · simp only [if_pos c, decide_eq_true c, Bool.true_and]
    by_cases c2 : vs.length = ws.length
    · simp only [if_pos (show (vs.length : Int) = (ws.length : Int) by omega)]
      refine ev_succ ?_
      by_cases c3 : cs.length = ds.length
      · have e : ((cs.length : Int) != (ds.length : Int)) = false := by rw [c3]; simp
        simp only [spec_SamePlains.j0, e, Bool.false_eq_true, if_false]
        have := vols_loop n m vs ws cs ds l q c3 (by omega) c2 (by omega) vs.length 0 (by omega) (by omega)
        rw [List.drop_zero, List.drop_zero] at this
        exact this
      · have e : ((cs.length : Int) != (ds.length : Int)) = true := by rw [bne_iff_ne]; omega
        simp only [spec_SamePlains.j0, e, if_true]
        refine ev_now ?_
        rw [decide_eq_false (show ¬ cs = ds from fun e => c3 (by rw [e]))]
        simp
    · simp only [if_neg (show ¬ (vs.length : Int) = (ws.length : Int) by omega)]
      refine ev_succ ?_
      simp only [spec_SamePlains.j0, if_true]
      refine ev_now ?_
      rw [decide_eq_false (show ¬ vs = ws from fun e => c2 (by rw [e]))]
      rfl
  · simp only [if_neg c, decide_eq_false c]
    refine ev_succ ?_
    simp only [spec_SamePlains.j0, if_true]
    exact ev_now rfl
theorem same_impl (n m : Int) (vs ws : List V) (cs ds : List C) (l q : List Int) (h1 : vs.length ≤ 1048576) (h2 : cs.length ≤ 1048576) : Ev (fun k => impl_SamePlains.f k n vs cs l m ws ds q) (same n m vs ws cs ds) := by
  unfold impl_SamePlains.f same
  by_cases c : n = m
  · simp only [if_pos c, decide_eq_true c, Bool.true_and]
    refine ev_bind (VolP.equal_ev vs ws (by omega)) ?_
    by_cases c2 : vs = ws
    · simp only [decide_eq_true c2, if_true, Bool.true_and]
      exact ev_bind (CellP.equal_ev cs ds (by omega)) (ev_now rfl)
    · simp only [decide_eq_false c2, Bool.false_eq_true, if_false, Bool.false_and]
      exact ev_now rfl
  · simp only [if_neg c, decide_eq_false c]
    exact ev_now rfl
end Go.Proofs.Ytflddpkmajoeaaa.PlainP
