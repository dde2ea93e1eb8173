/- Whether two lists of Vols are one list, as the program asks it. -/
import Derived.Test.YtflddpkmajoeaaaPPx16
import Derived.Test.YtflddpkmajoeaaaPVol
namespace Go.Proofs.Ytflddpkmajoeaaa.VolP
open Go.RowKit Go.Proofs.Ytflddpkmajoeaaa.PP Go.Proofs.YtflddpkmajoeaaaW.PrintWords Go.Proofs.Ytflddpkmajoeaaa.Lem
set_option linter.unusedVariables false
set_option linter.unusedSimpArgs false

instance : DecidableEq B := fun x y => decidable_of_iff (x.f0 = y.f0 ∧ x.f1 = y.f1 ∧ x.f2 = y.f2) (by cases x; cases y; simp)
theorem differ (x y : B) : (!(x.f0 == y.f0) || (!(x.f1 == y.f1) || !(x.f2 == y.f2))) = !decide (x = y) := by
  obtain ⟨a, b, c⟩ := x
  obtain ⟨a', b', c'⟩ := y
  by_cases h0 : a = a' <;> by_cases h1 : b = b' <;> by_cases h2 : c = c' <;> simp [h0, h1, h2]
theorem equal_loop (a b : List B) (h : a.length = b.length) (hl : a.length ≤ 140737488351232) : ∀ (d i : Nat), a.length - i = d → i ≤ a.length → Ev (fun k => slices_Equal_impl_Vol.l0 k a b (a.length : Int) (i : Int)) (decide (a.drop i = b.drop i)) := by
  intro d
  induction d with
  | zero =>
    intro i hd hi
    refine ev_succ ?_
    simp only [slices_Equal_impl_Vol.l0]
    simp only [if_neg (show ¬ (i : Int) < (a.length : Int) by omega)]
    exact ev_now (by rw [List.drop_of_length_le (by omega), List.drop_of_length_le (by omega)]; rfl)
  | succ d ih =>
    intro i hd hi
    have h1 : i < a.length := by omega
    have h2 : i < b.length := by omega
    have ih' := ih (i + 1) (by omega) (by omega)
    rw [List.drop_eq_getElem_cons h1, List.drop_eq_getElem_cons h2]
    refine ev_succ ?_
    simp only [slices_Equal_impl_Vol.l0, rdB h1, rdB h2, differ]
    simp only [if_pos (show (i : Int) < (a.length : Int) by omega), if_pos (show 0 ≤ (i : Int) by omega), if_pos (show (i : Int) < (b.length : Int) by omega), wrap_succ h1 hl]
    by_cases c : a[i] = b[i]
    · simp only [c, decide_true, Bool.not_true, Bool.false_eq_true, if_false]
      refine ev_eq ih' ?_
      simp only [List.cons.injEq, true_and]
    · simp only [decide_eq_false c, Bool.not_false, if_true]
      exact ev_now (by rw [eq_comm, decide_eq_false_iff_not]; intro e; exact c (List.cons.inj e).1)
theorem equal_ev (a b : List B) (hl : a.length ≤ 140737488351232) : Ev (fun k => slices_Equal_impl_Vol.f k a b) (decide (a = b)) := by
  unfold slices_Equal_impl_Vol.f
  by_cases h : a.length = b.length
  · simp only [if_pos (show (a.length : Int) = (b.length : Int) by omega)]
    have := equal_loop a b h hl a.length 0 (by omega) (by omega)
    rwa [List.drop_zero, List.drop_zero] at this
  · simp only [if_neg (show ¬ (a.length : Int) = (b.length : Int) by omega)]
    exact ev_now (by rw [eq_comm, decide_eq_false_iff_not]; intro e; exact h (by rw [e]))
end Go.Proofs.Ytflddpkmajoeaaa.VolP
