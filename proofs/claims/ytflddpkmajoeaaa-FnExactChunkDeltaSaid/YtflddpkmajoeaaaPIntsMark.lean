/- Marking numbers and looking at marked ones, as the laws do. -/
import Derived.Test.YtflddpkmajoeaaaPPx8
import Derived.Test.YtflddpkmajoeaaaPPx9
import Derived.Test.YtflddpkmajoeaaaPInts
namespace Go.Proofs.Ytflddpkmajoeaaa.IntsP
open Go.RowKit Go.Proofs.Ytflddpkmajoeaaa.PP Go.Proofs.YtflddpkmajoeaaaW.PrintWords Go.Proofs.Ytflddpkmajoeaaa.Lem
set_option linter.unusedVariables false
set_option linter.unusedSimpArgs false

def markL (a : Int) (n : Nat) : List Int := (List.range n).map fun i : Nat => a + i
theorem markL_length (a : Int) (n : Nat) : (markL a n).length = n := by simp [markL]
theorem markL_get (a : Int) (n i : Nat) (h : i < (markL a n).length) : (markL a n)[i] = a + i := by simp [markL]
theorem mark_loop (a : Int) (ha : 0 ≤ a) (ha2 : a ≤ 1125899906842624) (n : Nat) (hn : n ≤ 140737488351232) : ∀ (d i : Nat) (x : List Int), n - i = d → i ≤ n → x.length = n → x.take i = (markL a n).take i → Ev (fun k => laws_markInt64S.l0 k x (a + i) (i : Int)) (a + n, markL a n) := by
  intro d
  induction d with
  | zero =>
    intro i x hd hi hx ht
    refine ev_succ ?_
    simp only [laws_markInt64S.l0]
    simp only [if_neg (show ¬ (i : Int) < (x.length : Int) by omega)]
    have e : i = n := by omega
    subst e
    rw [List.take_of_length_le (by omega), List.take_of_length_le (by rw [markL_length]; omega)] at ht
    exact ev_now (by rw [ht])
  | succ d ih =>
    intro i x hd hi hx ht
    refine ev_succ ?_
    simp only [laws_markInt64S.l0]
    have hlt : i < x.length := by omega
    simp only [if_pos (show (i : Int) < (x.length : Int) by omega), if_pos (show 0 ≤ (i : Int) by omega), Int.toNat_natCast, wrap_succ (show i < n by omega) hn]
    rw [wrap_id (show -9223372036854775808 ≤ a + (i : Int) + 1 by omega) (by omega), show a + (i : Int) + 1 = a + ((i + 1 : Nat) : Int) by omega]
    exact ih (i + 1) _ (by omega) (by omega) (by rw [List.length_set]; exact hx) (take_succ_set (markL a n) x i _ (by rw [markL_length]; omega) (by rw [markL_length]; exact hx) ht (by rw [markL_get]))
theorem mark_ev (l : List Int) (a : Int) (ha : 0 ≤ a) (ha2 : a ≤ 1125899906842624) (hl : l.length ≤ 140737488351232) : Ev (fun k => laws_markInt64S.f k l a) (a + l.length, markL a l.length) := by
  unfold laws_markInt64S.f
  have h := mark_loop a ha ha2 l.length hl l.length 0 l (by omega) (by omega) rfl (by simp)
  simpa using h
theorem held_loop (a : Int) (ha : 0 ≤ a) (ha2 : a ≤ 1125899906842624) (n : Nat) (hn : n ≤ 140737488351232) : ∀ (d i : Nat), n - i = d → i ≤ n → Ev (fun k => laws_heldInt64S.l0 k (markL a n) (a + i) (i : Int)) (a + n) := by
  intro d
  induction d with
  | zero =>
    intro i hd hi
    refine ev_succ ?_
    simp only [laws_heldInt64S.l0]
    simp only [markL_length, if_neg (show ¬ (i : Int) < (n : Int) by omega)]
    exact ev_now (by omega)
  | succ d ih =>
    intro i hd hi
    refine ev_succ ?_
    simp only [laws_heldInt64S.l0]
    have hlt : i < (markL a n).length := by rw [markL_length]; omega
    simp only [markL_length, if_pos (show (i : Int) < (n : Int) by omega), if_pos (show 0 ≤ (i : Int) by omega), rd_lt hlt, markL_get, if_true, wrap_succ (show i < n by omega) hn]
    rw [wrap_id (show -9223372036854775808 ≤ a + (i : Int) + 1 by omega) (by omega), show a + (i : Int) + 1 = a + ((i + 1 : Nat) : Int) by omega]
    exact ih (i + 1) (by omega) (by omega)
theorem held_ev (n : Nat) (a : Int) (ha : 0 ≤ a) (ha2 : a ≤ 1125899906842624) (hl : n ≤ 140737488351232) : Ev (fun k => laws_heldInt64S.f k (markL a n) a) (a + n) := by
  unfold laws_heldInt64S.f
  have h := held_loop a ha ha2 n hl n 0 (by omega) (by omega)
  simpa using h
end Go.Proofs.Ytflddpkmajoeaaa.IntsP
