/- Vols as the laws copy and compare them. (Lines of Blk, turned by a program.) -/
import Derived.Test.YtflddpkmajoeaaaPPx14
import Derived.Test.YtflddpkmajoeaaaPPx19
import Derived.Test.YtflddpkmajoeaaaPPx12
import Derived.Test.YtflddpkmajoeaaaLem
namespace Go.Proofs.Ytflddpkmajoeaaa.VolP
open Go.RowKit Go.Proofs.Ytflddpkmajoeaaa.PP Go.Proofs.YtflddpkmajoeaaaW.PrintWords Go.Proofs.Ytflddpkmajoeaaa.Lem
set_option linter.unusedVariables false
set_option linter.unusedSimpArgs false
abbrev LB := S143
abbrev B := S93

def toB (b : LB) : B := ⟨b.f0, b.f1, b.f2⟩
theorem rdL {l : List LB} {i : Nat} (h : i < l.length) : rd_T143 l (i : Int) = l[i] := by simp [rd_T143, h]
theorem rdB {l : List B} {i : Nat} (h : i < l.length) : rd_T93 l (i : Int) = l[i] := by simp [rd_T93, h]
theorem to_loop (l : List LB) (hl : l.length ≤ 140737488351232) : ∀ (d i : Nat) (x : List B), l.length - i = d → i ≤ l.length → x.length = l.length → x.take i = (l.map toB).take i → Ev (fun k => laws_toVolS.l0 k l x (i : Int)) (l.map toB) := by
  intro d
  induction d with
  | zero =>
    intro i x hd hi hx ht
    refine ev_succ ?_
    simp only [laws_toVolS.l0]
    simp only [if_neg (show ¬ (i : Int) < (l.length : Int) by omega)]
    refine ev_now ?_
    rw [List.take_of_length_le (by omega), List.take_of_length_le (by simp; omega)] at ht
    exact ht
  | succ d ih =>
    intro i x hd hi hx ht
    refine ev_succ ?_
    simp only [laws_toVolS.l0, laws_toVol.f, Option.bind_some]
    simp only [if_pos (show (i : Int) < (l.length : Int) by omega), if_pos (show 0 ≤ (i : Int) by omega), if_pos (show (i : Int) < (x.length : Int) by omega), wrap_succ (show i < l.length by omega) hl]
    refine ih (i + 1) _ (by omega) (by omega) (by rw [List.length_set]; exact hx) ?_
    exact take_succ_set (l.map toB) x i _ (by simp; omega) (by simp; omega) ht (by rw [rdL (by omega)]; simp [toB])
theorem to_ev (l : List LB) (hl : l.length ≤ 1048576) : Ev (fun k => laws_toVolS.f k l) (l.map toB) := by
  unfold laws_toVolS.f
  simp only [if_pos (show 0 ≤ (l.length : Int) by omega), if_pos (show ((l.length : Int) : Int).toNat ≤ 11728124029610 by omega)]
  exact to_loop l (by omega) l.length 0 _ (by omega) (by omega) (by simp) (by simp)
theorem eq_loop (l : List B) (hl : l.length ≤ 140737488351232) : ∀ (d i : Nat), l.length - i = d → i ≤ l.length → Ev (fun k => laws_eqVolS.l0 k l l (i : Int)) true := by
  intro d
  induction d with
  | zero =>
    intro i hd hi
    refine ev_succ ?_
    simp only [laws_eqVolS.l0]
    simp only [if_neg (show ¬ (i : Int) < (l.length : Int) by omega)]
    exact ev_now rfl
  | succ d ih =>
    intro i hd hi
    refine ev_succ ?_
    simp only [laws_eqVolS.l0, laws_eqVol.f, if_true, Option.bind_some]
    simp only [if_pos (show (i : Int) < (l.length : Int) by omega), if_pos (show 0 ≤ (i : Int) by omega), if_true, wrap_succ (show i < l.length by omega) hl]
    exact ih (i + 1) (by omega) (by omega)
theorem eq_ev (l : List B) (hl : l.length ≤ 140737488351232) : Ev (fun k => laws_eqVolS.f k l l) true := by
  unfold laws_eqVolS.f
  simp only [if_true]
  exact eq_loop l hl l.length 0 (by omega) (by omega)
theorem sz_eq (l : List LB) (a : Int) (ha : 0 ≤ a) (ha2 : a ≤ 1048576) (hl : l.length ≤ 140737488351232) : laws_szVolS.f l a = some (if a - l.length < 0 then -1 else a - l.length) := by
  unfold laws_szVolS.f
  rw [wrap_id (by omega) (by omega)]
  split <;> rfl

end Go.Proofs.Ytflddpkmajoeaaa.VolP
