/- Puts as the laws copy, compare, mark and look at them. (Lines of Blk and BlkMark, turned by a program to puts.) -/
import Derived.Test.YtaahjfjpbilfnaaPDx2
import Derived.Test.YtaahjfjpbilfnaaPDx3
import Derived.Test.YtaahjfjpbilfnaaPDx1
import Derived.Test.YtaahjfjpbilfnaaPDx6
import Derived.Test.YtaahjfjpbilfnaaPDx6
import Derived.Test.YtaahjfjpbilfnaaDSmall
namespace Go.Proofs.Ytaahjfjpbilfnaa.PutD
open Go.RowKit Go.Proofs.Ytaahjfjpbilfnaa.PD Go.Proofs.YtaahjfjpbilfnaaW.PrintWords Go.Proofs.Ytaahjfjpbilfnaa.Lem Go.Proofs.Ytaahjfjpbilfnaa.SmallD
set_option linter.unusedVariables false
set_option linter.unusedSimpArgs false
abbrev LB := S115
abbrev B := S53

def toB (b : LB) : B := ⟨b.f0, b.f1⟩
theorem rdL {l : List LB} {i : Nat} (h : i < l.length) : rd_T115 l (i : Int) = l[i] := by simp [rd_T115, h]
theorem rdB {l : List B} {i : Nat} (h : i < l.length) : rd_T53 l (i : Int) = l[i] := by simp [rd_T53, h]
theorem to_loop (l : List LB) (hl : l.length ≤ 140737488351232) : ∀ (d i : Nat) (x : List B), l.length - i = d → i ≤ l.length → x.length = l.length → x.take i = (l.map toB).take i → Ev (fun k => laws_toPutS.l0 k l x (i : Int)) (l.map toB) := by
  intro d
  induction d with
  | zero =>
    intro i x hd hi hx ht
    refine ev_succ ?_
    simp only [laws_toPutS.l0]
    simp only [if_neg (show ¬ (i : Int) < (l.length : Int) by omega)]
    refine ev_now ?_
    rw [List.take_of_length_le (by omega), List.take_of_length_le (by simp; omega)] at ht
    exact ht
  | succ d ih =>
    intro i x hd hi hx ht
    refine ev_succ ?_
    simp only [laws_toPutS.l0, laws_toPut.f, Option.bind_some]
    simp only [if_pos (show (i : Int) < (l.length : Int) by omega), if_pos (show 0 ≤ (i : Int) by omega), if_pos (show (i : Int) < (x.length : Int) by omega), wrap_succ (show i < l.length by omega) hl]
    refine ih (i + 1) _ (by omega) (by omega) (by rw [List.length_set]; exact hx) ?_
    exact take_succ_set (l.map toB) x i _ (by simp; omega) (by simp; omega) ht (by rw [rdL (by omega)]; simp [toB])
theorem to_ev (l : List LB) (hl : l.length ≤ 1048576) : Ev (fun k => laws_toPutS.f k l) (l.map toB) := by
  unfold laws_toPutS.f
  simp only [if_pos (show 0 ≤ (l.length : Int) by omega), if_pos (show ((l.length : Int) : Int).toNat ≤ 17592186044416 by omega)]
  exact to_loop l (by omega) l.length 0 _ (by omega) (by omega) (by simp) (by simp)
theorem eq_loop (l : List B) (hl : l.length ≤ 140737488351232) : ∀ (d i : Nat), l.length - i = d → i ≤ l.length → Ev (fun k => laws_eqPutS.l0 k l l (i : Int)) true := by
  intro d
  induction d with
  | zero =>
    intro i hd hi
    refine ev_succ ?_
    simp only [laws_eqPutS.l0]
    simp only [if_neg (show ¬ (i : Int) < (l.length : Int) by omega)]
    exact ev_now rfl
  | succ d ih =>
    intro i hd hi
    refine ev_succ ?_
    simp only [laws_eqPutS.l0, laws_eqPut.f, if_true, Option.bind_some]
    simp only [if_pos (show (i : Int) < (l.length : Int) by omega), if_pos (show 0 ≤ (i : Int) by omega), if_true, wrap_succ (show i < l.length by omega) hl]
    exact ih (i + 1) (by omega) (by omega)
theorem eq_ev (l : List B) (hl : l.length ≤ 140737488351232) : Ev (fun k => laws_eqPutS.f k l l) true := by
  unfold laws_eqPutS.f
  simp only [if_true]
  exact eq_loop l hl l.length 0 (by omega) (by omega)
theorem sz_eq (l : List LB) (a : Int) (ha : 0 ≤ a) (ha2 : a ≤ 1048576) (hl : l.length ≤ 140737488351232) : laws_szPutS.f l a = some (if a - l.length < 0 then -1 else a - l.length) := by
  unfold laws_szPutS.f
  rw [wrap_id (by omega) (by omega)]
  split <;> rfl

def markL (a : Int) (n : Nat) : List B := (List.range n).map fun i : Nat => (⟨a + 2 * i, a + 2 * i + 1⟩ : B)
theorem markL_length (a : Int) (n : Nat) : (markL a n).length = n := by simp [markL]
theorem markL_get (a : Int) (n i : Nat) (h : i < (markL a n).length) : (markL a n)[i] = ⟨a + 2 * i, a + 2 * i + 1⟩ := by simp [markL]
theorem mark_loop (a : Int) (ha : 0 ≤ a) (ha2 : a ≤ 1125899906842624) (n : Nat) (hn : n ≤ 140737488351232) : ∀ (d i : Nat) (x : List B), n - i = d → i ≤ n → x.length = n → x.take i = (markL a n).take i → Ev (fun k => laws_markPutS.l0 k x (a + 2 * i) (i : Int)) (a + 2 * n, markL a n) := by
  intro d
  induction d with
  | zero =>
    intro i x hd hi hx ht
    refine ev_succ ?_
    simp only [laws_markPutS.l0]
    simp only [if_neg (show ¬ (i : Int) < (x.length : Int) by omega)]
    have e : i = n := by omega
    subst e
    rw [List.take_of_length_le (by omega), List.take_of_length_le (by rw [markL_length]; omega)] at ht
    exact ev_now (by rw [ht])
  | succ d ih =>
    intro i x hd hi hx ht
    refine ev_succ ?_
    simp only [laws_markPutS.l0, Option.bind_some]
    have hlt : i < x.length := by omega
    have hlt2 : ∀ v, i < (x.set i v).length := fun v => by rw [List.length_set]; exact hlt
    simp only [if_pos (show (i : Int) < (x.length : Int) by omega), if_pos (show 0 ≤ (i : Int) by omega), Int.toNat_natCast, rdB (hlt2 _), List.getElem_set_self, List.set_set, wrap_succ (show i < n by omega) hn]
    rw [wrap_id (show -9223372036854775808 ≤ a + 2 * (i : Int) + 1 by omega) (by omega), wrap_id (show -9223372036854775808 ≤ a + 2 * (i : Int) + 1 + 1 by omega) (by omega), show a + 2 * (i : Int) + 1 + 1 = a + 2 * ((i + 1 : Nat) : Int) by omega]
    exact ih (i + 1) _ (by omega) (by omega) (by rw [List.length_set]; exact hx) (take_succ_set (markL a n) x i _ (by rw [markL_length]; omega) (by rw [markL_length]; exact hx) ht (by rw [markL_get]))
theorem mark_ev (l : List B) (a : Int) (ha : 0 ≤ a) (ha2 : a ≤ 1125899906842624) (hl : l.length ≤ 140737488351232) : Ev (fun k => laws_markPutS.f k l a) (a + 2 * l.length, markL a l.length) := by
  unfold laws_markPutS.f
  have h := mark_loop a ha ha2 l.length hl l.length 0 l (by omega) (by omega) rfl (by simp)
  simpa using h
theorem held_loop (a : Int) (ha : 0 ≤ a) (ha2 : a ≤ 1125899906842624) (n : Nat) (hn : n ≤ 140737488351232) : ∀ (d i : Nat), n - i = d → i ≤ n → Ev (fun k => laws_heldPutS.l0 k (markL a n) (a + 2 * i) (i : Int)) (a + 2 * n) := by
  intro d
  induction d with
  | zero =>
    intro i hd hi
    refine ev_succ ?_
    simp only [laws_heldPutS.l0]
    simp only [markL_length, if_neg (show ¬ (i : Int) < (n : Int) by omega)]
    exact ev_now (by omega)
  | succ d ih =>
    intro i hd hi
    refine ev_succ ?_
    simp only [laws_heldPutS.l0]
    have hlt : i < (markL a n).length := by rw [markL_length]; omega
    simp only [markL_length, if_pos (show (i : Int) < (n : Int) by omega), if_pos (show 0 ≤ (i : Int) by omega), rdB hlt, markL_get, if_true, wrap_succ (show i < n by omega) hn]
    rw [wrap_id (show -9223372036854775808 ≤ a + 2 * (i : Int) + 1 by omega) (by omega), wrap_id (show -9223372036854775808 ≤ a + 2 * (i : Int) + 1 + 1 by omega) (by omega), show a + 2 * (i : Int) + 1 + 1 = a + 2 * ((i + 1 : Nat) : Int) by omega]
    simp only [if_true]
    exact ih (i + 1) (by omega) (by omega)
theorem held_ev (n : Nat) (a : Int) (ha : 0 ≤ a) (ha2 : a ≤ 1125899906842624) (hl : n ≤ 140737488351232) : Ev (fun k => laws_heldPutS.f k (markL a n) a) (a + 2 * n) := by
  unfold laws_heldPutS.f
  have h := held_loop a ha ha2 n hl n 0 (by omega) (by omega)
  simpa using h
end Go.Proofs.Ytaahjfjpbilfnaa.PutD
