/- Blocks as the laws copy and compare them, and what is wrong with blocks: the program's answer and the reference's are one. -/
import Derived.Test.YtmcljallamhccaaPBx3
import Derived.Test.YtmcljallamhccaaPBx1
import Derived.Test.YtmcljallamhccaaPBx2
import Derived.Test.YtmcljallamhccaaPBx3
import Derived.Test.YtmcljallamhccaaPBx2
import Derived.Test.YtmcljallamhccaaBSmall
namespace Go.Proofs.Ytmcljallamhccaa.BlkB
open Go.RowKit Go.Proofs.Ytmcljallamhccaa.PB Go.Proofs.YtmcljallamhccaaW.PrintWords Go.Proofs.Ytmcljallamhccaa.Lem Go.Proofs.Ytmcljallamhccaa.SmallB
set_option linter.unusedVariables false
set_option linter.unusedSimpArgs false
abbrev LB := S93
abbrev B := S46

def toB (b : LB) : B := ⟨b.f0, b.f1⟩
theorem rdL {l : List LB} {i : Nat} (h : i < l.length) : rd_T93 l (i : Int) = l[i] := by simp [rd_T93, h]
theorem rdB {l : List B} {i : Nat} (h : i < l.length) : rd_T46 l (i : Int) = l[i] := by simp [rd_T46, h]
theorem to_loop (l : List LB) (hl : l.length ≤ 140737488351232) : ∀ (d i : Nat) (x : List B), l.length - i = d → i ≤ l.length → x.length = l.length → x.take i = (l.map toB).take i → Ev (fun k => laws_toBlockS.l0 k l x (i : Int)) (l.map toB) := by
  intro d
  induction d with
  | zero =>
    intro i x hd hi hx ht
    refine ev_succ ?_
    simp only [laws_toBlockS.l0]
    simp only [if_neg (show ¬ (i : Int) < (l.length : Int) by omega)]
    refine ev_now ?_
    rw [List.take_of_length_le (by omega), List.take_of_length_le (by simp; omega)] at ht
    exact ht
  | succ d ih =>
    intro i x hd hi hx ht
    refine ev_succ ?_
    simp only [laws_toBlockS.l0, laws_toBlock.f, Option.bind_some]
    simp only [if_pos (show (i : Int) < (l.length : Int) by omega), if_pos (show 0 ≤ (i : Int) by omega), if_pos (show (i : Int) < (x.length : Int) by omega), wrap_succ (show i < l.length by omega) hl]
    refine ih (i + 1) _ (by omega) (by omega) (by rw [List.length_set]; exact hx) ?_
    exact take_succ_set (l.map toB) x i _ (by simp; omega) (by simp; omega) ht (by rw [rdL (by omega)]; simp [toB])
theorem to_ev (l : List LB) (hl : l.length ≤ 1048576) : Ev (fun k => laws_toBlockS.f k l) (l.map toB) := by
  unfold laws_toBlockS.f
  simp only [if_pos (show 0 ≤ (l.length : Int) by omega), if_pos (show ((l.length : Int) : Int).toNat ≤ 17592186044416 by omega)]
  exact to_loop l (by omega) l.length 0 _ (by omega) (by omega) (by simp) (by simp)
theorem eq_loop (l : List B) (hl : l.length ≤ 140737488351232) : ∀ (d i : Nat), l.length - i = d → i ≤ l.length → Ev (fun k => laws_eqBlockS.l0 k l l (i : Int)) true := by
  intro d
  induction d with
  | zero =>
    intro i hd hi
    refine ev_succ ?_
    simp only [laws_eqBlockS.l0]
    simp only [if_neg (show ¬ (i : Int) < (l.length : Int) by omega)]
    exact ev_now rfl
  | succ d ih =>
    intro i hd hi
    refine ev_succ ?_
    simp only [laws_eqBlockS.l0, laws_eqBlock.f, if_true, Option.bind_some]
    simp only [if_pos (show (i : Int) < (l.length : Int) by omega), if_pos (show 0 ≤ (i : Int) by omega), if_true, wrap_succ (show i < l.length by omega) hl]
    exact ih (i + 1) (by omega) (by omega)
theorem eq_ev (l : List B) (hl : l.length ≤ 140737488351232) : Ev (fun k => laws_eqBlockS.f k l l) true := by
  unfold laws_eqBlockS.f
  simp only [if_true]
  exact eq_loop l hl l.length 0 (by omega) (by omega)
theorem sz_eq (l : List LB) (a : Int) (ha : 0 ≤ a) (ha2 : a ≤ 1048576) (hl : l.length ≤ 140737488351232) : laws_szBlockS.f l a = some (if a - l.length < 0 then -1 else a - l.length) := by
  unfold laws_szBlockS.f
  rw [wrap_id (by omega) (by omega)]
  split <;> rfl

theorem l3Data_eq (a : Int) : spec_l3Data.f a = some (inB a 0 255) := by unfold spec_l3Data.f; rw [l1In_eq]; rfl
theorem isByte_eq (a : Int) : impl_isByte.f a = some (inB a 0 255) := by unfold impl_isByte.f; rw [within_eq]; rfl
theorem areRefs_eq (a : Int) : impl_areRefs.f a = some (inB a 0 200) := by unfold impl_areRefs.f; rw [within_eq]; rfl
def bfL : List B → Int
  | [] => 0
  | b :: r => if (inB b.f0 0 200 && inB b.f1 0 255) = true then (if b.f0 = 0 then (if b.f1 = 0 then bfL r else 1) else bfL r) else 3
def bf (l : List B) : Int := if (l.length : Int) > 24 then 2 else bfL l
theorem spec_loop (l : List B) (hl : l.length ≤ 140737488351232) : ∀ (d i : Nat), l.length - i = d → i ≤ l.length → Ev (fun k => spec_BlocksFault.l0 k l (i : Int)) (bfL (l.drop i)) := by
  intro d
  induction d with
  | zero =>
    intro i hd hi
    refine ev_succ ?_
    simp only [spec_BlocksFault.l0]
    simp only [if_neg (show ¬ (i : Int) < (l.length : Int) by omega)]
    exact ev_now (by rw [List.drop_of_length_le (by omega)]; rfl)
  | succ d ih =>
    intro i hd hi
    have hlt : i < l.length := by omega
    have ih' := ih (i + 1) (by omega) (by omega)
    rw [List.drop_eq_getElem_cons hlt]
    refine ev_succ ?_
    simp only [spec_BlocksFault.l0, l1In_eq, l3Data_eq, Option.bind_some, rdB hlt, bfL]
    simp only [if_pos (show (i : Int) < (l.length : Int) by omega), if_pos (show 0 ≤ (i : Int) by omega)]
    cases h1 : inB l[i].f0 0 200
    · simp only [Bool.false_and, Bool.false_eq_true, if_false]
      refine ev_succ ?_
      simp only [spec_BlocksFault.j1, if_true]
      exact ev_now rfl
    · cases h2 : inB l[i].f1 0 255
      · simp only [Bool.and_false, Bool.false_eq_true, if_false, if_true]
        refine ev_succ ?_
        simp only [spec_BlocksFault.j1, Bool.not_false, if_true]
        exact ev_now rfl
      · simp only [Bool.and_true, if_true]
        refine ev_succ ?_
        simp only [spec_BlocksFault.j1, Bool.not_true, Bool.false_eq_true, if_false, rdB hlt]
        simp only [if_pos (show (i : Int) < (l.length : Int) by omega), if_pos (show 0 ≤ (i : Int) by omega), wrap_succ hlt hl]
        by_cases h3 : l[i].f0 = 0
        · simp only [if_pos h3]
          by_cases h4 : l[i].f1 = 0
          · simp only [if_pos h4]; exact ih'
          · simp only [if_neg h4]; exact ev_now rfl
        · simp only [if_neg h3]; exact ih'
theorem spec_ev (l : List B) (hl : l.length ≤ 140737488351232) : Ev (fun k => spec_BlocksFault.f k l) (bf l) := by
  unfold spec_BlocksFault.f bf
  by_cases h : (l.length : Int) > 24
  · simp only [if_pos h]; exact ev_now rfl
  · simp only [if_neg h]; exact spec_loop l hl l.length 0 (by omega) (by omega)
theorem impl_loop (l : List B) (hl : l.length ≤ 140737488351232) : ∀ (d i : Nat), l.length - i = d → i ≤ l.length → Ev (fun k => impl_BlocksFault.l0 k l (l.length : Int) (i : Int)) (bfL (l.drop i)) := by
  intro d
  induction d with
  | zero =>
    intro i hd hi
    refine ev_succ ?_
    simp only [impl_BlocksFault.l0]
    simp only [if_neg (show ¬ (i : Int) < (l.length : Int) by omega)]
    exact ev_now (by rw [List.drop_of_length_le (by omega)]; rfl)
  | succ d ih =>
    intro i hd hi
    have hlt : i < l.length := by omega
    have ih' := ih (i + 1) (by omega) (by omega)
    rw [List.drop_eq_getElem_cons hlt]
    refine ev_succ ?_
    simp only [impl_BlocksFault.l0, areRefs_eq, isByte_eq, Option.bind_some, rdB hlt, bfL]
    simp only [if_pos (show (i : Int) < (l.length : Int) by omega), if_pos (show 0 ≤ (i : Int) by omega)]
    cases h1 : inB l[i].f0 0 200
    · simp only [Bool.false_and, Bool.false_eq_true, if_false]
      refine ev_succ ?_
      simp only [impl_BlocksFault.j1, if_true]
      exact ev_now rfl
    · cases h2 : inB l[i].f1 0 255
      · simp only [Bool.and_false, Bool.false_eq_true, if_false, if_true]
        refine ev_succ ?_
        simp only [impl_BlocksFault.j1, Bool.not_false, if_true]
        exact ev_now rfl
      · simp only [Bool.and_true, if_true]
        refine ev_succ ?_
        simp only [impl_BlocksFault.j1, Bool.not_true, Bool.false_eq_true, if_false]
        simp only [wrap_succ hlt hl]
        by_cases h3 : l[i].f0 = 0
        · simp only [if_pos h3]
          by_cases h4 : l[i].f1 = 0
          · simp only [if_pos h4]; exact ih'
          · simp only [if_neg h4]; exact ev_now rfl
        · simp only [if_neg h3]; exact ih'
theorem impl_ev (l : List B) (hl : l.length ≤ 140737488351232) : Ev (fun k => impl_BlocksFault.f k l) (bf l) := by
  unfold impl_BlocksFault.f bf
  by_cases h : (l.length : Int) > 24
  · simp only [if_pos h]; exact ev_now rfl
  · simp only [if_neg h]; exact impl_loop l hl l.length 0 (by omega) (by omega)
end Go.Proofs.Ytmcljallamhccaa.BlkB
