import Derived.Test.YtaahjfjpbilfnaaPDx33
import Derived.Test.YtaahjfjpbilfnaaPDx8
import Derived.Test.YtaahjfjpbilfnaaPDx11
import Derived.Test.YtaahjfjpbilfnaaPDx6
import Derived.Test.YtaahjfjpbilfnaaPDx7
import Derived.Test.YtaahjfjpbilfnaaPDx9
import Derived.Test.YtaahjfjpbilfnaaPDx4
import Derived.Test.YtaahjfjpbilfnaaPDx2
import Derived.Test.YtaahjfjpbilfnaaWAllMoreInvWordsWGuard
import Derived.Test.YtaahjfjpbilfnaaPDx12
import Derived.Test.YtaahjfjpbilfnaaPDx23
import Derived.Test.YtaahjfjpbilfnaaPDx3
import Derived.Test.YtaahjfjpbilfnaaPDx1
import Derived.Test.YtaahjfjpbilfnaaPDx21
import Derived.Test.YtaahjfjpbilfnaaPDx20
import Derived.Test.YtaahjfjpbilfnaaPDx5
import Derived.Test.YtaahjfjpbilfnaaPDx10
import Derived.Test.YtaahjfjpbilfnaaPDx30
import Derived.Test.YtaahjfjpbilfnaaPDx19
import Derived.Test.YtaahjfjpbilfnaaPDx17
import Derived.Test.YtaahjfjpbilfnaaPDx29
import Derived.Test.YtaahjfjpbilfnaaPDx27
import Derived.Test.YtaahjfjpbilfnaaPDx16
import Derived.Test.YtaahjfjpbilfnaaPDx28
import Derived.Test.YtaahjfjpbilfnaaPDx13
import Derived.Test.YtaahjfjpbilfnaaPDx14
import Derived.Test.YtaahjfjpbilfnaaPDx26
import Derived.Test.YtaahjfjpbilfnaaPDx25
import Derived.Test.YtaahjfjpbilfnaaPDx15
import Derived.Test.YtaahjfjpbilfnaaPDx24
import Derived.Test.YtaahjfjpbilfnaaPDx18
/- Small laws on rounds and on numbers, for the plain proofs. -/
namespace Go.Proofs.Ytaahjfjpbilfnaa.Lem
open Go.RowKit Go.Proofs.YtaahjfjpbilfnaaW.PrintWords
set_option linter.unusedVariables false
set_option linter.unusedSimpArgs false

theorem ev_eq {α : Type} {g : Nat → Option α} {r r' : α} (h : Ev g r) (e : r = r') : Ev g r' := e ▸ h
theorem ev_now {α : Type} {r r' : α} (e : r = r') : Ev (fun _ => some r) r' := e ▸ Ev.now r
theorem ev_some {α : Type} {g : Nat → Option α} {r : α} (h : ∀ k, g k = some r) : Ev g r := ⟨0, fun k _ => h k⟩
theorem ev_pos {α : Type} {c : Prop} [Decidable c] {f g : Nat → Option α} {r : α} (hc : c) (h : Ev f r) : Ev (fun k => if c then f k else g k) r := Ev.congr (fun k => if_pos hc) h
theorem ev_neg {α : Type} {c : Prop} [Decidable c] {f g : Nat → Option α} {r : α} (hc : ¬ c) (h : Ev g r) : Ev (fun k => if c then f k else g k) r := Ev.congr (fun k => if_neg hc) h
theorem ev_bind {α β : Type} {g : Nat → Option α} {f : Nat → α → Option β} {a : α} {r : β} (h : Ev g a) (k : Ev (fun n => f n a) r) : Ev (fun n => (g n).bind (f n)) r := Ev.bind h k
theorem ev_bind0 {α β : Type} {g : Option α} {f : Nat → α → Option β} {a : α} {r : β} (h : g = some a) (k : Ev (fun n => f n a) r) : Ev (fun n => g.bind (f n)) r := Ev.congr (fun n => by rw [h]; rfl) k
theorem ev_step {α : Type} {g f : Nat → Option α} {r : α} (h : ∀ k, g (k + 1) = f k) (k : Ev f r) : Ev g r := Ev.step h k

theorem ev_succ {α : Type} {g : Nat → Option α} {r : α} (h : Ev (fun k => g (k + 1)) r) : Ev g r := Ev.step (fun _ => rfl) h
theorem wrap_id {x : Int} (h0 : -9223372036854775808 ≤ x) (h1 : x ≤ 9223372036854775807) : wrap64 x = x := by unfold wrap64; omega
theorem wrap_succ {i n : Nat} (h : i < n) (hn : n ≤ 140737488351232) : wrap64 ((i : Int) + 1) = ((i + 1 : Nat) : Int) := by unfold wrap64; omega
theorem rd_nat (l : List Int) (i : Nat) : rd l (i : Int) = l.getD i 0 := rfl
theorem rd_lt {l : List Int} {i : Nat} (h : i < l.length) : rd l (i : Int) = l[i] := by simp [rd, h]
theorem take_succ_set {α : Type} (l x : List α) (i : Nat) (v : α) (h : i < l.length) (hx : x.length = l.length) (ht : x.take i = l.take i) (hv : v = l[i]) : (x.set i v).take (i + 1) = l.take (i + 1) := by
  subst hv
  apply List.ext_getElem?
  intro j
  rw [List.getElem?_take, List.getElem?_take]
  by_cases hj : j < i + 1
  · rw [if_pos hj, if_pos hj]
    by_cases e : j = i
    · subst e
      rw [List.getElem?_set_self (by omega), List.getElem?_eq_getElem h]
    · rw [List.getElem?_set_ne (by omega)]
      have := congrArg (fun z => z[j]?) ht
      simpa [List.getElem?_take, show j < i by omega] using this
  · rw [if_neg hj, if_neg hj]
end Go.Proofs.Ytaahjfjpbilfnaa.Lem
/- Copying and comparing lists of numbers, as the laws do; the sum of words: the program's loop and the reference's come to one number. -/
namespace Go.Proofs.Ytaahjfjpbilfnaa.IntsD
open Go.RowKit Go.Proofs.Ytaahjfjpbilfnaa.PD Go.Proofs.YtaahjfjpbilfnaaW.PrintWords Go.Proofs.Ytaahjfjpbilfnaa.Lem
set_option linter.unusedVariables false
set_option linter.unusedSimpArgs false

theorem to_loop (l : List Int) (hl : l.length ≤ 140737488351232) : ∀ (d i : Nat) (x : List Int), l.length - i = d → i ≤ l.length → x.length = l.length → x.take i = l.take i → Ev (fun k => laws_toInt64S.l0 k l x (i : Int)) l := by
  intro d
  induction d with
  | zero =>
    intro i x hd hi hx ht
    refine ev_succ ?_
    simp only [laws_toInt64S.l0]
    simp only [if_neg (show ¬ (i : Int) < (l.length : Int) by omega)]
    refine ev_now ?_
    rw [List.take_of_length_le (by omega), List.take_of_length_le (by omega)] at ht
    exact ht
  | succ d ih =>
    intro i x hd hi hx ht
    refine ev_succ ?_
    simp only [laws_toInt64S.l0]
    simp only [if_pos (show (i : Int) < (l.length : Int) by omega), if_pos (show 0 ≤ (i : Int) by omega), if_pos (show (i : Int) < (x.length : Int) by omega), wrap_succ (show i < l.length by omega) hl]
    exact ih (i + 1) _ (by omega) (by omega) (by rw [List.length_set]; exact hx) (take_succ_set l x i _ (by omega) hx ht (rd_lt (by omega)))
theorem to_ev (l : List Int) (hl : l.length ≤ 35184372088832) : Ev (fun k => laws_toInt64S.f k l) l := by
  unfold laws_toInt64S.f
  simp only [if_pos (show 0 ≤ (l.length : Int) by omega), if_pos (show ((l.length : Int) : Int).toNat ≤ 35184372088832 by omega)]
  exact to_loop l (by omega) l.length 0 _ (by omega) (by omega) (by simp) (by simp)
theorem eq_loop (l : List Int) (hl : l.length ≤ 140737488351232) : ∀ (d i : Nat), l.length - i = d → i ≤ l.length → Ev (fun k => laws_eqInt64S.l0 k l l (i : Int)) true := by
  intro d
  induction d with
  | zero =>
    intro i hd hi
    refine ev_succ ?_
    simp only [laws_eqInt64S.l0]
    simp only [if_neg (show ¬ (i : Int) < (l.length : Int) by omega)]
    exact ev_now rfl
  | succ d ih =>
    intro i hd hi
    refine ev_succ ?_
    simp only [laws_eqInt64S.l0]
    simp only [if_pos (show (i : Int) < (l.length : Int) by omega), if_pos (show 0 ≤ (i : Int) by omega), if_true, wrap_succ (show i < l.length by omega) hl]
    exact ih (i + 1) (by omega) (by omega)
theorem eq_ev (l : List Int) (hl : l.length ≤ 140737488351232) : Ev (fun k => laws_eqInt64S.f k l l) true := by
  unfold laws_eqInt64S.f
  simp only [if_true]
  exact eq_loop l hl l.length 0 (by omega) (by omega)
end Go.Proofs.Ytaahjfjpbilfnaa.IntsD
/- Marking numbers and looking at marked ones, as the laws do. -/
namespace Go.Proofs.Ytaahjfjpbilfnaa.IntsD
open Go.RowKit Go.Proofs.Ytaahjfjpbilfnaa.PD Go.Proofs.YtaahjfjpbilfnaaW.PrintWords Go.Proofs.Ytaahjfjpbilfnaa.Lem
set_option linter.unusedVariables false
set_option linter.unusedSimpArgs false

def markL (a : Int) (n : Nat) : List Int := (List.range n).map fun i : Nat => a + i
theorem markL_length (a : Int) (n : Nat) : (markL a n).length = n := by simp [markL]
theorem markL_get (a : Int) (n i : Nat) (h : i < (markL a n).length) : (markL a n)[i] = a + i := by simp [markL]
theorem mark_loop (a : Int) (ha : 0 ≤ a) (ha2 : a ≤ 1125899906842624) (n : Nat) (hn : n ≤ 140737488351232) : ∀ (d i : Nat) (x : List Int), n - i = d → i ≤ n → x.length = n → x.take i = (markL a n).take i → Ev (fun k => laws_markInt64S.l0 k x (a + i) (i : Int)) (a + n, markL a n) := by
  intro d
  induction d with
  | zero =>
    intro i x hd hi hx ht
    refine ev_succ ?_
    simp only [laws_markInt64S.l0]
    simp only [if_neg (show ¬ (i : Int) < (x.length : Int) by omega)]
    have e : i = n := by omega
    subst e
    rw [List.take_of_length_le (by omega), List.take_of_length_le (by rw [markL_length]; omega)] at ht
    exact ev_now (by rw [ht])
  | succ d ih =>
    intro i x hd hi hx ht
    refine ev_succ ?_
    simp only [laws_markInt64S.l0]
    have hlt : i < x.length := by omega
    simp only [if_pos (show (i : Int) < (x.length : Int) by omega), if_pos (show 0 ≤ (i : Int) by omega), Int.toNat_natCast, wrap_succ (show i < n by omega) hn]
    rw [wrap_id (show -9223372036854775808 ≤ a + (i : Int) + 1 by omega) (by omega), show a + (i : Int) + 1 = a + ((i + 1 : Nat) : Int) by omega]
    exact ih (i + 1) _ (by omega) (by omega) (by rw [List.length_set]; exact hx) (take_succ_set (markL a n) x i _ (by rw [markL_length]; omega) (by rw [markL_length]; exact hx) ht (by rw [markL_get]))
theorem mark_ev (l : List Int) (a : Int) (ha : 0 ≤ a) (ha2 : a ≤ 1125899906842624) (hl : l.length ≤ 140737488351232) : Ev (fun k => laws_markInt64S.f k l a) (a + l.length, markL a l.length) := by
  unfold laws_markInt64S.f
  have h := mark_loop a ha ha2 l.length hl l.length 0 l (by omega) (by omega) rfl (by simp)
  simpa using h
theorem held_loop (a : Int) (ha : 0 ≤ a) (ha2 : a ≤ 1125899906842624) (n : Nat) (hn : n ≤ 140737488351232) : ∀ (d i : Nat), n - i = d → i ≤ n → Ev (fun k => laws_heldInt64S.l0 k (markL a n) (a + i) (i : Int)) (a + n) := by
  intro d
  induction d with
  | zero =>
    intro i hd hi
    refine ev_succ ?_
    simp only [laws_heldInt64S.l0]
    simp only [markL_length, if_neg (show ¬ (i : Int) < (n : Int) by omega)]
    exact ev_now (by omega)
  | succ d ih =>
    intro i hd hi
    refine ev_succ ?_
    simp only [laws_heldInt64S.l0]
    have hlt : i < (markL a n).length := by rw [markL_length]; omega
    simp only [markL_length, if_pos (show (i : Int) < (n : Int) by omega), if_pos (show 0 ≤ (i : Int) by omega), rd_lt hlt, markL_get, if_true, wrap_succ (show i < n by omega) hn]
    rw [wrap_id (show -9223372036854775808 ≤ a + (i : Int) + 1 by omega) (by omega), show a + (i : Int) + 1 = a + ((i + 1 : Nat) : Int) by omega]
    exact ih (i + 1) (by omega) (by omega)
theorem held_ev (n : Nat) (a : Int) (ha : 0 ≤ a) (ha2 : a ≤ 1125899906842624) (hl : n ≤ 140737488351232) : Ev (fun k => laws_heldInt64S.f k (markL a n) a) (a + n) := by
  unfold laws_heldInt64S.f
  have h := held_loop a ha ha2 n hl n 0 (by omega) (by omega)
  simpa using h
end Go.Proofs.Ytaahjfjpbilfnaa.IntsD
/- Whether a number lies between two others, as the program and the reference ask it. -/
namespace Go.Proofs.Ytaahjfjpbilfnaa.SmallD
open Go.RowKit Go.Proofs.Ytaahjfjpbilfnaa.PD Go.Proofs.YtaahjfjpbilfnaaW.PrintWords Go.Proofs.Ytaahjfjpbilfnaa.Lem
set_option linter.unusedVariables false
set_option linter.unusedSimpArgs false

def inB (a b c : Int) : Bool := decide (b ≤ a) && decide (a ≤ c)
theorem inB_iff {a b c : Int} : inB a b c = true ↔ b ≤ a ∧ a ≤ c := by simp [inB]
theorem inB_not {a b c : Int} : inB a b c = false ↔ a < b ∨ c < a := by simp [inB]; omega
theorem l1In_eq (a b c : Int) : spec_l1In.f a b c = some (inB a b c) := by
  unfold spec_l1In.f inB
  by_cases h : b ≤ a
  · rw [if_pos h]; simp [h]
  · rw [if_neg h]; simp [h]
theorem within_eq (a b c : Int) : impl_within.f a b c = some (inB a b c) := by
  unfold impl_within.f inB
  by_cases h : b ≤ a
  · rw [if_pos h]; simp [h]
  · rw [if_neg h]; simp [h]
end Go.Proofs.Ytaahjfjpbilfnaa.SmallD
/- Whether all numbers of a list are words, as the program finds it, and what is wrong with a record. -/
namespace Go.Proofs.Ytaahjfjpbilfnaa.WordsD
open Go.RowKit Go.Proofs.Ytaahjfjpbilfnaa.PD Go.Proofs.YtaahjfjpbilfnaaW.PrintWords Go.Proofs.Ytaahjfjpbilfnaa.Lem Go.Proofs.Ytaahjfjpbilfnaa.SmallD
set_option linter.unusedVariables false
set_option linter.unusedSimpArgs false

def isW (n : Int) : Bool := inB n 0 65535
theorem l1Word_eq (a : Int) : spec_l1Word.f a = some (isW a) := by unfold spec_l1Word.f; rw [l1In_eq]; rfl
theorem notW_eq (a : Int) : impl_areWords_1.f a = some (!isW a) := by unfold impl_areWords_1.f impl_isWord.f; rw [within_eq]; rfl
theorem idx_loop (l : List Int) (hl : l.length ≤ 140737488351232) : ∀ (d i : Nat), l.length - i = d → i ≤ l.length → ∃ r : Int, Ev (fun k => slices_IndexFunc_int64__impl_areWords_1.l0 k l (l.length : Int) (i : Int)) r ∧ decide (r ≥ 0) = !((l.drop i).all isW) := by
  intro d
  induction d with
  | zero =>
    intro i hd hi
    refine ⟨-1, ev_succ ?_, by rw [List.drop_of_length_le (by omega)]; rfl⟩
    simp only [slices_IndexFunc_int64__impl_areWords_1.l0]
    simp only [if_neg (show ¬ (i : Int) < (l.length : Int) by omega)]
    exact ev_now rfl
  | succ d ih =>
    intro i hd hi
    have hlt : i < l.length := by omega
    rw [List.drop_eq_getElem_cons hlt]
    cases h : isW l[i]
    · refine ⟨i, ev_succ ?_, by simp only [List.all_cons, h, Bool.false_and, Bool.not_false, decide_eq_true_eq]; omega⟩
      simp only [slices_IndexFunc_int64__impl_areWords_1.l0, notW_eq, rd_lt hlt, h, Option.bind_some, Bool.not_false, if_true]
      simp only [if_pos (show (i : Int) < (l.length : Int) by omega), if_pos (show 0 ≤ (i : Int) by omega)]
      exact ev_now rfl
    · obtain ⟨r, h1, h2⟩ := ih (i + 1) (by omega) (by omega)
      refine ⟨r, ev_succ ?_, by rw [h2]; simp only [List.all_cons, h, Bool.true_and]⟩
      simp only [slices_IndexFunc_int64__impl_areWords_1.l0, notW_eq, rd_lt hlt, h, Option.bind_some, Bool.not_true, Bool.false_eq_true, if_false]
      simp only [if_pos (show (i : Int) < (l.length : Int) by omega), if_pos (show 0 ≤ (i : Int) by omega), wrap_succ hlt hl]
      exact h1
theorem areWords_ev (l : List Int) (hl : l.length ≤ 140737488351232) : Ev (fun k => impl_areWords.f k l) (l.all isW) := by
  unfold impl_areWords.f slices_ContainsFunc_int64__impl_areWords_1.f slices_IndexFunc_int64__impl_areWords_1.f
  obtain ⟨r, h1, h2⟩ := idx_loop l hl l.length 0 (by omega) (by omega)
  refine ev_bind (ev_bind h1 (ev_now rfl)) (ev_now ?_)
  rw [h2]; simp
end Go.Proofs.Ytaahjfjpbilfnaa.WordsD
/- Puts as the laws copy, compare, mark and look at them. (Lines of Blk and BlkMark, turned by a program to puts.) -/
namespace Go.Proofs.Ytaahjfjpbilfnaa.PutD
open Go.RowKit Go.Proofs.Ytaahjfjpbilfnaa.PD Go.Proofs.YtaahjfjpbilfnaaW.PrintWords Go.Proofs.Ytaahjfjpbilfnaa.Lem Go.Proofs.Ytaahjfjpbilfnaa.SmallD
set_option linter.unusedVariables false
set_option linter.unusedSimpArgs false
abbrev LB := S115
abbrev B := S53

def toB (b : LB) : B := ⟨b.f0, b.f1⟩
theorem rdL {l : List LB} {i : Nat} (h : i < l.length) : rd_T115 l (i : Int) = l[i] := by simp [rd_T115, h]
theorem rdB {l : List B} {i : Nat} (h : i < l.length) : rd_T53 l (i : Int) = l[i] := by simp [rd_T53, h]
theorem to_loop (l : List LB) (hl : l.length ≤ 140737488351232) : ∀ (d i : Nat) (x : List B), l.length - i = d → i ≤ l.length → x.length = l.length → x.take i = (l.map toB).take i → Ev (fun k => laws_toPutS.l0 k l x (i : Int)) (l.map toB) := by
  intro d
  induction d with
  | zero =>
    intro i x hd hi hx ht
    refine ev_succ ?_
    simp only [laws_toPutS.l0]
    simp only [if_neg (show ¬ (i : Int) < (l.length : Int) by omega)]
    refine ev_now ?_
    rw [List.take_of_length_le (by omega), List.take_of_length_le (by simp; omega)] at ht
    exact ht
  | succ d ih =>
    intro i x hd hi hx ht
    refine ev_succ ?_
    simp only [laws_toPutS.l0, laws_toPut.f, Option.bind_some]
    simp only [if_pos (show (i : Int) < (l.length : Int) by omega), if_pos (show 0 ≤ (i : Int) by omega), if_pos (show (i : Int) < (x.length : Int) by omega), wrap_succ (show i < l.length by omega) hl]
    refine ih (i + 1) _ (by omega) (by omega) (by rw [List.length_set]; exact hx) ?_
    exact take_succ_set (l.map toB) x i _ (by simp; omega) (by simp; omega) ht (by rw [rdL (by omega)]; simp [toB])
theorem to_ev (l : List LB) (hl : l.length ≤ 1048576) : Ev (fun k => laws_toPutS.f k l) (l.map toB) := by
  unfold laws_toPutS.f
  simp only [if_pos (show 0 ≤ (l.length : Int) by omega), if_pos (show ((l.length : Int) : Int).toNat ≤ 17592186044416 by omega)]
  exact to_loop l (by omega) l.length 0 _ (by omega) (by omega) (by simp) (by simp)
theorem eq_loop (l : List B) (hl : l.length ≤ 140737488351232) : ∀ (d i : Nat), l.length - i = d → i ≤ l.length → Ev (fun k => laws_eqPutS.l0 k l l (i : Int)) true := by
  intro d
  induction d with
  | zero =>
    intro i hd hi
    refine ev_succ ?_
    simp only [laws_eqPutS.l0]
    simp only [if_neg (show ¬ (i : Int) < (l.length : Int) by omega)]
    exact ev_now rfl
  | succ d ih =>
    intro i hd hi
    refine ev_succ ?_
    simp only [laws_eqPutS.l0, laws_eqPut.f, if_true, Option.bind_some]
    simp only [if_pos (show (i : Int) < (l.length : Int) by omega), if_pos (show 0 ≤ (i : Int) by omega), if_true, wrap_succ (show i < l.length by omega) hl]
    exact ih (i + 1) (by omega) (by omega)
theorem eq_ev (l : List B) (hl : l.length ≤ 140737488351232) : Ev (fun k => laws_eqPutS.f k l l) true := by
  unfold laws_eqPutS.f
  simp only [if_true]
  exact eq_loop l hl l.length 0 (by omega) (by omega)
theorem sz_eq (l : List LB) (a : Int) (ha : 0 ≤ a) (ha2 : a ≤ 1048576) (hl : l.length ≤ 140737488351232) : laws_szPutS.f l a = some (if a - l.length < 0 then -1 else a - l.length) := by
  unfold laws_szPutS.f
  rw [wrap_id (by omega) (by omega)]
  split <;> rfl

def markL (a : Int) (n : Nat) : List B := (List.range n).map fun i : Nat => (⟨a + 2 * i, a + 2 * i + 1⟩ : B)
theorem markL_length (a : Int) (n : Nat) : (markL a n).length = n := by simp [markL]
theorem markL_get (a : Int) (n i : Nat) (h : i < (markL a n).length) : (markL a n)[i] = ⟨a + 2 * i, a + 2 * i + 1⟩ := by simp [markL]
theorem mark_loop (a : Int) (ha : 0 ≤ a) (ha2 : a ≤ 1125899906842624) (n : Nat) (hn : n ≤ 140737488351232) : ∀ (d i : Nat) (x : List B), n - i = d → i ≤ n → x.length = n → x.take i = (markL a n).take i → Ev (fun k => laws_markPutS.l0 k x (a + 2 * i) (i : Int)) (a + 2 * n, markL a n) := by
  intro d
  induction d with
  | zero =>
    intro i x hd hi hx ht
    refine ev_succ ?_
    simp only [laws_markPutS.l0]
    simp only [if_neg (show ¬ (i : Int) < (x.length : Int) by omega)]
    have e : i = n := by omega
    subst e
    rw [List.take_of_length_le (by omega), List.take_of_length_le (by rw [markL_length]; omega)] at ht
    exact ev_now (by rw [ht])
  | succ d ih =>
    intro i x hd hi hx ht
    refine ev_succ ?_
    simp only [laws_markPutS.l0, Option.bind_some]
    have hlt : i < x.length := by omega
    have hlt2 : ∀ v, i < (x.set i v).length := fun v => by rw [List.length_set]; exact hlt
    simp only [if_pos (show (i : Int) < (x.length : Int) by omega), if_pos (show 0 ≤ (i : Int) by omega), Int.toNat_natCast, rdB (hlt2 _), List.getElem_set_self, List.set_set, wrap_succ (show i < n by omega) hn]
    rw [wrap_id (show -9223372036854775808 ≤ a + 2 * (i : Int) + 1 by omega) (by omega), wrap_id (show -9223372036854775808 ≤ a + 2 * (i : Int) + 1 + 1 by omega) (by omega), show a + 2 * (i : Int) + 1 + 1 = a + 2 * ((i + 1 : Nat) : Int) by omega]
    exact ih (i + 1) _ (by omega) (by omega) (by rw [List.length_set]; exact hx) (take_succ_set (markL a n) x i _ (by rw [markL_length]; omega) (by rw [markL_length]; exact hx) ht (by rw [markL_get]))
theorem mark_ev (l : List B) (a : Int) (ha : 0 ≤ a) (ha2 : a ≤ 1125899906842624) (hl : l.length ≤ 140737488351232) : Ev (fun k => laws_markPutS.f k l a) (a + 2 * l.length, markL a l.length) := by
  unfold laws_markPutS.f
  have h := mark_loop a ha ha2 l.length hl l.length 0 l (by omega) (by omega) rfl (by simp)
  simpa using h
theorem held_loop (a : Int) (ha : 0 ≤ a) (ha2 : a ≤ 1125899906842624) (n : Nat) (hn : n ≤ 140737488351232) : ∀ (d i : Nat), n - i = d → i ≤ n → Ev (fun k => laws_heldPutS.l0 k (markL a n) (a + 2 * i) (i : Int)) (a + 2 * n) := by
  intro d
  induction d with
  | zero =>
    intro i hd hi
    refine ev_succ ?_
    simp only [laws_heldPutS.l0]
    simp only [markL_length, if_neg (show ¬ (i : Int) < (n : Int) by omega)]
    exact ev_now (by omega)
  | succ d ih =>
    intro i hd hi
    refine ev_succ ?_
    simp only [laws_heldPutS.l0]
    have hlt : i < (markL a n).length := by rw [markL_length]; omega
    simp only [markL_length, if_pos (show (i : Int) < (n : Int) by omega), if_pos (show 0 ≤ (i : Int) by omega), rdB hlt, markL_get, if_true, wrap_succ (show i < n by omega) hn]
    rw [wrap_id (show -9223372036854775808 ≤ a + 2 * (i : Int) + 1 by omega) (by omega), wrap_id (show -9223372036854775808 ≤ a + 2 * (i : Int) + 1 + 1 by omega) (by omega), show a + 2 * (i : Int) + 1 + 1 = a + 2 * ((i + 1 : Nat) : Int) by omega]
    simp only [if_true]
    exact ih (i + 1) (by omega) (by omega)
theorem held_ev (n : Nat) (a : Int) (ha : 0 ≤ a) (ha2 : a ≤ 1125899906842624) (hl : n ≤ 140737488351232) : Ev (fun k => laws_heldPutS.f k (markL a n) a) (a + 2 * n) := by
  unfold laws_heldPutS.f
  have h := held_loop a ha ha2 n hl n 0 (by omega) (by omega)
  simpa using h
end Go.Proofs.Ytaahjfjpbilfnaa.PutD
/- Disks as the laws copy, compare, mark and look at them; what is wrong with a disk: the program's answer and the reference's are one. -/
namespace Go.Proofs.Ytaahjfjpbilfnaa.DiskD
open Go.RowKit Go.Proofs.Ytaahjfjpbilfnaa.PD Go.Proofs.YtaahjfjpbilfnaaW.PrintWords Go.Proofs.Ytaahjfjpbilfnaa.Lem Go.Proofs.Ytaahjfjpbilfnaa.SmallD Go.Proofs.Ytaahjfjpbilfnaa.WordsD
set_option linter.unusedVariables false
set_option linter.unusedSimpArgs false
abbrev LP := S115
abbrev P := S53
abbrev D := S30

theorem rdP {l : List P} {i : Nat} (h : i < l.length) : rd_T53 l (i : Int) = l[i] := PutD.rdB h
theorem rdD (d : D) : rd_T30 [d] 0 = d := by cases d; simp [rd_T30]
theorem to_ev (ws : List Int) (ps : List LP) (h : ws.length ≤ 1048576) (h2 : ps.length ≤ 1048576) : Ev (fun k => laws_toDisk.f k ws ps) (ws, ps.map PutD.toB) := by
  unfold laws_toDisk.f
  exact ev_bind (IntsD.to_ev ws (by omega)) (ev_bind (PutD.to_ev ps h2) (ev_now rfl))
theorem eq_ev (ws : List Int) (ps : List P) (h : ws.length ≤ 140737488351232) (h2 : ps.length ≤ 140737488351232) : Ev (fun k => laws_eqDisk.f k ws ps ws ps) true := by
  unfold laws_eqDisk.f
  refine ev_bind (IntsD.eq_ev ws h) ?_
  simp only [if_true]
  refine ev_bind (PutD.eq_ev ps h2) ?_
  simp only [if_true]
  exact ev_now rfl
theorem sz_ints (l : List Int) (a : Int) (ha : 0 ≤ a) (ha2 : a ≤ 1048576) (hl : l.length ≤ 140737488351232) : laws_szInt64S.f l a = some (if a - l.length < 0 then -1 else a - l.length) := by
  unfold laws_szInt64S.f
  rw [wrap_id (by omega) (by omega)]
  split <;> rfl
theorem sz_ok (ws : List Int) (ps : List LP) (h : ws.length ≤ 140737488351232) (h2 : ps.length ≤ 140737488351232) : ∃ t, laws_szDisk.f ws ps 1048576 = some t ∧ (¬ t < 0 → ws.length ≤ 1048576 ∧ ps.length ≤ 1048576) := by
  unfold laws_szDisk.f
  rw [sz_ints ws 1048576 (by omega) (by omega) h]
  simp only [Option.bind_some]
  by_cases c : (1048576 : Int) - ws.length < 0
  · exact ⟨-1, by simp only [if_pos c]; rfl, by omega⟩
  · simp only [if_neg c]
    rw [PutD.sz_eq ps _ (by omega) (by omega) h2]
    simp only [Option.bind_some]
    by_cases c2 : (1048576 : Int) - ws.length - ps.length < 0
    · exact ⟨-1, by simp only [if_pos c2]; rfl, by omega⟩
    · refine ⟨(1048576 : Int) - ws.length - ps.length, by simp only [if_neg c2], by omega⟩

def isP (n : Int) : Bool := inB n 0 63
def isPut (p : P) : Bool := isP p.f0 && isW p.f1
theorem l1Place_eq (a : Int) : spec_l1Place.f a = some (isP a) := by unfold spec_l1Place.f; rw [l1In_eq]; rfl
theorem isPlace_eq (a : Int) : impl_isPlace.f a = some (isP a) := by unfold impl_isPlace.f; rw [within_eq]; rfl
theorem isWord_eq (a : Int) : impl_isWord.f a = some (isW a) := by unfold impl_isWord.f; rw [within_eq]; rfl
theorem notP_eq (a b : Int) : impl_DiskFault_1.f a b = some (!(isP a && isW b)) := by
  unfold impl_DiskFault_1.f
  rw [isPlace_eq, isWord_eq]
  cases h : isP a <;> simp
def df (ws : List Int) (ps : List P) : Int := if (ws.length : Int) = 64 then (if (ps.length : Int) > 200 then 2 else (if ws.all isW = true then (if ps.all isPut = true then 0 else 3) else 3)) else 1
theorem idx_loop (l : List P) (hl : l.length ≤ 140737488351232) : ∀ (d i : Nat), l.length - i = d → i ≤ l.length → ∃ r : Int, Ev (fun k => slices_IndexFunc_impl_Put__impl_DiskFault_1.l0 k l (l.length : Int) (i : Int)) r ∧ decide (r ≥ 0) = !((l.drop i).all isPut) := by
  intro d
  induction d with
  | zero =>
    intro i hd hi
    refine ⟨-1, ev_succ ?_, by rw [List.drop_of_length_le (by omega)]; rfl⟩
    simp only [slices_IndexFunc_impl_Put__impl_DiskFault_1.l0]
    simp only [if_neg (show ¬ (i : Int) < (l.length : Int) by omega)]
    exact ev_now rfl
  | succ d ih =>
    intro i hd hi
    have hlt : i < l.length := by omega
    rw [List.drop_eq_getElem_cons hlt]
    cases h : isPut l[i]
    · have h' : (isP l[i].f0 && isW l[i].f1) = false := h
      refine ⟨i, ev_succ ?_, by simp only [List.all_cons, h, Bool.false_and, Bool.not_false, decide_eq_true_eq]; omega⟩
      simp only [slices_IndexFunc_impl_Put__impl_DiskFault_1.l0, notP_eq, rdP hlt, h', Option.bind_some, Bool.not_false, if_true]
      simp only [if_pos (show (i : Int) < (l.length : Int) by omega), if_pos (show 0 ≤ (i : Int) by omega)]
      exact ev_now rfl
    · have h' : (isP l[i].f0 && isW l[i].f1) = true := h
      obtain ⟨r, h1, h2⟩ := ih (i + 1) (by omega) (by omega)
      refine ⟨r, ev_succ ?_, by rw [h2]; simp only [List.all_cons, h, Bool.true_and]⟩
      simp only [slices_IndexFunc_impl_Put__impl_DiskFault_1.l0, notP_eq, rdP hlt, h', Option.bind_some, Bool.not_true, Bool.false_eq_true, if_false]
      simp only [if_pos (show (i : Int) < (l.length : Int) by omega), if_pos (show 0 ≤ (i : Int) by omega), wrap_succ hlt hl]
      exact h1
theorem impl_ev (ws : List Int) (ps : List P) (h : ws.length ≤ 140737488351232) (h2 : ps.length ≤ 140737488351232) : Ev (fun k => impl_DiskFault.f k ws ps) (df ws ps) := by
  unfold impl_DiskFault.f df
  by_cases c : (ws.length : Int) = 64
  · simp only [if_pos c]
    by_cases c2 : (ps.length : Int) > 200
    · simp only [if_pos c2]; exact ev_now rfl
    · simp only [if_neg c2]
      refine ev_bind (areWords_ev ws h) ?_
      by_cases c3 : ws.all isW = true
      · simp only [if_pos c3]
        unfold slices_ContainsFunc_impl_Put__impl_DiskFault_1.f slices_IndexFunc_impl_Put__impl_DiskFault_1.f
        obtain ⟨r, h1, h3⟩ := idx_loop ps h2 ps.length 0 (by omega) (by omega)
        rw [List.drop_zero] at h3
        refine ev_bind (ev_bind h1 (ev_now rfl)) ?_
        rw [h3]
        cases ps.all isPut
        · exact ev_now rfl
        · exact ev_now rfl
      · simp only [if_neg c3]; exact ev_now rfl
  · simp only [if_neg c]; exact ev_now rfl
theorem fault_puts (ws : List Int) (ps : List P) (h : ws.length ≤ 140737488351232) (h2 : ps.length ≤ 140737488351232) : ∀ (d i : Nat), ps.length - i = d → i ≤ ps.length → Ev (fun k => spec_l1Fault.l1 k ⟨ws, ps⟩ (i : Int)) (if (ps.drop i).all isPut = true then 0 else 3) := by
  intro d
  induction d with
  | zero =>
    intro i hd hi
    refine ev_succ ?_
    simp only [spec_l1Fault.l1, rdD]
    simp only [if_neg (show ¬ (i : Int) < (ps.length : Int) by omega)]
    exact ev_now (by rw [List.drop_of_length_le (by omega)]; rfl)
  | succ d ih =>
    intro i hd hi
    have hlt : i < ps.length := by omega
    have ih' := ih (i + 1) (by omega) (by omega)
    have e : (ps.drop i).all isPut = (isP ps[i].f0 && isW ps[i].f1 && (ps.drop (i + 1)).all isPut) := by rw [List.drop_eq_getElem_cons hlt]; rfl
    rw [e]
    refine ev_succ ?_
    simp only [spec_l1Fault.l1, rdD, rdP hlt, l1Place_eq, l1Word_eq, Option.bind_some]
    simp only [if_pos (show (i : Int) < (ps.length : Int) by omega), if_pos (show 0 ≤ (i : Int) by omega), wrap_succ hlt h2]
    cases h3 : isP ps[i].f0
    · simp only [Bool.false_and, Bool.false_eq_true, if_false]; exact ev_now rfl
    · cases h4 : isW ps[i].f1
      · simp only [Bool.false_and, Bool.true_and, Bool.false_eq_true, if_false, if_true]; exact ev_now rfl
      · simp only [Bool.true_and, if_true]; exact ih'
theorem fault_words (ws : List Int) (ps : List P) (h : ws.length ≤ 140737488351232) (h2 : ps.length ≤ 140737488351232) : ∀ (d i : Nat), ws.length - i = d → i ≤ ws.length → Ev (fun k => spec_l1Fault.l0 k ⟨ws, ps⟩ (i : Int)) (if (ws.drop i).all isW = true then (if ps.all isPut = true then 0 else 3) else 3) := by
  intro d
  induction d with
  | zero =>
    intro i hd hi
    refine ev_succ ?_
    simp only [spec_l1Fault.l0, rdD]
    simp only [if_neg (show ¬ (i : Int) < (ws.length : Int) by omega)]
    have := fault_puts ws ps h h2 ps.length 0 (by omega) (by omega)
    rw [List.drop_of_length_le (by omega)]
    exact this
  | succ d ih =>
    intro i hd hi
    have hlt : i < ws.length := by omega
    have ih' := ih (i + 1) (by omega) (by omega)
    have e : (ws.drop i).all isW = (isW ws[i] && (ws.drop (i + 1)).all isW) := by rw [List.drop_eq_getElem_cons hlt]; rfl
    rw [e]
    refine ev_succ ?_
    simp only [spec_l1Fault.l0, rdD, rd_lt hlt, l1Word_eq, Option.bind_some]
    simp only [if_pos (show (i : Int) < (ws.length : Int) by omega), if_pos (show 0 ≤ (i : Int) by omega), wrap_succ hlt h]
    cases h3 : isW ws[i]
    · simp only [Bool.false_and, Bool.false_eq_true, if_false]; exact ev_now rfl
    · simp only [Bool.true_and, if_true]; exact ih'
theorem l1Fault_ev (ws : List Int) (ps : List P) (h : ws.length ≤ 140737488351232) (h2 : ps.length ≤ 140737488351232) : Ev (fun k => spec_l1Fault.f k ⟨ws, ps⟩) (df ws ps) := by
  unfold spec_l1Fault.f df
  simp only [rdD]
  by_cases c : (ws.length : Int) = 64
  · simp only [if_pos c]
    by_cases c2 : (ps.length : Int) > 200
    · simp only [if_pos c2]; exact ev_now rfl
    · simp only [if_neg c2]
      exact fault_words ws ps h h2 ws.length 0 (by omega) (by omega)
  · simp only [if_neg c]; exact ev_now rfl
structure Fine (ws : List Int) (ps : List P) : Prop where
  len : ws.length = 64
  many : ps.length ≤ 200
  words : ws.all isW = true
  puts : ps.all isPut = true
theorem fine {ws : List Int} {ps : List P} (h : df ws ps = 0) : Fine ws ps := by
  unfold df at h
  by_cases c : (ws.length : Int) = 64
  · rw [if_pos c] at h
    by_cases c2 : (ps.length : Int) > 200
    · rw [if_pos c2] at h; omega
    · rw [if_neg c2] at h
      by_cases c3 : ws.all isW = true
      · rw [if_pos c3] at h
        by_cases c4 : ps.all isPut = true
        · exact ⟨by omega, by omega, c3, c4⟩
        · rw [if_neg c4] at h; omega
      · rw [if_neg c3] at h; omega
  · rw [if_neg c] at h; omega
theorem Fine.df {ws : List Int} {ps : List P} (h : Fine ws ps) : DiskD.df ws ps = 0 := by
  unfold DiskD.df
  rw [if_pos (by have := h.len; omega), if_neg (by have := h.many; omega), if_pos h.words, if_pos h.puts]
theorem Fine.put {ws : List Int} {ps : List P} (h : Fine ws ps) {p : P} (hp : p ∈ ps) : 0 ≤ p.f0 ∧ p.f0 ≤ 63 := by
  have := List.all_eq_true.1 h.puts p hp
  simp only [isPut, Bool.and_eq_true] at this
  exact inB_iff.1 this.1
end Go.Proofs.Ytaahjfjpbilfnaa.DiskD
/- Marking disks and results that hold disks or numbers, and looking at marked ones, as the laws do. -/
namespace Go.Proofs.Ytaahjfjpbilfnaa.DiskD
open Go.RowKit Go.Proofs.Ytaahjfjpbilfnaa.PD Go.Proofs.YtaahjfjpbilfnaaW.PrintWords Go.Proofs.Ytaahjfjpbilfnaa.Lem Go.Proofs.Ytaahjfjpbilfnaa.SmallD
set_option linter.unusedVariables false
set_option linter.unusedSimpArgs false

def mkP (n m : Nat) : List P := PutD.markL (1 + n) m
theorem mark_ev (ws : List Int) (ps : List P) (h : ws.length ≤ 1048576) (h2 : ps.length ≤ 1048576) : Ev (fun k => laws_markDisk.f k ws ps 1) (1 + ws.length + 2 * ps.length, IntsD.markL 1 ws.length, mkP ws.length ps.length) := by
  unfold laws_markDisk.f
  exact ev_bind (IntsD.mark_ev ws 1 (by omega) (by omega) (by omega)) (ev_bind (PutD.mark_ev ps _ (by omega) (by omega) (by omega)) (ev_now rfl))
theorem held_ev (n m : Nat) (h : n ≤ 1048576) (h2 : m ≤ 1048576) : Ev (fun k => laws_heldDisk.f k (IntsD.markL 1 n) (mkP n m) 1) (1 + n + 2 * m) := by
  unfold laws_heldDisk.f
  refine ev_bind (IntsD.held_ev n 1 (by omega) (by omega) (by omega)) ?_
  simp only [if_neg (show ¬ (1 : Int) + n < 0 by omega)]
  refine ev_bind (PutD.held_ev m _ (by omega) (by omega) (by omega)) ?_
  simp only [if_neg (show ¬ (1 : Int) + n + 2 * m < 0 by omega)]
  exact ev_now rfl
theorem markRes_ev (c : Int) (ws : List Int) (ps : List P) (h : ws.length ≤ 1048576) (h2 : ps.length ≤ 1048576) : Ev (fun k => laws_markDiskResult.f k c ws ps 1) (1 + ws.length + 2 * ps.length, IntsD.markL 1 ws.length, mkP ws.length ps.length) := by
  unfold laws_markDiskResult.f
  exact ev_bind (mark_ev ws ps h h2) (ev_now rfl)
theorem heldRes_ev (c : Int) (n m : Nat) (h : n ≤ 1048576) (h2 : m ≤ 1048576) : Ev (fun k => laws_heldDiskResult.f k c (IntsD.markL 1 n) (mkP n m) 1) (1 + n + 2 * m) := by
  unfold laws_heldDiskResult.f
  refine ev_bind (held_ev n m h h2) ?_
  simp only [if_neg (show ¬ (1 : Int) + n + 2 * m < 0 by omega)]
  exact ev_now rfl
theorem eqRes_ev (c : Int) (ws : List Int) (ps : List P) (h : ws.length ≤ 1048576) (h2 : ps.length ≤ 1048576) : Ev (fun k => laws_eqDiskResult.f k c ws ps c ws ps) true := by
  unfold laws_eqDiskResult.f
  simp only [if_true]
  refine ev_bind (eq_ev ws ps (by omega) (by omega)) ?_
  simp only [if_true]
  exact ev_now rfl
end Go.Proofs.Ytaahjfjpbilfnaa.DiskD
/- What a disk reads as behind all that was put: the program's fold over the puts and the reference's last put are one list. -/
namespace Go.Proofs.Ytaahjfjpbilfnaa.DiskD
open Go.RowKit Go.Proofs.Ytaahjfjpbilfnaa.PD Go.Proofs.YtaahjfjpbilfnaaW.PrintWords Go.Proofs.Ytaahjfjpbilfnaa.Lem Go.Proofs.Ytaahjfjpbilfnaa.SmallD Go.Proofs.Ytaahjfjpbilfnaa.WordsD
set_option linter.unusedVariables false
set_option linter.unusedSimpArgs false

def fl : List Int → List P → List Int
  | ws, [] => ws
  | ws, p :: r => fl (ws.set p.f0.toNat p.f1) r
theorem fl_length : ∀ (ps : List P) (ws : List Int), (fl ws ps).length = ws.length
  | [], ws => rfl
  | p :: r, ws => by rw [fl, fl_length r]; exact List.length_set
theorem fl_append : ∀ (ps qs : List P) (ws : List Int), fl ws (ps ++ qs) = fl (fl ws ps) qs
  | [], qs, ws => rfl
  | p :: r, qs, ws => by rw [List.cons_append, fl, fl_append r qs, fl]
theorem clone_ints (l : List Int) (h : l.length < 17592186044416) : slices_Clone_int64.f l = some l := by
  unfold slices_Clone_int64.f
  simp only [Option.bind_some, List.length_nil, Nat.zero_add, if_pos h, List.nil_append]
theorem flush_loop (ps : List P) (hp : ps.length ≤ 140737488351232) : ∀ (d i : Nat) (ws : List Int), ps.length - i = d → i ≤ ps.length → (∀ p ∈ ps, 0 ≤ p.f0 ∧ p.f0 < ws.length) → Ev (fun k => impl_flushed.l0 k ws ps (ps.length : Int) (i : Int)) (fl ws (ps.drop i)) := by
  intro d
  induction d with
  | zero =>
    intro i ws hd hi hb
    refine ev_succ ?_
    simp only [impl_flushed.l0]
    simp only [if_neg (show ¬ (i : Int) < (ps.length : Int) by omega)]
    exact ev_now (by rw [List.drop_of_length_le (by omega)]; rfl)
  | succ d ih =>
    intro i ws hd hi hb
    have hlt : i < ps.length := by omega
    have b := hb _ (List.getElem_mem hlt)
    rw [List.drop_eq_getElem_cons hlt, fl]
    refine ev_succ ?_
    simp only [impl_flushed.l0, rdP hlt]
    simp only [if_pos (show (i : Int) < (ps.length : Int) by omega), if_pos (show 0 ≤ (i : Int) by omega), if_pos b.1, if_pos b.2, wrap_succ hlt hp]
    exact ih (i + 1) _ (by omega) (by omega) (by intro p hp'; rw [List.length_set]; exact hb p hp')
theorem flushed_ev (ws : List Int) (ps : List P) (h : ws.length ≤ 1048576) (hp : ps.length ≤ 140737488351232) (hb : ∀ p ∈ ps, 0 ≤ p.f0 ∧ p.f0 < ws.length) : Ev (fun k => impl_flushed.f k ws ps) (fl ws ps) := by
  unfold impl_flushed.f
  refine ev_bind0 (clone_ints ws (by omega)) ?_
  have := flush_loop ps hp ps.length 0 ws (by omega) (by omega) hb
  rwa [List.drop_zero] at this
theorem Fine.bound {ws : List Int} {ps : List P} (h : Fine ws ps) : ∀ p ∈ ps, 0 ≤ p.f0 ∧ p.f0 < ws.length := by
  intro p hp
  have := h.put hp
  have := h.len
  omega
theorem flush_fine {ws : List Int} {ps : List P} (h : Fine ws ps) : Ev (fun k => impl_flushed.f k ws ps) (fl ws ps) :=
  flushed_ev ws ps (by have := h.len; omega) (by have := h.many; omega) h.bound
theorem at_loop (ws : List Int) (ps : List P) (a : Nat) (ha : a < ws.length) (hp : ps.length ≤ 140737488351232) (hb : ∀ p ∈ ps, 0 ≤ p.f0 ∧ p.f0 < ws.length) : ∀ i, i ≤ ps.length → Ev (fun k => spec_l1At.l0 k ⟨ws, ps⟩ (a : Int) ((i : Int) - 1)) (rd (fl ws (ps.take i)) (a : Int)) := by
  intro i
  induction i with
  | zero =>
    intro hi
    refine ev_succ ?_
    simp only [spec_l1At.l0, rdD]
    simp only [if_neg (show ¬ ((0 : Nat) : Int) - 1 ≥ 0 by omega), if_pos (show 0 ≤ (a : Int) by omega), if_pos (show (a : Int) < (ws.length : Int) by omega)]
    exact ev_now (by rw [List.take_zero, fl])
  | succ i ih =>
    intro hi
    have hlt : i < ps.length := by omega
    have b := hb _ (List.getElem_mem hlt)
    have ih' := ih (by omega)
    have e : ps.take (i + 1) = ps.take i ++ [ps[i]] := by rw [List.take_add_one, List.getElem?_eq_getElem hlt]; rfl
    rw [e, fl_append, fl, fl]
    refine ev_succ ?_
    have e1 : ((i + 1 : Nat) : Int) - 1 = (i : Int) := by omega
    simp only [spec_l1At.l0, rdD, e1, rdP hlt]
    simp only [if_pos (show (i : Int) ≥ 0 by omega), if_pos (show 0 ≤ (i : Int) by omega), if_pos (show (i : Int) < (ps.length : Int) by omega), wrap_id (show -9223372036854775808 ≤ (i : Int) - 1 by omega) (by omega)]
    by_cases c : ps[i].f0 = (a : Int)
    · simp only [if_pos c]
      refine ev_now ?_
      rw [c, Int.toNat_natCast, rd_lt (by rw [List.length_set, fl_length]; exact ha), List.getElem_set_self]
    · simp only [if_neg c]
      have e2 : rd ((fl ws (ps.take i)).set ps[i].f0.toNat ps[i].f1) (a : Int) = rd (fl ws (ps.take i)) (a : Int) := by
        rw [rd_lt (by rw [List.length_set, fl_length]; exact ha), rd_lt (by rw [fl_length]; exact ha)]
        exact List.getElem_set_ne (by omega) _
      rw [e2]
      exact ih'
theorem at_ev (ws : List Int) (ps : List P) (a : Nat) (ha : a < ws.length) (hp : ps.length ≤ 140737488351232) (hb : ∀ p ∈ ps, 0 ≤ p.f0 ∧ p.f0 < ws.length) : Ev (fun k => spec_l1At.f k ⟨ws, ps⟩ (a : Int)) (rd (fl ws ps) (a : Int)) := by
  unfold spec_l1At.f
  simp only [rdD]
  rw [wrap_id (show -9223372036854775808 ≤ (ps.length : Int) - 1 by omega) (by omega)]
  have := at_loop ws ps a ha hp hb ps.length (by omega)
  rwa [List.take_of_length_le (by omega)] at this
theorem all_loop {ws : List Int} {ps : List P} (hf : Fine ws ps) : ∀ (d i : Nat), 64 - i = d → i ≤ 64 → Ev (fun k => spec_l1All.l0 k ⟨ws, ps⟩ ((fl ws ps).take i) (i : Int)) (fl ws ps) := by
  have hlen : (fl ws ps).length = 64 := by rw [fl_length, hf.len]
  intro d
  induction d with
  | zero =>
    intro i hd hi
    refine ev_succ ?_
    simp only [spec_l1All.l0]
    simp only [if_neg (show ¬ (i : Int) < 64 by omega)]
    exact ev_now (List.take_of_length_le (by omega))
  | succ d ih =>
    intro i hd hi
    have hlt : i < (fl ws ps).length := by omega
    refine ev_succ ?_
    simp only [spec_l1All.l0]
    simp only [if_pos (show (i : Int) < 64 by omega)]
    refine ev_bind (at_ev ws ps i (by have := hf.len; omega) (by have := hf.many; omega) hf.bound) ?_
    simp only [if_pos (show ((fl ws ps).take i).length < 17592186044416 by rw [List.length_take]; omega), wrap_succ (show i < 64 by omega) (by omega)]
    have e : (fl ws ps).take i ++ [rd (fl ws ps) (i : Int)] = (fl ws ps).take (i + 1) := by rw [rd_lt hlt, List.take_add_one, List.getElem?_eq_getElem hlt]; rfl
    rw [e]
    exact ih (i + 1) (by omega) (by omega)
theorem all_ev {ws : List Int} {ps : List P} (hf : Fine ws ps) : Ev (fun k => spec_l1All.f k ⟨ws, ps⟩) (fl ws ps) := by
  unfold spec_l1All.f
  exact all_loop hf 64 0 (by omega) (by omega)
theorem isP_cast {a : Int} (h : isP a = true) : ∃ n : Nat, a = (n : Int) ∧ n < 64 := by
  obtain ⟨h1, h2⟩ := inB_iff.1 h
  exact ⟨a.toNat, by omega, by omega⟩
end Go.Proofs.Ytaahjfjpbilfnaa.DiskD
/- The sum of words: the program's loop and the reference's come to one number. -/
namespace Go.Proofs.Ytaahjfjpbilfnaa.SumD
open Go.RowKit Go.Proofs.Ytaahjfjpbilfnaa.PD Go.Proofs.YtaahjfjpbilfnaaW.PrintWords Go.Proofs.Ytaahjfjpbilfnaa.Lem
set_option linter.unusedVariables false
set_option linter.unusedSimpArgs false

def stepW (h w : Int) : Int := (h * 263 + w % 65521 + 1) % 65521
def sumW (l : List Int) (h : Int) : Int := l.foldl stepW h
theorem step_range (h w : Int) : 0 ≤ stepW h w ∧ stepW h w < 65521 := by unfold stepW; omega
theorem tmod_cases (w : Int) : Int.tmod w 65521 = w % 65521 ∨ (Int.tmod w 65521 = w % 65521 - 65521 ∧ w % 65521 ≠ 0) := by
  rw [Int.tmod_eq_emod]
  split
  · left; omega
  · rename_i h
    right
    have : ¬ (65521 : Int) ∣ w := fun e => h (.inr e)
    refine ⟨by simp, by omega⟩
theorem tmod_pos {w : Int} (h : 0 ≤ w) : Int.tmod w 65521 = w % 65521 := Int.tmod_eq_emod_of_nonneg h
theorem spec_step {h w : Int} (h0 : 0 ≤ h) (h1 : h < 65521) : Int.tmod (wrap64 ((wrap64 ((wrap64 (h * 263)) + (Int.tmod (wrap64 ((Int.tmod w 65521) + 65521)) 65521))) + 1)) 65521 = stepW h w := by
  have hr := Int.emod_nonneg w (show (65521 : Int) ≠ 0 by omega)
  have hr2 := Int.emod_lt_of_pos w (show (0 : Int) < 65521 by omega)
  have e1 : Int.tmod (wrap64 ((Int.tmod w 65521) + 65521)) 65521 = w % 65521 := by
    rcases tmod_cases w with e | ⟨e, h2⟩
    · rw [e, wrap_id (by omega) (by omega), tmod_pos (by omega)]; omega
    · rw [e, wrap_id (by omega) (by omega), tmod_pos (by omega)]; omega
  rw [e1, wrap_id (x := h * 263) (by omega) (by omega), wrap_id (x := h * 263 + w % 65521) (by omega) (by omega), wrap_id (by omega) (by omega), tmod_pos (by omega)]
  rfl
theorem impl_step1 {h w : Int} (h0 : 0 ≤ h) (h1 : h < 65521) (hw : Int.tmod w 65521 < 0) : Int.tmod (wrap64 ((wrap64 ((wrap64 (h * 263)) + (wrap64 ((Int.tmod w 65521) + 65521)))) + 1)) 65521 = stepW h w := by
  have hr := Int.emod_nonneg w (show (65521 : Int) ≠ 0 by omega)
  have hr2 := Int.emod_lt_of_pos w (show (0 : Int) < 65521 by omega)
  have e1 : wrap64 ((Int.tmod w 65521) + 65521) = w % 65521 := by
    rcases tmod_cases w with e | ⟨e, h2⟩
    · omega
    · rw [e, wrap_id (by omega) (by omega)]; omega
  rw [e1, wrap_id (x := h * 263) (by omega) (by omega), wrap_id (x := h * 263 + w % 65521) (by omega) (by omega), wrap_id (by omega) (by omega), tmod_pos (by omega)]
  rfl
theorem impl_step2 {h w : Int} (h0 : 0 ≤ h) (h1 : h < 65521) (hw : ¬ Int.tmod w 65521 < 0) : Int.tmod (wrap64 ((wrap64 ((wrap64 (h * 263)) + (Int.tmod w 65521))) + 1)) 65521 = stepW h w := by
  have hr := Int.emod_nonneg w (show (65521 : Int) ≠ 0 by omega)
  have hr2 := Int.emod_lt_of_pos w (show (0 : Int) < 65521 by omega)
  have e1 : Int.tmod w 65521 = w % 65521 := by
    rcases tmod_cases w with e | ⟨e, h2⟩
    · exact e
    · omega
  rw [e1, wrap_id (x := h * 263) (by omega) (by omega), wrap_id (x := h * 263 + w % 65521) (by omega) (by omega), wrap_id (by omega) (by omega), tmod_pos (by omega)]
  rfl
theorem drop_cons {l : List Int} {i : Nat} (h : i < l.length) : l.drop i = l[i] :: l.drop (i + 1) := List.drop_eq_getElem_cons h
theorem spec_loop (l : List Int) (hl : l.length ≤ 140737488351232) : ∀ (d i : Nat) (h : Int), l.length - i = d → i ≤ l.length → 0 ≤ h → h < 65521 → Ev (fun k => spec_SumWords.l0 k l h (i : Int)) (sumW (l.drop i) h) := by
  intro d
  induction d with
  | zero =>
    intro i h hd hi h0 h1
    refine ev_succ ?_
    simp only [spec_SumWords.l0]
    simp only [if_neg (show ¬ (i : Int) < (l.length : Int) by omega)]
    exact ev_now (by rw [List.drop_of_length_le (by omega)]; rfl)
  | succ d ih =>
    intro i h hd hi h0 h1
    refine ev_succ ?_
    simp only [spec_SumWords.l0]
    simp only [if_pos (show (i : Int) < (l.length : Int) by omega), if_pos (show 0 ≤ (i : Int) by omega), wrap_succ (show i < l.length by omega) hl, spec_step h0 h1, rd_lt (show i < l.length by omega)]
    rw [drop_cons (show i < l.length by omega)]
    exact ih (i + 1) _ (by omega) (by omega) (step_range _ _).1 (step_range _ _).2
theorem impl_loop (l : List Int) (hl : l.length ≤ 140737488351232) : ∀ (d i : Nat) (h : Int), l.length - i = d → i ≤ l.length → 0 ≤ h → h < 65521 → Ev (fun k => impl_SumWords.l0 k h l (l.length : Int) (i : Int)) (sumW (l.drop i) h) := by
  intro d
  induction d with
  | zero =>
    intro i h hd hi h0 h1
    refine ev_succ ?_
    simp only [impl_SumWords.l0]
    simp only [if_neg (show ¬ (i : Int) < (l.length : Int) by omega)]
    exact ev_now (by rw [List.drop_of_length_le (by omega)]; rfl)
  | succ d ih =>
    intro i h hd hi h0 h1
    refine ev_succ ?_
    simp only [impl_SumWords.l0]
    simp only [if_pos (show (i : Int) < (l.length : Int) by omega), if_pos (show 0 ≤ (i : Int) by omega), wrap_succ (show i < l.length by omega) hl, rd_lt (show i < l.length by omega)]
    rw [drop_cons (show i < l.length by omega)]
    have ih' := ih (i + 1) (stepW h l[i]) (by omega) (by omega) (step_range _ _).1 (step_range _ _).2
    by_cases c : Int.tmod l[i] 65521 < 0
    · simp only [if_pos c, impl_step1 h0 h1 c]
      exact ih'
    · simp only [if_neg c, impl_step2 h0 h1 c]
      exact ih'
theorem spec_ev (l : List Int) (hl : l.length ≤ 140737488351232) : Ev (fun k => spec_SumWords.f k l) (sumW l 9) := by
  unfold spec_SumWords.f
  exact spec_loop l hl l.length 0 9 (by omega) (by omega) (by omega) (by omega)
theorem impl_ev (l : List Int) (hl : l.length ≤ 140737488351232) : Ev (fun k => impl_SumWords.f k l) (sumW l 9) := by
  unfold impl_SumWords.f
  exact impl_loop l hl l.length 0 9 (by omega) (by omega) (by omega) (by omega)
end Go.Proofs.Ytaahjfjpbilfnaa.SumD
/- The records of a journal: the program's scan and the reference's come to one answer, at every disk that stands right. -/
namespace Go.Proofs.Ytaahjfjpbilfnaa.DiskD
open Go.RowKit Go.Proofs.Ytaahjfjpbilfnaa.PD Go.Proofs.YtaahjfjpbilfnaaW.PrintWords Go.Proofs.Ytaahjfjpbilfnaa.Lem Go.Proofs.Ytaahjfjpbilfnaa.SmallD Go.Proofs.Ytaahjfjpbilfnaa.WordsD Go.Proofs.Ytaahjfjpbilfnaa.SumD
set_option linter.unusedVariables false
set_option linter.unusedSimpArgs false

theorem l2Sum_ev (n : Int) (l : List Int) (hl : l.length ≤ 1048576) : Ev (fun k => spec_l2Sum.f k n l) (sumW (n :: l) 9) := by
  unfold spec_l2Sum.f
  simp only [Option.bind_some, List.length_cons, List.length_nil, if_pos (show 0 + 1 + l.length < 17592186044416 by omega), List.cons_append, List.nil_append]
  exact ev_bind (SumD.spec_ev _ (by simp; omega)) (ev_now rfl)
theorem stands_ev (n : Int) (l : List Int) (hl : l.length ≤ 1048576) : Ev (fun k => impl_stands.f k n l) ((l.length : Int) :: sumW (n :: l) 9 :: l) := by
  unfold impl_stands.f
  simp only [Option.bind_some, List.length_cons, List.length_nil, if_pos (show 0 + 1 + l.length < 17592186044416 by omega), List.cons_append, List.nil_append]
  refine ev_bind (SumD.impl_ev _ (by simp; omega)) ?_
  simp only [if_pos (show 0 + 1 + 1 + l.length < 17592186044416 by omega)]
  exact ev_now rfl
theorem equal_loop (a b : List Int) (h : a.length = b.length) (hl : a.length ≤ 140737488351232) : ∀ (d i : Nat), a.length - i = d → i ≤ a.length → Ev (fun k => slices_Equal_int64.l0 k a b (a.length : Int) (i : Int)) (decide (a.drop i = b.drop i)) := by
  intro d
  induction d with
  | zero =>
    intro i hd hi
    refine ev_succ ?_
    simp only [slices_Equal_int64.l0]
    simp only [if_neg (show ¬ (i : Int) < (a.length : Int) by omega)]
    exact ev_now (by rw [List.drop_of_length_le (by omega), List.drop_of_length_le (by omega)]; rfl)
  | succ d ih =>
    intro i hd hi
    have h1 : i < a.length := by omega
    have h2 : i < b.length := by omega
    have ih' := ih (i + 1) (by omega) (by omega)
    rw [List.drop_eq_getElem_cons h1, List.drop_eq_getElem_cons h2]
    refine ev_succ ?_
    simp only [slices_Equal_int64.l0, rd_lt h1, rd_lt h2]
    simp only [if_pos (show (i : Int) < (a.length : Int) by omega), if_pos (show 0 ≤ (i : Int) by omega), if_pos (show (i : Int) < (b.length : Int) by omega), wrap_succ h1 hl]
    by_cases c : a[i] = b[i]
    · simp only [if_pos c]
      refine ev_eq ih' ?_
      simp only [List.cons.injEq, c, true_and]
    · simp only [if_neg c]
      exact ev_now (by rw [eq_comm, decide_eq_false_iff_not]; intro e; exact c (List.cons.inj e).1)
theorem equal_ev (a b : List Int) (h : a.length = b.length) (hl : a.length ≤ 140737488351232) : Ev (fun k => slices_Equal_int64.f k a b) (decide (a = b)) := by
  unfold slices_Equal_int64.f
  simp only [if_pos (show (a.length : Int) = (b.length : Int) by omega)]
  have := equal_loop a b h hl a.length 0 (by omega) (by omega)
  rwa [List.drop_zero, List.drop_zero] at this
theorem take_two (l : List Int) (i m : Nat) (h : i + 2 + m ≤ l.length) : (l.take (i + 2 + m)).drop i = rd l (i : Int) :: rd l ((i + 1 : Nat) : Int) :: (l.take (i + 2 + m)).drop (i + 2) := by
  have h1 : i < (l.take (i + 2 + m)).length := by rw [List.length_take]; omega
  have h2 : i + 1 < (l.take (i + 2 + m)).length := by rw [List.length_take]; omega
  rw [List.drop_eq_getElem_cons h1, List.drop_eq_getElem_cons h2, List.getElem_take, List.getElem_take, rd_lt (by omega), rd_lt (by omega)]
theorem w2 {i : Nat} (h : i ≤ 64) : wrap64 ((i : Int) + 2) = ((i + 2 : Nat) : Int) := by rw [wrap_id (by omega) (by omega)]; omega
theorem w1 {i : Nat} (h : i ≤ 64) : wrap64 ((i : Int) + 1) = ((i + 1 : Nat) : Int) := by rw [wrap_id (by omega) (by omega)]; omega
theorem w3 {i m : Nat} (h : i ≤ 64) (h2 : m ≤ 8) : wrap64 (((i + 2 : Nat) : Int) + (m : Int)) = ((i + 2 + m : Nat) : Int) := by rw [wrap_id (by omega) (by omega)]; omega
theorem wr {i : Nat} (h : i ≤ 64) : wrap64 (wrap64 (64 - (i : Int)) - 2) = 62 - (i : Int) := by
  rw [wrap_id (show -9223372036854775808 ≤ 64 - (i : Int) by omega) (by omega), wrap_id (show -9223372036854775808 ≤ 64 - (i : Int) - 2 by omega) (by omega)]; omega
theorem spec_end (all : List Int) (hall : all.length = 64) (i : Nat) (o : List (List Int)) (hi : i ≤ 64) (h : 62 ≤ i) : Ev (fun k => spec_l2Scan.l0 k all o (i : Int)) (o, (i : Int)) := by
  refine ev_succ ?_
  simp only [spec_l2Scan.l0, w2 hi]
  simp only [if_neg (show ¬ ((i + 2 : Nat) : Int) < (all.length : Int) by omega)]
  exact ev_now rfl
theorem spec_not (all : List Int) (hall : all.length = 64) (i : Nat) (o : List (List Int)) (h : i < 62) (hin : inB (rd all (i : Int)) 1 8 = false) : Ev (fun k => spec_l2Scan.l0 k all o (i : Int)) (o, (i : Int)) := by
  refine ev_succ ?_
  simp only [spec_l2Scan.l0, w2 (show i ≤ 64 by omega), l1In_eq, Option.bind_some, hin, Bool.false_eq_true, if_false]
  simp only [if_pos (show ((i + 2 : Nat) : Int) < (all.length : Int) by omega), if_pos (show 0 ≤ (i : Int) by omega), if_pos (show (i : Int) < (all.length : Int) by omega)]
  refine ev_succ ?_
  simp only [spec_l2Scan.j1, if_true]
  exact ev_now rfl
theorem impl_end (all : List Int) (o : List (List Int)) : Ev (fun k => impl_scan.l0 k o all ((64 : Nat) : Int)) (o, ((64 : Nat) : Int)) := by
  refine ev_succ ?_
  simp only [impl_scan.l0]
  simp only [if_neg (show ¬ ((64 : Nat) : Int) < 64 by omega)]
  exact ev_now rfl
theorem impl_not (all : List Int) (hall : all.length = 64) (i : Nat) (o : List (List Int)) (h : i < 64) (hin : inB (rd all (i : Int)) 1 8 = false) : Ev (fun k => impl_scan.l0 k o all (i : Int)) (o, (i : Int)) := by
  refine ev_succ ?_
  simp only [impl_scan.l0, within_eq, Option.bind_some, hin, Bool.false_eq_true, if_false]
  simp only [if_pos (show (i : Int) < 64 by omega), if_pos (show 0 ≤ (i : Int) by omega), if_pos (show (i : Int) < (all.length : Int) by omega)]
  refine ev_succ ?_
  simp only [impl_scan.j1, if_true]
  exact ev_now rfl
theorem spec_far (all : List Int) (hall : all.length = 64) (i m : Nat) (o : List (List Int)) (h : i < 62) (hm : rd all (i : Int) = (m : Int)) (m1 : 1 ≤ m) (m2 : m ≤ 8) (hf : 64 < i + 2 + m) : Ev (fun k => spec_l2Scan.l0 k all o (i : Int)) (o, (i : Int)) := by
  have hin : inB (m : Int) 1 8 = true := inB_iff.2 (by omega)
  refine ev_succ ?_
  simp only [spec_l2Scan.l0, w2 (show i ≤ 64 by omega), l1In_eq, Option.bind_some, hm, hin, if_true, w3 (show i ≤ 64 by omega) m2]
  simp only [if_pos (show ((i + 2 : Nat) : Int) < (all.length : Int) by omega), if_pos (show 0 ≤ (i : Int) by omega), if_pos (show (i : Int) < (all.length : Int) by omega)]
  refine ev_succ ?_
  simp only [spec_l2Scan.j1, decide_eq_true (show ((i + 2 + m : Nat) : Int) > (all.length : Int) by omega), if_true]
  exact ev_now rfl
theorem impl_far (all : List Int) (hall : all.length = 64) (i m : Nat) (o : List (List Int)) (h : i < 64) (hm : rd all (i : Int) = (m : Int)) (m1 : 1 ≤ m) (m2 : m ≤ 8) (hf : 64 < i + 2 + m) : Ev (fun k => impl_scan.l0 k o all (i : Int)) (o, (i : Int)) := by
  have hin : inB (m : Int) 1 8 = true := inB_iff.2 (by omega)
  refine ev_succ ?_
  simp only [impl_scan.l0, within_eq, Option.bind_some, hm, hin, if_true, wr (show i ≤ 64 by omega)]
  simp only [if_pos (show (i : Int) < 64 by omega), if_pos (show 0 ≤ (i : Int) by omega), if_pos (show (i : Int) < (all.length : Int) by omega)]
  refine ev_succ ?_
  simp only [impl_scan.j1, decide_eq_true (show (m : Int) > 62 - (i : Int) by omega), if_true]
  exact ev_now rfl
theorem spec_fit (all : List Int) (hall : all.length = 64) (i m : Nat) (o : List (List Int)) (ho : o.length ≤ 64) (hm : rd all (i : Int) = (m : Int)) (m1 : 1 ≤ m) (m2 : m ≤ 8) (hf : i + 2 + m ≤ 64) (rec : List Int) (hrec : (all.take (i + 2 + m)).drop (i + 2) = rec) (hl : rec.length = m) (r : List (List Int) × Int)
    (hr : if rd all ((i + 1 : Nat) : Int) = sumW ((o.length : Int) :: rec) 9 then Ev (fun k => spec_l2Scan.l0 k all (o ++ [rec]) ((i + 2 + m : Nat) : Int)) r else r = (o, (i : Int))) : Ev (fun k => spec_l2Scan.l0 k all o (i : Int)) r := by
  have hin : inB (m : Int) 1 8 = true := inB_iff.2 (by omega)
  refine ev_succ ?_
  simp only [spec_l2Scan.l0, w2 (show i ≤ 64 by omega), l1In_eq, Option.bind_some, hm, hin, if_true, w3 (show i ≤ 64 by omega) m2]
  simp only [if_pos (show ((i + 2 : Nat) : Int) < (all.length : Int) by omega), if_pos (show 0 ≤ (i : Int) by omega), if_pos (show (i : Int) < (all.length : Int) by omega)]
  refine ev_succ ?_
  simp only [spec_l2Scan.j1, decide_eq_false (show ¬ ((i + 2 + m : Nat) : Int) > (all.length : Int) by omega), Bool.false_eq_true, if_false, w2 (show i ≤ 64 by omega), w1 (show i ≤ 64 by omega), w3 (show i ≤ 64 by omega) m2, Int.toNat_natCast, hrec, Option.bind_some, List.nil_append, List.length_nil, Nat.zero_add, hl]
  simp only [if_pos (show 0 ≤ ((i + 2 : Nat) : Int) by omega), if_pos (show ((i + 2 : Nat) : Int) ≤ ((i + 2 + m : Nat) : Int) by omega), if_pos (show ((i + 2 + m : Nat) : Int) ≤ (all.length : Int) by omega), if_pos (show m < 17592186044416 by omega), if_pos (show 0 ≤ ((i + 1 : Nat) : Int) by omega), if_pos (show ((i + 1 : Nat) : Int) < (all.length : Int) by omega)]
  refine ev_bind (l2Sum_ev _ _ (by omega)) ?_
  by_cases hs : rd all ((i + 1 : Nat) : Int) = sumW ((o.length : Int) :: rec) 9
  · rw [if_pos hs] at hr
    simp only [if_pos hs, if_pos (show o.length < 5864062014805 by omega)]
    exact hr
  · rw [if_neg hs] at hr
    simp only [if_neg hs]
    exact ev_now hr.symm
theorem impl_fit (all : List Int) (hall : all.length = 64) (i m : Nat) (o : List (List Int)) (ho : o.length ≤ 64) (hm : rd all (i : Int) = (m : Int)) (m1 : 1 ≤ m) (m2 : m ≤ 8) (hf : i + 2 + m ≤ 64) (rec : List Int) (hrec : (all.take (i + 2 + m)).drop (i + 2) = rec) (hl : rec.length = m) (r : List (List Int) × Int)
    (hr : if rd all ((i + 1 : Nat) : Int) = sumW ((o.length : Int) :: rec) 9 then Ev (fun k => impl_scan.l0 k (o ++ [rec]) all ((i + 2 + m : Nat) : Int)) r else r = (o, (i : Int))) : Ev (fun k => impl_scan.l0 k o all (i : Int)) r := by
  have hin : inB (m : Int) 1 8 = true := inB_iff.2 (by omega)
  have ht := take_two all i m (by omega)
  rw [hrec, hm] at ht
  refine ev_succ ?_
  simp only [impl_scan.l0, within_eq, Option.bind_some, hm, hin, if_true, wr (show i ≤ 64 by omega)]
  simp only [if_pos (show (i : Int) < 64 by omega), if_pos (show 0 ≤ (i : Int) by omega), if_pos (show (i : Int) < (all.length : Int) by omega)]
  refine ev_succ ?_
  simp only [impl_scan.j1, decide_eq_false (show ¬ (m : Int) > 62 - (i : Int) by omega), Bool.false_eq_true, if_false, w2 (show i ≤ 64 by omega), w3 (show i ≤ 64 by omega) m2, Int.toNat_natCast, hrec, ht, Option.bind_some]
  simp only [if_pos (show 0 ≤ ((i + 2 : Nat) : Int) by omega), if_pos (show ((i + 2 : Nat) : Int) ≤ ((i + 2 + m : Nat) : Int) by omega), if_pos (show ((i + 2 + m : Nat) : Int) ≤ (all.length : Int) by omega)]
  refine ev_bind (stands_ev _ _ (by omega)) ?_
  simp only [if_pos (show 0 ≤ (i : Int) by omega), if_pos (show (i : Int) ≤ ((i + 2 + m : Nat) : Int) by omega), hl]
  refine ev_bind (equal_ev _ _ (by simp only [List.length_cons]) (by simp only [List.length_cons, hl]; omega)) ?_
  by_cases hs : rd all ((i + 1 : Nat) : Int) = sumW ((o.length : Int) :: rec) 9
  · rw [if_pos hs] at hr
    simp only [hs, decide_true, if_true, clone_ints _ (show rec.length < 17592186044416 by omega), Option.bind_some, if_pos (show o.length < 5864062014805 by omega)]
    exact hr
  · rw [if_neg hs] at hr
    have hn : ¬ ((m : Int) :: sumW ((o.length : Int) :: rec) 9 :: rec = (m : Int) :: rd all ((i + 1 : Nat) : Int) :: rec) := fun e => hs (List.cons.inj (List.cons.inj e).2).1.symm
    simp only [decide_eq_false hn, Bool.false_eq_true, if_false]
    exact ev_now hr.symm
theorem scan_loop (all : List Int) (hall : all.length = 64) : ∀ (d i : Nat) (o : List (List Int)), 64 - i ≤ d → i ≤ 64 → o.length ≤ i → ∃ r : List (List Int) × Int, Ev (fun k => spec_l2Scan.l0 k all o (i : Int)) r ∧ Ev (fun k => impl_scan.l0 k o all (i : Int)) r ∧ 0 ≤ r.2 ∧ r.2 ≤ 64 ∧ r.1.length ≤ 64 := by
  intro d
  induction d with
  | zero =>
    intro i o hd hi ho
    obtain rfl : i = 64 := by omega
    exact ⟨(o, ((64 : Nat) : Int)), spec_end all hall 64 o (by omega) (by omega), impl_end all o, by omega, by omega, ho⟩
  | succ d ih =>
    intro i o hd hi ho
    by_cases h64 : i = 64
    · subst h64
      exact ⟨(o, ((64 : Nat) : Int)), spec_end all hall 64 o (by omega) (by omega), impl_end all o, by omega, by omega, ho⟩
    have hstop : 0 ≤ (o, (i : Int)).2 ∧ (o, (i : Int)).2 ≤ 64 ∧ (o, (i : Int)).1.length ≤ 64 := ⟨by show 0 ≤ (i : Int); omega, by show (i : Int) ≤ 64; omega, by show o.length ≤ 64; omega⟩
    cases hin : inB (rd all (i : Int)) 1 8
    · refine ⟨(o, (i : Int)), ?_, impl_not all hall i o (by omega) hin, hstop⟩
      by_cases h62 : 62 ≤ i
      · exact spec_end all hall i o hi h62
      · exact spec_not all hall i o (by omega) hin
    · obtain ⟨n1, n2⟩ := inB_iff.1 hin
      obtain ⟨m, hm⟩ : ∃ m : Nat, rd all (i : Int) = (m : Int) := ⟨(rd all (i : Int)).toNat, by omega⟩
      rw [hm] at n1 n2
      by_cases hf : i + 2 + m ≤ 64
      · have hl : ((all.take (i + 2 + m)).drop (i + 2)).length = m := by rw [List.length_drop, List.length_take]; omega
        generalize hrec : (all.take (i + 2 + m)).drop (i + 2) = rec at hl
        by_cases hs : rd all ((i + 1 : Nat) : Int) = sumW ((o.length : Int) :: rec) 9
        · obtain ⟨r, r1, r2, r3⟩ := ih (i + 2 + m) (o ++ [rec]) (by omega) (by omega) (by rw [List.length_append, List.length_singleton]; omega)
          exact ⟨r, spec_fit all hall i m o (by omega) hm (by omega) (by omega) hf rec hrec hl r (by rw [if_pos hs]; exact r1), impl_fit all hall i m o (by omega) hm (by omega) (by omega) hf rec hrec hl r (by rw [if_pos hs]; exact r2), r3⟩
        · exact ⟨(o, (i : Int)), spec_fit all hall i m o (by omega) hm (by omega) (by omega) hf rec hrec hl _ (by rw [if_neg hs]), impl_fit all hall i m o (by omega) hm (by omega) (by omega) hf rec hrec hl _ (by rw [if_neg hs]), hstop⟩
      · refine ⟨(o, (i : Int)), ?_, impl_far all hall i m o (by omega) hm (by omega) (by omega) (by omega), hstop⟩
        by_cases h62 : 62 ≤ i
        · exact spec_end all hall i o hi h62
        · exact spec_far all hall i m o (by omega) hm (by omega) (by omega) (by omega)
theorem scan_both {ws : List Int} {ps : List P} (hf : Fine ws ps) : ∃ r : List (List Int) × Int, Ev (fun k => spec_l2Scan.f k (fl ws ps)) r ∧ Ev (fun k => impl_scan.f k ws ps) r ∧ 0 ≤ r.2 ∧ r.2 ≤ 64 ∧ r.1.length ≤ 64 := by
  obtain ⟨r, r1, r2, r3⟩ := scan_loop (fl ws ps) (by rw [fl_length, hf.len]) 64 0 [] (by omega) (by omega) (by simp)
  refine ⟨r, ?_, ?_, r3⟩
  · unfold spec_l2Scan.f; exact r1
  · unfold impl_scan.f; exact ev_bind (flush_fine hf) r2
end Go.Proofs.Ytaahjfjpbilfnaa.DiskD
/- Copies of a disk. -/
namespace Go.Proofs.Ytaahjfjpbilfnaa.DiskD
open Go.RowKit Go.Proofs.Ytaahjfjpbilfnaa.PD Go.Proofs.YtaahjfjpbilfnaaW.PrintWords Go.Proofs.Ytaahjfjpbilfnaa.Lem Go.Proofs.Ytaahjfjpbilfnaa.SmallD Go.Proofs.Ytaahjfjpbilfnaa.WordsD
set_option linter.unusedVariables false
set_option linter.unusedSimpArgs false

theorem clone_puts (l : List P) (h : l.length < 8796093022208) : slices_Clone_impl_Put.f l = some l := by
  unfold slices_Clone_impl_Put.f
  simp only [Option.bind_some, List.length_nil, Nat.zero_add, if_pos h, List.nil_append]
theorem own_eq (ws : List Int) (ps : List P) (h : ws.length ≤ 1048576) (h2 : ps.length ≤ 1048576) : impl_ownDisk.f ws ps = some (ws, ps) := by
  unfold impl_ownDisk.f
  rw [clone_ints ws (by omega), clone_puts ps (by omega)]
  rfl
theorem copy_eq (ws : List Int) (ps : List P) (h : ws.length ≤ 1048576) (h2 : ps.length ≤ 1048576) : spec_l1Copy.f ws ps = some (ws, ps) := by
  unfold spec_l1Copy.f
  simp only [Option.bind_some, List.length_nil, Nat.zero_add, if_pos (show ws.length < 17592186044416 by omega), if_pos (show ps.length < 8796093022208 by omega), List.nil_append]
end Go.Proofs.Ytaahjfjpbilfnaa.DiskD
/- What is wrong with a record: the program's answer and the reference's are one. -/
namespace Go.Proofs.Ytaahjfjpbilfnaa.RecD
open Go.RowKit Go.Proofs.Ytaahjfjpbilfnaa.PD Go.Proofs.YtaahjfjpbilfnaaW.PrintWords Go.Proofs.Ytaahjfjpbilfnaa.Lem Go.Proofs.Ytaahjfjpbilfnaa.SmallD Go.Proofs.Ytaahjfjpbilfnaa.WordsD
set_option linter.unusedVariables false
set_option linter.unusedSimpArgs false

def recF (l : List Int) : Int := if l.length < 1 ∨ 8 < l.length then 2 else if l.all isW = true then 0 else 3
theorem spec_loop (l : List Int) (hl : l.length ≤ 140737488351232) : ∀ (d i : Nat), l.length - i = d → i ≤ l.length → Ev (fun k => spec_RecordFault.l0 k l (i : Int)) (if (l.drop i).all isW = true then 0 else 3) := by
  intro d
  induction d with
  | zero =>
    intro i hd hi
    refine ev_succ ?_
    simp only [spec_RecordFault.l0]
    simp only [if_neg (show ¬ (i : Int) < (l.length : Int) by omega)]
    exact ev_now (by rw [List.drop_of_length_le (by omega)]; rfl)
  | succ d ih =>
    intro i hd hi
    have hlt : i < l.length := by omega
    have ih' := ih (i + 1) (by omega) (by omega)
    rw [List.drop_eq_getElem_cons hlt]
    refine ev_succ ?_
    simp only [spec_RecordFault.l0, l1Word_eq, rd_lt hlt, Option.bind_some, List.all_cons]
    simp only [if_pos (show (i : Int) < (l.length : Int) by omega), if_pos (show 0 ≤ (i : Int) by omega), wrap_succ hlt hl]
    by_cases h : isW l[i] = true
    · simp only [h, Bool.true_and, if_true]
      exact ih'
    · simp only [Bool.eq_false_iff.2 h, Bool.false_and, Bool.false_eq_true, if_false]
      exact ev_now rfl
theorem spec_ev (l : List Int) (hl : l.length ≤ 140737488351232) : Ev (fun k => spec_RecordFault.f k l) (recF l) := by
  unfold spec_RecordFault.f recF
  by_cases h : (l.length : Int) < 1
  · simp only [if_pos h, if_pos (show l.length < 1 ∨ 8 < l.length by omega)]
    refine ev_succ ?_
    simp only [spec_RecordFault.j0, if_true]
    exact ev_now rfl
  · simp only [if_neg h]
    refine ev_succ ?_
    simp only [spec_RecordFault.j0]
    by_cases h8 : (l.length : Int) > 8
    · simp only [decide_eq_true h8, if_true, if_pos (show l.length < 1 ∨ 8 < l.length by omega)]
      exact ev_now rfl
    · simp only [decide_eq_false h8, Bool.false_eq_true, if_false, if_neg (show ¬ (l.length < 1 ∨ 8 < l.length) by omega)]
      exact spec_loop l hl l.length 0 (by omega) (by omega)
theorem impl_ev (l : List Int) (hl : l.length ≤ 140737488351232) : Ev (fun k => impl_RecordFault.f k l) (recF l) := by
  unfold impl_RecordFault.f recF
  simp only [within_eq, Option.bind_some]
  by_cases h : l.length < 1 ∨ 8 < l.length
  · simp only [if_pos h, show inB (l.length : Int) 1 8 = false from inB_not.2 (by omega), Bool.false_eq_true, if_false]
    exact ev_now rfl
  · simp only [if_neg h, show inB (l.length : Int) 1 8 = true from inB_iff.2 (by omega), if_true]
    refine ev_bind (areWords_ev l hl) ?_
    cases l.all isW
    · exact ev_now rfl
    · exact ev_now rfl
end Go.Proofs.Ytaahjfjpbilfnaa.RecD
/- A record behind the others: both answers are one. -/
namespace Go.Proofs.Ytaahjfjpbilfnaa.DiskD
open Go.Proofs.Ytaahjfjpbilfnaa.SumD Go.RowKit Go.Proofs.Ytaahjfjpbilfnaa.PD Go.Proofs.YtaahjfjpbilfnaaW.PrintWords Go.Proofs.Ytaahjfjpbilfnaa.Lem Go.Proofs.Ytaahjfjpbilfnaa.SmallD Go.Proofs.Ytaahjfjpbilfnaa.WordsD
set_option linter.unusedVariables false
set_option linter.unusedSimpArgs false

def pj : Int → List Int → List P
  | _, [] => []
  | u, w :: r => ⟨u, w⟩ :: pj (u + 1) r
def pjF : Int → List Int → List P
  | _, [] => []
  | u, w :: r => if u < 64 then ⟨u, w⟩ :: pjF (u + 1) r else pjF (u + 1) r
theorem pj_length : ∀ (l : List Int) (u : Int), (pj u l).length = l.length
  | [], _ => rfl
  | w :: r, u => by rw [pj, List.length_cons, pj_length r, List.length_cons]
theorem pjF_last : ∀ (l : List Int) (u : Int), u + l.length ≤ 64 → pjF u (l ++ [0]) = if u + l.length < 64 then pj u (l ++ [0]) else pj u l
  | [], u, h => by
    simp only [List.length_nil] at h ⊢
    simp only [List.nil_append, pjF, pj]
    by_cases c : u < 64
    · rw [if_pos c, if_pos (by omega)]
    · rw [if_neg c, if_neg (by omega)]
  | w :: r, u, h => by
    simp only [List.length_cons] at h ⊢
    have ih := pjF_last r (u + 1) (by omega)
    rw [List.cons_append, pjF, if_pos (by omega), ih]
    by_cases c : u + ((r.length + 1 : Nat) : Int) < 64
    · rw [if_pos (by omega), if_pos c, pj]
    · rw [if_neg (by omega), if_neg c, pj]
theorem app_spec_loop (ws : List Int) (all : List Int) (u : Int) (hu : 0 ≤ u) (hu2 : u ≤ 64) (hl : all.length ≤ 1000) : ∀ (d i : Nat) (acc : List P), all.length - i = d → i ≤ all.length → acc.length ≤ 1000 + i → Ev (fun k => spec_AppendJournal.l0 k u all (i : Int) ws acc) (0, ws, acc ++ pj (u + i) (all.drop i)) := by
  intro d
  induction d with
  | zero =>
    intro i acc hd hi ha
    refine ev_succ ?_
    simp only [spec_AppendJournal.l0]
    simp only [if_neg (show ¬ (i : Int) < (all.length : Int) by omega)]
    refine ev_now ?_
    rw [List.drop_of_length_le (by omega), pj, List.append_nil]
  | succ d ih =>
    intro i acc hd hi ha
    have hlt : i < all.length := by omega
    refine ev_succ ?_
    simp only [spec_AppendJournal.l0, rd_lt hlt]
    simp only [if_pos (show (i : Int) < (all.length : Int) by omega), if_pos (show 0 ≤ (i : Int) by omega), if_pos (show acc.length < 8796093022208 by omega), wrap_succ hlt (by omega), wrap_id (show -9223372036854775808 ≤ u + (i : Int) by omega) (by omega)]
    have h := ih (i + 1) (acc ++ [⟨u + i, all[i]⟩]) (by omega) (by omega) (by rw [List.length_append, List.length_singleton]; omega)
    rw [List.drop_eq_getElem_cons hlt, pj]
    rw [List.append_assoc, show u + ((i + 1 : Nat) : Int) = u + (i : Int) + 1 by omega] at h
    exact h
theorem app_impl_loop (ws : List Int) (all : List Int) (u : Int) (hu : 0 ≤ u) (hu2 : u ≤ 64) (hl : all.length ≤ 1000) : ∀ (d i : Nat) (acc : List P), all.length - i = d → i ≤ all.length → acc.length ≤ 1000 + i → Ev (fun k => impl_AppendJournal.l0 k u all (all.length : Int) (i : Int) ws acc) (0, ws, acc ++ pjF (u + i) (all.drop i)) := by
  intro d
  induction d with
  | zero =>
    intro i acc hd hi ha
    refine ev_succ ?_
    simp only [impl_AppendJournal.l0]
    simp only [if_neg (show ¬ (i : Int) < (all.length : Int) by omega)]
    refine ev_now ?_
    rw [List.drop_of_length_le (by omega), pjF, List.append_nil]
  | succ d ih =>
    intro i acc hd hi ha
    have hlt : i < all.length := by omega
    refine ev_succ ?_
    simp only [impl_AppendJournal.l0, rd_lt hlt]
    simp only [if_pos (show (i : Int) < (all.length : Int) by omega), if_pos (show 0 ≤ (i : Int) by omega), wrap_succ hlt (by omega), wrap_id (show -9223372036854775808 ≤ u + (i : Int) by omega) (by omega)]
    rw [List.drop_eq_getElem_cons hlt, pjF]
    by_cases c : u + (i : Int) < 64
    · simp only [if_pos c, if_pos (show acc.length < 8796093022208 by omega)]
      have h := ih (i + 1) (acc ++ [⟨u + i, all[i]⟩]) (by omega) (by omega) (by rw [List.length_append, List.length_singleton]; omega)
      rw [List.append_assoc, show u + ((i + 1 : Nat) : Int) = u + (i : Int) + 1 by omega] at h
      exact h
    · simp only [if_neg c]
      have h := ih (i + 1) acc (by omega) (by omega) (by omega)
      rw [show u + ((i + 1 : Nat) : Int) = u + (i : Int) + 1 by omega] at h
      exact h
theorem we {a b c : Int} (h0 : 0 ≤ a) (h1 : a ≤ 1000) (h2 : 0 ≤ b) (h3 : b ≤ 1000) (h4 : 0 ≤ c) (h5 : c ≤ 1000) : wrap64 (wrap64 (a + b) + c) = a + b + c := by rw [wrap_id (show -9223372036854775808 ≤ a + b by omega) (by omega), wrap_id (by omega) (by omega)]
theorem wd {a b : Int} (h0 : 0 ≤ a) (h1 : a ≤ 1000) (h2 : 0 ≤ b) (h3 : b ≤ 1000) : wrap64 (a - b) = a - b := wrap_id (by omega) (by omega)
theorem wa {a b : Int} (h0 : 0 ≤ a) (h1 : a ≤ 1000) (h2 : 0 ≤ b) (h3 : b ≤ 1000) : wrap64 (a + b) = a + b := wrap_id (by omega) (by omega)
def appR (ws : List Int) (ps : List P) (l : List Int) (rs : List (List Int)) (u : Int) : Int × List Int × List P :=
  if u + 2 + l.length > 64 ∨ (ps.length : Int) + 3 + l.length > 200 then (8, [], []) else (0, ws, ps ++ pjF u (((l.length : Int) :: sumW ((rs.length : Int) :: l) 9 :: l) ++ [0]))
theorem app_spec_j (ws : List Int) (ps : List P) (l : List Int) (rs : List (List Int)) (u : Int) (h : ws.length ≤ 1048576) (h2 : ps.length ≤ 200) (hl : l.length ≤ 8) (u0 : 0 ≤ u) (u1 : u ≤ 64) (b : Bool) (hb : b = true ↔ (u + 2 + l.length > 64 ∨ (ps.length : Int) + 3 + l.length > 200)) :
    Ev (fun k => spec_AppendJournal.j0 k l rs u (l.length : Int) b ws ps) (appR ws ps l rs u) := by
  refine ev_succ ?_
  unfold appR
  cases b
  · have hn : ¬ (u + 2 + (l.length : Int) > 64 ∨ (ps.length : Int) + 3 + l.length > 200) := fun c => by cases hb.2 c
    rw [if_neg hn]
    have hr1 : u + 2 + (l.length : Int) ≤ 64 := by omega
    clear hb hn
    have key := pjF_last ((l.length : Int) :: sumW ((rs.length : Int) :: l) 9 :: l) u (by simp only [List.length_cons]; omega)
    rw [key]
    clear key
    simp only [spec_AppendJournal.j0, Bool.false_eq_true, if_false, copy_eq ws ps h (by omega), Option.bind_some, we u0 (by omega) (show (0 : Int) ≤ 2 by omega) (by omega) (show 0 ≤ (l.length : Int) by omega) (by omega)]
    refine ev_bind (l2Sum_ev _ _ (by omega)) ?_
    generalize sumW ((rs.length : Int) :: l) 9 = q
    simp only [Option.bind_some, List.length_cons, List.length_nil, if_pos (show 0 + 1 + 1 + l.length < 17592186044416 by omega), List.cons_append, List.nil_append]
    by_cases c : u + 2 + (l.length : Int) < 64
    · rw [if_pos (show u + ((l.length + 1 + 1 : Nat) : Int) < 64 by omega)]
      simp only [if_pos c, if_pos (show l.length + 1 + 1 < 17592186044416 by omega)]
      refine ev_succ ?_
      simp only [spec_AppendJournal.j1]
      have h := app_spec_loop ws ((l.length : Int) :: q :: (l ++ [0])) u u0 u1 (by simp only [List.length_cons, List.length_append, List.length_nil]; omega) _ 0 ps rfl (by omega) (by omega)
      rw [List.drop_zero, show u + ((0 : Nat) : Int) = u by omega] at h
      exact h
    · rw [if_neg (show ¬ u + ((l.length + 1 + 1 : Nat) : Int) < 64 by omega)]
      simp only [if_neg c]
      refine ev_succ ?_
      simp only [spec_AppendJournal.j1]
      have h := app_spec_loop ws ((l.length : Int) :: q :: l) u u0 u1 (by simp only [List.length_cons]; omega) _ 0 ps rfl (by omega) (by omega)
      rw [List.drop_zero, show u + ((0 : Nat) : Int) = u by omega] at h
      exact h
  · rw [if_pos (hb.1 rfl)]
    simp only [spec_AppendJournal.j0, if_true]
    exact ev_now rfl
theorem app_impl_j (ws : List Int) (ps : List P) (l : List Int) (rs : List (List Int)) (u : Int) (h : ws.length ≤ 1048576) (h2 : ps.length ≤ 200) (hl : l.length ≤ 8) (u0 : 0 ≤ u) (u1 : u ≤ 64) (b : Bool) (hb : b = true ↔ (u + 2 + l.length > 64 ∨ (ps.length : Int) + 3 + l.length > 200)) :
    Ev (fun k => impl_AppendJournal.j0 k l rs u b ws ps) (appR ws ps l rs u) := by
  refine ev_succ ?_
  unfold appR
  cases b
  · have hn : ¬ (u + 2 + (l.length : Int) > 64 ∨ (ps.length : Int) + 3 + l.length > 200) := fun c => by cases hb.2 c
    rw [if_neg hn]
    clear hb hn
    simp only [impl_AppendJournal.j0, Bool.false_eq_true, if_false, own_eq ws ps h (by omega), Option.bind_some]
    refine ev_bind (stands_ev _ _ (by omega)) ?_
    generalize sumW ((rs.length : Int) :: l) 9 = q
    simp only [List.length_cons, if_pos (show l.length + 1 + 1 < 17592186044416 by omega), Option.bind_some]
    have h := app_impl_loop ws (((l.length : Int) :: q :: l) ++ [0]) u u0 u1 (by simp only [List.length_cons, List.length_append, List.length_nil]; omega) _ 0 ps rfl (by omega) (by omega)
    rw [List.drop_zero, show u + ((0 : Nat) : Int) = u by omega] at h
    exact h
  · rw [if_pos (hb.1 rfl)]
    simp only [impl_AppendJournal.j0, if_true]
    exact ev_now rfl
theorem appR_length (ws : List Int) (ps : List P) (l : List Int) (rs : List (List Int)) (u : Int) (h : ws.length ≤ 1048576) (h2 : ps.length ≤ 200) (hl : l.length ≤ 8) : (appR ws ps l rs u).2.1.length ≤ 1048576 ∧ (appR ws ps l rs u).2.2.length ≤ 1048576 := by
  unfold appR
  by_cases c : u + 2 + (l.length : Int) > 64 ∨ (ps.length : Int) + 3 + l.length > 200
  · rw [if_pos c]; exact ⟨Nat.zero_le _, Nat.zero_le _⟩
  · rw [if_neg c]
    refine ⟨h, ?_⟩
    have key := pjF_last ((l.length : Int) :: sumW ((rs.length : Int) :: l) 9 :: l) u (by simp only [List.length_cons]; omega)
    rw [key]
    generalize sumW ((rs.length : Int) :: l) 9 = q
    show (ps ++ _).length ≤ 1048576
    rw [List.length_append]
    split
    · rw [pj_length]; simp only [List.length_cons, List.length_append, List.length_nil]; omega
    · rw [pj_length]; simp only [List.length_cons]; omega
theorem append_both (ws : List Int) (ps : List P) (l : List Int) (h : ws.length ≤ 1048576) (h2 : ps.length ≤ 1048576) (hl : l.length ≤ 1048576) : ∃ r : Int × List Int × List P, Ev (fun k => spec_AppendJournal.f k ws ps l) r ∧ Ev (fun k => impl_AppendJournal.f k ws ps l) r ∧ r.2.1.length ≤ 1048576 ∧ r.2.2.length ≤ 1048576 := by
  by_cases h0 : df ws ps = 0
  · have hf := fine h0
    have hm := hf.many
    by_cases h1 : RecD.recF l = 0
    · have hn : l.length ≤ 8 := by
        unfold RecD.recF at h1
        by_cases c : l.length < 1 ∨ 8 < l.length
        · rw [if_pos c] at h1; omega
        · omega
      obtain ⟨⟨rs, u⟩, s1, s2, u0, u1, rl⟩ := scan_both hf
      have v0 : 0 ≤ u := u0
      have v1 : u ≤ 64 := u1
      clear u0 u1 rl
      refine ⟨appR ws ps l rs u, ?_, ?_, appR_length ws ps l rs u h hm hn⟩
      · unfold spec_AppendJournal.f
        refine ev_bind (l1Fault_ev ws ps (by omega) (by omega)) ?_
        simp only [if_pos h0]
        refine ev_bind (RecD.spec_ev l (by omega)) ?_
        simp only [if_pos h1]
        refine ev_bind (all_ev hf) (ev_bind s1 ?_)
        simp only [we v0 (by omega) (show (0 : Int) ≤ 2 by omega) (by omega) (show 0 ≤ (l.length : Int) by omega) (by omega), we (show 0 ≤ (ps.length : Int) by omega) (by omega) (show (0 : Int) ≤ 3 by omega) (by omega) (show 0 ≤ (l.length : Int) by omega) (by omega)]
        by_cases c : u + 2 + (l.length : Int) > 64
        · simp only [if_pos c]
          exact app_spec_j ws ps l rs u h hm hn v0 v1 true ⟨fun _ => .inl c, fun _ => rfl⟩
        · simp only [if_neg c]
          exact app_spec_j ws ps l rs u h hm hn v0 v1 _ ⟨fun e => .inr (of_decide_eq_true e), fun e => decide_eq_true (e.resolve_left c)⟩
      · unfold impl_AppendJournal.f
        refine ev_bind (impl_ev ws ps (by omega) (by omega)) ?_
        simp only [if_pos h0]
        refine ev_bind (RecD.impl_ev l (by omega)) ?_
        simp only [if_pos h1]
        refine ev_bind s2 ?_
        simp only [wd (show (0 : Int) ≤ 64 by omega) (by omega) v0 (by omega), wa (show 0 ≤ (l.length : Int) by omega) (by omega) (show (0 : Int) ≤ 2 by omega) (by omega), wd (show (0 : Int) ≤ 197 by omega) (by omega) (show 0 ≤ (l.length : Int) by omega) (by omega)]
        by_cases c : 64 - u < (l.length : Int) + 2
        · simp only [if_pos c]
          exact app_impl_j ws ps l rs u h hm hn v0 v1 true ⟨fun _ => .inl (by omega), fun _ => rfl⟩
        · simp only [if_neg c]
          refine app_impl_j ws ps l rs u h hm hn v0 v1 _ ⟨fun e => .inr ?_, fun e => decide_eq_true ?_⟩
          · have := of_decide_eq_true e; omega
          · rcases e with e | e <;> omega
    · refine ⟨(RecD.recF l, [], []), ?_, ?_, Nat.zero_le _, Nat.zero_le _⟩
      · unfold spec_AppendJournal.f
        refine ev_bind (l1Fault_ev ws ps (by omega) (by omega)) ?_
        simp only [if_pos h0]
        refine ev_bind (RecD.spec_ev l (by omega)) ?_
        simp only [if_neg h1]
        exact ev_now rfl
      · unfold impl_AppendJournal.f
        refine ev_bind (impl_ev ws ps (by omega) (by omega)) ?_
        simp only [if_pos h0]
        refine ev_bind (RecD.impl_ev l (by omega)) ?_
        simp only [if_neg h1]
        exact ev_now rfl
  · refine ⟨(df ws ps, [], []), ?_, ?_, Nat.zero_le _, Nat.zero_le _⟩
    · unfold spec_AppendJournal.f
      refine ev_bind (l1Fault_ev ws ps (by omega) (by omega)) ?_
      simp only [if_neg h0]
      exact ev_now rfl
    · unfold impl_AppendJournal.f
      refine ev_bind (impl_ev ws ps (by omega) (by omega)) ?_
      simp only [if_neg h0]
      exact ev_now rfl
end Go.Proofs.Ytaahjfjpbilfnaa.DiskD
/- The law of AppendJournal answers true at every argument: the program's answer is the reference's, it is new memory, and the arguments stay. No condition beside the statement's own bounds. (The frame is printed by wip/genlaw.py.) -/
namespace Go.Proofs.Ytaahjfjpbilfnaa.Pure
open Go.RowKit Go.Proofs.Ytaahjfjpbilfnaa.PD Go.Proofs.YtaahjfjpbilfnaaW.PrintWords Go.Proofs.Ytaahjfjpbilfnaa.Lem Go.Proofs.Ytaahjfjpbilfnaa.DiskD
set_option linter.unusedVariables false
set_option linter.unusedSimpArgs false

theorem FnExactAppendJournal : laws_FnExactAppendJournal.Pure := by
  intro x0 l1 hg _
  obtain ⟨ws, lp⟩ := x0
  have g1 : ws.length ≤ 140737488351232 := by have := hg; simp [g25] at this; omega
  have g2 : lp.length ≤ 140737488351232 := by have := hg; simp [g25] at this; omega
  refine Ev.rounds (r := true) ?_
  unfold laws_FnExactAppendJournal.f
  by_cases cl : (l1.length : Int) > 1048576
  · simp only [if_pos cl]
    exact ev_now rfl
  simp only [if_neg cl]
  obtain ⟨t, ht, hb⟩ := sz_ok ws lp g1 g2
  simp only [ht, Option.bind_some]
  by_cases c : t < 0
  · simp only [if_pos c]
    exact ev_now rfl
  · simp only [if_neg c]
    obtain ⟨b1, b2⟩ := hb c
    have b3 : (lp.map PutD.toB).length ≤ 1048576 := by simpa using b2
    generalize hps : lp.map PutD.toB = ps at b3
    have cp := to_ev ws lp b1 b2
    rw [hps] at cp
    obtain ⟨r, hs, hi, hr⟩ := append_both ws ps l1 b1 b3 (by omega)
    obtain ⟨r1, r2, r3⟩ := r
    obtain ⟨hr2, hr3⟩ : r2.length ≤ 1048576 ∧ r3.length ≤ 1048576 := hr
    refine ev_bind cp (ev_bind (IntsD.to_ev l1 (by omega)) (ev_bind hs (ev_bind cp (ev_bind (IntsD.to_ev l1 (by omega)) (ev_bind hi (ev_bind (eqRes_ev r1 r2 r3 hr2 hr3) ?_))))))
    simp only [if_true]
    refine ev_bind cp (ev_bind (eq_ev ws ps (by omega) (by omega)) ?_)
    simp only [if_true]
    refine ev_bind (IntsD.to_ev l1 (by omega)) (ev_bind (IntsD.eq_ev l1 (by omega)) ?_)
    simp only [if_true]
    refine ev_bind (mark_ev ws ps b1 b3) (ev_bind (IntsD.mark_ev l1 _ (by omega) (by omega) (by omega)) ?_)
    simp only [if_neg (show ¬ (1 : Int) + (ws.length : Int) + 2 * (ps.length : Int) + (l1.length : Int) < 0 by omega)]
    refine ev_bind (eqRes_ev r1 r2 r3 hr2 hr3) ?_
    refine ev_succ ?_
    simp only [laws_FnExactAppendJournal.j0, Bool.not_true, Bool.false_eq_true, if_false]
    refine ev_bind (markRes_ev r1 r2 r3 hr2 hr3) (ev_bind (heldRes_ev r1 r2.length r3.length hr2 hr3) ?_)
    simp only [if_neg (show ¬ (1 : Int) + (r2.length : Int) + 2 * (r3.length : Int) < 0 by omega), if_true]
    refine ev_bind cp (ev_bind (IntsD.to_ev l1 (by omega)) (ev_bind hi (ev_bind (eqRes_ev r1 r2 r3 hr2 hr3) ?_)))
    simp only [if_true]
    refine ev_bind (heldRes_ev r1 r2.length r3.length hr2 hr3) ?_
    simp only [if_neg (show ¬ (1 : Int) + (r2.length : Int) + 2 * (r3.length : Int) < 0 by omega), if_true]
    exact ev_now rfl
end Go.Proofs.Ytaahjfjpbilfnaa.Pure
