import Derived.Test.YtaahjfjpbilfnaaPDx58
import Derived.Test.YtaahjfjpbilfnaaPDx23
import Derived.Test.YtaahjfjpbilfnaaPDx26
import Derived.Test.YtaahjfjpbilfnaaPDx22
import Derived.Test.YtaahjfjpbilfnaaPDx24
import Derived.Test.YtaahjfjpbilfnaaPDx9
import Derived.Test.YtaahjfjpbilfnaaPDx3
import Derived.Test.YtaahjfjpbilfnaaWWords
import Derived.Test.YtaahjfjpbilfnaaPDx8
import Derived.Test.YtaahjfjpbilfnaaPDx4
import Derived.Test.YtaahjfjpbilfnaaPDx11
import Derived.Test.YtaahjfjpbilfnaaPDx1
import Derived.Test.YtaahjfjpbilfnaaPDx6
import Derived.Test.YtaahjfjpbilfnaaPDx10
import Derived.Test.YtaahjfjpbilfnaaPDx25
import Derived.Test.YtaahjfjpbilfnaaPDx52
import Derived.Test.YtaahjfjpbilfnaaPDx53
import Derived.Test.YtaahjfjpbilfnaaPDx14
import Derived.Test.YtaahjfjpbilfnaaPDx16
import Derived.Test.YtaahjfjpbilfnaaPDx54
import Derived.Test.YtaahjfjpbilfnaaPDx55
import Derived.Test.YtaahjfjpbilfnaaPDx56
/- Small laws on rounds and on numbers, for the plain proofs. -/
namespace Go.Proofs.Ytaahjfjpbilfnaa.Lem
open Go.RowKit Go.Proofs.YtaahjfjpbilfnaaW.PrintWords
set_option linter.unusedVariables false
set_option linter.unusedSimpArgs false

theorem ev_eq {α : Type} {g : Nat → Option α} {r r' : α} (h : Ev g r) (e : r = r') : Ev g r' := e ▸ h
theorem ev_now {α : Type} {r r' : α} (e : r = r') : Ev (fun _ => some r) r' := e ▸ Ev.now r
theorem ev_some {α : Type} {g : Nat → Option α} {r : α} (h : ∀ k, g k = some r) : Ev g r := ⟨0, fun k _ => h k⟩
theorem ev_pos {α : Type} {c : Prop} [Decidable c] {f g : Nat → Option α} {r : α} (hc : c) (h : Ev f r) : Ev (fun k => if c then f k else g k) r := Ev.congr (fun k => if_pos hc) h
theorem ev_neg {α : Type} {c : Prop} [Decidable c] {f g : Nat → Option α} {r : α} (hc : ¬ c) (h : Ev g r) : Ev (fun k => if c then f k else g k) r := Ev.congr (fun k => if_neg hc) h
theorem ev_bind {α β : Type} {g : Nat → Option α} {f : Nat → α → Option β} {a : α} {r : β} (h : Ev g a) (k : Ev (fun n => f n a) r) : Ev (fun n => (g n).bind (f n)) r := Ev.bind h k
theorem ev_bind0 {α β : Type} {g : Option α} {f : Nat → α → Option β} {a : α} {r : β} (h : g = some a) (k : Ev (fun n => f n a) r) : Ev (fun n => g.bind (f n)) r := Ev.congr (fun n => by rw [h]; rfl) k
theorem ev_step {α : Type} {g f : Nat → Option α} {r : α} (h : ∀ k, g (k + 1) = f k) (k : Ev f r) : Ev g r := Ev.step h k

theorem ev_succ {α : Type} {g : Nat → Option α} {r : α} (h : Ev (fun k => g (k + 1)) r) : Ev g r := Ev.step (fun _ => rfl) h
theorem wrap_id {x : Int} (h0 : -9223372036854775808 ≤ x) (h1 : x ≤ 9223372036854775807) : wrap64 x = x := by unfold wrap64; omega
theorem wrap_succ {i n : Nat} (h : i < n) (hn : n ≤ 140737488351232) : wrap64 ((i : Int) + 1) = ((i + 1 : Nat) : Int) := by unfold wrap64; omega
theorem rd_nat (l : List Int) (i : Nat) : rd l (i : Int) = l.getD i 0 := rfl
theorem rd_lt {l : List Int} {i : Nat} (h : i < l.length) : rd l (i : Int) = l[i] := by simp [rd, h]
theorem take_succ_set {α : Type} (l x : List α) (i : Nat) (v : α) (h : i < l.length) (hx : x.length = l.length) (ht : x.take i = l.take i) (hv : v = l[i]) : (x.set i v).take (i + 1) = l.take (i + 1) := by
  subst hv
  apply List.ext_getElem?
  intro j
  rw [List.getElem?_take, List.getElem?_take]
  by_cases hj : j < i + 1
  · rw [if_pos hj, if_pos hj]
    by_cases e : j = i
    · subst e
      rw [List.getElem?_set_self (by omega), List.getElem?_eq_getElem h]
    · rw [List.getElem?_set_ne (by omega)]
      have := congrArg (fun z => z[j]?) ht
      simpa [List.getElem?_take, show j < i by omega] using this
  · rw [if_neg hj, if_neg hj]
end Go.Proofs.Ytaahjfjpbilfnaa.Lem
/- Copying and comparing lists of numbers, as the laws do; the sum of words: the program's loop and the reference's come to one number. -/
namespace Go.Proofs.Ytaahjfjpbilfnaa.IntsD
open Go.RowKit Go.Proofs.Ytaahjfjpbilfnaa.PD Go.Proofs.YtaahjfjpbilfnaaW.PrintWords Go.Proofs.Ytaahjfjpbilfnaa.Lem
set_option linter.unusedVariables false
set_option linter.unusedSimpArgs false

theorem to_loop (l : List Int) (hl : l.length ≤ 140737488351232) : ∀ (d i : Nat) (x : List Int), l.length - i = d → i ≤ l.length → x.length = l.length → x.take i = l.take i → Ev (fun k => laws_toInt64S.l0 k l x (i : Int)) l := by
  intro d
  induction d with
  | zero =>
    intro i x hd hi hx ht
    refine ev_succ ?_
    simp only [laws_toInt64S.l0]
    simp only [if_neg (show ¬ (i : Int) < (l.length : Int) by omega)]
    refine ev_now ?_
    rw [List.take_of_length_le (by omega), List.take_of_length_le (by omega)] at ht
    exact ht
  | succ d ih =>
    intro i x hd hi hx ht
    refine ev_succ ?_
    simp only [laws_toInt64S.l0]
    simp only [if_pos (show (i : Int) < (l.length : Int) by omega), if_pos (show 0 ≤ (i : Int) by omega), if_pos (show (i : Int) < (x.length : Int) by omega), wrap_succ (show i < l.length by omega) hl]
    exact ih (i + 1) _ (by omega) (by omega) (by rw [List.length_set]; exact hx) (take_succ_set l x i _ (by omega) hx ht (rd_lt (by omega)))
theorem to_ev (l : List Int) (hl : l.length ≤ 35184372088832) : Ev (fun k => laws_toInt64S.f k l) l := by
  unfold laws_toInt64S.f
  simp only [if_pos (show 0 ≤ (l.length : Int) by omega), if_pos (show ((l.length : Int) : Int).toNat ≤ 35184372088832 by omega)]
  exact to_loop l (by omega) l.length 0 _ (by omega) (by omega) (by simp) (by simp)
theorem eq_loop (l : List Int) (hl : l.length ≤ 140737488351232) : ∀ (d i : Nat), l.length - i = d → i ≤ l.length → Ev (fun k => laws_eqInt64S.l0 k l l (i : Int)) true := by
  intro d
  induction d with
  | zero =>
    intro i hd hi
    refine ev_succ ?_
    simp only [laws_eqInt64S.l0]
    simp only [if_neg (show ¬ (i : Int) < (l.length : Int) by omega)]
    exact ev_now rfl
  | succ d ih =>
    intro i hd hi
    refine ev_succ ?_
    simp only [laws_eqInt64S.l0]
    simp only [if_pos (show (i : Int) < (l.length : Int) by omega), if_pos (show 0 ≤ (i : Int) by omega), if_true, wrap_succ (show i < l.length by omega) hl]
    exact ih (i + 1) (by omega) (by omega)
theorem eq_ev (l : List Int) (hl : l.length ≤ 140737488351232) : Ev (fun k => laws_eqInt64S.f k l l) true := by
  unfold laws_eqInt64S.f
  simp only [if_true]
  exact eq_loop l hl l.length 0 (by omega) (by omega)
end Go.Proofs.Ytaahjfjpbilfnaa.IntsD
/- Marking numbers and looking at marked ones, as the laws do. -/
namespace Go.Proofs.Ytaahjfjpbilfnaa.IntsD
open Go.RowKit Go.Proofs.Ytaahjfjpbilfnaa.PD Go.Proofs.YtaahjfjpbilfnaaW.PrintWords Go.Proofs.Ytaahjfjpbilfnaa.Lem
set_option linter.unusedVariables false
set_option linter.unusedSimpArgs false

def markL (a : Int) (n : Nat) : List Int := (List.range n).map fun i : Nat => a + i
theorem markL_length (a : Int) (n : Nat) : (markL a n).length = n := by simp [markL]
theorem markL_get (a : Int) (n i : Nat) (h : i < (markL a n).length) : (markL a n)[i] = a + i := by simp [markL]
theorem mark_loop (a : Int) (ha : 0 ≤ a) (ha2 : a ≤ 1125899906842624) (n : Nat) (hn : n ≤ 140737488351232) : ∀ (d i : Nat) (x : List Int), n - i = d → i ≤ n → x.length = n → x.take i = (markL a n).take i → Ev (fun k => laws_markInt64S.l0 k x (a + i) (i : Int)) (a + n, markL a n) := by
  intro d
  induction d with
  | zero =>
    intro i x hd hi hx ht
    refine ev_succ ?_
    simp only [laws_markInt64S.l0]
    simp only [if_neg (show ¬ (i : Int) < (x.length : Int) by omega)]
    have e : i = n := by omega
    subst e
    rw [List.take_of_length_le (by omega), List.take_of_length_le (by rw [markL_length]; omega)] at ht
    exact ev_now (by rw [ht])
  | succ d ih =>
    intro i x hd hi hx ht
    refine ev_succ ?_
    simp only [laws_markInt64S.l0]
    have hlt : i < x.length := by omega
    simp only [if_pos (show (i : Int) < (x.length : Int) by omega), if_pos (show 0 ≤ (i : Int) by omega), Int.toNat_natCast, wrap_succ (show i < n by omega) hn]
    rw [wrap_id (show -9223372036854775808 ≤ a + (i : Int) + 1 by omega) (by omega), show a + (i : Int) + 1 = a + ((i + 1 : Nat) : Int) by omega]
    exact ih (i + 1) _ (by omega) (by omega) (by rw [List.length_set]; exact hx) (take_succ_set (markL a n) x i _ (by rw [markL_length]; omega) (by rw [markL_length]; exact hx) ht (by rw [markL_get]))
theorem mark_ev (l : List Int) (a : Int) (ha : 0 ≤ a) (ha2 : a ≤ 1125899906842624) (hl : l.length ≤ 140737488351232) : Ev (fun k => laws_markInt64S.f k l a) (a + l.length, markL a l.length) := by
  unfold laws_markInt64S.f
  have h := mark_loop a ha ha2 l.length hl l.length 0 l (by omega) (by omega) rfl (by simp)
  simpa using h
theorem held_loop (a : Int) (ha : 0 ≤ a) (ha2 : a ≤ 1125899906842624) (n : Nat) (hn : n ≤ 140737488351232) : ∀ (d i : Nat), n - i = d → i ≤ n → Ev (fun k => laws_heldInt64S.l0 k (markL a n) (a + i) (i : Int)) (a + n) := by
  intro d
  induction d with
  | zero =>
    intro i hd hi
    refine ev_succ ?_
    simp only [laws_heldInt64S.l0]
    simp only [markL_length, if_neg (show ¬ (i : Int) < (n : Int) by omega)]
    exact ev_now (by omega)
  | succ d ih =>
    intro i hd hi
    refine ev_succ ?_
    simp only [laws_heldInt64S.l0]
    have hlt : i < (markL a n).length := by rw [markL_length]; omega
    simp only [markL_length, if_pos (show (i : Int) < (n : Int) by omega), if_pos (show 0 ≤ (i : Int) by omega), rd_lt hlt, markL_get, if_true, wrap_succ (show i < n by omega) hn]
    rw [wrap_id (show -9223372036854775808 ≤ a + (i : Int) + 1 by omega) (by omega), show a + (i : Int) + 1 = a + ((i + 1 : Nat) : Int) by omega]
    exact ih (i + 1) (by omega) (by omega)
theorem held_ev (n : Nat) (a : Int) (ha : 0 ≤ a) (ha2 : a ≤ 1125899906842624) (hl : n ≤ 140737488351232) : Ev (fun k => laws_heldInt64S.f k (markL a n) a) (a + n) := by
  unfold laws_heldInt64S.f
  have h := held_loop a ha ha2 n hl n 0 (by omega) (by omega)
  simpa using h
end Go.Proofs.Ytaahjfjpbilfnaa.IntsD
/- Whether a number lies between two others, as the program and the reference ask it. -/
namespace Go.Proofs.Ytaahjfjpbilfnaa.SmallD
open Go.RowKit Go.Proofs.Ytaahjfjpbilfnaa.PD Go.Proofs.YtaahjfjpbilfnaaW.PrintWords Go.Proofs.Ytaahjfjpbilfnaa.Lem
set_option linter.unusedVariables false
set_option linter.unusedSimpArgs false

def inB (a b c : Int) : Bool := decide (b ≤ a) && decide (a ≤ c)
theorem inB_iff {a b c : Int} : inB a b c = true ↔ b ≤ a ∧ a ≤ c := by simp [inB]
theorem inB_not {a b c : Int} : inB a b c = false ↔ a < b ∨ c < a := by simp [inB]; omega
theorem l1In_eq (a b c : Int) : spec_l1In.f a b c = some (inB a b c) := by
  unfold spec_l1In.f inB
  by_cases h : b ≤ a
  · rw [if_pos h]; simp [h]
  · rw [if_neg h]; simp [h]
theorem within_eq (a b c : Int) : impl_within.f a b c = some (inB a b c) := by
  unfold impl_within.f inB
  by_cases h : b ≤ a
  · rw [if_pos h]; simp [h]
  · rw [if_neg h]; simp [h]
end Go.Proofs.Ytaahjfjpbilfnaa.SmallD
/- Whether all numbers of a list are words, as the program finds it, and what is wrong with a record. -/
namespace Go.Proofs.Ytaahjfjpbilfnaa.WordsD
open Go.RowKit Go.Proofs.Ytaahjfjpbilfnaa.PD Go.Proofs.YtaahjfjpbilfnaaW.PrintWords Go.Proofs.Ytaahjfjpbilfnaa.Lem Go.Proofs.Ytaahjfjpbilfnaa.SmallD
set_option linter.unusedVariables false
set_option linter.unusedSimpArgs false

def isW (n : Int) : Bool := inB n 0 65535
theorem l1Word_eq (a : Int) : spec_l1Word.f a = some (isW a) := by unfold spec_l1Word.f; rw [l1In_eq]; rfl
theorem notW_eq (a : Int) : impl_areWords_1.f a = some (!isW a) := by unfold impl_areWords_1.f impl_isWord.f; rw [within_eq]; rfl
theorem idx_loop (l : List Int) (hl : l.length ≤ 140737488351232) : ∀ (d i : Nat), l.length - i = d → i ≤ l.length → ∃ r : Int, Ev (fun k => slices_IndexFunc_int64__impl_areWords_1.l0 k l (l.length : Int) (i : Int)) r ∧ decide (r ≥ 0) = !((l.drop i).all isW) := by
  intro d
  induction d with
  | zero =>
    intro i hd hi
    refine ⟨-1, ev_succ ?_, by rw [List.drop_of_length_le (by omega)]; rfl⟩
    simp only [slices_IndexFunc_int64__impl_areWords_1.l0]
    simp only [if_neg (show ¬ (i : Int) < (l.length : Int) by omega)]
    exact ev_now rfl
  | succ d ih =>
    intro i hd hi
    have hlt : i < l.length := by omega
    rw [List.drop_eq_getElem_cons hlt]
    cases h : isW l[i]
    · refine ⟨i, ev_succ ?_, by simp only [List.all_cons, h, Bool.false_and, Bool.not_false, decide_eq_true_eq]; omega⟩
      simp only [slices_IndexFunc_int64__impl_areWords_1.l0, notW_eq, rd_lt hlt, h, Option.bind_some, Bool.not_false, if_true]
      simp only [if_pos (show (i : Int) < (l.length : Int) by omega), if_pos (show 0 ≤ (i : Int) by omega)]
      exact ev_now rfl
    · obtain ⟨r, h1, h2⟩ := ih (i + 1) (by omega) (by omega)
      refine ⟨r, ev_succ ?_, by rw [h2]; simp only [List.all_cons, h, Bool.true_and]⟩
      simp only [slices_IndexFunc_int64__impl_areWords_1.l0, notW_eq, rd_lt hlt, h, Option.bind_some, Bool.not_true, Bool.false_eq_true, if_false]
      simp only [if_pos (show (i : Int) < (l.length : Int) by omega), if_pos (show 0 ≤ (i : Int) by omega), wrap_succ hlt hl]
      exact h1
theorem areWords_ev (l : List Int) (hl : l.length ≤ 140737488351232) : Ev (fun k => impl_areWords.f k l) (l.all isW) := by
  unfold impl_areWords.f slices_ContainsFunc_int64__impl_areWords_1.f slices_IndexFunc_int64__impl_areWords_1.f
  obtain ⟨r, h1, h2⟩ := idx_loop l hl l.length 0 (by omega) (by omega)
  refine ev_bind (ev_bind h1 (ev_now rfl)) (ev_now ?_)
  rw [h2]; simp
end Go.Proofs.Ytaahjfjpbilfnaa.WordsD
/- Puts as the laws copy, compare, mark and look at them. (Lines of Blk and BlkMark, turned by a program to puts.) -/
namespace Go.Proofs.Ytaahjfjpbilfnaa.PutD
open Go.RowKit Go.Proofs.Ytaahjfjpbilfnaa.PD Go.Proofs.YtaahjfjpbilfnaaW.PrintWords Go.Proofs.Ytaahjfjpbilfnaa.Lem Go.Proofs.Ytaahjfjpbilfnaa.SmallD
set_option linter.unusedVariables false
set_option linter.unusedSimpArgs false
abbrev LB := S115
abbrev B := S53

def toB (b : LB) : B := ⟨b.f0, b.f1⟩
theorem rdL {l : List LB} {i : Nat} (h : i < l.length) : rd_T115 l (i : Int) = l[i] := by simp [rd_T115, h]
theorem rdB {l : List B} {i : Nat} (h : i < l.length) : rd_T53 l (i : Int) = l[i] := by simp [rd_T53, h]
theorem to_loop (l : List LB) (hl : l.length ≤ 140737488351232) : ∀ (d i : Nat) (x : List B), l.length - i = d → i ≤ l.length → x.length = l.length → x.take i = (l.map toB).take i → Ev (fun k => laws_toPutS.l0 k l x (i : Int)) (l.map toB) := by
  intro d
  induction d with
  | zero =>
    intro i x hd hi hx ht
    refine ev_succ ?_
    simp only [laws_toPutS.l0]
    simp only [if_neg (show ¬ (i : Int) < (l.length : Int) by omega)]
    refine ev_now ?_
    rw [List.take_of_length_le (by omega), List.take_of_length_le (by simp; omega)] at ht
    exact ht
  | succ d ih =>
    intro i x hd hi hx ht
    refine ev_succ ?_
    simp only [laws_toPutS.l0, laws_toPut.f, Option.bind_some]
    simp only [if_pos (show (i : Int) < (l.length : Int) by omega), if_pos (show 0 ≤ (i : Int) by omega), if_pos (show (i : Int) < (x.length : Int) by omega), wrap_succ (show i < l.length by omega) hl]
    refine ih (i + 1) _ (by omega) (by omega) (by rw [List.length_set]; exact hx) ?_
    exact take_succ_set (l.map toB) x i _ (by simp; omega) (by simp; omega) ht (by rw [rdL (by omega)]; simp [toB])
theorem to_ev (l : List LB) (hl : l.length ≤ 1048576) : Ev (fun k => laws_toPutS.f k l) (l.map toB) := by
  unfold laws_toPutS.f
  simp only [if_pos (show 0 ≤ (l.length : Int) by omega), if_pos (show ((l.length : Int) : Int).toNat ≤ 17592186044416 by omega)]
  exact to_loop l (by omega) l.length 0 _ (by omega) (by omega) (by simp) (by simp)
theorem eq_loop (l : List B) (hl : l.length ≤ 140737488351232) : ∀ (d i : Nat), l.length - i = d → i ≤ l.length → Ev (fun k => laws_eqPutS.l0 k l l (i : Int)) true := by
  intro d
  induction d with
  | zero =>
    intro i hd hi
    refine ev_succ ?_
    simp only [laws_eqPutS.l0]
    simp only [if_neg (show ¬ (i : Int) < (l.length : Int) by omega)]
    exact ev_now rfl
  | succ d ih =>
    intro i hd hi
    refine ev_succ ?_
    simp only [laws_eqPutS.l0, laws_eqPut.f, if_true, Option.bind_some]
    simp only [if_pos (show (i : Int) < (l.length : Int) by omega), if_pos (show 0 ≤ (i : Int) by omega), if_true, wrap_succ (show i < l.length by omega) hl]
    exact ih (i + 1) (by omega) (by omega)
theorem eq_ev (l : List B) (hl : l.length ≤ 140737488351232) : Ev (fun k => laws_eqPutS.f k l l) true := by
  unfold laws_eqPutS.f
  simp only [if_true]
  exact eq_loop l hl l.length 0 (by omega) (by omega)
theorem sz_eq (l : List LB) (a : Int) (ha : 0 ≤ a) (ha2 : a ≤ 1048576) (hl : l.length ≤ 140737488351232) : laws_szPutS.f l a = some (if a - l.length < 0 then -1 else a - l.length) := by
  unfold laws_szPutS.f
  rw [wrap_id (by omega) (by omega)]
  split <;> rfl

def markL (a : Int) (n : Nat) : List B := (List.range n).map fun i : Nat => (⟨a + 2 * i, a + 2 * i + 1⟩ : B)
theorem markL_length (a : Int) (n : Nat) : (markL a n).length = n := by simp [markL]
theorem markL_get (a : Int) (n i : Nat) (h : i < (markL a n).length) : (markL a n)[i] = ⟨a + 2 * i, a + 2 * i + 1⟩ := by simp [markL]
theorem mark_loop (a : Int) (ha : 0 ≤ a) (ha2 : a ≤ 1125899906842624) (n : Nat) (hn : n ≤ 140737488351232) : ∀ (d i : Nat) (x : List B), n - i = d → i ≤ n → x.length = n → x.take i = (markL a n).take i → Ev (fun k => laws_markPutS.l0 k x (a + 2 * i) (i : Int)) (a + 2 * n, markL a n) := by
  intro d
  induction d with
  | zero =>
    intro i x hd hi hx ht
    refine ev_succ ?_
    simp only [laws_markPutS.l0]
    simp only [if_neg (show ¬ (i : Int) < (x.length : Int) by omega)]
    have e : i = n := by omega
    subst e
    rw [List.take_of_length_le (by omega), List.take_of_length_le (by rw [markL_length]; omega)] at ht
    exact ev_now (by rw [ht])
  | succ d ih =>
    intro i x hd hi hx ht
    refine ev_succ ?_
    simp only [laws_markPutS.l0, Option.bind_some]
    have hlt : i < x.length := by omega
    have hlt2 : ∀ v, i < (x.set i v).length := fun v => by rw [List.length_set]; exact hlt
    simp only [if_pos (show (i : Int) < (x.length : Int) by omega), if_pos (show 0 ≤ (i : Int) by omega), Int.toNat_natCast, rdB (hlt2 _), List.getElem_set_self, List.set_set, wrap_succ (show i < n by omega) hn]
    rw [wrap_id (show -9223372036854775808 ≤ a + 2 * (i : Int) + 1 by omega) (by omega), wrap_id (show -9223372036854775808 ≤ a + 2 * (i : Int) + 1 + 1 by omega) (by omega), show a + 2 * (i : Int) + 1 + 1 = a + 2 * ((i + 1 : Nat) : Int) by omega]
    exact ih (i + 1) _ (by omega) (by omega) (by rw [List.length_set]; exact hx) (take_succ_set (markL a n) x i _ (by rw [markL_length]; omega) (by rw [markL_length]; exact hx) ht (by rw [markL_get]))
theorem mark_ev (l : List B) (a : Int) (ha : 0 ≤ a) (ha2 : a ≤ 1125899906842624) (hl : l.length ≤ 140737488351232) : Ev (fun k => laws_markPutS.f k l a) (a + 2 * l.length, markL a l.length) := by
  unfold laws_markPutS.f
  have h := mark_loop a ha ha2 l.length hl l.length 0 l (by omega) (by omega) rfl (by simp)
  simpa using h
theorem held_loop (a : Int) (ha : 0 ≤ a) (ha2 : a ≤ 1125899906842624) (n : Nat) (hn : n ≤ 140737488351232) : ∀ (d i : Nat), n - i = d → i ≤ n → Ev (fun k => laws_heldPutS.l0 k (markL a n) (a + 2 * i) (i : Int)) (a + 2 * n) := by
  intro d
  induction d with
  | zero =>
    intro i hd hi
    refine ev_succ ?_
    simp only [laws_heldPutS.l0]
    simp only [markL_length, if_neg (show ¬ (i : Int) < (n : Int) by omega)]
    exact ev_now (by omega)
  | succ d ih =>
    intro i hd hi
    refine ev_succ ?_
    simp only [laws_heldPutS.l0]
    have hlt : i < (markL a n).length := by rw [markL_length]; omega
    simp only [markL_length, if_pos (show (i : Int) < (n : Int) by omega), if_pos (show 0 ≤ (i : Int) by omega), rdB hlt, markL_get, if_true, wrap_succ (show i < n by omega) hn]
    rw [wrap_id (show -9223372036854775808 ≤ a + 2 * (i : Int) + 1 by omega) (by omega), wrap_id (show -9223372036854775808 ≤ a + 2 * (i : Int) + 1 + 1 by omega) (by omega), show a + 2 * (i : Int) + 1 + 1 = a + 2 * ((i + 1 : Nat) : Int) by omega]
    simp only [if_true]
    exact ih (i + 1) (by omega) (by omega)
theorem held_ev (n : Nat) (a : Int) (ha : 0 ≤ a) (ha2 : a ≤ 1125899906842624) (hl : n ≤ 140737488351232) : Ev (fun k => laws_heldPutS.f k (markL a n) a) (a + 2 * n) := by
  unfold laws_heldPutS.f
  have h := held_loop a ha ha2 n hl n 0 (by omega) (by omega)
  simpa using h
end Go.Proofs.Ytaahjfjpbilfnaa.PutD
/- Disks as the laws copy, compare, mark and look at them; what is wrong with a disk: the program's answer and the reference's are one. -/
namespace Go.Proofs.Ytaahjfjpbilfnaa.DiskD
open Go.RowKit Go.Proofs.Ytaahjfjpbilfnaa.PD Go.Proofs.YtaahjfjpbilfnaaW.PrintWords Go.Proofs.Ytaahjfjpbilfnaa.Lem Go.Proofs.Ytaahjfjpbilfnaa.SmallD Go.Proofs.Ytaahjfjpbilfnaa.WordsD
set_option linter.unusedVariables false
set_option linter.unusedSimpArgs false
abbrev LP := S115
abbrev P := S53
abbrev D := S30

theorem rdP {l : List P} {i : Nat} (h : i < l.length) : rd_T53 l (i : Int) = l[i] := PutD.rdB h
theorem rdD (d : D) : rd_T30 [d] 0 = d := by cases d; simp [rd_T30]
theorem to_ev (ws : List Int) (ps : List LP) (h : ws.length ≤ 1048576) (h2 : ps.length ≤ 1048576) : Ev (fun k => laws_toDisk.f k ws ps) (ws, ps.map PutD.toB) := by
  unfold laws_toDisk.f
  exact ev_bind (IntsD.to_ev ws (by omega)) (ev_bind (PutD.to_ev ps h2) (ev_now rfl))
theorem eq_ev (ws : List Int) (ps : List P) (h : ws.length ≤ 140737488351232) (h2 : ps.length ≤ 140737488351232) : Ev (fun k => laws_eqDisk.f k ws ps ws ps) true := by
  unfold laws_eqDisk.f
  refine ev_bind (IntsD.eq_ev ws h) ?_
  simp only [if_true]
  refine ev_bind (PutD.eq_ev ps h2) ?_
  simp only [if_true]
  exact ev_now rfl
theorem sz_ints (l : List Int) (a : Int) (ha : 0 ≤ a) (ha2 : a ≤ 1048576) (hl : l.length ≤ 140737488351232) : laws_szInt64S.f l a = some (if a - l.length < 0 then -1 else a - l.length) := by
  unfold laws_szInt64S.f
  rw [wrap_id (by omega) (by omega)]
  split <;> rfl
theorem sz_ok (ws : List Int) (ps : List LP) (h : ws.length ≤ 140737488351232) (h2 : ps.length ≤ 140737488351232) : ∃ t, laws_szDisk.f ws ps 1048576 = some t ∧ (¬ t < 0 → ws.length ≤ 1048576 ∧ ps.length ≤ 1048576) := by
  unfold laws_szDisk.f
  rw [sz_ints ws 1048576 (by omega) (by omega) h]
  simp only [Option.bind_some]
  by_cases c : (1048576 : Int) - ws.length < 0
  · exact ⟨-1, by simp only [if_pos c]; rfl, by omega⟩
  · simp only [if_neg c]
    rw [PutD.sz_eq ps _ (by omega) (by omega) h2]
    simp only [Option.bind_some]
    by_cases c2 : (1048576 : Int) - ws.length - ps.length < 0
    · exact ⟨-1, by simp only [if_pos c2]; rfl, by omega⟩
    · refine ⟨(1048576 : Int) - ws.length - ps.length, by simp only [if_neg c2], by omega⟩

def isP (n : Int) : Bool := inB n 0 63
def isPut (p : P) : Bool := isP p.f0 && isW p.f1
theorem l1Place_eq (a : Int) : spec_l1Place.f a = some (isP a) := by unfold spec_l1Place.f; rw [l1In_eq]; rfl
theorem isPlace_eq (a : Int) : impl_isPlace.f a = some (isP a) := by unfold impl_isPlace.f; rw [within_eq]; rfl
theorem isWord_eq (a : Int) : impl_isWord.f a = some (isW a) := by unfold impl_isWord.f; rw [within_eq]; rfl
theorem notP_eq (a b : Int) : impl_DiskFault_1.f a b = some (!(isP a && isW b)) := by
  unfold impl_DiskFault_1.f
  rw [isPlace_eq, isWord_eq]
  cases h : isP a <;> simp
def df (ws : List Int) (ps : List P) : Int := if (ws.length : Int) = 64 then (if (ps.length : Int) > 200 then 2 else (if ws.all isW = true then (if ps.all isPut = true then 0 else 3) else 3)) else 1
theorem idx_loop (l : List P) (hl : l.length ≤ 140737488351232) : ∀ (d i : Nat), l.length - i = d → i ≤ l.length → ∃ r : Int, Ev (fun k => slices_IndexFunc_impl_Put__impl_DiskFault_1.l0 k l (l.length : Int) (i : Int)) r ∧ decide (r ≥ 0) = !((l.drop i).all isPut) := by
  intro d
  induction d with
  | zero =>
    intro i hd hi
    refine ⟨-1, ev_succ ?_, by rw [List.drop_of_length_le (by omega)]; rfl⟩
    simp only [slices_IndexFunc_impl_Put__impl_DiskFault_1.l0]
    simp only [if_neg (show ¬ (i : Int) < (l.length : Int) by omega)]
    exact ev_now rfl
  | succ d ih =>
    intro i hd hi
    have hlt : i < l.length := by omega
    rw [List.drop_eq_getElem_cons hlt]
    cases h : isPut l[i]
    · have h' : (isP l[i].f0 && isW l[i].f1) = false := h
      refine ⟨i, ev_succ ?_, by simp only [List.all_cons, h, Bool.false_and, Bool.not_false, decide_eq_true_eq]; omega⟩
      simp only [slices_IndexFunc_impl_Put__impl_DiskFault_1.l0, notP_eq, rdP hlt, h', Option.bind_some, Bool.not_false, if_true]
      simp only [if_pos (show (i : Int) < (l.length : Int) by omega), if_pos (show 0 ≤ (i : Int) by omega)]
      exact ev_now rfl
    · have h' : (isP l[i].f0 && isW l[i].f1) = true := h
      obtain ⟨r, h1, h2⟩ := ih (i + 1) (by omega) (by omega)
      refine ⟨r, ev_succ ?_, by rw [h2]; simp only [List.all_cons, h, Bool.true_and]⟩
      simp only [slices_IndexFunc_impl_Put__impl_DiskFault_1.l0, notP_eq, rdP hlt, h', Option.bind_some, Bool.not_true, Bool.false_eq_true, if_false]
      simp only [if_pos (show (i : Int) < (l.length : Int) by omega), if_pos (show 0 ≤ (i : Int) by omega), wrap_succ hlt hl]
      exact h1
theorem impl_ev (ws : List Int) (ps : List P) (h : ws.length ≤ 140737488351232) (h2 : ps.length ≤ 140737488351232) : Ev (fun k => impl_DiskFault.f k ws ps) (df ws ps) := by
  unfold impl_DiskFault.f df
  by_cases c : (ws.length : Int) = 64
  · simp only [if_pos c]
    by_cases c2 : (ps.length : Int) > 200
    · simp only [if_pos c2]; exact ev_now rfl
    · simp only [if_neg c2]
      refine ev_bind (areWords_ev ws h) ?_
      by_cases c3 : ws.all isW = true
      · simp only [if_pos c3]
        unfold slices_ContainsFunc_impl_Put__impl_DiskFault_1.f slices_IndexFunc_impl_Put__impl_DiskFault_1.f
        obtain ⟨r, h1, h3⟩ := idx_loop ps h2 ps.length 0 (by omega) (by omega)
        rw [List.drop_zero] at h3
        refine ev_bind (ev_bind h1 (ev_now rfl)) ?_
        rw [h3]
        cases ps.all isPut
        · exact ev_now rfl
        · exact ev_now rfl
      · simp only [if_neg c3]; exact ev_now rfl
  · simp only [if_neg c]; exact ev_now rfl
theorem fault_puts (ws : List Int) (ps : List P) (h : ws.length ≤ 140737488351232) (h2 : ps.length ≤ 140737488351232) : ∀ (d i : Nat), ps.length - i = d → i ≤ ps.length → Ev (fun k => spec_l1Fault.l1 k ⟨ws, ps⟩ (i : Int)) (if (ps.drop i).all isPut = true then 0 else 3) := by
  intro d
  induction d with
  | zero =>
    intro i hd hi
    refine ev_succ ?_
    simp only [spec_l1Fault.l1, rdD]
    simp only [if_neg (show ¬ (i : Int) < (ps.length : Int) by omega)]
    exact ev_now (by rw [List.drop_of_length_le (by omega)]; rfl)
  | succ d ih =>
    intro i hd hi
    have hlt : i < ps.length := by omega
    have ih' := ih (i + 1) (by omega) (by omega)
    have e : (ps.drop i).all isPut = (isP ps[i].f0 && isW ps[i].f1 && (ps.drop (i + 1)).all isPut) := by rw [List.drop_eq_getElem_cons hlt]; rfl
    rw [e]
    refine ev_succ ?_
    simp only [spec_l1Fault.l1, rdD, rdP hlt, l1Place_eq, l1Word_eq, Option.bind_some]
    simp only [if_pos (show (i : Int) < (ps.length : Int) by omega), if_pos (show 0 ≤ (i : Int) by omega), wrap_succ hlt h2]
    cases h3 : isP ps[i].f0
    · simp only [Bool.false_and, Bool.false_eq_true, if_false]; exact ev_now rfl
    · cases h4 : isW ps[i].f1
      · simp only [Bool.false_and, Bool.true_and, Bool.false_eq_true, if_false, if_true]; exact ev_now rfl
      · simp only [Bool.true_and, if_true]; exact ih'
theorem fault_words (ws : List Int) (ps : List P) (h : ws.length ≤ 140737488351232) (h2 : ps.length ≤ 140737488351232) : ∀ (d i : Nat), ws.length - i = d → i ≤ ws.length → Ev (fun k => spec_l1Fault.l0 k ⟨ws, ps⟩ (i : Int)) (if (ws.drop i).all isW = true then (if ps.all isPut = true then 0 else 3) else 3) := by
  intro d
  induction d with
  | zero =>
    intro i hd hi
    refine ev_succ ?_
    simp only [spec_l1Fault.l0, rdD]
    simp only [if_neg (show ¬ (i : Int) < (ws.length : Int) by omega)]
    have := fault_puts ws ps h h2 ps.length 0 (by omega) (by omega)
    rw [List.drop_of_length_le (by omega)]
    exact this
  | succ d ih =>
    intro i hd hi
    have hlt : i < ws.length := by omega
    have ih' := ih (i + 1) (by omega) (by omega)
    have e : (ws.drop i).all isW = (isW ws[i] && (ws.drop (i + 1)).all isW) := by rw [List.drop_eq_getElem_cons hlt]; rfl
    rw [e]
    refine ev_succ ?_
    simp only [spec_l1Fault.l0, rdD, rd_lt hlt, l1Word_eq, Option.bind_some]
    simp only [if_pos (show (i : Int) < (ws.length : Int) by omega), if_pos (show 0 ≤ (i : Int) by omega), wrap_succ hlt h]
    cases h3 : isW ws[i]
    · simp only [Bool.false_and, Bool.false_eq_true, if_false]; exact ev_now rfl
    · simp only [Bool.true_and, if_true]; exact ih'
theorem l1Fault_ev (ws : List Int) (ps : List P) (h : ws.length ≤ 140737488351232) (h2 : ps.length ≤ 140737488351232) : Ev (fun k => spec_l1Fault.f k ⟨ws, ps⟩) (df ws ps) := by
  unfold spec_l1Fault.f df
  simp only [rdD]
  by_cases c : (ws.length : Int) = 64
  · simp only [if_pos c]
    by_cases c2 : (ps.length : Int) > 200
    · simp only [if_pos c2]; exact ev_now rfl
    · simp only [if_neg c2]
      exact fault_words ws ps h h2 ws.length 0 (by omega) (by omega)
  · simp only [if_neg c]; exact ev_now rfl
theorem spec_ev (ws : List Int) (ps : List P) (h : ws.length ≤ 140737488351232) (h2 : ps.length ≤ 140737488351232) : Ev (fun k => spec_DiskFault.f k ws ps) (df ws ps) := by
  unfold spec_DiskFault.f
  exact ev_bind (l1Fault_ev ws ps h h2) (ev_now rfl)
structure Fine (ws : List Int) (ps : List P) : Prop where
  len : ws.length = 64
  many : ps.length ≤ 200
  words : ws.all isW = true
  puts : ps.all isPut = true
theorem fine {ws : List Int} {ps : List P} (h : df ws ps = 0) : Fine ws ps := by
  unfold df at h
  by_cases c : (ws.length : Int) = 64
  · rw [if_pos c] at h
    by_cases c2 : (ps.length : Int) > 200
    · rw [if_pos c2] at h; omega
    · rw [if_neg c2] at h
      by_cases c3 : ws.all isW = true
      · rw [if_pos c3] at h
        by_cases c4 : ps.all isPut = true
        · exact ⟨by omega, by omega, c3, c4⟩
        · rw [if_neg c4] at h; omega
      · rw [if_neg c3] at h; omega
  · rw [if_neg c] at h; omega
theorem Fine.df {ws : List Int} {ps : List P} (h : Fine ws ps) : DiskD.df ws ps = 0 := by
  unfold DiskD.df
  rw [if_pos (by have := h.len; omega), if_neg (by have := h.many; omega), if_pos h.words, if_pos h.puts]
theorem Fine.put {ws : List Int} {ps : List P} (h : Fine ws ps) {p : P} (hp : p ∈ ps) : 0 ≤ p.f0 ∧ p.f0 ≤ 63 := by
  have := List.all_eq_true.1 h.puts p hp
  simp only [isPut, Bool.and_eq_true] at this
  exact inB_iff.1 this.1
end Go.Proofs.Ytaahjfjpbilfnaa.DiskD
/- Marking disks and results that hold disks or numbers, and looking at marked ones, as the laws do. -/
namespace Go.Proofs.Ytaahjfjpbilfnaa.DiskD
open Go.RowKit Go.Proofs.Ytaahjfjpbilfnaa.PD Go.Proofs.YtaahjfjpbilfnaaW.PrintWords Go.Proofs.Ytaahjfjpbilfnaa.Lem Go.Proofs.Ytaahjfjpbilfnaa.SmallD
set_option linter.unusedVariables false
set_option linter.unusedSimpArgs false

def mkP (n m : Nat) : List P := PutD.markL (1 + n) m
theorem mark_ev (ws : List Int) (ps : List P) (h : ws.length ≤ 1048576) (h2 : ps.length ≤ 1048576) : Ev (fun k => laws_markDisk.f k ws ps 1) (1 + ws.length + 2 * ps.length, IntsD.markL 1 ws.length, mkP ws.length ps.length) := by
  unfold laws_markDisk.f
  exact ev_bind (IntsD.mark_ev ws 1 (by omega) (by omega) (by omega)) (ev_bind (PutD.mark_ev ps _ (by omega) (by omega) (by omega)) (ev_now rfl))
theorem held_ev (n m : Nat) (h : n ≤ 1048576) (h2 : m ≤ 1048576) : Ev (fun k => laws_heldDisk.f k (IntsD.markL 1 n) (mkP n m) 1) (1 + n + 2 * m) := by
  unfold laws_heldDisk.f
  refine ev_bind (IntsD.held_ev n 1 (by omega) (by omega) (by omega)) ?_
  simp only [if_neg (show ¬ (1 : Int) + n < 0 by omega)]
  refine ev_bind (PutD.held_ev m _ (by omega) (by omega) (by omega)) ?_
  simp only [if_neg (show ¬ (1 : Int) + n + 2 * m < 0 by omega)]
  exact ev_now rfl
theorem markRes_ev (c : Int) (ws : List Int) (ps : List P) (h : ws.length ≤ 1048576) (h2 : ps.length ≤ 1048576) : Ev (fun k => laws_markDiskResult.f k c ws ps 1) (1 + ws.length + 2 * ps.length, IntsD.markL 1 ws.length, mkP ws.length ps.length) := by
  unfold laws_markDiskResult.f
  exact ev_bind (mark_ev ws ps h h2) (ev_now rfl)
theorem heldRes_ev (c : Int) (n m : Nat) (h : n ≤ 1048576) (h2 : m ≤ 1048576) : Ev (fun k => laws_heldDiskResult.f k c (IntsD.markL 1 n) (mkP n m) 1) (1 + n + 2 * m) := by
  unfold laws_heldDiskResult.f
  refine ev_bind (held_ev n m h h2) ?_
  simp only [if_neg (show ¬ (1 : Int) + n + 2 * m < 0 by omega)]
  exact ev_now rfl
theorem eqRes_ev (c : Int) (ws : List Int) (ps : List P) (h : ws.length ≤ 1048576) (h2 : ps.length ≤ 1048576) : Ev (fun k => laws_eqDiskResult.f k c ws ps c ws ps) true := by
  unfold laws_eqDiskResult.f
  simp only [if_true]
  refine ev_bind (eq_ev ws ps (by omega) (by omega)) ?_
  simp only [if_true]
  exact ev_now rfl
end Go.Proofs.Ytaahjfjpbilfnaa.DiskD
/- What a disk reads as behind all that was put: the program's fold over the puts and the reference's last put are one list. -/
namespace Go.Proofs.Ytaahjfjpbilfnaa.DiskD
open Go.RowKit Go.Proofs.Ytaahjfjpbilfnaa.PD Go.Proofs.YtaahjfjpbilfnaaW.PrintWords Go.Proofs.Ytaahjfjpbilfnaa.Lem Go.Proofs.Ytaahjfjpbilfnaa.SmallD Go.Proofs.Ytaahjfjpbilfnaa.WordsD
set_option linter.unusedVariables false
set_option linter.unusedSimpArgs false

def fl : List Int → List P → List Int
  | ws, [] => ws
  | ws, p :: r => fl (ws.set p.f0.toNat p.f1) r
theorem fl_length : ∀ (ps : List P) (ws : List Int), (fl ws ps).length = ws.length
  | [], ws => rfl
  | p :: r, ws => by rw [fl, fl_length r]; exact List.length_set
theorem fl_append : ∀ (ps qs : List P) (ws : List Int), fl ws (ps ++ qs) = fl (fl ws ps) qs
  | [], qs, ws => rfl
  | p :: r, qs, ws => by rw [List.cons_append, fl, fl_append r qs, fl]
theorem clone_ints (l : List Int) (h : l.length < 17592186044416) : slices_Clone_int64.f l = some l := by
  unfold slices_Clone_int64.f
  simp only [Option.bind_some, List.length_nil, Nat.zero_add, if_pos h, List.nil_append]
theorem flush_loop (ps : List P) (hp : ps.length ≤ 140737488351232) : ∀ (d i : Nat) (ws : List Int), ps.length - i = d → i ≤ ps.length → (∀ p ∈ ps, 0 ≤ p.f0 ∧ p.f0 < ws.length) → Ev (fun k => impl_flushed.l0 k ws ps (ps.length : Int) (i : Int)) (fl ws (ps.drop i)) := by
  intro d
  induction d with
  | zero =>
    intro i ws hd hi hb
    refine ev_succ ?_
    simp only [impl_flushed.l0]
    simp only [if_neg (show ¬ (i : Int) < (ps.length : Int) by omega)]
    exact ev_now (by rw [List.drop_of_length_le (by omega)]; rfl)
  | succ d ih =>
    intro i ws hd hi hb
    have hlt : i < ps.length := by omega
    have b := hb _ (List.getElem_mem hlt)
    rw [List.drop_eq_getElem_cons hlt, fl]
    refine ev_succ ?_
    simp only [impl_flushed.l0, rdP hlt]
    simp only [if_pos (show (i : Int) < (ps.length : Int) by omega), if_pos (show 0 ≤ (i : Int) by omega), if_pos b.1, if_pos b.2, wrap_succ hlt hp]
    exact ih (i + 1) _ (by omega) (by omega) (by intro p hp'; rw [List.length_set]; exact hb p hp')
theorem flushed_ev (ws : List Int) (ps : List P) (h : ws.length ≤ 1048576) (hp : ps.length ≤ 140737488351232) (hb : ∀ p ∈ ps, 0 ≤ p.f0 ∧ p.f0 < ws.length) : Ev (fun k => impl_flushed.f k ws ps) (fl ws ps) := by
  unfold impl_flushed.f
  refine ev_bind0 (clone_ints ws (by omega)) ?_
  have := flush_loop ps hp ps.length 0 ws (by omega) (by omega) hb
  rwa [List.drop_zero] at this
theorem Fine.bound {ws : List Int} {ps : List P} (h : Fine ws ps) : ∀ p ∈ ps, 0 ≤ p.f0 ∧ p.f0 < ws.length := by
  intro p hp
  have := h.put hp
  have := h.len
  omega
theorem flush_fine {ws : List Int} {ps : List P} (h : Fine ws ps) : Ev (fun k => impl_flushed.f k ws ps) (fl ws ps) :=
  flushed_ev ws ps (by have := h.len; omega) (by have := h.many; omega) h.bound
theorem at_loop (ws : List Int) (ps : List P) (a : Nat) (ha : a < ws.length) (hp : ps.length ≤ 140737488351232) (hb : ∀ p ∈ ps, 0 ≤ p.f0 ∧ p.f0 < ws.length) : ∀ i, i ≤ ps.length → Ev (fun k => spec_l1At.l0 k ⟨ws, ps⟩ (a : Int) ((i : Int) - 1)) (rd (fl ws (ps.take i)) (a : Int)) := by
  intro i
  induction i with
  | zero =>
    intro hi
    refine ev_succ ?_
    simp only [spec_l1At.l0, rdD]
    simp only [if_neg (show ¬ ((0 : Nat) : Int) - 1 ≥ 0 by omega), if_pos (show 0 ≤ (a : Int) by omega), if_pos (show (a : Int) < (ws.length : Int) by omega)]
    exact ev_now (by rw [List.take_zero, fl])
  | succ i ih =>
    intro hi
    have hlt : i < ps.length := by omega
    have b := hb _ (List.getElem_mem hlt)
    have ih' := ih (by omega)
    have e : ps.take (i + 1) = ps.take i ++ [ps[i]] := by rw [List.take_add_one, List.getElem?_eq_getElem hlt]; rfl
    rw [e, fl_append, fl, fl]
    refine ev_succ ?_
    have e1 : ((i + 1 : Nat) : Int) - 1 = (i : Int) := by omega
    simp only [spec_l1At.l0, rdD, e1, rdP hlt]
    simp only [if_pos (show (i : Int) ≥ 0 by omega), if_pos (show 0 ≤ (i : Int) by omega), if_pos (show (i : Int) < (ps.length : Int) by omega), wrap_id (show -9223372036854775808 ≤ (i : Int) - 1 by omega) (by omega)]
    by_cases c : ps[i].f0 = (a : Int)
    · simp only [if_pos c]
      refine ev_now ?_
      rw [c, Int.toNat_natCast, rd_lt (by rw [List.length_set, fl_length]; exact ha), List.getElem_set_self]
    · simp only [if_neg c]
      have e2 : rd ((fl ws (ps.take i)).set ps[i].f0.toNat ps[i].f1) (a : Int) = rd (fl ws (ps.take i)) (a : Int) := by
        rw [rd_lt (by rw [List.length_set, fl_length]; exact ha), rd_lt (by rw [fl_length]; exact ha)]
        exact List.getElem_set_ne (by omega) _
      rw [e2]
      exact ih'
theorem at_ev (ws : List Int) (ps : List P) (a : Nat) (ha : a < ws.length) (hp : ps.length ≤ 140737488351232) (hb : ∀ p ∈ ps, 0 ≤ p.f0 ∧ p.f0 < ws.length) : Ev (fun k => spec_l1At.f k ⟨ws, ps⟩ (a : Int)) (rd (fl ws ps) (a : Int)) := by
  unfold spec_l1At.f
  simp only [rdD]
  rw [wrap_id (show -9223372036854775808 ≤ (ps.length : Int) - 1 by omega) (by omega)]
  have := at_loop ws ps a ha hp hb ps.length (by omega)
  rwa [List.take_of_length_le (by omega)] at this
theorem all_loop {ws : List Int} {ps : List P} (hf : Fine ws ps) : ∀ (d i : Nat), 64 - i = d → i ≤ 64 → Ev (fun k => spec_l1All.l0 k ⟨ws, ps⟩ ((fl ws ps).take i) (i : Int)) (fl ws ps) := by
  have hlen : (fl ws ps).length = 64 := by rw [fl_length, hf.len]
  intro d
  induction d with
  | zero =>
    intro i hd hi
    refine ev_succ ?_
    simp only [spec_l1All.l0]
    simp only [if_neg (show ¬ (i : Int) < 64 by omega)]
    exact ev_now (List.take_of_length_le (by omega))
  | succ d ih =>
    intro i hd hi
    have hlt : i < (fl ws ps).length := by omega
    refine ev_succ ?_
    simp only [spec_l1All.l0]
    simp only [if_pos (show (i : Int) < 64 by omega)]
    refine ev_bind (at_ev ws ps i (by have := hf.len; omega) (by have := hf.many; omega) hf.bound) ?_
    simp only [if_pos (show ((fl ws ps).take i).length < 17592186044416 by rw [List.length_take]; omega), wrap_succ (show i < 64 by omega) (by omega)]
    have e : (fl ws ps).take i ++ [rd (fl ws ps) (i : Int)] = (fl ws ps).take (i + 1) := by rw [rd_lt hlt, List.take_add_one, List.getElem?_eq_getElem hlt]; rfl
    rw [e]
    exact ih (i + 1) (by omega) (by omega)
theorem all_ev {ws : List Int} {ps : List P} (hf : Fine ws ps) : Ev (fun k => spec_l1All.f k ⟨ws, ps⟩) (fl ws ps) := by
  unfold spec_l1All.f
  exact all_loop hf 64 0 (by omega) (by omega)
theorem isP_cast {a : Int} (h : isP a = true) : ∃ n : Nat, a = (n : Int) ∧ n < 64 := by
  obtain ⟨h1, h2⟩ := inB_iff.1 h
  exact ⟨a.toNat, by omega, by omega⟩
end Go.Proofs.Ytaahjfjpbilfnaa.DiskD
/- Lists of truth values, as the laws copy, compare and mark them. -/
namespace Go.Proofs.Ytaahjfjpbilfnaa.BoolsD
open Go.RowKit Go.Proofs.Ytaahjfjpbilfnaa.PD Go.Proofs.YtaahjfjpbilfnaaW.PrintWords Go.Proofs.Ytaahjfjpbilfnaa.Lem
set_option linter.unusedVariables false
set_option linter.unusedSimpArgs false

theorem rdB {l : List Bool} {i : Nat} (h : i < l.length) : rdOf false l (i : Int) = l[i] := by simp [rdOf, h]
theorem to_loop (l : List Bool) (hl : l.length ≤ 140737488351232) : ∀ (d i : Nat) (x : List Bool), l.length - i = d → i ≤ l.length → x.length = l.length → x.take i = l.take i → Ev (fun k => laws_toBoolS.l0 k l x (i : Int)) l := by
  intro d
  induction d with
  | zero =>
    intro i x hd hi hx ht
    refine ev_succ ?_
    simp only [laws_toBoolS.l0]
    simp only [if_neg (show ¬ (i : Int) < (l.length : Int) by omega)]
    refine ev_now ?_
    rw [List.take_of_length_le (by omega), List.take_of_length_le (by omega)] at ht
    exact ht
  | succ d ih =>
    intro i x hd hi hx ht
    refine ev_succ ?_
    simp only [laws_toBoolS.l0]
    simp only [if_pos (show (i : Int) < (l.length : Int) by omega), if_pos (show 0 ≤ (i : Int) by omega), if_pos (show (i : Int) < (x.length : Int) by omega), wrap_succ (show i < l.length by omega) hl]
    exact ih (i + 1) _ (by omega) (by omega) (by rw [List.length_set]; exact hx) (take_succ_set l x i _ (by omega) hx ht (rdB (by omega)))
theorem to_ev (l : List Bool) (hl : l.length ≤ 35184372088832) : Ev (fun k => laws_toBoolS.f k l) l := by
  unfold laws_toBoolS.f
  simp only [if_pos (show 0 ≤ (l.length : Int) by omega), if_pos (show ((l.length : Int) : Int).toNat ≤ 281474976710656 by omega)]
  exact to_loop l (by omega) l.length 0 _ (by omega) (by omega) (by simp) (by simp)
theorem eq_loop (l : List Bool) (hl : l.length ≤ 140737488351232) : ∀ (d i : Nat), l.length - i = d → i ≤ l.length → Ev (fun k => laws_eqBoolS.l0 k l l (i : Int)) true := by
  intro d
  induction d with
  | zero =>
    intro i hd hi
    refine ev_succ ?_
    simp only [laws_eqBoolS.l0]
    simp only [if_neg (show ¬ (i : Int) < (l.length : Int) by omega)]
    exact ev_now rfl
  | succ d ih =>
    intro i hd hi
    refine ev_succ ?_
    have e : ∀ b : Bool, (b != b) = false := by decide
    simp only [laws_eqBoolS.l0, e]
    simp only [if_pos (show (i : Int) < (l.length : Int) by omega), if_pos (show 0 ≤ (i : Int) by omega), Bool.false_eq_true, if_false, wrap_succ (show i < l.length by omega) hl]
    exact ih (i + 1) (by omega) (by omega)
theorem eq_ev (l : List Bool) (hl : l.length ≤ 140737488351232) : Ev (fun k => laws_eqBoolS.f k l l) true := by
  unfold laws_eqBoolS.f
  simp only [if_true]
  exact eq_loop l hl l.length 0 (by omega) (by omega)
def markL (a : Int) (n : Nat) : List Bool := (List.range n).map fun i : Nat => (Int.tmod (a + i) 3) == 0
theorem markL_length (a : Int) (n : Nat) : (markL a n).length = n := by simp [markL]
theorem markL_get (a : Int) (n i : Nat) (h : i < (markL a n).length) : (markL a n)[i] = ((Int.tmod (a + i) 3) == 0) := by simp [markL]
theorem mark_loop (a : Int) (ha : 0 ≤ a) (ha2 : a ≤ 1125899906842624) (n : Nat) (hn : n ≤ 140737488351232) : ∀ (d i : Nat) (x : List Bool), n - i = d → i ≤ n → x.length = n → x.take i = (markL a n).take i → Ev (fun k => laws_markBoolS.l0 k x (a + i) (i : Int)) (a + n, markL a n) := by
  intro d
  induction d with
  | zero =>
    intro i x hd hi hx ht
    refine ev_succ ?_
    simp only [laws_markBoolS.l0]
    simp only [if_neg (show ¬ (i : Int) < (x.length : Int) by omega)]
    have e : i = n := by omega
    subst e
    rw [List.take_of_length_le (by omega), List.take_of_length_le (by rw [markL_length]; omega)] at ht
    exact ev_now (by rw [ht])
  | succ d ih =>
    intro i x hd hi hx ht
    refine ev_succ ?_
    simp only [laws_markBoolS.l0]
    have hlt : i < x.length := by omega
    simp only [if_pos (show (i : Int) < (x.length : Int) by omega), if_pos (show 0 ≤ (i : Int) by omega), Int.toNat_natCast, wrap_succ (show i < n by omega) hn]
    rw [wrap_id (show -9223372036854775808 ≤ a + (i : Int) + 1 by omega) (by omega), show a + (i : Int) + 1 = a + ((i + 1 : Nat) : Int) by omega]
    exact ih (i + 1) _ (by omega) (by omega) (by rw [List.length_set]; exact hx) (take_succ_set (markL a n) x i _ (by rw [markL_length]; omega) (by rw [markL_length]; exact hx) ht (by rw [markL_get]))
theorem mark_ev (l : List Bool) (a : Int) (ha : 0 ≤ a) (ha2 : a ≤ 1125899906842624) (hl : l.length ≤ 140737488351232) : Ev (fun k => laws_markBoolS.f k l a) (a + l.length, markL a l.length) := by
  unfold laws_markBoolS.f
  have h := mark_loop a ha ha2 l.length hl l.length 0 l (by omega) (by omega) rfl (by simp)
  simpa using h
end Go.Proofs.Ytaahjfjpbilfnaa.BoolsD
/- A crash of a disk: both answers are one. -/
namespace Go.Proofs.Ytaahjfjpbilfnaa.DiskD
open Go.RowKit Go.Proofs.Ytaahjfjpbilfnaa.PD Go.Proofs.YtaahjfjpbilfnaaW.PrintWords Go.Proofs.Ytaahjfjpbilfnaa.Lem Go.Proofs.Ytaahjfjpbilfnaa.SmallD Go.Proofs.Ytaahjfjpbilfnaa.WordsD
set_option linter.unusedVariables false
set_option linter.unusedSimpArgs false

def pk : List P → List Bool → List P
  | p :: r, b :: q => if b = true then p :: pk r q else pk r q
  | _, _ => []
theorem pk_nil (l : List P) : pk l [] = [] := by cases l <;> rfl
theorem pk_mem : ∀ {l : List P} {b : List Bool} {p : P}, p ∈ pk l b → p ∈ l
  | [], _, p, h => by cases h
  | x :: r, [], p, h => by cases h
  | x :: r, b :: q, p, h => by
    simp only [pk] at h
    by_cases c : b = true
    · rw [if_pos c] at h
      rcases List.mem_cons.1 h with rfl | h
      · exact List.mem_cons_self
      · exact List.mem_cons_of_mem _ (pk_mem h)
    · rw [if_neg c] at h
      exact List.mem_cons_of_mem _ (pk_mem h)
theorem pk_length : ∀ (l : List P) (b : List Bool), (pk l b).length ≤ l.length
  | [], _ => Nat.le_refl _
  | x :: r, [] => Nat.zero_le _
  | x :: r, b :: q => by
    have := pk_length r q
    simp only [pk]
    by_cases c : b = true
    · rw [if_pos c]; simp only [List.length_cons]; omega
    · rw [if_neg c]; simp only [List.length_cons]; omega
theorem crash_spec_loop (ws : List Int) (ps : List P) (bs : List Bool) (hp : ps.length ≤ 1048576) (hb : bs.length ≤ 1048576) : ∀ (d i : Nat) (w : List Int), ps.length - i = d → i ≤ ps.length → (∀ p ∈ ps, 0 ≤ p.f0 ∧ p.f0 < w.length) → Ev (fun k => spec_CrashDisk.l0 k bs (i : Int) ws ps w) (0, fl w (pk (ps.drop i) (bs.drop i)), []) := by
  intro d
  induction d with
  | zero =>
    intro i w hd hi hw
    refine ev_succ ?_
    simp only [spec_CrashDisk.l0]
    simp only [if_neg (show ¬ (i : Int) < (ps.length : Int) by omega)]
    refine ev_succ ?_
    simp only [spec_CrashDisk.j1, Bool.false_eq_true, if_false]
    refine ev_now ?_
    rw [List.drop_of_length_le (show ps.length ≤ i by omega)]
    rfl
  | succ d ih =>
    intro i w hd hi hw
    have hlt : i < ps.length := by omega
    have b := hw _ (List.getElem_mem hlt)
    refine ev_succ ?_
    simp only [spec_CrashDisk.l0]
    simp only [if_pos (show (i : Int) < (ps.length : Int) by omega)]
    refine ev_succ ?_
    by_cases c : i < bs.length
    · rw [List.drop_eq_getElem_cons hlt, List.drop_eq_getElem_cons c, pk]
      simp only [spec_CrashDisk.j1, decide_eq_true (show (i : Int) < (bs.length : Int) by omega), if_true, BoolsD.rdB c, rdP hlt]
      simp only [if_pos (show (i : Int) < (bs.length : Int) by omega), if_pos (show 0 ≤ (i : Int) by omega), if_pos (show (i : Int) < (ps.length : Int) by omega), if_pos b.1, if_pos b.2, wrap_succ hlt (by omega)]
      by_cases c2 : bs[i] = true
      · simp only [if_pos c2]
        rw [fl]
        exact ih (i + 1) _ (by omega) (by omega) (by intro p hp'; rw [List.length_set]; exact hw p hp')
      · simp only [if_neg c2]
        exact ih (i + 1) _ (by omega) (by omega) hw
    · simp only [spec_CrashDisk.j1, decide_eq_false (show ¬ (i : Int) < (bs.length : Int) by omega), Bool.false_eq_true, if_false]
      refine ev_now ?_
      rw [List.drop_of_length_le (show bs.length ≤ i by omega), pk_nil]
      rfl
theorem crash_impl_loop (ws : List Int) (ps : List P) (bs : List Bool) (hw : ws.length ≤ 1048576) (hp : ps.length ≤ 1048576) (hb : bs.length ≤ 1048576) (hf : ∀ p ∈ ps, 0 ≤ p.f0 ∧ p.f0 < ws.length) : ∀ (d i : Nat) (acc : List P), ps.length - i = d → i ≤ ps.length → acc.length ≤ i → (∀ p ∈ acc, p ∈ ps) → Ev (fun k => impl_CrashDisk.l0 k bs ps (ps.length : Int) (i : Int) ws acc) (0, fl ws (acc ++ pk (ps.drop i) (bs.drop i)), []) := by
  intro d
  induction d with
  | zero =>
    intro i acc hd hi ha hm
    refine ev_succ ?_
    simp only [impl_CrashDisk.l0]
    simp only [if_neg (show ¬ (i : Int) < (ps.length : Int) by omega)]
    rw [List.drop_of_length_le (show ps.length ≤ i by omega)]
    refine ev_bind (flushed_ev ws acc hw (by omega) (fun p h => hf p (hm p h))) (ev_now ?_)
    simp only [pk, List.append_nil]
  | succ d ih =>
    intro i acc hd hi ha hm
    have hlt : i < ps.length := by omega
    refine ev_succ ?_
    simp only [impl_CrashDisk.l0, rdP hlt]
    simp only [if_pos (show (i : Int) < (ps.length : Int) by omega), if_pos (show 0 ≤ (i : Int) by omega), wrap_succ hlt (show ps.length ≤ 140737488351232 by omega)]
    by_cases c : i < bs.length
    · rw [List.drop_eq_getElem_cons hlt, List.drop_eq_getElem_cons c, pk]
      simp only [if_pos (show (i : Int) < (bs.length : Int) by omega), BoolsD.rdB c]
      by_cases c2 : bs[i] = true
      · simp only [if_pos c2, if_pos (show acc.length < 8796093022208 by omega)]
        have h := ih (i + 1) (acc ++ [ps[i]]) (by omega) (by omega) (by rw [List.length_append, List.length_singleton]; omega) (by
          intro p hp'
          rcases List.mem_append.1 hp' with h | h
          · exact hm p h
          · rw [List.mem_singleton.1 h]; exact List.getElem_mem hlt)
        rw [List.append_assoc] at h
        exact h
      · simp only [if_neg c2]
        exact ih (i + 1) acc (by omega) (by omega) (by omega) hm
    · simp only [if_neg (show ¬ (i : Int) < (bs.length : Int) by omega)]
      have h := ih (i + 1) acc (by omega) (by omega) (by omega) hm
      rw [List.drop_of_length_le (show bs.length ≤ i + 1 by omega), pk_nil] at h
      rw [List.drop_of_length_le (show bs.length ≤ i by omega), pk_nil]
      exact h
theorem crash_both (ws : List Int) (ps : List P) (bs : List Bool) (h : ws.length ≤ 1048576) (h2 : ps.length ≤ 1048576) (hb : bs.length ≤ 1048576) : ∃ r : Int × List Int × List P, Ev (fun k => spec_CrashDisk.f k ws ps bs) r ∧ Ev (fun k => impl_CrashDisk.f k ws ps bs) r ∧ r.2.1.length ≤ 1048576 ∧ r.2.2.length ≤ 1048576 := by
  by_cases h0 : df ws ps = 0
  · have hf := (fine h0).bound
    refine ⟨(0, fl ws (pk ps bs), []), ?_, ?_, by rw [fl_length]; exact h, by simp⟩
    · unfold spec_CrashDisk.f
      refine ev_bind (l1Fault_ev ws ps (by omega) (by omega)) ?_
      simp only [if_pos h0, Option.bind_some, List.length_nil, Nat.zero_add, List.nil_append, if_pos (show ws.length < 17592186044416 by omega)]
      have := crash_spec_loop ws ps bs h2 hb ps.length 0 ws (by omega) (by omega) hf
      rwa [List.drop_zero, List.drop_zero] at this
    · unfold impl_CrashDisk.f
      refine ev_bind (impl_ev ws ps (by omega) (by omega)) ?_
      simp only [if_pos h0]
      have := crash_impl_loop ws ps bs h h2 hb hf ps.length 0 [] (by omega) (by omega) (by simp) (by simp)
      rwa [List.drop_zero, List.drop_zero, List.nil_append] at this
  · refine ⟨(df ws ps, [], []), ?_, ?_, by simp, by simp⟩
    · unfold spec_CrashDisk.f
      refine ev_bind (l1Fault_ev ws ps (by omega) (by omega)) ?_
      simp only [if_neg h0]
      exact ev_now rfl
    · unfold impl_CrashDisk.f
      refine ev_bind (impl_ev ws ps (by omega) (by omega)) ?_
      simp only [if_neg h0]
      exact ev_now rfl
end Go.Proofs.Ytaahjfjpbilfnaa.DiskD
/- The law of CrashDisk answers true at every argument: the program's answer is the reference's, it is new memory, and the arguments stay. No condition beside the statement's own bounds. (The frame is printed by wip/genlaw.py.) -/
namespace Go.Proofs.Ytaahjfjpbilfnaa.Pure
open Go.RowKit Go.Proofs.Ytaahjfjpbilfnaa.PD Go.Proofs.YtaahjfjpbilfnaaW.PrintWords Go.Proofs.Ytaahjfjpbilfnaa.Lem Go.Proofs.Ytaahjfjpbilfnaa.DiskD
set_option linter.unusedVariables false
set_option linter.unusedSimpArgs false

theorem FnExactCrashDisk : laws_FnExactCrashDisk.Pure := by
  intro x0 l1 hg _
  obtain ⟨ws, lp⟩ := x0
  have g1 : ws.length ≤ 140737488351232 := by have := hg; simp [g25] at this; omega
  have g2 : lp.length ≤ 140737488351232 := by have := hg; simp [g25] at this; omega
  refine Ev.rounds (r := true) ?_
  unfold laws_FnExactCrashDisk.f
  by_cases cl : (l1.length : Int) > 1048576
  · simp only [if_pos cl]
    exact ev_now rfl
  simp only [if_neg cl]
  obtain ⟨t, ht, hb⟩ := sz_ok ws lp g1 g2
  simp only [ht, Option.bind_some]
  by_cases c : t < 0
  · simp only [if_pos c]
    exact ev_now rfl
  · simp only [if_neg c]
    obtain ⟨b1, b2⟩ := hb c
    have b3 : (lp.map PutD.toB).length ≤ 1048576 := by simpa using b2
    generalize hps : lp.map PutD.toB = ps at b3
    have cp := to_ev ws lp b1 b2
    rw [hps] at cp
    obtain ⟨r, hs, hi, hr⟩ := crash_both ws ps l1 b1 b3 (by omega)
    obtain ⟨r1, r2, r3⟩ := r
    obtain ⟨hr2, hr3⟩ : r2.length ≤ 1048576 ∧ r3.length ≤ 1048576 := hr
    refine ev_bind cp (ev_bind (BoolsD.to_ev l1 (by omega)) (ev_bind hs (ev_bind cp (ev_bind (BoolsD.to_ev l1 (by omega)) (ev_bind hi (ev_bind (eqRes_ev r1 r2 r3 hr2 hr3) ?_))))))
    simp only [if_true]
    refine ev_bind cp (ev_bind (eq_ev ws ps (by omega) (by omega)) ?_)
    simp only [if_true]
    refine ev_bind (BoolsD.to_ev l1 (by omega)) (ev_bind (BoolsD.eq_ev l1 (by omega)) ?_)
    simp only [if_true]
    refine ev_bind (mark_ev ws ps b1 b3) (ev_bind (BoolsD.mark_ev l1 _ (by omega) (by omega) (by omega)) ?_)
    simp only [if_neg (show ¬ (1 : Int) + (ws.length : Int) + 2 * (ps.length : Int) + (l1.length : Int) < 0 by omega)]
    refine ev_bind (eqRes_ev r1 r2 r3 hr2 hr3) ?_
    refine ev_succ ?_
    simp only [laws_FnExactCrashDisk.j0, Bool.not_true, Bool.false_eq_true, if_false]
    refine ev_bind (markRes_ev r1 r2 r3 hr2 hr3) (ev_bind (heldRes_ev r1 r2.length r3.length hr2 hr3) ?_)
    simp only [if_neg (show ¬ (1 : Int) + (r2.length : Int) + 2 * (r3.length : Int) < 0 by omega), if_true]
    refine ev_bind cp (ev_bind (BoolsD.to_ev l1 (by omega)) (ev_bind hi (ev_bind (eqRes_ev r1 r2 r3 hr2 hr3) ?_)))
    simp only [if_true]
    refine ev_bind (heldRes_ev r1 r2.length r3.length hr2 hr3) ?_
    simp only [if_neg (show ¬ (1 : Int) + (r2.length : Int) + 2 * (r3.length : Int) < 0 by omega), if_true]
    exact ev_now rfl
end Go.Proofs.Ytaahjfjpbilfnaa.Pure
