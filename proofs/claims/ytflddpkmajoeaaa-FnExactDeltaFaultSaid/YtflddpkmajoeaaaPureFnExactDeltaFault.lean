import Derived.Test.YtflddpkmajoeaaaPPx176
import Derived.Test.YtflddpkmajoeaaaPPx167
import Derived.Test.YtflddpkmajoeaaaPPx173
import Derived.Test.YtflddpkmajoeaaaPPx162
import Derived.Test.YtflddpkmajoeaaaPPx166
import Derived.Test.YtflddpkmajoeaaaPPx172
import Derived.Test.YtflddpkmajoeaaaPPx161
import Derived.Test.YtflddpkmajoeaaaWAllMoreInvWordsWGuard
import Derived.Test.YtflddpkmajoeaaaPPx164
import Derived.Test.YtflddpkmajoeaaaPPx170
import Derived.Test.YtflddpkmajoeaaaPPx4
import Derived.Test.YtflddpkmajoeaaaPPx8
import Derived.Test.YtflddpkmajoeaaaPPx25
import Derived.Test.YtflddpkmajoeaaaPPx33
import Derived.Test.YtflddpkmajoeaaaPPx19
/- Small laws on rounds and on numbers, for the plain proofs. -/
namespace Go.Proofs.Ytflddpkmajoeaaa.Lem
open Go.RowKit Go.Proofs.YtflddpkmajoeaaaW.PrintWords
set_option linter.unusedVariables false
set_option linter.unusedSimpArgs false

theorem ev_eq {α : Type} {g : Nat → Option α} {r r' : α} (h : Ev g r) (e : r = r') : Ev g r' := e ▸ h
theorem ev_now {α : Type} {r r' : α} (e : r = r') : Ev (fun _ => some r) r' := e ▸ Ev.now r
theorem ev_some {α : Type} {g : Nat → Option α} {r : α} (h : ∀ k, g k = some r) : Ev g r := ⟨0, fun k _ => h k⟩
theorem ev_pos {α : Type} {c : Prop} [Decidable c] {f g : Nat → Option α} {r : α} (hc : c) (h : Ev f r) : Ev (fun k => if c then f k else g k) r := Ev.congr (fun k => if_pos hc) h
theorem ev_neg {α : Type} {c : Prop} [Decidable c] {f g : Nat → Option α} {r : α} (hc : ¬ c) (h : Ev g r) : Ev (fun k => if c then f k else g k) r := Ev.congr (fun k => if_neg hc) h
theorem ev_bind {α β : Type} {g : Nat → Option α} {f : Nat → α → Option β} {a : α} {r : β} (h : Ev g a) (k : Ev (fun n => f n a) r) : Ev (fun n => (g n).bind (f n)) r := Ev.bind h k
theorem ev_bind0 {α β : Type} {g : Option α} {f : Nat → α → Option β} {a : α} {r : β} (h : g = some a) (k : Ev (fun n => f n a) r) : Ev (fun n => g.bind (f n)) r := Ev.congr (fun n => by rw [h]; rfl) k
theorem ev_step {α : Type} {g f : Nat → Option α} {r : α} (h : ∀ k, g (k + 1) = f k) (k : Ev f r) : Ev g r := Ev.step h k

theorem ev_succ {α : Type} {g : Nat → Option α} {r : α} (h : Ev (fun k => g (k + 1)) r) : Ev g r := Ev.step (fun _ => rfl) h
theorem wrap_id {x : Int} (h0 : -9223372036854775808 ≤ x) (h1 : x ≤ 9223372036854775807) : wrap64 x = x := by unfold wrap64; omega
theorem wrap_succ {i n : Nat} (h : i < n) (hn : n ≤ 140737488351232) : wrap64 ((i : Int) + 1) = ((i + 1 : Nat) : Int) := by unfold wrap64; omega
theorem rd_nat (l : List Int) (i : Nat) : rd l (i : Int) = l.getD i 0 := rfl
theorem rd_lt {l : List Int} {i : Nat} (h : i < l.length) : rd l (i : Int) = l[i] := by simp [rd, h]
theorem take_succ_set {α : Type} (l x : List α) (i : Nat) (v : α) (h : i < l.length) (hx : x.length = l.length) (ht : x.take i = l.take i) (hv : v = l[i]) : (x.set i v).take (i + 1) = l.take (i + 1) := by
  subst hv
  apply List.ext_getElem?
  intro j
  rw [List.getElem?_take, List.getElem?_take]
  by_cases hj : j < i + 1
  · rw [if_pos hj, if_pos hj]
    by_cases e : j = i
    · subst e
      rw [List.getElem?_set_self (by omega), List.getElem?_eq_getElem h]
    · rw [List.getElem?_set_ne (by omega)]
      have := congrArg (fun z => z[j]?) ht
      simpa [List.getElem?_take, show j < i by omega] using this
  · rw [if_neg hj, if_neg hj]
end Go.Proofs.Ytflddpkmajoeaaa.Lem
/- Steps as the laws copy and compare them. (Lines of Blk, turned by a program.) -/
namespace Go.Proofs.Ytflddpkmajoeaaa.StepP
open Go.RowKit Go.Proofs.Ytflddpkmajoeaaa.PP Go.Proofs.YtflddpkmajoeaaaW.PrintWords Go.Proofs.Ytflddpkmajoeaaa.Lem
set_option linter.unusedVariables false
set_option linter.unusedSimpArgs false
abbrev LB := S175
abbrev B := S137

def toB (b : LB) : B := ⟨b.f0, b.f1, b.f2, b.f3⟩
theorem rdL {l : List LB} {i : Nat} (h : i < l.length) : rd_T175 l (i : Int) = l[i] := by simp [rd_T175, h]
theorem rdB {l : List B} {i : Nat} (h : i < l.length) : rd_T137 l (i : Int) = l[i] := by simp [rd_T137, h]
theorem to_loop (l : List LB) (hl : l.length ≤ 140737488351232) : ∀ (d i : Nat) (x : List B), l.length - i = d → i ≤ l.length → x.length = l.length → x.take i = (l.map toB).take i → Ev (fun k => laws_toStepS.l0 k l x (i : Int)) (l.map toB) := by
  intro d
  induction d with
  | zero =>
    intro i x hd hi hx ht
    refine ev_succ ?_
    simp only [laws_toStepS.l0]
    simp only [if_neg (show ¬ (i : Int) < (l.length : Int) by omega)]
    refine ev_now ?_
    rw [List.take_of_length_le (by omega), List.take_of_length_le (by simp; omega)] at ht
    exact ht
  | succ d ih =>
    intro i x hd hi hx ht
    refine ev_succ ?_
    simp only [laws_toStepS.l0, laws_toStep.f, Option.bind_some]
    simp only [if_pos (show (i : Int) < (l.length : Int) by omega), if_pos (show 0 ≤ (i : Int) by omega), if_pos (show (i : Int) < (x.length : Int) by omega), wrap_succ (show i < l.length by omega) hl]
    refine ih (i + 1) _ (by omega) (by omega) (by rw [List.length_set]; exact hx) ?_
    exact take_succ_set (l.map toB) x i _ (by simp; omega) (by simp; omega) ht (by rw [rdL (by omega)]; simp [toB])
theorem to_ev (l : List LB) (hl : l.length ≤ 1048576) : Ev (fun k => laws_toStepS.f k l) (l.map toB) := by
  unfold laws_toStepS.f
  simp only [if_pos (show 0 ≤ (l.length : Int) by omega), if_pos (show ((l.length : Int) : Int).toNat ≤ 8796093022208 by omega)]
  exact to_loop l (by omega) l.length 0 _ (by omega) (by omega) (by simp) (by simp)
theorem eq_loop (l : List B) (hl : l.length ≤ 140737488351232) : ∀ (d i : Nat), l.length - i = d → i ≤ l.length → Ev (fun k => laws_eqStepS.l0 k l l (i : Int)) true := by
  intro d
  induction d with
  | zero =>
    intro i hd hi
    refine ev_succ ?_
    simp only [laws_eqStepS.l0]
    simp only [if_neg (show ¬ (i : Int) < (l.length : Int) by omega)]
    exact ev_now rfl
  | succ d ih =>
    intro i hd hi
    refine ev_succ ?_
    have e : ∀ b : Bool, (b != b) = false := by decide
    simp only [laws_eqStepS.l0, laws_eqStep.f, e, Bool.false_eq_true, if_false, if_true, Option.bind_some]
    simp only [if_pos (show (i : Int) < (l.length : Int) by omega), if_pos (show 0 ≤ (i : Int) by omega), if_true, wrap_succ (show i < l.length by omega) hl]
    exact ih (i + 1) (by omega) (by omega)
theorem eq_ev (l : List B) (hl : l.length ≤ 140737488351232) : Ev (fun k => laws_eqStepS.f k l l) true := by
  unfold laws_eqStepS.f
  simp only [if_true]
  exact eq_loop l hl l.length 0 (by omega) (by omega)
theorem sz_eq (l : List LB) (a : Int) (ha : 0 ≤ a) (ha2 : a ≤ 1048576) (hl : l.length ≤ 140737488351232) : laws_szStepS.f l a = some (if a - l.length < 0 then -1 else a - l.length) := by
  unfold laws_szStepS.f
  rw [wrap_id (by omega) (by omega)]
  split <;> rfl

end Go.Proofs.Ytflddpkmajoeaaa.StepP
/- Whether a number lies between two others, as the program and the reference ask it. -/
namespace Go.Proofs.Ytflddpkmajoeaaa.SmallP
open Go.RowKit Go.Proofs.Ytflddpkmajoeaaa.PP Go.Proofs.YtflddpkmajoeaaaW.PrintWords Go.Proofs.Ytflddpkmajoeaaa.Lem
set_option linter.unusedVariables false
set_option linter.unusedSimpArgs false

def inB (a b c : Int) : Bool := decide (b ≤ a) && decide (a ≤ c)
theorem inB_iff {a b c : Int} : inB a b c = true ↔ b ≤ a ∧ a ≤ c := by simp [inB]
theorem inB_not {a b c : Int} : inB a b c = false ↔ a < b ∨ c < a := by simp [inB]; omega
theorem l1In_eq (a b c : Int) : spec_l1In.f a b c = some (inB a b c) := by
  unfold spec_l1In.f inB
  by_cases h : b ≤ a
  · rw [if_pos h]; simp [h]
  · rw [if_neg h]; simp [h]
theorem within_eq (a b c : Int) : impl_within.f a b c = some (inB a b c) := by
  unfold impl_within.f inB
  by_cases h : b ≤ a
  · rw [if_pos h]; simp [h]
  · rw [if_neg h]; simp [h]
end Go.Proofs.Ytflddpkmajoeaaa.SmallP
/- Vols as the laws copy and compare them. (Lines of Blk, turned by a program.) -/
namespace Go.Proofs.Ytflddpkmajoeaaa.VolP
open Go.RowKit Go.Proofs.Ytflddpkmajoeaaa.PP Go.Proofs.YtflddpkmajoeaaaW.PrintWords Go.Proofs.Ytflddpkmajoeaaa.Lem
set_option linter.unusedVariables false
set_option linter.unusedSimpArgs false
abbrev LB := S143
abbrev B := S93

def toB (b : LB) : B := ⟨b.f0, b.f1, b.f2⟩
theorem rdL {l : List LB} {i : Nat} (h : i < l.length) : rd_T143 l (i : Int) = l[i] := by simp [rd_T143, h]
theorem rdB {l : List B} {i : Nat} (h : i < l.length) : rd_T93 l (i : Int) = l[i] := by simp [rd_T93, h]
theorem to_loop (l : List LB) (hl : l.length ≤ 140737488351232) : ∀ (d i : Nat) (x : List B), l.length - i = d → i ≤ l.length → x.length = l.length → x.take i = (l.map toB).take i → Ev (fun k => laws_toVolS.l0 k l x (i : Int)) (l.map toB) := by
  intro d
  induction d with
  | zero =>
    intro i x hd hi hx ht
    refine ev_succ ?_
    simp only [laws_toVolS.l0]
    simp only [if_neg (show ¬ (i : Int) < (l.length : Int) by omega)]
    refine ev_now ?_
    rw [List.take_of_length_le (by omega), List.take_of_length_le (by simp; omega)] at ht
    exact ht
  | succ d ih =>
    intro i x hd hi hx ht
    refine ev_succ ?_
    simp only [laws_toVolS.l0, laws_toVol.f, Option.bind_some]
    simp only [if_pos (show (i : Int) < (l.length : Int) by omega), if_pos (show 0 ≤ (i : Int) by omega), if_pos (show (i : Int) < (x.length : Int) by omega), wrap_succ (show i < l.length by omega) hl]
    refine ih (i + 1) _ (by omega) (by omega) (by rw [List.length_set]; exact hx) ?_
    exact take_succ_set (l.map toB) x i _ (by simp; omega) (by simp; omega) ht (by rw [rdL (by omega)]; simp [toB])
theorem to_ev (l : List LB) (hl : l.length ≤ 1048576) : Ev (fun k => laws_toVolS.f k l) (l.map toB) := by
  unfold laws_toVolS.f
  simp only [if_pos (show 0 ≤ (l.length : Int) by omega), if_pos (show ((l.length : Int) : Int).toNat ≤ 11728124029610 by omega)]
  exact to_loop l (by omega) l.length 0 _ (by omega) (by omega) (by simp) (by simp)
theorem eq_loop (l : List B) (hl : l.length ≤ 140737488351232) : ∀ (d i : Nat), l.length - i = d → i ≤ l.length → Ev (fun k => laws_eqVolS.l0 k l l (i : Int)) true := by
  intro d
  induction d with
  | zero =>
    intro i hd hi
    refine ev_succ ?_
    simp only [laws_eqVolS.l0]
    simp only [if_neg (show ¬ (i : Int) < (l.length : Int) by omega)]
    exact ev_now rfl
  | succ d ih =>
    intro i hd hi
    refine ev_succ ?_
    simp only [laws_eqVolS.l0, laws_eqVol.f, if_true, Option.bind_some]
    simp only [if_pos (show (i : Int) < (l.length : Int) by omega), if_pos (show 0 ≤ (i : Int) by omega), if_true, wrap_succ (show i < l.length by omega) hl]
    exact ih (i + 1) (by omega) (by omega)
theorem eq_ev (l : List B) (hl : l.length ≤ 140737488351232) : Ev (fun k => laws_eqVolS.f k l l) true := by
  unfold laws_eqVolS.f
  simp only [if_true]
  exact eq_loop l hl l.length 0 (by omega) (by omega)
theorem sz_eq (l : List LB) (a : Int) (ha : 0 ≤ a) (ha2 : a ≤ 1048576) (hl : l.length ≤ 140737488351232) : laws_szVolS.f l a = some (if a - l.length < 0 then -1 else a - l.length) := by
  unfold laws_szVolS.f
  rw [wrap_id (by omega) (by omega)]
  split <;> rfl

end Go.Proofs.Ytflddpkmajoeaaa.VolP
/- What is wrong with a delta: both answers are one. -/
namespace Go.Proofs.Ytflddpkmajoeaaa.DeltaP
open Go.RowKit Go.Proofs.Ytflddpkmajoeaaa.PP Go.Proofs.YtflddpkmajoeaaaW.PrintWords Go.Proofs.Ytflddpkmajoeaaa.Lem Go.Proofs.Ytflddpkmajoeaaa.SmallP
set_option linter.unusedVariables false
set_option linter.unusedSimpArgs false
abbrev V := S93
abbrev St := S137
abbrev Pl := S41

theorem rdV {l : List V} {i : Nat} (h : i < l.length) : rd_T93 l (i : Int) = l[i] := VolP.rdB h
theorem rdS {l : List St} {i : Nat} (h : i < l.length) : rd_T137 l (i : Int) = l[i] := by simp [rd_T137, h]
theorem rdP (p : Pl) : rd_T41 [p] 0 = p := by cases p; simp [rd_T41]
theorem rdS1 (p : St) : rd_T137 [p] 0 = p := by cases p; simp [rd_T137]
theorem l5Id_eq (a : Int) : spec_l5Id.f a = some (inB a 1 99) := by unfold spec_l5Id.f; rw [l1In_eq]; rfl
theorem isId_eq (a : Int) : impl_isId.f a = some (inB a 1 99) := by unfold impl_isId.f; rw [within_eq]; rfl
theorem isQuota_eq (a : Int) : impl_isQuota.f a = some (inB a 1 16) := by unfold impl_isQuota.f; rw [within_eq]; rfl
theorem l4Place_eq (a : Int) : spec_l4Place.f a = some (inB a 0 15) := by unfold spec_l4Place.f; rw [l1In_eq]; rfl
theorem isTreePlace_eq (a : Int) : impl_isTreePlace.f a = some (inB a 0 15) := by unfold impl_isTreePlace.f; rw [within_eq]; rfl
theorem l3Data_eq (a : Int) : spec_l3Data.f a = some (inB a 0 255) := by unfold spec_l3Data.f; rw [l1In_eq]; rfl
theorem isByte_eq (a : Int) : impl_isByte.f a = some (inB a 0 255) := by unfold impl_isByte.f; rw [within_eq]; rfl
theorem wrap_pred {i : Nat} (h : i ≤ 1048576) : wrap64 ((i : Int) - 1) = (i : Int) - 1 := wrap_id (by omega) (by omega)
theorem vols_both (vs : List V) (hl : vs.length ≤ 1048576) : ∀ (d i : Nat), vs.length - i = d → i ≤ vs.length → ∃ r : Int, Ev (fun k => spec_l6Vols.l0 k ⟨0, vs, [], []⟩ (i : Int)) r ∧ Ev (fun k => impl_volsFault.l0 k vs vs (vs.length : Int) (i : Int)) r := by
  intro d
  induction d with
  | zero =>
    intro i hd hi
    refine ⟨0, ev_succ ?_, ev_succ ?_⟩
    · simp only [spec_l6Vols.l0, rdP]
      simp only [if_neg (show ¬ (i : Int) < (vs.length : Int) by omega)]
      exact ev_now rfl
    · simp only [impl_volsFault.l0]
      simp only [if_neg (show ¬ (i : Int) < (vs.length : Int) by omega)]
      exact ev_now rfl
  | succ d ih =>
    intro i hd hi
    have hlt : i < vs.length := by omega
    obtain ⟨r, h1, h2⟩ := ih (i + 1) (by omega) (by omega)
    have bad : ∀ (b : Bool), b = (inB vs[i].f0 1 99 && inB vs[i].f1 1 16 && (vs[i].f2 == -1)) → b = false → ∃ r : Int, Ev (fun k => spec_l6Vols.l0 k ⟨0, vs, [], []⟩ (i : Int)) r ∧ Ev (fun k => impl_volsFault.l0 k vs vs (vs.length : Int) (i : Int)) r := by
      intro b hb hf
      rw [hf] at hb
      refine ⟨3, ev_succ ?_, ev_succ ?_⟩
      · simp only [spec_l6Vols.l0, rdP, rdV hlt, l5Id_eq, l1In_eq, Option.bind_some]
        simp only [if_pos (show (i : Int) < (vs.length : Int) by omega), if_pos (show 0 ≤ (i : Int) by omega)]
        cases q1 : inB vs[i].f0 1 99
        · simp only [Bool.false_eq_true, if_false]
          refine ev_succ ?_
          simp only [spec_l6Vols.j1, if_true]
          exact ev_now rfl
        · cases q2 : inB vs[i].f1 1 16
          · simp only [Bool.false_eq_true, if_false, if_true]
            refine ev_succ ?_
            simp only [spec_l6Vols.j1, if_true]
            exact ev_now rfl
          · simp only [if_true]
            rw [q1, q2] at hb
            have e : (vs[i].f2 != -1) = true := by
              have : (vs[i].f2 == -1) = false := by simpa using hb.symm
              rw [bne, this]; rfl
            refine ev_succ ?_
            simp only [spec_l6Vols.j1, e, if_true]
            exact ev_now rfl
      · simp only [impl_volsFault.l0, rdV hlt, isId_eq, isQuota_eq, Option.bind_some]
        simp only [if_pos (show (i : Int) < (vs.length : Int) by omega), if_pos (show 0 ≤ (i : Int) by omega)]
        cases q1 : inB vs[i].f0 1 99
        · simp only [Bool.false_eq_true, if_false]
          refine ev_succ ?_
          simp only [impl_volsFault.j1, if_true]
          exact ev_now rfl
        · cases q2 : inB vs[i].f1 1 16
          · simp only [Bool.false_eq_true, if_false, if_true]
            refine ev_succ ?_
            simp only [impl_volsFault.j1, if_true]
            exact ev_now rfl
          · simp only [if_true]
            rw [q1, q2] at hb
            have e : (vs[i].f2 != -1) = true := by
              have : (vs[i].f2 == -1) = false := by simpa using hb.symm
              rw [bne, this]; rfl
            refine ev_succ ?_
            simp only [impl_volsFault.j1, e, if_true]
            exact ev_now rfl
    cases hb : (inB vs[i].f0 1 99 && inB vs[i].f1 1 16 && (vs[i].f2 == -1))
    · exact bad _ rfl hb
    · simp only [Bool.and_eq_true] at hb
      obtain ⟨⟨q1, q2⟩, q3⟩ := hb
      have e : (vs[i].f2 != -1) = false := by rw [bne, q3]; rfl
      by_cases c : i = 0
      · subst c
        refine ⟨r, ev_succ ?_, ev_succ ?_⟩
        · simp only [spec_l6Vols.l0, rdP, rdV hlt, l5Id_eq, l1In_eq, Option.bind_some, q1, q2, if_true]
          simp only [if_pos (show ((0 : Nat) : Int) < (vs.length : Int) by omega), if_pos (show 0 ≤ ((0 : Nat) : Int) by omega)]
          refine ev_succ ?_
          simp only [spec_l6Vols.j1, e, Bool.false_eq_true, if_false, if_neg (show ¬ ((0 : Nat) : Int) > 0 by omega), wrap_succ hlt (show vs.length ≤ 140737488351232 by omega)]
          exact h1
        · simp only [impl_volsFault.l0, rdV hlt, isId_eq, isQuota_eq, Option.bind_some, q1, q2, if_true]
          simp only [if_pos (show ((0 : Nat) : Int) < (vs.length : Int) by omega), if_pos (show 0 ≤ ((0 : Nat) : Int) by omega)]
          refine ev_succ ?_
          simp only [impl_volsFault.j1, e, Bool.false_eq_true, if_false, if_neg (show ¬ ((0 : Nat) : Int) > 0 by omega), wrap_succ hlt (show vs.length ≤ 140737488351232 by omega)]
          exact h2
      · obtain ⟨j, rfl⟩ : ∃ j, i = j + 1 := ⟨i - 1, by omega⟩
        have hj : j < vs.length := by omega
        have wj : wrap64 (((j + 1 : Nat) : Int) - 1) = (j : Int) := by rw [wrap_id (by omega) (by omega)]; omega
        by_cases c2 : vs[j + 1].f0 ≤ vs[j].f0
        · refine ⟨1, ev_succ ?_, ev_succ ?_⟩
          · simp only [spec_l6Vols.l0, rdP, rdV hlt, l5Id_eq, l1In_eq, Option.bind_some, q1, q2, if_true]
            simp only [if_pos (show ((j + 1 : Nat) : Int) < (vs.length : Int) by omega), if_pos (show 0 ≤ ((j + 1 : Nat) : Int) by omega)]
            refine ev_succ ?_
            simp only [spec_l6Vols.j1, e, Bool.false_eq_true, if_false, if_pos (show ((j + 1 : Nat) : Int) > 0 by omega), wj, rdP, rdV hj, if_pos (show 0 ≤ (j : Int) by omega), if_pos (show (j : Int) < (vs.length : Int) by omega), if_pos c2]
            exact ev_now rfl
          · simp only [impl_volsFault.l0, rdV hlt, isId_eq, isQuota_eq, Option.bind_some, q1, q2, if_true]
            simp only [if_pos (show ((j + 1 : Nat) : Int) < (vs.length : Int) by omega), if_pos (show 0 ≤ ((j + 1 : Nat) : Int) by omega)]
            refine ev_succ ?_
            simp only [impl_volsFault.j1, e, Bool.false_eq_true, if_false, if_pos (show ((j + 1 : Nat) : Int) > 0 by omega), wj, rdV hj, if_pos (show 0 ≤ (j : Int) by omega), if_pos (show (j : Int) < (vs.length : Int) by omega), if_pos c2]
            exact ev_now rfl
        · refine ⟨r, ev_succ ?_, ev_succ ?_⟩
          · simp only [spec_l6Vols.l0, rdP, rdV hlt, l5Id_eq, l1In_eq, Option.bind_some, q1, q2, if_true]
            simp only [if_pos (show ((j + 1 : Nat) : Int) < (vs.length : Int) by omega), if_pos (show 0 ≤ ((j + 1 : Nat) : Int) by omega)]
            refine ev_succ ?_
            simp only [spec_l6Vols.j1, e, Bool.false_eq_true, if_false, if_pos (show ((j + 1 : Nat) : Int) > 0 by omega), wj, rdP, rdV hj, if_pos (show 0 ≤ (j : Int) by omega), if_pos (show (j : Int) < (vs.length : Int) by omega), if_neg c2, wrap_succ hlt (show vs.length ≤ 140737488351232 by omega)]
            exact h1
          · simp only [impl_volsFault.l0, rdV hlt, isId_eq, isQuota_eq, Option.bind_some, q1, q2, if_true]
            simp only [if_pos (show ((j + 1 : Nat) : Int) < (vs.length : Int) by omega), if_pos (show 0 ≤ ((j + 1 : Nat) : Int) by omega)]
            refine ev_succ ?_
            simp only [impl_volsFault.j1, e, Bool.false_eq_true, if_false, if_pos (show ((j + 1 : Nat) : Int) > 0 by omega), wj, rdV hj, if_pos (show 0 ≤ (j : Int) by omega), if_pos (show (j : Int) < (vs.length : Int) by omega), if_neg c2, wrap_succ hlt (show vs.length ≤ 140737488351232 by omega)]
            exact h2
def cmpI (a b : Int) : Int := if a < b then -1 else if a > b then 1 else 0
theorem compare_eq (a b : Int) : cmp_Compare_int64.f a b = some (cmpI a b) := by
  have e : ∀ x : Int, (x != x) = false := by intro x; simp
  unfold cmp_Compare_int64.f cmp_isNaN_int64.f cmpI
  simp only [e, Option.bind_some, Bool.false_eq_true, if_false]
  split
  · rfl
  · split <;> rfl
theorem or_ev (x y : Int) : Ev (fun k => cmp_Or_int.f k [x, y]) (if x = 0 then y else x) := by
  unfold cmp_Or_int.f
  refine ev_succ ?_
  have h0 : (0 : Int) < (([x, y] : List Int).length : Int) := by simp
  have r0 : rd [x, y] 0 = x := rfl
  have r1 : rd [x, y] 1 = y := rfl
  have w1 : wrap64 (0 + 1) = 1 := by rw [wrap_id (by omega) (by omega)]; rfl
  have w2 : wrap64 (1 + 1) = 2 := by rw [wrap_id (by omega) (by omega)]; rfl
  simp only [cmp_Or_int.l0, r0]
  simp only [if_pos h0, if_pos (show (0 : Int) ≤ 0 by omega), w1]
  by_cases c : x = 0
  · simp only [if_pos c]
    refine ev_succ ?_
    simp only [cmp_Or_int.l0, r1]
    simp only [if_pos (show (1 : Int) < (([x, y] : List Int).length : Int) by simp), if_pos (show (0 : Int) ≤ 1 by omega), w2]
    by_cases c2 : y = 0
    · simp only [if_pos c2]
      refine ev_succ ?_
      simp only [cmp_Or_int.l0]
      simp only [if_neg (show ¬ (2 : Int) < (([x, y] : List Int).length : Int) by simp)]
      exact ev_now c2.symm
    · simp only [if_neg c2]; exact ev_now rfl
  · simp only [if_neg c]; exact ev_now rfl
def ahead (x y : St) : Bool := if x.f1 = y.f1 then decide (x.f2 < y.f2) else decide (x.f1 < y.f1)
theorem ahead_eq (x y : St) : spec_l7Ahead.f x.f0 x.f1 x.f2 x.f3 y.f0 y.f1 y.f2 y.f3 = some (ahead x y) := by
  unfold spec_l7Ahead.f ahead
  split <;> rfl
theorem order_ev (x y : St) : ∃ o : Int, Ev (fun k => impl_stepOrder.f k x.f0 x.f1 x.f2 x.f3 y.f0 y.f1 y.f2 y.f3) o ∧ (o ≥ 0 ↔ ahead x y = false) := by
  refine ⟨if cmpI x.f1 y.f1 = 0 then cmpI x.f2 y.f2 else cmpI x.f1 y.f1, ?_, ?_⟩
  · unfold impl_stepOrder.f impl_Step_cell.f impl_cellOrder.f
    simp only [Option.bind_some, compare_eq, rdS1]
    exact ev_bind (ev_bind (or_ev _ _) (ev_now rfl)) (ev_now rfl)
  · unfold ahead cmpI
    by_cases h1 : x.f1 = y.f1
    · rw [if_pos h1, if_neg (show ¬ x.f1 < y.f1 by omega), if_neg (show ¬ x.f1 > y.f1 by omega), if_pos rfl, decide_eq_false_iff_not]
      split
      · omega
      · split <;> omega
    · rw [if_neg h1, decide_eq_false_iff_not]
      by_cases h2 : x.f1 < y.f1
      · rw [if_pos h2, if_neg (by omega)]; omega
      · rw [if_neg h2, if_pos (show x.f1 > y.f1 by omega), if_neg (by omega)]; omega
def prevBad (ss : List St) (i : Nat) (x : St) : Bool := match i with
  | 0 => false
  | j + 1 => !ahead (ss.getD j ⟨false, 0, 0, 0⟩) x
theorem getD_lt {ss : List St} {j : Nat} (h : j < ss.length) : ss.getD j ⟨false, 0, 0, 0⟩ = ss[j] := by simp [h]
section
variable (F T : Int) (vs : List V) (ss : List St) (hl : ss.length ≤ 1048576) (i : Nat) (hi : i < ss.length) (x : St) (r : Int)
include hl hi
theorem spec_tail (h : if prevBad ss i x = true then r = 1 else Ev (fun k => spec_DeltaFault.l0 k ((i + 1 : Nat) : Int) F T vs ss) r) :
    Ev (fun k => if (i : Int) > 0 then (if 0 ≤ (wrap64 ((i : Int) - 1)) then (if (wrap64 ((i : Int) - 1)) < (ss.length : Int) then ((spec_l7Ahead.f ((rd_T137 ss (wrap64 ((i : Int) - 1))).f0) ((rd_T137 ss (wrap64 ((i : Int) - 1))).f1) ((rd_T137 ss (wrap64 ((i : Int) - 1))).f2) ((rd_T137 ss (wrap64 ((i : Int) - 1))).f3) x.f0 x.f1 x.f2 x.f3).bind fun t => (if t = true then (spec_DeltaFault.l0 k (wrap64 ((i : Int) + 1)) F T vs ss) else (some 1))) else (none)) else (none)) else (spec_DeltaFault.l0 k (wrap64 ((i : Int) + 1)) F T vs ss)) r := by
  rw [wrap_succ hi (show ss.length ≤ 140737488351232 by omega)]
  cases i with
  | zero =>
    have h' : Ev (fun k => spec_DeltaFault.l0 k ((0 + 1 : Nat) : Int) F T vs ss) r := by simpa [prevBad] using h
    simp only [if_neg (show ¬ ((0 : Nat) : Int) > 0 by omega)]
    exact h'
  | succ j =>
    have hj : j < ss.length := by omega
    have wj : wrap64 (((j + 1 : Nat) : Int) - 1) = (j : Int) := by rw [wrap_id (by omega) (by omega)]; omega
    simp only [prevBad, getD_lt hj] at h
    simp only [if_pos (show ((j + 1 : Nat) : Int) > 0 by omega), wj, if_pos (show 0 ≤ (j : Int) by omega), if_pos (show (j : Int) < (ss.length : Int) by omega), rdS hj, ahead_eq, Option.bind_some]
    cases ha : ahead ss[j] x
    · rw [ha] at h
      simp only [Bool.false_eq_true, if_false]
      exact ev_now (by simpa using h.symm)
    · rw [ha] at h
      simp only [if_true]
      simpa using h
theorem impl_tail (ps : List St) (hps : ps = ss) (h : if prevBad ss i x = true then r = 1 else Ev (fun k => impl_DeltaFault.l0 k ps (ps.length : Int) ((i + 1 : Nat) : Int) F T vs ss) r) :
    Ev (fun k => if (i : Int) > 0 then (if 0 ≤ (wrap64 ((i : Int) - 1)) then (if (wrap64 ((i : Int) - 1)) < (ss.length : Int) then ((impl_stepOrder.f k ((rd_T137 ss (wrap64 ((i : Int) - 1))).f0) ((rd_T137 ss (wrap64 ((i : Int) - 1))).f1) ((rd_T137 ss (wrap64 ((i : Int) - 1))).f2) ((rd_T137 ss (wrap64 ((i : Int) - 1))).f3) x.f0 x.f1 x.f2 x.f3).bind fun t => (if t ≥ 0 then (some 1) else (impl_DeltaFault.l0 k ps (ps.length : Int) (wrap64 ((i : Int) + 1)) F T vs ss))) else (none)) else (none)) else (impl_DeltaFault.l0 k ps (ps.length : Int) (wrap64 ((i : Int) + 1)) F T vs ss)) r := by
  rw [wrap_succ hi (show ss.length ≤ 140737488351232 by omega)]
  cases i with
  | zero =>
    have h' : Ev (fun k => impl_DeltaFault.l0 k ps (ps.length : Int) ((0 + 1 : Nat) : Int) F T vs ss) r := by simpa [prevBad] using h
    simp only [if_neg (show ¬ ((0 : Nat) : Int) > 0 by omega)]
    exact h'
  | succ j =>
    have hj : j < ss.length := by omega
    have wj : wrap64 (((j + 1 : Nat) : Int) - 1) = (j : Int) := by rw [wrap_id (by omega) (by omega)]; omega
    simp only [prevBad, getD_lt hj] at h
    simp only [if_pos (show ((j + 1 : Nat) : Int) > 0 by omega), wj, if_pos (show 0 ≤ (j : Int) by omega), if_pos (show (j : Int) < (ss.length : Int) by omega), rdS hj]
    obtain ⟨o, h1, h2⟩ := order_ev ss[j] x
    refine ev_bind h1 ?_
    cases ha : ahead ss[j] x
    · rw [ha] at h
      simp only [if_pos (h2.2 ha)]
      exact ev_now (by simpa using h.symm)
    · rw [ha] at h
      simp only [if_neg (show ¬ o ≥ 0 from fun c => by rw [h2.1 c] at ha; cases ha)]
      simpa using h
end
theorem steps_both (F T : Int) (vs : List V) (ss : List St) (hl : ss.length ≤ 1048576) : ∀ (d i : Nat), ss.length - i = d → i ≤ ss.length → ∃ r : Int, Ev (fun k => spec_DeltaFault.l0 k (i : Int) F T vs ss) r ∧ Ev (fun k => impl_DeltaFault.l0 k ss (ss.length : Int) (i : Int) F T vs ss) r := by
  intro d
  induction d with
  | zero =>
    intro i hd hi
    refine ⟨0, ev_succ ?_, ev_succ ?_⟩
    · simp only [spec_DeltaFault.l0]
      simp only [if_neg (show ¬ (i : Int) < (ss.length : Int) by omega)]
      exact ev_now rfl
    · simp only [impl_DeltaFault.l0]
      simp only [if_neg (show ¬ (i : Int) < (ss.length : Int) by omega)]
      exact ev_now rfl
  | succ d ih =>
    intro i hd hi
    have hlt : i < ss.length := by omega
    obtain ⟨r, h1, h2⟩ := ih (i + 1) (by omega) (by omega)
    have go : ∀ r' : Int, Ev (fun k => spec_DeltaFault.l0 k (i : Int) F T vs ss) r' ∧ Ev (fun k => impl_DeltaFault.l0 k ss (ss.length : Int) (i : Int) F T vs ss) r' → ∃ r : Int, Ev (fun k => spec_DeltaFault.l0 k (i : Int) F T vs ss) r ∧ Ev (fun k => impl_DeltaFault.l0 k ss (ss.length : Int) (i : Int) F T vs ss) r := fun r' h => ⟨r', h⟩
    cases q1 : inB ss[i].f1 1 99
    · refine go 3 ⟨ev_succ ?_, ev_succ ?_⟩
      · simp only [spec_DeltaFault.l0, rdS hlt, l5Id_eq, q1, Option.bind_some, Bool.false_eq_true, if_false]
        simp only [if_pos (show (i : Int) < (ss.length : Int) by omega), if_pos (show 0 ≤ (i : Int) by omega)]
        refine ev_succ ?_
        simp only [spec_DeltaFault.j3, if_true]
        exact ev_now rfl
      · simp only [impl_DeltaFault.l0, rdS hlt, isId_eq, q1, Option.bind_some, Bool.false_eq_true, if_false]
        simp only [if_pos (show (i : Int) < (ss.length : Int) by omega), if_pos (show 0 ≤ (i : Int) by omega)]
        refine ev_succ ?_
        simp only [impl_DeltaFault.j2, if_true]
        exact ev_now rfl
    cases q2 : inB ss[i].f2 0 15
    · refine go 3 ⟨ev_succ ?_, ev_succ ?_⟩
      · simp only [spec_DeltaFault.l0, rdS hlt, l5Id_eq, l4Place_eq, q1, q2, Option.bind_some, Bool.false_eq_true, if_false, if_true]
        simp only [if_pos (show (i : Int) < (ss.length : Int) by omega), if_pos (show 0 ≤ (i : Int) by omega)]
        refine ev_succ ?_
        simp only [spec_DeltaFault.j3, if_true]
        exact ev_now rfl
      · simp only [impl_DeltaFault.l0, rdS hlt, isId_eq, isTreePlace_eq, q1, q2, Option.bind_some, Bool.false_eq_true, if_false, if_true]
        simp only [if_pos (show (i : Int) < (ss.length : Int) by omega), if_pos (show 0 ≤ (i : Int) by omega)]
        refine ev_succ ?_
        simp only [impl_DeltaFault.j2, if_true]
        exact ev_now rfl
    cases q3 : inB ss[i].f3 0 255
    · refine go 3 ⟨ev_succ ?_, ev_succ ?_⟩
      · simp only [spec_DeltaFault.l0, rdS hlt, l5Id_eq, l4Place_eq, l3Data_eq, q1, q2, q3, Option.bind_some, if_true, Bool.not_false]
        simp only [if_pos (show (i : Int) < (ss.length : Int) by omega), if_pos (show 0 ≤ (i : Int) by omega)]
        refine ev_succ ?_
        simp only [spec_DeltaFault.j3, if_true]
        exact ev_now rfl
      · simp only [impl_DeltaFault.l0, rdS hlt, isId_eq, isTreePlace_eq, isByte_eq, q1, q2, q3, Option.bind_some, if_true, Bool.not_false]
        simp only [if_pos (show (i : Int) < (ss.length : Int) by omega), if_pos (show 0 ≤ (i : Int) by omega)]
        refine ev_succ ?_
        simp only [impl_DeltaFault.j2, if_true]
        exact ev_now rfl
    have both : ∀ r' : Int, (if prevBad ss i ss[i] = true then r' = 1 else Ev (fun k => spec_DeltaFault.l0 k ((i + 1 : Nat) : Int) F T vs ss) r') → (if prevBad ss i ss[i] = true then r' = 1 else Ev (fun k => impl_DeltaFault.l0 k ss (ss.length : Int) ((i + 1 : Nat) : Int) F T vs ss) r') → (ss[i].f0 = true ∨ ss[i].f3 = 0) → Ev (fun k => spec_DeltaFault.l0 k (i : Int) F T vs ss) r' ∧ Ev (fun k => impl_DeltaFault.l0 k ss (ss.length : Int) (i : Int) F T vs ss) r' := by
      intro r' a1 a2 hq
      refine ⟨ev_succ ?_, ev_succ ?_⟩
      · simp only [spec_DeltaFault.l0, rdS hlt, l5Id_eq, l4Place_eq, l3Data_eq, q1, q2, q3, Option.bind_some, if_true, Bool.not_true]
        simp only [if_pos (show (i : Int) < (ss.length : Int) by omega), if_pos (show 0 ≤ (i : Int) by omega)]
        refine ev_succ ?_
        simp only [spec_DeltaFault.j3, Bool.false_eq_true, if_false]
        by_cases c : ss[i].f0 = true
        · simp only [if_pos c]
          exact spec_tail F T vs ss hl i hlt ss[i] r' a1
        · simp only [if_neg c, if_pos (hq.resolve_left c)]
          exact spec_tail F T vs ss hl i hlt ss[i] r' a1
      · simp only [impl_DeltaFault.l0, rdS hlt, isId_eq, isTreePlace_eq, isByte_eq, q1, q2, q3, Option.bind_some, if_true, Bool.not_true]
        simp only [if_pos (show (i : Int) < (ss.length : Int) by omega), if_pos (show 0 ≤ (i : Int) by omega)]
        refine ev_succ ?_
        simp only [impl_DeltaFault.j2, Bool.false_eq_true, if_false]
        by_cases c : ss[i].f0 = true
        · simp only [if_pos c]
          exact impl_tail F T vs ss hl i hlt ss[i] r' ss rfl a2
        · simp only [if_neg c, if_pos (hq.resolve_left c)]
          exact impl_tail F T vs ss hl i hlt ss[i] r' ss rfl a2
    by_cases hq : ss[i].f0 = true ∨ ss[i].f3 = 0
    · by_cases hp : prevBad ss i ss[i] = true
      · exact go 1 (both 1 (by rw [if_pos hp]) (by rw [if_pos hp]) hq)
      · exact go r (both r (by rw [if_neg hp]; exact h1) (by rw [if_neg hp]; exact h2) hq)
    · have c : ¬ ss[i].f0 = true := fun e => hq (.inl e)
      have c2 : ¬ ss[i].f3 = 0 := fun e => hq (.inr e)
      refine go 1 ⟨ev_succ ?_, ev_succ ?_⟩
      · simp only [spec_DeltaFault.l0, rdS hlt, l5Id_eq, l4Place_eq, l3Data_eq, q1, q2, q3, Option.bind_some, if_true, Bool.not_true]
        simp only [if_pos (show (i : Int) < (ss.length : Int) by omega), if_pos (show 0 ≤ (i : Int) by omega)]
        refine ev_succ ?_
        simp only [spec_DeltaFault.j3, Bool.false_eq_true, if_false]
        simp only [if_neg c, if_neg c2]
        exact ev_now rfl
      · simp only [impl_DeltaFault.l0, rdS hlt, isId_eq, isTreePlace_eq, isByte_eq, q1, q2, q3, Option.bind_some, if_true, Bool.not_true]
        simp only [if_pos (show (i : Int) < (ss.length : Int) by omega), if_pos (show 0 ≤ (i : Int) by omega)]
        refine ev_succ ?_
        simp only [impl_DeltaFault.j2, Bool.false_eq_true, if_false]
        simp only [if_neg c, if_neg c2]
        exact ev_now rfl
theorem delta_both (F T : Int) (vs : List V) (ss : List St) (h1 : vs.length ≤ 1048576) (h2 : ss.length ≤ 1048576) : ∃ r : Int, Ev (fun k => spec_DeltaFault.f k F T vs ss) r ∧ Ev (fun k => impl_DeltaFault.f k F T vs ss) r := by
  unfold spec_DeltaFault.f impl_DeltaFault.f
  simp only [l1In_eq, within_eq, Option.bind_some]
  have bad : ∃ r : Int, Ev (fun k => spec_DeltaFault.j0 k true F T vs ss) r ∧ Ev (fun k => impl_DeltaFault.j0 k true F T vs ss) r := by
    refine ⟨3, ev_succ ?_, ev_succ ?_⟩
    · simp only [spec_DeltaFault.j0, if_true]; exact ev_now rfl
    · simp only [impl_DeltaFault.j0, if_true]; exact ev_now rfl
  cases q1 : inB F 0 65520
  · simp only [Bool.false_eq_true, if_false]
    exact bad
  · simp only [if_true]
    cases q2 : inB T 0 65520
    · simp only [Bool.not_false]
      exact bad
    · simp only [Bool.not_true]
      by_cases c1 : (vs.length : Int) > 6
      · refine ⟨2, ev_succ ?_, ev_succ ?_⟩
        · simp only [spec_DeltaFault.j0, Bool.false_eq_true, if_false]
          simp only [if_pos c1]
          refine ev_succ ?_
          simp only [spec_DeltaFault.j1, if_true]
          exact ev_now rfl
        · simp only [impl_DeltaFault.j0, Bool.false_eq_true, if_false]
          simp only [if_pos c1]
          exact ev_now rfl
      · by_cases c2 : (ss.length : Int) > 120
        · refine ⟨2, ev_succ ?_, ev_succ ?_⟩
          · simp only [spec_DeltaFault.j0, Bool.false_eq_true, if_false]
            simp only [if_neg c1]
            refine ev_succ ?_
            simp only [spec_DeltaFault.j1, decide_eq_true c2, if_true]
            exact ev_now rfl
          · simp only [impl_DeltaFault.j0, Bool.false_eq_true, if_false]
            simp only [if_neg c1, if_pos c2]
            exact ev_now rfl
        · obtain ⟨v, v1, v2⟩ := vols_both vs h1 vs.length 0 (by omega) (by omega)
          obtain ⟨s, s1, s2⟩ := steps_both F T vs ss h2 ss.length 0 (by omega) (by omega)
          have v1' : Ev (fun k => spec_l6Vols.f k ⟨0, vs, [], []⟩) v := v1
          have v2' : Ev (fun k => impl_volsFault.f k vs) v := v2
          refine ⟨if v = 0 then s else v, ev_succ ?_, ev_succ ?_⟩
          · simp only [spec_DeltaFault.j0, Bool.false_eq_true, if_false]
            simp only [if_neg c1]
            refine ev_succ ?_
            simp only [spec_DeltaFault.j1, decide_eq_false c2, Bool.false_eq_true, if_false]
            refine ev_bind v1' ?_
            by_cases c3 : v = 0
            · simp only [if_pos c3]; exact s1
            · simp only [if_neg c3]; exact ev_now rfl
          · simp only [impl_DeltaFault.j0, Bool.false_eq_true, if_false]
            simp only [if_neg c1, if_neg c2]
            refine ev_bind v2' ?_
            by_cases c3 : v = 0
            · simp only [if_pos c3]; exact s2
            · simp only [if_neg c3]; exact ev_now rfl
end Go.Proofs.Ytflddpkmajoeaaa.DeltaP
/- The law of DeltaFault answers true at every delta. No condition beside the statement's own bounds. -/
namespace Go.Proofs.Ytflddpkmajoeaaa.Pure
open Go.RowKit Go.Proofs.Ytflddpkmajoeaaa.PP Go.Proofs.YtflddpkmajoeaaaW.PrintWords Go.Proofs.Ytflddpkmajoeaaa.Lem Go.Proofs.Ytflddpkmajoeaaa.DeltaP
set_option linter.unusedVariables false
set_option linter.unusedSimpArgs false

theorem FnExactDeltaFault : laws_FnExactDeltaFault.Pure := by
  intro x0 hg
  obtain ⟨F, T, lv, ls⟩ := x0
  obtain ⟨g1, g2⟩ : lv.length ≤ 140737488351232 ∧ ls.length ≤ 140737488351232 := by have := hg; simp [g79] at this; omega
  clear hg
  refine Ev.rounds (r := true) ?_
  unfold laws_FnExactDeltaFault.f
  obtain ⟨t, ht, hb⟩ : ∃ t, laws_szDelta.f F T lv ls 1048576 = some t ∧ (¬ t < 0 → lv.length ≤ 1048576 ∧ ls.length ≤ 1048576) := by
    unfold laws_szDelta.f
    rw [VolP.sz_eq lv 1048576 (by omega) (by omega) g1]
    simp only [Option.bind_some]
    by_cases c : (1048576 : Int) - lv.length < 0
    · exact ⟨-1, by simp only [if_pos c]; rfl, by omega⟩
    · simp only [if_neg c]
      rw [StepP.sz_eq ls _ (by omega) (by omega) g2]
      simp only [Option.bind_some]
      by_cases c2 : (1048576 : Int) - lv.length - ls.length < 0
      · exact ⟨-1, by simp only [if_pos c2]; rfl, by omega⟩
      · exact ⟨_, by simp only [if_neg c2]; rfl, by omega⟩
  simp only [ht, Option.bind_some]
  by_cases c : t < 0
  · simp only [if_pos c]
    exact ev_now rfl
  · simp only [if_neg c]
    obtain ⟨b1, b2⟩ := hb c
    have cp : Ev (fun k => laws_toDelta.f k F T lv ls) (F, T, lv.map VolP.toB, ls.map StepP.toB) := by
      unfold laws_toDelta.f
      exact ev_bind (VolP.to_ev lv b1) (ev_bind (StepP.to_ev ls b2) (ev_now rfl))
    have v1 : (lv.map VolP.toB).length ≤ 1048576 := by simpa using b1
    have v2 : (ls.map StepP.toB).length ≤ 1048576 := by simpa using b2
    generalize lv.map VolP.toB = vs at cp v1
    generalize ls.map StepP.toB = ss at cp v2
    have eq : Ev (fun k => laws_eqDelta.f k F T vs ss F T vs ss) true := by
      unfold laws_eqDelta.f
      simp only [if_true]
      refine ev_bind (VolP.eq_ev vs (by omega)) ?_
      simp only [if_true]
      refine ev_bind (StepP.eq_ev ss (by omega)) ?_
      simp only [if_true]
      exact ev_now rfl
    obtain ⟨r, h1, h2⟩ := delta_both F T vs ss v1 v2
    refine ev_bind cp (ev_bind h1 (ev_bind cp (ev_bind h2 ?_)))
    simp only [if_true]
    refine ev_bind cp (ev_bind eq ?_)
    simp only [if_true]
    exact ev_now rfl
end Go.Proofs.Ytflddpkmajoeaaa.Pure
