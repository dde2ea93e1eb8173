/- Plain: the words behind all that was put; sums; the records at the beginning of words. -/
import Derived.Test.YtaahjfjpbilfnaaVGD
namespace Go.Proofs.Ytaahjfjpbilfnaa.V
open Go
set_option linter.unusedVariables false
set_option linter.unusedSimpArgs false
def wOK (w : Int) : Bool := decide (0 ≤ w ∧ w ≤ 65535)
def pOK (x : Bk) : Bool := decide (0 ≤ x.r ∧ x.r ≤ 63) && wOK x.d
/-- What is wrong with a disk. -/
def dF (D : Dk) : Int := if D.w.length = 64 then (if 200 < D.p.length then 2 else if D.w.all wOK = true then (if D.p.all pOK = true then 0 else 3) else 3) else 1
structure DGood (D : Dk) : Prop where
  w : D.w.length = 64
  p : D.p.length ≤ 200
  a : ∀ x ∈ D.p, 0 ≤ x.r ∧ x.r ≤ 63
theorem dF_zero {D : Dk} (h : dF D = 0) : DGood D := by
  unfold dF at h
  by_cases h1 : D.w.length = 64
  · rw [if_pos h1] at h
    by_cases h2 : 200 < D.p.length
    · rw [if_pos h2] at h; cases h
    · rw [if_neg h2] at h
      by_cases h3 : D.w.all wOK = true
      · rw [if_pos h3] at h
        by_cases h4 : D.p.all pOK = true
        · refine ⟨h1, by omega, fun x hx => ?_⟩
          have := List.all_eq_true.1 h4 x hx
          unfold pOK at this
          simp only [Bool.and_eq_true, decide_eq_true_eq] at this
          exact this.1
        · rw [if_neg h4] at h; cases h
      · rw [if_neg h3] at h; cases h
  · rw [if_neg h1] at h; cases h
/-! ### What is behind all that was put -/
def flP (w : List Int) (p : List Bk) : List Int := p.foldl (fun l x => l.set x.r.toNat x.d) w
def atP (w : List Int) (p : List Bk) (i : Nat) : Int := match p.reverse.find? (fun x => x.r == (i : Int)) with
  | some x => x.d
  | none => (w[i]?).getD 0
theorem flP_len : ∀ (p : List Bk) (w : List Int), (flP w p).length = w.length
  | [], w => rfl
  | x :: p, w => by
    have := flP_len p (w.set x.r.toNat x.d)
    simp only [List.length_set] at this
    exact this
theorem flP_take (w : List Int) (p : List Bk) (j : Nat) (hj : j < p.length) : flP w (p.take (j + 1)) = (flP w (p.take j)).set p[j].r.toNat p[j].d := by
  unfold flP
  rw [List.take_succ_eq_append_getElem hj, List.foldl_append]; rfl
theorem flP_at : ∀ (p : List Bk) (w : List Int), (∀ x ∈ p, 0 ≤ x.r) → ∀ i, i < w.length → (flP w p)[i]? = some (atP w p i)
  | [], w, _, i, hi => by simp [flP, atP, hi]
  | x :: p, w, h, i, hi => by
    have ih := flP_at p (w.set x.r.toNat x.d) (fun y hy => h y (by simp [hy])) i (by simpa using hi)
    have h0 := h x (by simp)
    have e : flP w (x :: p) = flP (w.set x.r.toNat x.d) p := rfl
    rw [e, ih]
    unfold atP
    rw [List.reverse_cons, List.find?_append]
    cases hf : p.reverse.find? (fun x => x.r == (i : Int)) with
    | some y => rfl
    | none =>
      by_cases hx : x.r = (i : Int)
      · have hxi : x.r.toNat = i := by omega
        have hb : (x.r == (i : Int)) = true := beq_iff_eq.2 hx
        simp only [Option.none_or, List.find?_cons, hb, hxi, List.getElem?_set, hi, if_true, Option.getD_some]
      · have hxi : ¬ x.r.toNat = i := by omega
        have hb : (x.r == (i : Int)) = false := beq_eq_false_iff_ne.2 hx
        simp only [Option.none_or, List.find?_cons, List.find?_nil, hb, List.getElem?_set, if_neg hxi]
theorem flP_all (p : List Bk) (w : List Int) (h : ∀ x ∈ p, 0 ≤ x.r) : flP w p = (List.range w.length).map (atP w p) := by
  apply List.ext_getElem?
  intro i
  by_cases hi : i < w.length
  · rw [flP_at p w h i hi, List.getElem?_map, List.getElem?_range hi]; rfl
  · rw [List.getElem?_eq_none (by rw [flP_len]; omega), List.getElem?_eq_none (by simp; omega)]
/-! ### Sums -/
def stepW (h w : Int) : Int := (h * 263 + w % 65521 + 1) % 65521
def sumW (l : List Int) (h : Int) : Int := l.foldl stepW h
theorem step_range (h w : Int) : 0 ≤ stepW h w ∧ stepW h w < 65521 := by unfold stepW; omega
theorem sumW_range : ∀ (l : List Int) (h : Int), 0 ≤ h → h < 65521 → 0 ≤ sumW l h ∧ sumW l h < 65521
  | [], h, h0, h1 => ⟨h0, h1⟩
  | w :: l, h, h0, h1 => sumW_range l (stepW h w) (step_range h w).1 (step_range h w).2
theorem sumW_take (l : List Int) (j : Nat) (hj : j < l.length) : sumW (l.take (j + 1)) 9 = stepW (sumW (l.take j) 9) l[j] := by
  unfold sumW
  rw [List.take_succ_eq_append_getElem hj, List.foldl_append]; rfl
theorem tmod_cases (w : Int) : Int.tmod w 65521 = w % 65521 ∨ (Int.tmod w 65521 = w % 65521 - 65521 ∧ w % 65521 ≠ 0) := by
  rw [Int.tmod_eq_emod]
  split
  · left; omega
  · rename_i h
    right
    have : ¬ (65521 : Int) ∣ w := fun e => h (.inr e)
    refine ⟨by simp, by omega⟩
theorem tmod_pos {w : Int} (h : 0 ≤ w) : Int.tmod w 65521 = w % 65521 := Int.tmod_eq_emod_of_nonneg h
theorem spec_step {h w : Int} (h0 : 0 ≤ h) (h1 : h < 65521) : Int.tmod (IntKind.i64.wrap ((IntKind.i64.wrap ((IntKind.i64.wrap (h * 263)) + (Int.tmod (IntKind.i64.wrap ((Int.tmod w 65521) + 65521)) 65521))) + 1)) 65521 = stepW h w := by
  have hr := Int.emod_nonneg w (show (65521 : Int) ≠ 0 by omega)
  have hr2 := Int.emod_lt_of_pos w (show (0 : Int) < 65521 by omega)
  have e1 : Int.tmod (IntKind.i64.wrap ((Int.tmod w 65521) + 65521)) 65521 = w % 65521 := by
    rcases tmod_cases w with e | ⟨e, h2⟩
    · rw [e, wr (by omega) (by omega), tmod_pos (by omega)]; omega
    · rw [e, wr (by omega) (by omega), tmod_pos (by omega)]; omega
  rw [e1, wr (n := h * 263) (by omega) (by omega), wr (n := h * 263 + w % 65521) (by omega) (by omega), wr (by omega) (by omega), tmod_pos (by omega)]
  rfl
theorem impl_step1 {h w : Int} (h0 : 0 ≤ h) (h1 : h < 65521) (hw : Int.tmod w 65521 < 0) : Int.tmod (IntKind.i64.wrap ((IntKind.i64.wrap ((IntKind.i64.wrap (h * 263)) + (IntKind.i64.wrap ((Int.tmod w 65521) + 65521)))) + 1)) 65521 = stepW h w := by
  have hr := Int.emod_nonneg w (show (65521 : Int) ≠ 0 by omega)
  have hr2 := Int.emod_lt_of_pos w (show (0 : Int) < 65521 by omega)
  have e1 : IntKind.i64.wrap ((Int.tmod w 65521) + 65521) = w % 65521 := by
    rcases tmod_cases w with e | ⟨e, h2⟩
    · omega
    · rw [e, wr (by omega) (by omega)]; omega
  rw [e1, wr (n := h * 263) (by omega) (by omega), wr (n := h * 263 + w % 65521) (by omega) (by omega), wr (by omega) (by omega), tmod_pos (by omega)]
  rfl
theorem impl_step2 {h w : Int} (h0 : 0 ≤ h) (h1 : h < 65521) (hw : ¬ Int.tmod w 65521 < 0) : Int.tmod (IntKind.i64.wrap ((IntKind.i64.wrap ((IntKind.i64.wrap (h * 263)) + (Int.tmod w 65521))) + 1)) 65521 = stepW h w := by
  have hr := Int.emod_nonneg w (show (65521 : Int) ≠ 0 by omega)
  have hr2 := Int.emod_lt_of_pos w (show (0 : Int) < 65521 by omega)
  have e1 : Int.tmod w 65521 = w % 65521 := by
    rcases tmod_cases w with e | ⟨e, h2⟩
    · exact e
    · omega
  rw [e1, wr (n := h * 263) (by omega) (by omega), wr (n := h * 263 + w % 65521) (by omega) (by omega), wr (by omega) (by omega), tmod_pos (by omega)]
  rfl
/-! ### Records -/
/-- The record at a place, if one stands there: how many words it has. -/
def recN (all : List Int) (i k : Nat) : Nat := match all[i]? with
  | some n => if 1 ≤ n ∧ n ≤ 8 ∧ (i : Int) + 2 + n ≤ (all.length : Int) then (if all[i + 1]? = some (sumW ((k : Int) :: (all.drop (i + 2)).take n.toNat) 9) then n.toNat else 0) else 0
  | none => 0
def recL (all : List Int) (i m : Nat) : List Int := (all.drop (i + 2)).take m
/-- The records from a place on. -/
def scanR (all : List Int) : Nat → Nat → List (List Int) → List (List Int) × Nat
  | 0, i, o => (o, i)
  | f + 1, i, o => if recN all i o.length = 0 then (o, i) else scanR all f (i + 2 + recN all i o.length) (o ++ [recL all i (recN all i o.length)])
theorem recN_le (all : List Int) (i k : Nat) (h : recN all i k ≠ 0) : 1 ≤ recN all i k ∧ recN all i k ≤ 8 ∧ i + 2 + recN all i k ≤ all.length := by
  unfold recN at h ⊢
  cases hn : all[i]? with
  | none => rw [hn] at h; exact absurd rfl h
  | some n =>
    rw [hn] at h
    simp only at h ⊢
    by_cases h1 : 1 ≤ n ∧ n ≤ 8 ∧ (i : Int) + 2 + n ≤ (all.length : Int)
    · rw [if_pos h1] at h ⊢
      by_cases h2 : all[i + 1]? = some (sumW ((k : Int) :: (all.drop (i + 2)).take n.toNat) 9)
      · rw [if_pos h2]; omega
      · rw [if_neg h2] at h; exact absurd rfl h
    · rw [if_neg h1] at h; exact absurd rfl h
theorem recL_len {all : List Int} {i m : Nat} (h : i + 2 + m ≤ all.length) : (recL all i m).length = m := by
  unfold recL; rw [List.length_take, List.length_drop]; omega
theorem recN_far {all : List Int} {i k : Nat} (h : all.length ≤ i + 2) : recN all i k = 0 := by
  apply Classical.byContradiction
  intro hn
  have := recN_le all i k hn
  omega
theorem recN_bad {all : List Int} {i k : Nat} {n : Int} (hn : all[i]? = some n) (h : ¬ (1 ≤ n ∧ n ≤ 8 ∧ (i : Int) + 2 + n ≤ (all.length : Int))) : recN all i k = 0 := by
  unfold recN; rw [hn]; simp only; rw [if_neg h]
theorem recN_sum {all : List Int} {i k m : Nat} (hn : all[i]? = some (m : Int)) (h1 : 1 ≤ m) (h8 : m ≤ 8) (hf : i + 2 + m ≤ all.length) : recN all i k = if all[i + 1]? = some (sumW ((k : Int) :: recL all i m) 9) then m else 0 := by
  unfold recN; rw [hn]; simp only
  rw [if_pos (by omega)]
  simp only [Int.toNat_natCast]; rfl
/-- How many words the records take. -/
theorem scanR_le (all : List Int) : ∀ (f i : Nat) (o : List (List Int)), i ≤ all.length → (∀ x ∈ o, x.length ≤ 8) → o.length ≤ i → (scanR all f i o).2 ≤ all.length ∧ (scanR all f i o).1.length ≤ all.length ∧ ∀ x ∈ (scanR all f i o).1, x.length ≤ 8
  | 0, i, o, hi, ho, hl => ⟨hi, Nat.le_trans hl hi, ho⟩
  | f + 1, i, o, hi, ho, hl => by
    unfold scanR
    by_cases h : recN all i o.length = 0
    · rw [if_pos h]; exact ⟨hi, Nat.le_trans hl hi, ho⟩
    · rw [if_neg h]
      have h1 := recN_le all i o.length h
      refine scanR_le all f _ _ h1.2.2 (fun x hx => ?_) (by simp; omega)
      rcases List.mem_append.1 hx with e | e
      · exact ho x e
      · simp only [List.mem_singleton] at e
        rw [e, recL_len h1.2.2]; exact h1.2.1
theorem sR_le (l : List (List Int)) (h : ∀ x ∈ l, x.length ≤ 8) : sR l ≤ 8 * (l.length : Int) := by
  induction l with
  | nil => simp [sR]
  | cons x r ih =>
    have h1 := ih fun y hy => h y (by simp [hy])
    have h2 := h x (by simp)
    rw [sR_cons, List.length_cons]; omega
end Go.Proofs.Ytaahjfjpbilfnaa.V
