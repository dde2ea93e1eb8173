/- The sum of words: the program's loop and the reference's come to one number. -/
import Derived.Test.YtilopcdhggmpfaaPAx1
import Derived.Test.YtilopcdhggmpfaaPAx1
import Derived.Test.YtilopcdhggmpfaaLem
namespace Go.Proofs.Ytilopcdhggmpfaa.SumA
open Go.RowKit Go.Proofs.Ytilopcdhggmpfaa.PA Go.Proofs.YtilopcdhggmpfaaW.PrintWords Go.Proofs.Ytilopcdhggmpfaa.Lem
set_option linter.unusedVariables false
set_option linter.unusedSimpArgs false

def stepW (h w : Int) : Int := (h * 263 + w % 65521 + 1) % 65521
def sumW (l : List Int) (h : Int) : Int := l.foldl stepW h
theorem step_range (h w : Int) : 0 ≤ stepW h w ∧ stepW h w < 65521 := by unfold stepW; omega
theorem tmod_cases (w : Int) : Int.tmod w 65521 = w % 65521 ∨ (Int.tmod w 65521 = w % 65521 - 65521 ∧ w % 65521 ≠ 0) := by
  rw [Int.tmod_eq_emod]
  split
  · left; omega
  · rename_i h
    right
    have : ¬ (65521 : Int) ∣ w := fun e => h (.inr e)
    refine ⟨by simp, by omega⟩
theorem tmod_pos {w : Int} (h : 0 ≤ w) : Int.tmod w 65521 = w % 65521 := Int.tmod_eq_emod_of_nonneg h
theorem spec_step {h w : Int} (h0 : 0 ≤ h) (h1 : h < 65521) : Int.tmod (wrap64 ((wrap64 ((wrap64 (h * 263)) + (Int.tmod (wrap64 ((Int.tmod w 65521) + 65521)) 65521))) + 1)) 65521 = stepW h w := by
  have hr := Int.emod_nonneg w (show (65521 : Int) ≠ 0 by omega)
  have hr2 := Int.emod_lt_of_pos w (show (0 : Int) < 65521 by omega)
  have e1 : Int.tmod (wrap64 ((Int.tmod w 65521) + 65521)) 65521 = w % 65521 := by
    rcases tmod_cases w with e | ⟨e, h2⟩
    · rw [e, wrap_id (by omega) (by omega), tmod_pos (by omega)]; omega
    · rw [e, wrap_id (by omega) (by omega), tmod_pos (by omega)]; omega
  rw [e1, wrap_id (x := h * 263) (by omega) (by omega), wrap_id (x := h * 263 + w % 65521) (by omega) (by omega), wrap_id (by omega) (by omega), tmod_pos (by omega)]
  rfl
theorem impl_step1 {h w : Int} (h0 : 0 ≤ h) (h1 : h < 65521) (hw : Int.tmod w 65521 < 0) : Int.tmod (wrap64 ((wrap64 ((wrap64 (h * 263)) + (wrap64 ((Int.tmod w 65521) + 65521)))) + 1)) 65521 = stepW h w := by
  have hr := Int.emod_nonneg w (show (65521 : Int) ≠ 0 by omega)
  have hr2 := Int.emod_lt_of_pos w (show (0 : Int) < 65521 by omega)
  have e1 : wrap64 ((Int.tmod w 65521) + 65521) = w % 65521 := by
    rcases tmod_cases w with e | ⟨e, h2⟩
    · omega
    · rw [e, wrap_id (by omega) (by omega)]; omega
  rw [e1, wrap_id (x := h * 263) (by omega) (by omega), wrap_id (x := h * 263 + w % 65521) (by omega) (by omega), wrap_id (by omega) (by omega), tmod_pos (by omega)]
  rfl
theorem impl_step2 {h w : Int} (h0 : 0 ≤ h) (h1 : h < 65521) (hw : ¬ Int.tmod w 65521 < 0) : Int.tmod (wrap64 ((wrap64 ((wrap64 (h * 263)) + (Int.tmod w 65521))) + 1)) 65521 = stepW h w := by
  have hr := Int.emod_nonneg w (show (65521 : Int) ≠ 0 by omega)
  have hr2 := Int.emod_lt_of_pos w (show (0 : Int) < 65521 by omega)
  have e1 : Int.tmod w 65521 = w % 65521 := by
    rcases tmod_cases w with e | ⟨e, h2⟩
    · exact e
    · omega
  rw [e1, wrap_id (x := h * 263) (by omega) (by omega), wrap_id (x := h * 263 + w % 65521) (by omega) (by omega), wrap_id (by omega) (by omega), tmod_pos (by omega)]
  rfl
theorem drop_cons {l : List Int} {i : Nat} (h : i < l.length) : l.drop i = l[i] :: l.drop (i + 1) := List.drop_eq_getElem_cons h
theorem spec_loop (l : List Int) (hl : l.length ≤ 140737488351232) : ∀ (d i : Nat) (h : Int), l.length - i = d → i ≤ l.length → 0 ≤ h → h < 65521 → Ev (fun k => spec_SumWords.l0 k l h (i : Int)) (sumW (l.drop i) h) := by
  intro d
  induction d with
  | zero =>
    intro i h hd hi h0 h1
    refine ev_succ ?_
    simp only [spec_SumWords.l0]
    simp only [if_neg (show ¬ (i : Int) < (l.length : Int) by omega)]
    exact ev_now (by rw [List.drop_of_length_le (by omega)]; rfl)
  | succ d ih =>
    intro i h hd hi h0 h1
    refine ev_succ ?_
    simp only [spec_SumWords.l0]
    simp only [if_pos (show (i : Int) < (l.length : Int) by omega), if_pos (show 0 ≤ (i : Int) by omega), wrap_succ (show i < l.length by omega) hl, spec_step h0 h1, rd_lt (show i < l.length by omega)]
    rw [drop_cons (show i < l.length by omega)]
    exact ih (i + 1) _ (by omega) (by omega) (step_range _ _).1 (step_range _ _).2
theorem impl_loop (l : List Int) (hl : l.length ≤ 140737488351232) : ∀ (d i : Nat) (h : Int), l.length - i = d → i ≤ l.length → 0 ≤ h → h < 65521 → Ev (fun k => impl_SumWords.l0 k h l (l.length : Int) (i : Int)) (sumW (l.drop i) h) := by
  intro d
  induction d with
  | zero =>
    intro i h hd hi h0 h1
    refine ev_succ ?_
    simp only [impl_SumWords.l0]
    simp only [if_neg (show ¬ (i : Int) < (l.length : Int) by omega)]
    exact ev_now (by rw [List.drop_of_length_le (by omega)]; rfl)
  | succ d ih =>
    intro i h hd hi h0 h1
    refine ev_succ ?_
    simp only [impl_SumWords.l0]
    simp only [if_pos (show (i : Int) < (l.length : Int) by omega), if_pos (show 0 ≤ (i : Int) by omega), wrap_succ (show i < l.length by omega) hl, rd_lt (show i < l.length by omega)]
    rw [drop_cons (show i < l.length by omega)]
    have ih' := ih (i + 1) (stepW h l[i]) (by omega) (by omega) (step_range _ _).1 (step_range _ _).2
    by_cases c : Int.tmod l[i] 65521 < 0
    · simp only [if_pos c, impl_step1 h0 h1 c]
      exact ih'
    · simp only [if_neg c, impl_step2 h0 h1 c]
      exact ih'
theorem spec_ev (l : List Int) (hl : l.length ≤ 140737488351232) : Ev (fun k => spec_SumWords.f k l) (sumW l 9) := by
  unfold spec_SumWords.f
  exact spec_loop l hl l.length 0 9 (by omega) (by omega) (by omega) (by omega)
theorem impl_ev (l : List Int) (hl : l.length ≤ 140737488351232) : Ev (fun k => impl_SumWords.f k l) (sumW l 9) := by
  unfold impl_SumWords.f
  exact impl_loop l hl l.length 0 9 (by omega) (by omega) (by omega) (by omega)
end Go.Proofs.Ytilopcdhggmpfaa.SumA
