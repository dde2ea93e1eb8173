/- What is wrong with a record: the program's answer and the reference's are one. -/
import Derived.Test.YtilopcdhggmpfaaPAx4
import Derived.Test.YtilopcdhggmpfaaPAx4
import Derived.Test.YtilopcdhggmpfaaAWords
namespace Go.Proofs.Ytilopcdhggmpfaa.RecA
open Go.RowKit Go.Proofs.Ytilopcdhggmpfaa.PA Go.Proofs.YtilopcdhggmpfaaW.PrintWords Go.Proofs.Ytilopcdhggmpfaa.Lem Go.Proofs.Ytilopcdhggmpfaa.SmallA Go.Proofs.Ytilopcdhggmpfaa.WordsA
set_option linter.unusedVariables false
set_option linter.unusedSimpArgs false

def recF (l : List Int) : Int := if l.length < 1 ∨ 8 < l.length then 2 else if l.all isW = true then 0 else 3
theorem spec_loop (l : List Int) (hl : l.length ≤ 140737488351232) : ∀ (d i : Nat), l.length - i = d → i ≤ l.length → Ev (fun k => spec_RecordFault.l0 k l (i : Int)) (if (l.drop i).all isW = true then 0 else 3) := by
  intro d
  induction d with
  | zero =>
    intro i hd hi
    refine ev_succ ?_
    simp only [spec_RecordFault.l0]
    simp only [if_neg (show ¬ (i : Int) < (l.length : Int) by omega)]
    exact ev_now (by rw [List.drop_of_length_le (by omega)]; rfl)
  | succ d ih =>
    intro i hd hi
    have hlt : i < l.length := by omega
    have ih' := ih (i + 1) (by omega) (by omega)
    rw [List.drop_eq_getElem_cons hlt]
    refine ev_succ ?_
    simp only [spec_RecordFault.l0, l1Word_eq, rd_lt hlt, Option.bind_some, List.all_cons]
    simp only [if_pos (show (i : Int) < (l.length : Int) by omega), if_pos (show 0 ≤ (i : Int) by omega), wrap_succ hlt hl]
    by_cases h : isW l[i] = true
    · simp only [h, Bool.true_and, if_true]
      exact ih'
    · simp only [Bool.eq_false_iff.2 h, Bool.false_and, Bool.false_eq_true, if_false]
      exact ev_now rfl
theorem spec_ev (l : List Int) (hl : l.length ≤ 140737488351232) : Ev (fun k => spec_RecordFault.f k l) (recF l) := by
  unfold spec_RecordFault.f recF
  by_cases h : (l.length : Int) < 1
  · simp only [if_pos h, if_pos (show l.length < 1 ∨ 8 < l.length by omega)]
    refine ev_succ ?_
    simp only [spec_RecordFault.j0, if_true]
    exact ev_now rfl
  · simp only [if_neg h]
    refine ev_succ ?_
    simp only [spec_RecordFault.j0]
    by_cases h8 : (l.length : Int) > 8
    · simp only [decide_eq_true h8, if_true, if_pos (show l.length < 1 ∨ 8 < l.length by omega)]
      exact ev_now rfl
    · simp only [decide_eq_false h8, Bool.false_eq_true, if_false, if_neg (show ¬ (l.length < 1 ∨ 8 < l.length) by omega)]
      exact spec_loop l hl l.length 0 (by omega) (by omega)
theorem impl_ev (l : List Int) (hl : l.length ≤ 140737488351232) : Ev (fun k => impl_RecordFault.f k l) (recF l) := by
  unfold impl_RecordFault.f recF
  simp only [within_eq, Option.bind_some]
  by_cases h : l.length < 1 ∨ 8 < l.length
  · simp only [if_pos h, show inB (l.length : Int) 1 8 = false from inB_not.2 (by omega), Bool.false_eq_true, if_false]
    exact ev_now rfl
  · simp only [if_neg h, show inB (l.length : Int) 1 8 = true from inB_iff.2 (by omega), if_true]
    refine ev_bind (areWords_ev l hl) ?_
    cases l.all isW
    · exact ev_now rfl
    · exact ev_now rfl
end Go.Proofs.Ytilopcdhggmpfaa.RecA
