/- Whether all numbers of a list are words, as the program finds it, and what is wrong with a record. -/
import Derived.Test.YtaahjfjpbilfnaaPDx2
import Derived.Test.YtaahjfjpbilfnaaPDx1
import Derived.Test.YtaahjfjpbilfnaaDSmall
namespace Go.Proofs.Ytaahjfjpbilfnaa.WordsD
open Go.RowKit Go.Proofs.Ytaahjfjpbilfnaa.PD Go.Proofs.YtaahjfjpbilfnaaW.PrintWords Go.Proofs.Ytaahjfjpbilfnaa.Lem Go.Proofs.Ytaahjfjpbilfnaa.SmallD
set_option linter.unusedVariables false
set_option linter.unusedSimpArgs false

def isW (n : Int) : Bool := inB n 0 65535
theorem l1Word_eq (a : Int) : spec_l1Word.f a = some (isW a) := by unfold spec_l1Word.f; rw [l1In_eq]; rfl
theorem notW_eq (a : Int) : impl_areWords_1.f a = some (!isW a) := by unfold impl_areWords_1.f impl_isWord.f; rw [within_eq]; rfl
theorem idx_loop (l : List Int) (hl : l.length ≤ 140737488351232) : ∀ (d i : Nat), l.length - i = d → i ≤ l.length → ∃ r : Int, Ev (fun k => slices_IndexFunc_int64__impl_areWords_1.l0 k l (l.length : Int) (i : Int)) r ∧ decide (r ≥ 0) = !((l.drop i).all isW) := by
  intro d
  induction d with
  | zero =>
    intro i hd hi
    refine ⟨-1, ev_succ ?_, by rw [List.drop_of_length_le (by omega)]; rfl⟩
    simp only [slices_IndexFunc_int64__impl_areWords_1.l0]
    simp only [if_neg (show ¬ (i : Int) < (l.length : Int) by omega)]
    exact ev_now rfl
  | succ d ih =>
    intro i hd hi
    have hlt : i < l.length := by omega
    rw [List.drop_eq_getElem_cons hlt]
    cases h : isW l[i]
    · refine ⟨i, ev_succ ?_, by simp only [List.all_cons, h, Bool.false_and, Bool.not_false, decide_eq_true_eq]; omega⟩
      simp only [slices_IndexFunc_int64__impl_areWords_1.l0, notW_eq, rd_lt hlt, h, Option.bind_some, Bool.not_false, if_true]
      simp only [if_pos (show (i : Int) < (l.length : Int) by omega), if_pos (show 0 ≤ (i : Int) by omega)]
      exact ev_now rfl
    · obtain ⟨r, h1, h2⟩ := ih (i + 1) (by omega) (by omega)
      refine ⟨r, ev_succ ?_, by rw [h2]; simp only [List.all_cons, h, Bool.true_and]⟩
      simp only [slices_IndexFunc_int64__impl_areWords_1.l0, notW_eq, rd_lt hlt, h, Option.bind_some, Bool.not_true, Bool.false_eq_true, if_false]
      simp only [if_pos (show (i : Int) < (l.length : Int) by omega), if_pos (show 0 ≤ (i : Int) by omega), wrap_succ hlt hl]
      exact h1
theorem areWords_ev (l : List Int) (hl : l.length ≤ 140737488351232) : Ev (fun k => impl_areWords.f k l) (l.all isW) := by
  unfold impl_areWords.f slices_ContainsFunc_int64__impl_areWords_1.f slices_IndexFunc_int64__impl_areWords_1.f
  obtain ⟨r, h1, h2⟩ := idx_loop l hl l.length 0 (by omega) (by omega)
  refine ev_bind (ev_bind h1 (ev_now rfl)) (ev_now ?_)
  rw [h2]; simp
end Go.Proofs.Ytaahjfjpbilfnaa.WordsD
