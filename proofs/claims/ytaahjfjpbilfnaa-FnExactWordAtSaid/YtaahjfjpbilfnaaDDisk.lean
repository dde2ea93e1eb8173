/- Disks as the laws copy, compare, mark and look at them; what is wrong with a disk: the program's answer and the reference's are one. -/
import Derived.Test.YtaahjfjpbilfnaaPDx1
import Derived.Test.YtaahjfjpbilfnaaPDx2
import Derived.Test.YtaahjfjpbilfnaaPDx2
import Derived.Test.YtaahjfjpbilfnaaPDx3
import Derived.Test.YtaahjfjpbilfnaaPDx1
import Derived.Test.YtaahjfjpbilfnaaDWords
import Derived.Test.YtaahjfjpbilfnaaDInts
import Derived.Test.YtaahjfjpbilfnaaDPut
namespace Go.Proofs.Ytaahjfjpbilfnaa.DiskD
open Go.RowKit Go.Proofs.Ytaahjfjpbilfnaa.PD Go.Proofs.YtaahjfjpbilfnaaW.PrintWords Go.Proofs.Ytaahjfjpbilfnaa.Lem Go.Proofs.Ytaahjfjpbilfnaa.SmallD Go.Proofs.Ytaahjfjpbilfnaa.WordsD
set_option linter.unusedVariables false
set_option linter.unusedSimpArgs false
abbrev LP := S115
abbrev P := S53
abbrev D := S30

theorem rdP {l : List P} {i : Nat} (h : i < l.length) : rd_T53 l (i : Int) = l[i] := PutD.rdB h
theorem rdD (d : D) : rd_T30 [d] 0 = d := by cases d; simp [rd_T30]
theorem to_ev (ws : List Int) (ps : List LP) (h : ws.length ≤ 1048576) (h2 : ps.length ≤ 1048576) : Ev (fun k => laws_toDisk.f k ws ps) (ws, ps.map PutD.toB) := by
  unfold laws_toDisk.f
  exact ev_bind (IntsD.to_ev ws (by omega)) (ev_bind (PutD.to_ev ps h2) (ev_now rfl))
theorem eq_ev (ws : List Int) (ps : List P) (h : ws.length ≤ 140737488351232) (h2 : ps.length ≤ 140737488351232) : Ev (fun k => laws_eqDisk.f k ws ps ws ps) true := by
  unfold laws_eqDisk.f
  refine ev_bind (IntsD.eq_ev ws h) ?_
  simp only [if_true]
  refine ev_bind (PutD.eq_ev ps h2) ?_
  simp only [if_true]
  exact ev_now rfl
theorem sz_ints (l : List Int) (a : Int) (ha : 0 ≤ a) (ha2 : a ≤ 1048576) (hl : l.length ≤ 140737488351232) : laws_szInt64S.f l a = some (if a - l.length < 0 then -1 else a - l.length) := by
  unfold laws_szInt64S.f
  rw [wrap_id (by omega) (by omega)]
  split <;> rfl
theorem sz_ok (ws : List Int) (ps : List LP) (h : ws.length ≤ 140737488351232) (h2 : ps.length ≤ 140737488351232) : ∃ t, laws_szDisk.f ws ps 1048576 = some t ∧ (¬ t < 0 → ws.length ≤ 1048576 ∧ ps.length ≤ 1048576) := by
  unfold laws_szDisk.f
  rw [sz_ints ws 1048576 (by omega) (by omega) h]
  simp only [Option.bind_some]
  by_cases c : (1048576 : Int) - ws.length < 0
  · exact ⟨-1, by simp only [if_pos c]; rfl, by omega⟩
  · simp only [if_neg c]
    rw [PutD.sz_eq ps _ (by omega) (by omega) h2]
    simp only [Option.bind_some]
    by_cases c2 : (1048576 : Int) - ws.length - ps.length < 0
    · exact ⟨-1, by simp only [if_pos c2]; rfl, by omega⟩
    · refine ⟨(1048576 : Int) - ws.length - ps.length, by simp only [if_neg c2], by omega⟩

def isP (n : Int) : Bool := inB n 0 63
def isPut (p : P) : Bool := isP p.f0 && isW p.f1
theorem l1Place_eq (a : Int) : spec_l1Place.f a = some (isP a) := by unfold spec_l1Place.f; rw [l1In_eq]; rfl
theorem isPlace_eq (a : Int) : impl_isPlace.f a = some (isP a) := by unfold impl_isPlace.f; rw [within_eq]; rfl
theorem isWord_eq (a : Int) : impl_isWord.f a = some (isW a) := by unfold impl_isWord.f; rw [within_eq]; rfl
theorem notP_eq (a b : Int) : impl_DiskFault_1.f a b = some (!(isP a && isW b)) := by
  unfold impl_DiskFault_1.f
  rw [isPlace_eq, isWord_eq]
  cases h : isP a <;> simp
def df (ws : List Int) (ps : List P) : Int := if (ws.length : Int) = 64 then (if (ps.length : Int) > 200 then 2 else (if ws.all isW = true then (if ps.all isPut = true then 0 else 3) else 3)) else 1
theorem idx_loop (l : List P) (hl : l.length ≤ 140737488351232) : ∀ (d i : Nat), l.length - i = d → i ≤ l.length → ∃ r : Int, Ev (fun k => slices_IndexFunc_impl_Put__impl_DiskFault_1.l0 k l (l.length : Int) (i : Int)) r ∧ decide (r ≥ 0) = !((l.drop i).all isPut) := by
  intro d
  induction d with
  | zero =>
    intro i hd hi
    refine ⟨-1, ev_succ ?_, by rw [List.drop_of_length_le (by omega)]; rfl⟩
    simp only [slices_IndexFunc_impl_Put__impl_DiskFault_1.l0]
    simp only [if_neg (show ¬ (i : Int) < (l.length : Int) by omega)]
    exact ev_now rfl
  | succ d ih =>
    intro i hd hi
    have hlt : i < l.length := by omega
    rw [List.drop_eq_getElem_cons hlt]
    cases h : isPut l[i]
    · have h' : (isP l[i].f0 && isW l[i].f1) = false := h
      refine ⟨i, ev_succ ?_, by simp only [List.all_cons, h, Bool.false_and, Bool.not_false, decide_eq_true_eq]; omega⟩
      simp only [slices_IndexFunc_impl_Put__impl_DiskFault_1.l0, notP_eq, rdP hlt, h', Option.bind_some, Bool.not_false, if_true]
      simp only [if_pos (show (i : Int) < (l.length : Int) by omega), if_pos (show 0 ≤ (i : Int) by omega)]
      exact ev_now rfl
    · have h' : (isP l[i].f0 && isW l[i].f1) = true := h
      obtain ⟨r, h1, h2⟩ := ih (i + 1) (by omega) (by omega)
      refine ⟨r, ev_succ ?_, by rw [h2]; simp only [List.all_cons, h, Bool.true_and]⟩
      simp only [slices_IndexFunc_impl_Put__impl_DiskFault_1.l0, notP_eq, rdP hlt, h', Option.bind_some, Bool.not_true, Bool.false_eq_true, if_false]
      simp only [if_pos (show (i : Int) < (l.length : Int) by omega), if_pos (show 0 ≤ (i : Int) by omega), wrap_succ hlt hl]
      exact h1
theorem impl_ev (ws : List Int) (ps : List P) (h : ws.length ≤ 140737488351232) (h2 : ps.length ≤ 140737488351232) : Ev (fun k => impl_DiskFault.f k ws ps) (df ws ps) := by
  unfold impl_DiskFault.f df
  by_cases c : (ws.length : Int) = 64
  · simp only [if_pos c]
    by_cases c2 : (ps.length : Int) > 200
    · simp only [if_pos c2]; exact ev_now rfl
    · simp only [if_neg c2]
      refine ev_bind (areWords_ev ws h) ?_
      by_cases c3 : ws.all isW = true
      · simp only [if_pos c3]
        unfold slices_ContainsFunc_impl_Put__impl_DiskFault_1.f slices_IndexFunc_impl_Put__impl_DiskFault_1.f
        obtain ⟨r, h1, h3⟩ := idx_loop ps h2 ps.length 0 (by omega) (by omega)
        rw [List.drop_zero] at h3
        refine ev_bind (ev_bind h1 (ev_now rfl)) ?_
        rw [h3]
        cases ps.all isPut
        · exact ev_now rfl
        · exact ev_now rfl
      · simp only [if_neg c3]; exact ev_now rfl
  · simp only [if_neg c]; exact ev_now rfl
theorem fault_puts (ws : List Int) (ps : List P) (h : ws.length ≤ 140737488351232) (h2 : ps.length ≤ 140737488351232) : ∀ (d i : Nat), ps.length - i = d → i ≤ ps.length → Ev (fun k => spec_l1Fault.l1 k ⟨ws, ps⟩ (i : Int)) (if (ps.drop i).all isPut = true then 0 else 3) := by
  intro d
  induction d with
  | zero =>
    intro i hd hi
    refine ev_succ ?_
    simp only [spec_l1Fault.l1, rdD]
    simp only [if_neg (show ¬ (i : Int) < (ps.length : Int) by omega)]
    exact ev_now (by rw [List.drop_of_length_le (by omega)]; rfl)
  | succ d ih =>
    intro i hd hi
    have hlt : i < ps.length := by omega
    have ih' := ih (i + 1) (by omega) (by omega)
    have e : (ps.drop i).all isPut = (isP ps[i].f0 && isW ps[i].f1 && (ps.drop (i + 1)).all isPut) := by rw [List.drop_eq_getElem_cons hlt]; rfl
    rw [e]
    refine ev_succ ?_
    simp only [spec_l1Fault.l1, rdD, rdP hlt, l1Place_eq, l1Word_eq, Option.bind_some]
    simp only [if_pos (show (i : Int) < (ps.length : Int) by omega), if_pos (show 0 ≤ (i : Int) by omega), wrap_succ hlt h2]
    cases h3 : isP ps[i].f0
    · simp only [Bool.false_and, Bool.false_eq_true, if_false]; exact ev_now rfl
    · cases h4 : isW ps[i].f1
      · simp only [Bool.false_and, Bool.true_and, Bool.false_eq_true, if_false, if_true]; exact ev_now rfl
      · simp only [Bool.true_and, if_true]; exact ih'
theorem fault_words (ws : List Int) (ps : List P) (h : ws.length ≤ 140737488351232) (h2 : ps.length ≤ 140737488351232) : ∀ (d i : Nat), ws.length - i = d → i ≤ ws.length → Ev (fun k => spec_l1Fault.l0 k ⟨ws, ps⟩ (i : Int)) (if (ws.drop i).all isW = true then (if ps.all isPut = true then 0 else 3) else 3) := by
  intro d
  induction d with
  | zero =>
    intro i hd hi
    refine ev_succ ?_
    simp only [spec_l1Fault.l0, rdD]
    simp only [if_neg (show ¬ (i : Int) < (ws.length : Int) by omega)]
    have := fault_puts ws ps h h2 ps.length 0 (by omega) (by omega)
    rw [List.drop_of_length_le (by omega)]
    exact this
  | succ d ih =>
    intro i hd hi
    have hlt : i < ws.length := by omega
    have ih' := ih (i + 1) (by omega) (by omega)
    have e : (ws.drop i).all isW = (isW ws[i] && (ws.drop (i + 1)).all isW) := by rw [List.drop_eq_getElem_cons hlt]; rfl
    rw [e]
    refine ev_succ ?_
    simp only [spec_l1Fault.l0, rdD, rd_lt hlt, l1Word_eq, Option.bind_some]
    simp only [if_pos (show (i : Int) < (ws.length : Int) by omega), if_pos (show 0 ≤ (i : Int) by omega), wrap_succ hlt h]
    cases h3 : isW ws[i]
    · simp only [Bool.false_and, Bool.false_eq_true, if_false]; exact ev_now rfl
    · simp only [Bool.true_and, if_true]; exact ih'
theorem l1Fault_ev (ws : List Int) (ps : List P) (h : ws.length ≤ 140737488351232) (h2 : ps.length ≤ 140737488351232) : Ev (fun k => spec_l1Fault.f k ⟨ws, ps⟩) (df ws ps) := by
  unfold spec_l1Fault.f df
  simp only [rdD]
  by_cases c : (ws.length : Int) = 64
  · simp only [if_pos c]
    by_cases c2 : (ps.length : Int) > 200
    · simp only [if_pos c2]; exact ev_now rfl
    · simp only [if_neg c2]
      exact fault_words ws ps h h2 ws.length 0 (by omega) (by omega)
  · simp only [if_neg c]; exact ev_now rfl
theorem spec_ev (ws : List Int) (ps : List P) (h : ws.length ≤ 140737488351232) (h2 : ps.length ≤ 140737488351232) : Ev (fun k => spec_DiskFault.f k ws ps) (df ws ps) := by
  unfold spec_DiskFault.f
  exact ev_bind (l1Fault_ev ws ps h h2) (ev_now rfl)
structure Fine (ws : List Int) (ps : List P) : Prop where
  len : ws.length = 64
  many : ps.length ≤ 200
  words : ws.all isW = true
  puts : ps.all isPut = true
theorem fine {ws : List Int} {ps : List P} (h : df ws ps = 0) : Fine ws ps := by
  unfold df at h
  by_cases c : (ws.length : Int) = 64
  · rw [if_pos c] at h
    by_cases c2 : (ps.length : Int) > 200
    · rw [if_pos c2] at h; omega
    · rw [if_neg c2] at h
      by_cases c3 : ws.all isW = true
      · rw [if_pos c3] at h
        by_cases c4 : ps.all isPut = true
        · exact ⟨by omega, by omega, c3, c4⟩
        · rw [if_neg c4] at h; omega
      · rw [if_neg c3] at h; omega
  · rw [if_neg c] at h; omega
theorem Fine.df {ws : List Int} {ps : List P} (h : Fine ws ps) : DiskD.df ws ps = 0 := by
  unfold DiskD.df
  rw [if_pos (by have := h.len; omega), if_neg (by have := h.many; omega), if_pos h.words, if_pos h.puts]
theorem Fine.put {ws : List Int} {ps : List P} (h : Fine ws ps) {p : P} (hp : p ∈ ps) : 0 ≤ p.f0 ∧ p.f0 ≤ 63 := by
  have := List.all_eq_true.1 h.puts p hp
  simp only [isPut, Bool.and_eq_true] at this
  exact inB_iff.1 this.1
end Go.Proofs.Ytaahjfjpbilfnaa.DiskD
