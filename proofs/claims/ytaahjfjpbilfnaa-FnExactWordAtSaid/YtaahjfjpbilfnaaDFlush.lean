/- What a disk reads as behind all that was put: the program's fold over the puts and the reference's last put are one list. -/
import Derived.Test.YtaahjfjpbilfnaaPDx4
import Derived.Test.YtaahjfjpbilfnaaPDx6
import Derived.Test.YtaahjfjpbilfnaaPDx4
import Derived.Test.YtaahjfjpbilfnaaDDisk
namespace Go.Proofs.Ytaahjfjpbilfnaa.DiskD
open Go.RowKit Go.Proofs.Ytaahjfjpbilfnaa.PD Go.Proofs.YtaahjfjpbilfnaaW.PrintWords Go.Proofs.Ytaahjfjpbilfnaa.Lem Go.Proofs.Ytaahjfjpbilfnaa.SmallD Go.Proofs.Ytaahjfjpbilfnaa.WordsD
set_option linter.unusedVariables false
set_option linter.unusedSimpArgs false

def fl : List Int → List P → List Int
  | ws, [] => ws
  | ws, p :: r => fl (ws.set p.f0.toNat p.f1) r
theorem fl_length : ∀ (ps : List P) (ws : List Int), (fl ws ps).length = ws.length
  | [], ws => rfl
  | p :: r, ws => by rw [fl, fl_length r]; exact List.length_set
theorem fl_append : ∀ (ps qs : List P) (ws : List Int), fl ws (ps ++ qs) = fl (fl ws ps) qs
  | [], qs, ws => rfl
  | p :: r, qs, ws => by rw [List.cons_append, fl, fl_append r qs, fl]
theorem clone_ints (l : List Int) (h : l.length < 17592186044416) : slices_Clone_int64.f l = some l := by
  unfold slices_Clone_int64.f
  simp only [Option.bind_some, List.length_nil, Nat.zero_add, if_pos h, List.nil_append]
theorem flush_loop (ps : List P) (hp : ps.length ≤ 140737488351232) : ∀ (d i : Nat) (ws : List Int), ps.length - i = d → i ≤ ps.length → (∀ p ∈ ps, 0 ≤ p.f0 ∧ p.f0 < ws.length) → Ev (fun k => impl_flushed.l0 k ws ps (ps.length : Int) (i : Int)) (fl ws (ps.drop i)) := by
  intro d
  induction d with
  | zero =>
    intro i ws hd hi hb
    refine ev_succ ?_
    simp only [impl_flushed.l0]
    simp only [if_neg (show ¬ (i : Int) < (ps.length : Int) by omega)]
    exact ev_now (by rw [List.drop_of_length_le (by omega)]; rfl)
  | succ d ih =>
    intro i ws hd hi hb
    have hlt : i < ps.length := by omega
    have b := hb _ (List.getElem_mem hlt)
    rw [List.drop_eq_getElem_cons hlt, fl]
    refine ev_succ ?_
    simp only [impl_flushed.l0, rdP hlt]
    simp only [if_pos (show (i : Int) < (ps.length : Int) by omega), if_pos (show 0 ≤ (i : Int) by omega), if_pos b.1, if_pos b.2, wrap_succ hlt hp]
    exact ih (i + 1) _ (by omega) (by omega) (by intro p hp'; rw [List.length_set]; exact hb p hp')
theorem flushed_ev (ws : List Int) (ps : List P) (h : ws.length ≤ 1048576) (hp : ps.length ≤ 140737488351232) (hb : ∀ p ∈ ps, 0 ≤ p.f0 ∧ p.f0 < ws.length) : Ev (fun k => impl_flushed.f k ws ps) (fl ws ps) := by
  unfold impl_flushed.f
  refine ev_bind0 (clone_ints ws (by omega)) ?_
  have := flush_loop ps hp ps.length 0 ws (by omega) (by omega) hb
  rwa [List.drop_zero] at this
theorem Fine.bound {ws : List Int} {ps : List P} (h : Fine ws ps) : ∀ p ∈ ps, 0 ≤ p.f0 ∧ p.f0 < ws.length := by
  intro p hp
  have := h.put hp
  have := h.len
  omega
theorem flush_fine {ws : List Int} {ps : List P} (h : Fine ws ps) : Ev (fun k => impl_flushed.f k ws ps) (fl ws ps) :=
  flushed_ev ws ps (by have := h.len; omega) (by have := h.many; omega) h.bound
theorem at_loop (ws : List Int) (ps : List P) (a : Nat) (ha : a < ws.length) (hp : ps.length ≤ 140737488351232) (hb : ∀ p ∈ ps, 0 ≤ p.f0 ∧ p.f0 < ws.length) : ∀ i, i ≤ ps.length → Ev (fun k => spec_l1At.l0 k ⟨ws, ps⟩ (a : Int) ((i : Int) - 1)) (rd (fl ws (ps.take i)) (a : Int)) := by
  intro i
  induction i with
  | zero =>
    intro hi
    refine ev_succ ?_
    simp only [spec_l1At.l0, rdD]
    simp only [if_neg (show ¬ ((0 : Nat) : Int) - 1 ≥ 0 by omega), if_pos (show 0 ≤ (a : Int) by omega), if_pos (show (a : Int) < (ws.length : Int) by omega)]
    exact ev_now (by rw [List.take_zero, fl])
  | succ i ih =>
    intro hi
    have hlt : i < ps.length := by omega
    have b := hb _ (List.getElem_mem hlt)
    have ih' := ih (by omega)
    have e : ps.take (i + 1) = ps.take i ++ [ps[i]] := by rw [List.take_add_one, List.getElem?_eq_getElem hlt]; rfl
    rw [e, fl_append, fl, fl]
    refine ev_succ ?_
    have e1 : ((i + 1 : Nat) : Int) - 1 = (i : Int) := by omega
    simp only [spec_l1At.l0, rdD, e1, rdP hlt]
    simp only [if_pos (show (i : Int) ≥ 0 by omega), if_pos (show 0 ≤ (i : Int) by omega), if_pos (show (i : Int) < (ps.length : Int) by omega), wrap_id (show -9223372036854775808 ≤ (i : Int) - 1 by omega) (by omega)]
    by_cases c : ps[i].f0 = (a : Int)
    · simp only [if_pos c]
      refine ev_now ?_
      rw [c, Int.toNat_natCast, rd_lt (by rw [List.length_set, fl_length]; exact ha), List.getElem_set_self]
    · simp only [if_neg c]
      have e2 : rd ((fl ws (ps.take i)).set ps[i].f0.toNat ps[i].f1) (a : Int) = rd (fl ws (ps.take i)) (a : Int) := by
        rw [rd_lt (by rw [List.length_set, fl_length]; exact ha), rd_lt (by rw [fl_length]; exact ha)]
        exact List.getElem_set_ne (by omega) _
      rw [e2]
      exact ih'
theorem at_ev (ws : List Int) (ps : List P) (a : Nat) (ha : a < ws.length) (hp : ps.length ≤ 140737488351232) (hb : ∀ p ∈ ps, 0 ≤ p.f0 ∧ p.f0 < ws.length) : Ev (fun k => spec_l1At.f k ⟨ws, ps⟩ (a : Int)) (rd (fl ws ps) (a : Int)) := by
  unfold spec_l1At.f
  simp only [rdD]
  rw [wrap_id (show -9223372036854775808 ≤ (ps.length : Int) - 1 by omega) (by omega)]
  have := at_loop ws ps a ha hp hb ps.length (by omega)
  rwa [List.take_of_length_le (by omega)] at this
theorem all_loop {ws : List Int} {ps : List P} (hf : Fine ws ps) : ∀ (d i : Nat), 64 - i = d → i ≤ 64 → Ev (fun k => spec_l1All.l0 k ⟨ws, ps⟩ ((fl ws ps).take i) (i : Int)) (fl ws ps) := by
  have hlen : (fl ws ps).length = 64 := by rw [fl_length, hf.len]
  intro d
  induction d with
  | zero =>
    intro i hd hi
    refine ev_succ ?_
    simp only [spec_l1All.l0]
    simp only [if_neg (show ¬ (i : Int) < 64 by omega)]
    exact ev_now (List.take_of_length_le (by omega))
  | succ d ih =>
    intro i hd hi
    have hlt : i < (fl ws ps).length := by omega
    refine ev_succ ?_
    simp only [spec_l1All.l0]
    simp only [if_pos (show (i : Int) < 64 by omega)]
    refine ev_bind (at_ev ws ps i (by have := hf.len; omega) (by have := hf.many; omega) hf.bound) ?_
    simp only [if_pos (show ((fl ws ps).take i).length < 17592186044416 by rw [List.length_take]; omega), wrap_succ (show i < 64 by omega) (by omega)]
    have e : (fl ws ps).take i ++ [rd (fl ws ps) (i : Int)] = (fl ws ps).take (i + 1) := by rw [rd_lt hlt, List.take_add_one, List.getElem?_eq_getElem hlt]; rfl
    rw [e]
    exact ih (i + 1) (by omega) (by omega)
theorem all_ev {ws : List Int} {ps : List P} (hf : Fine ws ps) : Ev (fun k => spec_l1All.f k ⟨ws, ps⟩) (fl ws ps) := by
  unfold spec_l1All.f
  exact all_loop hf 64 0 (by omega) (by omega)
theorem isP_cast {a : Int} (h : isP a = true) : ∃ n : Nat, a = (n : Int) ∧ n < 64 := by
  obtain ⟨h1, h2⟩ := inB_iff.1 h
  exact ⟨a.toNat, by omega, by omega⟩
end Go.Proofs.Ytaahjfjpbilfnaa.DiskD
