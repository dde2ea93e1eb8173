/- Marking and looking at marked blocks, as the laws do. -/
import Derived.Test.YtmcljallamhccaaPBx1
import Derived.Test.YtmcljallamhccaaPBx2
import Derived.Test.YtmcljallamhccaaPBx1
import Derived.Test.YtmcljallamhccaaBBlk
namespace Go.Proofs.Ytmcljallamhccaa.BlkB
open Go.RowKit Go.Proofs.Ytmcljallamhccaa.PB Go.Proofs.YtmcljallamhccaaW.PrintWords Go.Proofs.Ytmcljallamhccaa.Lem Go.Proofs.Ytmcljallamhccaa.SmallB
set_option linter.unusedVariables false
set_option linter.unusedSimpArgs false

def markL (a : Int) (n : Nat) : List B := (List.range n).map fun i : Nat => (⟨a + 2 * i, a + 2 * i + 1⟩ : B)
theorem markL_length (a : Int) (n : Nat) : (markL a n).length = n := by simp [markL]
theorem markL_get (a : Int) (n i : Nat) (h : i < (markL a n).length) : (markL a n)[i] = ⟨a + 2 * i, a + 2 * i + 1⟩ := by simp [markL]
theorem mark_loop (a : Int) (ha : 0 ≤ a) (ha2 : a ≤ 1125899906842624) (n : Nat) (hn : n ≤ 140737488351232) : ∀ (d i : Nat) (x : List B), n - i = d → i ≤ n → x.length = n → x.take i = (markL a n).take i → Ev (fun k => laws_markBlockS.l0 k x (a + 2 * i) (i : Int)) (a + 2 * n, markL a n) := by
  intro d
  induction d with
  | zero =>
    intro i x hd hi hx ht
    refine ev_succ ?_
    simp only [laws_markBlockS.l0]
    simp only [if_neg (show ¬ (i : Int) < (x.length : Int) by omega)]
    have e : i = n := by omega
    subst e
    rw [List.take_of_length_le (by omega), List.take_of_length_le (by rw [markL_length]; omega)] at ht
    exact ev_now (by rw [ht])
  | succ d ih =>
    intro i x hd hi hx ht
    refine ev_succ ?_
    simp only [laws_markBlockS.l0, Option.bind_some]
    have hlt : i < x.length := by omega
    have hlt2 : ∀ v, i < (x.set i v).length := fun v => by rw [List.length_set]; exact hlt
    simp only [if_pos (show (i : Int) < (x.length : Int) by omega), if_pos (show 0 ≤ (i : Int) by omega), Int.toNat_natCast, rdB (hlt2 _), List.getElem_set_self, List.set_set, wrap_succ (show i < n by omega) hn]
    rw [wrap_id (show -9223372036854775808 ≤ a + 2 * (i : Int) + 1 by omega) (by omega), wrap_id (show -9223372036854775808 ≤ a + 2 * (i : Int) + 1 + 1 by omega) (by omega), show a + 2 * (i : Int) + 1 + 1 = a + 2 * ((i + 1 : Nat) : Int) by omega]
    exact ih (i + 1) _ (by omega) (by omega) (by rw [List.length_set]; exact hx) (take_succ_set (markL a n) x i _ (by rw [markL_length]; omega) (by rw [markL_length]; exact hx) ht (by rw [markL_get]))
theorem mark_ev (l : List B) (a : Int) (ha : 0 ≤ a) (ha2 : a ≤ 1125899906842624) (hl : l.length ≤ 140737488351232) : Ev (fun k => laws_markBlockS.f k l a) (a + 2 * l.length, markL a l.length) := by
  unfold laws_markBlockS.f
  have h := mark_loop a ha ha2 l.length hl l.length 0 l (by omega) (by omega) rfl (by simp)
  simpa using h
theorem held_loop (a : Int) (ha : 0 ≤ a) (ha2 : a ≤ 1125899906842624) (n : Nat) (hn : n ≤ 140737488351232) : ∀ (d i : Nat), n - i = d → i ≤ n → Ev (fun k => laws_heldBlockS.l0 k (markL a n) (a + 2 * i) (i : Int)) (a + 2 * n) := by
  intro d
  induction d with
  | zero =>
    intro i hd hi
    refine ev_succ ?_
    simp only [laws_heldBlockS.l0]
    simp only [markL_length, if_neg (show ¬ (i : Int) < (n : Int) by omega)]
    exact ev_now (by omega)
  | succ d ih =>
    intro i hd hi
    refine ev_succ ?_
    simp only [laws_heldBlockS.l0]
    have hlt : i < (markL a n).length := by rw [markL_length]; omega
    simp only [markL_length, if_pos (show (i : Int) < (n : Int) by omega), if_pos (show 0 ≤ (i : Int) by omega), rdB hlt, markL_get, if_true, wrap_succ (show i < n by omega) hn]
    rw [wrap_id (show -9223372036854775808 ≤ a + 2 * (i : Int) + 1 by omega) (by omega), wrap_id (show -9223372036854775808 ≤ a + 2 * (i : Int) + 1 + 1 by omega) (by omega), show a + 2 * (i : Int) + 1 + 1 = a + 2 * ((i + 1 : Nat) : Int) by omega]
    simp only [if_true]
    exact ih (i + 1) (by omega) (by omega)
theorem held_ev (n : Nat) (a : Int) (ha : 0 ≤ a) (ha2 : a ≤ 1125899906842624) (hl : n ≤ 140737488351232) : Ev (fun k => laws_heldBlockS.f k (markL a n) a) (a + 2 * n) := by
  unfold laws_heldBlockS.f
  have h := held_loop a ha ha2 n hl n 0 (by omega) (by omega)
  simpa using h
theorem markRes_ev (x y : Int) (l : List B) (hl : l.length ≤ 140737488351232) : Ev (fun k => laws_markBlocksResult.f k x y l 1) (1 + 2 * l.length, markL 1 l.length) := by
  unfold laws_markBlocksResult.f
  exact ev_bind (mark_ev l 1 (by omega) (by omega) hl) (ev_now rfl)
theorem heldRes_ev (x y : Int) (n : Nat) (hl : n ≤ 140737488351232) : Ev (fun k => laws_heldBlocksResult.f k x y (markL 1 n) 1) (1 + 2 * n) := by
  unfold laws_heldBlocksResult.f
  refine ev_bind (held_ev n 1 (by omega) (by omega) hl) ?_
  simp only [if_neg (show ¬ (1 : Int) + 2 * n < 0 by omega)]
  exact ev_now rfl
theorem eqRes_ev (x y : Int) (l : List B) (hl : l.length ≤ 140737488351232) : Ev (fun k => laws_eqBlocksResult.f k x y l x y l) true := by
  unfold laws_eqBlocksResult.f
  simp only [if_true]
  refine ev_bind (eq_ev l hl) ?_
  simp only [if_true]
  exact ev_now rfl
end Go.Proofs.Ytmcljallamhccaa.BlkB
