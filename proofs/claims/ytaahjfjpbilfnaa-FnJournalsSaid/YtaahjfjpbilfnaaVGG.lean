/- The sum of a record, and the record as it stands. -/
import Derived.Test.YtaahjfjpbilfnaaVGF
namespace Go.Proofs.Ytaahjfjpbilfnaa.V
open Go
set_option linter.unusedVariables false
set_option linter.unusedSimpArgs false
set_option maxRecDepth 100000
/-- What has numbers can be read. -/
theorem Rep.exI {H : Hp} {a : Option Addr} {n : Nat} {l : List Int} (h : Rep EI 1 H a n l) (hl : l ≠ []) : Ex H a := by
  obtain ⟨i, o, rfl, h2⟩ := h.2 hl
  obtain ⟨x, r, rfl⟩ := List.exists_cons_of_ne_nil hl
  have h0 := h2 0 x rfl
  intro A e
  cases e
  simp only [EI, Nat.zero_mul, Nat.add_zero, rd] at h0
  cases hb : H.blk i with
  | none => rw [hb] at h0; cases h0
  | some b =>
    rw [hb, Option.bind_some] at h0
    have := (List.getElem?_eq_some_iff.1 h0).1
    exact ⟨rfl, b, rfl, Nat.le_of_lt this⟩
/-- A part of a slice. -/
theorem Rep.cut {H : Hp} {b n : Nat} {l : List Int} (h : Rep EI 1 H (some ⟨b, 0, none⟩) n l) (i m : Nat) (hm : i + m ≤ l.length) : Rep EI 1 H (some ⟨b, i, none⟩) m ((l.drop i).take m) := by
  refine ⟨by rw [List.length_take, List.length_drop]; omega, fun _ => ⟨b, i, rfl, fun j x hx => ?_⟩⟩
  rw [List.getElem?_take] at hx
  by_cases hj : j < m
  · rw [if_pos hj, List.getElem?_drop] at hx
    obtain ⟨_, _, e, h2⟩ := h.2 (by intro e; rw [e] at hx; simp at hx)
    cases e
    have := h2 _ x hx
    simp only [Nat.zero_add] at this
    rw [Nat.add_mul, Nat.mul_one] at this
    exact this
  · rw [if_neg hj] at hx; cases hx
/-- One number, and numbers behind it. -/
theorem app_front {lo : Nat} {H : Hp} {a : Option Addr} {n : Nat} {l : List Int} (pre : List Int) (hp : pre ≠ []) (hp9 : pre.length ≤ 9) (h : Rep EI 1 H a n l) (hx : Ex H a) (hn : 0 < n) (hn9 : n ≤ 100) (hlo : lo ≤ H.length) :
    ∃ H2, vappend 1 8 lo (H ++ [some ⟨vI pre, true, false⟩]) (.slice (some ⟨H.length, 0, none⟩) pre.length 1) (.slice a n (sg a 1)) = some (.slice (some ⟨H.length + 1, 0, none⟩) (pre.length + n) 1, H2) ∧ Fn H H2 ∧ H2.length = H.length + 2 ∧ WB H.length H2 (H.length + 1) ∧ Rep EI 1 H2 (some ⟨H.length + 1, 0, none⟩) (pre.length + n) (pre ++ l) := by
  have hc := (h.fnI (Fr.app (l := [some ⟨vI pre, true, false⟩]))).cellsI (hx.fn Fr.app)
  have hb : Hp.blk (H ++ [some ⟨vI pre, true, false⟩]) H.length = some ⟨vI pre, true, false⟩ := blk0
  have hp0 : pre.length ≠ 0 := fun e => hp (List.length_eq_zero_iff.1 e)
  obtain ⟨H2, ha, hb2, hl2, hf2, _⟩ := app_own (st := 1) (by_ := 8) (lo := lo) (i := H.length) (n := pre.length) (m := n) (L := vI pre) (M := vI l) (y := .slice a n (sg a 1)) hb (by rw [vI_len, Nat.mul_one]) (fun e => absurd e hp0) hlo rfl hc hn (fits_small (by omega))
  simp only [List.length_append, List.length_cons, List.length_nil, Nat.zero_add] at ha hb2 hl2
  refine ⟨H2, ha, hf2 H Fr.app (Nat.le_refl _), hl2, ⟨by omega, _, hb2, rfl⟩, ?_⟩
  have := vI_rep (l := pre ++ l) hb2 (by rw [vI_app])
  rw [List.length_append, ← h.1] at this
  exact this
theorem l2Sum_c (d lo : Nat) (H : Hp) {a : Option Addr} {n : Nat} {l : List Int} (k : Int) (h : Rep EI 1 H a n l) (hx : Ex H a) (hn : 0 < n) (hn9 : n ≤ 100) : vcall env (d + 2) 99 [.int .i64 k, .slice a n (sg a 1)] lo H = some (.int .i64 (sumW (k :: l) 9), H) := by
  obtain ⟨H2, ha, f2, l2, w2, r2⟩ := app_front (lo := H.length) [k] (by simp) (by simp) h hx hn hn9 (Nat.le_refl _)
  have c := specSum_c d H.length H2 _ _ _ r2 (by unfold Sm; simp; omega)
  simp only [vI, List.map_cons, List.map_nil, List.length_cons, List.length_nil, Nat.zero_add, sgs, List.cons_append, List.nil_append] at ha c
  rw [call_eq find99 _ _ _ rfl]
  simp -implicitDefEqProofs only [v99, VMs, noRef, noRef1, isRef, List.all_cons, List.all_nil, vop, VOp.still, VOp.app, VOp.plain, allP, lof, evs, start, asI, vbin, vcells, ntup, setAll, vfill, vress, vres, tup, Nat.reduceEqDiff, ↓reduceIte, Nat.reduceAdd, Nat.reduceMul, Nat.reduceLeDiff, reduceCtorEq, Nat.reduceBEq, ha, c]
theorem stands_c (d lo : Nat) (H : Hp) {a : Option Addr} {n : Nat} {l : List Int} (k : Int) (h : Rep EI 1 H a n l) (hx : Ex H a) (hn : 0 < n) (hn9 : n ≤ 100) :
    ∃ i H', vcall env (d + 2) 100 [.int .i64 k, .slice a n (sg a 1)] lo H = some (.slice (some ⟨i, 0, none⟩) (2 + n) 1, H') ∧ Fn H H' ∧ Rep EI 1 H' (some ⟨i, 0, none⟩) (2 + n) ((n : Int) :: sumW (k :: l) 9 :: l) := by
  obtain ⟨H2, ha, f2, l2, w2, r2⟩ := app_front (lo := H.length) [k] (by simp) (by simp) h hx hn hn9 (Nat.le_refl _)
  have c := implSum_c d H.length H2 _ _ _ r2 (by unfold Sm; simp; omega)
  obtain ⟨H3, ha3, f3, l3, w3, r3⟩ := app_front (lo := H.length) [(n : Int), sumW (k :: l) 9] (by simp) (by simp) (h.fnI f2) (hx.fn f2) hn hn9 f2.len
  simp only [vI, List.map_cons, List.map_nil, List.length_cons, List.length_nil, Nat.zero_add, sgs, List.cons_append, List.nil_append, Nat.reduceAdd] at ha c ha3 r3
  refine ⟨H2.length + 1, H3, ?_, f2.trans f3, r3⟩
  rw [call_eq find100 _ _ _ rfl]
  simp -implicitDefEqProofs only [v100, VMs, noRef, noRef1, isRef, List.all_cons, List.all_nil, vop, VOp.still, VOp.app, VOp.plain, allP, lof, evs, start, asI, vbin, vcells, ntup, setAll, vfill, vress, vres, tup, Nat.reduceEqDiff, ↓reduceIte, Nat.reduceAdd, Nat.reduceMul, Nat.reduceLeDiff, reduceCtorEq, slen, Nat.reduceBEq, ha, c, ha3]
end Go.Proofs.Ytaahjfjpbilfnaa.V
