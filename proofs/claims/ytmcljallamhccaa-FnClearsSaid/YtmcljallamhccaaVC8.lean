/- May a node name a place? What is wrong with a node? -/
import Derived.Test.YtmcljallamhccaaVC7
namespace Go.Proofs.Ytmcljallamhccaa.V
open Go
set_option linter.unusedVariables false
set_option linter.unusedSimpArgs false
set_option maxRecDepth 100000
/-- A pointer to a forest. -/
structure PF (H : Hp) (q o : Nat) (an : Option Addr) (nn : Nat) (ab : Option Addr) (nb : Nat) (F : Fo) : Prop where
  n : rd H ⟨q, o, none⟩ = some (.slice an nn (sg an 3))
  b : rd H ⟨q, o + 1, none⟩ = some (.slice ab nb (sg ab 2))
  f : RF H an nn ab nb F
theorem PF.fn {H H' : Hp} {q o an nn ab nb F} (h : PF H q o an nn ab nb F) (hf : Fn H H') : PF H' q o an nn ab nb F := ⟨(hf.rd _ _ (rd_lt h.n) id).trans h.n, (hf.rd _ _ (rd_lt h.b) id).trans h.b, h.f.fn hf⟩
def kidB (F : Fo) (leaf : Bool) (k : Int) : Bool := decide (k = -1) || (decide (0 ≤ k) && (if leaf = true then (F.b[k.toNat]?).any (fun b => decide (0 < b.r)) else (F.n[k.toNat]?).any fun x => decide (0 < x.r) && x.f))
theorem kidB_m (F : Fo) (leaf : Bool) : kidB F leaf (-1) = true := rfl
theorem kidB_b {F : Fo} {j : Nat} (h : j < F.b.length) : kidB F true (j : Int) = decide (0 < F.b[j].r) := by
  have h1 : decide ((j : Int) = -1) = false := decide_eq_false (by omega)
  have h2 : decide (0 ≤ (j : Int)) = true := decide_eq_true (by omega)
  simp only [kidB, h1, h2, Bool.false_or, Bool.true_and, if_true, Int.toNat_natCast, getE h, Option.any_some]
theorem kidB_n {F : Fo} {j : Nat} (h : j < F.n.length) : kidB F false (j : Int) = (decide (0 < F.n[j].r) && F.n[j].f) := by
  have h1 : decide ((j : Int) = -1) = false := decide_eq_false (by omega)
  have h2 : decide (0 ≤ (j : Int)) = true := decide_eq_true (by omega)
  simp only [kidB, h1, h2, Bool.false_or, Bool.true_and, Bool.false_eq_true, if_false, Int.toNat_natCast, getE h, Option.any_some]
theorem kidB_bo {F : Fo} {k : Int} (h : k ≠ -1) (h' : ¬ (0 ≤ k ∧ k ≤ (F.b.length : Int) - 1)) : kidB F true k = false := by
  have h1 : decide (k = -1) = false := decide_eq_false h
  by_cases h0 : 0 ≤ k
  · simp only [kidB, h1, Bool.false_or, if_true]
    rw [List.getElem?_eq_none (by omega)]; simp
  · simp only [kidB, h1, decide_eq_false h0, Bool.false_or, Bool.false_and]
theorem kidB_no {F : Fo} {k : Int} (h : k ≠ -1) (h' : ¬ (0 ≤ k ∧ k ≤ (F.n.length : Int) - 1)) : kidB F false k = false := by
  have h1 : decide (k = -1) = false := decide_eq_false h
  by_cases h0 : 0 ≤ k
  · simp only [kidB, h1, Bool.false_or, Bool.false_eq_true, if_false]
    rw [List.getElem?_eq_none (by omega)]; simp
  · simp only [kidB, h1, decide_eq_false h0, Bool.false_or, Bool.false_and]
theorem Sm.w1 {n : Nat} (h : Sm n) : IntKind.i64.wrap ((n : Int) - 1) = (n : Int) - 1 := by unfold Sm at h; exact wr (by omega) (by omega)
theorem l4Kid_c (d lo : Nat) (H : Hp) {q o an nn ab nb F} (h : PF H q o an nn ab nb F) (hs : SF F) {p po : Nat} {leaf : Bool} (hl : rd H ⟨p, po + 1, none⟩ = some (.bool leaf)) (k : Int) :
    vcall env (d + 2) 158 [.pointer (some ⟨q, o, none⟩), .pointer (some ⟨p, po, none⟩), .int .i64 k] lo H = some (.bool (kidB F leaf k), H) := by
  have n1 := h.f.n.1
  have n2 := h.f.b.1
  have w1 := hs.n.w1
  have w2 := hs.b.w1
  rw [← n1] at w1
  rw [← n2] at w2
  have hn := h.n
  have hb := h.b
  have hr := h.f
  rw [call_eq find158 _ _ _ rfl]
  by_cases h0 : k = -1
  · subst h0
    simp -implicitDefEqProofs only [v158, VMs, noRef, noRef1, isRef, List.all_cons, List.all_nil, vop, VOp.still, VOp.app, VOp.plain, allP, lof, evs, start, asI, vbin, vcells, ntup, setAll, vfill, vress, vres, tup, Nat.reduceEqDiff, ↓reduceIte, Nat.reduceAdd, Nat.reduceMul, Nat.reduceLeDiff, reduceCtorEq, beq_self_eq_true, kidB_m]
  have h0' : (k == -1) = false := by simp [h0]
  cases leaf with
  | true =>
    by_cases hk : 0 ≤ k ∧ k ≤ (nb : Int) - 1
    · obtain ⟨j, rfl⟩ : ∃ j : Nat, k = j := ⟨k.toNat, by omega⟩
      have hj : j < F.b.length := by omega
      have hjn : j < nb := by omega
      obtain ⟨i, o', rfl, e1, e2⟩ := hr.b.at hj
      simp -implicitDefEqProofs only [v158, VMs, noRef, noRef1, isRef, List.all_cons, List.all_nil, vop, VOp.still, VOp.app, VOp.plain, allP, lof, evs, start, asI, vbin, vcells, ntup, setAll, vfill, vress, vres, tup, Nat.reduceEqDiff, ↓reduceIte, Nat.reduceAdd, Nat.reduceMul, Nat.reduceLeDiff, reduceCtorEq, h0', hl, hb, hn, slen, w2, l1In_c, hk, decide_true, ltc hjn, ge0, Int.toNat_natCast, e1, kidB_b hj, gt_iff_lt]
    · simp -implicitDefEqProofs only [v158, VMs, noRef, noRef1, isRef, List.all_cons, List.all_nil, vop, VOp.still, VOp.app, VOp.plain, allP, lof, evs, start, asI, vbin, vcells, ntup, setAll, vfill, vress, vres, tup, Nat.reduceEqDiff, ↓reduceIte, Nat.reduceAdd, Nat.reduceMul, Nat.reduceLeDiff, reduceCtorEq, h0', hl, hb, hn, slen, w2, l1In_c, hk, decide_false, kidB_bo h0 (n2 ▸ hk)]
  | false =>
    by_cases hk : 0 ≤ k ∧ k ≤ (nn : Int) - 1
    · obtain ⟨j, rfl⟩ : ∃ j : Nat, k = j := ⟨k.toNat, by omega⟩
      have hj : j < F.n.length := by omega
      have hjn : j < nn := by omega
      obtain ⟨i, o', rfl, e1, e2, a3, n3, e3, e4⟩ := hr.n.at hj
      by_cases hr0 : 0 < F.n[j].r
      · simp -implicitDefEqProofs only [v158, VMs, noRef, noRef1, isRef, List.all_cons, List.all_nil, vop, VOp.still, VOp.app, VOp.plain, allP, lof, evs, start, asI, vbin, vcells, ntup, setAll, vfill, vress, vres, tup, Nat.reduceEqDiff, ↓reduceIte, Nat.reduceAdd, Nat.reduceMul, Nat.reduceLeDiff, reduceCtorEq, h0', hl, hb, hn, slen, w1, l1In_c, hk, decide_true, ltc hjn, ge0, Int.toNat_natCast, e1, e2, kidB_n hj, gt_iff_lt, hr0]
      · simp -implicitDefEqProofs only [v158, VMs, noRef, noRef1, isRef, List.all_cons, List.all_nil, vop, VOp.still, VOp.app, VOp.plain, allP, lof, evs, start, asI, vbin, vcells, ntup, setAll, vfill, vress, vres, tup, Nat.reduceEqDiff, ↓reduceIte, Nat.reduceAdd, Nat.reduceMul, Nat.reduceLeDiff, reduceCtorEq, h0', hl, hb, hn, slen, w1, l1In_c, hk, decide_true, decide_false, ltc hjn, ge0, Int.toNat_natCast, e1, e2, kidB_n hj, gt_iff_lt, hr0]
    · simp -implicitDefEqProofs only [v158, VMs, noRef, noRef1, isRef, List.all_cons, List.all_nil, vop, VOp.still, VOp.app, VOp.plain, allP, lof, evs, start, asI, vbin, vcells, ntup, setAll, vfill, vress, vres, tup, Nat.reduceEqDiff, ↓reduceIte, Nat.reduceAdd, Nat.reduceMul, Nat.reduceLeDiff, reduceCtorEq, h0', hl, hb, hn, slen, w1, l1In_c, hk, decide_false, kidB_no h0 (n1 ▸ hk)]
theorem isKid_c (d lo : Nat) (H : Hp) {an nn ab nb F} (hr : RF H an nn ab nb F) (hs : SF F) (a : Option Addr) (n : Nat) (x : Nd) (k : Int) :
    vcall env (d + 2) 109 [.agg #[.slice an nn (sg an 3), .slice ab nb (sg ab 2)], NV a n x, .int .i64 k] lo H = some (.bool (kidB F x.f k), H) := by
  have n1 := hr.n.1
  have n2 := hr.b.1
  have w1 := hs.n.w1
  have w2 := hs.b.w1
  rw [← n1] at w1
  rw [← n2] at w2
  rw [call_eq find109 _ _ _ rfl]
  by_cases h0 : k = -1
  · subst h0
    simp -implicitDefEqProofs only [NV, v109, VMs, noRef, noRef1, isRef, List.all_cons, List.all_nil, vop, VOp.still, VOp.app, VOp.plain, allP, lof, evs, start, asI, vbin, vcells, ntup, setAll, vfill, vress, vres, tup, Nat.reduceEqDiff, ↓reduceIte, Nat.reduceAdd, Nat.reduceMul, Nat.reduceLeDiff, reduceCtorEq, beq_self_eq_true, kidB_m]
  have h0' : (k == -1) = false := by simp [h0]
  cases hleaf : x.f with
  | true =>
    by_cases hk : 0 ≤ k ∧ k ≤ (nb : Int) - 1
    · obtain ⟨j, rfl⟩ : ∃ j : Nat, k = j := ⟨k.toNat, by omega⟩
      have hj : j < F.b.length := by omega
      have hjn : j < nb := by omega
      obtain ⟨i, o', rfl, e⟩ := hr.b.at hj
      have e1 := fun l => (e.app (l := l)).1
      simp -implicitDefEqProofs only [NV, v109, VMs, noRef, noRef1, isRef, List.all_cons, List.all_nil, vop, VOp.still, VOp.app, VOp.plain, allP, lof, evs, start, asI, vbin, vcells, ntup, setAll, vfill, vress, vres, tup, Nat.reduceEqDiff, ↓reduceIte, Nat.reduceAdd, Nat.reduceMul, Nat.reduceLeDiff, reduceCtorEq, h0', hleaf, slen, w2, within_c, hk, decide_true, ltc hjn, ge0, Int.toNat_natCast, e1, kidB_b hj, gt_iff_lt]
    · simp -implicitDefEqProofs only [NV, v109, VMs, noRef, noRef1, isRef, List.all_cons, List.all_nil, vop, VOp.still, VOp.app, VOp.plain, allP, lof, evs, start, asI, vbin, vcells, ntup, setAll, vfill, vress, vres, tup, Nat.reduceEqDiff, ↓reduceIte, Nat.reduceAdd, Nat.reduceMul, Nat.reduceLeDiff, reduceCtorEq, h0', hleaf, slen, w2, within_c, hk, decide_false, kidB_bo h0 (n2 ▸ hk)]
  | false =>
    by_cases hk : 0 ≤ k ∧ k ≤ (nn : Int) - 1
    · obtain ⟨j, rfl⟩ : ∃ j : Nat, k = j := ⟨k.toNat, by omega⟩
      have hj : j < F.n.length := by omega
      have hjn : j < nn := by omega
      obtain ⟨i, o', rfl, e1', e2', a3, n3, e3, e4⟩ := hr.n.at hj
      have e1 := fun l => rd_app (l := l) e1'
      have e2 := fun l => rd_app (l := l) e2'
      cases hf : F.n[j].f with
      | true =>
        rw [hf] at e2
        simp -implicitDefEqProofs only [NV, v109, VMs, noRef, noRef1, isRef, List.all_cons, List.all_nil, vop, VOp.still, VOp.app, VOp.plain, allP, lof, evs, start, asI, vbin, vcells, ntup, setAll, vfill, vress, vres, tup, Nat.reduceEqDiff, ↓reduceIte, Nat.reduceAdd, Nat.reduceMul, Nat.reduceLeDiff, reduceCtorEq, h0', hleaf, slen, w1, within_c, hk, decide_true, ltc hjn, ge0, Int.toNat_natCast, e1, e2, kidB_n hj, gt_iff_lt, hf]
      | false =>
        rw [hf] at e2
        simp -implicitDefEqProofs only [NV, v109, VMs, noRef, noRef1, isRef, List.all_cons, List.all_nil, vop, VOp.still, VOp.app, VOp.plain, allP, lof, evs, start, asI, vbin, vcells, ntup, setAll, vfill, vress, vres, tup, Nat.reduceEqDiff, ↓reduceIte, Nat.reduceAdd, Nat.reduceMul, Nat.reduceLeDiff, reduceCtorEq, h0', hleaf, slen, w1, within_c, hk, decide_true, ltc hjn, ge0, Int.toNat_natCast, e1, e2, kidB_n hj, gt_iff_lt, hf]
    · simp -implicitDefEqProofs only [NV, v109, VMs, noRef, noRef1, isRef, List.all_cons, List.all_nil, vop, VOp.still, VOp.app, VOp.plain, allP, lof, evs, start, asI, vbin, vcells, ntup, setAll, vfill, vress, vres, tup, Nat.reduceEqDiff, ↓reduceIte, Nat.reduceAdd, Nat.reduceMul, Nat.reduceLeDiff, reduceCtorEq, h0', hleaf, slen, w1, within_c, hk, decide_false, kidB_no h0 (n1 ▸ hk)]
end Go.Proofs.Ytmcljallamhccaa.V
