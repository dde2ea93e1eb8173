/- Roots, places, and what is asked of a forest. -/
import Derived.Test.YtflddpkmajoeaaaVCC
namespace Go.Proofs.Ytflddpkmajoeaaa.V
open Go
set_option linter.unusedVariables false
set_option linter.unusedSimpArgs false
set_option maxRecDepth 100000
def rootB (F : Fo) (k : Int) : Bool := decide (k = -1) || (decide (0 ≤ k) && (F.n[k.toNat]?).any fun x => decide (0 < x.r) && !x.f)
theorem rootB_m (F : Fo) : rootB F (-1) = true := rfl
theorem rootB_n {F : Fo} {j : Nat} (h : j < F.n.length) : rootB F (j : Int) = (decide (0 < F.n[j].r) && !F.n[j].f) := by
  have h1 : decide ((j : Int) = -1) = false := decide_eq_false (by omega)
  have h2 : decide (0 ≤ (j : Int)) = true := decide_eq_true (by omega)
  simp only [rootB, h1, h2, Bool.false_or, Bool.true_and, Int.toNat_natCast, getE h, Option.any_some]
theorem rootB_o {F : Fo} {k : Int} (h : k ≠ -1) (h' : ¬ (0 ≤ k ∧ k ≤ (F.n.length : Int) - 1)) : rootB F k = false := by
  have h1 : decide (k = -1) = false := decide_eq_false h
  by_cases h0 : 0 ≤ k
  · simp only [rootB, h1, Bool.false_or]
    rw [List.getElem?_eq_none (by omega)]; simp
  · simp only [rootB, h1, decide_eq_false h0, Bool.false_or, Bool.false_and]
theorem l4Root_c (d lo : Nat) (H : Hp) {q o an nn ab nb F} (h : PF H q o an nn ab nb F) (hs : SF F) (k : Int) :
    vcall env (d + 2) 119 [.pointer (some ⟨q, o, none⟩), .int .i64 k] lo H = some (.bool (rootB F k), H) := by
  have n1 := h.f.n.1
  have w1 := hs.n.w1
  rw [← n1] at w1
  have hn := h.n
  rw [call_eq find119 _ _ _ rfl]
  by_cases h0 : k = -1
  · subst h0
    simp -implicitDefEqProofs only [v119, VMs, noRef, noRef1, isRef, List.all_cons, List.all_nil, vop, VOp.still, VOp.app, VOp.plain, allP, lof, evs, start, asI, vbin, vcells, ntup, setAll, vfill, vress, vres, tup, Nat.reduceEqDiff, ↓reduceIte, Nat.reduceAdd, Nat.reduceMul, Nat.reduceLeDiff, reduceCtorEq, beq_self_eq_true, rootB_m]
  have h0' : (k == -1) = false := by simp [h0]
  by_cases hk : 0 ≤ k ∧ k ≤ (nn : Int) - 1
  · obtain ⟨j, rfl⟩ : ∃ j : Nat, k = j := ⟨k.toNat, by omega⟩
    have hj : j < F.n.length := by omega
    have hjn : j < nn := by omega
    obtain ⟨i, o', rfl, e1, e2, a3, n3, e3, e4⟩ := h.f.n.at hj
    by_cases hr0 : 0 < F.n[j].r
    · simp -implicitDefEqProofs only [v119, VMs, noRef, noRef1, isRef, List.all_cons, List.all_nil, vop, VOp.still, VOp.app, VOp.plain, allP, lof, evs, start, asI, vbin, vcells, ntup, setAll, vfill, vress, vres, tup, Nat.reduceEqDiff, ↓reduceIte, Nat.reduceAdd, Nat.reduceMul, Nat.reduceLeDiff, reduceCtorEq, h0', hn, slen, w1, l1In_c, hk, decide_true, ltc hjn, ge0, Int.toNat_natCast, e1, e2, rootB_n hj, gt_iff_lt, hr0]
    · simp -implicitDefEqProofs only [v119, VMs, noRef, noRef1, isRef, List.all_cons, List.all_nil, vop, VOp.still, VOp.app, VOp.plain, allP, lof, evs, start, asI, vbin, vcells, ntup, setAll, vfill, vress, vres, tup, Nat.reduceEqDiff, ↓reduceIte, Nat.reduceAdd, Nat.reduceMul, Nat.reduceLeDiff, reduceCtorEq, h0', hn, slen, w1, l1In_c, hk, decide_true, decide_false, ltc hjn, ge0, Int.toNat_natCast, e1, e2, rootB_n hj, gt_iff_lt, hr0]
  · simp -implicitDefEqProofs only [v119, VMs, noRef, noRef1, isRef, List.all_cons, List.all_nil, vop, VOp.still, VOp.app, VOp.plain, allP, lof, evs, start, asI, vbin, vcells, ntup, setAll, vfill, vress, vres, tup, Nat.reduceEqDiff, ↓reduceIte, Nat.reduceAdd, Nat.reduceMul, Nat.reduceLeDiff, reduceCtorEq, h0', hn, slen, w1, l1In_c, hk, decide_false, rootB_o h0 (n1 ▸ hk)]
theorem isRoot_c (d lo : Nat) (H : Hp) {an nn ab nb F} (hr : RF H an nn ab nb F) (hs : SF F) (k : Int) :
    vcall env (d + 2) 79 [.agg #[.slice an nn (sg an 3), .slice ab nb (sg ab 2)], .int .i64 k] lo H = some (.bool (rootB F k), H) := by
  have n1 := hr.n.1
  have w1 := hs.n.w1
  rw [← n1] at w1
  rw [call_eq find79 _ _ _ rfl]
  by_cases h0 : k = -1
  · subst h0
    simp -implicitDefEqProofs only [v79, VMs, noRef, noRef1, isRef, List.all_cons, List.all_nil, vop, VOp.still, VOp.app, VOp.plain, allP, lof, evs, start, asI, vbin, vcells, ntup, setAll, vfill, vress, vres, tup, Nat.reduceEqDiff, ↓reduceIte, Nat.reduceAdd, Nat.reduceMul, Nat.reduceLeDiff, reduceCtorEq, beq_self_eq_true, rootB_m]
  have h0' : (k == -1) = false := by simp [h0]
  by_cases hk : 0 ≤ k ∧ k ≤ (nn : Int) - 1
  · obtain ⟨j, rfl⟩ : ∃ j : Nat, k = j := ⟨k.toNat, by omega⟩
    have hj : j < F.n.length := by omega
    have hjn : j < nn := by omega
    obtain ⟨i, o', rfl, e1', e2', a3, n3, e3, e4⟩ := hr.n.at hj
    have e1 := fun l => rd_app (l := l) e1'
    have e2 := fun l => rd_app (l := l) e2'
    cases hf : F.n[j].f with
    | true =>
      rw [hf] at e2
      simp -implicitDefEqProofs only [v79, VMs, noRef, noRef1, isRef, List.all_cons, List.all_nil, vop, VOp.still, VOp.app, VOp.plain, allP, lof, evs, start, asI, vbin, vcells, ntup, setAll, vfill, vress, vres, tup, Nat.reduceEqDiff, ↓reduceIte, Nat.reduceAdd, Nat.reduceMul, Nat.reduceLeDiff, reduceCtorEq, h0', slen, w1, within_c, hk, decide_true, ltc hjn, ge0, Int.toNat_natCast, e1, e2, rootB_n hj, gt_iff_lt, hf]
    | false =>
      rw [hf] at e2
      simp -implicitDefEqProofs only [v79, VMs, noRef, noRef1, isRef, List.all_cons, List.all_nil, vop, VOp.still, VOp.app, VOp.plain, allP, lof, evs, start, asI, vbin, vcells, ntup, setAll, vfill, vress, vres, tup, Nat.reduceEqDiff, ↓reduceIte, Nat.reduceAdd, Nat.reduceMul, Nat.reduceLeDiff, reduceCtorEq, h0', slen, w1, within_c, hk, decide_true, ltc hjn, ge0, Int.toNat_natCast, e1, e2, rootB_n hj, gt_iff_lt, hf]
  · simp -implicitDefEqProofs only [v79, VMs, noRef, noRef1, isRef, List.all_cons, List.all_nil, vop, VOp.still, VOp.app, VOp.plain, allP, lof, evs, start, asI, vbin, vcells, ntup, setAll, vfill, vress, vres, tup, Nat.reduceEqDiff, ↓reduceIte, Nat.reduceAdd, Nat.reduceMul, Nat.reduceLeDiff, reduceCtorEq, h0', slen, w1, within_c, hk, decide_false, rootB_o h0 (n1 ▸ hk)]
theorem l4Place_c (d lo : Nat) (H : Hp) (v : Int) : vcall env (d + 2) 102 [.int .i64 v] lo H = some (.bool (decide (0 ≤ v ∧ v ≤ 15)), H) := by
  rw [call_eq find102 _ _ _ rfl]
  simp -implicitDefEqProofs only [v102, VMs, noRef, noRef1, isRef, List.all_cons, List.all_nil, vop, VOp.still, VOp.app, VOp.plain, allP, lof, evs, start, asI, vbin, vcells, ntup, setAll, vfill, vress, vres, tup, Nat.reduceEqDiff, ↓reduceIte, Nat.reduceAdd, Nat.reduceMul, Nat.reduceLeDiff, reduceCtorEq, l1In_c]
theorem isTreePlace_c (d lo : Nat) (H : Hp) (v : Int) : vcall env (d + 2) 93 [.int .i64 v] lo H = some (.bool (decide (0 ≤ v ∧ v ≤ 15)), H) := by
  rw [call_eq find93 _ _ _ rfl]
  simp -implicitDefEqProofs only [v93, VMs, noRef, noRef1, isRef, List.all_cons, List.all_nil, vop, VOp.still, VOp.app, VOp.plain, allP, lof, evs, start, asI, vbin, vcells, ntup, setAll, vfill, vress, vres, tup, Nat.reduceEqDiff, ↓reduceIte, Nat.reduceAdd, Nat.reduceMul, Nat.reduceLeDiff, reduceCtorEq, within_c]
/-- The code of what is asked: a forest, a root, and whether all else is as told. -/
def askF (F : Fo) (root : Int) (fine : Bool) : Int := if fF F = 0 then (if (rootB F root && fine) = true then 0 else 3) else fF F
end Go.Proofs.Ytflddpkmajoeaaa.V
