/- Roots, places, and what is asked of a forest. -/
import Derived.Test.YtmcljallamhccaaVCC
namespace Go.Proofs.Ytmcljallamhccaa.V
open Go
set_option linter.unusedVariables false
set_option linter.unusedSimpArgs false
set_option maxRecDepth 100000
def rootB (F : Fo) (k : Int) : Bool := decide (k = -1) || (decide (0 ≤ k) && (F.n[k.toNat]?).any fun x => decide (0 < x.r) && !x.f)
theorem rootB_m (F : Fo) : rootB F (-1) = true := rfl
theorem rootB_n {F : Fo} {j : Nat} (h : j < F.n.length) : rootB F (j : Int) = (decide (0 < F.n[j].r) && !F.n[j].f) := by
  have h1 : decide ((j : Int) = -1) = false := decide_eq_false (by omega)
  have h2 : decide (0 ≤ (j : Int)) = true := decide_eq_true (by omega)
  simp only [rootB, h1, h2, Bool.false_or, Bool.true_and, Int.toNat_natCast, getE h, Option.any_some]
theorem rootB_o {F : Fo} {k : Int} (h : k ≠ -1) (h' : ¬ (0 ≤ k ∧ k ≤ (F.n.length : Int) - 1)) : rootB F k = false := by
  have h1 : decide (k = -1) = false := decide_eq_false h
  by_cases h0 : 0 ≤ k
  · simp only [rootB, h1, Bool.false_or]
    rw [List.getElem?_eq_none (by omega)]; simp
  · simp only [rootB, h1, decide_eq_false h0, Bool.false_or, Bool.false_and]
theorem l4Root_c (d lo : Nat) (H : Hp) {q o an nn ab nb F} (h : PF H q o an nn ab nb F) (hs : SF F) (k : Int) :
    vcall env (d + 2) 145 [.pointer (some ⟨q, o, none⟩), .int .i64 k] lo H = some (.bool (rootB F k), H) := by
  have n1 := h.f.n.1
  have w1 := hs.n.w1
  rw [← n1] at w1
  have hn := h.n
  rw [call_eq find145 _ _ _ rfl]
  by_cases h0 : k = -1
  · subst h0
    simp -implicitDefEqProofs only [v145, VMs, noRef, noRef1, isRef, List.all_cons, List.all_nil, vop, VOp.still, VOp.app, VOp.plain, allP, lof, evs, start, asI, vbin, vcells, ntup, setAll, vfill, vress, vres, tup, Nat.reduceEqDiff, ↓reduceIte, Nat.reduceAdd, Nat.reduceMul, Nat.reduceLeDiff, reduceCtorEq, beq_self_eq_true, rootB_m]
  have h0' : (k == -1) = false := by simp [h0]
  by_cases hk : 0 ≤ k ∧ k ≤ (nn : Int) - 1
  · obtain ⟨j, rfl⟩ : ∃ j : Nat, k = j := ⟨k.toNat, by omega⟩
    have hj : j < F.n.length := by omega
    have hjn : j < nn := by omega
    obtain ⟨i, o', rfl, e1, e2, a3, n3, e3, e4⟩ := h.f.n.at hj
    by_cases hr0 : 0 < F.n[j].r
    · simp -implicitDefEqProofs only [v145, VMs, noRef, noRef1, isRef, List.all_cons, List.all_nil, vop, VOp.still, VOp.app, VOp.plain, allP, lof, evs, start, asI, vbin, vcells, ntup, setAll, vfill, vress, vres, tup, Nat.reduceEqDiff, ↓reduceIte, Nat.reduceAdd, Nat.reduceMul, Nat.reduceLeDiff, reduceCtorEq, h0', hn, slen, w1, l1In_c, hk, decide_true, ltc hjn, ge0, Int.toNat_natCast, e1, e2, rootB_n hj, gt_iff_lt, hr0]
    · simp -implicitDefEqProofs only [v145, VMs, noRef, noRef1, isRef, List.all_cons, List.all_nil, vop, VOp.still, VOp.app, VOp.plain, allP, lof, evs, start, asI, vbin, vcells, ntup, setAll, vfill, vress, vres, tup, Nat.reduceEqDiff, ↓reduceIte, Nat.reduceAdd, Nat.reduceMul, Nat.reduceLeDiff, reduceCtorEq, h0', hn, slen, w1, l1In_c, hk, decide_true, decide_false, ltc hjn, ge0, Int.toNat_natCast, e1, e2, rootB_n hj, gt_iff_lt, hr0]
  · simp -implicitDefEqProofs only [v145, VMs, noRef, noRef1, isRef, List.all_cons, List.all_nil, vop, VOp.still, VOp.app, VOp.plain, allP, lof, evs, start, asI, vbin, vcells, ntup, setAll, vfill, vress, vres, tup, Nat.reduceEqDiff, ↓reduceIte, Nat.reduceAdd, Nat.reduceMul, Nat.reduceLeDiff, reduceCtorEq, h0', hn, slen, w1, l1In_c, hk, decide_false, rootB_o h0 (n1 ▸ hk)]
theorem isRoot_c (d lo : Nat) (H : Hp) {an nn ab nb F} (hr : RF H an nn ab nb F) (hs : SF F) (k : Int) :
    vcall env (d + 2) 148 [.agg #[.slice an nn (sg an 3), .slice ab nb (sg ab 2)], .int .i64 k] lo H = some (.bool (rootB F k), H) := by
  have n1 := hr.n.1
  have w1 := hs.n.w1
  rw [← n1] at w1
  rw [call_eq find148 _ _ _ rfl]
  by_cases h0 : k = -1
  · subst h0
    simp -implicitDefEqProofs only [v148, VMs, noRef, noRef1, isRef, List.all_cons, List.all_nil, vop, VOp.still, VOp.app, VOp.plain, allP, lof, evs, start, asI, vbin, vcells, ntup, setAll, vfill, vress, vres, tup, Nat.reduceEqDiff, ↓reduceIte, Nat.reduceAdd, Nat.reduceMul, Nat.reduceLeDiff, reduceCtorEq, beq_self_eq_true, rootB_m]
  have h0' : (k == -1) = false := by simp [h0]
  by_cases hk : 0 ≤ k ∧ k ≤ (nn : Int) - 1
  · obtain ⟨j, rfl⟩ : ∃ j : Nat, k = j := ⟨k.toNat, by omega⟩
    have hj : j < F.n.length := by omega
    have hjn : j < nn := by omega
    obtain ⟨i, o', rfl, e1', e2', a3, n3, e3, e4⟩ := hr.n.at hj
    have e1 := fun l => rd_app (l := l) e1'
    have e2 := fun l => rd_app (l := l) e2'
    cases hf : F.n[j].f with
    | true =>
      rw [hf] at e2
      simp -implicitDefEqProofs only [v148, VMs, noRef, noRef1, isRef, List.all_cons, List.all_nil, vop, VOp.still, VOp.app, VOp.plain, allP, lof, evs, start, asI, vbin, vcells, ntup, setAll, vfill, vress, vres, tup, Nat.reduceEqDiff, ↓reduceIte, Nat.reduceAdd, Nat.reduceMul, Nat.reduceLeDiff, reduceCtorEq, h0', slen, w1, within_c, hk, decide_true, ltc hjn, ge0, Int.toNat_natCast, e1, e2, rootB_n hj, gt_iff_lt, hf]
    | false =>
      rw [hf] at e2
      simp -implicitDefEqProofs only [v148, VMs, noRef, noRef1, isRef, List.all_cons, List.all_nil, vop, VOp.still, VOp.app, VOp.plain, allP, lof, evs, start, asI, vbin, vcells, ntup, setAll, vfill, vress, vres, tup, Nat.reduceEqDiff, ↓reduceIte, Nat.reduceAdd, Nat.reduceMul, Nat.reduceLeDiff, reduceCtorEq, h0', slen, w1, within_c, hk, decide_true, ltc hjn, ge0, Int.toNat_natCast, e1, e2, rootB_n hj, gt_iff_lt, hf]
  · simp -implicitDefEqProofs only [v148, VMs, noRef, noRef1, isRef, List.all_cons, List.all_nil, vop, VOp.still, VOp.app, VOp.plain, allP, lof, evs, start, asI, vbin, vcells, ntup, setAll, vfill, vress, vres, tup, Nat.reduceEqDiff, ↓reduceIte, Nat.reduceAdd, Nat.reduceMul, Nat.reduceLeDiff, reduceCtorEq, h0', slen, w1, within_c, hk, decide_false, rootB_o h0 (n1 ▸ hk)]
theorem l4Place_c (d lo : Nat) (H : Hp) (v : Int) : vcall env (d + 2) 146 [.int .i64 v] lo H = some (.bool (decide (0 ≤ v ∧ v ≤ 15)), H) := by
  rw [call_eq find146 _ _ _ rfl]
  simp -implicitDefEqProofs only [v146, VMs, noRef, noRef1, isRef, List.all_cons, List.all_nil, vop, VOp.still, VOp.app, VOp.plain, allP, lof, evs, start, asI, vbin, vcells, ntup, setAll, vfill, vress, vres, tup, Nat.reduceEqDiff, ↓reduceIte, Nat.reduceAdd, Nat.reduceMul, Nat.reduceLeDiff, reduceCtorEq, l1In_c]
theorem isTreePlace_c (d lo : Nat) (H : Hp) (v : Int) : vcall env (d + 2) 115 [.int .i64 v] lo H = some (.bool (decide (0 ≤ v ∧ v ≤ 15)), H) := by
  rw [call_eq find115 _ _ _ rfl]
  simp -implicitDefEqProofs only [v115, VMs, noRef, noRef1, isRef, List.all_cons, List.all_nil, vop, VOp.still, VOp.app, VOp.plain, allP, lof, evs, start, asI, vbin, vcells, ntup, setAll, vfill, vress, vres, tup, Nat.reduceEqDiff, ↓reduceIte, Nat.reduceAdd, Nat.reduceMul, Nat.reduceLeDiff, reduceCtorEq, within_c]
/-- The code of what is asked: a forest, a root, and whether all else is as told. -/
def askF (F : Fo) (root : Int) (fine : Bool) : Int := if fF F = 0 then (if (rootB F root && fine) = true then 0 else 3) else fF F
theorem l4Asked_c (d lo : Nat) (H : Hp) {q o an nn ab nb F} (h : PF H q o an nn ab nb F) (hs : SF F) (root at_ : Int) :
    vcall env (d + 5) 112 [.pointer (some ⟨q, o, none⟩), .int .i64 root, .int .i64 at_] lo H = some (.int .i64 (askF F root (decide (0 ≤ at_ ∧ at_ ≤ 15))), H) := by
  have c1 := l4Fault_c d H.length H h hs
  have c2 := l4Root_c (d + 2) H.length H h hs root
  rw [call_eq find112 _ _ _ rfl]
  unfold askF
  by_cases h0 : fF F = 0
  · cases hr : rootB F root with
    | false =>
      rw [hr] at c2
      simp -implicitDefEqProofs only [v112, VMs, noRef, noRef1, isRef, List.all_cons, List.all_nil, vop, VOp.still, VOp.app, VOp.plain, allP, lof, evs, start, asI, vbin, vcells, ntup, setAll, vfill, vress, vres, tup, Nat.reduceEqDiff, ↓reduceIte, Nat.reduceAdd, Nat.reduceMul, Nat.reduceLeDiff, reduceCtorEq, c1, h0, bne_self_eq_false, c2]
    | true =>
      rw [hr] at c2
      by_cases hp : 0 ≤ at_ ∧ at_ ≤ 15
      · simp -implicitDefEqProofs only [v112, VMs, noRef, noRef1, isRef, List.all_cons, List.all_nil, vop, VOp.still, VOp.app, VOp.plain, allP, lof, evs, start, asI, vbin, vcells, ntup, setAll, vfill, vress, vres, tup, Nat.reduceEqDiff, ↓reduceIte, Nat.reduceAdd, Nat.reduceMul, Nat.reduceLeDiff, reduceCtorEq, c1, h0, bne_self_eq_false, c2, l4Place_c, hp, decide_true, Int.reduceLE]
      · simp -implicitDefEqProofs only [v112, VMs, noRef, noRef1, isRef, List.all_cons, List.all_nil, vop, VOp.still, VOp.app, VOp.plain, allP, lof, evs, start, asI, vbin, vcells, ntup, setAll, vfill, vress, vres, tup, Nat.reduceEqDiff, ↓reduceIte, Nat.reduceAdd, Nat.reduceMul, Nat.reduceLeDiff, reduceCtorEq, c1, h0, bne_self_eq_false, c2, l4Place_c, hp, decide_false]
  · have h0' : (fF F != 0) = true := by simp [h0]
    simp -implicitDefEqProofs only [v112, VMs, noRef, noRef1, isRef, List.all_cons, List.all_nil, vop, VOp.still, VOp.app, VOp.plain, allP, lof, evs, start, asI, vbin, vcells, ntup, setAll, vfill, vress, vres, tup, Nat.reduceEqDiff, ↓reduceIte, Nat.reduceAdd, Nat.reduceMul, Nat.reduceLeDiff, reduceCtorEq, c1, h0, h0']
theorem forestCode_c (d lo : Nat) (H : Hp) {an nn ab nb F} (h : RF H an nn ab nb F) (hs : SF F) (root : Int) (fine : Bool) :
    vcall env (d + 7) 114 [.agg #[.slice an nn (sg an 3), .slice ab nb (sg ab 2)], .int .i64 root, .bool fine] lo H = some (.int .i64 (askF F root fine), H) := by
  have c1 := fun l => implForestFault_c d H.length (H ++ l) h.app hs
  have c2 := fun l => isRoot_c (d + 4) H.length (H ++ l) h.app hs root
  rw [call_eq find114 _ _ _ rfl]
  unfold askF
  by_cases h0 : fF F = 0
  · cases hr : rootB F root with
    | false =>
      rw [hr] at c2
      simp -implicitDefEqProofs only [v114, VMs, noRef, noRef1, isRef, List.all_cons, List.all_nil, vop, VOp.still, VOp.app, VOp.plain, allP, lof, evs, start, asI, vbin, vcells, ntup, setAll, vfill, vress, vres, tup, Nat.reduceEqDiff, ↓reduceIte, Nat.reduceAdd, Nat.reduceMul, Nat.reduceLeDiff, reduceCtorEq, c1, h0, bne_self_eq_false, c2]
    | true =>
      rw [hr] at c2
      cases fine <;> simp -implicitDefEqProofs only [v114, VMs, noRef, noRef1, isRef, List.all_cons, List.all_nil, vop, VOp.still, VOp.app, VOp.plain, allP, lof, evs, start, asI, vbin, vcells, ntup, setAll, vfill, vress, vres, tup, Nat.reduceEqDiff, ↓reduceIte, Nat.reduceAdd, Nat.reduceMul, Nat.reduceLeDiff, reduceCtorEq, c1, h0, bne_self_eq_false, c2]
  · have h0' : (fF F != 0) = true := by simp [h0]
    simp -implicitDefEqProofs only [v114, VMs, noRef, noRef1, isRef, List.all_cons, List.all_nil, vop, VOp.still, VOp.app, VOp.plain, allP, lof, evs, start, asI, vbin, vcells, ntup, setAll, vfill, vress, vres, tup, Nat.reduceEqDiff, ↓reduceIte, Nat.reduceAdd, Nat.reduceMul, Nat.reduceLeDiff, reduceCtorEq, c1, h0, h0']
end Go.Proofs.Ytmcljallamhccaa.V
