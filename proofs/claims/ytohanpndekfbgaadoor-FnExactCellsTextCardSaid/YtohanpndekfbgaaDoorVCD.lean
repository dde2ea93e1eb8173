/- Roots, places, and what is asked of a forest. -/
import Derived.Test.YtohanpndekfbgaaDoorVCC
namespace Go.Proofs.YtohanpndekfbgaaDoor.V
open Go
set_option linter.unusedVariables false
set_option linter.unusedSimpArgs false
set_option maxRecDepth 100000
def rootB (F : Fo) (k : Int) : Bool := decide (k = -1) || (decide (0 ≤ k) && (F.n[k.toNat]?).any fun x => decide (0 < x.r) && !x.f)
theorem rootB_m (F : Fo) : rootB F (-1) = true := rfl
theorem rootB_n {F : Fo} {j : Nat} (h : j < F.n.length) : rootB F (j : Int) = (decide (0 < F.n[j].r) && !F.n[j].f) := by
  have h1 : decide ((j : Int) = -1) = false := decide_eq_false (by omega)
  have h2 : decide (0 ≤ (j : Int)) = true := decide_eq_true (by omega)
  simp only [rootB, h1, h2, Bool.false_or, Bool.true_and, Int.toNat_natCast, getE h, Option.any_some]
theorem rootB_o {F : Fo} {k : Int} (h : k ≠ -1) (h' : ¬ (0 ≤ k ∧ k ≤ (F.n.length : Int) - 1)) : rootB F k = false := by
  have h1 : decide (k = -1) = false := decide_eq_false h
  by_cases h0 : 0 ≤ k
  · simp only [rootB, h1, Bool.false_or]
    rw [List.getElem?_eq_none (by omega)]; simp
  · simp only [rootB, h1, decide_eq_false h0, Bool.false_or, Bool.false_and]
theorem l4Place_c (d lo : Nat) (H : Hp) (v : Int) : vcall env (d + 2) 42 [.int .i64 v] lo H = some (.bool (decide (0 ≤ v ∧ v ≤ 15)), H) := by
  rw [call_eq find42 _ _ _ rfl]
  simp -implicitDefEqProofs only [v42, VMs, noRef, noRef1, isRef, List.all_cons, List.all_nil, vop, VOp.still, VOp.app, VOp.plain, allP, lof, evs, start, asI, vbin, vcells, ntup, setAll, vfill, vress, vres, tup, Nat.reduceEqDiff, ↓reduceIte, Nat.reduceAdd, Nat.reduceMul, Nat.reduceLeDiff, reduceCtorEq, l1In_c]
theorem isTreePlace_c (d lo : Nat) (H : Hp) (v : Int) : vcall env (d + 2) 32 [.int .i64 v] lo H = some (.bool (decide (0 ≤ v ∧ v ≤ 15)), H) := by
  rw [call_eq find32 _ _ _ rfl]
  simp -implicitDefEqProofs only [v32, VMs, noRef, noRef1, isRef, List.all_cons, List.all_nil, vop, VOp.still, VOp.app, VOp.plain, allP, lof, evs, start, asI, vbin, vcells, ntup, setAll, vfill, vress, vres, tup, Nat.reduceEqDiff, ↓reduceIte, Nat.reduceAdd, Nat.reduceMul, Nat.reduceLeDiff, reduceCtorEq, within_c]
/-- The code of what is asked: a forest, a root, and whether all else is as told. -/
def askF (F : Fo) (root : Int) (fine : Bool) : Int := if fF F = 0 then (if (rootB F root && fine) = true then 0 else 3) else fF F
end Go.Proofs.YtohanpndekfbgaaDoor.V
