/- The law FnExactSamePools of the program holds at whatever its argument reads as: the row, out of what the machine of values computes. -/
import Derived.Test.YtflddpkmajoeaaaRows
import Derived.Test.YtflddpkmajoeaaaOrder
import Derived.Test.YtflddpkmajoeaaaVMW
import Derived.Test.YtflddpkmajoeaaaVCIP
import Derived.Test.YtflddpkmajoeaaaVSamePools
import Derived.WalkKit
import Derived.ProofKit
import Derived.OpenShut
import Derived.ShutString
import Derived.ChangeOld
import Derived.Below
import Derived.SizedLaws
namespace Go.Proofs.Ytflddpkmajoeaaa.fnExactSamePools
open Go.ChangeShapes Go.WideShapes Go.ChangeAt Go.RowKit
open Go.ChangeMaps (open_string shut_string)
set_option linter.unusedVariables false
theorem own : ownKnob Try.prog.godebug = none := by kernel_rfl
theorem laidOut : laidOutB Try.prog = true := by kernel_rfl
set_option maxRecDepth 100000 in
theorem lifted (os : Os) (started : os.Started) (H : Type) (enc : TypeId × Value → H) :
    ReturnsInHanded {} Try.checked os 5 .any (Rows.fnExactSamePoolsSpec.pre6 enc Try.prog Try.f5 Rows.fnExactSamePoolsRow.domain false) (Rows.fnExactSamePoolsSpec.post enc Try.prog Try.f5 false true false false) := by
  refine returnsInHanded_of_change_sized (C := Try.checked) own started (by kernel_rfl) Try.func5
    (ChangeSpec.witness6 (enc := enc) (C := Try.checked) false ⟨#[], #[.agg #[.slice none 0 0, .slice none 0 0, .slice none 0 0], .agg #[.slice none 0 0, .slice none 0 0, .slice none 0 0]], []⟩ 12 (by kernel_rfl) (by kernel_rfl) (by kernel_rfl) (by kernel_rfl)) ?_
  intro W base args ds gs before hval0 hW hcnd hsz0 _
  have hsz : (DataW.weightsEach Try.prog (Try.f5.params.toList ++ Rows.fnExactSamePoolsSpec.plain.varTypes Try.prog) (ds ++ gs)).all (· ≤ reachBytes) = true := hsz0
  have hval : ∀ (j : Nat) t v, Try.f5.params[j]? = some t → args[j]? = some v → Value.okWide Try.prog W .any base t v := hval0
  have hW' := hW
  obtain ⟨p, q, hA0, hV, rfl, hfz, hnd⟩ := hW
  have hA : DataW.TrodAll enc Try.prog W 0 (fun _ => true) true Try.f5.params.toList args.toList ds p := hA0
  rw [Try.params5] at hA hval hsz
  obtain ⟨v0, vs0, d0, ds0, p0, q0, hargs, rfl, rfl, h0, r0⟩ := trodAll_cons hA
  obtain ⟨v1, vs1, d1, ds1, p1, q1, rfl, rfl, rfl, h1, r1⟩ := trodAll_cons r0
  obtain ⟨rfl, rfl, rfl⟩ := trodAll_nil r1
  obtain rfl : args = #[v0, v1] := by cases args; simp_all
  obtain ⟨rfl, rfl⟩ := trodVars_none hV
  have k0 := h0
  have lt0 : ∀ x ∈ p0, x.block < W.heap.size := by obtain ⟨m, hm⟩ := k0; exact DataW.trod_lt m _ _ _ hm
  have ok0 := hval 0 49 v0 rfl rfl
  simp only [Value.okWide, Try.underlying49] at ok0
  obtain ⟨cs0, rfl, _, _⟩ := ok0
  obtain ⟨F0, hF0, hgo0⟩ := V.opnPool.arg hsz (j := 0) rfl rfl h0
  obtain ⟨_, l0, μ0, hs0, _, hL0, _, ⟨an0, ab0, av0, rfl, hR0⟩⟩ := hgo0 (fun _ => none) [] (V.SimR.nil W)
  have k1 := h1
  have lt1 : ∀ x ∈ p1, x.block < W.heap.size := by obtain ⟨m, hm⟩ := k1; exact DataW.trod_lt m _ _ _ hm
  have ok1 := hval 1 49 v1 rfl rfl
  simp only [Value.okWide, Try.underlying49] at ok1
  obtain ⟨cs1, rfl, _, _⟩ := ok1
  obtain ⟨F1, hF1, hgo1⟩ := V.opnPool.arg hsz (j := 1) rfl rfl h1
  obtain ⟨_, l1, μ1, hs1, ext1, hL1, _, ⟨an1, ab1, av1, rfl, hR1⟩⟩ := hgo1 μ0 ([] ++ l0) hs0
  replace hR0 := hR0.fn (V.Fr.app (l := l1))
  replace hL0 := V.L2.mono (fun _ _ hx => V.RC.ext ext1 hx) hL0
  clear hA0 hval0 hsz0 hsz
  refine (V.row_ok (V.calOK 6) (args := [.agg #[.slice an0 F0.f.n.length (V.sg an0 3), .slice ab0 F0.f.b.length (V.sg ab0 2), .slice av0 F0.v.length (V.sg av0 3)], .agg #[.slice an1 F1.f.n.length (V.sg an1 3), .slice ab1 F1.f.b.length (V.sg ab1 2), .slice av1 F1.v.length (V.sg av1 3)]]) (rargs := [.agg cs0, .agg cs1]) (V.law_c _ _ _ hR0 hF0 hR1 hF1) (V.L2.cons (show V.R2 _ _ _ from ⟨cs0, rfl, hL0⟩) (V.L2.cons (show V.R2 _ _ _ from ⟨cs1, rfl, hL1⟩) V.L2.nil)) hs1.sim).mono fun e W' ⟨he, bel0⟩ => ?_
  have bel := bel0
  subst he
  exact ⟨_, rfl, _, _, _, [], _, [], hW', trodAll_mk1 (shut_bool Try.underlying4 _), (trodAll_cons_mk (Below.trod laidOut (by kernel_rfl) (of_decide_eq_true (by kernel_rfl)) k0 bel lt0) (trodAll_cons_mk (Below.trod laidOut (by kernel_rfl) (of_decide_eq_true (by kernel_rfl)) k1 bel lt1) trodAll_mk0)), rfl, bel.frame _, fun h => by cases h⟩
theorem closed : joinedFacts Try.pinned.checked.prog 5 Try.f5 Rows.fnExactSamePoolsSpec Rows.fnExactSamePoolsRow = true := by
  rw [joinedFacts, Order.may, Order.lifts, Order.made]
  kernel_rfl
theorem over : Rows.fnExactSamePoolsRow.holds Try.pinned (OpenSpec.ofChange Rows.fnExactSamePoolsSpec) :=
  OpenClaim.holds_of_wide 5 Try.f5 rfl rfl rfl rfl rfl rfl rfl ⟨rfl, rfl, rfl, rfl, rfl⟩ rfl rfl rfl rfl rfl (by kernel_rfl) Try.func5 closed
    (of_decide_eq_true (by kernel_rfl)) (by unfold Func.isWrapper; first | (rw [if_pos (by decide +kernel)]; kernel_rfl) | (rw [if_neg (by decide +kernel)]; exact ⟨rfl, rfl⟩))
    (fun os started H enc _ => lifted os started H enc)
theorem proved : Rows.FnExactSamePoolsSaid := over
#print axioms proved
end Go.Proofs.Ytflddpkmajoeaaa.fnExactSamePools
namespace Go.Proofs.Ytflddpkmajoeaaa
/-- The row, under a short name, for the claim. -/
theorem fnExactSamePools_holds : Rows.FnExactSamePoolsSaid := fnExactSamePools.proved
end Go.Proofs.Ytflddpkmajoeaaa
