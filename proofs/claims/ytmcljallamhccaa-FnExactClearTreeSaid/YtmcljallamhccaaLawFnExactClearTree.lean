/- The law FnExactClearTree of the program holds at whatever its argument reads as: the row, out of what the machine of values computes. -/
import Derived.Test.YtmcljallamhccaaRows
import Derived.Test.YtmcljallamhccaaOrder
import Derived.Test.YtmcljallamhccaaVMW
import Derived.Test.YtmcljallamhccaaVCI
import Derived.Test.YtmcljallamhccaaVClearTree
import Derived.WalkKit
import Derived.ProofKit
import Derived.OpenShut
import Derived.ShutString
import Derived.ChangeOld
import Derived.Below
import Derived.SizedLaws
namespace Go.Proofs.Ytmcljallamhccaa.fnExactClearTree
open Go.ChangeShapes Go.WideShapes Go.ChangeAt Go.RowKit
open Go.ChangeMaps (open_string shut_string)
set_option linter.unusedVariables false
theorem own : ownKnob Try.prog.godebug = none := by kernel_rfl
theorem laidOut : laidOutB Try.prog = true := by kernel_rfl
set_option maxRecDepth 100000 in
theorem lifted (os : Os) (started : os.Started) (H : Type) (enc : TypeId × Value → H) :
    ReturnsInHanded {} Try.checked os 16 .any (Rows.fnExactClearTreeSpec.pre6 enc Try.prog Try.f16 Rows.fnExactClearTreeRow.domain false) (Rows.fnExactClearTreeSpec.post enc Try.prog Try.f16 false true false false) := by
  refine returnsInHanded_of_change_sized (C := Try.checked) own started (by kernel_rfl) Try.func16
    (ChangeSpec.witness6 (enc := enc) (C := Try.checked) false ⟨#[], #[.agg #[.slice none 0 0, .slice none 0 0], .int .i64 0, .int .i64 0], []⟩ 12 (by kernel_rfl) (by kernel_rfl) (by kernel_rfl) (by kernel_rfl)) ?_
  intro W base args ds gs before hval0 hW hcnd hsz0 _
  have hsz : (DataW.weightsEach Try.prog (Try.f16.params.toList ++ Rows.fnExactClearTreeSpec.plain.varTypes Try.prog) (ds ++ gs)).all (· ≤ reachBytes) = true := hsz0
  have hval : ∀ (j : Nat) t v, Try.f16.params[j]? = some t → args[j]? = some v → Value.okWide Try.prog W .any base t v := hval0
  have hW' := hW
  obtain ⟨p, q, hA0, hV, rfl, hfz, hnd⟩ := hW
  have hA : DataW.TrodAll enc Try.prog W 0 (fun _ => true) true Try.f16.params.toList args.toList ds p := hA0
  rw [Try.params16] at hA hval hsz
  obtain ⟨v0, vs0, d0, ds0, p0, q0, hargs, rfl, rfl, h0, r0⟩ := trodAll_cons hA
  obtain ⟨v1, vs1, d1, ds1, p1, q1, rfl, rfl, rfl, h1, r1⟩ := trodAll_cons r0
  obtain ⟨v2, vs2, d2, ds2, p2, q2, rfl, rfl, rfl, h2, r2⟩ := trodAll_cons r1
  obtain ⟨rfl, rfl, rfl⟩ := trodAll_nil r2
  obtain rfl : args = #[v0, v1, v2] := by cases args; simp_all
  obtain ⟨rfl, rfl⟩ := trodVars_none hV
  have k0 := h0
  have lt0 : ∀ x ∈ p0, x.block < W.heap.size := by obtain ⟨m, hm⟩ := k0; exact DataW.trod_lt m _ _ _ hm
  have ok0 := hval 0 66 v0 rfl rfl
  simp only [Value.okWide, Try.underlying66] at ok0
  obtain ⟨cs0, rfl, _, _⟩ := ok0
  obtain ⟨F0, hF0, hgo0⟩ := V.opnForest.arg hsz (j := 0) rfl rfl h0
  obtain ⟨_, l0, μ0, hs0, _, hL0, _, ⟨an0, ab0, rfl, hR0⟩⟩ := hgo0 (fun _ => none) [] (V.SimR.nil W)
  obtain ⟨a1, rfl, rfl, rfl, w1⟩ := open_int Try.underlying2 (hval 1 2 v1 rfl rfl) h1
  obtain ⟨a2, rfl, rfl, rfl, w2⟩ := open_int Try.underlying2 (hval 2 2 v2 rfl rfl) h2
  clear hA0 hval0 hsz0 hsz
  refine (V.row_ok (V.calOK 9) (args := [.agg #[.slice an0 F0.n.length (V.sg an0 3), .slice ab0 F0.b.length (V.sg ab0 2)], .int .i64 a1, .int .i64 a2]) (rargs := [.agg cs0, .int .i64 a1, .int .i64 a2]) (V.law_c _ _ _ hR0 hF0 a1 a2 w1 w2) (V.L2.cons (show V.R2 _ _ _ from ⟨cs0, rfl, hL0⟩) (V.L2.cons (show V.R2 _ _ _ from rfl) (V.L2.cons (show V.R2 _ _ _ from rfl) V.L2.nil))) hs0.sim).mono fun e W' ⟨he, bel0⟩ => ?_
  have bel := bel0
  subst he
  exact ⟨_, rfl, _, _, _, [], _, [], hW', trodAll_mk1 (shut_bool Try.underlying4 _), (trodAll_cons_mk (Below.trod laidOut (by kernel_rfl) (of_decide_eq_true (by kernel_rfl)) k0 bel lt0) (trodAll_cons_mk (shut_int Try.underlying2 w1) (trodAll_cons_mk (shut_int Try.underlying2 w2) trodAll_mk0))), rfl, bel.frame _, fun h => by cases h⟩
theorem closed : joinedFacts Try.pinned.checked.prog 16 Try.f16 Rows.fnExactClearTreeSpec Rows.fnExactClearTreeRow = true := by
  rw [joinedFacts, Order.may, Order.lifts, Order.made]
  kernel_rfl
theorem over : Rows.fnExactClearTreeRow.holds Try.pinned (OpenSpec.ofChange Rows.fnExactClearTreeSpec) :=
  OpenClaim.holds_of_wide 16 Try.f16 rfl rfl rfl rfl rfl rfl rfl ⟨rfl, rfl, rfl, rfl, rfl⟩ rfl rfl rfl rfl rfl (by kernel_rfl) Try.func16 closed
    (of_decide_eq_true (by kernel_rfl)) (by unfold Func.isWrapper; first | (rw [if_pos (by decide +kernel)]; kernel_rfl) | (rw [if_neg (by decide +kernel)]; exact ⟨rfl, rfl⟩))
    (fun os started H enc _ => lifted os started H enc)
theorem proved : Rows.FnExactClearTreeSaid := over
#print axioms proved
end Go.Proofs.Ytmcljallamhccaa.fnExactClearTree
namespace Go.Proofs.Ytmcljallamhccaa
/-- The row, under a short name, for the claim. -/
theorem fnExactClearTree_holds : Rows.FnExactClearTreeSaid := fnExactClearTree.proved
end Go.Proofs.Ytmcljallamhccaa
