/- The law FnJournals of the program holds at whatever its argument reads as: the row, out of what the machine of values computes. -/
import Derived.Test.YtaahjfjpbilfnaaRows
import Derived.Test.YtaahjfjpbilfnaaOrder
import Derived.Test.YtaahjfjpbilfnaaVMW
import Derived.Test.YtaahjfjpbilfnaaVCIC
import Derived.Test.YtaahjfjpbilfnaaVFnJournals
import Derived.WalkKit
import Derived.ProofKit
import Derived.OpenShut
import Derived.ShutString
import Derived.ChangeOld
import Derived.Below
import Derived.SizedLaws
namespace Go.Proofs.Ytaahjfjpbilfnaa.fnJournals
open Go.ChangeShapes Go.WideShapes Go.ChangeAt Go.RowKit
open Go.ChangeMaps (open_string shut_string)
set_option linter.unusedVariables false
theorem own : ownKnob Try.prog.godebug = none := by kernel_rfl
theorem laidOut : laidOutB Try.prog = true := by kernel_rfl
set_option maxRecDepth 100000 in
theorem lifted (os : Os) (started : os.Started) (H : Type) (enc : TypeId × Value → H) :
    ReturnsInHanded {} Try.checked os 15 .any (Rows.fnJournalsSpec.pre6 enc Try.prog Try.f15 Rows.fnJournalsRow.domain false) (Rows.fnJournalsSpec.post enc Try.prog Try.f15 false true false false) := by
  refine returnsInHanded_of_change_sized (C := Try.checked) own started (by kernel_rfl) Try.func15
    (ChangeSpec.witness6 (enc := enc) (C := Try.checked) false ⟨#[], #[.slice none 0 0], []⟩ 12 (by kernel_rfl) (by kernel_rfl) (by kernel_rfl) (by kernel_rfl)) ?_
  intro W base args ds gs before hval0 hW hcnd hsz0 _
  have hsz : (DataW.weightsEach Try.prog (Try.f15.params.toList ++ Rows.fnJournalsSpec.plain.varTypes Try.prog) (ds ++ gs)).all (· ≤ reachBytes) = true := hsz0
  have hval : ∀ (j : Nat) t v, Try.f15.params[j]? = some t → args[j]? = some v → Value.okWide Try.prog W .any base t v := hval0
  have hW' := hW
  obtain ⟨p, q, hA0, hV, rfl, hfz, hnd⟩ := hW
  have hA : DataW.TrodAll enc Try.prog W 0 (fun _ => true) true Try.f15.params.toList args.toList ds p := hA0
  rw [Try.params15] at hA hval hsz
  obtain ⟨v0, vs0, d0, ds0, p0, q0, hargs, rfl, rfl, h0, r0⟩ := trodAll_cons hA
  obtain ⟨rfl, rfl, rfl⟩ := trodAll_nil r0
  obtain rfl : args = #[v0] := by cases args; simp_all
  obtain ⟨rfl, rfl⟩ := trodVars_none hV
  have k0 := h0
  have lt0 : ∀ x ∈ p0, x.block < W.heap.size := by obtain ⟨m, hm⟩ := k0; exact DataW.trod_lt m _ _ _ hm
  have ok0 := hval 0 39 v0 rfl rfl
  have nag0 := V.not_agg Try.underlying39 ok0
  obtain ⟨F0, hF0, hgo0⟩ := V.opnBytes.arg hsz (j := 0) rfl rfl h0
  obtain ⟨_, l0, μ0, hs0, _, hL0, _, ⟨ac0, rfl, hR0⟩⟩ := hgo0 (fun _ => none) [] (V.SimR.nil W)
  rw [V.cells_one nag0] at hL0
  clear hA0 hval0 hsz0 hsz
  refine (V.row_ok (V.calOK 10) (args := [.slice ac0 F0.length (V.sg ac0 1)]) (rargs := [v0]) (V.law_c _ _ _ hR0 hF0) (V.L2.cons (show V.R2 _ _ _ from V.l2_one hL0) V.L2.nil) hs0.sim).mono fun e W' ⟨he, bel0⟩ => ?_
  have bel := bel0
  subst he
  exact ⟨_, rfl, _, _, _, [], _, [], hW', trodAll_mk1 (shut_bool Try.underlying4 _), (trodAll_cons_mk (Below.trod laidOut (by kernel_rfl) (of_decide_eq_true (by kernel_rfl)) k0 bel lt0) trodAll_mk0), rfl, bel.frame _, fun h => by cases h⟩
theorem closed : joinedFacts Try.pinned.checked.prog 15 Try.f15 Rows.fnJournalsSpec Rows.fnJournalsRow = true := by
  rw [joinedFacts, Order.may, Order.lifts, Order.made]
  kernel_rfl
theorem over : Rows.fnJournalsRow.holds Try.pinned (OpenSpec.ofChange Rows.fnJournalsSpec) :=
  OpenClaim.holds_of_wide 15 Try.f15 rfl rfl rfl rfl rfl rfl rfl ⟨rfl, rfl, rfl, rfl, rfl⟩ rfl rfl rfl rfl rfl (by kernel_rfl) Try.func15 closed
    (of_decide_eq_true (by kernel_rfl)) (by unfold Func.isWrapper; first | (rw [if_pos (by decide +kernel)]; kernel_rfl) | (rw [if_neg (by decide +kernel)]; exact ⟨rfl, rfl⟩))
    (fun os started H enc _ => lifted os started H enc)
theorem proved : Rows.FnJournalsSaid := over
#print axioms proved
end Go.Proofs.Ytaahjfjpbilfnaa.fnJournals
namespace Go.Proofs.Ytaahjfjpbilfnaa
/-- The row, under a short name, for the claim. -/
theorem fnJournals_holds : Rows.FnJournalsSaid := fnJournals.proved
end Go.Proofs.Ytaahjfjpbilfnaa
