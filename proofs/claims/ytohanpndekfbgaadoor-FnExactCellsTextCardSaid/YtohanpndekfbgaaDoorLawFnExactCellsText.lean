/- The law FnExactCellsText of the program holds at whatever its argument reads as: the row, out of what the machine of values computes. -/
import Derived.Test.YtohanpndekfbgaaDoorRows
import Derived.Test.YtohanpndekfbgaaDoorOrder
import Derived.Test.YtohanpndekfbgaaDoorVMW
import Derived.Test.YtohanpndekfbgaaDoorVCIL
import Derived.Test.YtohanpndekfbgaaDoorVXD
import Derived.Test.YtohanpndekfbgaaDoorVTab
import Derived.Test.YtohanpndekfbgaaDoorTie
import Derived.Test.YtohanpndekfbgaaDoorCards
import Derived.Lay
import Derived.Handed
import Derived.MakeChecks
import Derived.SevenTiedAt
import Derived.WalkKit
import Derived.ProofKit
import Derived.OpenShut
import Derived.ShutString
import Derived.ChangeOld
import Derived.Below
import Derived.SizedLaws
namespace Go.Proofs.YtohanpndekfbgaaDoor.fnExactCellsText
open Go.ChangeShapes Go.WideShapes Go.ChangeAt Go.RowKit
open Go.ChangeMaps (open_string shut_string)
set_option linter.unusedVariables false
theorem own : ownKnob Tryd.prog.godebug = none := by kernel_rfl
theorem laidOut : laidOutB Tryd.prog = true := by kernel_rfl
set_option maxRecDepth 100000 in
theorem lifted (os : Os) (started : os.Started) (H : Type) (enc : TypeId × Value → H) :
    ReturnsInHanded {} Tryd.checked os 3 .any (fun w args => (Rows.fnExactCellsTextSpec.pre enc Tryd.prog Tryd.f3 [] false w args ∧ laidMetH Tryd.prog Rows.fnExactCellsTextRow.laid w) ∧ sizedMet enc Tryd.prog Tryd.f3 (OpenSpec.ofChange Rows.fnExactCellsTextSpec) false w args) (Rows.fnExactCellsTextSpec.post enc Tryd.prog Tryd.f3 false true false false) := by
  refine returnsInHanded_of_change_and (C := Tryd.checked) (X := fun w _ => laidMetH Tryd.prog Rows.fnExactCellsTextRow.laid w) (fun _ _ _ hh h => h.of_heap hh) own started (by kernel_rfl) Tryd.func3
    (ChangeSpec.witness_shaped (enc := enc) (C := Tryd.checked) (os := os) (X := fun w _ => laidMetH Tryd.prog Rows.fnExactCellsTextRow.laid w) false (World.laidAll Tryd.prog os Rows.fnExactCellsTextRow.laid) #[.agg #[.int .i64 0, .slice none 0 0, .slice none 0 0, .slice none 0 0]] 12 (World.laidAll_os _ _ _)
      (World.shaped_of_ZipB (by kernel_rfl) (by kernel_rfl)) (by kernel_rfl) (by kernel_rfl) (by kernel_rfl)
      (by rw [MakeChecks.laidMetH_plain _ _ _ (by kernel_rfl)]; exact laidMet_laidAll _ (by kernel_rfl) (by kernel_rfl))) ?_
  intro W base args ds gs before hval0 hW hcnd hsz0 hL _
  obtain ⟨gi, te, fl, hg, hheap⟩ := V.laid_tab hL
  have hsz : (DataW.weightsEach Tryd.prog (Tryd.f3.params.toList ++ Rows.fnExactCellsTextSpec.plain.varTypes Tryd.prog) (ds ++ gs)).all (· ≤ reachBytes) = true := hsz0
  have hval : ∀ (j : Nat) t v, Tryd.f3.params[j]? = some t → args[j]? = some v → Value.okWide Tryd.prog W .any base t v := hval0
  have hW' := hW
  obtain ⟨p, q, hA0, hV, rfl, hfz, hnd⟩ := hW
  have hA : DataW.TrodAll enc Tryd.prog W 0 (fun _ => true) true Tryd.f3.params.toList args.toList ds p := hA0
  rw [Tryd.params3] at hA hval hsz
  obtain ⟨v0, vs0, d0, ds0, p0, q0, hargs, rfl, rfl, h0, r0⟩ := trodAll_cons hA
  obtain ⟨rfl, rfl, rfl⟩ := trodAll_nil r0
  obtain rfl : args = #[v0] := by cases args; simp_all
  obtain ⟨rfl, rfl⟩ := trodVars_none hV
  have k0 := h0
  have lt0 : ∀ x ∈ p0, x.block < W.heap.size := by obtain ⟨m, hm⟩ := k0; exact DataW.trod_lt m _ _ _ hm
  have ok0 := hval 0 26 v0 rfl rfl
  simp only [Value.okWide, Tryd.underlying26] at ok0
  obtain ⟨cs0, rfl, _, _⟩ := ok0
  obtain ⟨F0, hF0, hgo0⟩ := V.opnPlain.arg hsz (j := 0) rfl rfl h0
  obtain ⟨_, l0, μ0, hs0, _, hL0, _, ⟨av0, ac0, az0, rfl, hR0⟩⟩ := hgo0 (fun _ => none) [] (V.SimR.nil W)
  clear hA0 hval0 hsz0 hsz
  refine (V.row_ok (V.calOK (V.natOK (e := te) (fl := fl) hg) 7) (args := [.agg #[.int .i64 F0.b, .slice av0 F0.v.length (V.sg av0 3), .slice ac0 F0.c.length (V.sg ac0 3), .slice az0 F0.s.length (V.sg az0 1)]]) (rargs := [.agg cs0]) (V.law_c _ _ _ hR0 hF0) (V.L2.cons (show V.R2 _ _ _ from ⟨cs0, rfl, hL0⟩) V.L2.nil) (hs0.sim fun x hx => by obtain rfl := List.mem_singleton.1 hx; exact hheap)).mono fun e W' ⟨he, bel0⟩ => ?_
  have bel := bel0
  subst he
  exact ⟨_, rfl, _, _, _, [], _, [], hW', trodAll_mk1 (shut_bool Tryd.underlying4 _), (trodAll_cons_mk (Below.trod laidOut (by kernel_rfl) (of_decide_eq_true (by kernel_rfl)) k0 bel lt0) trodAll_mk0), rfl, bel.frame _, fun h => by cases h⟩
theorem closed : joinedFacts Tryd.pinned.checked.prog 3 Tryd.f3 Rows.fnExactCellsTextSpec Rows.fnExactCellsTextRow = true := by
  rw [joinedFacts, Order.may, Order.lifts, Order.made]
  kernel_rfl
theorem over : Rows.fnExactCellsTextRow.holds Tryd.pinned (OpenSpec.ofChange Rows.fnExactCellsTextSpec) :=
  OpenClaim.holds_of_wide 3 Tryd.f3 rfl rfl rfl rfl rfl rfl rfl ⟨rfl, rfl, rfl, rfl, rfl⟩ rfl rfl rfl rfl rfl (by kernel_rfl) Tryd.func3 closed
    (of_decide_eq_true (by kernel_rfl)) (by unfold Func.isWrapper; first | (rw [if_pos (by decide +kernel)]; kernel_rfl) | (rw [if_neg (by decide +kernel)]; exact ⟨rfl, rfl⟩))
    (fun os started H enc _ => lifted os started H enc)
theorem proved : Rows.FnExactCellsTextSaid := over
#print axioms proved
end Go.Proofs.YtohanpndekfbgaaDoor.fnExactCellsText
namespace Go.Proofs.YtohanpndekfbgaaDoor
/-- The tied card of the law. -/
theorem fnExactCellsText_holds : Rows.FnExactCellsTextCardSaid :=
  Claim7.holds_tied_plain_at .later [] [.data, .data, .data] true (true, "97353507ecec501807e1dbb34e40d296d4a1de67568145bccdaf7a75744c3525") false fnExactCellsText.proved (fun _ h => by cases h) (by kernel_rfl) (fun _ h => by cases h) fnExactCellsText_row_tie rfl ⟨rfl, rfl⟩ (by kernel_rfl) rfl
    (fun f fn hf hfn => by
      obtain rfl : f = 3 := Option.some.inj ((show Tryd.prog.funcNamed "loop.example/g00277/laws.FnExactCellsText" = some 3 by kernel_rfl).symm.trans hf) |>.symm
      obtain rfl : fn = Tryd.f3 := (Option.some.inj (Tryd.func3.symm.trans hfn)).symm
      exact ⟨by kernel_rfl, fun j t ht => by
        rw [Tryd.params3] at ht
        have hm : t ∈ [26] := by simpa using Array.mem_of_getElem? ht
        have hall : ([26].all fun u => !Tryd.prog.wantsStandIn u) = true := by kernel_rfl
        exact (show Tryd.prog.wantsStandIn t = false by simpa using List.all_eq_true.1 hall t hm)⟩)
    (by kernel_rfl)
#print axioms fnExactCellsText_holds
end Go.Proofs.YtohanpndekfbgaaDoor
