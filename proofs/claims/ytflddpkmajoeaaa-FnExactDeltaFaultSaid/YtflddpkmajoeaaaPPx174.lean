-- Laid by a program of this session's (wip/xprint.py) over the kit's print. Nothing in it is trusted: Lean checks it.
import Derived.Test.YtflddpkmajoeaaaPPx0
import Derived.Test.YtflddpkmajoeaaaPPx162
import Derived.Test.YtflddpkmajoeaaaPPx164
import Derived.Test.YtflddpkmajoeaaaPPx167
import Derived.Test.YtflddpkmajoeaaaPPx170
import Derived.Test.YtflddpkmajoeaaaPPx173
namespace Go.Proofs.Ytflddpkmajoeaaa.PP
open Go.RowKit Go.Proofs.YtflddpkmajoeaaaW.PrintWords Go.Proofs.YtflddpkmajoeaaaW.PrintLast Go.Proofs.YtflddpkmajoeaaaW.PrintMore
set_option maxHeartbeats 8000000
set_option maxRecDepth 100000
attribute [local go_sem] max2_int min2_int max_two min_two max_three min_three max_four min_four   -- for this text's walks alone
set_option linter.unusedVariables false
set_option linter.unusedSimpArgs false

/-! ### laws_FnExactDeltaFault: function 12 -/
def laws_FnExactDeltaFault.f (k : Nat) (a0_0 : Int) (a0_1 : Int) (l0_2 : List (S143)) (l0_3 : List (S175)) : Option (Bool) := (laws_szDelta.f a0_0 a0_1 l0_2 l0_3 1048576).bind fun t1129 => (if t1129 < 0 then (some true) else ((laws_toDelta.f k a0_0 a0_1 l0_2 l0_3).bind fun bt1130 => ((spec_DeltaFault.f k bt1130.1 bt1130.2.1 bt1130.2.2.1 bt1130.2.2.2).bind fun t1138 => ((laws_toDelta.f k a0_0 a0_1 l0_2 l0_3).bind fun bt1139 => ((impl_DeltaFault.f k bt1139.1 bt1139.2.1 bt1139.2.2.1 bt1139.2.2.2).bind fun t1148 => (if t1148 = t1138 then ((laws_toDelta.f k a0_0 a0_1 l0_2 l0_3).bind fun bt1149 => ((laws_eqDelta.f k bt1139.1 bt1139.2.1 bt1139.2.2.1 bt1139.2.2.2 bt1149.1 bt1149.2.1 bt1149.2.2.1 bt1149.2.2.2).bind fun t1157 => (if t1157 = true then (some true) else (some false)))) else (some false)))))))
theorem laws_FnExactDeltaFault.mono : ∀ a0 a1 a2 a3 k, LeO (laws_FnExactDeltaFault.f k a0 a1 a2 a3) (laws_FnExactDeltaFault.f (k + 1) a0 a1 a2 a3) := by
 intro a0 a1 a2 a3 k
 unfold laws_FnExactDeltaFault.f
 repeat' first
   | (with_reducible exact impl_DeltaFault.mono _ _ _ _ _)
   | (with_reducible exact laws_eqDelta.mono _ _ _ _ _ _ _ _ _)
   | (with_reducible exact laws_toDelta.mono _ _ _ _ _)
   | (with_reducible exact spec_DeltaFault.mono _ _ _ _ _)
   | (with_reducible exact LeO.refl _)
   | (with_reducible exact LeO.none _)
   | (with_reducible refine LeO.ite ?_ ?_)
   | (with_reducible refine LeO.bind ?_ (fun _ => ?_))
   | exact impl_DeltaFault.mono _ _ _ _ _
   | exact laws_eqDelta.mono _ _ _ _ _ _ _ _ _
   | exact laws_toDelta.mono _ _ _ _ _
   | exact spec_DeltaFault.mono _ _ _ _ _
   | exact LeO.none _
   | refine LeO.ite ?_ ?_
   | refine LeO.bind ?_ (fun _ => ?_)
theorem laws_FnExactDeltaFault.calls (k : Nat) (a0_0 : Int) (a0_1 : Int) (A0_2 : Option Addr) (c0_2 : Nat) (l0_2 : List (S143)) (A0_3 : Option Addr) (c0_3 : Nat) (l0_3 : List (S175)) (r : Bool) (w : World) (hr0_2 : Kd.C k143 w A0_2 l0_2.length l0_2) (hc0_2 : l0_2.length ≤ c0_2) (hr0_3 : Kd.C k175 w A0_3 l0_3.length l0_3) (hc0_3 : l0_3.length ≤ c0_3) (hrt : r = true) (h : laws_FnExactDeltaFault.f k a0_0 a0_1 l0_2 l0_3 = some r) :
  Calls Try.prog 12 #[.agg #[.int .i64 a0_0, .int .i64 a0_1, .slice A0_2 l0_2.length c0_2, .slice A0_3 l0_3.length c0_3]] w fun e w' => e = .returned (.bool r) ∧ Below w.heap.size w w' := by
 have HRT := Aside0.mk hrt
 clear hrt
 have hu79 := Try.underlying79
 have hu84 := Try.underlying84
 have HR0_2 := Aside0.mk hr0_2
 have HC0_2 := Aside0.mk hc0_2
 clear hr0_2 hc0_2
 have HR0_3 := Aside0.mk hr0_3
 have HC0_3 := Aside0.mk hc0_3
 clear hr0_3 hc0_3
 have HB := Aside0.mk (Below.refl w.heap.size w)
 have H : ((laws_szDelta.f a0_0 a0_1 l0_2 l0_3 1048576).bind fun t1129 => (if t1129 < 0 then (some true) else ((laws_toDelta.f k a0_0 a0_1 l0_2 l0_3).bind fun bt1130 => ((spec_DeltaFault.f k bt1130.1 bt1130.2.1 bt1130.2.2.1 bt1130.2.2.2).bind fun t1138 => ((laws_toDelta.f k a0_0 a0_1 l0_2 l0_3).bind fun bt1139 => ((impl_DeltaFault.f k bt1139.1 bt1139.2.1 bt1139.2.2.1 bt1139.2.2.2).bind fun t1148 => (if t1148 = t1138 then ((laws_toDelta.f k a0_0 a0_1 l0_2 l0_3).bind fun bt1149 => ((laws_eqDelta.f k bt1139.1 bt1139.2.1 bt1139.2.2.1 bt1139.2.2.2 bt1149.1 bt1149.2.1 bt1149.2.2.1 bt1149.2.2.2).bind fun t1157 => (if t1157 = true then (some true) else (some false)))) else (some false)))))))) = some r := h
 clear h
 replace H := Option.bind_eq_some_iff.mp H
 obtain ⟨t1129, A20, H⟩ := H
 replace H : (if t1129 < 0 then (some true) else ((laws_toDelta.f k a0_0 a0_1 l0_2 l0_3).bind fun bt1130 => ((spec_DeltaFault.f k bt1130.1 bt1130.2.1 bt1130.2.2.1 bt1130.2.2.2).bind fun t1138 => ((laws_toDelta.f k a0_0 a0_1 l0_2 l0_3).bind fun bt1139 => ((impl_DeltaFault.f k bt1139.1 bt1139.2.1 bt1139.2.2.1 bt1139.2.2.2).bind fun t1148 => (if t1148 = t1138 then ((laws_toDelta.f k a0_0 a0_1 l0_2 l0_3).bind fun bt1149 => ((laws_eqDelta.f k bt1139.1 bt1139.2.1 bt1139.2.2.1 bt1139.2.2.2 bt1149.1 bt1149.2.1 bt1149.2.2.1 bt1149.2.2.2).bind fun t1157 => (if t1157 = true then (some true) else (some false)))) else (some false))))))) = some r := H
 have A2 := Aside0.mk A20
 clear A20
 by_cases c3 : t1129 < 0
 ·
  rw [if_pos c3] at H
  have c3b0 : decide (t1129 < 0) = true := decide_eq_true c3
  clear c3
  obtain rfl := Option.some.inj H
  go_enter Try.func12, Try.ntmps12
  go_wp2_with (first|((with_reducible refine gate_dst (N := 1) rfl ?_);refine box_event ?hg (N := 1) ?hd (cs := #[.int .i64 a0_0, .int .i64 a0_1, .slice A0_2 l0_2.length c0_2, .slice A0_3 l0_3.length c0_3]) (t := 79) ?hr ?_;(case hd => rfl);(case hg => rfl);(case hr => first|(go_simp;done)|(go_simp;rfl));intro gb1128 hg w4 hbox hb;have n0_ := Aside0.mk (below_step (by repeat (first|(with_reducible first|exact HB.out|apply below_alloc|apply pw_below_drewN|apply below_drew1)|exact HB.out)) hb);have n1_ := Aside0.mk (hbox);have n2_ := Aside0.mk ((by rw [hg];exact (below_size (by repeat (first|(with_reducible first|exact HB.out|apply below_alloc|apply pw_below_drewN|apply below_drew1)|exact HB.out))) : w.heap.size ≤ gb1128));have n3_ := Aside0.mk ((by rw [hg];exact (below_size (by repeat (first|(with_reducible first|exact HB.out|apply below_alloc|apply pw_below_drewN|apply below_drew1)|exact HB.out))) : w.heap.size ≤ gb1128));clear HB;have HB := n0_;have BK1128 := n1_;have GW1128 := n2_;have GE1128 := n3_;clear n0_ n1_ n2_ n3_;clear hb hbox hg;have hcz5_0 : w4.cell? ⟨gb1128, 0, none⟩ = some (.int .i64 a0_0) := (blk_cell BK1128.out 0).trans rfl;have hcz5_1 : w4.cell? ⟨gb1128, 1, none⟩ = some (.int .i64 a0_1) := (blk_cell BK1128.out 1).trans rfl;have hcz5_2 : w4.cell? ⟨gb1128, 2, none⟩ = some (.slice A0_2 l0_2.length c0_2) := (blk_cell BK1128.out 2).trans rfl;have hcz5_3 : w4.cell? ⟨gb1128, 3, none⟩ = some (.slice A0_3 l0_3.length c0_3) := (blk_cell BK1128.out 3).trans rfl;have hfz5_0 := blk_frozen BK1128.out 0;have hfz5_1 := blk_frozen BK1128.out 1;have hfz5_2 := blk_frozen BK1128.out 2;have hfz5_3 := blk_frozen BK1128.out 3)|((with_reducible refine gate_callee (f := 48) rfl ?_);refine goesL_ (some 9) rfl rfl Try.func48 (by kernel_rfl) rfl #[.agg #[.int .i64 a0_0, .int .i64 a0_1, .slice A0_2 l0_2.length c0_2, .slice A0_3 l0_3.length c0_3], .int .i64 1048576] rfl (by (try simp only [List.map_toArray, List.map_cons, List.map_nil]);first|done|rfl|(simp only [List.length_drop, List.length_take];rfl)) ?_;(with_reducible refine (laws_szDelta.calls a0_0 a0_1 _ _ l0_2 _ _ l0_3 1048576 t1129 _ ?side1 ?side2 ?side3 ?side4 A2.out).mono ?_);(case side1 => repeat (first|exact (Kd.C_below HR0_2.out HB.out)|(with_reducible refine Kd.C_alloc ?_ _)|(with_reducible refine Kd.C_drewN ?_ _)|(with_reducible refine Kd.C_drew ?_)));(case side2 => exact HC0_2.out);(case side3 => repeat (first|exact (Kd.C_below HR0_3.out HB.out)|(with_reducible refine Kd.C_alloc ?_ _)|(with_reducible refine Kd.C_drewN ?_ _)|(with_reducible refine Kd.C_drew ?_)));(case side4 => exact HC0_3.out);rintro e w6 ⟨rfl, hb⟩;refine ⟨_, rfl, ?_⟩;have n0_ := Aside0.mk (blk_below (g := gb1128) (o := .cells #[.int .i64 a0_0, .int .i64 a0_1, .slice A0_2 l0_2.length c0_2, .slice A0_3 l0_3.length c0_3] 79 (0, 0)) (by (with_reducible repeat (first|refine blk_drewN ?_ _|refine blk_drew ?_|refine blk_alloc ?_ _));exact BK1128.out) hb);have n1_ := Aside0.mk (below_step (by repeat (first|(with_reducible first|exact HB.out|apply below_alloc|apply pw_below_drewN|apply below_drew1|refine below_set ?_ GE1128.out)|exact HB.out)) hb);clear BK1128;clear HB;have BK1128 := n0_;have HB := n1_;clear n0_ n1_;(try clear hb);(try clear hb2);(try clear hk);(try clear hi)))
  go_ret
  exact ⟨by first|rfl|(simp [errW_none, errW_some] <;> rfl)|(simp [*, errW_none, errW_some] <;> rfl), by repeat (first|(with_reducible first|exact HB.out|apply below_alloc|apply pw_below_drewN|apply below_drew1|refine below_set ?_ GE1128.out)|exact HB.out)⟩
 ·
  rw [if_neg c3] at H
  have c3b0 : decide (t1129 < 0) = false := decide_eq_false c3
  clear c3
  replace H := Option.bind_eq_some_iff.mp H
  obtain ⟨⟨t1130, t1131, t1132, t1135⟩, A70, H⟩ := H
  replace H : ((spec_DeltaFault.f k t1130 t1131 t1132 t1135).bind fun t1138 => ((laws_toDelta.f k a0_0 a0_1 l0_2 l0_3).bind fun bt1139 => ((impl_DeltaFault.f k bt1139.1 bt1139.2.1 bt1139.2.2.1 bt1139.2.2.2).bind fun t1148 => (if t1148 = t1138 then ((laws_toDelta.f k a0_0 a0_1 l0_2 l0_3).bind fun bt1149 => ((laws_eqDelta.f k bt1139.1 bt1139.2.1 bt1139.2.2.1 bt1139.2.2.2 bt1149.1 bt1149.2.1 bt1149.2.2.1 bt1149.2.2.2).bind fun t1157 => (if t1157 = true then (some true) else (some false)))) else (some false))))) = some r := H
  have A7 := Aside0.mk A70
  clear A70
  replace H := Option.bind_eq_some_iff.mp H
  obtain ⟨t1138, A80, H⟩ := H
  replace H : ((laws_toDelta.f k a0_0 a0_1 l0_2 l0_3).bind fun bt1139 => ((impl_DeltaFault.f k bt1139.1 bt1139.2.1 bt1139.2.2.1 bt1139.2.2.2).bind fun t1148 => (if t1148 = t1138 then ((laws_toDelta.f k a0_0 a0_1 l0_2 l0_3).bind fun bt1149 => ((laws_eqDelta.f k bt1139.1 bt1139.2.1 bt1139.2.2.1 bt1139.2.2.2 bt1149.1 bt1149.2.1 bt1149.2.2.1 bt1149.2.2.2).bind fun t1157 => (if t1157 = true then (some true) else (some false)))) else (some false)))) = some r := H
  have A8 := Aside0.mk A80
  clear A80
  replace H := Option.bind_eq_some_iff.mp H
  obtain ⟨⟨t1139, t1140, t1141, t1144⟩, A90, H⟩ := H
  replace H : ((impl_DeltaFault.f k t1139 t1140 t1141 t1144).bind fun t1148 => (if t1148 = t1138 then ((laws_toDelta.f k a0_0 a0_1 l0_2 l0_3).bind fun bt1149 => ((laws_eqDelta.f k t1139 t1140 t1141 t1144 bt1149.1 bt1149.2.1 bt1149.2.2.1 bt1149.2.2.2).bind fun t1157 => (if t1157 = true then (some true) else (some false)))) else (some false))) = some r := H
  have A9 := Aside0.mk A90
  clear A90
  replace H := Option.bind_eq_some_iff.mp H
  obtain ⟨t1148, A100, H⟩ := H
  replace H : (if t1148 = t1138 then ((laws_toDelta.f k a0_0 a0_1 l0_2 l0_3).bind fun bt1149 => ((laws_eqDelta.f k t1139 t1140 t1141 t1144 bt1149.1 bt1149.2.1 bt1149.2.2.1 bt1149.2.2.2).bind fun t1157 => (if t1157 = true then (some true) else (some false)))) else (some false)) = some r := H
  have A10 := Aside0.mk A100
  clear A100
  by_cases c11 : t1148 = t1138
  ·
   rw [if_pos c11] at H
   have c11b0 : (t1148 == t1138) = true := beq_iff_eq.mpr c11
   have c11b1 : (t1148 != t1138) = false := bne_eq_false_iff_eq.mpr c11
   clear c11
   replace H := Option.bind_eq_some_iff.mp H
   obtain ⟨⟨t1149, t1150, t1151, t1154⟩, A120, H⟩ := H
   replace H : ((laws_eqDelta.f k t1139 t1140 t1141 t1144 t1149 t1150 t1151 t1154).bind fun t1157 => (if t1157 = true then (some true) else (some false))) = some r := H
   have A12 := Aside0.mk A120
   clear A120
   replace H := Option.bind_eq_some_iff.mp H
   obtain ⟨t1157, A130, H⟩ := H
   replace H : (if t1157 = true then (some true) else (some false)) = some r := H
   have A13 := Aside0.mk A130
   clear A130
   by_cases c14 : t1157 = true
   ·
    subst c14
    have H1 : (some true) = some r := by rw [if_pos rfl] at H;exact H
    clear H
    have H := H1
    clear H1
    obtain rfl := Option.some.inj H
    go_enter Try.func12, Try.ntmps12
    try go_wp2_with (first|((with_reducible refine gate_dst (N := 1) rfl ?_);refine box_event ?hg (N := 1) ?hd (cs := #[.int .i64 a0_0, .int .i64 a0_1, .slice A0_2 l0_2.length c0_2, .slice A0_3 l0_3.length c0_3]) (t := 79) ?hr ?_;(case hd => rfl);(case hg => rfl);(case hr => first|(go_simp;done)|(go_simp;rfl));intro gb1128 hg w15 hbox hb;have n0_ := Aside0.mk (below_step (by repeat (first|(with_reducible first|exact HB.out|apply below_alloc|apply pw_below_drewN|apply below_drew1)|exact HB.out)) hb);have n1_ := Aside0.mk (hbox);have n2_ := Aside0.mk ((by rw [hg];exact (below_size (by repeat (first|(with_reducible first|exact HB.out|apply below_alloc|apply pw_below_drewN|apply below_drew1)|exact HB.out))) : w.heap.size ≤ gb1128));have n3_ := Aside0.mk ((by rw [hg];exact (below_size (by repeat (first|(with_reducible first|exact HB.out|apply below_alloc|apply pw_below_drewN|apply below_drew1)|exact HB.out))) : w.heap.size ≤ gb1128));clear HB;have HB := n0_;have BK1128 := n1_;have GW1128 := n2_;have GE1128 := n3_;clear n0_ n1_ n2_ n3_;clear hb hbox hg;have hcz16_0 : w15.cell? ⟨gb1128, 0, none⟩ = some (.int .i64 a0_0) := (blk_cell BK1128.out 0).trans rfl;have hcz16_1 : w15.cell? ⟨gb1128, 1, none⟩ = some (.int .i64 a0_1) := (blk_cell BK1128.out 1).trans rfl;have hcz16_2 : w15.cell? ⟨gb1128, 2, none⟩ = some (.slice A0_2 l0_2.length c0_2) := (blk_cell BK1128.out 2).trans rfl;have hcz16_3 : w15.cell? ⟨gb1128, 3, none⟩ = some (.slice A0_3 l0_3.length c0_3) := (blk_cell BK1128.out 3).trans rfl;have hfz16_0 := blk_frozen BK1128.out 0;have hfz16_1 := blk_frozen BK1128.out 1;have hfz16_2 := blk_frozen BK1128.out 2;have hfz16_3 := blk_frozen BK1128.out 3)|((with_reducible refine gate_callee (f := 48) rfl ?_);refine goesL_ (some 9) rfl rfl Try.func48 (by kernel_rfl) rfl #[.agg #[.int .i64 a0_0, .int .i64 a0_1, .slice A0_2 l0_2.length c0_2, .slice A0_3 l0_3.length c0_3], .int .i64 1048576] rfl (by (try simp only [List.map_toArray, List.map_cons, List.map_nil]);first|done|rfl|(simp only [List.length_drop, List.length_take];rfl)) ?_;(with_reducible refine (laws_szDelta.calls a0_0 a0_1 _ _ l0_2 _ _ l0_3 1048576 t1129 _ ?side1 ?side2 ?side3 ?side4 A2.out).mono ?_);(case side1 => repeat (first|exact (Kd.C_below HR0_2.out HB.out)|(with_reducible refine Kd.C_alloc ?_ _)|(with_reducible refine Kd.C_drewN ?_ _)|(with_reducible refine Kd.C_drew ?_)));(case side2 => exact HC0_2.out);(case side3 => repeat (first|exact (Kd.C_below HR0_3.out HB.out)|(with_reducible refine Kd.C_alloc ?_ _)|(with_reducible refine Kd.C_drewN ?_ _)|(with_reducible refine Kd.C_drew ?_)));(case side4 => exact HC0_3.out);rintro e w17 ⟨rfl, hb⟩;refine ⟨_, rfl, ?_⟩;have n0_ := Aside0.mk (blk_below (g := gb1128) (o := .cells #[.int .i64 a0_0, .int .i64 a0_1, .slice A0_2 l0_2.length c0_2, .slice A0_3 l0_3.length c0_3] 79 (0, 0)) (by (with_reducible repeat (first|refine blk_drewN ?_ _|refine blk_drew ?_|refine blk_alloc ?_ _));exact BK1128.out) hb);have n1_ := Aside0.mk (below_step (by repeat (first|(with_reducible first|exact HB.out|apply below_alloc|apply pw_below_drewN|apply below_drew1|refine below_set ?_ GE1128.out)|exact HB.out)) hb);clear BK1128;clear HB;have BK1128 := n0_;have HB := n1_;clear n0_ n1_;(try clear hb);(try clear hb2);(try clear hk);(try clear hi);have hcz18_0 : w17.cell? ⟨gb1128, 0, none⟩ = some (.int .i64 a0_0) := (blk_cell BK1128.out 0).trans rfl;have hcz18_1 : w17.cell? ⟨gb1128, 1, none⟩ = some (.int .i64 a0_1) := (blk_cell BK1128.out 1).trans rfl;have hcz18_2 : w17.cell? ⟨gb1128, 2, none⟩ = some (.slice A0_2 l0_2.length c0_2) := (blk_cell BK1128.out 2).trans rfl;have hcz18_3 : w17.cell? ⟨gb1128, 3, none⟩ = some (.slice A0_3 l0_3.length c0_3) := (blk_cell BK1128.out 3).trans rfl;have hfz18_0 := blk_frozen BK1128.out 0;have hfz18_1 := blk_frozen BK1128.out 1;have hfz18_2 := blk_frozen BK1128.out 2;have hfz18_3 := blk_frozen BK1128.out 3)|((with_reducible refine gate_callee (f := 50) rfl ?_);refine goesL_ (some 13) rfl rfl Try.func50 (by kernel_rfl) rfl #[.agg #[.int .i64 a0_0, .int .i64 a0_1, .slice A0_2 l0_2.length c0_2, .slice A0_3 l0_3.length c0_3]] rfl (by (try simp only [List.map_toArray, List.map_cons, List.map_nil]);first|done|rfl|(simp only [List.length_drop, List.length_take];rfl)) ?_;(with_reducible refine (laws_toDelta.calls k a0_0 a0_1 _ _ l0_2 _ _ l0_3 t1130 t1131 t1132 t1135 _ ?side1 ?side2 ?side3 ?side4 A7.out).mono ?_);(case side1 => repeat (first|exact (Kd.C_below HR0_2.out HB.out)|(with_reducible refine Kd.C_alloc ?_ _)|(with_reducible refine Kd.C_drewN ?_ _)|(with_reducible refine Kd.C_drew ?_)));(case side2 => exact HC0_2.out);(case side3 => repeat (first|exact (Kd.C_below HR0_3.out HB.out)|(with_reducible refine Kd.C_alloc ?_ _)|(with_reducible refine Kd.C_drewN ?_ _)|(with_reducible refine Kd.C_drew ?_)));(case side4 => exact HC0_3.out);rintro e w19 ⟨v1133, v1136, rfl, ho0, ho1, hb⟩;refine ⟨_, rfl, ?_⟩;have n0_ := Aside0.mk (Kd.R_lower ho0 (below_size (by repeat (first|(with_reducible first|exact HB.out|apply below_alloc|apply pw_below_drewN|apply below_drew1|refine below_set ?_ GE1128.out)|exact HB.out))));have n1_ := Aside0.mk (Kd.R_lower ho1 (below_size (by repeat (first|(with_reducible first|exact HB.out|apply below_alloc|apply pw_below_drewN|apply below_drew1|refine below_set ?_ GE1128.out)|exact HB.out))));have n2_ := Aside0.mk (blk_below (g := gb1128) (o := .cells #[.int .i64 a0_0, .int .i64 a0_1, .slice A0_2 l0_2.length c0_2, .slice A0_3 l0_3.length c0_3] 79 (0, 0)) (by (with_reducible repeat (first|refine blk_drewN ?_ _|refine blk_drew ?_|refine blk_alloc ?_ _));exact BK1128.out) hb);have n3_ := Aside0.mk (below_step (by repeat (first|(with_reducible first|exact HB.out|apply below_alloc|apply pw_below_drewN|apply below_drew1|refine below_set ?_ GE1128.out)|exact HB.out)) hb);clear BK1128;clear HB;have HO1134 := n0_;have HO1137 := n1_;have BK1128 := n2_;have HB := n3_;clear n0_ n1_ n2_ n3_;(try clear hb);(try clear hb2);(try clear hk);(try clear hi);(try clear ho0);(try clear ho1);obtain ⟨Ao20, co20, eo20⟩ := Kd.R_slice HO1134.out;subst eo20;obtain ⟨Ao21, co21, eo21⟩ := Kd.R_slice HO1137.out;subst eo21)|((with_reducible refine gate_callee (f := 49) rfl ?_);refine goesL_ (some 14) rfl rfl Try.func49 (by kernel_rfl) rfl #[.agg #[.int .i64 t1130, .int .i64 t1131, .slice Ao20 t1132.length co20, .slice Ao21 t1135.length co21]] rfl (by (try simp only [List.map_toArray, List.map_cons, List.map_nil]);first|done|rfl|(simp only [List.length_drop, List.length_take];rfl)) ?_;(with_reducible refine (spec_DeltaFault.calls k t1130 t1131 _ _ t1132 _ _ t1135 t1138 _ ?side1 ?side2 ?side3 ?side4 A8.out).mono ?_);(case side1 => repeat (first|exact (Kd.R_reads' HO1134.out).2.2|(with_reducible refine Kd.C_alloc ?_ _)|(with_reducible refine Kd.C_drewN ?_ _)|(with_reducible refine Kd.C_drew ?_)));(case side2 => exact (Kd.R_reads' HO1134.out).2.1);(case side3 => repeat (first|exact (Kd.R_reads' HO1137.out).2.2|(with_reducible refine Kd.C_alloc ?_ _)|(with_reducible refine Kd.C_drewN ?_ _)|(with_reducible refine Kd.C_drew ?_)));(case side4 => exact (Kd.R_reads' HO1137.out).2.1);rintro e w22 ⟨rfl, hb⟩;refine ⟨_, rfl, ?_⟩;have n0_ := Aside0.mk (Kd.R_below (by (with_reducible repeat (first|apply Kd.R_alloc|apply Kd.R_drewN|apply Kd.R_drew));exact HO1134.out) hb);have n1_ := Aside0.mk (Kd.R_below (by (with_reducible repeat (first|apply Kd.R_alloc|apply Kd.R_drewN|apply Kd.R_drew));exact HO1137.out) hb);have n2_ := Aside0.mk (blk_below (g := gb1128) (o := .cells #[.int .i64 a0_0, .int .i64 a0_1, .slice A0_2 l0_2.length c0_2, .slice A0_3 l0_3.length c0_3] 79 (0, 0)) (by (with_reducible repeat (first|refine blk_drewN ?_ _|refine blk_drew ?_|refine blk_alloc ?_ _));exact BK1128.out) hb);have n3_ := Aside0.mk (below_step (by repeat (first|(with_reducible first|exact HB.out|apply below_alloc|apply pw_below_drewN|apply below_drew1|refine below_set ?_ GE1128.out)|exact HB.out)) hb);clear HO1134;clear HO1137;clear BK1128;clear HB;have HO1134 := n0_;have HO1137 := n1_;have BK1128 := n2_;have HB := n3_;clear n0_ n1_ n2_ n3_;(try clear hb);(try clear hb2);(try clear hk);(try clear hi);have hcz23_0 : w22.cell? ⟨gb1128, 0, none⟩ = some (.int .i64 a0_0) := (blk_cell BK1128.out 0).trans rfl;have hcz23_1 : w22.cell? ⟨gb1128, 1, none⟩ = some (.int .i64 a0_1) := (blk_cell BK1128.out 1).trans rfl;have hcz23_2 : w22.cell? ⟨gb1128, 2, none⟩ = some (.slice A0_2 l0_2.length c0_2) := (blk_cell BK1128.out 2).trans rfl;have hcz23_3 : w22.cell? ⟨gb1128, 3, none⟩ = some (.slice A0_3 l0_3.length c0_3) := (blk_cell BK1128.out 3).trans rfl;have hfz23_0 := blk_frozen BK1128.out 0;have hfz23_1 := blk_frozen BK1128.out 1;have hfz23_2 := blk_frozen BK1128.out 2;have hfz23_3 := blk_frozen BK1128.out 3)|((with_reducible refine gate_callee (f := 50) rfl ?_);refine goesL_ (some 16) rfl rfl Try.func50 (by kernel_rfl) rfl #[.agg #[.int .i64 a0_0, .int .i64 a0_1, .slice A0_2 l0_2.length c0_2, .slice A0_3 l0_3.length c0_3]] rfl (by (try simp only [List.map_toArray, List.map_cons, List.map_nil]);first|done|rfl|(simp only [List.length_drop, List.length_take];rfl)) ?_;(with_reducible refine (laws_toDelta.calls k a0_0 a0_1 _ _ l0_2 _ _ l0_3 t1139 t1140 t1141 t1144 _ ?side1 ?side2 ?side3 ?side4 A9.out).mono ?_);(case side1 => repeat (first|exact (Kd.C_below HR0_2.out HB.out)|(with_reducible refine Kd.C_alloc ?_ _)|(with_reducible refine Kd.C_drewN ?_ _)|(with_reducible refine Kd.C_drew ?_)));(case side2 => exact HC0_2.out);(case side3 => repeat (first|exact (Kd.C_below HR0_3.out HB.out)|(with_reducible refine Kd.C_alloc ?_ _)|(with_reducible refine Kd.C_drewN ?_ _)|(with_reducible refine Kd.C_drew ?_)));(case side4 => exact HC0_3.out);rintro e w24 ⟨v1142, v1145, rfl, ho0, ho1, hb⟩;refine ⟨_, rfl, ?_⟩;have n0_ := Aside0.mk (Kd.R_elder' (by (with_reducible repeat (first|apply Kd.R_alloc|apply Kd.R_drewN|apply Kd.R_drew));exact HO1134.out) (Kd.R_base ho0) hb);have n1_ := Aside0.mk (Kd.R_elder' (by (with_reducible repeat (first|apply Kd.R_alloc|apply Kd.R_drewN|apply Kd.R_drew));exact HO1137.out) (Kd.R_base ho1) hb);have n2_ := Aside0.mk (Kd.R_lower (Kd.R_new' ho0 (Kd.R_lt (by (with_reducible repeat (first|apply Kd.R_alloc|apply Kd.R_drewN|apply Kd.R_drew));exact HO1134.out))) (below_size (by repeat (first|(with_reducible first|exact HB.out|apply below_alloc|apply pw_below_drewN|apply below_drew1|refine below_set ?_ GE1128.out)|exact HB.out))));have n3_ := Aside0.mk (Kd.R_lower (Kd.R_new' ho1 (Kd.R_lt (by (with_reducible repeat (first|apply Kd.R_alloc|apply Kd.R_drewN|apply Kd.R_drew));exact HO1137.out))) (below_size (by repeat (first|(with_reducible first|exact HB.out|apply below_alloc|apply pw_below_drewN|apply below_drew1|refine below_set ?_ GE1128.out)|exact HB.out))));have n4_ := Aside0.mk (blk_below (g := gb1128) (o := .cells #[.int .i64 a0_0, .int .i64 a0_1, .slice A0_2 l0_2.length c0_2, .slice A0_3 l0_3.length c0_3] 79 (0, 0)) (by (with_reducible repeat (first|refine blk_drewN ?_ _|refine blk_drew ?_|refine blk_alloc ?_ _));exact BK1128.out) hb);have n5_ := Aside0.mk (below_step (by repeat (first|(with_reducible first|exact HB.out|apply below_alloc|apply pw_below_drewN|apply below_drew1|refine below_set ?_ GE1128.out)|exact HB.out)) hb);clear HO1134;clear HO1137;clear BK1128;clear HB;have HO1134 := n0_;have HO1137 := n1_;have HO1143 := n2_;have HO1146 := n3_;have BK1128 := n4_;have HB := n5_;clear n0_ n1_ n2_ n3_ n4_ n5_;(try clear hb);(try clear hb2);(try clear hk);(try clear hi);(try clear ho0);(try clear ho1))|((with_reducible refine gate_dst (N := 5) rfl ?_);refine box_event ?hg (N := 5) ?hd (cs := #[.int .i64 0, .int .i64 0, .slice none 0 0, .slice none 0 0]) (t := 84) ?hr ?_;(case hd => rfl);(case hg => rfl);(case hr => first|(go_simp;done)|(go_simp;rfl));intro gb1147 hg w25 hbox hb;have n0_ := Aside0.mk (Kd.R_below (by (with_reducible repeat (first|apply Kd.R_alloc|apply Kd.R_drewN|apply Kd.R_drew));exact HO1134.out) hb);have n1_ := Aside0.mk (Kd.R_below (by (with_reducible repeat (first|apply Kd.R_alloc|apply Kd.R_drewN|apply Kd.R_drew));exact HO1137.out) hb);have n2_ := Aside0.mk (Kd.R_below (by (with_reducible repeat (first|apply Kd.R_alloc|apply Kd.R_drewN|apply Kd.R_drew));exact HO1143.out) hb);have n3_ := Aside0.mk (Kd.R_below (by (with_reducible repeat (first|apply Kd.R_alloc|apply Kd.R_drewN|apply Kd.R_drew));exact HO1146.out) hb);have n4_ := Aside0.mk (blk_below (g := gb1128) (o := .cells #[.int .i64 a0_0, .int .i64 a0_1, .slice A0_2 l0_2.length c0_2, .slice A0_3 l0_3.length c0_3] 79 (0, 0)) (by (with_reducible repeat (first|refine blk_drewN ?_ _|refine blk_drew ?_|refine blk_alloc ?_ _));exact BK1128.out) hb);have n5_ := Aside0.mk (below_step (by repeat (first|(with_reducible first|exact HB.out|apply below_alloc|apply pw_below_drewN|apply below_drew1|refine below_set ?_ GE1128.out)|exact HB.out)) hb);have n6_ := Aside0.mk (hbox);have n7_ := Aside0.mk ((by rw [hg];exact (below_size (by repeat (first|(with_reducible first|exact HB.out|apply below_alloc|apply pw_below_drewN|apply below_drew1|refine below_set ?_ GE1128.out)|exact HB.out))) : w.heap.size ≤ gb1147));have n8_ := Aside0.mk ((by rw [hg];exact (below_size (by repeat (first|(with_reducible first|exact HB.out|apply below_alloc|apply pw_below_drewN|apply below_drew1|refine below_set ?_ GE1128.out)|exact HB.out))) : w.heap.size ≤ gb1147));have n9_ := Aside0.mk ((by rw [hg];exact Nat.ne_of_lt (blk_lt (g := gb1128) (o := .cells #[.int .i64 a0_0, .int .i64 a0_1, .slice A0_2 l0_2.length c0_2, .slice A0_3 l0_3.length c0_3] 79 (0, 0)) (by (with_reducible repeat (first|refine blk_drewN ?_ _|refine blk_drew ?_|refine blk_alloc ?_ _));exact BK1128.out)) : gb1128 ≠ gb1147));have n10_ := Aside0.mk ((by rw [hg];exact Nat.ne_of_gt (blk_lt (g := gb1128) (o := .cells #[.int .i64 a0_0, .int .i64 a0_1, .slice A0_2 l0_2.length c0_2, .slice A0_3 l0_3.length c0_3] 79 (0, 0)) (by (with_reducible repeat (first|refine blk_drewN ?_ _|refine blk_drew ?_|refine blk_alloc ?_ _));exact BK1128.out)) : gb1147 ≠ gb1128));clear HO1134;clear HO1137;clear HO1143;clear HO1146;clear BK1128;clear HB;have HO1134 := n0_;have HO1137 := n1_;have HO1143 := n2_;have HO1146 := n3_;have BK1128 := n4_;have HB := n5_;have BK1147 := n6_;have GW1147 := n7_;have GE1147 := n8_;have NB1128_1147 := n9_;have NB1147_1128 := n10_;clear n0_ n1_ n2_ n3_ n4_ n5_ n6_ n7_ n8_ n9_ n10_;clear hb hbox hg;have hnb26 := NB1147_1128.out;have hnc26 := NB1128_1147.out;have hcz27_0 : w25.cell? ⟨gb1147, 0, none⟩ = some (.int .i64 0) := (blk_cell BK1147.out 0).trans rfl;have hcz27_1 : w25.cell? ⟨gb1147, 1, none⟩ = some (.int .i64 0) := (blk_cell BK1147.out 1).trans rfl;have hcz27_2 : w25.cell? ⟨gb1147, 2, none⟩ = some (.slice none 0 0) := (blk_cell BK1147.out 2).trans rfl;have hcz27_3 : w25.cell? ⟨gb1147, 3, none⟩ = some (.slice none 0 0) := (blk_cell BK1147.out 3).trans rfl;have hfz27_0 := blk_frozen BK1147.out 0;have hfz27_1 := blk_frozen BK1147.out 1;have hfz27_2 := blk_frozen BK1147.out 2;have hfz27_3 := blk_frozen BK1147.out 3;obtain ⟨Ao28, co28, eo28⟩ := Kd.R_slice HO1143.out;subst eo28;obtain ⟨Ao29, co29, eo29⟩ := Kd.R_slice HO1146.out;subst eo29)|((with_reducible refine gate_callee (f := 51) rfl ?_);refine goesL_ (some 18) rfl rfl Try.func51 (by kernel_rfl) rfl #[.agg #[.int .i64 t1139, .int .i64 t1140, .slice Ao28 t1141.length co28, .slice Ao29 t1144.length co29]] rfl (by (try simp only [List.map_toArray, List.map_cons, List.map_nil]);first|done|rfl|(simp only [List.length_drop, List.length_take];rfl)) ?_;(with_reducible refine (impl_DeltaFault.calls k t1139 t1140 _ _ t1141 _ _ t1144 t1148 _ ?side1 ?side2 ?side3 ?side4 A10.out).mono ?_);(case side1 => refine (Kd.R_reads' (e := 93) (base := w.heap.size) (ok := fun k_ => (True ∧ some k_ ≠ (.slice Ao20 t1132.length co20 : Value).ownBlock)) (n := t1141.length) (c := co28) ?_).2.2;exact (by (with_reducible repeat (first|apply Kd.R_alloc|apply Kd.R_drewN|apply Kd.R_drew));exact (Kd.R_mono (Kd.R_far (p := ⟨gb1147, 3, none⟩) (Kd.R_far (p := ⟨gb1147, 2, none⟩) (Kd.R_far (p := ⟨gb1147, 1, none⟩) (Kd.R_far (p := ⟨gb1147, 0, none⟩) (Kd.R_types HO1143.out BK1147.out (by decide)) (fun _ hk => hk.2) (.int .i64 t1139)) (fun _ hk => hk.2) (.int .i64 t1140)) (fun _ hk => hk.2) (.slice Ao28 t1141.length co28)) (fun _ hk => hk.2) (.slice Ao29 t1144.length co29)) (fun _ h_ => h_.1))));(case side2 => exact (Kd.R_reads' HO1143.out).2.1);(case side3 => refine (Kd.R_reads' (e := 137) (base := w.heap.size) (ok := fun k_ => (True ∧ some k_ ≠ (.slice Ao21 t1135.length co21 : Value).ownBlock)) (n := t1144.length) (c := co29) ?_).2.2;exact (by (with_reducible repeat (first|apply Kd.R_alloc|apply Kd.R_drewN|apply Kd.R_drew));exact (Kd.R_mono (Kd.R_far (p := ⟨gb1147, 3, none⟩) (Kd.R_far (p := ⟨gb1147, 2, none⟩) (Kd.R_far (p := ⟨gb1147, 1, none⟩) (Kd.R_far (p := ⟨gb1147, 0, none⟩) (Kd.R_types HO1146.out BK1147.out (by decide)) (fun _ hk => hk.2) (.int .i64 t1139)) (fun _ hk => hk.2) (.int .i64 t1140)) (fun _ hk => hk.2) (.slice Ao28 t1141.length co28)) (fun _ hk => hk.2) (.slice Ao29 t1144.length co29)) (fun _ h_ => h_.1))));(case side4 => exact (Kd.R_reads' HO1146.out).2.1);rintro e w30 ⟨rfl, hb⟩;refine ⟨_, rfl, ?_⟩;have n0_ := Aside0.mk (Kd.R_below (by (with_reducible repeat (first|apply Kd.R_alloc|apply Kd.R_drewN|apply Kd.R_drew));exact (Kd.R_mono (Kd.R_far (p := ⟨gb1147, 3, none⟩) (Kd.R_far (p := ⟨gb1147, 2, none⟩) (Kd.R_far (p := ⟨gb1147, 1, none⟩) (Kd.R_far (p := ⟨gb1147, 0, none⟩) (Kd.R_types HO1134.out BK1147.out (by decide)) (fun _ hk => hk.2) (.int .i64 t1139)) (fun _ hk => hk.2) (.int .i64 t1140)) (fun _ hk => hk.2) (.slice Ao28 t1141.length co28)) (fun _ hk => hk.2) (.slice Ao29 t1144.length co29)) (fun _ h_ => h_.1))) hb);have n1_ := Aside0.mk (Kd.R_below (by (with_reducible repeat (first|apply Kd.R_alloc|apply Kd.R_drewN|apply Kd.R_drew));exact (Kd.R_mono (Kd.R_far (p := ⟨gb1147, 3, none⟩) (Kd.R_far (p := ⟨gb1147, 2, none⟩) (Kd.R_far (p := ⟨gb1147, 1, none⟩) (Kd.R_far (p := ⟨gb1147, 0, none⟩) (Kd.R_types HO1137.out BK1147.out (by decide)) (fun _ hk => hk.2) (.int .i64 t1139)) (fun _ hk => hk.2) (.int .i64 t1140)) (fun _ hk => hk.2) (.slice Ao28 t1141.length co28)) (fun _ hk => hk.2) (.slice Ao29 t1144.length co29)) (fun _ h_ => h_.1))) hb);have n2_ := Aside0.mk (Kd.R_below (by (with_reducible repeat (first|apply Kd.R_alloc|apply Kd.R_drewN|apply Kd.R_drew));exact (Kd.R_mono (Kd.R_far (p := ⟨gb1147, 3, none⟩) (Kd.R_far (p := ⟨gb1147, 2, none⟩) (Kd.R_far (p := ⟨gb1147, 1, none⟩) (Kd.R_far (p := ⟨gb1147, 0, none⟩) (Kd.R_types HO1143.out BK1147.out (by decide)) (fun _ hk => hk.2) (.int .i64 t1139)) (fun _ hk => hk.2) (.int .i64 t1140)) (fun _ hk => hk.2) (.slice Ao28 t1141.length co28)) (fun _ hk => hk.2) (.slice Ao29 t1144.length co29)) (fun _ h_ => h_.1))) hb);have n3_ := Aside0.mk (Kd.R_below (by (with_reducible repeat (first|apply Kd.R_alloc|apply Kd.R_drewN|apply Kd.R_drew));exact (Kd.R_mono (Kd.R_far (p := ⟨gb1147, 3, none⟩) (Kd.R_far (p := ⟨gb1147, 2, none⟩) (Kd.R_far (p := ⟨gb1147, 1, none⟩) (Kd.R_far (p := ⟨gb1147, 0, none⟩) (Kd.R_types HO1146.out BK1147.out (by decide)) (fun _ hk => hk.2) (.int .i64 t1139)) (fun _ hk => hk.2) (.int .i64 t1140)) (fun _ hk => hk.2) (.slice Ao28 t1141.length co28)) (fun _ hk => hk.2) (.slice Ao29 t1144.length co29)) (fun _ h_ => h_.1))) hb);have n4_ := Aside0.mk (blk_below (g := gb1128) (o := .cells #[.int .i64 a0_0, .int .i64 a0_1, .slice A0_2 l0_2.length c0_2, .slice A0_3 l0_3.length c0_3] 79 (0, 0)) (by (with_reducible repeat (first|refine blk_drewN ?_ _|refine blk_drew ?_|refine blk_alloc ?_ _));refine blk_far ?_ NB1128_1147.out _;(with_reducible repeat (first|refine blk_drewN ?_ _|refine blk_drew ?_|refine blk_alloc ?_ _));refine blk_far ?_ NB1128_1147.out _;(with_reducible repeat (first|refine blk_drewN ?_ _|refine blk_drew ?_|refine blk_alloc ?_ _));refine blk_far ?_ NB1128_1147.out _;(with_reducible repeat (first|refine blk_drewN ?_ _|refine blk_drew ?_|refine blk_alloc ?_ _));refine blk_far ?_ NB1128_1147.out _;(with_reducible repeat (first|refine blk_drewN ?_ _|refine blk_drew ?_|refine blk_alloc ?_ _));exact BK1128.out) hb);have n5_ := Aside0.mk (blk_below (g := gb1147) (o := .cells #[.int .i64 t1139, .int .i64 t1140, .slice Ao28 t1141.length co28, .slice Ao29 t1144.length co29] 84 (0, 0)) (by (with_reducible repeat (first|refine blk_drewN ?_ _|refine blk_drew ?_|refine blk_alloc ?_ _));refine blk_put (cs := #[.int .i64 t1139, .int .i64 t1140, .slice Ao28 t1141.length co28, .slice none 0 0]) ?_ 3 _ rfl;(with_reducible repeat (first|refine blk_drewN ?_ _|refine blk_drew ?_|refine blk_alloc ?_ _));refine blk_put (cs := #[.int .i64 t1139, .int .i64 t1140, .slice none 0 0, .slice none 0 0]) ?_ 2 _ rfl;(with_reducible repeat (first|refine blk_drewN ?_ _|refine blk_drew ?_|refine blk_alloc ?_ _));refine blk_put (cs := #[.int .i64 t1139, .int .i64 0, .slice none 0 0, .slice none 0 0]) ?_ 1 _ rfl;(with_reducible repeat (first|refine blk_drewN ?_ _|refine blk_drew ?_|refine blk_alloc ?_ _));refine blk_put (cs := #[.int .i64 0, .int .i64 0, .slice none 0 0, .slice none 0 0]) ?_ 0 _ rfl;(with_reducible repeat (first|refine blk_drewN ?_ _|refine blk_drew ?_|refine blk_alloc ?_ _));exact BK1147.out) hb);have n6_ := Aside0.mk (below_step (by repeat (first|(with_reducible first|exact HB.out|apply below_alloc|apply pw_below_drewN|apply below_drew1|refine below_set ?_ GE1128.out|refine below_set ?_ GE1147.out)|exact HB.out)) hb);clear HO1134;clear HO1137;clear HO1143;clear HO1146;clear BK1128;clear BK1147;clear HB;have HO1134 := n0_;have HO1137 := n1_;have HO1143 := n2_;have HO1146 := n3_;have BK1128 := n4_;have BK1147 := n5_;have HB := n6_;clear n0_ n1_ n2_ n3_ n4_ n5_ n6_;(try clear hb);(try clear hb2);(try clear hk);(try clear hi)))
    have n0_ := Aside0.mk (Kd.R_drew HO1134.out)
    have n1_ := Aside0.mk (Kd.R_drew HO1137.out)
    have n2_ := Aside0.mk (Kd.R_drew HO1143.out)
    have n3_ := Aside0.mk (Kd.R_drew HO1146.out)
    have n4_ := Aside0.mk (blk_drew BK1128.out)
    have n5_ := Aside0.mk (blk_drew BK1147.out)
    have n6_ := Aside0.mk (below_drew1 HB.out)
    clear HO1134
    clear HO1137
    clear HO1143
    clear HO1146
    clear BK1128
    clear BK1147
    clear HB
    have HO1134 := n0_
    have HO1137 := n1_
    have HO1143 := n2_
    have HO1146 := n3_
    have BK1128 := n4_
    have BK1147 := n5_
    have HB := n6_
    clear n0_ n1_ n2_ n3_ n4_ n5_ n6_
    refine start_ (n := 5) (S := fun w' => w'.cell? ⟨gb1147, 0, none⟩ = some (.int .i64 t1139) ∧ w'.cell? ⟨gb1147, 1, none⟩ = some (.int .i64 t1140) ∧ w'.cell? ⟨gb1147, 2, none⟩ = some (.slice Ao28 t1141.length co28) ∧ w'.cell? ⟨gb1147, 3, none⟩ = some (.slice Ao29 t1144.length co29) ∧ w'.cell? ⟨gb1128, 0, none⟩ = some (.int .i64 a0_0) ∧ w'.cell? ⟨gb1128, 1, none⟩ = some (.int .i64 a0_1) ∧ w'.cell? ⟨gb1128, 2, none⟩ = some (.slice A0_2 l0_2.length c0_2) ∧ w'.cell? ⟨gb1128, 3, none⟩ = some (.slice A0_3 l0_3.length c0_3)) (ds := []) #[false, false, false, false, false] (by kernel_rfl) rfl rfl ⟨(blk_cell BK1147.out 0).trans rfl, (blk_cell BK1147.out 1).trans rfl, (blk_cell BK1147.out 2).trans rfl, (blk_cell BK1147.out 3).trans rfl, (blk_cell BK1128.out 0).trans rfl, (blk_cell BK1128.out 1).trans rfl, (blk_cell BK1128.out 2).trans rfl, (blk_cell BK1128.out 3).trans rfl⟩ (fun hHeld => ?_)
    generalize w30.drew = w31 at HO1134 HO1137 HO1143 HO1146 BK1128 BK1147 HB hHeld ⊢
    refine take_ (i := 0) (N := some 22) (v := ?_) (a' := ?_) #[true, false, false, false, false] rfl rfl (by kernel_rfl) (fun _ _ _ h => h) (Or.inl ⟨by rfl, ?_⟩) hHeld ?_ ?_
    rotate_left
    ·
     rintro w' ⟨s0, s1, s2, s3, s4, s5, s6, s7⟩
     go_simp
     with_reducible rfl
    rotate_left
    ·
     simp only [Act.put, List.setIfInBounds_toArray, List.set_cons_zero, List.set_cons_succ, i64_w, i32_w]
     rfl
    refine take_ (i := 1) (N := some 23) (v := ?_) (a' := ?_) #[true, true, false, false, false] rfl rfl (by kernel_rfl) (fun _ _ _ h => h) (Or.inl ⟨by rfl, ?_⟩) hHeld ?_ ?_
    rotate_left
    ·
     rintro w' ⟨s0, s1, s2, s3, s4, s5, s6, s7⟩
     go_simp
     with_reducible rfl
    rotate_left
    ·
     simp only [Act.put, List.setIfInBounds_toArray, List.set_cons_zero, List.set_cons_succ, i64_w, i32_w]
     rfl
    refine one_ (i := 2) (N := some 24) #[true, true, true, false, false] rfl rfl (by kernel_rfl) (by decide) (fun K hK => ?_)
    refine goes_ Try.func50 (by kernel_rfl) rfl #[.agg #[.int .i64 a0_0, .int .i64 a0_1, .slice A0_2 l0_2.length c0_2, .slice A0_3 l0_3.length c0_3]] (by rfl) rfl rfl (by (try simp only [List.map_toArray, List.map_cons, List.map_nil]);first|done|rfl|(simp only [List.length_drop, List.length_take];rfl)) ?_
    with_reducible refine (laws_toDelta.calls k a0_0 a0_1 _ _ l0_2 _ _ l0_3 t1149 t1150 t1151 t1154 _ ?side1 ?side2 ?side3 ?side4 A12.out).mono ?_
    (case side1 => repeat (first|exact (Kd.C_below HR0_2.out HB.out)|(with_reducible refine Kd.C_alloc ?_ _)|(with_reducible refine Kd.C_drewN ?_ _)|(with_reducible refine Kd.C_drew ?_)))
    (case side2 => exact HC0_2.out)
    (case side3 => repeat (first|exact (Kd.C_below HR0_3.out HB.out)|(with_reducible refine Kd.C_alloc ?_ _)|(with_reducible refine Kd.C_drewN ?_ _)|(with_reducible refine Kd.C_drew ?_)))
    (case side4 => exact HC0_3.out)
    rintro e w32 ⟨v1152, v1155, rfl, ho0, ho1, hb⟩
    refine ⟨_, rfl, ?_⟩
    have n0_ := Aside0.mk (Kd.R_elder' (by (with_reducible repeat (first|apply Kd.R_alloc|apply Kd.R_drewN|apply Kd.R_drew));exact HO1134.out) (Kd.R_base ho0) hb)
    have n1_ := Aside0.mk (Kd.R_elder' (by (with_reducible repeat (first|apply Kd.R_alloc|apply Kd.R_drewN|apply Kd.R_drew));exact HO1137.out) (Kd.R_base ho1) hb)
    have n2_ := Aside0.mk (Kd.R_elder' (by (with_reducible repeat (first|apply Kd.R_alloc|apply Kd.R_drewN|apply Kd.R_drew));exact HO1143.out) (Kd.R_base ho0) hb)
    have n3_ := Aside0.mk (Kd.R_elder' (by (with_reducible repeat (first|apply Kd.R_alloc|apply Kd.R_drewN|apply Kd.R_drew));exact HO1146.out) (Kd.R_base ho1) hb)
    have n4_ := Aside0.mk (Kd.R_lower (Kd.R_new' (Kd.R_new' ho0 (Kd.R_lt (by (with_reducible repeat (first|apply Kd.R_alloc|apply Kd.R_drewN|apply Kd.R_drew));exact HO1134.out))) (Kd.R_lt (by (with_reducible repeat (first|apply Kd.R_alloc|apply Kd.R_drewN|apply Kd.R_drew));exact HO1143.out))) (below_size (by repeat (first|(with_reducible first|exact HB.out|apply below_alloc|apply pw_below_drewN|apply below_drew1|refine below_set ?_ GE1128.out|refine below_set ?_ GE1147.out)|exact HB.out))))
    have n5_ := Aside0.mk (Kd.R_lower (Kd.R_new' (Kd.R_new' ho1 (Kd.R_lt (by (with_reducible repeat (first|apply Kd.R_alloc|apply Kd.R_drewN|apply Kd.R_drew));exact HO1137.out))) (Kd.R_lt (by (with_reducible repeat (first|apply Kd.R_alloc|apply Kd.R_drewN|apply Kd.R_drew));exact HO1146.out))) (below_size (by repeat (first|(with_reducible first|exact HB.out|apply below_alloc|apply pw_below_drewN|apply below_drew1|refine below_set ?_ GE1128.out|refine below_set ?_ GE1147.out)|exact HB.out))))
    have n6_ := Aside0.mk (blk_below (g := gb1128) (o := .cells #[.int .i64 a0_0, .int .i64 a0_1, .slice A0_2 l0_2.length c0_2, .slice A0_3 l0_3.length c0_3] 79 (0, 0)) (by (with_reducible repeat (first|refine blk_drewN ?_ _|refine blk_drew ?_|refine blk_alloc ?_ _));exact BK1128.out) hb)
    have n7_ := Aside0.mk (blk_below (g := gb1147) (o := .cells #[.int .i64 t1139, .int .i64 t1140, .slice Ao28 t1141.length co28, .slice Ao29 t1144.length co29] 84 (0, 0)) (by (with_reducible repeat (first|refine blk_drewN ?_ _|refine blk_drew ?_|refine blk_alloc ?_ _));exact BK1147.out) hb)
    have n8_ := Aside0.mk (below_step (by repeat (first|(with_reducible first|exact HB.out|apply below_alloc|apply pw_below_drewN|apply below_drew1|refine below_set ?_ GE1128.out|refine below_set ?_ GE1147.out)|exact HB.out)) hb)
    clear HO1134
    clear HO1137
    clear HO1143
    clear HO1146
    clear BK1128
    clear BK1147
    clear HB
    have HO1134 := n0_
    have HO1137 := n1_
    have HO1143 := n2_
    have HO1146 := n3_
    have HO1153 := n4_
    have HO1156 := n5_
    have BK1128 := n6_
    have BK1147 := n7_
    have HB := n8_
    clear n0_ n1_ n2_ n3_ n4_ n5_ n6_ n7_ n8_
    (try clear hb)
    (try clear hb2)
    (try clear hk)
    (try clear hi)
    (try clear ho0)
    (try clear ho1)
    obtain ⟨Ao33, co33, eo33⟩ := Kd.R_slice HO1153.out
    (first|subst eo33|(injection eo33 with f1_ f2_ f3_;have f4_ := f1_.symm;have f5_ := f3_.symm;clear f1_ f2_ f3_;subst f4_;subst f5_))
    obtain ⟨Ao34, co34, eo34⟩ := Kd.R_slice HO1156.out
    (first|subst eo34|(injection eo34 with f1_ f2_ f3_;have f4_ := f1_.symm;have f5_ := f3_.symm;clear f1_ f2_ f3_;subst f4_;subst f5_))
    refine hK.out _ _ ⟨(blk_cell BK1147.out 0).trans rfl, (blk_cell BK1147.out 1).trans rfl, (blk_cell BK1147.out 2).trans rfl, (blk_cell BK1147.out 3).trans rfl, (blk_cell BK1128.out 0).trans rfl, (blk_cell BK1128.out 1).trans rfl, (blk_cell BK1128.out 2).trans rfl, (blk_cell BK1128.out 3).trans rfl⟩ (fun hHeld => ?_)
    clear hK K
    refine norm_ (a' := ?_) ?_ ?_
    rotate_left
    ·
     show Act.put _ (some 24) _ = _
     simp only [Act.put, List.setIfInBounds_toArray, List.set_cons_zero, List.set_cons_succ, i64_w, i32_w]
     rfl
    refine one_ (i := 3) (N := some 25) #[true, true, true, true, false] rfl rfl (by kernel_rfl) (by decide) (fun K hK => ?_)
    refine goes_ Try.func52 (by kernel_rfl) rfl #[.agg #[.int .i64 t1139, .int .i64 t1140, .slice Ao28 t1141.length co28, .slice Ao29 t1144.length co29], .agg #[.int .i64 t1149, .int .i64 t1150, .slice Ao33 t1151.length co33, .slice Ao34 t1154.length co34]] (by rfl) rfl rfl (by (try simp only [List.map_toArray, List.map_cons, List.map_nil]);first|done|rfl|(simp only [List.length_drop, List.length_take];rfl)) ?_
    with_reducible refine (laws_eqDelta.calls k t1139 t1140 _ _ t1141 _ _ t1144 t1149 t1150 _ _ t1151 _ _ t1154 true _ ?side1 ?side2 ?side3 ?side4 ?side5 ?side6 ?side7 ?side8 A13.out).mono ?_
    (case side1 => repeat (first|exact (Kd.R_reads' HO1143.out).2.2|(with_reducible refine Kd.C_alloc ?_ _)|(with_reducible refine Kd.C_drewN ?_ _)|(with_reducible refine Kd.C_drew ?_)))
    (case side2 => exact (Kd.R_reads' HO1143.out).2.1)
    (case side3 => repeat (first|exact (Kd.R_reads' HO1146.out).2.2|(with_reducible refine Kd.C_alloc ?_ _)|(with_reducible refine Kd.C_drewN ?_ _)|(with_reducible refine Kd.C_drew ?_)))
    (case side4 => exact (Kd.R_reads' HO1146.out).2.1)
    (case side5 => repeat (first|exact (Kd.R_reads' HO1153.out).2.2|(with_reducible refine Kd.C_alloc ?_ _)|(with_reducible refine Kd.C_drewN ?_ _)|(with_reducible refine Kd.C_drew ?_)))
    (case side6 => exact (Kd.R_reads' HO1153.out).2.1)
    (case side7 => repeat (first|exact (Kd.R_reads' HO1156.out).2.2|(with_reducible refine Kd.C_alloc ?_ _)|(with_reducible refine Kd.C_drewN ?_ _)|(with_reducible refine Kd.C_drew ?_)))
    (case side8 => exact (Kd.R_reads' HO1156.out).2.1)
    rintro e w35 ⟨rfl, hb⟩
    refine ⟨_, rfl, ?_⟩
    have n0_ := Aside0.mk (Kd.R_below (by (with_reducible repeat (first|apply Kd.R_alloc|apply Kd.R_drewN|apply Kd.R_drew));exact HO1134.out) hb)
    have n1_ := Aside0.mk (Kd.R_below (by (with_reducible repeat (first|apply Kd.R_alloc|apply Kd.R_drewN|apply Kd.R_drew));exact HO1137.out) hb)
    have n2_ := Aside0.mk (Kd.R_below (by (with_reducible repeat (first|apply Kd.R_alloc|apply Kd.R_drewN|apply Kd.R_drew));exact HO1143.out) hb)
    have n3_ := Aside0.mk (Kd.R_below (by (with_reducible repeat (first|apply Kd.R_alloc|apply Kd.R_drewN|apply Kd.R_drew));exact HO1146.out) hb)
    have n4_ := Aside0.mk (Kd.R_below (by (with_reducible repeat (first|apply Kd.R_alloc|apply Kd.R_drewN|apply Kd.R_drew));exact HO1153.out) hb)
    have n5_ := Aside0.mk (Kd.R_below (by (with_reducible repeat (first|apply Kd.R_alloc|apply Kd.R_drewN|apply Kd.R_drew));exact HO1156.out) hb)
    have n6_ := Aside0.mk (blk_below (g := gb1128) (o := .cells #[.int .i64 a0_0, .int .i64 a0_1, .slice A0_2 l0_2.length c0_2, .slice A0_3 l0_3.length c0_3] 79 (0, 0)) (by (with_reducible repeat (first|refine blk_drewN ?_ _|refine blk_drew ?_|refine blk_alloc ?_ _));exact BK1128.out) hb)
    have n7_ := Aside0.mk (blk_below (g := gb1147) (o := .cells #[.int .i64 t1139, .int .i64 t1140, .slice Ao28 t1141.length co28, .slice Ao29 t1144.length co29] 84 (0, 0)) (by (with_reducible repeat (first|refine blk_drewN ?_ _|refine blk_drew ?_|refine blk_alloc ?_ _));exact BK1147.out) hb)
    have n8_ := Aside0.mk (below_step (by repeat (first|(with_reducible first|exact HB.out|apply below_alloc|apply pw_below_drewN|apply below_drew1|refine below_set ?_ GE1128.out|refine below_set ?_ GE1147.out)|exact HB.out)) hb)
    clear HO1134
    clear HO1137
    clear HO1143
    clear HO1146
    clear HO1153
    clear HO1156
    clear BK1128
    clear BK1147
    clear HB
    have HO1134 := n0_
    have HO1137 := n1_
    have HO1143 := n2_
    have HO1146 := n3_
    have HO1153 := n4_
    have HO1156 := n5_
    have BK1128 := n6_
    have BK1147 := n7_
    have HB := n8_
    clear n0_ n1_ n2_ n3_ n4_ n5_ n6_ n7_ n8_
    (try clear hb)
    (try clear hb2)
    (try clear hk)
    (try clear hi)
    refine hK.out _ _ ⟨(blk_cell BK1147.out 0).trans rfl, (blk_cell BK1147.out 1).trans rfl, (blk_cell BK1147.out 2).trans rfl, (blk_cell BK1147.out 3).trans rfl, (blk_cell BK1128.out 0).trans rfl, (blk_cell BK1128.out 1).trans rfl, (blk_cell BK1128.out 2).trans rfl, (blk_cell BK1128.out 3).trans rfl⟩ (fun hHeld => ?_)
    clear hK K
    refine norm_ (a' := ?_) ?_ ?_
    rotate_left
    ·
     show Act.put _ (some 25) _ = _
     simp only [Act.put, List.setIfInBounds_toArray, List.set_cons_zero, List.set_cons_succ, i64_w, i32_w]
     rfl
    refine pure_ (i := 4) (N := some 26) (v := ?_) (a' := ?_) #[true, true, true, true, true] rfl rfl (by kernel_rfl) (fun _ _ _ h => h) (Or.inl ⟨by rfl, ?_⟩) ?_ ?_
    rotate_left
    ·
     intro w'
     go_simp
     with_reducible rfl
    rotate_left
    ·
     simp only [Act.put, List.setIfInBounds_toArray, List.set_cons_zero, List.set_cons_succ, i64_w, i32_w]
     rfl
    refine done_ (by kernel_rfl) ?_
    try go_wp2
    go_ret
    exact ⟨by first|rfl|(simp [errW_none, errW_some] <;> rfl)|(simp [*, errW_none, errW_some] <;> rfl), by repeat (first|(with_reducible first|exact HB.out|apply below_alloc|apply pw_below_drewN|apply below_drew1|refine below_set ?_ GE1128.out|refine below_set ?_ GE1147.out)|exact HB.out)⟩
   ·
    replace c14 := Bool.eq_false_iff.mpr c14
    subst c14
    have H1 : (some false) = some r := by rw [if_neg (show ¬ (false = true) by decide)] at H;exact H
    clear H
    have H := H1
    clear H1
    exact absurd ((Option.some.inj H).trans HRT.out) (by decide)
  ·
   rw [if_neg c11] at H
   have c11b0 : (t1148 == t1138) = false := beq_eq_false_iff_ne.mpr c11
   have c11b1 : (t1148 != t1138) = true := bne_iff_ne.mpr c11
   exact absurd ((Option.some.inj H).trans HRT.out) (by decide)

end Go.Proofs.Ytflddpkmajoeaaa.PP
