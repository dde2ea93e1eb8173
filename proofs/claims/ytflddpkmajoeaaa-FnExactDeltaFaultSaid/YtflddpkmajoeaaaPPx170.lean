-- Laid by a program of this session's (wip/xprint.py) over the kit's print. Nothing in it is trusted: Lean checks it.
import Derived.Test.YtflddpkmajoeaaaPPx0
import Derived.Test.YtflddpkmajoeaaaPPx8
import Derived.Test.YtflddpkmajoeaaaPPx83
import Derived.Test.YtflddpkmajoeaaaPPx95
import Derived.Test.YtflddpkmajoeaaaPPx142
import Derived.Test.YtflddpkmajoeaaaPPx143
import Derived.Test.YtflddpkmajoeaaaPPx169
namespace Go.Proofs.Ytflddpkmajoeaaa.PP
open Go.RowKit Go.Proofs.YtflddpkmajoeaaaW.PrintWords Go.Proofs.YtflddpkmajoeaaaW.PrintLast Go.Proofs.YtflddpkmajoeaaaW.PrintMore
set_option maxHeartbeats 8000000
set_option maxRecDepth 100000
attribute [local go_sem] max2_int min2_int max_two min_two max_three min_three max_four min_four   -- for this text's walks alone
set_option linter.unusedVariables false
set_option linter.unusedSimpArgs false

/-! ### impl_DeltaFault: function 51 -/
mutual
def impl_DeltaFault.j0 : Nat → Bool → Int → Int → List (S93) → List (S137) → Option (Int)
 | 0, _, _, _, _, _ => none
 | k + 1, x6, x1107000, x1107001, x1107002, x1107003 => if x6 = true then (some 3) else (if (x1107002.length : Int) > 6 then (some 2) else (if (x1107003.length : Int) > 120 then (some 2) else ((impl_volsFault.f k x1107002).bind fun t1109 => (if t1109 = 0 then (impl_DeltaFault.l0 k x1107003 (x1107003.length : Int) 0 x1107000 x1107001 x1107002 x1107003) else (some t1109)))))
def impl_DeltaFault.l0 : Nat → List (S137) → Int → Int → Int → Int → List (S93) → List (S137) → Option (Int)
 | 0, _, _, _, _, _, _, _ => none
 | k + 1, x35, x36, x37, x1107000, x1107001, x1107002, x1107003 => if x37 < x36 then (if 0 ≤ x37 then (if x37 < (x35.length : Int) then ((impl_isId.f ((rd_T137 x35 x37).f1)).bind fun t1112 => (if t1112 = true then ((impl_isTreePlace.f ((rd_T137 x35 x37).f2)).bind fun t1113 => (if t1113 = true then ((impl_isByte.f ((rd_T137 x35 x37).f3)).bind fun t1114 => (impl_DeltaFault.j2 k x37 x35 x36 x37 (!t1114) x1107000 x1107001 x1107002 x1107003 ((rd_T137 x35 x37).f0) ((rd_T137 x35 x37).f1) ((rd_T137 x35 x37).f2) ((rd_T137 x35 x37).f3))) else (impl_DeltaFault.j2 k x37 x35 x36 x37 true x1107000 x1107001 x1107002 x1107003 ((rd_T137 x35 x37).f0) ((rd_T137 x35 x37).f1) ((rd_T137 x35 x37).f2) ((rd_T137 x35 x37).f3)))) else (impl_DeltaFault.j2 k x37 x35 x36 x37 true x1107000 x1107001 x1107002 x1107003 ((rd_T137 x35 x37).f0) ((rd_T137 x35 x37).f1) ((rd_T137 x35 x37).f2) ((rd_T137 x35 x37).f3)))) else (none)) else (none)) else (some 0)
def impl_DeltaFault.j2 : Nat → Int → List (S137) → Int → Int → Bool → Int → Int → List (S93) → List (S137) → Bool → Int → Int → Int → Option (Int)
 | 0, _, _, _, _, _, _, _, _, _, _, _, _, _ => none
 | k + 1, x4, x35, x36, x37, x42, x1107000, x1107001, x1107002, x1107003, x1112000, x1112001, x1112002, x1112003 => if x42 = true then (some 3) else (if x1112000 = true then (if x4 > 0 then (if 0 ≤ (wrap64 (x4 - 1)) then (if (wrap64 (x4 - 1)) < (x1107003.length : Int) then ((impl_stepOrder.f k ((rd_T137 x1107003 (wrap64 (x4 - 1))).f0) ((rd_T137 x1107003 (wrap64 (x4 - 1))).f1) ((rd_T137 x1107003 (wrap64 (x4 - 1))).f2) ((rd_T137 x1107003 (wrap64 (x4 - 1))).f3) x1112000 x1112001 x1112002 x1112003).bind fun t1116 => (if t1116 ≥ 0 then (some 1) else (impl_DeltaFault.l0 k x35 x36 (wrap64 (x37 + 1)) x1107000 x1107001 x1107002 x1107003))) else (none)) else (none)) else (impl_DeltaFault.l0 k x35 x36 (wrap64 (x37 + 1)) x1107000 x1107001 x1107002 x1107003)) else (if x1112003 = 0 then (if x4 > 0 then (if 0 ≤ (wrap64 (x4 - 1)) then (if (wrap64 (x4 - 1)) < (x1107003.length : Int) then ((impl_stepOrder.f k ((rd_T137 x1107003 (wrap64 (x4 - 1))).f0) ((rd_T137 x1107003 (wrap64 (x4 - 1))).f1) ((rd_T137 x1107003 (wrap64 (x4 - 1))).f2) ((rd_T137 x1107003 (wrap64 (x4 - 1))).f3) x1112000 x1112001 x1112002 x1112003).bind fun t1118 => (if t1118 ≥ 0 then (some 1) else (impl_DeltaFault.l0 k x35 x36 (wrap64 (x37 + 1)) x1107000 x1107001 x1107002 x1107003))) else (none)) else (none)) else (impl_DeltaFault.l0 k x35 x36 (wrap64 (x37 + 1)) x1107000 x1107001 x1107002 x1107003)) else (some 1)))
end
def impl_DeltaFault.f (k : Nat) (a0_0 : Int) (a0_1 : Int) (l0_2 : List (S93)) (l0_3 : List (S137)) : Option (Int) := (impl_within.f a0_0 0 65520).bind fun t1107 => (if t1107 = true then ((impl_within.f a0_1 0 65520).bind fun t1108 => (impl_DeltaFault.j0 k (!t1108) a0_0 a0_1 l0_2 l0_3)) else (impl_DeltaFault.j0 k true a0_0 a0_1 l0_2 l0_3))
theorem impl_DeltaFault.mono_l : ∀ k, (∀ y0 y1 y2 y3 y4, LeO (impl_DeltaFault.j0 k y0 y1 y2 y3 y4) (impl_DeltaFault.j0 (k + 1) y0 y1 y2 y3 y4)) ∧ (∀ y0 y1 y2 y3 y4 y5 y6, LeO (impl_DeltaFault.l0 k y0 y1 y2 y3 y4 y5 y6) (impl_DeltaFault.l0 (k + 1) y0 y1 y2 y3 y4 y5 y6)) ∧ (∀ y0 y1 y2 y3 y4 y5 y6 y7 y8 y9 y10 y11 y12, LeO (impl_DeltaFault.j2 k y0 y1 y2 y3 y4 y5 y6 y7 y8 y9 y10 y11 y12) (impl_DeltaFault.j2 (k + 1) y0 y1 y2 y3 y4 y5 y6 y7 y8 y9 y10 y11 y12))
 | 0 => ⟨fun _ _ _ _ _ r h => by simp [impl_DeltaFault.j0] at h, fun _ _ _ _ _ _ _ r h => by simp [impl_DeltaFault.l0] at h, fun _ _ _ _ _ _ _ _ _ _ _ _ _ r h => by simp [impl_DeltaFault.j2] at h⟩
 | k + 1 => by
  obtain ⟨ih0, ih1, ih2⟩ := impl_DeltaFault.mono_l k
  refine ⟨?_, ?_, ?_⟩
  ·
   intro y0 y1 y2 y3 y4
   unfold impl_DeltaFault.j0
   repeat' first
   | (with_reducible exact ih0 _ _ _ _ _)
   | (with_reducible exact ih1 _ _ _ _ _ _ _)
   | (with_reducible exact ih2 _ _ _ _ _ _ _ _ _ _ _ _ _)
   | (with_reducible exact impl_stepOrder.mono _ _ _ _ _ _ _ _ _)
   | (with_reducible exact impl_volsFault.mono _ _)
   | (with_reducible exact LeO.refl _)
   | (with_reducible exact LeO.none _)
   | (with_reducible refine LeO.ite ?_ ?_)
   | (with_reducible refine LeO.bind ?_ (fun _ => ?_))
   | exact ih0 _ _ _ _ _
   | exact ih1 _ _ _ _ _ _ _
   | exact ih2 _ _ _ _ _ _ _ _ _ _ _ _ _
   | exact impl_stepOrder.mono _ _ _ _ _ _ _ _ _
   | exact impl_volsFault.mono _ _
   | exact LeO.none _
   | refine LeO.ite ?_ ?_
   | refine LeO.bind ?_ (fun _ => ?_)
  ·
   intro y0 y1 y2 y3 y4 y5 y6
   unfold impl_DeltaFault.l0
   repeat' first
   | (with_reducible exact ih0 _ _ _ _ _)
   | (with_reducible exact ih1 _ _ _ _ _ _ _)
   | (with_reducible exact ih2 _ _ _ _ _ _ _ _ _ _ _ _ _)
   | (with_reducible exact impl_stepOrder.mono _ _ _ _ _ _ _ _ _)
   | (with_reducible exact impl_volsFault.mono _ _)
   | (with_reducible exact LeO.refl _)
   | (with_reducible exact LeO.none _)
   | (with_reducible refine LeO.ite ?_ ?_)
   | (with_reducible refine LeO.bind ?_ (fun _ => ?_))
   | exact ih0 _ _ _ _ _
   | exact ih1 _ _ _ _ _ _ _
   | exact ih2 _ _ _ _ _ _ _ _ _ _ _ _ _
   | exact impl_stepOrder.mono _ _ _ _ _ _ _ _ _
   | exact impl_volsFault.mono _ _
   | exact LeO.none _
   | refine LeO.ite ?_ ?_
   | refine LeO.bind ?_ (fun _ => ?_)
  ·
   intro y0 y1 y2 y3 y4 y5 y6 y7 y8 y9 y10 y11 y12
   unfold impl_DeltaFault.j2
   repeat' first
   | (with_reducible exact ih0 _ _ _ _ _)
   | (with_reducible exact ih1 _ _ _ _ _ _ _)
   | (with_reducible exact ih2 _ _ _ _ _ _ _ _ _ _ _ _ _)
   | (with_reducible exact impl_stepOrder.mono _ _ _ _ _ _ _ _ _)
   | (with_reducible exact impl_volsFault.mono _ _)
   | (with_reducible exact LeO.refl _)
   | (with_reducible exact LeO.none _)
   | (with_reducible refine LeO.ite ?_ ?_)
   | (with_reducible refine LeO.bind ?_ (fun _ => ?_))
   | exact ih0 _ _ _ _ _
   | exact ih1 _ _ _ _ _ _ _
   | exact ih2 _ _ _ _ _ _ _ _ _ _ _ _ _
   | exact impl_stepOrder.mono _ _ _ _ _ _ _ _ _
   | exact impl_volsFault.mono _ _
   | exact LeO.none _
   | refine LeO.ite ?_ ?_
   | refine LeO.bind ?_ (fun _ => ?_)
theorem impl_DeltaFault.mono : ∀ a0 a1 a2 a3 k, LeO (impl_DeltaFault.f k a0 a1 a2 a3) (impl_DeltaFault.f (k + 1) a0 a1 a2 a3) := by
 intro a0 a1 a2 a3 k
 obtain ⟨ih0, ih1, ih2⟩ := impl_DeltaFault.mono_l k
 unfold impl_DeltaFault.f
 repeat' first
   | (with_reducible exact ih0 _ _ _ _ _)
   | (with_reducible exact ih1 _ _ _ _ _ _ _)
   | (with_reducible exact ih2 _ _ _ _ _ _ _ _ _ _ _ _ _)
   | (with_reducible exact impl_stepOrder.mono _ _ _ _ _ _ _ _ _)
   | (with_reducible exact impl_volsFault.mono _ _)
   | (with_reducible exact LeO.refl _)
   | (with_reducible exact LeO.none _)
   | (with_reducible refine LeO.ite ?_ ?_)
   | (with_reducible refine LeO.bind ?_ (fun _ => ?_))
   | exact ih0 _ _ _ _ _
   | exact ih1 _ _ _ _ _ _ _
   | exact ih2 _ _ _ _ _ _ _ _ _ _ _ _ _
   | exact impl_stepOrder.mono _ _ _ _ _ _ _ _ _
   | exact impl_volsFault.mono _ _
   | exact LeO.none _
   | refine LeO.ite ?_ ?_
   | refine LeO.bind ?_ (fun _ => ?_)
def impl_DeltaFault.T13 : Bool × List (List Nat × List Nat) := (true, [([], []), ([0], [0]), ([1], [1]), ([2], [2]), ([3], [3]), ([4, 3], [3, 4]), ([5, 3], [3, 5]), ([3, 6], [3, 6]), ([7, 3], [7]), ([8], [8]), ([9, 8], [8, 9]), ([10, 8, 8], [8, 10]), ([11], [11]), ([12, 11], [11, 12]), ([11], [11]), ([14, 11], [11, 14]), ([13, 15, 11], [11, 13, 15]), ([16, 11], [11, 16]), ([11], [11]), ([17, 18, 11, 11], [11, 17, 18]), ([19, 11], [11, 19]), ([11, 20, 8], [8, 11, 20]), ([8, 21], [8, 21]), ([22, 19], [22])])
def impl_DeltaFault.B13 : List Nat := [0, 1, 3, 7, 15, 31, 63, 127, 255, 511, 1023, 2047, 4095, 8191, 4095, 20479, 65535, 131071, 4095, 524287, 1048575, 2097151, 4194303, 8388607]
theorem impl_DeltaFault.tab13 : rtab .any (opsOf Try.f51 13) = impl_DeltaFault.T13 := by kernel_rfl
theorem impl_DeltaFault.bits13 : waitsOk impl_DeltaFault.T13.2 impl_DeltaFault.B13 = true := by kernel_rfl
theorem impl_DeltaFault.calls (k : Nat) (a0_0 : Int) (a0_1 : Int) (A0_2 : Option Addr) (c0_2 : Nat) (l0_2 : List (S93)) (A0_3 : Option Addr) (c0_3 : Nat) (l0_3 : List (S137)) (r : Int) (w : World) (hr0_2 : Kd.C k93 w A0_2 l0_2.length l0_2) (hc0_2 : l0_2.length ≤ c0_2) (hr0_3 : Kd.C k137 w A0_3 l0_3.length l0_3) (hc0_3 : l0_3.length ≤ c0_3) (h : impl_DeltaFault.f k a0_0 a0_1 l0_2 l0_3 = some r) :
  Calls Try.prog 51 #[.agg #[.int .i64 a0_0, .int .i64 a0_1, .slice A0_2 l0_2.length c0_2, .slice A0_3 l0_3.length c0_3]] w fun e w' => e = .returned (.int .i64 r) ∧ Below w.heap.size w w' := by
 have hu84 := Try.underlying84
 have hu137 := Try.underlying137
 have HR0_2 := Aside0.mk hr0_2
 have HC0_2 := Aside0.mk hc0_2
 clear hr0_2 hc0_2
 have HR0_3 := Aside0.mk hr0_3
 have HC0_3 := Aside0.mk hc0_3
 clear hr0_3 hc0_3
 have HB := Aside0.mk (Below.refl w.heap.size w)
 have H : ((impl_within.f a0_0 0 65520).bind fun t1107 => (if t1107 = true then ((impl_within.f a0_1 0 65520).bind fun t1108 => (impl_DeltaFault.j0 k (!t1108) a0_0 a0_1 l0_2 l0_3)) else (impl_DeltaFault.j0 k true a0_0 a0_1 l0_2 l0_3))) = some r := h
 clear h
 have HC2 := Aside0.mk H
 clear H
 go_enter Try.func51, Try.ntmps51
 go_upto_region 1 with (first|((with_reducible refine gate_dst (N := 1) rfl ?_);(try (refine gate_guard (by rfl) ?_;dsimp only));refine box_event ?hg (N := 1) ?hd (cs := #[.int .i64 a0_0, .int .i64 a0_1, .slice A0_2 l0_2.length c0_2, .slice A0_3 l0_3.length c0_3]) (t := 84) ?hr ?_;(case hd => rfl);(case hg => rfl);(case hr => first|(go_simp;done)|(go_simp;rfl));intro gb1106 hg w3 hbox hb;have n0_ := Aside0.mk (below_step (by repeat (first|(with_reducible first|exact HB.out|apply below_alloc|apply pw_below_drewN|apply below_drew1)|exact HB.out)) hb);have n1_ := Aside0.mk (hbox);have n2_ := Aside0.mk ((by rw [hg];exact (below_size (by repeat (first|(with_reducible first|exact HB.out|apply below_alloc|apply pw_below_drewN|apply below_drew1)|exact HB.out))) : w.heap.size ≤ gb1106));have n3_ := Aside0.mk ((by rw [hg];exact (below_size (by repeat (first|(with_reducible first|exact HB.out|apply below_alloc|apply pw_below_drewN|apply below_drew1)|exact HB.out))) : w.heap.size ≤ gb1106));clear HB;have HB := n0_;have BK1106 := n1_;have GW1106 := n2_;have GE1106 := n3_;clear n0_ n1_ n2_ n3_;clear hb hbox hg))
 (try simp only [Act.put, List.setIfInBounds_toArray, List.set_cons_zero, List.set_cons_succ])
 go_cut [6] (fun v6 wc => ∃ (kq : Nat) (x6_1 : Bool), v6 = .bool x6_1 ∧ Aside0 (impl_DeltaFault.j0 kq x6_1 a0_0 a0_1 l0_2 l0_3 = some r) ∧ Aside0 (kq ≤ k) ∧ Aside0 (wc.heap[gb1106]? = some (.cells #[.int .i64 a0_0, .int .i64 a0_1, (.slice A0_2 l0_2.length c0_2), (.slice A0_3 l0_3.length c0_3)] 84 (0, 0))) ∧ Aside0 (Below w.heap.size w wc))
 case first =>
  have H := HC2.out
  clear HC2
  replace H := Option.bind_eq_some_iff.mp H
  obtain ⟨t1107, A40, H⟩ := H
  replace H : (if t1107 = true then ((impl_within.f a0_1 0 65520).bind fun t1108 => (impl_DeltaFault.j0 k (!t1108) a0_0 a0_1 l0_2 l0_3)) else (impl_DeltaFault.j0 k true a0_0 a0_1 l0_2 l0_3)) = some r := H
  have A4 := Aside0.mk A40
  clear A40
  by_cases c5 : t1107 = true
  ·
   subst c5
   have H1 : ((impl_within.f a0_1 0 65520).bind fun t1108 => (impl_DeltaFault.j0 k (!t1108) a0_0 a0_1 l0_2 l0_3)) = some r := by rw [if_pos rfl] at H;exact H
   clear H
   have H := H1
   clear H1
   replace H := Option.bind_eq_some_iff.mp H
   obtain ⟨t1108, A60, H⟩ := H
   replace H : (impl_DeltaFault.j0 k (!t1108) a0_0 a0_1 l0_2 l0_3) = some r := H
   have A6 := Aside0.mk A60
   clear A60
   have H' := Aside0.mk H
   clear H
   have hcz7_0 : w3.cell? ⟨gb1106, 0, none⟩ = some (.int .i64 a0_0) := (blk_cell BK1106.out 0).trans rfl
   have hcz7_1 : w3.cell? ⟨gb1106, 1, none⟩ = some (.int .i64 a0_1) := (blk_cell BK1106.out 1).trans rfl
   have hcz7_2 : w3.cell? ⟨gb1106, 2, none⟩ = some (.slice A0_2 l0_2.length c0_2) := (blk_cell BK1106.out 2).trans rfl
   have hcz7_3 : w3.cell? ⟨gb1106, 3, none⟩ = some (.slice A0_3 l0_3.length c0_3) := (blk_cell BK1106.out 3).trans rfl
   have hfz7_0 := blk_frozen BK1106.out 0
   have hfz7_1 := blk_frozen BK1106.out 1
   have hfz7_2 := blk_frozen BK1106.out 2
   have hfz7_3 := blk_frozen BK1106.out 3
   go_wp2_with (first|((with_reducible refine gate_callee (f := 55) rfl ?_);refine goesL_ (some 9) rfl rfl Try.func55 (by kernel_rfl) rfl #[.int .i64 a0_0, .int .i64 0, .int .i64 65520] rfl (by (try simp only [List.map_toArray, List.map_cons, List.map_nil]);first|done|rfl|(simp only [List.length_drop, List.length_take];rfl)) ?_;(with_reducible refine (impl_within.calls a0_0 0 65520 true _ A4.out).mono ?_);rintro e w' ⟨rfl, ⟨nd, rfl⟩⟩;refine ⟨_, rfl, ?_⟩)|(go_at_call 55;(with_reducible refine (impl_within.calls a0_1 0 65520 t1108 _ A6.out).mono ?_);rintro e w' ⟨rfl, ⟨nd, rfl⟩⟩))
   go_meet
   case rel => exact ⟨_, (!t1108), (by first|rfl|(simp;done)|(simp [*];done)), H', ⟨by first|omega|exact Nat.le_refl _⟩, ⟨by (with_reducible repeat (first|refine blk_drewN ?_ _|refine blk_drew ?_|refine blk_alloc ?_ _));exact BK1106.out⟩, ⟨by repeat (first|(with_reducible first|exact HB.out|apply below_alloc|apply pw_below_drewN|apply below_drew1|refine below_set ?_ GE1106.out)|exact HB.out)⟩⟩
  ·
   replace c5 := Bool.eq_false_iff.mpr c5
   subst c5
   have H1 : (impl_DeltaFault.j0 k true a0_0 a0_1 l0_2 l0_3) = some r := by rw [if_neg (show ¬ (false = true) by decide)] at H;exact H
   clear H
   have H := H1
   clear H1
   have H' := Aside0.mk H
   clear H
   have hcz8_0 : w3.cell? ⟨gb1106, 0, none⟩ = some (.int .i64 a0_0) := (blk_cell BK1106.out 0).trans rfl
   have hcz8_1 : w3.cell? ⟨gb1106, 1, none⟩ = some (.int .i64 a0_1) := (blk_cell BK1106.out 1).trans rfl
   have hcz8_2 : w3.cell? ⟨gb1106, 2, none⟩ = some (.slice A0_2 l0_2.length c0_2) := (blk_cell BK1106.out 2).trans rfl
   have hcz8_3 : w3.cell? ⟨gb1106, 3, none⟩ = some (.slice A0_3 l0_3.length c0_3) := (blk_cell BK1106.out 3).trans rfl
   have hfz8_0 := blk_frozen BK1106.out 0
   have hfz8_1 := blk_frozen BK1106.out 1
   have hfz8_2 := blk_frozen BK1106.out 2
   have hfz8_3 := blk_frozen BK1106.out 3
   go_wp2_with (first|((with_reducible refine gate_callee (f := 55) rfl ?_);refine goesL_ (some 9) rfl rfl Try.func55 (by kernel_rfl) rfl #[.int .i64 a0_0, .int .i64 0, .int .i64 65520] rfl (by (try simp only [List.map_toArray, List.map_cons, List.map_nil]);first|done|rfl|(simp only [List.length_drop, List.length_take];rfl)) ?_;(with_reducible refine (impl_within.calls a0_0 0 65520 false _ A4.out).mono ?_);rintro e w' ⟨rfl, ⟨nd, rfl⟩⟩;refine ⟨_, rfl, ?_⟩))
   go_meet
   case rel => exact ⟨_, (true), (by first|rfl|(simp;done)|(simp [*];done)), H', ⟨by first|omega|exact Nat.le_refl _⟩, ⟨by (with_reducible repeat (first|refine blk_drewN ?_ _|refine blk_drew ?_|refine blk_alloc ?_ _));exact BK1106.out⟩, ⟨by repeat (first|(with_reducible first|exact HB.out|apply below_alloc|apply pw_below_drewN|apply below_drew1|refine below_set ?_ GE1106.out)|exact HB.out)⟩⟩
 case rest =>
  clear HC2
  try clear p2
  try clear c5
  try clear hcz7_0
  try clear hcz7_1
  try clear hcz7_2
  try clear hcz7_3
  try clear hcz8_0
  try clear hcz8_1
  try clear hcz8_2
  try clear hcz8_3
  try clear hfz7_0
  try clear hfz7_1
  try clear hfz7_2
  try clear hfz7_3
  try clear hfz8_0
  try clear hfz8_1
  try clear hfz8_2
  try clear hfz8_3
  obtain ⟨kq, x6_1, rfl, HA, HJ1, BK1106, HB⟩ := hcut
  cases kq with
  | zero => exact absurd HA.out (by simp [impl_DeltaFault.j0])
  | succ kj1 =>
   have H := HA.out
   clear HA
   simp only [impl_DeltaFault.j0] at H
   by_cases c9 : x6_1 = true
   ·
    subst c9
    have H1 : (some 3) = some r := by rw [if_pos rfl] at H;exact H
    clear H
    have H := H1
    clear H1
    obtain rfl := Option.some.inj H
    go_wp2
    go_ret
    exact ⟨by first|rfl|(simp [errW_none, errW_some] <;> rfl)|(simp [*, errW_none, errW_some] <;> rfl), by repeat (first|(with_reducible first|exact HB.out|apply below_alloc|apply pw_below_drewN|apply below_drew1|refine below_set ?_ GE1106.out)|exact HB.out)⟩
   ·
    replace c9 := Bool.eq_false_iff.mpr c9
    subst c9
    have H1 : (if (l0_2.length : Int) > 6 then (some 2) else (if (l0_3.length : Int) > 120 then (some 2) else ((impl_volsFault.f kj1 l0_2).bind fun t1109 => (if t1109 = 0 then (impl_DeltaFault.l0 kj1 l0_3 (l0_3.length : Int) 0 a0_0 a0_1 l0_2 l0_3) else (some t1109))))) = some r := by rw [if_neg (show ¬ (false = true) by decide)] at H;exact H
    clear H
    have H := H1
    clear H1
    by_cases c10 : (l0_2.length : Int) > 6
    ·
     rw [if_pos c10] at H
     have c10b0 : decide (6 < (l0_2.length : Int)) = true := decide_eq_true c10
     have c10b1 : decide (6 < l0_2.length) = true := decide_eq_true (by omega)
     clear c10
     obtain rfl := Option.some.inj H
     have hcz11_0 : wc.cell? ⟨gb1106, 0, none⟩ = some (.int .i64 a0_0) := (blk_cell BK1106.out 0).trans rfl
     have hcz11_1 : wc.cell? ⟨gb1106, 1, none⟩ = some (.int .i64 a0_1) := (blk_cell BK1106.out 1).trans rfl
     have hcz11_2 : wc.cell? ⟨gb1106, 2, none⟩ = some (.slice A0_2 l0_2.length c0_2) := (blk_cell BK1106.out 2).trans rfl
     have hcz11_3 : wc.cell? ⟨gb1106, 3, none⟩ = some (.slice A0_3 l0_3.length c0_3) := (blk_cell BK1106.out 3).trans rfl
     have hfz11_0 := blk_frozen BK1106.out 0
     have hfz11_1 := blk_frozen BK1106.out 1
     have hfz11_2 := blk_frozen BK1106.out 2
     have hfz11_3 := blk_frozen BK1106.out 3
     go_wp2
     go_ret
     exact ⟨by first|rfl|(simp [errW_none, errW_some] <;> rfl)|(simp [*, errW_none, errW_some] <;> rfl), by repeat (first|(with_reducible first|exact HB.out|apply below_alloc|apply pw_below_drewN|apply below_drew1|refine below_set ?_ GE1106.out)|exact HB.out)⟩
    ·
     rw [if_neg c10] at H
     have c10b0 : decide (6 < (l0_2.length : Int)) = false := decide_eq_false c10
     have c10b1 : decide (6 < l0_2.length) = false := decide_eq_false (by omega)
     clear c10
     by_cases c12 : (l0_3.length : Int) > 120
     ·
      rw [if_pos c12] at H
      have c12b0 : decide (120 < (l0_3.length : Int)) = true := decide_eq_true c12
      have c12b1 : decide (120 < l0_3.length) = true := decide_eq_true (by omega)
      clear c12
      obtain rfl := Option.some.inj H
      have hcz13_0 : wc.cell? ⟨gb1106, 0, none⟩ = some (.int .i64 a0_0) := (blk_cell BK1106.out 0).trans rfl
      have hcz13_1 : wc.cell? ⟨gb1106, 1, none⟩ = some (.int .i64 a0_1) := (blk_cell BK1106.out 1).trans rfl
      have hcz13_2 : wc.cell? ⟨gb1106, 2, none⟩ = some (.slice A0_2 l0_2.length c0_2) := (blk_cell BK1106.out 2).trans rfl
      have hcz13_3 : wc.cell? ⟨gb1106, 3, none⟩ = some (.slice A0_3 l0_3.length c0_3) := (blk_cell BK1106.out 3).trans rfl
      have hfz13_0 := blk_frozen BK1106.out 0
      have hfz13_1 := blk_frozen BK1106.out 1
      have hfz13_2 := blk_frozen BK1106.out 2
      have hfz13_3 := blk_frozen BK1106.out 3
      go_wp2
      go_ret
      exact ⟨by first|rfl|(simp [errW_none, errW_some] <;> rfl)|(simp [*, errW_none, errW_some] <;> rfl), by repeat (first|(with_reducible first|exact HB.out|apply below_alloc|apply pw_below_drewN|apply below_drew1|refine below_set ?_ GE1106.out)|exact HB.out)⟩
     ·
      rw [if_neg c12] at H
      have c12b0 : decide (120 < (l0_3.length : Int)) = false := decide_eq_false c12
      have c12b1 : decide (120 < l0_3.length) = false := decide_eq_false (by omega)
      clear c12
      replace H := Option.bind_eq_some_iff.mp H
      obtain ⟨t1109, A140, H⟩ := H
      replace H : (if t1109 = 0 then (impl_DeltaFault.l0 kj1 l0_3 (l0_3.length : Int) 0 a0_0 a0_1 l0_2 l0_3) else (some t1109)) = some r := H
      have A14 := Aside0.mk A140
      clear A140
      by_cases c15 : t1109 = 0
      ·
       rw [if_pos c15] at H
       have c15b0 : (t1109 == 0) = true := beq_iff_eq.mpr c15
       have c15b1 : (t1109 != 0) = false := bne_eq_false_iff_eq.mpr c15
       clear c15
       have H' := Aside0.mk H
       clear H
       have hcz16_0 : wc.cell? ⟨gb1106, 0, none⟩ = some (.int .i64 a0_0) := (blk_cell BK1106.out 0).trans rfl
       have hcz16_1 : wc.cell? ⟨gb1106, 1, none⟩ = some (.int .i64 a0_1) := (blk_cell BK1106.out 1).trans rfl
       have hcz16_2 : wc.cell? ⟨gb1106, 2, none⟩ = some (.slice A0_2 l0_2.length c0_2) := (blk_cell BK1106.out 2).trans rfl
       have hcz16_3 : wc.cell? ⟨gb1106, 3, none⟩ = some (.slice A0_3 l0_3.length c0_3) := (blk_cell BK1106.out 3).trans rfl
       have hfz16_0 := blk_frozen BK1106.out 0
       have hfz16_1 := blk_frozen BK1106.out 1
       have hfz16_2 := blk_frozen BK1106.out 2
       have hfz16_3 := blk_frozen BK1106.out 3
       go_wp2_with (first|((with_reducible refine gate_callee (f := 92) rfl ?_);refine goesL_ (some 30) rfl rfl Try.func92 (by kernel_rfl) rfl #[.slice A0_2 l0_2.length c0_2] rfl (by (try simp only [List.map_toArray, List.map_cons, List.map_nil]);first|done|rfl|(simp only [List.length_drop, List.length_take];rfl)) ?_;(with_reducible refine (impl_volsFault.calls kj1 _ _ l0_2 t1109 _ ?side1 ?side2 A14.out).mono ?_);(case side1 => repeat (first|exact (Kd.C_below HR0_2.out HB.out)|(with_reducible refine Kd.C_alloc ?_ _)|(with_reducible refine Kd.C_drewN ?_ _)|(with_reducible refine Kd.C_drew ?_)));(case side2 => exact HC0_2.out);rintro e w17 ⟨rfl, hb⟩;refine ⟨_, rfl, ?_⟩;have n0_ := Aside0.mk (blk_below (g := gb1106) (o := .cells #[.int .i64 a0_0, .int .i64 a0_1, .slice A0_2 l0_2.length c0_2, .slice A0_3 l0_3.length c0_3] 84 (0, 0)) (by (with_reducible repeat (first|refine blk_drewN ?_ _|refine blk_drew ?_|refine blk_alloc ?_ _));exact BK1106.out) hb);have n1_ := Aside0.mk (below_step (by repeat (first|(with_reducible first|exact HB.out|apply below_alloc|apply pw_below_drewN|apply below_drew1|refine below_set ?_ GE1106.out)|exact HB.out)) hb);clear BK1106;clear HB;have BK1106 := n0_;have HB := n1_;clear n0_ n1_;(try clear hb);(try clear hb2);(try clear hk);(try clear hi);have hcz18_0 : w17.cell? ⟨gb1106, 0, none⟩ = some (.int .i64 a0_0) := (blk_cell BK1106.out 0).trans rfl;have hcz18_1 : w17.cell? ⟨gb1106, 1, none⟩ = some (.int .i64 a0_1) := (blk_cell BK1106.out 1).trans rfl;have hcz18_2 : w17.cell? ⟨gb1106, 2, none⟩ = some (.slice A0_2 l0_2.length c0_2) := (blk_cell BK1106.out 2).trans rfl;have hcz18_3 : w17.cell? ⟨gb1106, 3, none⟩ = some (.slice A0_3 l0_3.length c0_3) := (blk_cell BK1106.out 3).trans rfl;have hfz18_0 := blk_frozen BK1106.out 0;have hfz18_1 := blk_frozen BK1106.out 1;have hfz18_2 := blk_frozen BK1106.out 2;have hfz18_3 := blk_frozen BK1106.out 3))
       go_loopg [37] kj1 (fun kq v37 w' => ∃ (x37_2 : Int), v37 = .int .i64 x37_2 ∧ Aside0 (impl_DeltaFault.l0 kq l0_3 (l0_3.length : Int) x37_2 a0_0 a0_1 l0_2 l0_3 = some r) ∧ Aside0 (kq ≤ kj1) ∧ Aside0 (w'.heap[gb1106]? = some (.cells #[.int .i64 a0_0, .int .i64 a0_1, (.slice A0_2 l0_2.length c0_2), (.slice A0_3 l0_3.length c0_3)] 84 (0, 0))) ∧ Aside0 (Below w.heap.size w w'))
       case atStart => exact ⟨(0), (by first|rfl|(simp;done)|(simp [*];done)), H', ⟨Nat.le_refl _⟩, ⟨by (with_reducible repeat (first|refine blk_drewN ?_ _|refine blk_drew ?_|refine blk_alloc ?_ _));exact BK1106.out⟩, ⟨by repeat (first|(with_reducible first|exact HB.out|apply below_alloc|apply pw_below_drewN|apply below_drew1|refine below_set ?_ GE1106.out)|exact HB.out)⟩⟩
       case round =>
        clear H'
        try clear c1
        try clear p2
        try clear c5
        try clear c9
        try clear c10
        try clear c10b0
        try clear c10b1
        try clear c12
        try clear c12b0
        try clear c12b1
        try clear c15
        try clear c15b0
        try clear c15b1
        try clear hcz11_0
        try clear hcz11_1
        try clear hcz11_2
        try clear hcz11_3
        try clear hcz13_0
        try clear hcz13_1
        try clear hcz13_2
        try clear hcz13_3
        try clear hcz16_0
        try clear hcz16_1
        try clear hcz16_2
        try clear hcz16_3
        try clear hcz18_0
        try clear hcz18_1
        try clear hcz18_2
        try clear hcz18_3
        try clear hcz7_0
        try clear hcz7_1
        try clear hcz7_2
        try clear hcz7_3
        try clear hcz8_0
        try clear hcz8_1
        try clear hcz8_2
        try clear hcz8_3
        try clear hfz11_0
        try clear hfz11_1
        try clear hfz11_2
        try clear hfz11_3
        try clear hfz13_0
        try clear hfz13_1
        try clear hfz13_2
        try clear hfz13_3
        try clear hfz16_0
        try clear hfz16_1
        try clear hfz16_2
        try clear hfz16_3
        try clear hfz18_0
        try clear hfz18_1
        try clear hfz18_2
        try clear hfz18_3
        try clear hfz7_0
        try clear hfz7_1
        try clear hfz7_2
        try clear hfz7_3
        try clear hfz8_0
        try clear hfz8_1
        try clear hfz8_2
        try clear hfz8_3
        try clear p2
        obtain ⟨x37_2, rfl, HA, HK2, BK1106, HB⟩ := hrel
        cases gk with
        | zero => exact absurd HA.out (by simp [impl_DeltaFault.l0])
        | succ k2 =>
         have H := HA.out
         clear HA
         simp only [impl_DeltaFault.l0] at H
         by_cases c19 : x37_2 < (l0_3.length : Int)
         ·
          rw [if_pos c19] at H
          have c19b0 : decide (x37_2 < (l0_3.length : Int)) = true := decide_eq_true c19
          clear c19
          by_cases c20 : 0 ≤ x37_2
          ·
           rw [if_pos c20] at H
           have c20b0 : decide (0 ≤ x37_2) = true := decide_eq_true c20
           clear c20
           by_cases c21 : x37_2 < (l0_3.length : Int)
           ·
            rw [if_pos c21] at H
            have c21b0 : decide (x37_2 < (l0_3.length : Int)) = true := decide_eq_true c21
            clear c21
            have HC22 := Aside0.mk H
            clear H
            have p1110 : 0 ≤ (x37_2 : Int) := of_decide_eq_true (by first|(with_reducible assumption)|assumption)
            have q1110 : x37_2 < (l0_3.length : Int) := of_decide_eq_true (by first|(with_reducible assumption)|assumption)
            obtain ⟨ad1110, e1110, hx1110_0, hx1110_1, hx1110_2, hx1110_3⟩ := at_T137 HR0_3.out x37_2 p1110 q1110
            cases e1110
            replace hx1110_0 := (HB.out.cell (World.block_lt_of_cell? w _ hx1110_0)).trans hx1110_0
            replace hx1110_1 := (HB.out.cell (World.block_lt_of_cell? w _ hx1110_1)).trans hx1110_1
            replace hx1110_2 := (HB.out.cell (World.block_lt_of_cell? w _ hx1110_2)).trans hx1110_2
            replace hx1110_3 := (HB.out.cell (World.block_lt_of_cell? w _ hx1110_3)).trans hx1110_3
            replace p1110 := eq_true p1110
            replace q1110 := eq_true q1110
            go_upto_region 11 with (first|((with_reducible refine gate_dst (N := 5) rfl ?_);(try (refine gate_guard (by rfl) ?_;dsimp only));refine box_event ?hg (N := 5) ?hd (cs := #[.bool false, .int .i64 0, .int .i64 0, .int .i64 0]) (t := 137) ?hr ?_;(case hd => rfl);(case hg => rfl);(case hr => first|(go_simp;done)|(go_simp;rfl));intro gb1111 hg w23 hbox hb;have n0_ := Aside0.mk (blk_below (g := gb1106) (o := .cells #[.int .i64 a0_0, .int .i64 a0_1, .slice A0_2 l0_2.length c0_2, .slice (some ad1110) l0_3.length c0_3] 84 (0, 0)) (by (with_reducible repeat (first|refine blk_drewN ?_ _|refine blk_drew ?_|refine blk_alloc ?_ _));exact BK1106.out) hb);have n1_ := Aside0.mk (below_step (by repeat (first|(with_reducible first|exact HB.out|apply below_alloc|apply pw_below_drewN|apply below_drew1|refine below_set ?_ GE1106.out)|exact HB.out)) hb);have n2_ := Aside0.mk (hbox);have n3_ := Aside0.mk ((by rw [hg];exact (below_size (by repeat (first|(with_reducible first|exact HB.out|apply below_alloc|apply pw_below_drewN|apply below_drew1|refine below_set ?_ GE1106.out)|exact HB.out))) : w.heap.size ≤ gb1111));have n4_ := Aside0.mk ((by rw [hg];exact (below_size (by repeat (first|(with_reducible first|exact HB.out|apply below_alloc|apply pw_below_drewN|apply below_drew1|refine below_set ?_ GE1106.out)|exact HB.out))) : w.heap.size ≤ gb1111));have n5_ := Aside0.mk ((by rw [hg];exact Nat.ne_of_lt (blk_lt (g := gb1106) (o := .cells #[.int .i64 a0_0, .int .i64 a0_1, .slice A0_2 l0_2.length c0_2, .slice (some ad1110) l0_3.length c0_3] 84 (0, 0)) (by (with_reducible repeat (first|refine blk_drewN ?_ _|refine blk_drew ?_|refine blk_alloc ?_ _));exact BK1106.out)) : gb1106 ≠ gb1111));have n6_ := Aside0.mk ((by rw [hg];exact Nat.ne_of_gt (blk_lt (g := gb1106) (o := .cells #[.int .i64 a0_0, .int .i64 a0_1, .slice A0_2 l0_2.length c0_2, .slice (some ad1110) l0_3.length c0_3] 84 (0, 0)) (by (with_reducible repeat (first|refine blk_drewN ?_ _|refine blk_drew ?_|refine blk_alloc ?_ _));exact BK1106.out)) : gb1111 ≠ gb1106));clear BK1106;clear HB;have BK1106 := n0_;have HB := n1_;have BK1111 := n2_;have GW1111 := n3_;have GE1111 := n4_;have NB1106_1111 := n5_;have NB1111_1106 := n6_;clear n0_ n1_ n2_ n3_ n4_ n5_ n6_;clear hb hbox hg;have hnb24 := NB1111_1106.out;have hnc24 := NB1106_1111.out;have hcz25_0 : w23.cell? ⟨gb1111, 0, none⟩ = some (.bool false) := (blk_cell BK1111.out 0).trans rfl;have hcz25_1 : w23.cell? ⟨gb1111, 1, none⟩ = some (.int .i64 0) := (blk_cell BK1111.out 1).trans rfl;have hcz25_2 : w23.cell? ⟨gb1111, 2, none⟩ = some (.int .i64 0) := (blk_cell BK1111.out 2).trans rfl;have hcz25_3 : w23.cell? ⟨gb1111, 3, none⟩ = some (.int .i64 0) := (blk_cell BK1111.out 3).trans rfl;have hfz25_0 := blk_frozen BK1111.out 0;have hfz25_1 := blk_frozen BK1111.out 1;have hfz25_2 := blk_frozen BK1111.out 2;have hfz25_3 := blk_frozen BK1111.out 3))
            (try simp only [Act.put, List.setIfInBounds_toArray, List.set_cons_zero, List.set_cons_succ])
            go_cut [42] (fun v42 wc => ∃ (kq : Nat) (x42_21 : Bool), v42 = .bool x42_21 ∧ Aside0 (impl_DeltaFault.j2 kq x37_2 l0_3 (l0_3.length : Int) x37_2 x42_21 a0_0 a0_1 l0_2 l0_3 ((rd_T137 l0_3 x37_2).f0) ((rd_T137 l0_3 x37_2).f1) ((rd_T137 l0_3 x37_2).f2) ((rd_T137 l0_3 x37_2).f3) = some r) ∧ Aside0 (kq ≤ k2) ∧ Aside0 (wc.heap[gb1106]? = some (.cells #[.int .i64 a0_0, .int .i64 a0_1, (.slice A0_2 l0_2.length c0_2), (.slice (some ad1110) l0_3.length c0_3)] 84 (0, 0))) ∧ Aside0 (wc.heap[gb1111]? = some (.cells #[.bool ((rd_T137 l0_3 x37_2).f0), .int .i64 ((rd_T137 l0_3 x37_2).f1), .int .i64 ((rd_T137 l0_3 x37_2).f2), .int .i64 ((rd_T137 l0_3 x37_2).f3)] 137 (0, 0))) ∧ Aside0 (Below w.heap.size w wc))
            case first =>
             have H := HC22.out
             clear HC22
             replace H := Option.bind_eq_some_iff.mp H
             obtain ⟨t1112, A260, H⟩ := H
             replace H : (if t1112 = true then ((impl_isTreePlace.f ((rd_T137 l0_3 x37_2).f2)).bind fun t1113 => (if t1113 = true then ((impl_isByte.f ((rd_T137 l0_3 x37_2).f3)).bind fun t1114 => (impl_DeltaFault.j2 k2 x37_2 l0_3 (l0_3.length : Int) x37_2 (!t1114) a0_0 a0_1 l0_2 l0_3 ((rd_T137 l0_3 x37_2).f0) ((rd_T137 l0_3 x37_2).f1) ((rd_T137 l0_3 x37_2).f2) ((rd_T137 l0_3 x37_2).f3))) else (impl_DeltaFault.j2 k2 x37_2 l0_3 (l0_3.length : Int) x37_2 true a0_0 a0_1 l0_2 l0_3 ((rd_T137 l0_3 x37_2).f0) ((rd_T137 l0_3 x37_2).f1) ((rd_T137 l0_3 x37_2).f2) ((rd_T137 l0_3 x37_2).f3)))) else (impl_DeltaFault.j2 k2 x37_2 l0_3 (l0_3.length : Int) x37_2 true a0_0 a0_1 l0_2 l0_3 ((rd_T137 l0_3 x37_2).f0) ((rd_T137 l0_3 x37_2).f1) ((rd_T137 l0_3 x37_2).f2) ((rd_T137 l0_3 x37_2).f3))) = some r := H
             have A26 := Aside0.mk A260
             clear A260
             by_cases c27 : t1112 = true
             ·
              subst c27
              have H1 : ((impl_isTreePlace.f ((rd_T137 l0_3 x37_2).f2)).bind fun t1113 => (if t1113 = true then ((impl_isByte.f ((rd_T137 l0_3 x37_2).f3)).bind fun t1114 => (impl_DeltaFault.j2 k2 x37_2 l0_3 (l0_3.length : Int) x37_2 (!t1114) a0_0 a0_1 l0_2 l0_3 ((rd_T137 l0_3 x37_2).f0) ((rd_T137 l0_3 x37_2).f1) ((rd_T137 l0_3 x37_2).f2) ((rd_T137 l0_3 x37_2).f3))) else (impl_DeltaFault.j2 k2 x37_2 l0_3 (l0_3.length : Int) x37_2 true a0_0 a0_1 l0_2 l0_3 ((rd_T137 l0_3 x37_2).f0) ((rd_T137 l0_3 x37_2).f1) ((rd_T137 l0_3 x37_2).f2) ((rd_T137 l0_3 x37_2).f3)))) = some r := by rw [if_pos rfl] at H;exact H
              clear H
              have H := H1
              clear H1
              replace H := Option.bind_eq_some_iff.mp H
              obtain ⟨t1113, A280, H⟩ := H
              replace H : (if t1113 = true then ((impl_isByte.f ((rd_T137 l0_3 x37_2).f3)).bind fun t1114 => (impl_DeltaFault.j2 k2 x37_2 l0_3 (l0_3.length : Int) x37_2 (!t1114) a0_0 a0_1 l0_2 l0_3 ((rd_T137 l0_3 x37_2).f0) ((rd_T137 l0_3 x37_2).f1) ((rd_T137 l0_3 x37_2).f2) ((rd_T137 l0_3 x37_2).f3))) else (impl_DeltaFault.j2 k2 x37_2 l0_3 (l0_3.length : Int) x37_2 true a0_0 a0_1 l0_2 l0_3 ((rd_T137 l0_3 x37_2).f0) ((rd_T137 l0_3 x37_2).f1) ((rd_T137 l0_3 x37_2).f2) ((rd_T137 l0_3 x37_2).f3))) = some r := H
              have A28 := Aside0.mk A280
              clear A280
              by_cases c29 : t1113 = true
              ·
               subst c29
               have H1 : ((impl_isByte.f ((rd_T137 l0_3 x37_2).f3)).bind fun t1114 => (impl_DeltaFault.j2 k2 x37_2 l0_3 (l0_3.length : Int) x37_2 (!t1114) a0_0 a0_1 l0_2 l0_3 ((rd_T137 l0_3 x37_2).f0) ((rd_T137 l0_3 x37_2).f1) ((rd_T137 l0_3 x37_2).f2) ((rd_T137 l0_3 x37_2).f3))) = some r := by rw [if_pos rfl] at H;exact H
               clear H
               have H := H1
               clear H1
               replace H := Option.bind_eq_some_iff.mp H
               obtain ⟨t1114, A300, H⟩ := H
               replace H : (impl_DeltaFault.j2 k2 x37_2 l0_3 (l0_3.length : Int) x37_2 (!t1114) a0_0 a0_1 l0_2 l0_3 ((rd_T137 l0_3 x37_2).f0) ((rd_T137 l0_3 x37_2).f1) ((rd_T137 l0_3 x37_2).f2) ((rd_T137 l0_3 x37_2).f3)) = some r := H
               have A30 := Aside0.mk A300
               clear A300
               have H' := Aside0.mk H
               clear H
               have hnb31 := NB1111_1106.out
               have hnc31 := NB1106_1111.out
               have hcz32_0 : w23.cell? ⟨gb1111, 0, none⟩ = some (.bool false) := (blk_cell BK1111.out 0).trans rfl
               have hcz32_1 : w23.cell? ⟨gb1111, 1, none⟩ = some (.int .i64 0) := (blk_cell BK1111.out 1).trans rfl
               have hcz32_2 : w23.cell? ⟨gb1111, 2, none⟩ = some (.int .i64 0) := (blk_cell BK1111.out 2).trans rfl
               have hcz32_3 : w23.cell? ⟨gb1111, 3, none⟩ = some (.int .i64 0) := (blk_cell BK1111.out 3).trans rfl
               have hfz32_0 := blk_frozen BK1111.out 0
               have hfz32_1 := blk_frozen BK1111.out 1
               have hfz32_2 := blk_frozen BK1111.out 2
               have hfz32_3 := blk_frozen BK1111.out 3
               go_wp2_with (first|((with_reducible refine gate_callee (f := 77) rfl ?_);refine goesL_ (some 45) rfl rfl Try.func77 (by kernel_rfl) rfl #[.int .i64 ((rd_T137 l0_3 x37_2).f1)] rfl (by (try simp only [List.map_toArray, List.map_cons, List.map_nil]);first|done|rfl|(simp only [List.length_drop, List.length_take];rfl)) ?_;(with_reducible refine (impl_isId.calls ((rd_T137 l0_3 x37_2).f1) true _ A26.out).mono ?_);rintro e w' ⟨rfl, ⟨nd, rfl⟩⟩;refine ⟨_, rfl, ?_⟩)|(go_at_call 93;(with_reducible refine (impl_isTreePlace.calls ((rd_T137 l0_3 x37_2).f2) true _ A28.out).mono ?_);rintro e w' ⟨rfl, ⟨nd, rfl⟩⟩)|(go_at_call 94;(with_reducible refine (impl_isByte.calls ((rd_T137 l0_3 x37_2).f3) t1114 _ A30.out).mono ?_);rintro e w' ⟨rfl, ⟨nd, rfl⟩⟩))
               go_meet
               case rel => exact ⟨_, (!t1114), (by first|rfl|(simp;done)|(simp [*];done)), H', ⟨by have := HJ1.out;have := HK2.out;first|omega|exact Nat.le_refl _⟩, ⟨by (with_reducible repeat (first|refine blk_drewN ?_ _|refine blk_drew ?_|refine blk_alloc ?_ _));refine blk_far ?_ NB1106_1111.out _;(with_reducible repeat (first|refine blk_drewN ?_ _|refine blk_drew ?_|refine blk_alloc ?_ _));refine blk_far ?_ NB1106_1111.out _;(with_reducible repeat (first|refine blk_drewN ?_ _|refine blk_drew ?_|refine blk_alloc ?_ _));refine blk_far ?_ NB1106_1111.out _;(with_reducible repeat (first|refine blk_drewN ?_ _|refine blk_drew ?_|refine blk_alloc ?_ _));refine blk_far ?_ NB1106_1111.out _;(with_reducible repeat (first|refine blk_drewN ?_ _|refine blk_drew ?_|refine blk_alloc ?_ _));exact BK1106.out⟩, ⟨by (with_reducible repeat (first|refine blk_drewN ?_ _|refine blk_drew ?_|refine blk_alloc ?_ _));refine blk_put (cs := #[.bool ((rd_T137 l0_3 x37_2).f0), .int .i64 ((rd_T137 l0_3 x37_2).f1), .int .i64 ((rd_T137 l0_3 x37_2).f2), .int .i64 0]) ?_ 3 _ rfl;(with_reducible repeat (first|refine blk_drewN ?_ _|refine blk_drew ?_|refine blk_alloc ?_ _));refine blk_put (cs := #[.bool ((rd_T137 l0_3 x37_2).f0), .int .i64 ((rd_T137 l0_3 x37_2).f1), .int .i64 0, .int .i64 0]) ?_ 2 _ rfl;(with_reducible repeat (first|refine blk_drewN ?_ _|refine blk_drew ?_|refine blk_alloc ?_ _));refine blk_put (cs := #[.bool ((rd_T137 l0_3 x37_2).f0), .int .i64 0, .int .i64 0, .int .i64 0]) ?_ 1 _ rfl;(with_reducible repeat (first|refine blk_drewN ?_ _|refine blk_drew ?_|refine blk_alloc ?_ _));refine blk_put (cs := #[.bool false, .int .i64 0, .int .i64 0, .int .i64 0]) ?_ 0 _ rfl;(with_reducible repeat (first|refine blk_drewN ?_ _|refine blk_drew ?_|refine blk_alloc ?_ _));exact BK1111.out⟩, ⟨by repeat (first|(with_reducible first|exact HB.out|apply below_alloc|apply pw_below_drewN|apply below_drew1|refine below_set ?_ GE1106.out|refine below_set ?_ GE1111.out)|exact HB.out)⟩⟩
              ·
               replace c29 := Bool.eq_false_iff.mpr c29
               subst c29
               have H1 : (impl_DeltaFault.j2 k2 x37_2 l0_3 (l0_3.length : Int) x37_2 true a0_0 a0_1 l0_2 l0_3 ((rd_T137 l0_3 x37_2).f0) ((rd_T137 l0_3 x37_2).f1) ((rd_T137 l0_3 x37_2).f2) ((rd_T137 l0_3 x37_2).f3)) = some r := by rw [if_neg (show ¬ (false = true) by decide)] at H;exact H
               clear H
               have H := H1
               clear H1
               have H' := Aside0.mk H
               clear H
               have hnb33 := NB1111_1106.out
               have hnc33 := NB1106_1111.out
               have hcz34_0 : w23.cell? ⟨gb1111, 0, none⟩ = some (.bool false) := (blk_cell BK1111.out 0).trans rfl
               have hcz34_1 : w23.cell? ⟨gb1111, 1, none⟩ = some (.int .i64 0) := (blk_cell BK1111.out 1).trans rfl
               have hcz34_2 : w23.cell? ⟨gb1111, 2, none⟩ = some (.int .i64 0) := (blk_cell BK1111.out 2).trans rfl
               have hcz34_3 : w23.cell? ⟨gb1111, 3, none⟩ = some (.int .i64 0) := (blk_cell BK1111.out 3).trans rfl
               have hfz34_0 := blk_frozen BK1111.out 0
               have hfz34_1 := blk_frozen BK1111.out 1
               have hfz34_2 := blk_frozen BK1111.out 2
               have hfz34_3 := blk_frozen BK1111.out 3
               go_wp2_with (first|((with_reducible refine gate_callee (f := 77) rfl ?_);refine goesL_ (some 45) rfl rfl Try.func77 (by kernel_rfl) rfl #[.int .i64 ((rd_T137 l0_3 x37_2).f1)] rfl (by (try simp only [List.map_toArray, List.map_cons, List.map_nil]);first|done|rfl|(simp only [List.length_drop, List.length_take];rfl)) ?_;(with_reducible refine (impl_isId.calls ((rd_T137 l0_3 x37_2).f1) true _ A26.out).mono ?_);rintro e w' ⟨rfl, ⟨nd, rfl⟩⟩;refine ⟨_, rfl, ?_⟩)|(go_at_call 93;(with_reducible refine (impl_isTreePlace.calls ((rd_T137 l0_3 x37_2).f2) false _ A28.out).mono ?_);rintro e w' ⟨rfl, ⟨nd, rfl⟩⟩))
               go_meet
               case rel => exact ⟨_, (true), (by first|rfl|(simp;done)|(simp [*];done)), H', ⟨by have := HJ1.out;have := HK2.out;first|omega|exact Nat.le_refl _⟩, ⟨by (with_reducible repeat (first|refine blk_drewN ?_ _|refine blk_drew ?_|refine blk_alloc ?_ _));refine blk_far ?_ NB1106_1111.out _;(with_reducible repeat (first|refine blk_drewN ?_ _|refine blk_drew ?_|refine blk_alloc ?_ _));refine blk_far ?_ NB1106_1111.out _;(with_reducible repeat (first|refine blk_drewN ?_ _|refine blk_drew ?_|refine blk_alloc ?_ _));refine blk_far ?_ NB1106_1111.out _;(with_reducible repeat (first|refine blk_drewN ?_ _|refine blk_drew ?_|refine blk_alloc ?_ _));refine blk_far ?_ NB1106_1111.out _;(with_reducible repeat (first|refine blk_drewN ?_ _|refine blk_drew ?_|refine blk_alloc ?_ _));exact BK1106.out⟩, ⟨by (with_reducible repeat (first|refine blk_drewN ?_ _|refine blk_drew ?_|refine blk_alloc ?_ _));refine blk_put (cs := #[.bool ((rd_T137 l0_3 x37_2).f0), .int .i64 ((rd_T137 l0_3 x37_2).f1), .int .i64 ((rd_T137 l0_3 x37_2).f2), .int .i64 0]) ?_ 3 _ rfl;(with_reducible repeat (first|refine blk_drewN ?_ _|refine blk_drew ?_|refine blk_alloc ?_ _));refine blk_put (cs := #[.bool ((rd_T137 l0_3 x37_2).f0), .int .i64 ((rd_T137 l0_3 x37_2).f1), .int .i64 0, .int .i64 0]) ?_ 2 _ rfl;(with_reducible repeat (first|refine blk_drewN ?_ _|refine blk_drew ?_|refine blk_alloc ?_ _));refine blk_put (cs := #[.bool ((rd_T137 l0_3 x37_2).f0), .int .i64 0, .int .i64 0, .int .i64 0]) ?_ 1 _ rfl;(with_reducible repeat (first|refine blk_drewN ?_ _|refine blk_drew ?_|refine blk_alloc ?_ _));refine blk_put (cs := #[.bool false, .int .i64 0, .int .i64 0, .int .i64 0]) ?_ 0 _ rfl;(with_reducible repeat (first|refine blk_drewN ?_ _|refine blk_drew ?_|refine blk_alloc ?_ _));exact BK1111.out⟩, ⟨by repeat (first|(with_reducible first|exact HB.out|apply below_alloc|apply pw_below_drewN|apply below_drew1|refine below_set ?_ GE1106.out|refine below_set ?_ GE1111.out)|exact HB.out)⟩⟩
             ·
              replace c27 := Bool.eq_false_iff.mpr c27
              subst c27
              have H1 : (impl_DeltaFault.j2 k2 x37_2 l0_3 (l0_3.length : Int) x37_2 true a0_0 a0_1 l0_2 l0_3 ((rd_T137 l0_3 x37_2).f0) ((rd_T137 l0_3 x37_2).f1) ((rd_T137 l0_3 x37_2).f2) ((rd_T137 l0_3 x37_2).f3)) = some r := by rw [if_neg (show ¬ (false = true) by decide)] at H;exact H
              clear H
              have H := H1
              clear H1
              have H' := Aside0.mk H
              clear H
              have hnb35 := NB1111_1106.out
              have hnc35 := NB1106_1111.out
              have hcz36_0 : w23.cell? ⟨gb1111, 0, none⟩ = some (.bool false) := (blk_cell BK1111.out 0).trans rfl
              have hcz36_1 : w23.cell? ⟨gb1111, 1, none⟩ = some (.int .i64 0) := (blk_cell BK1111.out 1).trans rfl
              have hcz36_2 : w23.cell? ⟨gb1111, 2, none⟩ = some (.int .i64 0) := (blk_cell BK1111.out 2).trans rfl
              have hcz36_3 : w23.cell? ⟨gb1111, 3, none⟩ = some (.int .i64 0) := (blk_cell BK1111.out 3).trans rfl
              have hfz36_0 := blk_frozen BK1111.out 0
              have hfz36_1 := blk_frozen BK1111.out 1
              have hfz36_2 := blk_frozen BK1111.out 2
              have hfz36_3 := blk_frozen BK1111.out 3
              go_wp2_with (first|((with_reducible refine gate_callee (f := 77) rfl ?_);refine goesL_ (some 45) rfl rfl Try.func77 (by kernel_rfl) rfl #[.int .i64 ((rd_T137 l0_3 x37_2).f1)] rfl (by (try simp only [List.map_toArray, List.map_cons, List.map_nil]);first|done|rfl|(simp only [List.length_drop, List.length_take];rfl)) ?_;(with_reducible refine (impl_isId.calls ((rd_T137 l0_3 x37_2).f1) false _ A26.out).mono ?_);rintro e w' ⟨rfl, ⟨nd, rfl⟩⟩;refine ⟨_, rfl, ?_⟩))
              go_meet
              case rel => exact ⟨_, (true), (by first|rfl|(simp;done)|(simp [*];done)), H', ⟨by have := HJ1.out;have := HK2.out;first|omega|exact Nat.le_refl _⟩, ⟨by (with_reducible repeat (first|refine blk_drewN ?_ _|refine blk_drew ?_|refine blk_alloc ?_ _));refine blk_far ?_ NB1106_1111.out _;(with_reducible repeat (first|refine blk_drewN ?_ _|refine blk_drew ?_|refine blk_alloc ?_ _));refine blk_far ?_ NB1106_1111.out _;(with_reducible repeat (first|refine blk_drewN ?_ _|refine blk_drew ?_|refine blk_alloc ?_ _));refine blk_far ?_ NB1106_1111.out _;(with_reducible repeat (first|refine blk_drewN ?_ _|refine blk_drew ?_|refine blk_alloc ?_ _));refine blk_far ?_ NB1106_1111.out _;(with_reducible repeat (first|refine blk_drewN ?_ _|refine blk_drew ?_|refine blk_alloc ?_ _));exact BK1106.out⟩, ⟨by (with_reducible repeat (first|refine blk_drewN ?_ _|refine blk_drew ?_|refine blk_alloc ?_ _));refine blk_put (cs := #[.bool ((rd_T137 l0_3 x37_2).f0), .int .i64 ((rd_T137 l0_3 x37_2).f1), .int .i64 ((rd_T137 l0_3 x37_2).f2), .int .i64 0]) ?_ 3 _ rfl;(with_reducible repeat (first|refine blk_drewN ?_ _|refine blk_drew ?_|refine blk_alloc ?_ _));refine blk_put (cs := #[.bool ((rd_T137 l0_3 x37_2).f0), .int .i64 ((rd_T137 l0_3 x37_2).f1), .int .i64 0, .int .i64 0]) ?_ 2 _ rfl;(with_reducible repeat (first|refine blk_drewN ?_ _|refine blk_drew ?_|refine blk_alloc ?_ _));refine blk_put (cs := #[.bool ((rd_T137 l0_3 x37_2).f0), .int .i64 0, .int .i64 0, .int .i64 0]) ?_ 1 _ rfl;(with_reducible repeat (first|refine blk_drewN ?_ _|refine blk_drew ?_|refine blk_alloc ?_ _));refine blk_put (cs := #[.bool false, .int .i64 0, .int .i64 0, .int .i64 0]) ?_ 0 _ rfl;(with_reducible repeat (first|refine blk_drewN ?_ _|refine blk_drew ?_|refine blk_alloc ?_ _));exact BK1111.out⟩, ⟨by repeat (first|(with_reducible first|exact HB.out|apply below_alloc|apply pw_below_drewN|apply below_drew1|refine below_set ?_ GE1106.out|refine below_set ?_ GE1111.out)|exact HB.out)⟩⟩
            case rest =>
             clear HC22
             try clear c1
             try clear p1
             try clear q1
             try clear hx1
             try clear c2
             try clear p2
             try clear c3
             try clear c5
             try clear c7
             try clear c9
             try clear c10
             try clear c10b0
             try clear c10b1
             try clear p11
             try clear q11
             try clear hx11
             try clear c12
             try clear c12b0
             try clear c12b1
             try clear c15
             try clear c15b0
             try clear c15b1
             try clear c19
             try clear c19b0
             try clear c20
             try clear c20b0
             try clear c21
             try clear c21b0
             try clear c24
             try clear c27
             try clear c29
             try clear c31
             try clear c33
             try clear c35
             try clear hcz11_0
             try clear hcz11_1
             try clear hcz11_2
             try clear hcz11_3
             try clear hcz13_0
             try clear hcz13_1
             try clear hcz13_2
             try clear hcz13_3
             try clear hcz16_0
             try clear hcz16_1
             try clear hcz16_2
             try clear hcz16_3
             try clear hcz18_0
             try clear hcz18_1
             try clear hcz18_2
             try clear hcz18_3
             try clear hcz25_0
             try clear hcz25_1
             try clear hcz25_2
             try clear hcz25_3
             try clear hcz32_0
             try clear hcz32_1
             try clear hcz32_2
             try clear hcz32_3
             try clear hcz34_0
             try clear hcz34_1
             try clear hcz34_2
             try clear hcz34_3
             try clear hcz36_0
             try clear hcz36_1
             try clear hcz36_2
             try clear hcz36_3
             try clear hcz7_0
             try clear hcz7_1
             try clear hcz7_2
             try clear hcz7_3
             try clear hcz8_0
             try clear hcz8_1
             try clear hcz8_2
             try clear hcz8_3
             try clear hfz11_0
             try clear hfz11_1
             try clear hfz11_2
             try clear hfz11_3
             try clear hfz13_0
             try clear hfz13_1
             try clear hfz13_2
             try clear hfz13_3
             try clear hfz16_0
             try clear hfz16_1
             try clear hfz16_2
             try clear hfz16_3
             try clear hfz18_0
             try clear hfz18_1
             try clear hfz18_2
             try clear hfz18_3
             try clear hfz25_0
             try clear hfz25_1
             try clear hfz25_2
             try clear hfz25_3
             try clear hfz32_0
             try clear hfz32_1
             try clear hfz32_2
             try clear hfz32_3
             try clear hfz34_0
             try clear hfz34_1
             try clear hfz34_2
             try clear hfz34_3
             try clear hfz36_0
             try clear hfz36_1
             try clear hfz36_2
             try clear hfz36_3
             try clear hfz7_0
             try clear hfz7_1
             try clear hfz7_2
             try clear hfz7_3
             try clear hfz8_0
             try clear hfz8_1
             try clear hfz8_2
             try clear hfz8_3
             try clear hx1110_0
             try clear hx1110_1
             try clear hx1110_2
             try clear hx1110_3
             try clear p1110
             try clear p2
             try clear q1110
             obtain ⟨kq, x42_21, rfl, HA, HJ21, BK1106, BK1111, HB⟩ := hcut
             cases kq with
             | zero => exact absurd HA.out (by simp [impl_DeltaFault.j2])
             | succ kj21 =>
              have H := HA.out
              clear HA
              simp only [impl_DeltaFault.j2] at H
              by_cases c37 : x42_21 = true
              ·
               subst c37
               have H1 : (some 3) = some r := by rw [if_pos rfl] at H;exact H
               clear H
               have H := H1
               clear H1
               obtain rfl := Option.some.inj H
               go_wp2
               go_ret
               exact ⟨by first|rfl|(simp [errW_none, errW_some] <;> rfl)|(simp [*, errW_none, errW_some] <;> rfl), by repeat (first|(with_reducible first|exact HB.out|apply below_alloc|apply pw_below_drewN|apply below_drew1|refine below_set ?_ GE1106.out|refine below_set ?_ GE1111.out)|exact HB.out)⟩
              ·
               replace c37 := Bool.eq_false_iff.mpr c37
               subst c37
               have H1 : (if ((rd_T137 l0_3 x37_2).f0) = true then (if x37_2 > 0 then (if 0 ≤ (wrap64 (x37_2 - 1)) then (if (wrap64 (x37_2 - 1)) < (l0_3.length : Int) then ((impl_stepOrder.f kj21 ((rd_T137 l0_3 (wrap64 (x37_2 - 1))).f0) ((rd_T137 l0_3 (wrap64 (x37_2 - 1))).f1) ((rd_T137 l0_3 (wrap64 (x37_2 - 1))).f2) ((rd_T137 l0_3 (wrap64 (x37_2 - 1))).f3) ((rd_T137 l0_3 x37_2).f0) ((rd_T137 l0_3 x37_2).f1) ((rd_T137 l0_3 x37_2).f2) ((rd_T137 l0_3 x37_2).f3)).bind fun t1116 => (if t1116 ≥ 0 then (some 1) else (impl_DeltaFault.l0 kj21 l0_3 (l0_3.length : Int) (wrap64 (x37_2 + 1)) a0_0 a0_1 l0_2 l0_3))) else (none)) else (none)) else (impl_DeltaFault.l0 kj21 l0_3 (l0_3.length : Int) (wrap64 (x37_2 + 1)) a0_0 a0_1 l0_2 l0_3)) else (if ((rd_T137 l0_3 x37_2).f3) = 0 then (if x37_2 > 0 then (if 0 ≤ (wrap64 (x37_2 - 1)) then (if (wrap64 (x37_2 - 1)) < (l0_3.length : Int) then ((impl_stepOrder.f kj21 ((rd_T137 l0_3 (wrap64 (x37_2 - 1))).f0) ((rd_T137 l0_3 (wrap64 (x37_2 - 1))).f1) ((rd_T137 l0_3 (wrap64 (x37_2 - 1))).f2) ((rd_T137 l0_3 (wrap64 (x37_2 - 1))).f3) ((rd_T137 l0_3 x37_2).f0) ((rd_T137 l0_3 x37_2).f1) ((rd_T137 l0_3 x37_2).f2) ((rd_T137 l0_3 x37_2).f3)).bind fun t1118 => (if t1118 ≥ 0 then (some 1) else (impl_DeltaFault.l0 kj21 l0_3 (l0_3.length : Int) (wrap64 (x37_2 + 1)) a0_0 a0_1 l0_2 l0_3))) else (none)) else (none)) else (impl_DeltaFault.l0 kj21 l0_3 (l0_3.length : Int) (wrap64 (x37_2 + 1)) a0_0 a0_1 l0_2 l0_3)) else (some 1))) = some r := by rw [if_neg (show ¬ (false = true) by decide)] at H;exact H
               clear H
               have H := H1
               clear H1
               by_cases c38 : ((rd_T137 l0_3 x37_2).f0) = true
               ·
                rw [if_pos c38] at H
                have c38b0 : ((rd_T137 l0_3 x37_2).f0) = true := c38
                clear c38
                by_cases c39 : x37_2 > 0
                ·
                 rw [if_pos c39] at H
                 have c39b0 : decide (0 < x37_2) = true := decide_eq_true c39
                 clear c39
                 obtain ⟨ji40, hji40⟩ : ∃ j_ : Int, (wrap64 (x37_2 - 1)) = j_ := ⟨_, rfl⟩
                 replace H : (if 0 ≤ (ji40) then (if (ji40) < (l0_3.length : Int) then ((impl_stepOrder.f kj21 ((rd_T137 l0_3 (ji40)).f0) ((rd_T137 l0_3 (ji40)).f1) ((rd_T137 l0_3 (ji40)).f2) ((rd_T137 l0_3 (ji40)).f3) ((rd_T137 l0_3 x37_2).f0) ((rd_T137 l0_3 x37_2).f1) ((rd_T137 l0_3 x37_2).f2) ((rd_T137 l0_3 x37_2).f3)).bind fun t1116 => (if t1116 ≥ 0 then (some 1) else (impl_DeltaFault.l0 kj21 l0_3 (l0_3.length : Int) (wrap64 (x37_2 + 1)) a0_0 a0_1 l0_2 l0_3))) else (none)) else (none)) = some r := by first|(rw [hji40] at H;exact H)|(simp only [hji40] at H ⊢;exact H)
                 have hji40w : (IntKind.i64.wrap (x37_2 - 1)) = ji40 := (i64_w _).trans hji40
                 by_cases c41 : 0 ≤ (ji40)
                 ·
                  rw [if_pos c41] at H
                  have c41b0 : decide (0 ≤ (ji40)) = true := decide_eq_true c41
                  clear c41
                  by_cases c42 : (ji40) < (l0_3.length : Int)
                  ·
                   rw [if_pos c42] at H
                   have c42b0 : decide ((ji40) < (l0_3.length : Int)) = true := decide_eq_true c42
                   clear c42
                   replace H := Option.bind_eq_some_iff.mp H
                   obtain ⟨t1116, A430, H⟩ := H
                   replace H : (if t1116 ≥ 0 then (some 1) else (impl_DeltaFault.l0 kj21 l0_3 (l0_3.length : Int) (wrap64 (x37_2 + 1)) a0_0 a0_1 l0_2 l0_3)) = some r := H
                   have A43 := Aside0.mk A430
                   clear A430
                   by_cases c44 : t1116 ≥ 0
                   ·
                    rw [if_pos c44] at H
                    have c44b0 : decide (0 ≤ t1116) = true := decide_eq_true c44
                    clear c44
                    obtain rfl := Option.some.inj H
                    try go_wp2
                    have n0_ := Aside0.mk (blk_drew BK1106.out)
                    have n1_ := Aside0.mk (blk_drew BK1111.out)
                    have n2_ := Aside0.mk (below_drew1 HB.out)
                    clear BK1106
                    clear BK1111
                    clear HB
                    have BK1106 := n0_
                    have BK1111 := n1_
                    have HB := n2_
                    clear n0_ n1_ n2_
                    have p1115 : 0 ≤ ((ji40) : Int) := of_decide_eq_true (by first|(with_reducible assumption)|assumption)
                    have q1115 : (ji40) < (l0_3.length : Int) := of_decide_eq_true (by first|(with_reducible assumption)|assumption)
                    obtain ⟨ad1115, e1115, hx1115_0, hx1115_1, hx1115_2, hx1115_3⟩ := at_T137 HR0_3.out (ji40) p1115 q1115
                    have hw1115_3 := hx1115_3
                    have hw1115_2 := hx1115_2
                    have hw1115_1 := hx1115_1
                    have hw1115_0 := hx1115_0
                    obtain rfl : ad1110 = ad1115 := (by injection e1115)
                    replace hx1115_0 := (HB.out.cell (World.block_lt_of_cell? w _ hx1115_0)).trans hx1115_0
                    replace hx1115_1 := (HB.out.cell (World.block_lt_of_cell? w _ hx1115_1)).trans hx1115_1
                    replace hx1115_2 := (HB.out.cell (World.block_lt_of_cell? w _ hx1115_2)).trans hx1115_2
                    replace hx1115_3 := (HB.out.cell (World.block_lt_of_cell? w _ hx1115_3)).trans hx1115_3
                    replace p1115 := eq_true p1115
                    replace q1115 := eq_true q1115
                    refine start_ (n := 24) (S := fun w' => w'.cell? ⟨gb1111, 0, none⟩ = some (.bool ((rd_T137 l0_3 x37_2).f0)) ∧ w'.cell? ⟨gb1111, 1, none⟩ = some (.int .i64 ((rd_T137 l0_3 x37_2).f1)) ∧ w'.cell? ⟨gb1111, 2, none⟩ = some (.int .i64 ((rd_T137 l0_3 x37_2).f2)) ∧ w'.cell? ⟨gb1111, 3, none⟩ = some (.int .i64 ((rd_T137 l0_3 x37_2).f3)) ∧ w'.cell? ⟨gb1106, 0, none⟩ = some (.int .i64 a0_0) ∧ w'.cell? ⟨gb1106, 1, none⟩ = some (.int .i64 a0_1) ∧ w'.cell? ⟨gb1106, 2, none⟩ = some (.slice A0_2 l0_2.length c0_2) ∧ w'.cell? ⟨gb1106, 3, none⟩ = some (.slice (some ad1110) l0_3.length c0_3) ∧ w'.cell? (ad1110.add (((ji40)).toNat * 4)) = some (.bool ((rd_T137 l0_3 (ji40)).f0)) ∧ w'.cell? ⟨(ad1110.add (((ji40)).toNat * 4)).block, (ad1110.add (((ji40)).toNat * 4)).off + 1, none⟩ = some (.int .i64 ((rd_T137 l0_3 (ji40)).f1)) ∧ w'.cell? ⟨(ad1110.add (((ji40)).toNat * 4)).block, (ad1110.add (((ji40)).toNat * 4)).off + 2, none⟩ = some (.int .i64 ((rd_T137 l0_3 (ji40)).f2)) ∧ w'.cell? ⟨(ad1110.add (((ji40)).toNat * 4)).block, (ad1110.add (((ji40)).toNat * 4)).off + 3, none⟩ = some (.int .i64 ((rd_T137 l0_3 (ji40)).f3))) (ds := []) #[false, false, false, false, false, false, false, false, false, false, false, false, false, false, false, false, false, false, false, false, false, false, false, false] (by kernel_rfl) rfl rfl ⟨(blk_cell BK1111.out 0).trans rfl, (blk_cell BK1111.out 1).trans rfl, (blk_cell BK1111.out 2).trans rfl, (blk_cell BK1111.out 3).trans rfl, (blk_cell BK1106.out 0).trans rfl, (blk_cell BK1106.out 1).trans rfl, (blk_cell BK1106.out 2).trans rfl, (blk_cell BK1106.out 3).trans rfl, ((HB.out.cell (World.block_lt_of_cell? w _ hw1115_0)).trans hw1115_0), ((HB.out.cell (World.block_lt_of_cell? w _ hw1115_1)).trans hw1115_1), ((HB.out.cell (World.block_lt_of_cell? w _ hw1115_2)).trans hw1115_2), ((HB.out.cell (World.block_lt_of_cell? w _ hw1115_3)).trans hw1115_3)⟩ (fun hHeld => ?_);refine with_tabW impl_DeltaFault.tab13 impl_DeltaFault.bits13 (fun HT_ HW_ => ?_)
                    generalize wc.drew = w45 at BK1106 BK1111 HB hx1115_0 hx1115_1 hx1115_2 hx1115_3 hHeld ⊢
                    refine pure_ (i := 0) (N := some 60) (v := ?_) (a' := ?_) #[true, false, false, false, false, false, false, false, false, false, false, false, false, false, false, false, false, false, false, false, false, false, false, false] rfl rfl (any_of HT_.out (by kernel_rfl)) (fun _ _ _ h => h) (Or.inl ⟨by rfl, ?_⟩) ?_ ?_
                    rotate_left
                    ·
                     intro w'
                     go_simp
                     with_reducible rfl
                    rotate_left
                    ·
                     simp only [Act.put, List.setIfInBounds_toArray, List.set_cons_zero, List.set_cons_succ, i64_w, i32_w]
                     rfl
                    refine take_ (i := 1) (N := some 61) (v := ?_) (a' := ?_) #[true, true, false, false, false, false, false, false, false, false, false, false, false, false, false, false, false, false, false, false, false, false, false, false] rfl rfl (take_ofW HT_.out HW_.out (by kernel_rfl)) (fun _ _ _ h => h) (Or.inl ⟨by rfl, ?_⟩) hHeld ?_ ?_
                    rotate_left
                    ·
                     rintro w' ⟨s0, s1, s2, s3, s4, s5, s6, s7, s8, s9, s10, s11⟩
                     go_simp
                     with_reducible rfl
                    rotate_left
                    ·
                     simp only [Act.put, List.setIfInBounds_toArray, List.set_cons_zero, List.set_cons_succ, i64_w, i32_w]
                     rfl
                    refine pure_ (i := 2) (N := some 62) (v := ?_) (a' := ?_) #[true, true, true, false, false, false, false, false, false, false, false, false, false, false, false, false, false, false, false, false, false, false, false, false] rfl rfl (any_of HT_.out (by kernel_rfl)) (fun _ _ _ h => h) (Or.inl ⟨by rfl, ?_⟩) ?_ ?_
                    rotate_left
                    ·
                     intro w'
                     go_simp
                     with_reducible rfl
                    rotate_left
                    ·
                     simp only [Act.put, List.setIfInBounds_toArray, List.set_cons_zero, List.set_cons_succ, i64_w, i32_w]
                     rfl
                    refine pure_ (i := 3) (N := some 63) (v := ?_) (a' := ?_) #[true, true, true, true, false, false, false, false, false, false, false, false, false, false, false, false, false, false, false, false, false, false, false, false] rfl rfl (any_of HT_.out (by kernel_rfl)) (fun _ _ _ h => h) (Or.inl ⟨by rfl, ?_⟩) ?_ ?_
                    rotate_left
                    ·
                     intro w'
                     go_simp
                     with_reducible rfl
                    rotate_left
                    ·
                     simp only [Act.put, List.setIfInBounds_toArray, List.set_cons_zero, List.set_cons_succ, i64_w, i32_w]
                     rfl
                    refine pure_ (i := 4) (N := some 64) (v := undef) (a' := ?_) #[true, true, true, true, true, false, false, false, false, false, false, false, false, false, false, false, false, false, false, false, false, false, false, false] rfl rfl (any_of HT_.out (by kernel_rfl)) (fun _ _ _ h => h) (Or.inr ⟨by rfl, rfl⟩) ?_ ?_
                    rotate_left
                    ·
                     simp only [Act.put, List.setIfInBounds_toArray, List.set_cons_zero, List.set_cons_succ, i64_w, i32_w]
                     rfl
                    refine pure_ (i := 5) (N := some 65) (v := undef) (a' := ?_) #[true, true, true, true, true, true, false, false, false, false, false, false, false, false, false, false, false, false, false, false, false, false, false, false] rfl rfl (any_of HT_.out (by kernel_rfl)) (fun _ _ _ h => h) (Or.inr ⟨by rfl, rfl⟩) ?_ ?_
                    rotate_left
                    ·
                     simp only [Act.put, List.setIfInBounds_toArray, List.set_cons_zero, List.set_cons_succ, i64_w, i32_w]
                     rfl
                    refine pure_ (i := 6) (N := some 66) (v := undef) (a' := ?_) #[true, true, true, true, true, true, true, false, false, false, false, false, false, false, false, false, false, false, false, false, false, false, false, false] rfl rfl (any_of HT_.out (by kernel_rfl)) (fun _ _ _ h => h) (Or.inr ⟨by rfl, rfl⟩) ?_ ?_
                    rotate_left
                    ·
                     simp only [Act.put, List.setIfInBounds_toArray, List.set_cons_zero, List.set_cons_succ, i64_w, i32_w]
                     rfl
                    refine pure_ (i := 7) (N := some 67) (v := ?_) (a' := ?_) #[true, true, true, true, true, true, true, true, false, false, false, false, false, false, false, false, false, false, false, false, false, false, false, false] rfl rfl (any_of HT_.out (by kernel_rfl)) (fun _ _ _ h => h) (Or.inl ⟨by rfl, ?_⟩) ?_ ?_
                    rotate_left
                    ·
                     intro w'
                     go_simp
                     with_reducible rfl
                    rotate_left
                    ·
                     simp only [Act.put, List.setIfInBounds_toArray, List.set_cons_zero, List.set_cons_succ, i64_w, i32_w]
                     rfl
                    refine pure_ (i := 8) (N := some 68) (v := ?_) (a' := ?_) #[true, true, true, true, true, true, true, true, true, false, false, false, false, false, false, false, false, false, false, false, false, false, false, false] rfl rfl (any_of HT_.out (by kernel_rfl)) (fun _ _ _ h => h) (Or.inl ⟨by rfl, ?_⟩) ?_ ?_
                    rotate_left
                    ·
                     intro w'
                     go_simp
                     with_reducible rfl
                    rotate_left
                    ·
                     simp only [Act.put, List.setIfInBounds_toArray, List.set_cons_zero, List.set_cons_succ, i64_w, i32_w]
                     rfl
                    refine pure_ (i := 9) (N := some 69) (v := ?_) (a' := ?_) #[true, true, true, true, true, true, true, true, true, true, false, false, false, false, false, false, false, false, false, false, false, false, false, false] rfl rfl (any_of HT_.out (by kernel_rfl)) (fun _ _ _ h => h) (Or.inl ⟨by rfl, ?_⟩) ?_ ?_
                    rotate_left
                    ·
                     intro w'
                     go_simp
                     with_reducible rfl
                    rotate_left
                    ·
                     simp only [Act.put, List.setIfInBounds_toArray, List.set_cons_zero, List.set_cons_succ, i64_w, i32_w]
                     rfl
                    refine pure_ (i := 10) (N := some 70) (v := ?_) (a' := ?_) #[true, true, true, true, true, true, true, true, true, true, true, false, false, false, false, false, false, false, false, false, false, false, false, false] rfl rfl (any_of HT_.out (by kernel_rfl)) (fun _ _ _ h => h) (Or.inl ⟨by rfl, ?_⟩) ?_ ?_
                    rotate_left
                    ·
                     intro w'
                     go_simp
                     with_reducible rfl
                    rotate_left
                    ·
                     simp only [Act.put, List.setIfInBounds_toArray, List.set_cons_zero, List.set_cons_succ, i64_w, i32_w]
                     rfl
                    refine pure_ (i := 11) (N := some 71) (v := ?_) (a' := ?_) #[true, true, true, true, true, true, true, true, true, true, true, true, false, false, false, false, false, false, false, false, false, false, false, false] rfl rfl (any_of HT_.out (by kernel_rfl)) (fun _ _ _ h => h) (Or.inl ⟨by rfl, ?_⟩) ?_ ?_
                    rotate_left
                    ·
                     intro w'
                     go_simp
                     with_reducible rfl
                    rotate_left
                    ·
                     simp only [Act.put, List.setIfInBounds_toArray, List.set_cons_zero, List.set_cons_succ, i64_w, i32_w]
                     rfl
                    refine pure_ (i := 12) (N := some 72) (v := ?_) (a' := ?_) #[true, true, true, true, true, true, true, true, true, true, true, true, true, false, false, false, false, false, false, false, false, false, false, false] rfl rfl (any_of HT_.out (by kernel_rfl)) (fun _ _ _ h => h) (Or.inl ⟨by rfl, ?_⟩) ?_ ?_
                    rotate_left
                    ·
                     intro w'
                     go_simp
                     with_reducible rfl
                    rotate_left
                    ·
                     simp only [Act.put, List.setIfInBounds_toArray, List.set_cons_zero, List.set_cons_succ, i64_w, i32_w]
                     rfl
                    refine pure_ (i := 14) (N := some 74) (v := ?_) (a' := ?_) #[true, true, true, true, true, true, true, true, true, true, true, true, true, false, true, false, false, false, false, false, false, false, false, false] rfl rfl (any_of HT_.out (by kernel_rfl)) (fun _ _ _ h => h) (Or.inl ⟨by rfl, ?_⟩) ?_ ?_
                    rotate_left
                    ·
                     intro w'
                     go_simp
                     with_reducible rfl
                    rotate_left
                    ·
                     simp only [Act.put, List.setIfInBounds_toArray, List.set_cons_zero, List.set_cons_succ, i64_w, i32_w]
                     rfl
                    refine pure_ (i := 15) (N := some 75) (v := ?_) (a' := ?_) #[true, true, true, true, true, true, true, true, true, true, true, true, true, false, true, true, false, false, false, false, false, false, false, false] rfl rfl (any_of HT_.out (by kernel_rfl)) (fun _ _ _ h => h) (Or.inl ⟨by rfl, ?_⟩) ?_ ?_
                    rotate_left
                    ·
                     intro w'
                     go_simp
                     with_reducible rfl
                    rotate_left
                    ·
                     simp only [Act.put, List.setIfInBounds_toArray, List.set_cons_zero, List.set_cons_succ, i64_w, i32_w]
                     rfl
                    refine take_ (i := 13) (N := some 73) (v := ?_) (a' := ?_) #[true, true, true, true, true, true, true, true, true, true, true, true, true, true, true, true, false, false, false, false, false, false, false, false] rfl rfl (take_ofW HT_.out HW_.out (by kernel_rfl)) (fun _ _ _ h => h) (Or.inl ⟨by rfl, ?_⟩) hHeld ?_ ?_
                    rotate_left
                    ·
                     rintro w' ⟨s0, s1, s2, s3, s4, s5, s6, s7, s8, s9, s10, s11⟩
                     go_simp
                     with_reducible rfl
                    rotate_left
                    ·
                     simp only [Act.put, List.setIfInBounds_toArray, List.set_cons_zero, List.set_cons_succ, i64_w, i32_w]
                     rfl
                    refine pure_ (i := 16) (N := some 76) (v := ?_) (a' := ?_) #[true, true, true, true, true, true, true, true, true, true, true, true, true, true, true, true, true, false, false, false, false, false, false, false] rfl rfl (any_of HT_.out (by kernel_rfl)) (fun _ _ _ h => h) (Or.inl ⟨by rfl, ?_⟩) ?_ ?_
                    rotate_left
                    ·
                     intro w'
                     go_simp
                     with_reducible rfl
                    rotate_left
                    ·
                     simp only [Act.put, List.setIfInBounds_toArray, List.set_cons_zero, List.set_cons_succ, i64_w, i32_w]
                     rfl
                    refine take_ (i := 17) (N := some 77) (v := ?_) (a' := ?_) #[true, true, true, true, true, true, true, true, true, true, true, true, true, true, true, true, true, true, false, false, false, false, false, false] rfl rfl (take_ofW HT_.out HW_.out (by kernel_rfl)) (fun _ _ _ h => h) (Or.inl ⟨by rfl, ?_⟩) hHeld ?_ ?_
                    rotate_left
                    ·
                     rintro w' ⟨s0, s1, s2, s3, s4, s5, s6, s7, s8, s9, s10, s11⟩
                     go_simp
                     with_reducible rfl
                    rotate_left
                    ·
                     simp only [Act.put, List.setIfInBounds_toArray, List.set_cons_zero, List.set_cons_succ, i64_w, i32_w]
                     rfl
                    refine take_ (i := 18) (N := some 78) (v := ?_) (a' := ?_) #[true, true, true, true, true, true, true, true, true, true, true, true, true, true, true, true, true, true, true, false, false, false, false, false] rfl rfl (take_ofW HT_.out HW_.out (by kernel_rfl)) (fun _ _ _ h => h) (Or.inl ⟨by rfl, ?_⟩) hHeld ?_ ?_
                    rotate_left
                    ·
                     rintro w' ⟨s0, s1, s2, s3, s4, s5, s6, s7, s8, s9, s10, s11⟩
                     go_simp
                     with_reducible rfl
                    rotate_left
                    ·
                     simp only [Act.put, List.setIfInBounds_toArray, List.set_cons_zero, List.set_cons_succ, i64_w, i32_w]
                     rfl
                    refine one_ (i := 19) (N := some 79) #[true, true, true, true, true, true, true, true, true, true, true, true, true, true, true, true, true, true, true, true, false, false, false, false] rfl rfl (one_of HT_.out (by kernel_rfl)) (by decide) (fun K hK => ?_)
                    refine goes_ Try.func106 (by kernel_rfl) rfl #[.agg #[.bool ((rd_T137 l0_3 (ji40)).f0), .int .i64 ((rd_T137 l0_3 (ji40)).f1), .int .i64 ((rd_T137 l0_3 (ji40)).f2), .int .i64 ((rd_T137 l0_3 (ji40)).f3)], .agg #[.bool ((rd_T137 l0_3 x37_2).f0), .int .i64 ((rd_T137 l0_3 x37_2).f1), .int .i64 ((rd_T137 l0_3 x37_2).f2), .int .i64 ((rd_T137 l0_3 x37_2).f3)]] (by rfl) rfl rfl (by (try simp only [List.map_toArray, List.map_cons, List.map_nil]);first|done|(simp only [hji40];rfl)|rfl|(simp only [List.length_drop, List.length_take];rfl)|(simp [Act.eval, *];done)) ?_
                    with_reducible refine (impl_stepOrder.calls kj21 ((rd_T137 l0_3 (ji40)).f0) ((rd_T137 l0_3 (ji40)).f1) ((rd_T137 l0_3 (ji40)).f2) ((rd_T137 l0_3 (ji40)).f3) ((rd_T137 l0_3 x37_2).f0) ((rd_T137 l0_3 x37_2).f1) ((rd_T137 l0_3 x37_2).f2) ((rd_T137 l0_3 x37_2).f3) t1116 _ A43.out).mono ?_
                    rintro e w46 ⟨rfl, hb⟩
                    refine ⟨_, rfl, ?_⟩
                    have n0_ := Aside0.mk (blk_below (g := gb1106) (o := .cells #[.int .i64 a0_0, .int .i64 a0_1, .slice A0_2 l0_2.length c0_2, .slice (some ad1110) l0_3.length c0_3] 84 (0, 0)) (by (with_reducible repeat (first|refine blk_drewN ?_ _|refine blk_drew ?_|refine blk_alloc ?_ _));exact BK1106.out) hb)
                    have n1_ := Aside0.mk (blk_below (g := gb1111) (o := .cells #[.bool ((rd_T137 l0_3 x37_2).f0), .int .i64 ((rd_T137 l0_3 x37_2).f1), .int .i64 ((rd_T137 l0_3 x37_2).f2), .int .i64 ((rd_T137 l0_3 x37_2).f3)] 137 (0, 0)) (by (with_reducible repeat (first|refine blk_drewN ?_ _|refine blk_drew ?_|refine blk_alloc ?_ _));exact BK1111.out) hb)
                    have n2_ := Aside0.mk (below_step (by repeat (first|(with_reducible first|exact HB.out|apply below_alloc|apply pw_below_drewN|apply below_drew1|refine below_set ?_ GE1106.out|refine below_set ?_ GE1111.out)|exact HB.out)) hb)
                    clear BK1106
                    clear BK1111
                    clear HB
                    have BK1106 := n0_
                    have BK1111 := n1_
                    have HB := n2_
                    clear n0_ n1_ n2_
                    (try clear hb)
                    (try clear hb2)
                    (try clear hk)
                    (try clear hi)
                    refine hK.out _ _ ⟨(blk_cell BK1111.out 0).trans rfl, (blk_cell BK1111.out 1).trans rfl, (blk_cell BK1111.out 2).trans rfl, (blk_cell BK1111.out 3).trans rfl, (blk_cell BK1106.out 0).trans rfl, (blk_cell BK1106.out 1).trans rfl, (blk_cell BK1106.out 2).trans rfl, (blk_cell BK1106.out 3).trans rfl, ((HB.out.cell (World.block_lt_of_cell? w _ hw1115_0)).trans hw1115_0), ((HB.out.cell (World.block_lt_of_cell? w _ hw1115_1)).trans hw1115_1), ((HB.out.cell (World.block_lt_of_cell? w _ hw1115_2)).trans hw1115_2), ((HB.out.cell (World.block_lt_of_cell? w _ hw1115_3)).trans hw1115_3)⟩ (fun hHeld => ?_)
                    clear hK K
                    refine norm_ (a' := ?_) ?_ ?_
                    rotate_left
                    ·
                     show Act.put _ (some 79) _ = _
                     simp only [Act.put, List.setIfInBounds_toArray, List.set_cons_zero, List.set_cons_succ, i64_w, i32_w]
                     rfl
                    refine pure_ (i := 20) (N := some 80) (v := ?_) (a' := ?_) #[true, true, true, true, true, true, true, true, true, true, true, true, true, true, true, true, true, true, true, true, true, false, false, false] rfl rfl (any_of HT_.out (by kernel_rfl)) (fun _ _ _ h => h) (Or.inl ⟨by rfl, ?_⟩) ?_ ?_
                    rotate_left
                    ·
                     intro w'
                     go_simp
                     with_reducible rfl
                    rotate_left
                    ·
                     simp only [Act.put, List.setIfInBounds_toArray, List.set_cons_zero, List.set_cons_succ, i64_w, i32_w]
                     rfl
                    refine pure_ (i := 21) (N := some 81) (v := ?_) (a' := ?_) #[true, true, true, true, true, true, true, true, true, true, true, true, true, true, true, true, true, true, true, true, true, true, false, false] rfl rfl (any_of HT_.out (by kernel_rfl)) (fun _ _ _ h => h) (Or.inl ⟨by rfl, ?_⟩) ?_ ?_
                    rotate_left
                    ·
                     intro w'
                     go_simp
                     with_reducible rfl
                    rotate_left
                    ·
                     simp only [Act.put, List.setIfInBounds_toArray, List.set_cons_zero, List.set_cons_succ, i64_w, i32_w]
                     rfl
                    refine pure_ (i := 22) (N := some 82) (v := ?_) (a' := ?_) #[true, true, true, true, true, true, true, true, true, true, true, true, true, true, true, true, true, true, true, true, true, true, true, false] rfl rfl (any_of HT_.out (by kernel_rfl)) (fun _ _ _ h => h) (Or.inl ⟨by rfl, ?_⟩) ?_ ?_
                    rotate_left
                    ·
                     intro w'
                     go_simp
                     with_reducible rfl
                    rotate_left
                    ·
                     simp only [Act.put, List.setIfInBounds_toArray, List.set_cons_zero, List.set_cons_succ, i64_w, i32_w]
                     rfl
                    refine pure_ (i := 23) (N := some 59) (v := ?_) (a' := ?_) #[true, true, true, true, true, true, true, true, true, true, true, true, true, true, true, true, true, true, true, true, true, true, true, true] rfl rfl (any_of HT_.out (by kernel_rfl)) (fun _ _ _ h => h) (Or.inl ⟨by rfl, ?_⟩) ?_ ?_
                    rotate_left
                    ·
                     intro w'
                     go_simp
                     with_reducible rfl
                    rotate_left
                    ·
                     simp only [Act.put, List.setIfInBounds_toArray, List.set_cons_zero, List.set_cons_succ, i64_w, i32_w]
                     rfl
                    refine done_ (done_of HT_.out (by kernel_rfl)) ?_
                    try go_wp2
                    go_ret
                    exact ⟨by first|rfl|(simp [errW_none, errW_some] <;> rfl)|(simp only [← hji40];first|rfl|(simp [errW_none, errW_some] <;> rfl))|(simp [*, errW_none, errW_some] <;> rfl), by repeat (first|(with_reducible first|exact HB.out|apply below_alloc|apply pw_below_drewN|apply below_drew1|refine below_set ?_ GE1106.out|refine below_set ?_ GE1111.out)|exact HB.out)⟩
                   ·
                    rw [if_neg c44] at H
                    have c44b0 : decide (0 ≤ t1116) = false := decide_eq_false c44
                    clear c44
                    have H' := Aside0.mk H
                    clear H
                    try go_wp2
                    have n0_ := Aside0.mk (blk_drew BK1106.out)
                    have n1_ := Aside0.mk (blk_drew BK1111.out)
                    have n2_ := Aside0.mk (below_drew1 HB.out)
                    clear BK1106
                    clear BK1111
                    clear HB
                    have BK1106 := n0_
                    have BK1111 := n1_
                    have HB := n2_
                    clear n0_ n1_ n2_
                    have p1115 : 0 ≤ ((ji40) : Int) := of_decide_eq_true (by first|(with_reducible assumption)|assumption)
                    have q1115 : (ji40) < (l0_3.length : Int) := of_decide_eq_true (by first|(with_reducible assumption)|assumption)
                    obtain ⟨ad1115, e1115, hx1115_0, hx1115_1, hx1115_2, hx1115_3⟩ := at_T137 HR0_3.out (ji40) p1115 q1115
                    have hw1115_3 := hx1115_3
                    have hw1115_2 := hx1115_2
                    have hw1115_1 := hx1115_1
                    have hw1115_0 := hx1115_0
                    obtain rfl : ad1110 = ad1115 := (by injection e1115)
                    replace hx1115_0 := (HB.out.cell (World.block_lt_of_cell? w _ hx1115_0)).trans hx1115_0
                    replace hx1115_1 := (HB.out.cell (World.block_lt_of_cell? w _ hx1115_1)).trans hx1115_1
                    replace hx1115_2 := (HB.out.cell (World.block_lt_of_cell? w _ hx1115_2)).trans hx1115_2
                    replace hx1115_3 := (HB.out.cell (World.block_lt_of_cell? w _ hx1115_3)).trans hx1115_3
                    replace p1115 := eq_true p1115
                    replace q1115 := eq_true q1115
                    refine start_ (n := 24) (S := fun w' => w'.cell? ⟨gb1111, 0, none⟩ = some (.bool ((rd_T137 l0_3 x37_2).f0)) ∧ w'.cell? ⟨gb1111, 1, none⟩ = some (.int .i64 ((rd_T137 l0_3 x37_2).f1)) ∧ w'.cell? ⟨gb1111, 2, none⟩ = some (.int .i64 ((rd_T137 l0_3 x37_2).f2)) ∧ w'.cell? ⟨gb1111, 3, none⟩ = some (.int .i64 ((rd_T137 l0_3 x37_2).f3)) ∧ w'.cell? ⟨gb1106, 0, none⟩ = some (.int .i64 a0_0) ∧ w'.cell? ⟨gb1106, 1, none⟩ = some (.int .i64 a0_1) ∧ w'.cell? ⟨gb1106, 2, none⟩ = some (.slice A0_2 l0_2.length c0_2) ∧ w'.cell? ⟨gb1106, 3, none⟩ = some (.slice (some ad1110) l0_3.length c0_3) ∧ w'.cell? (ad1110.add (((ji40)).toNat * 4)) = some (.bool ((rd_T137 l0_3 (ji40)).f0)) ∧ w'.cell? ⟨(ad1110.add (((ji40)).toNat * 4)).block, (ad1110.add (((ji40)).toNat * 4)).off + 1, none⟩ = some (.int .i64 ((rd_T137 l0_3 (ji40)).f1)) ∧ w'.cell? ⟨(ad1110.add (((ji40)).toNat * 4)).block, (ad1110.add (((ji40)).toNat * 4)).off + 2, none⟩ = some (.int .i64 ((rd_T137 l0_3 (ji40)).f2)) ∧ w'.cell? ⟨(ad1110.add (((ji40)).toNat * 4)).block, (ad1110.add (((ji40)).toNat * 4)).off + 3, none⟩ = some (.int .i64 ((rd_T137 l0_3 (ji40)).f3))) (ds := []) #[false, false, false, false, false, false, false, false, false, false, false, false, false, false, false, false, false, false, false, false, false, false, false, false] (by kernel_rfl) rfl rfl ⟨(blk_cell BK1111.out 0).trans rfl, (blk_cell BK1111.out 1).trans rfl, (blk_cell BK1111.out 2).trans rfl, (blk_cell BK1111.out 3).trans rfl, (blk_cell BK1106.out 0).trans rfl, (blk_cell BK1106.out 1).trans rfl, (blk_cell BK1106.out 2).trans rfl, (blk_cell BK1106.out 3).trans rfl, ((HB.out.cell (World.block_lt_of_cell? w _ hw1115_0)).trans hw1115_0), ((HB.out.cell (World.block_lt_of_cell? w _ hw1115_1)).trans hw1115_1), ((HB.out.cell (World.block_lt_of_cell? w _ hw1115_2)).trans hw1115_2), ((HB.out.cell (World.block_lt_of_cell? w _ hw1115_3)).trans hw1115_3)⟩ (fun hHeld => ?_);refine with_tabW impl_DeltaFault.tab13 impl_DeltaFault.bits13 (fun HT_ HW_ => ?_)
                    generalize wc.drew = w47 at BK1106 BK1111 HB hx1115_0 hx1115_1 hx1115_2 hx1115_3 hHeld ⊢
                    refine pure_ (i := 0) (N := some 60) (v := ?_) (a' := ?_) #[true, false, false, false, false, false, false, false, false, false, false, false, false, false, false, false, false, false, false, false, false, false, false, false] rfl rfl (any_of HT_.out (by kernel_rfl)) (fun _ _ _ h => h) (Or.inl ⟨by rfl, ?_⟩) ?_ ?_
                    rotate_left
                    ·
                     intro w'
                     go_simp
                     with_reducible rfl
                    rotate_left
                    ·
                     simp only [Act.put, List.setIfInBounds_toArray, List.set_cons_zero, List.set_cons_succ, i64_w, i32_w]
                     rfl
                    refine take_ (i := 1) (N := some 61) (v := ?_) (a' := ?_) #[true, true, false, false, false, false, false, false, false, false, false, false, false, false, false, false, false, false, false, false, false, false, false, false] rfl rfl (take_ofW HT_.out HW_.out (by kernel_rfl)) (fun _ _ _ h => h) (Or.inl ⟨by rfl, ?_⟩) hHeld ?_ ?_
                    rotate_left
                    ·
                     rintro w' ⟨s0, s1, s2, s3, s4, s5, s6, s7, s8, s9, s10, s11⟩
                     go_simp
                     with_reducible rfl
                    rotate_left
                    ·
                     simp only [Act.put, List.setIfInBounds_toArray, List.set_cons_zero, List.set_cons_succ, i64_w, i32_w]
                     rfl
                    refine pure_ (i := 2) (N := some 62) (v := ?_) (a' := ?_) #[true, true, true, false, false, false, false, false, false, false, false, false, false, false, false, false, false, false, false, false, false, false, false, false] rfl rfl (any_of HT_.out (by kernel_rfl)) (fun _ _ _ h => h) (Or.inl ⟨by rfl, ?_⟩) ?_ ?_
                    rotate_left
                    ·
                     intro w'
                     go_simp
                     with_reducible rfl
                    rotate_left
                    ·
                     simp only [Act.put, List.setIfInBounds_toArray, List.set_cons_zero, List.set_cons_succ, i64_w, i32_w]
                     rfl
                    refine pure_ (i := 3) (N := some 63) (v := ?_) (a' := ?_) #[true, true, true, true, false, false, false, false, false, false, false, false, false, false, false, false, false, false, false, false, false, false, false, false] rfl rfl (any_of HT_.out (by kernel_rfl)) (fun _ _ _ h => h) (Or.inl ⟨by rfl, ?_⟩) ?_ ?_
                    rotate_left
                    ·
                     intro w'
                     go_simp
                     with_reducible rfl
                    rotate_left
                    ·
                     simp only [Act.put, List.setIfInBounds_toArray, List.set_cons_zero, List.set_cons_succ, i64_w, i32_w]
                     rfl
                    refine pure_ (i := 4) (N := some 64) (v := undef) (a' := ?_) #[true, true, true, true, true, false, false, false, false, false, false, false, false, false, false, false, false, false, false, false, false, false, false, false] rfl rfl (any_of HT_.out (by kernel_rfl)) (fun _ _ _ h => h) (Or.inr ⟨by rfl, rfl⟩) ?_ ?_
                    rotate_left
                    ·
                     simp only [Act.put, List.setIfInBounds_toArray, List.set_cons_zero, List.set_cons_succ, i64_w, i32_w]
                     rfl
                    refine pure_ (i := 5) (N := some 65) (v := undef) (a' := ?_) #[true, true, true, true, true, true, false, false, false, false, false, false, false, false, false, false, false, false, false, false, false, false, false, false] rfl rfl (any_of HT_.out (by kernel_rfl)) (fun _ _ _ h => h) (Or.inr ⟨by rfl, rfl⟩) ?_ ?_
                    rotate_left
                    ·
                     simp only [Act.put, List.setIfInBounds_toArray, List.set_cons_zero, List.set_cons_succ, i64_w, i32_w]
                     rfl
                    refine pure_ (i := 6) (N := some 66) (v := undef) (a' := ?_) #[true, true, true, true, true, true, true, false, false, false, false, false, false, false, false, false, false, false, false, false, false, false, false, false] rfl rfl (any_of HT_.out (by kernel_rfl)) (fun _ _ _ h => h) (Or.inr ⟨by rfl, rfl⟩) ?_ ?_
                    rotate_left
                    ·
                     simp only [Act.put, List.setIfInBounds_toArray, List.set_cons_zero, List.set_cons_succ, i64_w, i32_w]
                     rfl
                    refine pure_ (i := 7) (N := some 67) (v := ?_) (a' := ?_) #[true, true, true, true, true, true, true, true, false, false, false, false, false, false, false, false, false, false, false, false, false, false, false, false] rfl rfl (any_of HT_.out (by kernel_rfl)) (fun _ _ _ h => h) (Or.inl ⟨by rfl, ?_⟩) ?_ ?_
                    rotate_left
                    ·
                     intro w'
                     go_simp
                     with_reducible rfl
                    rotate_left
                    ·
                     simp only [Act.put, List.setIfInBounds_toArray, List.set_cons_zero, List.set_cons_succ, i64_w, i32_w]
                     rfl
                    refine pure_ (i := 8) (N := some 68) (v := ?_) (a' := ?_) #[true, true, true, true, true, true, true, true, true, false, false, false, false, false, false, false, false, false, false, false, false, false, false, false] rfl rfl (any_of HT_.out (by kernel_rfl)) (fun _ _ _ h => h) (Or.inl ⟨by rfl, ?_⟩) ?_ ?_
                    rotate_left
                    ·
                     intro w'
                     go_simp
                     with_reducible rfl
                    rotate_left
                    ·
                     simp only [Act.put, List.setIfInBounds_toArray, List.set_cons_zero, List.set_cons_succ, i64_w, i32_w]
                     rfl
                    refine pure_ (i := 9) (N := some 69) (v := ?_) (a' := ?_) #[true, true, true, true, true, true, true, true, true, true, false, false, false, false, false, false, false, false, false, false, false, false, false, false] rfl rfl (any_of HT_.out (by kernel_rfl)) (fun _ _ _ h => h) (Or.inl ⟨by rfl, ?_⟩) ?_ ?_
                    rotate_left
                    ·
                     intro w'
                     go_simp
                     with_reducible rfl
                    rotate_left
                    ·
                     simp only [Act.put, List.setIfInBounds_toArray, List.set_cons_zero, List.set_cons_succ, i64_w, i32_w]
                     rfl
                    refine pure_ (i := 10) (N := some 70) (v := ?_) (a' := ?_) #[true, true, true, true, true, true, true, true, true, true, true, false, false, false, false, false, false, false, false, false, false, false, false, false] rfl rfl (any_of HT_.out (by kernel_rfl)) (fun _ _ _ h => h) (Or.inl ⟨by rfl, ?_⟩) ?_ ?_
                    rotate_left
                    ·
                     intro w'
                     go_simp
                     with_reducible rfl
                    rotate_left
                    ·
                     simp only [Act.put, List.setIfInBounds_toArray, List.set_cons_zero, List.set_cons_succ, i64_w, i32_w]
                     rfl
                    refine pure_ (i := 11) (N := some 71) (v := ?_) (a' := ?_) #[true, true, true, true, true, true, true, true, true, true, true, true, false, false, false, false, false, false, false, false, false, false, false, false] rfl rfl (any_of HT_.out (by kernel_rfl)) (fun _ _ _ h => h) (Or.inl ⟨by rfl, ?_⟩) ?_ ?_
                    rotate_left
                    ·
                     intro w'
                     go_simp
                     with_reducible rfl
                    rotate_left
                    ·
                     simp only [Act.put, List.setIfInBounds_toArray, List.set_cons_zero, List.set_cons_succ, i64_w, i32_w]
                     rfl
                    refine pure_ (i := 12) (N := some 72) (v := ?_) (a' := ?_) #[true, true, true, true, true, true, true, true, true, true, true, true, true, false, false, false, false, false, false, false, false, false, false, false] rfl rfl (any_of HT_.out (by kernel_rfl)) (fun _ _ _ h => h) (Or.inl ⟨by rfl, ?_⟩) ?_ ?_
                    rotate_left
                    ·
                     intro w'
                     go_simp
                     with_reducible rfl
                    rotate_left
                    ·
                     simp only [Act.put, List.setIfInBounds_toArray, List.set_cons_zero, List.set_cons_succ, i64_w, i32_w]
                     rfl
                    refine pure_ (i := 14) (N := some 74) (v := ?_) (a' := ?_) #[true, true, true, true, true, true, true, true, true, true, true, true, true, false, true, false, false, false, false, false, false, false, false, false] rfl rfl (any_of HT_.out (by kernel_rfl)) (fun _ _ _ h => h) (Or.inl ⟨by rfl, ?_⟩) ?_ ?_
                    rotate_left
                    ·
                     intro w'
                     go_simp
                     with_reducible rfl
                    rotate_left
                    ·
                     simp only [Act.put, List.setIfInBounds_toArray, List.set_cons_zero, List.set_cons_succ, i64_w, i32_w]
                     rfl
                    refine pure_ (i := 15) (N := some 75) (v := ?_) (a' := ?_) #[true, true, true, true, true, true, true, true, true, true, true, true, true, false, true, true, false, false, false, false, false, false, false, false] rfl rfl (any_of HT_.out (by kernel_rfl)) (fun _ _ _ h => h) (Or.inl ⟨by rfl, ?_⟩) ?_ ?_
                    rotate_left
                    ·
                     intro w'
                     go_simp
                     with_reducible rfl
                    rotate_left
                    ·
                     simp only [Act.put, List.setIfInBounds_toArray, List.set_cons_zero, List.set_cons_succ, i64_w, i32_w]
                     rfl
                    refine take_ (i := 13) (N := some 73) (v := ?_) (a' := ?_) #[true, true, true, true, true, true, true, true, true, true, true, true, true, true, true, true, false, false, false, false, false, false, false, false] rfl rfl (take_ofW HT_.out HW_.out (by kernel_rfl)) (fun _ _ _ h => h) (Or.inl ⟨by rfl, ?_⟩) hHeld ?_ ?_
                    rotate_left
                    ·
                     rintro w' ⟨s0, s1, s2, s3, s4, s5, s6, s7, s8, s9, s10, s11⟩
                     go_simp
                     with_reducible rfl
                    rotate_left
                    ·
                     simp only [Act.put, List.setIfInBounds_toArray, List.set_cons_zero, List.set_cons_succ, i64_w, i32_w]
                     rfl
                    refine pure_ (i := 16) (N := some 76) (v := ?_) (a' := ?_) #[true, true, true, true, true, true, true, true, true, true, true, true, true, true, true, true, true, false, false, false, false, false, false, false] rfl rfl (any_of HT_.out (by kernel_rfl)) (fun _ _ _ h => h) (Or.inl ⟨by rfl, ?_⟩) ?_ ?_
                    rotate_left
                    ·
                     intro w'
                     go_simp
                     with_reducible rfl
                    rotate_left
                    ·
                     simp only [Act.put, List.setIfInBounds_toArray, List.set_cons_zero, List.set_cons_succ, i64_w, i32_w]
                     rfl
                    refine take_ (i := 17) (N := some 77) (v := ?_) (a' := ?_) #[true, true, true, true, true, true, true, true, true, true, true, true, true, true, true, true, true, true, false, false, false, false, false, false] rfl rfl (take_ofW HT_.out HW_.out (by kernel_rfl)) (fun _ _ _ h => h) (Or.inl ⟨by rfl, ?_⟩) hHeld ?_ ?_
                    rotate_left
                    ·
                     rintro w' ⟨s0, s1, s2, s3, s4, s5, s6, s7, s8, s9, s10, s11⟩
                     go_simp
                     with_reducible rfl
                    rotate_left
                    ·
                     simp only [Act.put, List.setIfInBounds_toArray, List.set_cons_zero, List.set_cons_succ, i64_w, i32_w]
                     rfl
                    refine take_ (i := 18) (N := some 78) (v := ?_) (a' := ?_) #[true, true, true, true, true, true, true, true, true, true, true, true, true, true, true, true, true, true, true, false, false, false, false, false] rfl rfl (take_ofW HT_.out HW_.out (by kernel_rfl)) (fun _ _ _ h => h) (Or.inl ⟨by rfl, ?_⟩) hHeld ?_ ?_
                    rotate_left
                    ·
                     rintro w' ⟨s0, s1, s2, s3, s4, s5, s6, s7, s8, s9, s10, s11⟩
                     go_simp
                     with_reducible rfl
                    rotate_left
                    ·
                     simp only [Act.put, List.setIfInBounds_toArray, List.set_cons_zero, List.set_cons_succ, i64_w, i32_w]
                     rfl
                    refine one_ (i := 19) (N := some 79) #[true, true, true, true, true, true, true, true, true, true, true, true, true, true, true, true, true, true, true, true, false, false, false, false] rfl rfl (one_of HT_.out (by kernel_rfl)) (by decide) (fun K hK => ?_)
                    refine goes_ Try.func106 (by kernel_rfl) rfl #[.agg #[.bool ((rd_T137 l0_3 (ji40)).f0), .int .i64 ((rd_T137 l0_3 (ji40)).f1), .int .i64 ((rd_T137 l0_3 (ji40)).f2), .int .i64 ((rd_T137 l0_3 (ji40)).f3)], .agg #[.bool ((rd_T137 l0_3 x37_2).f0), .int .i64 ((rd_T137 l0_3 x37_2).f1), .int .i64 ((rd_T137 l0_3 x37_2).f2), .int .i64 ((rd_T137 l0_3 x37_2).f3)]] (by rfl) rfl rfl (by (try simp only [List.map_toArray, List.map_cons, List.map_nil]);first|done|(simp only [hji40];rfl)|rfl|(simp only [List.length_drop, List.length_take];rfl)|(simp [Act.eval, *];done)) ?_
                    with_reducible refine (impl_stepOrder.calls kj21 ((rd_T137 l0_3 (ji40)).f0) ((rd_T137 l0_3 (ji40)).f1) ((rd_T137 l0_3 (ji40)).f2) ((rd_T137 l0_3 (ji40)).f3) ((rd_T137 l0_3 x37_2).f0) ((rd_T137 l0_3 x37_2).f1) ((rd_T137 l0_3 x37_2).f2) ((rd_T137 l0_3 x37_2).f3) t1116 _ A43.out).mono ?_
                    rintro e w48 ⟨rfl, hb⟩
                    refine ⟨_, rfl, ?_⟩
                    have n0_ := Aside0.mk (blk_below (g := gb1106) (o := .cells #[.int .i64 a0_0, .int .i64 a0_1, .slice A0_2 l0_2.length c0_2, .slice (some ad1110) l0_3.length c0_3] 84 (0, 0)) (by (with_reducible repeat (first|refine blk_drewN ?_ _|refine blk_drew ?_|refine blk_alloc ?_ _));exact BK1106.out) hb)
                    have n1_ := Aside0.mk (blk_below (g := gb1111) (o := .cells #[.bool ((rd_T137 l0_3 x37_2).f0), .int .i64 ((rd_T137 l0_3 x37_2).f1), .int .i64 ((rd_T137 l0_3 x37_2).f2), .int .i64 ((rd_T137 l0_3 x37_2).f3)] 137 (0, 0)) (by (with_reducible repeat (first|refine blk_drewN ?_ _|refine blk_drew ?_|refine blk_alloc ?_ _));exact BK1111.out) hb)
                    have n2_ := Aside0.mk (below_step (by repeat (first|(with_reducible first|exact HB.out|apply below_alloc|apply pw_below_drewN|apply below_drew1|refine below_set ?_ GE1106.out|refine below_set ?_ GE1111.out)|exact HB.out)) hb)
                    clear BK1106
                    clear BK1111
                    clear HB
                    have BK1106 := n0_
                    have BK1111 := n1_
                    have HB := n2_
                    clear n0_ n1_ n2_
                    (try clear hb)
                    (try clear hb2)
                    (try clear hk)
                    (try clear hi)
                    refine hK.out _ _ ⟨(blk_cell BK1111.out 0).trans rfl, (blk_cell BK1111.out 1).trans rfl, (blk_cell BK1111.out 2).trans rfl, (blk_cell BK1111.out 3).trans rfl, (blk_cell BK1106.out 0).trans rfl, (blk_cell BK1106.out 1).trans rfl, (blk_cell BK1106.out 2).trans rfl, (blk_cell BK1106.out 3).trans rfl, ((HB.out.cell (World.block_lt_of_cell? w _ hw1115_0)).trans hw1115_0), ((HB.out.cell (World.block_lt_of_cell? w _ hw1115_1)).trans hw1115_1), ((HB.out.cell (World.block_lt_of_cell? w _ hw1115_2)).trans hw1115_2), ((HB.out.cell (World.block_lt_of_cell? w _ hw1115_3)).trans hw1115_3)⟩ (fun hHeld => ?_)
                    clear hK K
                    refine norm_ (a' := ?_) ?_ ?_
                    rotate_left
                    ·
                     show Act.put _ (some 79) _ = _
                     simp only [Act.put, List.setIfInBounds_toArray, List.set_cons_zero, List.set_cons_succ, i64_w, i32_w]
                     rfl
                    refine pure_ (i := 20) (N := some 80) (v := ?_) (a' := ?_) #[true, true, true, true, true, true, true, true, true, true, true, true, true, true, true, true, true, true, true, true, true, false, false, false] rfl rfl (any_of HT_.out (by kernel_rfl)) (fun _ _ _ h => h) (Or.inl ⟨by rfl, ?_⟩) ?_ ?_
                    rotate_left
                    ·
                     intro w'
                     go_simp
                     with_reducible rfl
                    rotate_left
                    ·
                     simp only [Act.put, List.setIfInBounds_toArray, List.set_cons_zero, List.set_cons_succ, i64_w, i32_w]
                     rfl
                    refine pure_ (i := 21) (N := some 81) (v := ?_) (a' := ?_) #[true, true, true, true, true, true, true, true, true, true, true, true, true, true, true, true, true, true, true, true, true, true, false, false] rfl rfl (any_of HT_.out (by kernel_rfl)) (fun _ _ _ h => h) (Or.inl ⟨by rfl, ?_⟩) ?_ ?_
                    rotate_left
                    ·
                     intro w'
                     go_simp
                     with_reducible rfl
                    rotate_left
                    ·
                     simp only [Act.put, List.setIfInBounds_toArray, List.set_cons_zero, List.set_cons_succ, i64_w, i32_w]
                     rfl
                    refine pure_ (i := 22) (N := some 82) (v := ?_) (a' := ?_) #[true, true, true, true, true, true, true, true, true, true, true, true, true, true, true, true, true, true, true, true, true, true, true, false] rfl rfl (any_of HT_.out (by kernel_rfl)) (fun _ _ _ h => h) (Or.inl ⟨by rfl, ?_⟩) ?_ ?_
                    rotate_left
                    ·
                     intro w'
                     go_simp
                     with_reducible rfl
                    rotate_left
                    ·
                     simp only [Act.put, List.setIfInBounds_toArray, List.set_cons_zero, List.set_cons_succ, i64_w, i32_w]
                     rfl
                    refine pure_ (i := 23) (N := some 59) (v := ?_) (a' := ?_) #[true, true, true, true, true, true, true, true, true, true, true, true, true, true, true, true, true, true, true, true, true, true, true, true] rfl rfl (any_of HT_.out (by kernel_rfl)) (fun _ _ _ h => h) (Or.inl ⟨by rfl, ?_⟩) ?_ ?_
                    rotate_left
                    ·
                     intro w'
                     go_simp
                     with_reducible rfl
                    rotate_left
                    ·
                     simp only [Act.put, List.setIfInBounds_toArray, List.set_cons_zero, List.set_cons_succ, i64_w, i32_w]
                     rfl
                    refine done_ (done_of HT_.out (by kernel_rfl)) ?_
                    try go_wp2
                    go_roundg kj21
                    case measure => have := HJ1.out;have := HK2.out;have := HJ21.out;omega
                    case rel => exact ⟨(wrap64 (x37_2 + 1)), (by first|rfl|(simp;done)|(simp [*];done)), H', ⟨by have := HJ1.out;have := HK2.out;have := HJ21.out;omega⟩, ⟨by (with_reducible repeat (first|refine blk_drewN ?_ _|refine blk_drew ?_|refine blk_alloc ?_ _));exact BK1106.out⟩, ⟨by repeat (first|(with_reducible first|exact HB.out|apply below_alloc|apply pw_below_drewN|apply below_drew1|refine below_set ?_ GE1106.out|refine below_set ?_ GE1111.out)|exact HB.out)⟩⟩
                  ·
                   rw [if_neg c42] at H
                   exact absurd H (by simp)
                 ·
                  rw [if_neg c41] at H
                  exact absurd H (by simp)
                ·
                 rw [if_neg c39] at H
                 have c39b0 : decide (0 < x37_2) = false := decide_eq_false c39
                 clear c39
                 have H' := Aside0.mk H
                 clear H
                 try go_wp2
                 have n0_ := Aside0.mk (blk_drew BK1106.out)
                 have n1_ := Aside0.mk (blk_drew BK1111.out)
                 have n2_ := Aside0.mk (below_drew1 HB.out)
                 clear BK1106
                 clear BK1111
                 clear HB
                 have BK1106 := n0_
                 have BK1111 := n1_
                 have HB := n2_
                 clear n0_ n1_ n2_
                 refine start_ (n := 24) (S := fun w' => w'.cell? ⟨gb1111, 0, none⟩ = some (.bool ((rd_T137 l0_3 x37_2).f0)) ∧ w'.cell? ⟨gb1111, 1, none⟩ = some (.int .i64 ((rd_T137 l0_3 x37_2).f1)) ∧ w'.cell? ⟨gb1111, 2, none⟩ = some (.int .i64 ((rd_T137 l0_3 x37_2).f2)) ∧ w'.cell? ⟨gb1111, 3, none⟩ = some (.int .i64 ((rd_T137 l0_3 x37_2).f3))) (ds := []) #[false, false, false, false, false, false, false, false, false, false, false, false, false, false, false, false, false, false, false, false, false, false, false, false] (by kernel_rfl) rfl rfl ⟨(blk_cell BK1111.out 0).trans rfl, (blk_cell BK1111.out 1).trans rfl, (blk_cell BK1111.out 2).trans rfl, (blk_cell BK1111.out 3).trans rfl⟩ (fun hHeld => ?_);refine with_tabW impl_DeltaFault.tab13 impl_DeltaFault.bits13 (fun HT_ HW_ => ?_)
                 generalize wc.drew = w49 at BK1106 BK1111 HB hHeld ⊢
                 refine pure_ (i := 0) (N := some 60) (v := ?_) (a' := ?_) #[true, false, false, false, false, false, false, false, false, false, false, false, false, false, false, false, false, false, false, false, false, false, false, false] rfl rfl (any_of HT_.out (by kernel_rfl)) (fun _ _ _ h => h) (Or.inl ⟨by rfl, ?_⟩) ?_ ?_
                 rotate_left
                 ·
                  intro w'
                  go_simp
                  with_reducible rfl
                 rotate_left
                 ·
                  simp only [Act.put, List.setIfInBounds_toArray, List.set_cons_zero, List.set_cons_succ, i64_w, i32_w]
                  rfl
                 refine take_ (i := 1) (N := some 61) (v := ?_) (a' := ?_) #[true, true, false, false, false, false, false, false, false, false, false, false, false, false, false, false, false, false, false, false, false, false, false, false] rfl rfl (take_ofW HT_.out HW_.out (by kernel_rfl)) (fun _ _ _ h => h) (Or.inl ⟨by rfl, ?_⟩) hHeld ?_ ?_
                 rotate_left
                 ·
                  rintro w' ⟨s0, s1, s2, s3⟩
                  go_simp
                  with_reducible rfl
                 rotate_left
                 ·
                  simp only [Act.put, List.setIfInBounds_toArray, List.set_cons_zero, List.set_cons_succ, i64_w, i32_w]
                  rfl
                 refine pure_ (i := 2) (N := some 62) (v := ?_) (a' := ?_) #[true, true, true, false, false, false, false, false, false, false, false, false, false, false, false, false, false, false, false, false, false, false, false, false] rfl rfl (any_of HT_.out (by kernel_rfl)) (fun _ _ _ h => h) (Or.inl ⟨by rfl, ?_⟩) ?_ ?_
                 rotate_left
                 ·
                  intro w'
                  go_simp
                  with_reducible rfl
                 rotate_left
                 ·
                  simp only [Act.put, List.setIfInBounds_toArray, List.set_cons_zero, List.set_cons_succ, i64_w, i32_w]
                  rfl
                 refine pure_ (i := 3) (N := some 63) (v := ?_) (a' := ?_) #[true, true, true, true, false, false, false, false, false, false, false, false, false, false, false, false, false, false, false, false, false, false, false, false] rfl rfl (any_of HT_.out (by kernel_rfl)) (fun _ _ _ h => h) (Or.inl ⟨by rfl, ?_⟩) ?_ ?_
                 rotate_left
                 ·
                  intro w'
                  go_simp
                  with_reducible rfl
                 rotate_left
                 ·
                  simp only [Act.put, List.setIfInBounds_toArray, List.set_cons_zero, List.set_cons_succ, i64_w, i32_w]
                  rfl
                 refine pure_ (i := 4) (N := some 64) (v := undef) (a' := ?_) #[true, true, true, true, true, false, false, false, false, false, false, false, false, false, false, false, false, false, false, false, false, false, false, false] rfl rfl (any_of HT_.out (by kernel_rfl)) (fun _ _ _ h => h) (Or.inr ⟨by rfl, rfl⟩) ?_ ?_
                 rotate_left
                 ·
                  simp only [Act.put, List.setIfInBounds_toArray, List.set_cons_zero, List.set_cons_succ, i64_w, i32_w]
                  rfl
                 refine pure_ (i := 5) (N := some 65) (v := undef) (a' := ?_) #[true, true, true, true, true, true, false, false, false, false, false, false, false, false, false, false, false, false, false, false, false, false, false, false] rfl rfl (any_of HT_.out (by kernel_rfl)) (fun _ _ _ h => h) (Or.inr ⟨by rfl, rfl⟩) ?_ ?_
                 rotate_left
                 ·
                  simp only [Act.put, List.setIfInBounds_toArray, List.set_cons_zero, List.set_cons_succ, i64_w, i32_w]
                  rfl
                 refine pure_ (i := 6) (N := some 66) (v := undef) (a' := ?_) #[true, true, true, true, true, true, true, false, false, false, false, false, false, false, false, false, false, false, false, false, false, false, false, false] rfl rfl (any_of HT_.out (by kernel_rfl)) (fun _ _ _ h => h) (Or.inr ⟨by rfl, rfl⟩) ?_ ?_
                 rotate_left
                 ·
                  simp only [Act.put, List.setIfInBounds_toArray, List.set_cons_zero, List.set_cons_succ, i64_w, i32_w]
                  rfl
                 refine pure_ (i := 7) (N := some 67) (v := ?_) (a' := ?_) #[true, true, true, true, true, true, true, true, false, false, false, false, false, false, false, false, false, false, false, false, false, false, false, false] rfl rfl (any_of HT_.out (by kernel_rfl)) (fun _ _ _ h => h) (Or.inl ⟨by rfl, ?_⟩) ?_ ?_
                 rotate_left
                 ·
                  intro w'
                  go_simp
                  with_reducible rfl
                 rotate_left
                 ·
                  simp only [Act.put, List.setIfInBounds_toArray, List.set_cons_zero, List.set_cons_succ, i64_w, i32_w]
                  rfl
                 refine pure_ (i := 8) (N := some 68) (v := ?_) (a' := ?_) #[true, true, true, true, true, true, true, true, true, false, false, false, false, false, false, false, false, false, false, false, false, false, false, false] rfl rfl (any_of HT_.out (by kernel_rfl)) (fun _ _ _ h => h) (Or.inl ⟨by rfl, ?_⟩) ?_ ?_
                 rotate_left
                 ·
                  intro w'
                  go_simp
                  with_reducible rfl
                 rotate_left
                 ·
                  simp only [Act.put, List.setIfInBounds_toArray, List.set_cons_zero, List.set_cons_succ, i64_w, i32_w]
                  rfl
                 refine pure_ (i := 9) (N := some 69) (v := ?_) (a' := ?_) #[true, true, true, true, true, true, true, true, true, true, false, false, false, false, false, false, false, false, false, false, false, false, false, false] rfl rfl (any_of HT_.out (by kernel_rfl)) (fun _ _ _ h => h) (Or.inl ⟨by rfl, ?_⟩) ?_ ?_
                 rotate_left
                 ·
                  intro w'
                  go_simp
                  with_reducible rfl
                 rotate_left
                 ·
                  simp only [Act.put, List.setIfInBounds_toArray, List.set_cons_zero, List.set_cons_succ, i64_w, i32_w]
                  rfl
                 refine pure_ (i := 10) (N := some 70) (v := ?_) (a' := ?_) #[true, true, true, true, true, true, true, true, true, true, true, false, false, false, false, false, false, false, false, false, false, false, false, false] rfl rfl (any_of HT_.out (by kernel_rfl)) (fun _ _ _ h => h) (Or.inl ⟨by rfl, ?_⟩) ?_ ?_
                 rotate_left
                 ·
                  intro w'
                  go_simp
                  with_reducible rfl
                 rotate_left
                 ·
                  simp only [Act.put, List.setIfInBounds_toArray, List.set_cons_zero, List.set_cons_succ, i64_w, i32_w]
                  rfl
                 refine pure_ (i := 11) (N := some 71) (v := ?_) (a' := ?_) #[true, true, true, true, true, true, true, true, true, true, true, true, false, false, false, false, false, false, false, false, false, false, false, false] rfl rfl (any_of HT_.out (by kernel_rfl)) (fun _ _ _ h => h) (Or.inl ⟨by rfl, ?_⟩) ?_ ?_
                 rotate_left
                 ·
                  intro w'
                  go_simp
                  with_reducible rfl
                 rotate_left
                 ·
                  simp only [Act.put, List.setIfInBounds_toArray, List.set_cons_zero, List.set_cons_succ, i64_w, i32_w]
                  rfl
                 refine pure_ (i := 12) (N := some 72) (v := undef) (a' := ?_) #[true, true, true, true, true, true, true, true, true, true, true, true, true, false, false, false, false, false, false, false, false, false, false, false] rfl rfl (any_of HT_.out (by kernel_rfl)) (fun _ _ _ h => h) (Or.inr ⟨by rfl, rfl⟩) ?_ ?_
                 rotate_left
                 ·
                  simp only [Act.put, List.setIfInBounds_toArray, List.set_cons_zero, List.set_cons_succ, i64_w, i32_w]
                  rfl
                 refine pure_ (i := 13) (N := some 73) (v := undef) (a' := ?_) #[true, true, true, true, true, true, true, true, true, true, true, true, true, true, false, false, false, false, false, false, false, false, false, false] rfl rfl (any_of HT_.out (by kernel_rfl)) (fun _ _ _ h => h) (Or.inr ⟨by rfl, rfl⟩) ?_ ?_
                 rotate_left
                 ·
                  simp only [Act.put, List.setIfInBounds_toArray, List.set_cons_zero, List.set_cons_succ, i64_w, i32_w]
                  rfl
                 refine pure_ (i := 14) (N := some 74) (v := undef) (a' := ?_) #[true, true, true, true, true, true, true, true, true, true, true, true, true, true, true, false, false, false, false, false, false, false, false, false] rfl rfl (any_of HT_.out (by kernel_rfl)) (fun _ _ _ h => h) (Or.inr ⟨by rfl, rfl⟩) ?_ ?_
                 rotate_left
                 ·
                  simp only [Act.put, List.setIfInBounds_toArray, List.set_cons_zero, List.set_cons_succ, i64_w, i32_w]
                  rfl
                 refine pure_ (i := 15) (N := some 75) (v := undef) (a' := ?_) #[true, true, true, true, true, true, true, true, true, true, true, true, true, true, true, true, false, false, false, false, false, false, false, false] rfl rfl (any_of HT_.out (by kernel_rfl)) (fun _ _ _ h => h) (Or.inr ⟨by rfl, rfl⟩) ?_ ?_
                 rotate_left
                 ·
                  simp only [Act.put, List.setIfInBounds_toArray, List.set_cons_zero, List.set_cons_succ, i64_w, i32_w]
                  rfl
                 refine pure_ (i := 16) (N := some 76) (v := undef) (a' := ?_) #[true, true, true, true, true, true, true, true, true, true, true, true, true, true, true, true, true, false, false, false, false, false, false, false] rfl rfl (any_of HT_.out (by kernel_rfl)) (fun _ _ _ h => h) (Or.inr ⟨by rfl, rfl⟩) ?_ ?_
                 rotate_left
                 ·
                  simp only [Act.put, List.setIfInBounds_toArray, List.set_cons_zero, List.set_cons_succ, i64_w, i32_w]
                  rfl
                 refine pure_ (i := 17) (N := some 77) (v := undef) (a' := ?_) #[true, true, true, true, true, true, true, true, true, true, true, true, true, true, true, true, true, true, false, false, false, false, false, false] rfl rfl (any_of HT_.out (by kernel_rfl)) (fun _ _ _ h => h) (Or.inr ⟨by rfl, rfl⟩) ?_ ?_
                 rotate_left
                 ·
                  simp only [Act.put, List.setIfInBounds_toArray, List.set_cons_zero, List.set_cons_succ, i64_w, i32_w]
                  rfl
                 refine pure_ (i := 18) (N := some 78) (v := undef) (a' := ?_) #[true, true, true, true, true, true, true, true, true, true, true, true, true, true, true, true, true, true, true, false, false, false, false, false] rfl rfl (any_of HT_.out (by kernel_rfl)) (fun _ _ _ h => h) (Or.inr ⟨by rfl, rfl⟩) ?_ ?_
                 rotate_left
                 ·
                  simp only [Act.put, List.setIfInBounds_toArray, List.set_cons_zero, List.set_cons_succ, i64_w, i32_w]
                  rfl
                 refine pure_ (i := 19) (N := some 79) (v := undef) (a' := ?_) #[true, true, true, true, true, true, true, true, true, true, true, true, true, true, true, true, true, true, true, true, false, false, false, false] rfl rfl (any_of HT_.out (by kernel_rfl)) (fun _ _ _ h => h) (Or.inr ⟨by rfl, rfl⟩) ?_ ?_
                 rotate_left
                 ·
                  simp only [Act.put, List.setIfInBounds_toArray, List.set_cons_zero, List.set_cons_succ, i64_w, i32_w]
                  rfl
                 refine pure_ (i := 20) (N := some 80) (v := undef) (a' := ?_) #[true, true, true, true, true, true, true, true, true, true, true, true, true, true, true, true, true, true, true, true, true, false, false, false] rfl rfl (any_of HT_.out (by kernel_rfl)) (fun _ _ _ h => h) (Or.inr ⟨by rfl, rfl⟩) ?_ ?_
                 rotate_left
                 ·
                  simp only [Act.put, List.setIfInBounds_toArray, List.set_cons_zero, List.set_cons_succ, i64_w, i32_w]
                  rfl
                 refine pure_ (i := 21) (N := some 81) (v := ?_) (a' := ?_) #[true, true, true, true, true, true, true, true, true, true, true, true, true, true, true, true, true, true, true, true, true, true, false, false] rfl rfl (any_of HT_.out (by kernel_rfl)) (fun _ _ _ h => h) (Or.inl ⟨by rfl, ?_⟩) ?_ ?_
                 rotate_left
                 ·
                  intro w'
                  go_simp
                  with_reducible rfl
                 rotate_left
                 ·
                  simp only [Act.put, List.setIfInBounds_toArray, List.set_cons_zero, List.set_cons_succ, i64_w, i32_w]
                  rfl
                 refine pure_ (i := 22) (N := some 82) (v := ?_) (a' := ?_) #[true, true, true, true, true, true, true, true, true, true, true, true, true, true, true, true, true, true, true, true, true, true, true, false] rfl rfl (any_of HT_.out (by kernel_rfl)) (fun _ _ _ h => h) (Or.inl ⟨by rfl, ?_⟩) ?_ ?_
                 rotate_left
                 ·
                  intro w'
                  go_simp
                  with_reducible rfl
                 rotate_left
                 ·
                  simp only [Act.put, List.setIfInBounds_toArray, List.set_cons_zero, List.set_cons_succ, i64_w, i32_w]
                  rfl
                 refine pure_ (i := 23) (N := some 59) (v := ?_) (a' := ?_) #[true, true, true, true, true, true, true, true, true, true, true, true, true, true, true, true, true, true, true, true, true, true, true, true] rfl rfl (any_of HT_.out (by kernel_rfl)) (fun _ _ _ h => h) (Or.inl ⟨by rfl, ?_⟩) ?_ ?_
                 rotate_left
                 ·
                  intro w'
                  go_simp
                  with_reducible rfl
                 rotate_left
                 ·
                  simp only [Act.put, List.setIfInBounds_toArray, List.set_cons_zero, List.set_cons_succ, i64_w, i32_w]
                  rfl
                 refine done_ (done_of HT_.out (by kernel_rfl)) ?_
                 try go_wp2
                 go_roundg kj21
                 case measure => have := HJ1.out;have := HK2.out;have := HJ21.out;omega
                 case rel => exact ⟨(wrap64 (x37_2 + 1)), (by first|rfl|(simp;done)|(simp [*];done)), H', ⟨by have := HJ1.out;have := HK2.out;have := HJ21.out;omega⟩, ⟨by (with_reducible repeat (first|refine blk_drewN ?_ _|refine blk_drew ?_|refine blk_alloc ?_ _));exact BK1106.out⟩, ⟨by repeat (first|(with_reducible first|exact HB.out|apply below_alloc|apply pw_below_drewN|apply below_drew1|refine below_set ?_ GE1106.out|refine below_set ?_ GE1111.out)|exact HB.out)⟩⟩
               ·
                rw [if_neg c38] at H
                have c38b0 : ((rd_T137 l0_3 x37_2).f0) = false := by simpa using c38
                clear c38
                by_cases c50 : ((rd_T137 l0_3 x37_2).f3) = 0
                ·
                 rw [if_pos c50] at H
                 have c50b0 : (((rd_T137 l0_3 x37_2).f3) == 0) = true := beq_iff_eq.mpr c50
                 have c50b1 : (((rd_T137 l0_3 x37_2).f3) != 0) = false := bne_eq_false_iff_eq.mpr c50
                 clear c50
                 by_cases c51 : x37_2 > 0
                 ·
                  rw [if_pos c51] at H
                  have c51b0 : decide (0 < x37_2) = true := decide_eq_true c51
                  clear c51
                  obtain ⟨ji52, hji52⟩ : ∃ j_ : Int, (wrap64 (x37_2 - 1)) = j_ := ⟨_, rfl⟩
                  replace H : (if 0 ≤ (ji52) then (if (ji52) < (l0_3.length : Int) then ((impl_stepOrder.f kj21 ((rd_T137 l0_3 (ji52)).f0) ((rd_T137 l0_3 (ji52)).f1) ((rd_T137 l0_3 (ji52)).f2) ((rd_T137 l0_3 (ji52)).f3) ((rd_T137 l0_3 x37_2).f0) ((rd_T137 l0_3 x37_2).f1) ((rd_T137 l0_3 x37_2).f2) ((rd_T137 l0_3 x37_2).f3)).bind fun t1118 => (if t1118 ≥ 0 then (some 1) else (impl_DeltaFault.l0 kj21 l0_3 (l0_3.length : Int) (wrap64 (x37_2 + 1)) a0_0 a0_1 l0_2 l0_3))) else (none)) else (none)) = some r := by first|(rw [hji52] at H;exact H)|(simp only [hji52] at H ⊢;exact H)
                  have hji52w : (IntKind.i64.wrap (x37_2 - 1)) = ji52 := (i64_w _).trans hji52
                  by_cases c53 : 0 ≤ (ji52)
                  ·
                   rw [if_pos c53] at H
                   have c53b0 : decide (0 ≤ (ji52)) = true := decide_eq_true c53
                   clear c53
                   by_cases c54 : (ji52) < (l0_3.length : Int)
                   ·
                    rw [if_pos c54] at H
                    have c54b0 : decide ((ji52) < (l0_3.length : Int)) = true := decide_eq_true c54
                    clear c54
                    replace H := Option.bind_eq_some_iff.mp H
                    obtain ⟨t1118, A550, H⟩ := H
                    replace H : (if t1118 ≥ 0 then (some 1) else (impl_DeltaFault.l0 kj21 l0_3 (l0_3.length : Int) (wrap64 (x37_2 + 1)) a0_0 a0_1 l0_2 l0_3)) = some r := H
                    have A55 := Aside0.mk A550
                    clear A550
                    by_cases c56 : t1118 ≥ 0
                    ·
                     rw [if_pos c56] at H
                     have c56b0 : decide (0 ≤ t1118) = true := decide_eq_true c56
                     clear c56
                     obtain rfl := Option.some.inj H
                     try go_wp2
                     have n0_ := Aside0.mk (blk_drew BK1106.out)
                     have n1_ := Aside0.mk (blk_drew BK1111.out)
                     have n2_ := Aside0.mk (below_drew1 HB.out)
                     clear BK1106
                     clear BK1111
                     clear HB
                     have BK1106 := n0_
                     have BK1111 := n1_
                     have HB := n2_
                     clear n0_ n1_ n2_
                     have p1117 : 0 ≤ ((ji52) : Int) := of_decide_eq_true (by first|(with_reducible assumption)|assumption)
                     have q1117 : (ji52) < (l0_3.length : Int) := of_decide_eq_true (by first|(with_reducible assumption)|assumption)
                     obtain ⟨ad1117, e1117, hx1117_0, hx1117_1, hx1117_2, hx1117_3⟩ := at_T137 HR0_3.out (ji52) p1117 q1117
                     have hw1117_3 := hx1117_3
                     have hw1117_2 := hx1117_2
                     have hw1117_1 := hx1117_1
                     have hw1117_0 := hx1117_0
                     obtain rfl : ad1110 = ad1117 := (by injection e1117)
                     replace hx1117_0 := (HB.out.cell (World.block_lt_of_cell? w _ hx1117_0)).trans hx1117_0
                     replace hx1117_1 := (HB.out.cell (World.block_lt_of_cell? w _ hx1117_1)).trans hx1117_1
                     replace hx1117_2 := (HB.out.cell (World.block_lt_of_cell? w _ hx1117_2)).trans hx1117_2
                     replace hx1117_3 := (HB.out.cell (World.block_lt_of_cell? w _ hx1117_3)).trans hx1117_3
                     replace p1117 := eq_true p1117
                     replace q1117 := eq_true q1117
                     refine start_ (n := 24) (S := fun w' => w'.cell? ⟨gb1111, 0, none⟩ = some (.bool ((rd_T137 l0_3 x37_2).f0)) ∧ w'.cell? ⟨gb1111, 1, none⟩ = some (.int .i64 ((rd_T137 l0_3 x37_2).f1)) ∧ w'.cell? ⟨gb1111, 2, none⟩ = some (.int .i64 ((rd_T137 l0_3 x37_2).f2)) ∧ w'.cell? ⟨gb1111, 3, none⟩ = some (.int .i64 ((rd_T137 l0_3 x37_2).f3)) ∧ w'.cell? ⟨gb1106, 0, none⟩ = some (.int .i64 a0_0) ∧ w'.cell? ⟨gb1106, 1, none⟩ = some (.int .i64 a0_1) ∧ w'.cell? ⟨gb1106, 2, none⟩ = some (.slice A0_2 l0_2.length c0_2) ∧ w'.cell? ⟨gb1106, 3, none⟩ = some (.slice (some ad1110) l0_3.length c0_3) ∧ w'.cell? (ad1110.add (((ji52)).toNat * 4)) = some (.bool ((rd_T137 l0_3 (ji52)).f0)) ∧ w'.cell? ⟨(ad1110.add (((ji52)).toNat * 4)).block, (ad1110.add (((ji52)).toNat * 4)).off + 1, none⟩ = some (.int .i64 ((rd_T137 l0_3 (ji52)).f1)) ∧ w'.cell? ⟨(ad1110.add (((ji52)).toNat * 4)).block, (ad1110.add (((ji52)).toNat * 4)).off + 2, none⟩ = some (.int .i64 ((rd_T137 l0_3 (ji52)).f2)) ∧ w'.cell? ⟨(ad1110.add (((ji52)).toNat * 4)).block, (ad1110.add (((ji52)).toNat * 4)).off + 3, none⟩ = some (.int .i64 ((rd_T137 l0_3 (ji52)).f3))) (ds := []) #[false, false, false, false, false, false, false, false, false, false, false, false, false, false, false, false, false, false, false, false, false, false, false, false] (by kernel_rfl) rfl rfl ⟨(blk_cell BK1111.out 0).trans rfl, (blk_cell BK1111.out 1).trans rfl, (blk_cell BK1111.out 2).trans rfl, (blk_cell BK1111.out 3).trans rfl, (blk_cell BK1106.out 0).trans rfl, (blk_cell BK1106.out 1).trans rfl, (blk_cell BK1106.out 2).trans rfl, (blk_cell BK1106.out 3).trans rfl, ((HB.out.cell (World.block_lt_of_cell? w _ hw1117_0)).trans hw1117_0), ((HB.out.cell (World.block_lt_of_cell? w _ hw1117_1)).trans hw1117_1), ((HB.out.cell (World.block_lt_of_cell? w _ hw1117_2)).trans hw1117_2), ((HB.out.cell (World.block_lt_of_cell? w _ hw1117_3)).trans hw1117_3)⟩ (fun hHeld => ?_);refine with_tabW impl_DeltaFault.tab13 impl_DeltaFault.bits13 (fun HT_ HW_ => ?_)
                     generalize wc.drew = w57 at BK1106 BK1111 HB hx1117_0 hx1117_1 hx1117_2 hx1117_3 hHeld ⊢
                     refine pure_ (i := 0) (N := some 60) (v := ?_) (a' := ?_) #[true, false, false, false, false, false, false, false, false, false, false, false, false, false, false, false, false, false, false, false, false, false, false, false] rfl rfl (any_of HT_.out (by kernel_rfl)) (fun _ _ _ h => h) (Or.inl ⟨by rfl, ?_⟩) ?_ ?_
                     rotate_left
                     ·
                      intro w'
                      go_simp
                      with_reducible rfl
                     rotate_left
                     ·
                      simp only [Act.put, List.setIfInBounds_toArray, List.set_cons_zero, List.set_cons_succ, i64_w, i32_w]
                      rfl
                     refine take_ (i := 1) (N := some 61) (v := ?_) (a' := ?_) #[true, true, false, false, false, false, false, false, false, false, false, false, false, false, false, false, false, false, false, false, false, false, false, false] rfl rfl (take_ofW HT_.out HW_.out (by kernel_rfl)) (fun _ _ _ h => h) (Or.inl ⟨by rfl, ?_⟩) hHeld ?_ ?_
                     rotate_left
                     ·
                      rintro w' ⟨s0, s1, s2, s3, s4, s5, s6, s7, s8, s9, s10, s11⟩
                      go_simp
                      with_reducible rfl
                     rotate_left
                     ·
                      simp only [Act.put, List.setIfInBounds_toArray, List.set_cons_zero, List.set_cons_succ, i64_w, i32_w]
                      rfl
                     refine pure_ (i := 2) (N := some 62) (v := ?_) (a' := ?_) #[true, true, true, false, false, false, false, false, false, false, false, false, false, false, false, false, false, false, false, false, false, false, false, false] rfl rfl (any_of HT_.out (by kernel_rfl)) (fun _ _ _ h => h) (Or.inl ⟨by rfl, ?_⟩) ?_ ?_
                     rotate_left
                     ·
                      intro w'
                      go_simp
                      with_reducible rfl
                     rotate_left
                     ·
                      simp only [Act.put, List.setIfInBounds_toArray, List.set_cons_zero, List.set_cons_succ, i64_w, i32_w]
                      rfl
                     refine pure_ (i := 3) (N := some 63) (v := ?_) (a' := ?_) #[true, true, true, true, false, false, false, false, false, false, false, false, false, false, false, false, false, false, false, false, false, false, false, false] rfl rfl (any_of HT_.out (by kernel_rfl)) (fun _ _ _ h => h) (Or.inl ⟨by rfl, ?_⟩) ?_ ?_
                     rotate_left
                     ·
                      intro w'
                      go_simp
                      with_reducible rfl
                     rotate_left
                     ·
                      simp only [Act.put, List.setIfInBounds_toArray, List.set_cons_zero, List.set_cons_succ, i64_w, i32_w]
                      rfl
                     refine pure_ (i := 4) (N := some 64) (v := ?_) (a' := ?_) #[true, true, true, true, true, false, false, false, false, false, false, false, false, false, false, false, false, false, false, false, false, false, false, false] rfl rfl (any_of HT_.out (by kernel_rfl)) (fun _ _ _ h => h) (Or.inl ⟨by rfl, ?_⟩) ?_ ?_
                     rotate_left
                     ·
                      intro w'
                      go_simp
                      with_reducible rfl
                     rotate_left
                     ·
                      simp only [Act.put, List.setIfInBounds_toArray, List.set_cons_zero, List.set_cons_succ, i64_w, i32_w]
                      rfl
                     refine take_ (i := 5) (N := some 65) (v := ?_) (a' := ?_) #[true, true, true, true, true, true, false, false, false, false, false, false, false, false, false, false, false, false, false, false, false, false, false, false] rfl rfl (take_ofW HT_.out HW_.out (by kernel_rfl)) (fun _ _ _ h => h) (Or.inl ⟨by rfl, ?_⟩) hHeld ?_ ?_
                     rotate_left
                     ·
                      rintro w' ⟨s0, s1, s2, s3, s4, s5, s6, s7, s8, s9, s10, s11⟩
                      go_simp
                      with_reducible rfl
                     rotate_left
                     ·
                      simp only [Act.put, List.setIfInBounds_toArray, List.set_cons_zero, List.set_cons_succ, i64_w, i32_w]
                      rfl
                     refine pure_ (i := 6) (N := some 66) (v := ?_) (a' := ?_) #[true, true, true, true, true, true, true, false, false, false, false, false, false, false, false, false, false, false, false, false, false, false, false, false] rfl rfl (any_of HT_.out (by kernel_rfl)) (fun _ _ _ h => h) (Or.inl ⟨by rfl, ?_⟩) ?_ ?_
                     rotate_left
                     ·
                      intro w'
                      go_simp
                      with_reducible rfl
                     rotate_left
                     ·
                      simp only [Act.put, List.setIfInBounds_toArray, List.set_cons_zero, List.set_cons_succ, i64_w, i32_w]
                      rfl
                     refine pure_ (i := 7) (N := some 67) (v := ?_) (a' := ?_) #[true, true, true, true, true, true, true, true, false, false, false, false, false, false, false, false, false, false, false, false, false, false, false, false] rfl rfl (any_of HT_.out (by kernel_rfl)) (fun _ _ _ h => h) (Or.inl ⟨by rfl, ?_⟩) ?_ ?_
                     rotate_left
                     ·
                      intro w'
                      go_simp
                      with_reducible rfl
                     rotate_left
                     ·
                      simp only [Act.put, List.setIfInBounds_toArray, List.set_cons_zero, List.set_cons_succ, i64_w, i32_w]
                      rfl
                     refine pure_ (i := 8) (N := some 68) (v := ?_) (a' := ?_) #[true, true, true, true, true, true, true, true, true, false, false, false, false, false, false, false, false, false, false, false, false, false, false, false] rfl rfl (any_of HT_.out (by kernel_rfl)) (fun _ _ _ h => h) (Or.inl ⟨by rfl, ?_⟩) ?_ ?_
                     rotate_left
                     ·
                      intro w'
                      go_simp
                      with_reducible rfl
                     rotate_left
                     ·
                      simp only [Act.put, List.setIfInBounds_toArray, List.set_cons_zero, List.set_cons_succ, i64_w, i32_w]
                      rfl
                     refine pure_ (i := 9) (N := some 69) (v := ?_) (a' := ?_) #[true, true, true, true, true, true, true, true, true, true, false, false, false, false, false, false, false, false, false, false, false, false, false, false] rfl rfl (any_of HT_.out (by kernel_rfl)) (fun _ _ _ h => h) (Or.inl ⟨by rfl, ?_⟩) ?_ ?_
                     rotate_left
                     ·
                      intro w'
                      go_simp
                      with_reducible rfl
                     rotate_left
                     ·
                      simp only [Act.put, List.setIfInBounds_toArray, List.set_cons_zero, List.set_cons_succ, i64_w, i32_w]
                      rfl
                     refine pure_ (i := 10) (N := some 70) (v := ?_) (a' := ?_) #[true, true, true, true, true, true, true, true, true, true, true, false, false, false, false, false, false, false, false, false, false, false, false, false] rfl rfl (any_of HT_.out (by kernel_rfl)) (fun _ _ _ h => h) (Or.inl ⟨by rfl, ?_⟩) ?_ ?_
                     rotate_left
                     ·
                      intro w'
                      go_simp
                      with_reducible rfl
                     rotate_left
                     ·
                      simp only [Act.put, List.setIfInBounds_toArray, List.set_cons_zero, List.set_cons_succ, i64_w, i32_w]
                      rfl
                     refine pure_ (i := 11) (N := some 71) (v := ?_) (a' := ?_) #[true, true, true, true, true, true, true, true, true, true, true, true, false, false, false, false, false, false, false, false, false, false, false, false] rfl rfl (any_of HT_.out (by kernel_rfl)) (fun _ _ _ h => h) (Or.inl ⟨by rfl, ?_⟩) ?_ ?_
                     rotate_left
                     ·
                      intro w'
                      go_simp
                      with_reducible rfl
                     rotate_left
                     ·
                      simp only [Act.put, List.setIfInBounds_toArray, List.set_cons_zero, List.set_cons_succ, i64_w, i32_w]
                      rfl
                     refine pure_ (i := 12) (N := some 72) (v := ?_) (a' := ?_) #[true, true, true, true, true, true, true, true, true, true, true, true, true, false, false, false, false, false, false, false, false, false, false, false] rfl rfl (any_of HT_.out (by kernel_rfl)) (fun _ _ _ h => h) (Or.inl ⟨by rfl, ?_⟩) ?_ ?_
                     rotate_left
                     ·
                      intro w'
                      go_simp
                      with_reducible rfl
                     rotate_left
                     ·
                      simp only [Act.put, List.setIfInBounds_toArray, List.set_cons_zero, List.set_cons_succ, i64_w, i32_w]
                      rfl
                     refine pure_ (i := 14) (N := some 74) (v := ?_) (a' := ?_) #[true, true, true, true, true, true, true, true, true, true, true, true, true, false, true, false, false, false, false, false, false, false, false, false] rfl rfl (any_of HT_.out (by kernel_rfl)) (fun _ _ _ h => h) (Or.inl ⟨by rfl, ?_⟩) ?_ ?_
                     rotate_left
                     ·
                      intro w'
                      go_simp
                      with_reducible rfl
                     rotate_left
                     ·
                      simp only [Act.put, List.setIfInBounds_toArray, List.set_cons_zero, List.set_cons_succ, i64_w, i32_w]
                      rfl
                     refine pure_ (i := 15) (N := some 75) (v := ?_) (a' := ?_) #[true, true, true, true, true, true, true, true, true, true, true, true, true, false, true, true, false, false, false, false, false, false, false, false] rfl rfl (any_of HT_.out (by kernel_rfl)) (fun _ _ _ h => h) (Or.inl ⟨by rfl, ?_⟩) ?_ ?_
                     rotate_left
                     ·
                      intro w'
                      go_simp
                      with_reducible rfl
                     rotate_left
                     ·
                      simp only [Act.put, List.setIfInBounds_toArray, List.set_cons_zero, List.set_cons_succ, i64_w, i32_w]
                      rfl
                     refine take_ (i := 13) (N := some 73) (v := ?_) (a' := ?_) #[true, true, true, true, true, true, true, true, true, true, true, true, true, true, true, true, false, false, false, false, false, false, false, false] rfl rfl (take_ofW HT_.out HW_.out (by kernel_rfl)) (fun _ _ _ h => h) (Or.inl ⟨by rfl, ?_⟩) hHeld ?_ ?_
                     rotate_left
                     ·
                      rintro w' ⟨s0, s1, s2, s3, s4, s5, s6, s7, s8, s9, s10, s11⟩
                      go_simp
                      with_reducible rfl
                     rotate_left
                     ·
                      simp only [Act.put, List.setIfInBounds_toArray, List.set_cons_zero, List.set_cons_succ, i64_w, i32_w]
                      rfl
                     refine pure_ (i := 16) (N := some 76) (v := ?_) (a' := ?_) #[true, true, true, true, true, true, true, true, true, true, true, true, true, true, true, true, true, false, false, false, false, false, false, false] rfl rfl (any_of HT_.out (by kernel_rfl)) (fun _ _ _ h => h) (Or.inl ⟨by rfl, ?_⟩) ?_ ?_
                     rotate_left
                     ·
                      intro w'
                      go_simp
                      with_reducible rfl
                     rotate_left
                     ·
                      simp only [Act.put, List.setIfInBounds_toArray, List.set_cons_zero, List.set_cons_succ, i64_w, i32_w]
                      rfl
                     refine take_ (i := 17) (N := some 77) (v := ?_) (a' := ?_) #[true, true, true, true, true, true, true, true, true, true, true, true, true, true, true, true, true, true, false, false, false, false, false, false] rfl rfl (take_ofW HT_.out HW_.out (by kernel_rfl)) (fun _ _ _ h => h) (Or.inl ⟨by rfl, ?_⟩) hHeld ?_ ?_
                     rotate_left
                     ·
                      rintro w' ⟨s0, s1, s2, s3, s4, s5, s6, s7, s8, s9, s10, s11⟩
                      go_simp
                      with_reducible rfl
                     rotate_left
                     ·
                      simp only [Act.put, List.setIfInBounds_toArray, List.set_cons_zero, List.set_cons_succ, i64_w, i32_w]
                      rfl
                     refine take_ (i := 18) (N := some 78) (v := ?_) (a' := ?_) #[true, true, true, true, true, true, true, true, true, true, true, true, true, true, true, true, true, true, true, false, false, false, false, false] rfl rfl (take_ofW HT_.out HW_.out (by kernel_rfl)) (fun _ _ _ h => h) (Or.inl ⟨by rfl, ?_⟩) hHeld ?_ ?_
                     rotate_left
                     ·
                      rintro w' ⟨s0, s1, s2, s3, s4, s5, s6, s7, s8, s9, s10, s11⟩
                      go_simp
                      with_reducible rfl
                     rotate_left
                     ·
                      simp only [Act.put, List.setIfInBounds_toArray, List.set_cons_zero, List.set_cons_succ, i64_w, i32_w]
                      rfl
                     refine one_ (i := 19) (N := some 79) #[true, true, true, true, true, true, true, true, true, true, true, true, true, true, true, true, true, true, true, true, false, false, false, false] rfl rfl (one_of HT_.out (by kernel_rfl)) (by decide) (fun K hK => ?_)
                     refine goes_ Try.func106 (by kernel_rfl) rfl #[.agg #[.bool ((rd_T137 l0_3 (ji52)).f0), .int .i64 ((rd_T137 l0_3 (ji52)).f1), .int .i64 ((rd_T137 l0_3 (ji52)).f2), .int .i64 ((rd_T137 l0_3 (ji52)).f3)], .agg #[.bool ((rd_T137 l0_3 x37_2).f0), .int .i64 ((rd_T137 l0_3 x37_2).f1), .int .i64 ((rd_T137 l0_3 x37_2).f2), .int .i64 ((rd_T137 l0_3 x37_2).f3)]] (by rfl) rfl rfl (by (try simp only [List.map_toArray, List.map_cons, List.map_nil]);first|done|(simp only [hji52];rfl)|rfl|(simp only [List.length_drop, List.length_take];rfl)|(simp [Act.eval, *];done)) ?_
                     with_reducible refine (impl_stepOrder.calls kj21 ((rd_T137 l0_3 (ji52)).f0) ((rd_T137 l0_3 (ji52)).f1) ((rd_T137 l0_3 (ji52)).f2) ((rd_T137 l0_3 (ji52)).f3) ((rd_T137 l0_3 x37_2).f0) ((rd_T137 l0_3 x37_2).f1) ((rd_T137 l0_3 x37_2).f2) ((rd_T137 l0_3 x37_2).f3) t1118 _ A55.out).mono ?_
                     rintro e w58 ⟨rfl, hb⟩
                     refine ⟨_, rfl, ?_⟩
                     have n0_ := Aside0.mk (blk_below (g := gb1106) (o := .cells #[.int .i64 a0_0, .int .i64 a0_1, .slice A0_2 l0_2.length c0_2, .slice (some ad1110) l0_3.length c0_3] 84 (0, 0)) (by (with_reducible repeat (first|refine blk_drewN ?_ _|refine blk_drew ?_|refine blk_alloc ?_ _));exact BK1106.out) hb)
                     have n1_ := Aside0.mk (blk_below (g := gb1111) (o := .cells #[.bool ((rd_T137 l0_3 x37_2).f0), .int .i64 ((rd_T137 l0_3 x37_2).f1), .int .i64 ((rd_T137 l0_3 x37_2).f2), .int .i64 ((rd_T137 l0_3 x37_2).f3)] 137 (0, 0)) (by (with_reducible repeat (first|refine blk_drewN ?_ _|refine blk_drew ?_|refine blk_alloc ?_ _));exact BK1111.out) hb)
                     have n2_ := Aside0.mk (below_step (by repeat (first|(with_reducible first|exact HB.out|apply below_alloc|apply pw_below_drewN|apply below_drew1|refine below_set ?_ GE1106.out|refine below_set ?_ GE1111.out)|exact HB.out)) hb)
                     clear BK1106
                     clear BK1111
                     clear HB
                     have BK1106 := n0_
                     have BK1111 := n1_
                     have HB := n2_
                     clear n0_ n1_ n2_
                     (try clear hb)
                     (try clear hb2)
                     (try clear hk)
                     (try clear hi)
                     refine hK.out _ _ ⟨(blk_cell BK1111.out 0).trans rfl, (blk_cell BK1111.out 1).trans rfl, (blk_cell BK1111.out 2).trans rfl, (blk_cell BK1111.out 3).trans rfl, (blk_cell BK1106.out 0).trans rfl, (blk_cell BK1106.out 1).trans rfl, (blk_cell BK1106.out 2).trans rfl, (blk_cell BK1106.out 3).trans rfl, ((HB.out.cell (World.block_lt_of_cell? w _ hw1117_0)).trans hw1117_0), ((HB.out.cell (World.block_lt_of_cell? w _ hw1117_1)).trans hw1117_1), ((HB.out.cell (World.block_lt_of_cell? w _ hw1117_2)).trans hw1117_2), ((HB.out.cell (World.block_lt_of_cell? w _ hw1117_3)).trans hw1117_3)⟩ (fun hHeld => ?_)
                     clear hK K
                     refine norm_ (a' := ?_) ?_ ?_
                     rotate_left
                     ·
                      show Act.put _ (some 79) _ = _
                      simp only [Act.put, List.setIfInBounds_toArray, List.set_cons_zero, List.set_cons_succ, i64_w, i32_w]
                      rfl
                     refine pure_ (i := 20) (N := some 80) (v := ?_) (a' := ?_) #[true, true, true, true, true, true, true, true, true, true, true, true, true, true, true, true, true, true, true, true, true, false, false, false] rfl rfl (any_of HT_.out (by kernel_rfl)) (fun _ _ _ h => h) (Or.inl ⟨by rfl, ?_⟩) ?_ ?_
                     rotate_left
                     ·
                      intro w'
                      go_simp
                      with_reducible rfl
                     rotate_left
                     ·
                      simp only [Act.put, List.setIfInBounds_toArray, List.set_cons_zero, List.set_cons_succ, i64_w, i32_w]
                      rfl
                     refine pure_ (i := 21) (N := some 81) (v := ?_) (a' := ?_) #[true, true, true, true, true, true, true, true, true, true, true, true, true, true, true, true, true, true, true, true, true, true, false, false] rfl rfl (any_of HT_.out (by kernel_rfl)) (fun _ _ _ h => h) (Or.inl ⟨by rfl, ?_⟩) ?_ ?_
                     rotate_left
                     ·
                      intro w'
                      go_simp
                      with_reducible rfl
                     rotate_left
                     ·
                      simp only [Act.put, List.setIfInBounds_toArray, List.set_cons_zero, List.set_cons_succ, i64_w, i32_w]
                      rfl
                     refine pure_ (i := 22) (N := some 82) (v := ?_) (a' := ?_) #[true, true, true, true, true, true, true, true, true, true, true, true, true, true, true, true, true, true, true, true, true, true, true, false] rfl rfl (any_of HT_.out (by kernel_rfl)) (fun _ _ _ h => h) (Or.inl ⟨by rfl, ?_⟩) ?_ ?_
                     rotate_left
                     ·
                      intro w'
                      go_simp
                      with_reducible rfl
                     rotate_left
                     ·
                      simp only [Act.put, List.setIfInBounds_toArray, List.set_cons_zero, List.set_cons_succ, i64_w, i32_w]
                      rfl
                     refine pure_ (i := 23) (N := some 59) (v := ?_) (a' := ?_) #[true, true, true, true, true, true, true, true, true, true, true, true, true, true, true, true, true, true, true, true, true, true, true, true] rfl rfl (any_of HT_.out (by kernel_rfl)) (fun _ _ _ h => h) (Or.inl ⟨by rfl, ?_⟩) ?_ ?_
                     rotate_left
                     ·
                      intro w'
                      go_simp
                      with_reducible rfl
                     rotate_left
                     ·
                      simp only [Act.put, List.setIfInBounds_toArray, List.set_cons_zero, List.set_cons_succ, i64_w, i32_w]
                      rfl
                     refine done_ (done_of HT_.out (by kernel_rfl)) ?_
                     try go_wp2
                     go_ret
                     exact ⟨by first|rfl|(simp [errW_none, errW_some] <;> rfl)|(simp only [← hji52];first|rfl|(simp [errW_none, errW_some] <;> rfl))|(simp [*, errW_none, errW_some] <;> rfl), by repeat (first|(with_reducible first|exact HB.out|apply below_alloc|apply pw_below_drewN|apply below_drew1|refine below_set ?_ GE1106.out|refine below_set ?_ GE1111.out)|exact HB.out)⟩
                    ·
                     rw [if_neg c56] at H
                     have c56b0 : decide (0 ≤ t1118) = false := decide_eq_false c56
                     clear c56
                     have H' := Aside0.mk H
                     clear H
                     try go_wp2
                     have n0_ := Aside0.mk (blk_drew BK1106.out)
                     have n1_ := Aside0.mk (blk_drew BK1111.out)
                     have n2_ := Aside0.mk (below_drew1 HB.out)
                     clear BK1106
                     clear BK1111
                     clear HB
                     have BK1106 := n0_
                     have BK1111 := n1_
                     have HB := n2_
                     clear n0_ n1_ n2_
                     have p1117 : 0 ≤ ((ji52) : Int) := of_decide_eq_true (by first|(with_reducible assumption)|assumption)
                     have q1117 : (ji52) < (l0_3.length : Int) := of_decide_eq_true (by first|(with_reducible assumption)|assumption)
                     obtain ⟨ad1117, e1117, hx1117_0, hx1117_1, hx1117_2, hx1117_3⟩ := at_T137 HR0_3.out (ji52) p1117 q1117
                     have hw1117_3 := hx1117_3
                     have hw1117_2 := hx1117_2
                     have hw1117_1 := hx1117_1
                     have hw1117_0 := hx1117_0
                     obtain rfl : ad1110 = ad1117 := (by injection e1117)
                     replace hx1117_0 := (HB.out.cell (World.block_lt_of_cell? w _ hx1117_0)).trans hx1117_0
                     replace hx1117_1 := (HB.out.cell (World.block_lt_of_cell? w _ hx1117_1)).trans hx1117_1
                     replace hx1117_2 := (HB.out.cell (World.block_lt_of_cell? w _ hx1117_2)).trans hx1117_2
                     replace hx1117_3 := (HB.out.cell (World.block_lt_of_cell? w _ hx1117_3)).trans hx1117_3
                     replace p1117 := eq_true p1117
                     replace q1117 := eq_true q1117
                     refine start_ (n := 24) (S := fun w' => w'.cell? ⟨gb1111, 0, none⟩ = some (.bool ((rd_T137 l0_3 x37_2).f0)) ∧ w'.cell? ⟨gb1111, 1, none⟩ = some (.int .i64 ((rd_T137 l0_3 x37_2).f1)) ∧ w'.cell? ⟨gb1111, 2, none⟩ = some (.int .i64 ((rd_T137 l0_3 x37_2).f2)) ∧ w'.cell? ⟨gb1111, 3, none⟩ = some (.int .i64 ((rd_T137 l0_3 x37_2).f3)) ∧ w'.cell? ⟨gb1106, 0, none⟩ = some (.int .i64 a0_0) ∧ w'.cell? ⟨gb1106, 1, none⟩ = some (.int .i64 a0_1) ∧ w'.cell? ⟨gb1106, 2, none⟩ = some (.slice A0_2 l0_2.length c0_2) ∧ w'.cell? ⟨gb1106, 3, none⟩ = some (.slice (some ad1110) l0_3.length c0_3) ∧ w'.cell? (ad1110.add (((ji52)).toNat * 4)) = some (.bool ((rd_T137 l0_3 (ji52)).f0)) ∧ w'.cell? ⟨(ad1110.add (((ji52)).toNat * 4)).block, (ad1110.add (((ji52)).toNat * 4)).off + 1, none⟩ = some (.int .i64 ((rd_T137 l0_3 (ji52)).f1)) ∧ w'.cell? ⟨(ad1110.add (((ji52)).toNat * 4)).block, (ad1110.add (((ji52)).toNat * 4)).off + 2, none⟩ = some (.int .i64 ((rd_T137 l0_3 (ji52)).f2)) ∧ w'.cell? ⟨(ad1110.add (((ji52)).toNat * 4)).block, (ad1110.add (((ji52)).toNat * 4)).off + 3, none⟩ = some (.int .i64 ((rd_T137 l0_3 (ji52)).f3))) (ds := []) #[false, false, false, false, false, false, false, false, false, false, false, false, false, false, false, false, false, false, false, false, false, false, false, false] (by kernel_rfl) rfl rfl ⟨(blk_cell BK1111.out 0).trans rfl, (blk_cell BK1111.out 1).trans rfl, (blk_cell BK1111.out 2).trans rfl, (blk_cell BK1111.out 3).trans rfl, (blk_cell BK1106.out 0).trans rfl, (blk_cell BK1106.out 1).trans rfl, (blk_cell BK1106.out 2).trans rfl, (blk_cell BK1106.out 3).trans rfl, ((HB.out.cell (World.block_lt_of_cell? w _ hw1117_0)).trans hw1117_0), ((HB.out.cell (World.block_lt_of_cell? w _ hw1117_1)).trans hw1117_1), ((HB.out.cell (World.block_lt_of_cell? w _ hw1117_2)).trans hw1117_2), ((HB.out.cell (World.block_lt_of_cell? w _ hw1117_3)).trans hw1117_3)⟩ (fun hHeld => ?_);refine with_tabW impl_DeltaFault.tab13 impl_DeltaFault.bits13 (fun HT_ HW_ => ?_)
                     generalize wc.drew = w59 at BK1106 BK1111 HB hx1117_0 hx1117_1 hx1117_2 hx1117_3 hHeld ⊢
                     refine pure_ (i := 0) (N := some 60) (v := ?_) (a' := ?_) #[true, false, false, false, false, false, false, false, false, false, false, false, false, false, false, false, false, false, false, false, false, false, false, false] rfl rfl (any_of HT_.out (by kernel_rfl)) (fun _ _ _ h => h) (Or.inl ⟨by rfl, ?_⟩) ?_ ?_
                     rotate_left
                     ·
                      intro w'
                      go_simp
                      with_reducible rfl
                     rotate_left
                     ·
                      simp only [Act.put, List.setIfInBounds_toArray, List.set_cons_zero, List.set_cons_succ, i64_w, i32_w]
                      rfl
                     refine take_ (i := 1) (N := some 61) (v := ?_) (a' := ?_) #[true, true, false, false, false, false, false, false, false, false, false, false, false, false, false, false, false, false, false, false, false, false, false, false] rfl rfl (take_ofW HT_.out HW_.out (by kernel_rfl)) (fun _ _ _ h => h) (Or.inl ⟨by rfl, ?_⟩) hHeld ?_ ?_
                     rotate_left
                     ·
                      rintro w' ⟨s0, s1, s2, s3, s4, s5, s6, s7, s8, s9, s10, s11⟩
                      go_simp
                      with_reducible rfl
                     rotate_left
                     ·
                      simp only [Act.put, List.setIfInBounds_toArray, List.set_cons_zero, List.set_cons_succ, i64_w, i32_w]
                      rfl
                     refine pure_ (i := 2) (N := some 62) (v := ?_) (a' := ?_) #[true, true, true, false, false, false, false, false, false, false, false, false, false, false, false, false, false, false, false, false, false, false, false, false] rfl rfl (any_of HT_.out (by kernel_rfl)) (fun _ _ _ h => h) (Or.inl ⟨by rfl, ?_⟩) ?_ ?_
                     rotate_left
                     ·
                      intro w'
                      go_simp
                      with_reducible rfl
                     rotate_left
                     ·
                      simp only [Act.put, List.setIfInBounds_toArray, List.set_cons_zero, List.set_cons_succ, i64_w, i32_w]
                      rfl
                     refine pure_ (i := 3) (N := some 63) (v := ?_) (a' := ?_) #[true, true, true, true, false, false, false, false, false, false, false, false, false, false, false, false, false, false, false, false, false, false, false, false] rfl rfl (any_of HT_.out (by kernel_rfl)) (fun _ _ _ h => h) (Or.inl ⟨by rfl, ?_⟩) ?_ ?_
                     rotate_left
                     ·
                      intro w'
                      go_simp
                      with_reducible rfl
                     rotate_left
                     ·
                      simp only [Act.put, List.setIfInBounds_toArray, List.set_cons_zero, List.set_cons_succ, i64_w, i32_w]
                      rfl
                     refine pure_ (i := 4) (N := some 64) (v := ?_) (a' := ?_) #[true, true, true, true, true, false, false, false, false, false, false, false, false, false, false, false, false, false, false, false, false, false, false, false] rfl rfl (any_of HT_.out (by kernel_rfl)) (fun _ _ _ h => h) (Or.inl ⟨by rfl, ?_⟩) ?_ ?_
                     rotate_left
                     ·
                      intro w'
                      go_simp
                      with_reducible rfl
                     rotate_left
                     ·
                      simp only [Act.put, List.setIfInBounds_toArray, List.set_cons_zero, List.set_cons_succ, i64_w, i32_w]
                      rfl
                     refine take_ (i := 5) (N := some 65) (v := ?_) (a' := ?_) #[true, true, true, true, true, true, false, false, false, false, false, false, false, false, false, false, false, false, false, false, false, false, false, false] rfl rfl (take_ofW HT_.out HW_.out (by kernel_rfl)) (fun _ _ _ h => h) (Or.inl ⟨by rfl, ?_⟩) hHeld ?_ ?_
                     rotate_left
                     ·
                      rintro w' ⟨s0, s1, s2, s3, s4, s5, s6, s7, s8, s9, s10, s11⟩
                      go_simp
                      with_reducible rfl
                     rotate_left
                     ·
                      simp only [Act.put, List.setIfInBounds_toArray, List.set_cons_zero, List.set_cons_succ, i64_w, i32_w]
                      rfl
                     refine pure_ (i := 6) (N := some 66) (v := ?_) (a' := ?_) #[true, true, true, true, true, true, true, false, false, false, false, false, false, false, false, false, false, false, false, false, false, false, false, false] rfl rfl (any_of HT_.out (by kernel_rfl)) (fun _ _ _ h => h) (Or.inl ⟨by rfl, ?_⟩) ?_ ?_
                     rotate_left
                     ·
                      intro w'
                      go_simp
                      with_reducible rfl
                     rotate_left
                     ·
                      simp only [Act.put, List.setIfInBounds_toArray, List.set_cons_zero, List.set_cons_succ, i64_w, i32_w]
                      rfl
                     refine pure_ (i := 7) (N := some 67) (v := ?_) (a' := ?_) #[true, true, true, true, true, true, true, true, false, false, false, false, false, false, false, false, false, false, false, false, false, false, false, false] rfl rfl (any_of HT_.out (by kernel_rfl)) (fun _ _ _ h => h) (Or.inl ⟨by rfl, ?_⟩) ?_ ?_
                     rotate_left
                     ·
                      intro w'
                      go_simp
                      with_reducible rfl
                     rotate_left
                     ·
                      simp only [Act.put, List.setIfInBounds_toArray, List.set_cons_zero, List.set_cons_succ, i64_w, i32_w]
                      rfl
                     refine pure_ (i := 8) (N := some 68) (v := ?_) (a' := ?_) #[true, true, true, true, true, true, true, true, true, false, false, false, false, false, false, false, false, false, false, false, false, false, false, false] rfl rfl (any_of HT_.out (by kernel_rfl)) (fun _ _ _ h => h) (Or.inl ⟨by rfl, ?_⟩) ?_ ?_
                     rotate_left
                     ·
                      intro w'
                      go_simp
                      with_reducible rfl
                     rotate_left
                     ·
                      simp only [Act.put, List.setIfInBounds_toArray, List.set_cons_zero, List.set_cons_succ, i64_w, i32_w]
                      rfl
                     refine pure_ (i := 9) (N := some 69) (v := ?_) (a' := ?_) #[true, true, true, true, true, true, true, true, true, true, false, false, false, false, false, false, false, false, false, false, false, false, false, false] rfl rfl (any_of HT_.out (by kernel_rfl)) (fun _ _ _ h => h) (Or.inl ⟨by rfl, ?_⟩) ?_ ?_
                     rotate_left
                     ·
                      intro w'
                      go_simp
                      with_reducible rfl
                     rotate_left
                     ·
                      simp only [Act.put, List.setIfInBounds_toArray, List.set_cons_zero, List.set_cons_succ, i64_w, i32_w]
                      rfl
                     refine pure_ (i := 10) (N := some 70) (v := ?_) (a' := ?_) #[true, true, true, true, true, true, true, true, true, true, true, false, false, false, false, false, false, false, false, false, false, false, false, false] rfl rfl (any_of HT_.out (by kernel_rfl)) (fun _ _ _ h => h) (Or.inl ⟨by rfl, ?_⟩) ?_ ?_
                     rotate_left
                     ·
                      intro w'
                      go_simp
                      with_reducible rfl
                     rotate_left
                     ·
                      simp only [Act.put, List.setIfInBounds_toArray, List.set_cons_zero, List.set_cons_succ, i64_w, i32_w]
                      rfl
                     refine pure_ (i := 11) (N := some 71) (v := ?_) (a' := ?_) #[true, true, true, true, true, true, true, true, true, true, true, true, false, false, false, false, false, false, false, false, false, false, false, false] rfl rfl (any_of HT_.out (by kernel_rfl)) (fun _ _ _ h => h) (Or.inl ⟨by rfl, ?_⟩) ?_ ?_
                     rotate_left
                     ·
                      intro w'
                      go_simp
                      with_reducible rfl
                     rotate_left
                     ·
                      simp only [Act.put, List.setIfInBounds_toArray, List.set_cons_zero, List.set_cons_succ, i64_w, i32_w]
                      rfl
                     refine pure_ (i := 12) (N := some 72) (v := ?_) (a' := ?_) #[true, true, true, true, true, true, true, true, true, true, true, true, true, false, false, false, false, false, false, false, false, false, false, false] rfl rfl (any_of HT_.out (by kernel_rfl)) (fun _ _ _ h => h) (Or.inl ⟨by rfl, ?_⟩) ?_ ?_
                     rotate_left
                     ·
                      intro w'
                      go_simp
                      with_reducible rfl
                     rotate_left
                     ·
                      simp only [Act.put, List.setIfInBounds_toArray, List.set_cons_zero, List.set_cons_succ, i64_w, i32_w]
                      rfl
                     refine pure_ (i := 14) (N := some 74) (v := ?_) (a' := ?_) #[true, true, true, true, true, true, true, true, true, true, true, true, true, false, true, false, false, false, false, false, false, false, false, false] rfl rfl (any_of HT_.out (by kernel_rfl)) (fun _ _ _ h => h) (Or.inl ⟨by rfl, ?_⟩) ?_ ?_
                     rotate_left
                     ·
                      intro w'
                      go_simp
                      with_reducible rfl
                     rotate_left
                     ·
                      simp only [Act.put, List.setIfInBounds_toArray, List.set_cons_zero, List.set_cons_succ, i64_w, i32_w]
                      rfl
                     refine pure_ (i := 15) (N := some 75) (v := ?_) (a' := ?_) #[true, true, true, true, true, true, true, true, true, true, true, true, true, false, true, true, false, false, false, false, false, false, false, false] rfl rfl (any_of HT_.out (by kernel_rfl)) (fun _ _ _ h => h) (Or.inl ⟨by rfl, ?_⟩) ?_ ?_
                     rotate_left
                     ·
                      intro w'
                      go_simp
                      with_reducible rfl
                     rotate_left
                     ·
                      simp only [Act.put, List.setIfInBounds_toArray, List.set_cons_zero, List.set_cons_succ, i64_w, i32_w]
                      rfl
                     refine take_ (i := 13) (N := some 73) (v := ?_) (a' := ?_) #[true, true, true, true, true, true, true, true, true, true, true, true, true, true, true, true, false, false, false, false, false, false, false, false] rfl rfl (take_ofW HT_.out HW_.out (by kernel_rfl)) (fun _ _ _ h => h) (Or.inl ⟨by rfl, ?_⟩) hHeld ?_ ?_
                     rotate_left
                     ·
                      rintro w' ⟨s0, s1, s2, s3, s4, s5, s6, s7, s8, s9, s10, s11⟩
                      go_simp
                      with_reducible rfl
                     rotate_left
                     ·
                      simp only [Act.put, List.setIfInBounds_toArray, List.set_cons_zero, List.set_cons_succ, i64_w, i32_w]
                      rfl
                     refine pure_ (i := 16) (N := some 76) (v := ?_) (a' := ?_) #[true, true, true, true, true, true, true, true, true, true, true, true, true, true, true, true, true, false, false, false, false, false, false, false] rfl rfl (any_of HT_.out (by kernel_rfl)) (fun _ _ _ h => h) (Or.inl ⟨by rfl, ?_⟩) ?_ ?_
                     rotate_left
                     ·
                      intro w'
                      go_simp
                      with_reducible rfl
                     rotate_left
                     ·
                      simp only [Act.put, List.setIfInBounds_toArray, List.set_cons_zero, List.set_cons_succ, i64_w, i32_w]
                      rfl
                     refine take_ (i := 17) (N := some 77) (v := ?_) (a' := ?_) #[true, true, true, true, true, true, true, true, true, true, true, true, true, true, true, true, true, true, false, false, false, false, false, false] rfl rfl (take_ofW HT_.out HW_.out (by kernel_rfl)) (fun _ _ _ h => h) (Or.inl ⟨by rfl, ?_⟩) hHeld ?_ ?_
                     rotate_left
                     ·
                      rintro w' ⟨s0, s1, s2, s3, s4, s5, s6, s7, s8, s9, s10, s11⟩
                      go_simp
                      with_reducible rfl
                     rotate_left
                     ·
                      simp only [Act.put, List.setIfInBounds_toArray, List.set_cons_zero, List.set_cons_succ, i64_w, i32_w]
                      rfl
                     refine take_ (i := 18) (N := some 78) (v := ?_) (a' := ?_) #[true, true, true, true, true, true, true, true, true, true, true, true, true, true, true, true, true, true, true, false, false, false, false, false] rfl rfl (take_ofW HT_.out HW_.out (by kernel_rfl)) (fun _ _ _ h => h) (Or.inl ⟨by rfl, ?_⟩) hHeld ?_ ?_
                     rotate_left
                     ·
                      rintro w' ⟨s0, s1, s2, s3, s4, s5, s6, s7, s8, s9, s10, s11⟩
                      go_simp
                      with_reducible rfl
                     rotate_left
                     ·
                      simp only [Act.put, List.setIfInBounds_toArray, List.set_cons_zero, List.set_cons_succ, i64_w, i32_w]
                      rfl
                     refine one_ (i := 19) (N := some 79) #[true, true, true, true, true, true, true, true, true, true, true, true, true, true, true, true, true, true, true, true, false, false, false, false] rfl rfl (one_of HT_.out (by kernel_rfl)) (by decide) (fun K hK => ?_)
                     refine goes_ Try.func106 (by kernel_rfl) rfl #[.agg #[.bool ((rd_T137 l0_3 (ji52)).f0), .int .i64 ((rd_T137 l0_3 (ji52)).f1), .int .i64 ((rd_T137 l0_3 (ji52)).f2), .int .i64 ((rd_T137 l0_3 (ji52)).f3)], .agg #[.bool ((rd_T137 l0_3 x37_2).f0), .int .i64 ((rd_T137 l0_3 x37_2).f1), .int .i64 ((rd_T137 l0_3 x37_2).f2), .int .i64 ((rd_T137 l0_3 x37_2).f3)]] (by rfl) rfl rfl (by (try simp only [List.map_toArray, List.map_cons, List.map_nil]);first|done|(simp only [hji52];rfl)|rfl|(simp only [List.length_drop, List.length_take];rfl)|(simp [Act.eval, *];done)) ?_
                     with_reducible refine (impl_stepOrder.calls kj21 ((rd_T137 l0_3 (ji52)).f0) ((rd_T137 l0_3 (ji52)).f1) ((rd_T137 l0_3 (ji52)).f2) ((rd_T137 l0_3 (ji52)).f3) ((rd_T137 l0_3 x37_2).f0) ((rd_T137 l0_3 x37_2).f1) ((rd_T137 l0_3 x37_2).f2) ((rd_T137 l0_3 x37_2).f3) t1118 _ A55.out).mono ?_
                     rintro e w60 ⟨rfl, hb⟩
                     refine ⟨_, rfl, ?_⟩
                     have n0_ := Aside0.mk (blk_below (g := gb1106) (o := .cells #[.int .i64 a0_0, .int .i64 a0_1, .slice A0_2 l0_2.length c0_2, .slice (some ad1110) l0_3.length c0_3] 84 (0, 0)) (by (with_reducible repeat (first|refine blk_drewN ?_ _|refine blk_drew ?_|refine blk_alloc ?_ _));exact BK1106.out) hb)
                     have n1_ := Aside0.mk (blk_below (g := gb1111) (o := .cells #[.bool ((rd_T137 l0_3 x37_2).f0), .int .i64 ((rd_T137 l0_3 x37_2).f1), .int .i64 ((rd_T137 l0_3 x37_2).f2), .int .i64 ((rd_T137 l0_3 x37_2).f3)] 137 (0, 0)) (by (with_reducible repeat (first|refine blk_drewN ?_ _|refine blk_drew ?_|refine blk_alloc ?_ _));exact BK1111.out) hb)
                     have n2_ := Aside0.mk (below_step (by repeat (first|(with_reducible first|exact HB.out|apply below_alloc|apply pw_below_drewN|apply below_drew1|refine below_set ?_ GE1106.out|refine below_set ?_ GE1111.out)|exact HB.out)) hb)
                     clear BK1106
                     clear BK1111
                     clear HB
                     have BK1106 := n0_
                     have BK1111 := n1_
                     have HB := n2_
                     clear n0_ n1_ n2_
                     (try clear hb)
                     (try clear hb2)
                     (try clear hk)
                     (try clear hi)
                     refine hK.out _ _ ⟨(blk_cell BK1111.out 0).trans rfl, (blk_cell BK1111.out 1).trans rfl, (blk_cell BK1111.out 2).trans rfl, (blk_cell BK1111.out 3).trans rfl, (blk_cell BK1106.out 0).trans rfl, (blk_cell BK1106.out 1).trans rfl, (blk_cell BK1106.out 2).trans rfl, (blk_cell BK1106.out 3).trans rfl, ((HB.out.cell (World.block_lt_of_cell? w _ hw1117_0)).trans hw1117_0), ((HB.out.cell (World.block_lt_of_cell? w _ hw1117_1)).trans hw1117_1), ((HB.out.cell (World.block_lt_of_cell? w _ hw1117_2)).trans hw1117_2), ((HB.out.cell (World.block_lt_of_cell? w _ hw1117_3)).trans hw1117_3)⟩ (fun hHeld => ?_)
                     clear hK K
                     refine norm_ (a' := ?_) ?_ ?_
                     rotate_left
                     ·
                      show Act.put _ (some 79) _ = _
                      simp only [Act.put, List.setIfInBounds_toArray, List.set_cons_zero, List.set_cons_succ, i64_w, i32_w]
                      rfl
                     refine pure_ (i := 20) (N := some 80) (v := ?_) (a' := ?_) #[true, true, true, true, true, true, true, true, true, true, true, true, true, true, true, true, true, true, true, true, true, false, false, false] rfl rfl (any_of HT_.out (by kernel_rfl)) (fun _ _ _ h => h) (Or.inl ⟨by rfl, ?_⟩) ?_ ?_
                     rotate_left
                     ·
                      intro w'
                      go_simp
                      with_reducible rfl
                     rotate_left
                     ·
                      simp only [Act.put, List.setIfInBounds_toArray, List.set_cons_zero, List.set_cons_succ, i64_w, i32_w]
                      rfl
                     refine pure_ (i := 21) (N := some 81) (v := ?_) (a' := ?_) #[true, true, true, true, true, true, true, true, true, true, true, true, true, true, true, true, true, true, true, true, true, true, false, false] rfl rfl (any_of HT_.out (by kernel_rfl)) (fun _ _ _ h => h) (Or.inl ⟨by rfl, ?_⟩) ?_ ?_
                     rotate_left
                     ·
                      intro w'
                      go_simp
                      with_reducible rfl
                     rotate_left
                     ·
                      simp only [Act.put, List.setIfInBounds_toArray, List.set_cons_zero, List.set_cons_succ, i64_w, i32_w]
                      rfl
                     refine pure_ (i := 22) (N := some 82) (v := ?_) (a' := ?_) #[true, true, true, true, true, true, true, true, true, true, true, true, true, true, true, true, true, true, true, true, true, true, true, false] rfl rfl (any_of HT_.out (by kernel_rfl)) (fun _ _ _ h => h) (Or.inl ⟨by rfl, ?_⟩) ?_ ?_
                     rotate_left
                     ·
                      intro w'
                      go_simp
                      with_reducible rfl
                     rotate_left
                     ·
                      simp only [Act.put, List.setIfInBounds_toArray, List.set_cons_zero, List.set_cons_succ, i64_w, i32_w]
                      rfl
                     refine pure_ (i := 23) (N := some 59) (v := ?_) (a' := ?_) #[true, true, true, true, true, true, true, true, true, true, true, true, true, true, true, true, true, true, true, true, true, true, true, true] rfl rfl (any_of HT_.out (by kernel_rfl)) (fun _ _ _ h => h) (Or.inl ⟨by rfl, ?_⟩) ?_ ?_
                     rotate_left
                     ·
                      intro w'
                      go_simp
                      with_reducible rfl
                     rotate_left
                     ·
                      simp only [Act.put, List.setIfInBounds_toArray, List.set_cons_zero, List.set_cons_succ, i64_w, i32_w]
                      rfl
                     refine done_ (done_of HT_.out (by kernel_rfl)) ?_
                     try go_wp2
                     go_roundg kj21
                     case measure => have := HJ1.out;have := HK2.out;have := HJ21.out;omega
                     case rel => exact ⟨(wrap64 (x37_2 + 1)), (by first|rfl|(simp;done)|(simp [*];done)), H', ⟨by have := HJ1.out;have := HK2.out;have := HJ21.out;omega⟩, ⟨by (with_reducible repeat (first|refine blk_drewN ?_ _|refine blk_drew ?_|refine blk_alloc ?_ _));exact BK1106.out⟩, ⟨by repeat (first|(with_reducible first|exact HB.out|apply below_alloc|apply pw_below_drewN|apply below_drew1|refine below_set ?_ GE1106.out|refine below_set ?_ GE1111.out)|exact HB.out)⟩⟩
                   ·
                    rw [if_neg c54] at H
                    exact absurd H (by simp)
                  ·
                   rw [if_neg c53] at H
                   exact absurd H (by simp)
                 ·
                  rw [if_neg c51] at H
                  have c51b0 : decide (0 < x37_2) = false := decide_eq_false c51
                  clear c51
                  have H' := Aside0.mk H
                  clear H
                  try go_wp2
                  have n0_ := Aside0.mk (blk_drew BK1106.out)
                  have n1_ := Aside0.mk (blk_drew BK1111.out)
                  have n2_ := Aside0.mk (below_drew1 HB.out)
                  clear BK1106
                  clear BK1111
                  clear HB
                  have BK1106 := n0_
                  have BK1111 := n1_
                  have HB := n2_
                  clear n0_ n1_ n2_
                  refine start_ (n := 24) (S := fun w' => w'.cell? ⟨gb1111, 0, none⟩ = some (.bool ((rd_T137 l0_3 x37_2).f0)) ∧ w'.cell? ⟨gb1111, 1, none⟩ = some (.int .i64 ((rd_T137 l0_3 x37_2).f1)) ∧ w'.cell? ⟨gb1111, 2, none⟩ = some (.int .i64 ((rd_T137 l0_3 x37_2).f2)) ∧ w'.cell? ⟨gb1111, 3, none⟩ = some (.int .i64 ((rd_T137 l0_3 x37_2).f3))) (ds := []) #[false, false, false, false, false, false, false, false, false, false, false, false, false, false, false, false, false, false, false, false, false, false, false, false] (by kernel_rfl) rfl rfl ⟨(blk_cell BK1111.out 0).trans rfl, (blk_cell BK1111.out 1).trans rfl, (blk_cell BK1111.out 2).trans rfl, (blk_cell BK1111.out 3).trans rfl⟩ (fun hHeld => ?_);refine with_tabW impl_DeltaFault.tab13 impl_DeltaFault.bits13 (fun HT_ HW_ => ?_)
                  generalize wc.drew = w61 at BK1106 BK1111 HB hHeld ⊢
                  refine pure_ (i := 0) (N := some 60) (v := ?_) (a' := ?_) #[true, false, false, false, false, false, false, false, false, false, false, false, false, false, false, false, false, false, false, false, false, false, false, false] rfl rfl (any_of HT_.out (by kernel_rfl)) (fun _ _ _ h => h) (Or.inl ⟨by rfl, ?_⟩) ?_ ?_
                  rotate_left
                  ·
                   intro w'
                   go_simp
                   with_reducible rfl
                  rotate_left
                  ·
                   simp only [Act.put, List.setIfInBounds_toArray, List.set_cons_zero, List.set_cons_succ, i64_w, i32_w]
                   rfl
                  refine take_ (i := 1) (N := some 61) (v := ?_) (a' := ?_) #[true, true, false, false, false, false, false, false, false, false, false, false, false, false, false, false, false, false, false, false, false, false, false, false] rfl rfl (take_ofW HT_.out HW_.out (by kernel_rfl)) (fun _ _ _ h => h) (Or.inl ⟨by rfl, ?_⟩) hHeld ?_ ?_
                  rotate_left
                  ·
                   rintro w' ⟨s0, s1, s2, s3⟩
                   go_simp
                   with_reducible rfl
                  rotate_left
                  ·
                   simp only [Act.put, List.setIfInBounds_toArray, List.set_cons_zero, List.set_cons_succ, i64_w, i32_w]
                   rfl
                  refine pure_ (i := 2) (N := some 62) (v := ?_) (a' := ?_) #[true, true, true, false, false, false, false, false, false, false, false, false, false, false, false, false, false, false, false, false, false, false, false, false] rfl rfl (any_of HT_.out (by kernel_rfl)) (fun _ _ _ h => h) (Or.inl ⟨by rfl, ?_⟩) ?_ ?_
                  rotate_left
                  ·
                   intro w'
                   go_simp
                   with_reducible rfl
                  rotate_left
                  ·
                   simp only [Act.put, List.setIfInBounds_toArray, List.set_cons_zero, List.set_cons_succ, i64_w, i32_w]
                   rfl
                  refine pure_ (i := 3) (N := some 63) (v := ?_) (a' := ?_) #[true, true, true, true, false, false, false, false, false, false, false, false, false, false, false, false, false, false, false, false, false, false, false, false] rfl rfl (any_of HT_.out (by kernel_rfl)) (fun _ _ _ h => h) (Or.inl ⟨by rfl, ?_⟩) ?_ ?_
                  rotate_left
                  ·
                   intro w'
                   go_simp
                   with_reducible rfl
                  rotate_left
                  ·
                   simp only [Act.put, List.setIfInBounds_toArray, List.set_cons_zero, List.set_cons_succ, i64_w, i32_w]
                   rfl
                  refine pure_ (i := 4) (N := some 64) (v := ?_) (a' := ?_) #[true, true, true, true, true, false, false, false, false, false, false, false, false, false, false, false, false, false, false, false, false, false, false, false] rfl rfl (any_of HT_.out (by kernel_rfl)) (fun _ _ _ h => h) (Or.inl ⟨by rfl, ?_⟩) ?_ ?_
                  rotate_left
                  ·
                   intro w'
                   go_simp
                   with_reducible rfl
                  rotate_left
                  ·
                   simp only [Act.put, List.setIfInBounds_toArray, List.set_cons_zero, List.set_cons_succ, i64_w, i32_w]
                   rfl
                  refine take_ (i := 5) (N := some 65) (v := ?_) (a' := ?_) #[true, true, true, true, true, true, false, false, false, false, false, false, false, false, false, false, false, false, false, false, false, false, false, false] rfl rfl (take_ofW HT_.out HW_.out (by kernel_rfl)) (fun _ _ _ h => h) (Or.inl ⟨by rfl, ?_⟩) hHeld ?_ ?_
                  rotate_left
                  ·
                   rintro w' ⟨s0, s1, s2, s3⟩
                   go_simp
                   with_reducible rfl
                  rotate_left
                  ·
                   simp only [Act.put, List.setIfInBounds_toArray, List.set_cons_zero, List.set_cons_succ, i64_w, i32_w]
                   rfl
                  refine pure_ (i := 6) (N := some 66) (v := ?_) (a' := ?_) #[true, true, true, true, true, true, true, false, false, false, false, false, false, false, false, false, false, false, false, false, false, false, false, false] rfl rfl (any_of HT_.out (by kernel_rfl)) (fun _ _ _ h => h) (Or.inl ⟨by rfl, ?_⟩) ?_ ?_
                  rotate_left
                  ·
                   intro w'
                   go_simp
                   with_reducible rfl
                  rotate_left
                  ·
                   simp only [Act.put, List.setIfInBounds_toArray, List.set_cons_zero, List.set_cons_succ, i64_w, i32_w]
                   rfl
                  refine pure_ (i := 7) (N := some 67) (v := ?_) (a' := ?_) #[true, true, true, true, true, true, true, true, false, false, false, false, false, false, false, false, false, false, false, false, false, false, false, false] rfl rfl (any_of HT_.out (by kernel_rfl)) (fun _ _ _ h => h) (Or.inl ⟨by rfl, ?_⟩) ?_ ?_
                  rotate_left
                  ·
                   intro w'
                   go_simp
                   with_reducible rfl
                  rotate_left
                  ·
                   simp only [Act.put, List.setIfInBounds_toArray, List.set_cons_zero, List.set_cons_succ, i64_w, i32_w]
                   rfl
                  refine pure_ (i := 8) (N := some 68) (v := ?_) (a' := ?_) #[true, true, true, true, true, true, true, true, true, false, false, false, false, false, false, false, false, false, false, false, false, false, false, false] rfl rfl (any_of HT_.out (by kernel_rfl)) (fun _ _ _ h => h) (Or.inl ⟨by rfl, ?_⟩) ?_ ?_
                  rotate_left
                  ·
                   intro w'
                   go_simp
                   with_reducible rfl
                  rotate_left
                  ·
                   simp only [Act.put, List.setIfInBounds_toArray, List.set_cons_zero, List.set_cons_succ, i64_w, i32_w]
                   rfl
                  refine pure_ (i := 9) (N := some 69) (v := ?_) (a' := ?_) #[true, true, true, true, true, true, true, true, true, true, false, false, false, false, false, false, false, false, false, false, false, false, false, false] rfl rfl (any_of HT_.out (by kernel_rfl)) (fun _ _ _ h => h) (Or.inl ⟨by rfl, ?_⟩) ?_ ?_
                  rotate_left
                  ·
                   intro w'
                   go_simp
                   with_reducible rfl
                  rotate_left
                  ·
                   simp only [Act.put, List.setIfInBounds_toArray, List.set_cons_zero, List.set_cons_succ, i64_w, i32_w]
                   rfl
                  refine pure_ (i := 10) (N := some 70) (v := ?_) (a' := ?_) #[true, true, true, true, true, true, true, true, true, true, true, false, false, false, false, false, false, false, false, false, false, false, false, false] rfl rfl (any_of HT_.out (by kernel_rfl)) (fun _ _ _ h => h) (Or.inl ⟨by rfl, ?_⟩) ?_ ?_
                  rotate_left
                  ·
                   intro w'
                   go_simp
                   with_reducible rfl
                  rotate_left
                  ·
                   simp only [Act.put, List.setIfInBounds_toArray, List.set_cons_zero, List.set_cons_succ, i64_w, i32_w]
                   rfl
                  refine pure_ (i := 11) (N := some 71) (v := ?_) (a' := ?_) #[true, true, true, true, true, true, true, true, true, true, true, true, false, false, false, false, false, false, false, false, false, false, false, false] rfl rfl (any_of HT_.out (by kernel_rfl)) (fun _ _ _ h => h) (Or.inl ⟨by rfl, ?_⟩) ?_ ?_
                  rotate_left
                  ·
                   intro w'
                   go_simp
                   with_reducible rfl
                  rotate_left
                  ·
                   simp only [Act.put, List.setIfInBounds_toArray, List.set_cons_zero, List.set_cons_succ, i64_w, i32_w]
                   rfl
                  refine pure_ (i := 12) (N := some 72) (v := undef) (a' := ?_) #[true, true, true, true, true, true, true, true, true, true, true, true, true, false, false, false, false, false, false, false, false, false, false, false] rfl rfl (any_of HT_.out (by kernel_rfl)) (fun _ _ _ h => h) (Or.inr ⟨by rfl, rfl⟩) ?_ ?_
                  rotate_left
                  ·
                   simp only [Act.put, List.setIfInBounds_toArray, List.set_cons_zero, List.set_cons_succ, i64_w, i32_w]
                   rfl
                  refine pure_ (i := 13) (N := some 73) (v := undef) (a' := ?_) #[true, true, true, true, true, true, true, true, true, true, true, true, true, true, false, false, false, false, false, false, false, false, false, false] rfl rfl (any_of HT_.out (by kernel_rfl)) (fun _ _ _ h => h) (Or.inr ⟨by rfl, rfl⟩) ?_ ?_
                  rotate_left
                  ·
                   simp only [Act.put, List.setIfInBounds_toArray, List.set_cons_zero, List.set_cons_succ, i64_w, i32_w]
                   rfl
                  refine pure_ (i := 14) (N := some 74) (v := undef) (a' := ?_) #[true, true, true, true, true, true, true, true, true, true, true, true, true, true, true, false, false, false, false, false, false, false, false, false] rfl rfl (any_of HT_.out (by kernel_rfl)) (fun _ _ _ h => h) (Or.inr ⟨by rfl, rfl⟩) ?_ ?_
                  rotate_left
                  ·
                   simp only [Act.put, List.setIfInBounds_toArray, List.set_cons_zero, List.set_cons_succ, i64_w, i32_w]
                   rfl
                  refine pure_ (i := 15) (N := some 75) (v := undef) (a' := ?_) #[true, true, true, true, true, true, true, true, true, true, true, true, true, true, true, true, false, false, false, false, false, false, false, false] rfl rfl (any_of HT_.out (by kernel_rfl)) (fun _ _ _ h => h) (Or.inr ⟨by rfl, rfl⟩) ?_ ?_
                  rotate_left
                  ·
                   simp only [Act.put, List.setIfInBounds_toArray, List.set_cons_zero, List.set_cons_succ, i64_w, i32_w]
                   rfl
                  refine pure_ (i := 16) (N := some 76) (v := undef) (a' := ?_) #[true, true, true, true, true, true, true, true, true, true, true, true, true, true, true, true, true, false, false, false, false, false, false, false] rfl rfl (any_of HT_.out (by kernel_rfl)) (fun _ _ _ h => h) (Or.inr ⟨by rfl, rfl⟩) ?_ ?_
                  rotate_left
                  ·
                   simp only [Act.put, List.setIfInBounds_toArray, List.set_cons_zero, List.set_cons_succ, i64_w, i32_w]
                   rfl
                  refine pure_ (i := 17) (N := some 77) (v := undef) (a' := ?_) #[true, true, true, true, true, true, true, true, true, true, true, true, true, true, true, true, true, true, false, false, false, false, false, false] rfl rfl (any_of HT_.out (by kernel_rfl)) (fun _ _ _ h => h) (Or.inr ⟨by rfl, rfl⟩) ?_ ?_
                  rotate_left
                  ·
                   simp only [Act.put, List.setIfInBounds_toArray, List.set_cons_zero, List.set_cons_succ, i64_w, i32_w]
                   rfl
                  refine pure_ (i := 18) (N := some 78) (v := undef) (a' := ?_) #[true, true, true, true, true, true, true, true, true, true, true, true, true, true, true, true, true, true, true, false, false, false, false, false] rfl rfl (any_of HT_.out (by kernel_rfl)) (fun _ _ _ h => h) (Or.inr ⟨by rfl, rfl⟩) ?_ ?_
                  rotate_left
                  ·
                   simp only [Act.put, List.setIfInBounds_toArray, List.set_cons_zero, List.set_cons_succ, i64_w, i32_w]
                   rfl
                  refine pure_ (i := 19) (N := some 79) (v := undef) (a' := ?_) #[true, true, true, true, true, true, true, true, true, true, true, true, true, true, true, true, true, true, true, true, false, false, false, false] rfl rfl (any_of HT_.out (by kernel_rfl)) (fun _ _ _ h => h) (Or.inr ⟨by rfl, rfl⟩) ?_ ?_
                  rotate_left
                  ·
                   simp only [Act.put, List.setIfInBounds_toArray, List.set_cons_zero, List.set_cons_succ, i64_w, i32_w]
                   rfl
                  refine pure_ (i := 20) (N := some 80) (v := undef) (a' := ?_) #[true, true, true, true, true, true, true, true, true, true, true, true, true, true, true, true, true, true, true, true, true, false, false, false] rfl rfl (any_of HT_.out (by kernel_rfl)) (fun _ _ _ h => h) (Or.inr ⟨by rfl, rfl⟩) ?_ ?_
                  rotate_left
                  ·
                   simp only [Act.put, List.setIfInBounds_toArray, List.set_cons_zero, List.set_cons_succ, i64_w, i32_w]
                   rfl
                  refine pure_ (i := 21) (N := some 81) (v := ?_) (a' := ?_) #[true, true, true, true, true, true, true, true, true, true, true, true, true, true, true, true, true, true, true, true, true, true, false, false] rfl rfl (any_of HT_.out (by kernel_rfl)) (fun _ _ _ h => h) (Or.inl ⟨by rfl, ?_⟩) ?_ ?_
                  rotate_left
                  ·
                   intro w'
                   go_simp
                   with_reducible rfl
                  rotate_left
                  ·
                   simp only [Act.put, List.setIfInBounds_toArray, List.set_cons_zero, List.set_cons_succ, i64_w, i32_w]
                   rfl
                  refine pure_ (i := 22) (N := some 82) (v := ?_) (a' := ?_) #[true, true, true, true, true, true, true, true, true, true, true, true, true, true, true, true, true, true, true, true, true, true, true, false] rfl rfl (any_of HT_.out (by kernel_rfl)) (fun _ _ _ h => h) (Or.inl ⟨by rfl, ?_⟩) ?_ ?_
                  rotate_left
                  ·
                   intro w'
                   go_simp
                   with_reducible rfl
                  rotate_left
                  ·
                   simp only [Act.put, List.setIfInBounds_toArray, List.set_cons_zero, List.set_cons_succ, i64_w, i32_w]
                   rfl
                  refine pure_ (i := 23) (N := some 59) (v := ?_) (a' := ?_) #[true, true, true, true, true, true, true, true, true, true, true, true, true, true, true, true, true, true, true, true, true, true, true, true] rfl rfl (any_of HT_.out (by kernel_rfl)) (fun _ _ _ h => h) (Or.inl ⟨by rfl, ?_⟩) ?_ ?_
                  rotate_left
                  ·
                   intro w'
                   go_simp
                   with_reducible rfl
                  rotate_left
                  ·
                   simp only [Act.put, List.setIfInBounds_toArray, List.set_cons_zero, List.set_cons_succ, i64_w, i32_w]
                   rfl
                  refine done_ (done_of HT_.out (by kernel_rfl)) ?_
                  try go_wp2
                  go_roundg kj21
                  case measure => have := HJ1.out;have := HK2.out;have := HJ21.out;omega
                  case rel => exact ⟨(wrap64 (x37_2 + 1)), (by first|rfl|(simp;done)|(simp [*];done)), H', ⟨by have := HJ1.out;have := HK2.out;have := HJ21.out;omega⟩, ⟨by (with_reducible repeat (first|refine blk_drewN ?_ _|refine blk_drew ?_|refine blk_alloc ?_ _));exact BK1106.out⟩, ⟨by repeat (first|(with_reducible first|exact HB.out|apply below_alloc|apply pw_below_drewN|apply below_drew1|refine below_set ?_ GE1106.out|refine below_set ?_ GE1111.out)|exact HB.out)⟩⟩
                ·
                 rw [if_neg c50] at H
                 have c50b0 : (((rd_T137 l0_3 x37_2).f3) == 0) = false := beq_eq_false_iff_ne.mpr c50
                 have c50b1 : (((rd_T137 l0_3 x37_2).f3) != 0) = true := bne_iff_ne.mpr c50
                 obtain rfl := Option.some.inj H
                 try go_wp2
                 have n0_ := Aside0.mk (blk_drew BK1106.out)
                 have n1_ := Aside0.mk (blk_drew BK1111.out)
                 have n2_ := Aside0.mk (below_drew1 HB.out)
                 clear BK1106
                 clear BK1111
                 clear HB
                 have BK1106 := n0_
                 have BK1111 := n1_
                 have HB := n2_
                 clear n0_ n1_ n2_
                 refine start_ (n := 24) (S := fun w' => w'.cell? ⟨gb1111, 0, none⟩ = some (.bool ((rd_T137 l0_3 x37_2).f0)) ∧ w'.cell? ⟨gb1111, 1, none⟩ = some (.int .i64 ((rd_T137 l0_3 x37_2).f1)) ∧ w'.cell? ⟨gb1111, 2, none⟩ = some (.int .i64 ((rd_T137 l0_3 x37_2).f2)) ∧ w'.cell? ⟨gb1111, 3, none⟩ = some (.int .i64 ((rd_T137 l0_3 x37_2).f3))) (ds := []) #[false, false, false, false, false, false, false, false, false, false, false, false, false, false, false, false, false, false, false, false, false, false, false, false] (by kernel_rfl) rfl rfl ⟨(blk_cell BK1111.out 0).trans rfl, (blk_cell BK1111.out 1).trans rfl, (blk_cell BK1111.out 2).trans rfl, (blk_cell BK1111.out 3).trans rfl⟩ (fun hHeld => ?_);refine with_tabW impl_DeltaFault.tab13 impl_DeltaFault.bits13 (fun HT_ HW_ => ?_)
                 generalize wc.drew = w62 at BK1106 BK1111 HB hHeld ⊢
                 refine pure_ (i := 0) (N := some 60) (v := ?_) (a' := ?_) #[true, false, false, false, false, false, false, false, false, false, false, false, false, false, false, false, false, false, false, false, false, false, false, false] rfl rfl (any_of HT_.out (by kernel_rfl)) (fun _ _ _ h => h) (Or.inl ⟨by rfl, ?_⟩) ?_ ?_
                 rotate_left
                 ·
                  intro w'
                  go_simp
                  with_reducible rfl
                 rotate_left
                 ·
                  simp only [Act.put, List.setIfInBounds_toArray, List.set_cons_zero, List.set_cons_succ, i64_w, i32_w]
                  rfl
                 refine take_ (i := 1) (N := some 61) (v := ?_) (a' := ?_) #[true, true, false, false, false, false, false, false, false, false, false, false, false, false, false, false, false, false, false, false, false, false, false, false] rfl rfl (take_ofW HT_.out HW_.out (by kernel_rfl)) (fun _ _ _ h => h) (Or.inl ⟨by rfl, ?_⟩) hHeld ?_ ?_
                 rotate_left
                 ·
                  rintro w' ⟨s0, s1, s2, s3⟩
                  go_simp
                  with_reducible rfl
                 rotate_left
                 ·
                  simp only [Act.put, List.setIfInBounds_toArray, List.set_cons_zero, List.set_cons_succ, i64_w, i32_w]
                  rfl
                 refine pure_ (i := 2) (N := some 62) (v := ?_) (a' := ?_) #[true, true, true, false, false, false, false, false, false, false, false, false, false, false, false, false, false, false, false, false, false, false, false, false] rfl rfl (any_of HT_.out (by kernel_rfl)) (fun _ _ _ h => h) (Or.inl ⟨by rfl, ?_⟩) ?_ ?_
                 rotate_left
                 ·
                  intro w'
                  go_simp
                  with_reducible rfl
                 rotate_left
                 ·
                  simp only [Act.put, List.setIfInBounds_toArray, List.set_cons_zero, List.set_cons_succ, i64_w, i32_w]
                  rfl
                 refine pure_ (i := 3) (N := some 63) (v := ?_) (a' := ?_) #[true, true, true, true, false, false, false, false, false, false, false, false, false, false, false, false, false, false, false, false, false, false, false, false] rfl rfl (any_of HT_.out (by kernel_rfl)) (fun _ _ _ h => h) (Or.inl ⟨by rfl, ?_⟩) ?_ ?_
                 rotate_left
                 ·
                  intro w'
                  go_simp
                  with_reducible rfl
                 rotate_left
                 ·
                  simp only [Act.put, List.setIfInBounds_toArray, List.set_cons_zero, List.set_cons_succ, i64_w, i32_w]
                  rfl
                 refine pure_ (i := 4) (N := some 64) (v := ?_) (a' := ?_) #[true, true, true, true, true, false, false, false, false, false, false, false, false, false, false, false, false, false, false, false, false, false, false, false] rfl rfl (any_of HT_.out (by kernel_rfl)) (fun _ _ _ h => h) (Or.inl ⟨by rfl, ?_⟩) ?_ ?_
                 rotate_left
                 ·
                  intro w'
                  go_simp
                  with_reducible rfl
                 rotate_left
                 ·
                  simp only [Act.put, List.setIfInBounds_toArray, List.set_cons_zero, List.set_cons_succ, i64_w, i32_w]
                  rfl
                 refine take_ (i := 5) (N := some 65) (v := ?_) (a' := ?_) #[true, true, true, true, true, true, false, false, false, false, false, false, false, false, false, false, false, false, false, false, false, false, false, false] rfl rfl (take_ofW HT_.out HW_.out (by kernel_rfl)) (fun _ _ _ h => h) (Or.inl ⟨by rfl, ?_⟩) hHeld ?_ ?_
                 rotate_left
                 ·
                  rintro w' ⟨s0, s1, s2, s3⟩
                  go_simp
                  with_reducible rfl
                 rotate_left
                 ·
                  simp only [Act.put, List.setIfInBounds_toArray, List.set_cons_zero, List.set_cons_succ, i64_w, i32_w]
                  rfl
                 refine pure_ (i := 6) (N := some 66) (v := ?_) (a' := ?_) #[true, true, true, true, true, true, true, false, false, false, false, false, false, false, false, false, false, false, false, false, false, false, false, false] rfl rfl (any_of HT_.out (by kernel_rfl)) (fun _ _ _ h => h) (Or.inl ⟨by rfl, ?_⟩) ?_ ?_
                 rotate_left
                 ·
                  intro w'
                  go_simp
                  with_reducible rfl
                 rotate_left
                 ·
                  simp only [Act.put, List.setIfInBounds_toArray, List.set_cons_zero, List.set_cons_succ, i64_w, i32_w]
                  rfl
                 refine pure_ (i := 7) (N := some 67) (v := ?_) (a' := ?_) #[true, true, true, true, true, true, true, true, false, false, false, false, false, false, false, false, false, false, false, false, false, false, false, false] rfl rfl (any_of HT_.out (by kernel_rfl)) (fun _ _ _ h => h) (Or.inl ⟨by rfl, ?_⟩) ?_ ?_
                 rotate_left
                 ·
                  intro w'
                  go_simp
                  with_reducible rfl
                 rotate_left
                 ·
                  simp only [Act.put, List.setIfInBounds_toArray, List.set_cons_zero, List.set_cons_succ, i64_w, i32_w]
                  rfl
                 refine pure_ (i := 8) (N := some 68) (v := ?_) (a' := ?_) #[true, true, true, true, true, true, true, true, true, false, false, false, false, false, false, false, false, false, false, false, false, false, false, false] rfl rfl (any_of HT_.out (by kernel_rfl)) (fun _ _ _ h => h) (Or.inl ⟨by rfl, ?_⟩) ?_ ?_
                 rotate_left
                 ·
                  intro w'
                  go_simp
                  with_reducible rfl
                 rotate_left
                 ·
                  simp only [Act.put, List.setIfInBounds_toArray, List.set_cons_zero, List.set_cons_succ, i64_w, i32_w]
                  rfl
                 refine pure_ (i := 9) (N := some 69) (v := undef) (a' := ?_) #[true, true, true, true, true, true, true, true, true, true, false, false, false, false, false, false, false, false, false, false, false, false, false, false] rfl rfl (any_of HT_.out (by kernel_rfl)) (fun _ _ _ h => h) (Or.inr ⟨by rfl, rfl⟩) ?_ ?_
                 rotate_left
                 ·
                  simp only [Act.put, List.setIfInBounds_toArray, List.set_cons_zero, List.set_cons_succ, i64_w, i32_w]
                  rfl
                 refine pure_ (i := 10) (N := some 70) (v := undef) (a' := ?_) #[true, true, true, true, true, true, true, true, true, true, true, false, false, false, false, false, false, false, false, false, false, false, false, false] rfl rfl (any_of HT_.out (by kernel_rfl)) (fun _ _ _ h => h) (Or.inr ⟨by rfl, rfl⟩) ?_ ?_
                 rotate_left
                 ·
                  simp only [Act.put, List.setIfInBounds_toArray, List.set_cons_zero, List.set_cons_succ, i64_w, i32_w]
                  rfl
                 refine pure_ (i := 11) (N := some 71) (v := undef) (a' := ?_) #[true, true, true, true, true, true, true, true, true, true, true, true, false, false, false, false, false, false, false, false, false, false, false, false] rfl rfl (any_of HT_.out (by kernel_rfl)) (fun _ _ _ h => h) (Or.inr ⟨by rfl, rfl⟩) ?_ ?_
                 rotate_left
                 ·
                  simp only [Act.put, List.setIfInBounds_toArray, List.set_cons_zero, List.set_cons_succ, i64_w, i32_w]
                  rfl
                 refine pure_ (i := 12) (N := some 72) (v := undef) (a' := ?_) #[true, true, true, true, true, true, true, true, true, true, true, true, true, false, false, false, false, false, false, false, false, false, false, false] rfl rfl (any_of HT_.out (by kernel_rfl)) (fun _ _ _ h => h) (Or.inr ⟨by rfl, rfl⟩) ?_ ?_
                 rotate_left
                 ·
                  simp only [Act.put, List.setIfInBounds_toArray, List.set_cons_zero, List.set_cons_succ, i64_w, i32_w]
                  rfl
                 refine pure_ (i := 13) (N := some 73) (v := undef) (a' := ?_) #[true, true, true, true, true, true, true, true, true, true, true, true, true, true, false, false, false, false, false, false, false, false, false, false] rfl rfl (any_of HT_.out (by kernel_rfl)) (fun _ _ _ h => h) (Or.inr ⟨by rfl, rfl⟩) ?_ ?_
                 rotate_left
                 ·
                  simp only [Act.put, List.setIfInBounds_toArray, List.set_cons_zero, List.set_cons_succ, i64_w, i32_w]
                  rfl
                 refine pure_ (i := 14) (N := some 74) (v := undef) (a' := ?_) #[true, true, true, true, true, true, true, true, true, true, true, true, true, true, true, false, false, false, false, false, false, false, false, false] rfl rfl (any_of HT_.out (by kernel_rfl)) (fun _ _ _ h => h) (Or.inr ⟨by rfl, rfl⟩) ?_ ?_
                 rotate_left
                 ·
                  simp only [Act.put, List.setIfInBounds_toArray, List.set_cons_zero, List.set_cons_succ, i64_w, i32_w]
                  rfl
                 refine pure_ (i := 15) (N := some 75) (v := undef) (a' := ?_) #[true, true, true, true, true, true, true, true, true, true, true, true, true, true, true, true, false, false, false, false, false, false, false, false] rfl rfl (any_of HT_.out (by kernel_rfl)) (fun _ _ _ h => h) (Or.inr ⟨by rfl, rfl⟩) ?_ ?_
                 rotate_left
                 ·
                  simp only [Act.put, List.setIfInBounds_toArray, List.set_cons_zero, List.set_cons_succ, i64_w, i32_w]
                  rfl
                 refine pure_ (i := 16) (N := some 76) (v := undef) (a' := ?_) #[true, true, true, true, true, true, true, true, true, true, true, true, true, true, true, true, true, false, false, false, false, false, false, false] rfl rfl (any_of HT_.out (by kernel_rfl)) (fun _ _ _ h => h) (Or.inr ⟨by rfl, rfl⟩) ?_ ?_
                 rotate_left
                 ·
                  simp only [Act.put, List.setIfInBounds_toArray, List.set_cons_zero, List.set_cons_succ, i64_w, i32_w]
                  rfl
                 refine pure_ (i := 17) (N := some 77) (v := undef) (a' := ?_) #[true, true, true, true, true, true, true, true, true, true, true, true, true, true, true, true, true, true, false, false, false, false, false, false] rfl rfl (any_of HT_.out (by kernel_rfl)) (fun _ _ _ h => h) (Or.inr ⟨by rfl, rfl⟩) ?_ ?_
                 rotate_left
                 ·
                  simp only [Act.put, List.setIfInBounds_toArray, List.set_cons_zero, List.set_cons_succ, i64_w, i32_w]
                  rfl
                 refine pure_ (i := 18) (N := some 78) (v := undef) (a' := ?_) #[true, true, true, true, true, true, true, true, true, true, true, true, true, true, true, true, true, true, true, false, false, false, false, false] rfl rfl (any_of HT_.out (by kernel_rfl)) (fun _ _ _ h => h) (Or.inr ⟨by rfl, rfl⟩) ?_ ?_
                 rotate_left
                 ·
                  simp only [Act.put, List.setIfInBounds_toArray, List.set_cons_zero, List.set_cons_succ, i64_w, i32_w]
                  rfl
                 refine pure_ (i := 19) (N := some 79) (v := undef) (a' := ?_) #[true, true, true, true, true, true, true, true, true, true, true, true, true, true, true, true, true, true, true, true, false, false, false, false] rfl rfl (any_of HT_.out (by kernel_rfl)) (fun _ _ _ h => h) (Or.inr ⟨by rfl, rfl⟩) ?_ ?_
                 rotate_left
                 ·
                  simp only [Act.put, List.setIfInBounds_toArray, List.set_cons_zero, List.set_cons_succ, i64_w, i32_w]
                  rfl
                 refine pure_ (i := 20) (N := some 80) (v := undef) (a' := ?_) #[true, true, true, true, true, true, true, true, true, true, true, true, true, true, true, true, true, true, true, true, true, false, false, false] rfl rfl (any_of HT_.out (by kernel_rfl)) (fun _ _ _ h => h) (Or.inr ⟨by rfl, rfl⟩) ?_ ?_
                 rotate_left
                 ·
                  simp only [Act.put, List.setIfInBounds_toArray, List.set_cons_zero, List.set_cons_succ, i64_w, i32_w]
                  rfl
                 refine pure_ (i := 21) (N := some 81) (v := undef) (a' := ?_) #[true, true, true, true, true, true, true, true, true, true, true, true, true, true, true, true, true, true, true, true, true, true, false, false] rfl rfl (any_of HT_.out (by kernel_rfl)) (fun _ _ _ h => h) (Or.inr ⟨by rfl, rfl⟩) ?_ ?_
                 rotate_left
                 ·
                  simp only [Act.put, List.setIfInBounds_toArray, List.set_cons_zero, List.set_cons_succ, i64_w, i32_w]
                  rfl
                 refine pure_ (i := 22) (N := some 82) (v := ?_) (a' := ?_) #[true, true, true, true, true, true, true, true, true, true, true, true, true, true, true, true, true, true, true, true, true, true, true, false] rfl rfl (any_of HT_.out (by kernel_rfl)) (fun _ _ _ h => h) (Or.inl ⟨by rfl, ?_⟩) ?_ ?_
                 rotate_left
                 ·
                  intro w'
                  go_simp
                  with_reducible rfl
                 rotate_left
                 ·
                  simp only [Act.put, List.setIfInBounds_toArray, List.set_cons_zero, List.set_cons_succ, i64_w, i32_w]
                  rfl
                 refine pure_ (i := 23) (N := some 59) (v := ?_) (a' := ?_) #[true, true, true, true, true, true, true, true, true, true, true, true, true, true, true, true, true, true, true, true, true, true, true, true] rfl rfl (any_of HT_.out (by kernel_rfl)) (fun _ _ _ h => h) (Or.inl ⟨by rfl, ?_⟩) ?_ ?_
                 rotate_left
                 ·
                  intro w'
                  go_simp
                  with_reducible rfl
                 rotate_left
                 ·
                  simp only [Act.put, List.setIfInBounds_toArray, List.set_cons_zero, List.set_cons_succ, i64_w, i32_w]
                  rfl
                 refine done_ (done_of HT_.out (by kernel_rfl)) ?_
                 try go_wp2
                 go_ret
                 exact ⟨by first|rfl|(simp [errW_none, errW_some] <;> rfl)|(simp [*, errW_none, errW_some] <;> rfl), by repeat (first|(with_reducible first|exact HB.out|apply below_alloc|apply pw_below_drewN|apply below_drew1|refine below_set ?_ GE1106.out|refine below_set ?_ GE1111.out)|exact HB.out)⟩
           ·
            rw [if_neg c21] at H
            exact absurd H (by simp)
          ·
           rw [if_neg c20] at H
           exact absurd H (by simp)
         ·
          rw [if_neg c19] at H
          have c19b0 : decide (x37_2 < (l0_3.length : Int)) = false := decide_eq_false c19
          clear c19
          obtain rfl := Option.some.inj H
          go_wp2
          go_ret
          exact ⟨by first|rfl|(simp [errW_none, errW_some] <;> rfl)|(simp [*, errW_none, errW_some] <;> rfl), by repeat (first|(with_reducible first|exact HB.out|apply below_alloc|apply pw_below_drewN|apply below_drew1|refine below_set ?_ GE1106.out)|exact HB.out)⟩
      ·
       rw [if_neg c15] at H
       have c15b0 : (t1109 == 0) = false := beq_eq_false_iff_ne.mpr c15
       have c15b1 : (t1109 != 0) = true := bne_iff_ne.mpr c15
       obtain rfl := Option.some.inj H
       have hcz63_0 : wc.cell? ⟨gb1106, 0, none⟩ = some (.int .i64 a0_0) := (blk_cell BK1106.out 0).trans rfl
       have hcz63_1 : wc.cell? ⟨gb1106, 1, none⟩ = some (.int .i64 a0_1) := (blk_cell BK1106.out 1).trans rfl
       have hcz63_2 : wc.cell? ⟨gb1106, 2, none⟩ = some (.slice A0_2 l0_2.length c0_2) := (blk_cell BK1106.out 2).trans rfl
       have hcz63_3 : wc.cell? ⟨gb1106, 3, none⟩ = some (.slice A0_3 l0_3.length c0_3) := (blk_cell BK1106.out 3).trans rfl
       have hfz63_0 := blk_frozen BK1106.out 0
       have hfz63_1 := blk_frozen BK1106.out 1
       have hfz63_2 := blk_frozen BK1106.out 2
       have hfz63_3 := blk_frozen BK1106.out 3
       go_wp2_with (first|((with_reducible refine gate_callee (f := 92) rfl ?_);refine goesL_ (some 30) rfl rfl Try.func92 (by kernel_rfl) rfl #[.slice A0_2 l0_2.length c0_2] rfl (by (try simp only [List.map_toArray, List.map_cons, List.map_nil]);first|done|rfl|(simp only [List.length_drop, List.length_take];rfl)) ?_;(with_reducible refine (impl_volsFault.calls kj1 _ _ l0_2 t1109 _ ?side1 ?side2 A14.out).mono ?_);(case side1 => repeat (first|exact (Kd.C_below HR0_2.out HB.out)|(with_reducible refine Kd.C_alloc ?_ _)|(with_reducible refine Kd.C_drewN ?_ _)|(with_reducible refine Kd.C_drew ?_)));(case side2 => exact HC0_2.out);rintro e w64 ⟨rfl, hb⟩;refine ⟨_, rfl, ?_⟩;have n0_ := Aside0.mk (blk_below (g := gb1106) (o := .cells #[.int .i64 a0_0, .int .i64 a0_1, .slice A0_2 l0_2.length c0_2, .slice A0_3 l0_3.length c0_3] 84 (0, 0)) (by (with_reducible repeat (first|refine blk_drewN ?_ _|refine blk_drew ?_|refine blk_alloc ?_ _));exact BK1106.out) hb);have n1_ := Aside0.mk (below_step (by repeat (first|(with_reducible first|exact HB.out|apply below_alloc|apply pw_below_drewN|apply below_drew1|refine below_set ?_ GE1106.out)|exact HB.out)) hb);clear BK1106;clear HB;have BK1106 := n0_;have HB := n1_;clear n0_ n1_;(try clear hb);(try clear hb2);(try clear hk);(try clear hi)))
       go_ret
       exact ⟨by first|rfl|(simp [errW_none, errW_some] <;> rfl)|(simp [*, errW_none, errW_some] <;> rfl), by repeat (first|(with_reducible first|exact HB.out|apply below_alloc|apply pw_below_drewN|apply below_drew1|refine below_set ?_ GE1106.out)|exact HB.out)⟩

end Go.Proofs.Ytflddpkmajoeaaa.PP
