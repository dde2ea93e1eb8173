-- Laid by a program of this session's (wip/xprint.py) over the kit's print. Nothing in it is trusted: Lean checks it.
import Derived.Test.YtflddpkmajoeaaaPPx0
import Derived.Test.YtflddpkmajoeaaaPPx4
import Derived.Test.YtflddpkmajoeaaaPPx71
import Derived.Test.YtflddpkmajoeaaaPPx72
import Derived.Test.YtflddpkmajoeaaaPPx134
import Derived.Test.YtflddpkmajoeaaaPPx135
import Derived.Test.YtflddpkmajoeaaaPPx163
namespace Go.Proofs.Ytflddpkmajoeaaa.PP
open Go.RowKit Go.Proofs.YtflddpkmajoeaaaW.PrintWords Go.Proofs.YtflddpkmajoeaaaW.PrintLast Go.Proofs.YtflddpkmajoeaaaW.PrintMore
set_option maxHeartbeats 8000000
set_option maxRecDepth 100000
attribute [local go_sem] max2_int min2_int max_two min_two max_three min_three max_four min_four   -- for this text's walks alone
set_option linter.unusedVariables false
set_option linter.unusedSimpArgs false

/-! ### spec_DeltaFault: function 49 -/
mutual
def spec_DeltaFault.j0 : Nat → Bool → Int → Int → List (S93) → List (S137) → Option (Int)
 | 0, _, _, _, _, _ => none
 | k + 1, x16, x1061000, x1061001, x1061002, x1061003 => if x16 = true then (some 3) else (if (x1061002.length : Int) > 6 then (spec_DeltaFault.j1 k true x1061000 x1061001 x1061002 x1061003) else (spec_DeltaFault.j1 k (decide ((x1061003.length : Int) > 120)) x1061000 x1061001 x1061002 x1061003))
def spec_DeltaFault.j1 : Nat → Bool → Int → Int → List (S93) → List (S137) → Option (Int)
 | 0, _, _, _, _, _ => none
 | k + 1, x26, x1061000, x1061001, x1061002, x1061003 => if x26 = true then (some 2) else ((spec_l6Vols.f k (⟨0, x1061002, ([] : List (S95)), ([] : List Int)⟩ : S41)).bind fun t1064 => (if t1064 = 0 then (spec_DeltaFault.l0 k 0 x1061000 x1061001 x1061002 x1061003) else (some t1064)))
def spec_DeltaFault.l0 : Nat → Int → Int → Int → List (S93) → List (S137) → Option (Int)
 | 0, _, _, _, _, _ => none
 | k + 1, x5, x1061000, x1061001, x1061002, x1061003 => if x5 < (x1061003.length : Int) then (if 0 ≤ x5 then ((spec_l5Id.f ((rd_T137 x1061003 x5).f1)).bind fun t1067 => (if t1067 = true then ((spec_l4Place.f ((rd_T137 x1061003 x5).f2)).bind fun t1068 => (if t1068 = true then ((spec_l3Data.f ((rd_T137 x1061003 x5).f3)).bind fun t1069 => (spec_DeltaFault.j3 k x5 (!t1069) x1061000 x1061001 x1061002 x1061003 ((rd_T137 x1061003 x5).f0) ((rd_T137 x1061003 x5).f1) ((rd_T137 x1061003 x5).f2) ((rd_T137 x1061003 x5).f3))) else (spec_DeltaFault.j3 k x5 true x1061000 x1061001 x1061002 x1061003 ((rd_T137 x1061003 x5).f0) ((rd_T137 x1061003 x5).f1) ((rd_T137 x1061003 x5).f2) ((rd_T137 x1061003 x5).f3)))) else (spec_DeltaFault.j3 k x5 true x1061000 x1061001 x1061002 x1061003 ((rd_T137 x1061003 x5).f0) ((rd_T137 x1061003 x5).f1) ((rd_T137 x1061003 x5).f2) ((rd_T137 x1061003 x5).f3)))) else (none)) else (some 0)
def spec_DeltaFault.j3 : Nat → Int → Bool → Int → Int → List (S93) → List (S137) → Bool → Int → Int → Int → Option (Int)
 | 0, _, _, _, _, _, _, _, _, _, _ => none
 | k + 1, x5, x61, x1061000, x1061001, x1061002, x1061003, x1067000, x1067001, x1067002, x1067003 => if x61 = true then (some 3) else (if x1067000 = true then (if x5 > 0 then (if 0 ≤ (wrap64 (x5 - 1)) then (if (wrap64 (x5 - 1)) < (x1061003.length : Int) then ((spec_l7Ahead.f ((rd_T137 x1061003 (wrap64 (x5 - 1))).f0) ((rd_T137 x1061003 (wrap64 (x5 - 1))).f1) ((rd_T137 x1061003 (wrap64 (x5 - 1))).f2) ((rd_T137 x1061003 (wrap64 (x5 - 1))).f3) x1067000 x1067001 x1067002 x1067003).bind fun t1071 => (if t1071 = true then (spec_DeltaFault.l0 k (wrap64 (x5 + 1)) x1061000 x1061001 x1061002 x1061003) else (some 1))) else (none)) else (none)) else (spec_DeltaFault.l0 k (wrap64 (x5 + 1)) x1061000 x1061001 x1061002 x1061003)) else (if x1067003 = 0 then (if x5 > 0 then (if 0 ≤ (wrap64 (x5 - 1)) then (if (wrap64 (x5 - 1)) < (x1061003.length : Int) then ((spec_l7Ahead.f ((rd_T137 x1061003 (wrap64 (x5 - 1))).f0) ((rd_T137 x1061003 (wrap64 (x5 - 1))).f1) ((rd_T137 x1061003 (wrap64 (x5 - 1))).f2) ((rd_T137 x1061003 (wrap64 (x5 - 1))).f3) x1067000 x1067001 x1067002 x1067003).bind fun t1073 => (if t1073 = true then (spec_DeltaFault.l0 k (wrap64 (x5 + 1)) x1061000 x1061001 x1061002 x1061003) else (some 1))) else (none)) else (none)) else (spec_DeltaFault.l0 k (wrap64 (x5 + 1)) x1061000 x1061001 x1061002 x1061003)) else (some 1)))
end
def spec_DeltaFault.f (k : Nat) (a0_0 : Int) (a0_1 : Int) (l0_2 : List (S93)) (l0_3 : List (S137)) : Option (Int) := (spec_l1In.f a0_0 0 65520).bind fun t1061 => (if t1061 = true then ((spec_l1In.f a0_1 0 65520).bind fun t1062 => (spec_DeltaFault.j0 k (!t1062) a0_0 a0_1 l0_2 l0_3)) else (spec_DeltaFault.j0 k true a0_0 a0_1 l0_2 l0_3))
theorem spec_DeltaFault.mono_l : ∀ k, (∀ y0 y1 y2 y3 y4, LeO (spec_DeltaFault.j0 k y0 y1 y2 y3 y4) (spec_DeltaFault.j0 (k + 1) y0 y1 y2 y3 y4)) ∧ (∀ y0 y1 y2 y3 y4, LeO (spec_DeltaFault.j1 k y0 y1 y2 y3 y4) (spec_DeltaFault.j1 (k + 1) y0 y1 y2 y3 y4)) ∧ (∀ y0 y1 y2 y3 y4, LeO (spec_DeltaFault.l0 k y0 y1 y2 y3 y4) (spec_DeltaFault.l0 (k + 1) y0 y1 y2 y3 y4)) ∧ (∀ y0 y1 y2 y3 y4 y5 y6 y7 y8 y9, LeO (spec_DeltaFault.j3 k y0 y1 y2 y3 y4 y5 y6 y7 y8 y9) (spec_DeltaFault.j3 (k + 1) y0 y1 y2 y3 y4 y5 y6 y7 y8 y9))
 | 0 => ⟨fun _ _ _ _ _ r h => by simp [spec_DeltaFault.j0] at h, fun _ _ _ _ _ r h => by simp [spec_DeltaFault.j1] at h, fun _ _ _ _ _ r h => by simp [spec_DeltaFault.l0] at h, fun _ _ _ _ _ _ _ _ _ _ r h => by simp [spec_DeltaFault.j3] at h⟩
 | k + 1 => by
  obtain ⟨ih0, ih1, ih2, ih3⟩ := spec_DeltaFault.mono_l k
  refine ⟨?_, ?_, ?_, ?_⟩
  ·
   intro y0 y1 y2 y3 y4
   unfold spec_DeltaFault.j0
   repeat' first
   | (with_reducible exact ih0 _ _ _ _ _)
   | (with_reducible exact ih1 _ _ _ _ _)
   | (with_reducible exact ih2 _ _ _ _ _)
   | (with_reducible exact ih3 _ _ _ _ _ _ _ _ _ _)
   | (with_reducible exact spec_l6Vols.mono _ _)
   | (with_reducible exact LeO.refl _)
   | (with_reducible exact LeO.none _)
   | (with_reducible refine LeO.ite ?_ ?_)
   | (with_reducible refine LeO.bind ?_ (fun _ => ?_))
   | exact ih0 _ _ _ _ _
   | exact ih1 _ _ _ _ _
   | exact ih2 _ _ _ _ _
   | exact ih3 _ _ _ _ _ _ _ _ _ _
   | exact spec_l6Vols.mono _ _
   | exact LeO.none _
   | refine LeO.ite ?_ ?_
   | refine LeO.bind ?_ (fun _ => ?_)
  ·
   intro y0 y1 y2 y3 y4
   unfold spec_DeltaFault.j1
   repeat' first
   | (with_reducible exact ih0 _ _ _ _ _)
   | (with_reducible exact ih1 _ _ _ _ _)
   | (with_reducible exact ih2 _ _ _ _ _)
   | (with_reducible exact ih3 _ _ _ _ _ _ _ _ _ _)
   | (with_reducible exact spec_l6Vols.mono _ _)
   | (with_reducible exact LeO.refl _)
   | (with_reducible exact LeO.none _)
   | (with_reducible refine LeO.ite ?_ ?_)
   | (with_reducible refine LeO.bind ?_ (fun _ => ?_))
   | exact ih0 _ _ _ _ _
   | exact ih1 _ _ _ _ _
   | exact ih2 _ _ _ _ _
   | exact ih3 _ _ _ _ _ _ _ _ _ _
   | exact spec_l6Vols.mono _ _
   | exact LeO.none _
   | refine LeO.ite ?_ ?_
   | refine LeO.bind ?_ (fun _ => ?_)
  ·
   intro y0 y1 y2 y3 y4
   unfold spec_DeltaFault.l0
   repeat' first
   | (with_reducible exact ih0 _ _ _ _ _)
   | (with_reducible exact ih1 _ _ _ _ _)
   | (with_reducible exact ih2 _ _ _ _ _)
   | (with_reducible exact ih3 _ _ _ _ _ _ _ _ _ _)
   | (with_reducible exact spec_l6Vols.mono _ _)
   | (with_reducible exact LeO.refl _)
   | (with_reducible exact LeO.none _)
   | (with_reducible refine LeO.ite ?_ ?_)
   | (with_reducible refine LeO.bind ?_ (fun _ => ?_))
   | exact ih0 _ _ _ _ _
   | exact ih1 _ _ _ _ _
   | exact ih2 _ _ _ _ _
   | exact ih3 _ _ _ _ _ _ _ _ _ _
   | exact spec_l6Vols.mono _ _
   | exact LeO.none _
   | refine LeO.ite ?_ ?_
   | refine LeO.bind ?_ (fun _ => ?_)
  ·
   intro y0 y1 y2 y3 y4 y5 y6 y7 y8 y9
   unfold spec_DeltaFault.j3
   repeat' first
   | (with_reducible exact ih0 _ _ _ _ _)
   | (with_reducible exact ih1 _ _ _ _ _)
   | (with_reducible exact ih2 _ _ _ _ _)
   | (with_reducible exact ih3 _ _ _ _ _ _ _ _ _ _)
   | (with_reducible exact spec_l6Vols.mono _ _)
   | (with_reducible exact LeO.refl _)
   | (with_reducible exact LeO.none _)
   | (with_reducible refine LeO.ite ?_ ?_)
   | (with_reducible refine LeO.bind ?_ (fun _ => ?_))
   | exact ih0 _ _ _ _ _
   | exact ih1 _ _ _ _ _
   | exact ih2 _ _ _ _ _
   | exact ih3 _ _ _ _ _ _ _ _ _ _
   | exact spec_l6Vols.mono _ _
   | exact LeO.none _
   | refine LeO.ite ?_ ?_
   | refine LeO.bind ?_ (fun _ => ?_)
theorem spec_DeltaFault.mono : ∀ a0 a1 a2 a3 k, LeO (spec_DeltaFault.f k a0 a1 a2 a3) (spec_DeltaFault.f (k + 1) a0 a1 a2 a3) := by
 intro a0 a1 a2 a3 k
 obtain ⟨ih0, ih1, ih2, ih3⟩ := spec_DeltaFault.mono_l k
 unfold spec_DeltaFault.f
 repeat' first
   | (with_reducible exact ih0 _ _ _ _ _)
   | (with_reducible exact ih1 _ _ _ _ _)
   | (with_reducible exact ih2 _ _ _ _ _)
   | (with_reducible exact ih3 _ _ _ _ _ _ _ _ _ _)
   | (with_reducible exact spec_l6Vols.mono _ _)
   | (with_reducible exact LeO.refl _)
   | (with_reducible exact LeO.none _)
   | (with_reducible refine LeO.ite ?_ ?_)
   | (with_reducible refine LeO.bind ?_ (fun _ => ?_))
   | exact ih0 _ _ _ _ _
   | exact ih1 _ _ _ _ _
   | exact ih2 _ _ _ _ _
   | exact ih3 _ _ _ _ _ _ _ _ _ _
   | exact spec_l6Vols.mono _ _
   | exact LeO.none _
   | refine LeO.ite ?_ ?_
   | refine LeO.bind ?_ (fun _ => ?_)
def spec_DeltaFault.T15 : Bool × List (List Nat × List Nat) := (true, [([], []), ([0], [0]), ([1], [1]), ([2], [2]), ([3], [3]), ([4, 3], [3, 4]), ([5, 3], [3, 5]), ([3, 6], [3, 6]), ([7, 3], [7]), ([8], [8]), ([9, 8], [8, 9]), ([10, 8, 8], [8, 10]), ([11], [11]), ([12, 11], [11, 12]), ([11], [11]), ([14, 11], [11, 14]), ([13, 15, 11], [11, 13, 15]), ([16, 11], [11, 16]), ([11], [11]), ([17, 18, 11, 11], [11, 17, 18]), ([19, 11], [11, 19]), ([11, 20, 8], [8, 11, 20]), ([8, 21], [8, 21])])
def spec_DeltaFault.B15 : List Nat := [0, 1, 3, 7, 15, 31, 63, 127, 255, 511, 1023, 2047, 4095, 8191, 4095, 20479, 65535, 131071, 4095, 524287, 1048575, 2097151, 4194303]
theorem spec_DeltaFault.tab15 : rtab .any (opsOf Try.f49 15) = spec_DeltaFault.T15 := by kernel_rfl
theorem spec_DeltaFault.bits15 : waitsOk spec_DeltaFault.T15.2 spec_DeltaFault.B15 = true := by kernel_rfl
theorem spec_DeltaFault.calls (k : Nat) (a0_0 : Int) (a0_1 : Int) (A0_2 : Option Addr) (c0_2 : Nat) (l0_2 : List (S93)) (A0_3 : Option Addr) (c0_3 : Nat) (l0_3 : List (S137)) (r : Int) (w : World) (hr0_2 : Kd.C k93 w A0_2 l0_2.length l0_2) (hc0_2 : l0_2.length ≤ c0_2) (hr0_3 : Kd.C k137 w A0_3 l0_3.length l0_3) (hc0_3 : l0_3.length ≤ c0_3) (h : spec_DeltaFault.f k a0_0 a0_1 l0_2 l0_3 = some r) :
  Calls Try.prog 49 #[.agg #[.int .i64 a0_0, .int .i64 a0_1, .slice A0_2 l0_2.length c0_2, .slice A0_3 l0_3.length c0_3]] w fun e w' => e = .returned (.int .i64 r) ∧ Below w.heap.size w w' := by
 have hu84 := Try.underlying84
 have hu41 := Try.underlying41
 have hu137 := Try.underlying137
 have HR0_2 := Aside0.mk hr0_2
 have HC0_2 := Aside0.mk hc0_2
 clear hr0_2 hc0_2
 have HR0_3 := Aside0.mk hr0_3
 have HC0_3 := Aside0.mk hc0_3
 clear hr0_3 hc0_3
 have HB := Aside0.mk (Below.refl w.heap.size w)
 have H : ((spec_l1In.f a0_0 0 65520).bind fun t1061 => (if t1061 = true then ((spec_l1In.f a0_1 0 65520).bind fun t1062 => (spec_DeltaFault.j0 k (!t1062) a0_0 a0_1 l0_2 l0_3)) else (spec_DeltaFault.j0 k true a0_0 a0_1 l0_2 l0_3))) = some r := h
 clear h
 have HC2 := Aside0.mk H
 clear H
 go_enter Try.func49, Try.ntmps49
 go_upto_region 1 with (first|((with_reducible refine gate_dst (N := 1) rfl ?_);(try (refine gate_guard (by rfl) ?_;dsimp only));refine box_event ?hg (N := 1) ?hd (cs := #[.int .i64 a0_0, .int .i64 a0_1, .slice A0_2 l0_2.length c0_2, .slice A0_3 l0_3.length c0_3]) (t := 84) ?hr ?_;(case hd => rfl);(case hg => rfl);(case hr => first|(go_simp;done)|(go_simp;rfl));intro gb1060 hg w3 hbox hb;have n0_ := Aside0.mk (below_step (by repeat (first|(with_reducible first|exact HB.out|apply below_alloc|apply pw_below_drewN|apply below_drew1)|exact HB.out)) hb);have n1_ := Aside0.mk (hbox);have n2_ := Aside0.mk ((by rw [hg];exact (below_size (by repeat (first|(with_reducible first|exact HB.out|apply below_alloc|apply pw_below_drewN|apply below_drew1)|exact HB.out))) : w.heap.size ≤ gb1060));have n3_ := Aside0.mk ((by rw [hg];exact (below_size (by repeat (first|(with_reducible first|exact HB.out|apply below_alloc|apply pw_below_drewN|apply below_drew1)|exact HB.out))) : w.heap.size ≤ gb1060));clear HB;have HB := n0_;have BK1060 := n1_;have GW1060 := n2_;have GE1060 := n3_;clear n0_ n1_ n2_ n3_;clear hb hbox hg))
 (try simp only [Act.put, List.setIfInBounds_toArray, List.set_cons_zero, List.set_cons_succ])
 go_cut [16] (fun v16 wc => ∃ (kq : Nat) (x16_1 : Bool), v16 = .bool x16_1 ∧ Aside0 (spec_DeltaFault.j0 kq x16_1 a0_0 a0_1 l0_2 l0_3 = some r) ∧ Aside0 (kq ≤ k) ∧ Aside0 (wc.heap[gb1060]? = some (.cells #[.int .i64 a0_0, .int .i64 a0_1, (.slice A0_2 l0_2.length c0_2), (.slice A0_3 l0_3.length c0_3)] 84 (0, 0))) ∧ Aside0 (Below w.heap.size w wc))
 case first =>
  have H := HC2.out
  clear HC2
  replace H := Option.bind_eq_some_iff.mp H
  obtain ⟨t1061, A40, H⟩ := H
  replace H : (if t1061 = true then ((spec_l1In.f a0_1 0 65520).bind fun t1062 => (spec_DeltaFault.j0 k (!t1062) a0_0 a0_1 l0_2 l0_3)) else (spec_DeltaFault.j0 k true a0_0 a0_1 l0_2 l0_3)) = some r := H
  have A4 := Aside0.mk A40
  clear A40
  by_cases c5 : t1061 = true
  ·
   subst c5
   have H1 : ((spec_l1In.f a0_1 0 65520).bind fun t1062 => (spec_DeltaFault.j0 k (!t1062) a0_0 a0_1 l0_2 l0_3)) = some r := by rw [if_pos rfl] at H;exact H
   clear H
   have H := H1
   clear H1
   replace H := Option.bind_eq_some_iff.mp H
   obtain ⟨t1062, A60, H⟩ := H
   replace H : (spec_DeltaFault.j0 k (!t1062) a0_0 a0_1 l0_2 l0_3) = some r := H
   have A6 := Aside0.mk A60
   clear A60
   have H' := Aside0.mk H
   clear H
   have hcz7_0 : w3.cell? ⟨gb1060, 0, none⟩ = some (.int .i64 a0_0) := (blk_cell BK1060.out 0).trans rfl
   have hcz7_1 : w3.cell? ⟨gb1060, 1, none⟩ = some (.int .i64 a0_1) := (blk_cell BK1060.out 1).trans rfl
   have hcz7_2 : w3.cell? ⟨gb1060, 2, none⟩ = some (.slice A0_2 l0_2.length c0_2) := (blk_cell BK1060.out 2).trans rfl
   have hcz7_3 : w3.cell? ⟨gb1060, 3, none⟩ = some (.slice A0_3 l0_3.length c0_3) := (blk_cell BK1060.out 3).trans rfl
   have hfz7_0 := blk_frozen BK1060.out 0
   have hfz7_1 := blk_frozen BK1060.out 1
   have hfz7_2 := blk_frozen BK1060.out 2
   have hfz7_3 := blk_frozen BK1060.out 3
   go_wp2_with (first|((with_reducible refine gate_callee (f := 53) rfl ?_);refine goesL_ (some 9) rfl rfl Try.func53 (by kernel_rfl) rfl #[.int .i64 a0_0, .int .i64 0, .int .i64 65520] rfl (by (try simp only [List.map_toArray, List.map_cons, List.map_nil]);first|done|rfl|(simp only [List.length_drop, List.length_take];rfl)) ?_;(with_reducible refine (spec_l1In.calls a0_0 0 65520 true _ A4.out).mono ?_);rintro e w' ⟨rfl, ⟨nd, rfl⟩⟩;refine ⟨_, rfl, ?_⟩)|(go_at_call 53;(with_reducible refine (spec_l1In.calls a0_1 0 65520 t1062 _ A6.out).mono ?_);rintro e w' ⟨rfl, ⟨nd, rfl⟩⟩))
   go_meet
   case rel => exact ⟨_, (!t1062), (by first|rfl|(simp;done)|(simp [*];done)), H', ⟨by first|omega|exact Nat.le_refl _⟩, ⟨by (with_reducible repeat (first|refine blk_drewN ?_ _|refine blk_drew ?_|refine blk_alloc ?_ _));exact BK1060.out⟩, ⟨by repeat (first|(with_reducible first|exact HB.out|apply below_alloc|apply pw_below_drewN|apply below_drew1|refine below_set ?_ GE1060.out)|exact HB.out)⟩⟩
  ·
   replace c5 := Bool.eq_false_iff.mpr c5
   subst c5
   have H1 : (spec_DeltaFault.j0 k true a0_0 a0_1 l0_2 l0_3) = some r := by rw [if_neg (show ¬ (false = true) by decide)] at H;exact H
   clear H
   have H := H1
   clear H1
   have H' := Aside0.mk H
   clear H
   have hcz8_0 : w3.cell? ⟨gb1060, 0, none⟩ = some (.int .i64 a0_0) := (blk_cell BK1060.out 0).trans rfl
   have hcz8_1 : w3.cell? ⟨gb1060, 1, none⟩ = some (.int .i64 a0_1) := (blk_cell BK1060.out 1).trans rfl
   have hcz8_2 : w3.cell? ⟨gb1060, 2, none⟩ = some (.slice A0_2 l0_2.length c0_2) := (blk_cell BK1060.out 2).trans rfl
   have hcz8_3 : w3.cell? ⟨gb1060, 3, none⟩ = some (.slice A0_3 l0_3.length c0_3) := (blk_cell BK1060.out 3).trans rfl
   have hfz8_0 := blk_frozen BK1060.out 0
   have hfz8_1 := blk_frozen BK1060.out 1
   have hfz8_2 := blk_frozen BK1060.out 2
   have hfz8_3 := blk_frozen BK1060.out 3
   go_wp2_with (first|((with_reducible refine gate_callee (f := 53) rfl ?_);refine goesL_ (some 9) rfl rfl Try.func53 (by kernel_rfl) rfl #[.int .i64 a0_0, .int .i64 0, .int .i64 65520] rfl (by (try simp only [List.map_toArray, List.map_cons, List.map_nil]);first|done|rfl|(simp only [List.length_drop, List.length_take];rfl)) ?_;(with_reducible refine (spec_l1In.calls a0_0 0 65520 false _ A4.out).mono ?_);rintro e w' ⟨rfl, ⟨nd, rfl⟩⟩;refine ⟨_, rfl, ?_⟩))
   go_meet
   case rel => exact ⟨_, (true), (by first|rfl|(simp;done)|(simp [*];done)), H', ⟨by first|omega|exact Nat.le_refl _⟩, ⟨by (with_reducible repeat (first|refine blk_drewN ?_ _|refine blk_drew ?_|refine blk_alloc ?_ _));exact BK1060.out⟩, ⟨by repeat (first|(with_reducible first|exact HB.out|apply below_alloc|apply pw_below_drewN|apply below_drew1|refine below_set ?_ GE1060.out)|exact HB.out)⟩⟩
 case rest =>
  clear HC2
  try clear p2
  try clear c4
  try clear c5
  try clear hcz7_0
  try clear hcz7_1
  try clear hcz7_2
  try clear hcz7_3
  try clear hcz8_0
  try clear hcz8_1
  try clear hcz8_2
  try clear hcz8_3
  try clear hfz7_0
  try clear hfz7_1
  try clear hfz7_2
  try clear hfz7_3
  try clear hfz8_0
  try clear hfz8_1
  try clear hfz8_2
  try clear hfz8_3
  obtain ⟨kq, x16_1, rfl, HA, HJ1, BK1060, HB⟩ := hcut
  cases kq with
  | zero => exact absurd HA.out (by simp [spec_DeltaFault.j0])
  | succ kj1 =>
   have H := HA.out
   clear HA
   simp only [spec_DeltaFault.j0] at H
   by_cases c9 : x16_1 = true
   ·
    subst c9
    have H1 : (some 3) = some r := by rw [if_pos rfl] at H;exact H
    clear H
    have H := H1
    clear H1
    obtain rfl := Option.some.inj H
    go_wp2
    go_ret
    exact ⟨by first|rfl|(simp [errW_none, errW_some] <;> rfl)|(simp [*, errW_none, errW_some] <;> rfl), by repeat (first|(with_reducible first|exact HB.out|apply below_alloc|apply pw_below_drewN|apply below_drew1|refine below_set ?_ GE1060.out)|exact HB.out)⟩
   ·
    replace c9 := Bool.eq_false_iff.mpr c9
    subst c9
    have H1 : (if (l0_2.length : Int) > 6 then (spec_DeltaFault.j1 kj1 true a0_0 a0_1 l0_2 l0_3) else (spec_DeltaFault.j1 kj1 (decide ((l0_3.length : Int) > 120)) a0_0 a0_1 l0_2 l0_3)) = some r := by rw [if_neg (show ¬ (false = true) by decide)] at H;exact H
    clear H
    have H := H1
    clear H1
    have HC10 := Aside0.mk H
    clear H
    go_upto_region 3 with (fail)
    go_cut [26] (fun v26 wc => ∃ (kq : Nat) (x26_9 : Bool), v26 = .bool x26_9 ∧ Aside0 (spec_DeltaFault.j1 kq x26_9 a0_0 a0_1 l0_2 l0_3 = some r) ∧ Aside0 (kq ≤ kj1) ∧ Aside0 (wc.heap[gb1060]? = some (.cells #[.int .i64 a0_0, .int .i64 a0_1, (.slice A0_2 l0_2.length c0_2), (.slice A0_3 l0_3.length c0_3)] 84 (0, 0))) ∧ Aside0 (Below w.heap.size w wc))
    case first =>
     have H := HC10.out
     clear HC10
     by_cases c11 : (l0_2.length : Int) > 6
     ·
      rw [if_pos c11] at H
      have c11b0 : decide (6 < (l0_2.length : Int)) = true := decide_eq_true c11
      have c11b1 : decide (6 < l0_2.length) = true := decide_eq_true (by omega)
      clear c11
      (first|rw [c11b0]|(simp only [i64_w, i32_w];rw [c11b0])|skip)
      have H' := Aside0.mk H
      clear H
      have hcz12_0 : wc.cell? ⟨gb1060, 0, none⟩ = some (.int .i64 a0_0) := (blk_cell BK1060.out 0).trans rfl
      have hcz12_1 : wc.cell? ⟨gb1060, 1, none⟩ = some (.int .i64 a0_1) := (blk_cell BK1060.out 1).trans rfl
      have hcz12_2 : wc.cell? ⟨gb1060, 2, none⟩ = some (.slice A0_2 l0_2.length c0_2) := (blk_cell BK1060.out 2).trans rfl
      have hcz12_3 : wc.cell? ⟨gb1060, 3, none⟩ = some (.slice A0_3 l0_3.length c0_3) := (blk_cell BK1060.out 3).trans rfl
      have hfz12_0 := blk_frozen BK1060.out 0
      have hfz12_1 := blk_frozen BK1060.out 1
      have hfz12_2 := blk_frozen BK1060.out 2
      have hfz12_3 := blk_frozen BK1060.out 3
      go_wp2
      go_meet
      case rel => exact ⟨_, (true), (by first|rfl|(simp;done)|(simp [*];done)), H', ⟨by have := HJ1.out;first|omega|exact Nat.le_refl _⟩, ⟨by (with_reducible repeat (first|refine blk_drewN ?_ _|refine blk_drew ?_|refine blk_alloc ?_ _));exact BK1060.out⟩, ⟨by repeat (first|(with_reducible first|exact HB.out|apply below_alloc|apply pw_below_drewN|apply below_drew1|refine below_set ?_ GE1060.out)|exact HB.out)⟩⟩
     ·
      rw [if_neg c11] at H
      have c11b0 : decide (6 < (l0_2.length : Int)) = false := decide_eq_false c11
      have c11b1 : decide (6 < l0_2.length) = false := decide_eq_false (by omega)
      clear c11
      (first|rw [c11b0]|(simp only [i64_w, i32_w];rw [c11b0])|skip)
      have H' := Aside0.mk H
      clear H
      have hcz13_0 : wc.cell? ⟨gb1060, 0, none⟩ = some (.int .i64 a0_0) := (blk_cell BK1060.out 0).trans rfl
      have hcz13_1 : wc.cell? ⟨gb1060, 1, none⟩ = some (.int .i64 a0_1) := (blk_cell BK1060.out 1).trans rfl
      have hcz13_2 : wc.cell? ⟨gb1060, 2, none⟩ = some (.slice A0_2 l0_2.length c0_2) := (blk_cell BK1060.out 2).trans rfl
      have hcz13_3 : wc.cell? ⟨gb1060, 3, none⟩ = some (.slice A0_3 l0_3.length c0_3) := (blk_cell BK1060.out 3).trans rfl
      have hfz13_0 := blk_frozen BK1060.out 0
      have hfz13_1 := blk_frozen BK1060.out 1
      have hfz13_2 := blk_frozen BK1060.out 2
      have hfz13_3 := blk_frozen BK1060.out 3
      go_wp2
      go_meet
      case rel => exact ⟨_, (decide ((l0_3.length : Int) > 120)), (by first|rfl|(simp;done)|(simp [*];done)), H', ⟨by have := HJ1.out;first|omega|exact Nat.le_refl _⟩, ⟨by (with_reducible repeat (first|refine blk_drewN ?_ _|refine blk_drew ?_|refine blk_alloc ?_ _));exact BK1060.out⟩, ⟨by repeat (first|(with_reducible first|exact HB.out|apply below_alloc|apply pw_below_drewN|apply below_drew1|refine below_set ?_ GE1060.out)|exact HB.out)⟩⟩
    case rest =>
     clear HC10
     try clear c1
     try clear p2
     try clear c4
     try clear c5
     try clear c9
     try clear c11
     try clear c11b0
     try clear c11b1
     try clear hcz12_0
     try clear hcz12_1
     try clear hcz12_2
     try clear hcz12_3
     try clear hcz13_0
     try clear hcz13_1
     try clear hcz13_2
     try clear hcz13_3
     try clear hcz7_0
     try clear hcz7_1
     try clear hcz7_2
     try clear hcz7_3
     try clear hcz8_0
     try clear hcz8_1
     try clear hcz8_2
     try clear hcz8_3
     try clear hfz12_0
     try clear hfz12_1
     try clear hfz12_2
     try clear hfz12_3
     try clear hfz13_0
     try clear hfz13_1
     try clear hfz13_2
     try clear hfz13_3
     try clear hfz7_0
     try clear hfz7_1
     try clear hfz7_2
     try clear hfz7_3
     try clear hfz8_0
     try clear hfz8_1
     try clear hfz8_2
     try clear hfz8_3
     try clear p2
     obtain ⟨kq, x26_9, rfl, HA, HJ9, BK1060, HB⟩ := hcut
     cases kq with
     | zero => exact absurd HA.out (by simp [spec_DeltaFault.j1])
     | succ kj9 =>
      have H := HA.out
      clear HA
      simp only [spec_DeltaFault.j1] at H
      by_cases c14 : x26_9 = true
      ·
       subst c14
       have H1 : (some 2) = some r := by rw [if_pos rfl] at H;exact H
       clear H
       have H := H1
       clear H1
       obtain rfl := Option.some.inj H
       go_wp2
       go_ret
       exact ⟨by first|rfl|(simp [errW_none, errW_some] <;> rfl)|(simp [*, errW_none, errW_some] <;> rfl), by repeat (first|(with_reducible first|exact HB.out|apply below_alloc|apply pw_below_drewN|apply below_drew1|refine below_set ?_ GE1060.out)|exact HB.out)⟩
      ·
       replace c14 := Bool.eq_false_iff.mpr c14
       subst c14
       have H1 : ((spec_l6Vols.f kj9 (⟨0, l0_2, ([] : List (S95)), ([] : List Int)⟩ : S41)).bind fun t1064 => (if t1064 = 0 then (spec_DeltaFault.l0 kj9 0 a0_0 a0_1 l0_2 l0_3) else (some t1064))) = some r := by rw [if_neg (show ¬ (false = true) by decide)] at H;exact H
       clear H
       have H := H1
       clear H1
       replace H := Option.bind_eq_some_iff.mp H
       obtain ⟨t1064, A150, H⟩ := H
       replace H : (if t1064 = 0 then (spec_DeltaFault.l0 kj9 0 a0_0 a0_1 l0_2 l0_3) else (some t1064)) = some r := H
       have A15 := Aside0.mk A150
       clear A150
       by_cases c16 : t1064 = 0
       ·
        rw [if_pos c16] at H
        have c16b0 : (t1064 == 0) = true := beq_iff_eq.mpr c16
        have c16b1 : (t1064 != 0) = false := bne_eq_false_iff_eq.mpr c16
        clear c16
        have H' := Aside0.mk H
        clear H
        have hcz17_0 : wc.cell? ⟨gb1060, 0, none⟩ = some (.int .i64 a0_0) := (blk_cell BK1060.out 0).trans rfl
        have hcz17_1 : wc.cell? ⟨gb1060, 1, none⟩ = some (.int .i64 a0_1) := (blk_cell BK1060.out 1).trans rfl
        have hcz17_2 : wc.cell? ⟨gb1060, 2, none⟩ = some (.slice A0_2 l0_2.length c0_2) := (blk_cell BK1060.out 2).trans rfl
        have hcz17_3 : wc.cell? ⟨gb1060, 3, none⟩ = some (.slice A0_3 l0_3.length c0_3) := (blk_cell BK1060.out 3).trans rfl
        have hfz17_0 := blk_frozen BK1060.out 0
        have hfz17_1 := blk_frozen BK1060.out 1
        have hfz17_2 := blk_frozen BK1060.out 2
        have hfz17_3 := blk_frozen BK1060.out 3
        go_wp2_with (first|((with_reducible refine gate_dst (N := 3) rfl ?_);(try (refine gate_guard (by rfl) ?_;dsimp only));refine box_event ?hg (N := 3) ?hd (cs := #[.int .i64 0, .slice none 0 0, .slice none 0 0, .slice none 0 0]) (t := 41) ?hr ?_;(case hd => rfl);(case hg => rfl);(case hr => first|(go_simp;done)|(go_simp;rfl));intro gb1063 hg w18 hbox hb;have n0_ := Aside0.mk (blk_below (g := gb1060) (o := .cells #[.int .i64 a0_0, .int .i64 a0_1, .slice A0_2 l0_2.length c0_2, .slice A0_3 l0_3.length c0_3] 84 (0, 0)) (by (with_reducible repeat (first|refine blk_drewN ?_ _|refine blk_drew ?_|refine blk_alloc ?_ _));exact BK1060.out) hb);have n1_ := Aside0.mk (below_step (by repeat (first|(with_reducible first|exact HB.out|apply below_alloc|apply pw_below_drewN|apply below_drew1|refine below_set ?_ GE1060.out)|exact HB.out)) hb);have n2_ := Aside0.mk (hbox);have n3_ := Aside0.mk ((by rw [hg];exact (below_size (by repeat (first|(with_reducible first|exact HB.out|apply below_alloc|apply pw_below_drewN|apply below_drew1|refine below_set ?_ GE1060.out)|exact HB.out))) : w.heap.size ≤ gb1063));have n4_ := Aside0.mk ((by rw [hg];exact (below_size (by repeat (first|(with_reducible first|exact HB.out|apply below_alloc|apply pw_below_drewN|apply below_drew1|refine below_set ?_ GE1060.out)|exact HB.out))) : w.heap.size ≤ gb1063));have n5_ := Aside0.mk ((by rw [hg];exact Nat.ne_of_lt (blk_lt (g := gb1060) (o := .cells #[.int .i64 a0_0, .int .i64 a0_1, .slice A0_2 l0_2.length c0_2, .slice A0_3 l0_3.length c0_3] 84 (0, 0)) (by (with_reducible repeat (first|refine blk_drewN ?_ _|refine blk_drew ?_|refine blk_alloc ?_ _));exact BK1060.out)) : gb1060 ≠ gb1063));have n6_ := Aside0.mk ((by rw [hg];exact Nat.ne_of_gt (blk_lt (g := gb1060) (o := .cells #[.int .i64 a0_0, .int .i64 a0_1, .slice A0_2 l0_2.length c0_2, .slice A0_3 l0_3.length c0_3] 84 (0, 0)) (by (with_reducible repeat (first|refine blk_drewN ?_ _|refine blk_drew ?_|refine blk_alloc ?_ _));exact BK1060.out)) : gb1063 ≠ gb1060));clear BK1060;clear HB;have BK1060 := n0_;have HB := n1_;have BK1063 := n2_;have GW1063 := n3_;have GE1063 := n4_;have NB1060_1063 := n5_;have NB1063_1060 := n6_;clear n0_ n1_ n2_ n3_ n4_ n5_ n6_;clear hb hbox hg;have hnb19 := NB1063_1060.out;have hnc19 := NB1060_1063.out;have hcz20_0 : w18.cell? ⟨gb1063, 0, none⟩ = some (.int .i64 0) := (blk_cell BK1063.out 0).trans rfl;have hcz20_1 : w18.cell? ⟨gb1063, 1, none⟩ = some (.slice none 0 0) := (blk_cell BK1063.out 1).trans rfl;have hcz20_2 : w18.cell? ⟨gb1063, 2, none⟩ = some (.slice none 0 0) := (blk_cell BK1063.out 2).trans rfl;have hcz20_3 : w18.cell? ⟨gb1063, 3, none⟩ = some (.slice none 0 0) := (blk_cell BK1063.out 3).trans rfl;have hfz20_0 := blk_frozen BK1063.out 0;have hfz20_1 := blk_frozen BK1063.out 1;have hfz20_2 := blk_frozen BK1063.out 2;have hfz20_3 := blk_frozen BK1063.out 3)|((with_reducible refine gate_callee (f := 100) rfl ?_);refine goesL_ (some 30) rfl rfl Try.func100 (by kernel_rfl) rfl #[.pointer (some ⟨gb1063, 0, none⟩)] rfl (by (try simp only [List.map_toArray, List.map_cons, List.map_nil]);first|done|rfl|(simp only [List.length_drop, List.length_take];rfl)) ?_;(refine (spec_l6Vols.calls kj9 _ (⟨0, l0_2, ([] : List (S95)), ([] : List Int)⟩ : S41) t1064 _ ?side1 A15.out).mono ?_);(case side1 => exact Kd.C_box (t := 41) (by (with_reducible repeat (first|refine blk_drewN ?_ _|refine blk_drew ?_|refine blk_alloc ?_ _));refine blk_put (cs := #[.int .i64 0, .slice A0_2 l0_2.length c0_2, .slice none 0 0, .slice none 0 0]) ?_ 3 _ rfl;(with_reducible repeat (first|refine blk_drewN ?_ _|refine blk_drew ?_|refine blk_alloc ?_ _));refine blk_put (cs := #[.int .i64 0, .slice A0_2 l0_2.length c0_2, .slice none 0 0, .slice none 0 0]) ?_ 2 _ rfl;(with_reducible repeat (first|refine blk_drewN ?_ _|refine blk_drew ?_|refine blk_alloc ?_ _));refine blk_put (cs := #[.int .i64 0, .slice none 0 0, .slice none 0 0, .slice none 0 0]) ?_ 1 _ rfl;(with_reducible repeat (first|refine blk_drewN ?_ _|refine blk_drew ?_|refine blk_alloc ?_ _));refine blk_put (cs := #[.int .i64 0, .slice none 0 0, .slice none 0 0, .slice none 0 0]) ?_ 0 _ rfl;(with_reducible repeat (first|refine blk_drewN ?_ _|refine blk_drew ?_|refine blk_alloc ?_ _));exact BK1063.out) (k41_mk _ (⟨0, l0_2, ([] : List (S95)), ([] : List Int)⟩ : S41) (by exact HC0_2.out) (by exact Kd.C_below HR0_2.out (by repeat (first|(with_reducible first|exact HB.out|apply below_alloc|apply pw_below_drewN|apply below_drew1|refine below_set ?_ GE1060.out|refine below_set ?_ GE1063.out)|exact HB.out))) (by exact Nat.le_refl _) (by exact Kd.C_nil _ _) (by exact Nat.le_refl _) (by exact Kd.C_nil _ _)));rintro e w21 ⟨rfl, hb⟩;refine ⟨_, rfl, ?_⟩;have n0_ := Aside0.mk (blk_below (g := gb1060) (o := .cells #[.int .i64 a0_0, .int .i64 a0_1, .slice A0_2 l0_2.length c0_2, .slice A0_3 l0_3.length c0_3] 84 (0, 0)) (by (with_reducible repeat (first|refine blk_drewN ?_ _|refine blk_drew ?_|refine blk_alloc ?_ _));refine blk_far ?_ NB1060_1063.out _;(with_reducible repeat (first|refine blk_drewN ?_ _|refine blk_drew ?_|refine blk_alloc ?_ _));refine blk_far ?_ NB1060_1063.out _;(with_reducible repeat (first|refine blk_drewN ?_ _|refine blk_drew ?_|refine blk_alloc ?_ _));refine blk_far ?_ NB1060_1063.out _;(with_reducible repeat (first|refine blk_drewN ?_ _|refine blk_drew ?_|refine blk_alloc ?_ _));refine blk_far ?_ NB1060_1063.out _;(with_reducible repeat (first|refine blk_drewN ?_ _|refine blk_drew ?_|refine blk_alloc ?_ _));exact BK1060.out) hb);have n1_ := Aside0.mk (blk_below (g := gb1063) (o := .cells #[.int .i64 0, .slice A0_2 l0_2.length c0_2, .slice none 0 0, .slice none 0 0] 41 (0, 0)) (by (with_reducible repeat (first|refine blk_drewN ?_ _|refine blk_drew ?_|refine blk_alloc ?_ _));refine blk_put (cs := #[.int .i64 0, .slice A0_2 l0_2.length c0_2, .slice none 0 0, .slice none 0 0]) ?_ 3 _ rfl;(with_reducible repeat (first|refine blk_drewN ?_ _|refine blk_drew ?_|refine blk_alloc ?_ _));refine blk_put (cs := #[.int .i64 0, .slice A0_2 l0_2.length c0_2, .slice none 0 0, .slice none 0 0]) ?_ 2 _ rfl;(with_reducible repeat (first|refine blk_drewN ?_ _|refine blk_drew ?_|refine blk_alloc ?_ _));refine blk_put (cs := #[.int .i64 0, .slice none 0 0, .slice none 0 0, .slice none 0 0]) ?_ 1 _ rfl;(with_reducible repeat (first|refine blk_drewN ?_ _|refine blk_drew ?_|refine blk_alloc ?_ _));refine blk_put (cs := #[.int .i64 0, .slice none 0 0, .slice none 0 0, .slice none 0 0]) ?_ 0 _ rfl;(with_reducible repeat (first|refine blk_drewN ?_ _|refine blk_drew ?_|refine blk_alloc ?_ _));exact BK1063.out) hb);have n2_ := Aside0.mk (below_step (by repeat (first|(with_reducible first|exact HB.out|apply below_alloc|apply pw_below_drewN|apply below_drew1|refine below_set ?_ GE1060.out|refine below_set ?_ GE1063.out)|exact HB.out)) hb);clear BK1060;clear BK1063;clear HB;have BK1060 := n0_;have BK1063 := n1_;have HB := n2_;clear n0_ n1_ n2_;(try clear hb);(try clear hb2);(try clear hk);(try clear hi)))
        go_loopg [5] kj9 (fun kq v5 w' => ∃ (x5_3 : Int), v5 = .int .i64 x5_3 ∧ Aside0 (spec_DeltaFault.l0 kq x5_3 a0_0 a0_1 l0_2 l0_3 = some r) ∧ Aside0 (kq ≤ kj9) ∧ Aside0 (w'.heap[gb1060]? = some (.cells #[.int .i64 a0_0, .int .i64 a0_1, (.slice A0_2 l0_2.length c0_2), (.slice A0_3 l0_3.length c0_3)] 84 (0, 0))) ∧ Aside0 (w'.heap[gb1063]? = some (.cells #[.int .i64 0, (.slice A0_2 l0_2.length c0_2), (.slice none 0 0), (.slice none 0 0)] 41 (0, 0))) ∧ Aside0 (Below w.heap.size w w'))
        case atStart => exact ⟨(0), (by first|rfl|(simp;done)|(simp [*];done)), H', ⟨Nat.le_refl _⟩, ⟨by (with_reducible repeat (first|refine blk_drewN ?_ _|refine blk_drew ?_|refine blk_alloc ?_ _));exact BK1060.out⟩, ⟨by (with_reducible repeat (first|refine blk_drewN ?_ _|refine blk_drew ?_|refine blk_alloc ?_ _));exact BK1063.out⟩, ⟨by repeat (first|(with_reducible first|exact HB.out|apply below_alloc|apply pw_below_drewN|apply below_drew1|refine below_set ?_ GE1060.out|refine below_set ?_ GE1063.out)|exact HB.out)⟩⟩
        case round =>
         clear H'
         try clear c1
         try clear p2
         try clear c4
         try clear c5
         try clear c9
         try clear c10
         try clear c11
         try clear c11b0
         try clear c11b1
         try clear c14
         try clear c16
         try clear c16b0
         try clear c16b1
         try clear c19
         try clear hcz12_0
         try clear hcz12_1
         try clear hcz12_2
         try clear hcz12_3
         try clear hcz13_0
         try clear hcz13_1
         try clear hcz13_2
         try clear hcz13_3
         try clear hcz17_0
         try clear hcz17_1
         try clear hcz17_2
         try clear hcz17_3
         try clear hcz20_0
         try clear hcz20_1
         try clear hcz20_2
         try clear hcz20_3
         try clear hcz7_0
         try clear hcz7_1
         try clear hcz7_2
         try clear hcz7_3
         try clear hcz8_0
         try clear hcz8_1
         try clear hcz8_2
         try clear hcz8_3
         try clear hfz12_0
         try clear hfz12_1
         try clear hfz12_2
         try clear hfz12_3
         try clear hfz13_0
         try clear hfz13_1
         try clear hfz13_2
         try clear hfz13_3
         try clear hfz17_0
         try clear hfz17_1
         try clear hfz17_2
         try clear hfz17_3
         try clear hfz20_0
         try clear hfz20_1
         try clear hfz20_2
         try clear hfz20_3
         try clear hfz7_0
         try clear hfz7_1
         try clear hfz7_2
         try clear hfz7_3
         try clear hfz8_0
         try clear hfz8_1
         try clear hfz8_2
         try clear hfz8_3
         try clear p2
         obtain ⟨x5_3, rfl, HA, HK3, BK1060, BK1063, HB⟩ := hrel
         cases gk with
         | zero => exact absurd HA.out (by simp [spec_DeltaFault.l0])
         | succ k3 =>
          have H := HA.out
          clear HA
          simp only [spec_DeltaFault.l0] at H
          by_cases c22 : x5_3 < (l0_3.length : Int)
          ·
           rw [if_pos c22] at H
           have c22b0 : decide (x5_3 < (l0_3.length : Int)) = true := decide_eq_true c22
           clear c22
           by_cases c23 : 0 ≤ x5_3
           ·
            rw [if_pos c23] at H
            have c23b0 : decide (0 ≤ x5_3) = true := decide_eq_true c23
            clear c23
            have HC24 := Aside0.mk H
            clear H
            have hnb25 := NB1060_1063.out
            have hnc25 := NB1063_1060.out
            have hcz26_0 : wr.cell? ⟨gb1060, 0, none⟩ = some (.int .i64 a0_0) := (blk_cell BK1060.out 0).trans rfl
            have hcz26_1 : wr.cell? ⟨gb1060, 1, none⟩ = some (.int .i64 a0_1) := (blk_cell BK1060.out 1).trans rfl
            have hcz26_2 : wr.cell? ⟨gb1060, 2, none⟩ = some (.slice A0_2 l0_2.length c0_2) := (blk_cell BK1060.out 2).trans rfl
            have hcz26_3 : wr.cell? ⟨gb1060, 3, none⟩ = some (.slice A0_3 l0_3.length c0_3) := (blk_cell BK1060.out 3).trans rfl
            have hfz26_0 := blk_frozen BK1060.out 0
            have hfz26_1 := blk_frozen BK1060.out 1
            have hfz26_2 := blk_frozen BK1060.out 2
            have hfz26_3 := blk_frozen BK1060.out 3
            have p1065 : 0 ≤ (x5_3 : Int) := of_decide_eq_true (by first|(with_reducible assumption)|assumption)
            have q1065 : x5_3 < (l0_3.length : Int) := of_decide_eq_true (by first|(with_reducible assumption)|assumption)
            obtain ⟨ad1065, e1065, hx1065_0, hx1065_1, hx1065_2, hx1065_3⟩ := at_T137 HR0_3.out x5_3 p1065 q1065
            cases e1065
            replace hx1065_0 := (HB.out.cell (World.block_lt_of_cell? w _ hx1065_0)).trans hx1065_0
            replace hx1065_1 := (HB.out.cell (World.block_lt_of_cell? w _ hx1065_1)).trans hx1065_1
            replace hx1065_2 := (HB.out.cell (World.block_lt_of_cell? w _ hx1065_2)).trans hx1065_2
            replace hx1065_3 := (HB.out.cell (World.block_lt_of_cell? w _ hx1065_3)).trans hx1065_3
            replace p1065 := eq_true p1065
            replace q1065 := eq_true q1065
            go_upto_region 13 with (first|((with_reducible refine gate_dst (N := 6) rfl ?_);(try (refine gate_guard (by rfl) ?_;dsimp only));refine box_event ?hg (N := 6) ?hd (cs := #[.bool false, .int .i64 0, .int .i64 0, .int .i64 0]) (t := 137) ?hr ?_;(case hd => rfl);(case hg => rfl);(case hr => first|(go_simp;done)|(go_simp;rfl));intro gb1066 hg w27 hbox hb;have n0_ := Aside0.mk (blk_below (g := gb1060) (o := .cells #[.int .i64 a0_0, .int .i64 a0_1, .slice A0_2 l0_2.length c0_2, .slice (some ad1065) l0_3.length c0_3] 84 (0, 0)) (by (with_reducible repeat (first|refine blk_drewN ?_ _|refine blk_drew ?_|refine blk_alloc ?_ _));exact BK1060.out) hb);have n1_ := Aside0.mk (blk_below (g := gb1063) (o := .cells #[.int .i64 0, .slice A0_2 l0_2.length c0_2, .slice none 0 0, .slice none 0 0] 41 (0, 0)) (by (with_reducible repeat (first|refine blk_drewN ?_ _|refine blk_drew ?_|refine blk_alloc ?_ _));exact BK1063.out) hb);have n2_ := Aside0.mk (below_step (by repeat (first|(with_reducible first|exact HB.out|apply below_alloc|apply pw_below_drewN|apply below_drew1|refine below_set ?_ GE1060.out|refine below_set ?_ GE1063.out)|exact HB.out)) hb);have n3_ := Aside0.mk (hbox);have n4_ := Aside0.mk ((by rw [hg];exact (below_size (by repeat (first|(with_reducible first|exact HB.out|apply below_alloc|apply pw_below_drewN|apply below_drew1|refine below_set ?_ GE1060.out|refine below_set ?_ GE1063.out)|exact HB.out))) : w.heap.size ≤ gb1066));have n5_ := Aside0.mk ((by rw [hg];exact (below_size (by repeat (first|(with_reducible first|exact HB.out|apply below_alloc|apply pw_below_drewN|apply below_drew1|refine below_set ?_ GE1060.out|refine below_set ?_ GE1063.out)|exact HB.out))) : w.heap.size ≤ gb1066));have n6_ := Aside0.mk ((by rw [hg];exact Nat.ne_of_lt (blk_lt (g := gb1060) (o := .cells #[.int .i64 a0_0, .int .i64 a0_1, .slice A0_2 l0_2.length c0_2, .slice (some ad1065) l0_3.length c0_3] 84 (0, 0)) (by (with_reducible repeat (first|refine blk_drewN ?_ _|refine blk_drew ?_|refine blk_alloc ?_ _));exact BK1060.out)) : gb1060 ≠ gb1066));have n7_ := Aside0.mk ((by rw [hg];exact Nat.ne_of_gt (blk_lt (g := gb1060) (o := .cells #[.int .i64 a0_0, .int .i64 a0_1, .slice A0_2 l0_2.length c0_2, .slice (some ad1065) l0_3.length c0_3] 84 (0, 0)) (by (with_reducible repeat (first|refine blk_drewN ?_ _|refine blk_drew ?_|refine blk_alloc ?_ _));exact BK1060.out)) : gb1066 ≠ gb1060));have n8_ := Aside0.mk ((by rw [hg];exact Nat.ne_of_lt (blk_lt (g := gb1063) (o := .cells #[.int .i64 0, .slice A0_2 l0_2.length c0_2, .slice none 0 0, .slice none 0 0] 41 (0, 0)) (by (with_reducible repeat (first|refine blk_drewN ?_ _|refine blk_drew ?_|refine blk_alloc ?_ _));exact BK1063.out)) : gb1063 ≠ gb1066));have n9_ := Aside0.mk ((by rw [hg];exact Nat.ne_of_gt (blk_lt (g := gb1063) (o := .cells #[.int .i64 0, .slice A0_2 l0_2.length c0_2, .slice none 0 0, .slice none 0 0] 41 (0, 0)) (by (with_reducible repeat (first|refine blk_drewN ?_ _|refine blk_drew ?_|refine blk_alloc ?_ _));exact BK1063.out)) : gb1066 ≠ gb1063));clear BK1060;clear BK1063;clear HB;have BK1060 := n0_;have BK1063 := n1_;have HB := n2_;have BK1066 := n3_;have GW1066 := n4_;have GE1066 := n5_;have NB1060_1066 := n6_;have NB1066_1060 := n7_;have NB1063_1066 := n8_;have NB1066_1063 := n9_;clear n0_ n1_ n2_ n3_ n4_ n5_ n6_ n7_ n8_ n9_;clear hb hbox hg;have hnb28 := NB1066_1060.out;have hnc28 := NB1060_1066.out;have hnb29 := NB1066_1063.out;have hnc29 := NB1063_1066.out;have hcz30_0 : w27.cell? ⟨gb1066, 0, none⟩ = some (.bool false) := (blk_cell BK1066.out 0).trans rfl;have hcz30_1 : w27.cell? ⟨gb1066, 1, none⟩ = some (.int .i64 0) := (blk_cell BK1066.out 1).trans rfl;have hcz30_2 : w27.cell? ⟨gb1066, 2, none⟩ = some (.int .i64 0) := (blk_cell BK1066.out 2).trans rfl;have hcz30_3 : w27.cell? ⟨gb1066, 3, none⟩ = some (.int .i64 0) := (blk_cell BK1066.out 3).trans rfl;have hfz30_0 := blk_frozen BK1066.out 0;have hfz30_1 := blk_frozen BK1066.out 1;have hfz30_2 := blk_frozen BK1066.out 2;have hfz30_3 := blk_frozen BK1066.out 3))
            (try simp only [Act.put, List.setIfInBounds_toArray, List.set_cons_zero, List.set_cons_succ])
            go_cut [61] (fun v61 wc => ∃ (kq : Nat) (x61_23 : Bool), v61 = .bool x61_23 ∧ Aside0 (spec_DeltaFault.j3 kq x5_3 x61_23 a0_0 a0_1 l0_2 l0_3 ((rd_T137 l0_3 x5_3).f0) ((rd_T137 l0_3 x5_3).f1) ((rd_T137 l0_3 x5_3).f2) ((rd_T137 l0_3 x5_3).f3) = some r) ∧ Aside0 (kq ≤ k3) ∧ Aside0 (wc.heap[gb1060]? = some (.cells #[.int .i64 a0_0, .int .i64 a0_1, (.slice A0_2 l0_2.length c0_2), (.slice (some ad1065) l0_3.length c0_3)] 84 (0, 0))) ∧ Aside0 (wc.heap[gb1063]? = some (.cells #[.int .i64 0, (.slice A0_2 l0_2.length c0_2), (.slice none 0 0), (.slice none 0 0)] 41 (0, 0))) ∧ Aside0 (wc.heap[gb1066]? = some (.cells #[.bool ((rd_T137 l0_3 x5_3).f0), .int .i64 ((rd_T137 l0_3 x5_3).f1), .int .i64 ((rd_T137 l0_3 x5_3).f2), .int .i64 ((rd_T137 l0_3 x5_3).f3)] 137 (0, 0))) ∧ Aside0 (Below w.heap.size w wc))
            case first =>
             have H := HC24.out
             clear HC24
             replace H := Option.bind_eq_some_iff.mp H
             obtain ⟨t1067, A310, H⟩ := H
             replace H : (if t1067 = true then ((spec_l4Place.f ((rd_T137 l0_3 x5_3).f2)).bind fun t1068 => (if t1068 = true then ((spec_l3Data.f ((rd_T137 l0_3 x5_3).f3)).bind fun t1069 => (spec_DeltaFault.j3 k3 x5_3 (!t1069) a0_0 a0_1 l0_2 l0_3 ((rd_T137 l0_3 x5_3).f0) ((rd_T137 l0_3 x5_3).f1) ((rd_T137 l0_3 x5_3).f2) ((rd_T137 l0_3 x5_3).f3))) else (spec_DeltaFault.j3 k3 x5_3 true a0_0 a0_1 l0_2 l0_3 ((rd_T137 l0_3 x5_3).f0) ((rd_T137 l0_3 x5_3).f1) ((rd_T137 l0_3 x5_3).f2) ((rd_T137 l0_3 x5_3).f3)))) else (spec_DeltaFault.j3 k3 x5_3 true a0_0 a0_1 l0_2 l0_3 ((rd_T137 l0_3 x5_3).f0) ((rd_T137 l0_3 x5_3).f1) ((rd_T137 l0_3 x5_3).f2) ((rd_T137 l0_3 x5_3).f3))) = some r := H
             have A31 := Aside0.mk A310
             clear A310
             by_cases c32 : t1067 = true
             ·
              subst c32
              have H1 : ((spec_l4Place.f ((rd_T137 l0_3 x5_3).f2)).bind fun t1068 => (if t1068 = true then ((spec_l3Data.f ((rd_T137 l0_3 x5_3).f3)).bind fun t1069 => (spec_DeltaFault.j3 k3 x5_3 (!t1069) a0_0 a0_1 l0_2 l0_3 ((rd_T137 l0_3 x5_3).f0) ((rd_T137 l0_3 x5_3).f1) ((rd_T137 l0_3 x5_3).f2) ((rd_T137 l0_3 x5_3).f3))) else (spec_DeltaFault.j3 k3 x5_3 true a0_0 a0_1 l0_2 l0_3 ((rd_T137 l0_3 x5_3).f0) ((rd_T137 l0_3 x5_3).f1) ((rd_T137 l0_3 x5_3).f2) ((rd_T137 l0_3 x5_3).f3)))) = some r := by rw [if_pos rfl] at H;exact H
              clear H
              have H := H1
              clear H1
              replace H := Option.bind_eq_some_iff.mp H
              obtain ⟨t1068, A330, H⟩ := H
              replace H : (if t1068 = true then ((spec_l3Data.f ((rd_T137 l0_3 x5_3).f3)).bind fun t1069 => (spec_DeltaFault.j3 k3 x5_3 (!t1069) a0_0 a0_1 l0_2 l0_3 ((rd_T137 l0_3 x5_3).f0) ((rd_T137 l0_3 x5_3).f1) ((rd_T137 l0_3 x5_3).f2) ((rd_T137 l0_3 x5_3).f3))) else (spec_DeltaFault.j3 k3 x5_3 true a0_0 a0_1 l0_2 l0_3 ((rd_T137 l0_3 x5_3).f0) ((rd_T137 l0_3 x5_3).f1) ((rd_T137 l0_3 x5_3).f2) ((rd_T137 l0_3 x5_3).f3))) = some r := H
              have A33 := Aside0.mk A330
              clear A330
              by_cases c34 : t1068 = true
              ·
               subst c34
               have H1 : ((spec_l3Data.f ((rd_T137 l0_3 x5_3).f3)).bind fun t1069 => (spec_DeltaFault.j3 k3 x5_3 (!t1069) a0_0 a0_1 l0_2 l0_3 ((rd_T137 l0_3 x5_3).f0) ((rd_T137 l0_3 x5_3).f1) ((rd_T137 l0_3 x5_3).f2) ((rd_T137 l0_3 x5_3).f3))) = some r := by rw [if_pos rfl] at H;exact H
               clear H
               have H := H1
               clear H1
               replace H := Option.bind_eq_some_iff.mp H
               obtain ⟨t1069, A350, H⟩ := H
               replace H : (spec_DeltaFault.j3 k3 x5_3 (!t1069) a0_0 a0_1 l0_2 l0_3 ((rd_T137 l0_3 x5_3).f0) ((rd_T137 l0_3 x5_3).f1) ((rd_T137 l0_3 x5_3).f2) ((rd_T137 l0_3 x5_3).f3)) = some r := H
               have A35 := Aside0.mk A350
               clear A350
               have H' := Aside0.mk H
               clear H
               have hnb36 := NB1066_1060.out
               have hnc36 := NB1060_1066.out
               have hnb37 := NB1066_1063.out
               have hnc37 := NB1063_1066.out
               have hcz38_0 : w27.cell? ⟨gb1066, 0, none⟩ = some (.bool false) := (blk_cell BK1066.out 0).trans rfl
               have hcz38_1 : w27.cell? ⟨gb1066, 1, none⟩ = some (.int .i64 0) := (blk_cell BK1066.out 1).trans rfl
               have hcz38_2 : w27.cell? ⟨gb1066, 2, none⟩ = some (.int .i64 0) := (blk_cell BK1066.out 2).trans rfl
               have hcz38_3 : w27.cell? ⟨gb1066, 3, none⟩ = some (.int .i64 0) := (blk_cell BK1066.out 3).trans rfl
               have hfz38_0 := blk_frozen BK1066.out 0
               have hfz38_1 := blk_frozen BK1066.out 1
               have hfz38_2 := blk_frozen BK1066.out 2
               have hfz38_3 := blk_frozen BK1066.out 3
               go_wp2_with (first|((with_reducible refine gate_callee (f := 101) rfl ?_);refine goesL_ (some 48) rfl rfl Try.func101 (by kernel_rfl) rfl #[.int .i64 ((rd_T137 l0_3 x5_3).f1)] rfl (by (try simp only [List.map_toArray, List.map_cons, List.map_nil]);first|done|rfl|(simp only [List.length_drop, List.length_take];rfl)) ?_;(with_reducible refine (spec_l5Id.calls ((rd_T137 l0_3 x5_3).f1) true _ A31.out).mono ?_);rintro e w' ⟨rfl, ⟨nd, rfl⟩⟩;refine ⟨_, rfl, ?_⟩)|(go_at_call 102;(with_reducible refine (spec_l4Place.calls ((rd_T137 l0_3 x5_3).f2) true _ A33.out).mono ?_);rintro e w' ⟨rfl, ⟨nd, rfl⟩⟩)|(go_at_call 103;(with_reducible refine (spec_l3Data.calls ((rd_T137 l0_3 x5_3).f3) t1069 _ A35.out).mono ?_);rintro e w' ⟨rfl, ⟨nd, rfl⟩⟩))
               go_meet
               case rel => exact ⟨_, (!t1069), (by first|rfl|(simp;done)|(simp [*];done)), H', ⟨by have := HJ1.out;have := HJ9.out;have := HK3.out;first|omega|exact Nat.le_refl _⟩, ⟨by (with_reducible repeat (first|refine blk_drewN ?_ _|refine blk_drew ?_|refine blk_alloc ?_ _));refine blk_far ?_ NB1060_1066.out _;(with_reducible repeat (first|refine blk_drewN ?_ _|refine blk_drew ?_|refine blk_alloc ?_ _));refine blk_far ?_ NB1060_1066.out _;(with_reducible repeat (first|refine blk_drewN ?_ _|refine blk_drew ?_|refine blk_alloc ?_ _));refine blk_far ?_ NB1060_1066.out _;(with_reducible repeat (first|refine blk_drewN ?_ _|refine blk_drew ?_|refine blk_alloc ?_ _));refine blk_far ?_ NB1060_1066.out _;(with_reducible repeat (first|refine blk_drewN ?_ _|refine blk_drew ?_|refine blk_alloc ?_ _));exact BK1060.out⟩, ⟨by (with_reducible repeat (first|refine blk_drewN ?_ _|refine blk_drew ?_|refine blk_alloc ?_ _));refine blk_far ?_ NB1063_1066.out _;(with_reducible repeat (first|refine blk_drewN ?_ _|refine blk_drew ?_|refine blk_alloc ?_ _));refine blk_far ?_ NB1063_1066.out _;(with_reducible repeat (first|refine blk_drewN ?_ _|refine blk_drew ?_|refine blk_alloc ?_ _));refine blk_far ?_ NB1063_1066.out _;(with_reducible repeat (first|refine blk_drewN ?_ _|refine blk_drew ?_|refine blk_alloc ?_ _));refine blk_far ?_ NB1063_1066.out _;(with_reducible repeat (first|refine blk_drewN ?_ _|refine blk_drew ?_|refine blk_alloc ?_ _));exact BK1063.out⟩, ⟨by (with_reducible repeat (first|refine blk_drewN ?_ _|refine blk_drew ?_|refine blk_alloc ?_ _));refine blk_put (cs := #[.bool ((rd_T137 l0_3 x5_3).f0), .int .i64 ((rd_T137 l0_3 x5_3).f1), .int .i64 ((rd_T137 l0_3 x5_3).f2), .int .i64 0]) ?_ 3 _ rfl;(with_reducible repeat (first|refine blk_drewN ?_ _|refine blk_drew ?_|refine blk_alloc ?_ _));refine blk_put (cs := #[.bool ((rd_T137 l0_3 x5_3).f0), .int .i64 ((rd_T137 l0_3 x5_3).f1), .int .i64 0, .int .i64 0]) ?_ 2 _ rfl;(with_reducible repeat (first|refine blk_drewN ?_ _|refine blk_drew ?_|refine blk_alloc ?_ _));refine blk_put (cs := #[.bool ((rd_T137 l0_3 x5_3).f0), .int .i64 0, .int .i64 0, .int .i64 0]) ?_ 1 _ rfl;(with_reducible repeat (first|refine blk_drewN ?_ _|refine blk_drew ?_|refine blk_alloc ?_ _));refine blk_put (cs := #[.bool false, .int .i64 0, .int .i64 0, .int .i64 0]) ?_ 0 _ rfl;(with_reducible repeat (first|refine blk_drewN ?_ _|refine blk_drew ?_|refine blk_alloc ?_ _));exact BK1066.out⟩, ⟨by repeat (first|(with_reducible first|exact HB.out|apply below_alloc|apply pw_below_drewN|apply below_drew1|refine below_set ?_ GE1060.out|refine below_set ?_ GE1063.out|refine below_set ?_ GE1066.out)|exact HB.out)⟩⟩
              ·
               replace c34 := Bool.eq_false_iff.mpr c34
               subst c34
               have H1 : (spec_DeltaFault.j3 k3 x5_3 true a0_0 a0_1 l0_2 l0_3 ((rd_T137 l0_3 x5_3).f0) ((rd_T137 l0_3 x5_3).f1) ((rd_T137 l0_3 x5_3).f2) ((rd_T137 l0_3 x5_3).f3)) = some r := by rw [if_neg (show ¬ (false = true) by decide)] at H;exact H
               clear H
               have H := H1
               clear H1
               have H' := Aside0.mk H
               clear H
               have hnb39 := NB1066_1060.out
               have hnc39 := NB1060_1066.out
               have hnb40 := NB1066_1063.out
               have hnc40 := NB1063_1066.out
               have hcz41_0 : w27.cell? ⟨gb1066, 0, none⟩ = some (.bool false) := (blk_cell BK1066.out 0).trans rfl
               have hcz41_1 : w27.cell? ⟨gb1066, 1, none⟩ = some (.int .i64 0) := (blk_cell BK1066.out 1).trans rfl
               have hcz41_2 : w27.cell? ⟨gb1066, 2, none⟩ = some (.int .i64 0) := (blk_cell BK1066.out 2).trans rfl
               have hcz41_3 : w27.cell? ⟨gb1066, 3, none⟩ = some (.int .i64 0) := (blk_cell BK1066.out 3).trans rfl
               have hfz41_0 := blk_frozen BK1066.out 0
               have hfz41_1 := blk_frozen BK1066.out 1
               have hfz41_2 := blk_frozen BK1066.out 2
               have hfz41_3 := blk_frozen BK1066.out 3
               go_wp2_with (first|((with_reducible refine gate_callee (f := 101) rfl ?_);refine goesL_ (some 48) rfl rfl Try.func101 (by kernel_rfl) rfl #[.int .i64 ((rd_T137 l0_3 x5_3).f1)] rfl (by (try simp only [List.map_toArray, List.map_cons, List.map_nil]);first|done|rfl|(simp only [List.length_drop, List.length_take];rfl)) ?_;(with_reducible refine (spec_l5Id.calls ((rd_T137 l0_3 x5_3).f1) true _ A31.out).mono ?_);rintro e w' ⟨rfl, ⟨nd, rfl⟩⟩;refine ⟨_, rfl, ?_⟩)|(go_at_call 102;(with_reducible refine (spec_l4Place.calls ((rd_T137 l0_3 x5_3).f2) false _ A33.out).mono ?_);rintro e w' ⟨rfl, ⟨nd, rfl⟩⟩))
               go_meet
               case rel => exact ⟨_, (true), (by first|rfl|(simp;done)|(simp [*];done)), H', ⟨by have := HJ1.out;have := HJ9.out;have := HK3.out;first|omega|exact Nat.le_refl _⟩, ⟨by (with_reducible repeat (first|refine blk_drewN ?_ _|refine blk_drew ?_|refine blk_alloc ?_ _));refine blk_far ?_ NB1060_1066.out _;(with_reducible repeat (first|refine blk_drewN ?_ _|refine blk_drew ?_|refine blk_alloc ?_ _));refine blk_far ?_ NB1060_1066.out _;(with_reducible repeat (first|refine blk_drewN ?_ _|refine blk_drew ?_|refine blk_alloc ?_ _));refine blk_far ?_ NB1060_1066.out _;(with_reducible repeat (first|refine blk_drewN ?_ _|refine blk_drew ?_|refine blk_alloc ?_ _));refine blk_far ?_ NB1060_1066.out _;(with_reducible repeat (first|refine blk_drewN ?_ _|refine blk_drew ?_|refine blk_alloc ?_ _));exact BK1060.out⟩, ⟨by (with_reducible repeat (first|refine blk_drewN ?_ _|refine blk_drew ?_|refine blk_alloc ?_ _));refine blk_far ?_ NB1063_1066.out _;(with_reducible repeat (first|refine blk_drewN ?_ _|refine blk_drew ?_|refine blk_alloc ?_ _));refine blk_far ?_ NB1063_1066.out _;(with_reducible repeat (first|refine blk_drewN ?_ _|refine blk_drew ?_|refine blk_alloc ?_ _));refine blk_far ?_ NB1063_1066.out _;(with_reducible repeat (first|refine blk_drewN ?_ _|refine blk_drew ?_|refine blk_alloc ?_ _));refine blk_far ?_ NB1063_1066.out _;(with_reducible repeat (first|refine blk_drewN ?_ _|refine blk_drew ?_|refine blk_alloc ?_ _));exact BK1063.out⟩, ⟨by (with_reducible repeat (first|refine blk_drewN ?_ _|refine blk_drew ?_|refine blk_alloc ?_ _));refine blk_put (cs := #[.bool ((rd_T137 l0_3 x5_3).f0), .int .i64 ((rd_T137 l0_3 x5_3).f1), .int .i64 ((rd_T137 l0_3 x5_3).f2), .int .i64 0]) ?_ 3 _ rfl;(with_reducible repeat (first|refine blk_drewN ?_ _|refine blk_drew ?_|refine blk_alloc ?_ _));refine blk_put (cs := #[.bool ((rd_T137 l0_3 x5_3).f0), .int .i64 ((rd_T137 l0_3 x5_3).f1), .int .i64 0, .int .i64 0]) ?_ 2 _ rfl;(with_reducible repeat (first|refine blk_drewN ?_ _|refine blk_drew ?_|refine blk_alloc ?_ _));refine blk_put (cs := #[.bool ((rd_T137 l0_3 x5_3).f0), .int .i64 0, .int .i64 0, .int .i64 0]) ?_ 1 _ rfl;(with_reducible repeat (first|refine blk_drewN ?_ _|refine blk_drew ?_|refine blk_alloc ?_ _));refine blk_put (cs := #[.bool false, .int .i64 0, .int .i64 0, .int .i64 0]) ?_ 0 _ rfl;(with_reducible repeat (first|refine blk_drewN ?_ _|refine blk_drew ?_|refine blk_alloc ?_ _));exact BK1066.out⟩, ⟨by repeat (first|(with_reducible first|exact HB.out|apply below_alloc|apply pw_below_drewN|apply below_drew1|refine below_set ?_ GE1060.out|refine below_set ?_ GE1063.out|refine below_set ?_ GE1066.out)|exact HB.out)⟩⟩
             ·
              replace c32 := Bool.eq_false_iff.mpr c32
              subst c32
              have H1 : (spec_DeltaFault.j3 k3 x5_3 true a0_0 a0_1 l0_2 l0_3 ((rd_T137 l0_3 x5_3).f0) ((rd_T137 l0_3 x5_3).f1) ((rd_T137 l0_3 x5_3).f2) ((rd_T137 l0_3 x5_3).f3)) = some r := by rw [if_neg (show ¬ (false = true) by decide)] at H;exact H
              clear H
              have H := H1
              clear H1
              have H' := Aside0.mk H
              clear H
              have hnb42 := NB1066_1060.out
              have hnc42 := NB1060_1066.out
              have hnb43 := NB1066_1063.out
              have hnc43 := NB1063_1066.out
              have hcz44_0 : w27.cell? ⟨gb1066, 0, none⟩ = some (.bool false) := (blk_cell BK1066.out 0).trans rfl
              have hcz44_1 : w27.cell? ⟨gb1066, 1, none⟩ = some (.int .i64 0) := (blk_cell BK1066.out 1).trans rfl
              have hcz44_2 : w27.cell? ⟨gb1066, 2, none⟩ = some (.int .i64 0) := (blk_cell BK1066.out 2).trans rfl
              have hcz44_3 : w27.cell? ⟨gb1066, 3, none⟩ = some (.int .i64 0) := (blk_cell BK1066.out 3).trans rfl
              have hfz44_0 := blk_frozen BK1066.out 0
              have hfz44_1 := blk_frozen BK1066.out 1
              have hfz44_2 := blk_frozen BK1066.out 2
              have hfz44_3 := blk_frozen BK1066.out 3
              go_wp2_with (first|((with_reducible refine gate_callee (f := 101) rfl ?_);refine goesL_ (some 48) rfl rfl Try.func101 (by kernel_rfl) rfl #[.int .i64 ((rd_T137 l0_3 x5_3).f1)] rfl (by (try simp only [List.map_toArray, List.map_cons, List.map_nil]);first|done|rfl|(simp only [List.length_drop, List.length_take];rfl)) ?_;(with_reducible refine (spec_l5Id.calls ((rd_T137 l0_3 x5_3).f1) false _ A31.out).mono ?_);rintro e w' ⟨rfl, ⟨nd, rfl⟩⟩;refine ⟨_, rfl, ?_⟩))
              go_meet
              case rel => exact ⟨_, (true), (by first|rfl|(simp;done)|(simp [*];done)), H', ⟨by have := HJ1.out;have := HJ9.out;have := HK3.out;first|omega|exact Nat.le_refl _⟩, ⟨by (with_reducible repeat (first|refine blk_drewN ?_ _|refine blk_drew ?_|refine blk_alloc ?_ _));refine blk_far ?_ NB1060_1066.out _;(with_reducible repeat (first|refine blk_drewN ?_ _|refine blk_drew ?_|refine blk_alloc ?_ _));refine blk_far ?_ NB1060_1066.out _;(with_reducible repeat (first|refine blk_drewN ?_ _|refine blk_drew ?_|refine blk_alloc ?_ _));refine blk_far ?_ NB1060_1066.out _;(with_reducible repeat (first|refine blk_drewN ?_ _|refine blk_drew ?_|refine blk_alloc ?_ _));refine blk_far ?_ NB1060_1066.out _;(with_reducible repeat (first|refine blk_drewN ?_ _|refine blk_drew ?_|refine blk_alloc ?_ _));exact BK1060.out⟩, ⟨by (with_reducible repeat (first|refine blk_drewN ?_ _|refine blk_drew ?_|refine blk_alloc ?_ _));refine blk_far ?_ NB1063_1066.out _;(with_reducible repeat (first|refine blk_drewN ?_ _|refine blk_drew ?_|refine blk_alloc ?_ _));refine blk_far ?_ NB1063_1066.out _;(with_reducible repeat (first|refine blk_drewN ?_ _|refine blk_drew ?_|refine blk_alloc ?_ _));refine blk_far ?_ NB1063_1066.out _;(with_reducible repeat (first|refine blk_drewN ?_ _|refine blk_drew ?_|refine blk_alloc ?_ _));refine blk_far ?_ NB1063_1066.out _;(with_reducible repeat (first|refine blk_drewN ?_ _|refine blk_drew ?_|refine blk_alloc ?_ _));exact BK1063.out⟩, ⟨by (with_reducible repeat (first|refine blk_drewN ?_ _|refine blk_drew ?_|refine blk_alloc ?_ _));refine blk_put (cs := #[.bool ((rd_T137 l0_3 x5_3).f0), .int .i64 ((rd_T137 l0_3 x5_3).f1), .int .i64 ((rd_T137 l0_3 x5_3).f2), .int .i64 0]) ?_ 3 _ rfl;(with_reducible repeat (first|refine blk_drewN ?_ _|refine blk_drew ?_|refine blk_alloc ?_ _));refine blk_put (cs := #[.bool ((rd_T137 l0_3 x5_3).f0), .int .i64 ((rd_T137 l0_3 x5_3).f1), .int .i64 0, .int .i64 0]) ?_ 2 _ rfl;(with_reducible repeat (first|refine blk_drewN ?_ _|refine blk_drew ?_|refine blk_alloc ?_ _));refine blk_put (cs := #[.bool ((rd_T137 l0_3 x5_3).f0), .int .i64 0, .int .i64 0, .int .i64 0]) ?_ 1 _ rfl;(with_reducible repeat (first|refine blk_drewN ?_ _|refine blk_drew ?_|refine blk_alloc ?_ _));refine blk_put (cs := #[.bool false, .int .i64 0, .int .i64 0, .int .i64 0]) ?_ 0 _ rfl;(with_reducible repeat (first|refine blk_drewN ?_ _|refine blk_drew ?_|refine blk_alloc ?_ _));exact BK1066.out⟩, ⟨by repeat (first|(with_reducible first|exact HB.out|apply below_alloc|apply pw_below_drewN|apply below_drew1|refine below_set ?_ GE1060.out|refine below_set ?_ GE1063.out|refine below_set ?_ GE1066.out)|exact HB.out)⟩⟩
            case rest =>
             clear HC24
             try clear c1
             try clear p1
             try clear q1
             try clear hx1
             try clear c2
             try clear p2
             try clear c3
             try clear c4
             try clear c5
             try clear c9
             try clear c10
             try clear p10
             try clear q10
             try clear hx10
             try clear c11
             try clear c11b0
             try clear c11b1
             try clear c14
             try clear c16
             try clear c16b0
             try clear c16b1
             try clear c19
             try clear c22
             try clear c22b0
             try clear c23
             try clear c23b0
             try clear c25
             try clear c28
             try clear c29
             try clear c32
             try clear c34
             try clear c36
             try clear c37
             try clear c39
             try clear c40
             try clear c42
             try clear c43
             try clear hcz12_0
             try clear hcz12_1
             try clear hcz12_2
             try clear hcz12_3
             try clear hcz13_0
             try clear hcz13_1
             try clear hcz13_2
             try clear hcz13_3
             try clear hcz17_0
             try clear hcz17_1
             try clear hcz17_2
             try clear hcz17_3
             try clear hcz20_0
             try clear hcz20_1
             try clear hcz20_2
             try clear hcz20_3
             try clear hcz26_0
             try clear hcz26_1
             try clear hcz26_2
             try clear hcz26_3
             try clear hcz30_0
             try clear hcz30_1
             try clear hcz30_2
             try clear hcz30_3
             try clear hcz38_0
             try clear hcz38_1
             try clear hcz38_2
             try clear hcz38_3
             try clear hcz41_0
             try clear hcz41_1
             try clear hcz41_2
             try clear hcz41_3
             try clear hcz44_0
             try clear hcz44_1
             try clear hcz44_2
             try clear hcz44_3
             try clear hcz7_0
             try clear hcz7_1
             try clear hcz7_2
             try clear hcz7_3
             try clear hcz8_0
             try clear hcz8_1
             try clear hcz8_2
             try clear hcz8_3
             try clear hfz12_0
             try clear hfz12_1
             try clear hfz12_2
             try clear hfz12_3
             try clear hfz13_0
             try clear hfz13_1
             try clear hfz13_2
             try clear hfz13_3
             try clear hfz17_0
             try clear hfz17_1
             try clear hfz17_2
             try clear hfz17_3
             try clear hfz20_0
             try clear hfz20_1
             try clear hfz20_2
             try clear hfz20_3
             try clear hfz26_0
             try clear hfz26_1
             try clear hfz26_2
             try clear hfz26_3
             try clear hfz30_0
             try clear hfz30_1
             try clear hfz30_2
             try clear hfz30_3
             try clear hfz38_0
             try clear hfz38_1
             try clear hfz38_2
             try clear hfz38_3
             try clear hfz41_0
             try clear hfz41_1
             try clear hfz41_2
             try clear hfz41_3
             try clear hfz44_0
             try clear hfz44_1
             try clear hfz44_2
             try clear hfz44_3
             try clear hfz7_0
             try clear hfz7_1
             try clear hfz7_2
             try clear hfz7_3
             try clear hfz8_0
             try clear hfz8_1
             try clear hfz8_2
             try clear hfz8_3
             try clear hx1065_0
             try clear hx1065_1
             try clear hx1065_2
             try clear hx1065_3
             try clear p1065
             try clear p2
             try clear q1065
             obtain ⟨kq, x61_23, rfl, HA, HJ23, BK1060, BK1063, BK1066, HB⟩ := hcut
             cases kq with
             | zero => exact absurd HA.out (by simp [spec_DeltaFault.j3])
             | succ kj23 =>
              have H := HA.out
              clear HA
              simp only [spec_DeltaFault.j3] at H
              by_cases c45 : x61_23 = true
              ·
               subst c45
               have H1 : (some 3) = some r := by rw [if_pos rfl] at H;exact H
               clear H
               have H := H1
               clear H1
               obtain rfl := Option.some.inj H
               go_wp2
               go_ret
               exact ⟨by first|rfl|(simp [errW_none, errW_some] <;> rfl)|(simp [*, errW_none, errW_some] <;> rfl), by repeat (first|(with_reducible first|exact HB.out|apply below_alloc|apply pw_below_drewN|apply below_drew1|refine below_set ?_ GE1060.out|refine below_set ?_ GE1063.out|refine below_set ?_ GE1066.out)|exact HB.out)⟩
              ·
               replace c45 := Bool.eq_false_iff.mpr c45
               subst c45
               have H1 : (if ((rd_T137 l0_3 x5_3).f0) = true then (if x5_3 > 0 then (if 0 ≤ (wrap64 (x5_3 - 1)) then (if (wrap64 (x5_3 - 1)) < (l0_3.length : Int) then ((spec_l7Ahead.f ((rd_T137 l0_3 (wrap64 (x5_3 - 1))).f0) ((rd_T137 l0_3 (wrap64 (x5_3 - 1))).f1) ((rd_T137 l0_3 (wrap64 (x5_3 - 1))).f2) ((rd_T137 l0_3 (wrap64 (x5_3 - 1))).f3) ((rd_T137 l0_3 x5_3).f0) ((rd_T137 l0_3 x5_3).f1) ((rd_T137 l0_3 x5_3).f2) ((rd_T137 l0_3 x5_3).f3)).bind fun t1071 => (if t1071 = true then (spec_DeltaFault.l0 kj23 (wrap64 (x5_3 + 1)) a0_0 a0_1 l0_2 l0_3) else (some 1))) else (none)) else (none)) else (spec_DeltaFault.l0 kj23 (wrap64 (x5_3 + 1)) a0_0 a0_1 l0_2 l0_3)) else (if ((rd_T137 l0_3 x5_3).f3) = 0 then (if x5_3 > 0 then (if 0 ≤ (wrap64 (x5_3 - 1)) then (if (wrap64 (x5_3 - 1)) < (l0_3.length : Int) then ((spec_l7Ahead.f ((rd_T137 l0_3 (wrap64 (x5_3 - 1))).f0) ((rd_T137 l0_3 (wrap64 (x5_3 - 1))).f1) ((rd_T137 l0_3 (wrap64 (x5_3 - 1))).f2) ((rd_T137 l0_3 (wrap64 (x5_3 - 1))).f3) ((rd_T137 l0_3 x5_3).f0) ((rd_T137 l0_3 x5_3).f1) ((rd_T137 l0_3 x5_3).f2) ((rd_T137 l0_3 x5_3).f3)).bind fun t1073 => (if t1073 = true then (spec_DeltaFault.l0 kj23 (wrap64 (x5_3 + 1)) a0_0 a0_1 l0_2 l0_3) else (some 1))) else (none)) else (none)) else (spec_DeltaFault.l0 kj23 (wrap64 (x5_3 + 1)) a0_0 a0_1 l0_2 l0_3)) else (some 1))) = some r := by rw [if_neg (show ¬ (false = true) by decide)] at H;exact H
               clear H
               have H := H1
               clear H1
               by_cases c46 : ((rd_T137 l0_3 x5_3).f0) = true
               ·
                rw [if_pos c46] at H
                have c46b0 : ((rd_T137 l0_3 x5_3).f0) = true := c46
                clear c46
                by_cases c47 : x5_3 > 0
                ·
                 rw [if_pos c47] at H
                 have c47b0 : decide (0 < x5_3) = true := decide_eq_true c47
                 clear c47
                 obtain ⟨ji48, hji48⟩ : ∃ j_ : Int, (wrap64 (x5_3 - 1)) = j_ := ⟨_, rfl⟩
                 replace H : (if 0 ≤ (ji48) then (if (ji48) < (l0_3.length : Int) then ((spec_l7Ahead.f ((rd_T137 l0_3 (ji48)).f0) ((rd_T137 l0_3 (ji48)).f1) ((rd_T137 l0_3 (ji48)).f2) ((rd_T137 l0_3 (ji48)).f3) ((rd_T137 l0_3 x5_3).f0) ((rd_T137 l0_3 x5_3).f1) ((rd_T137 l0_3 x5_3).f2) ((rd_T137 l0_3 x5_3).f3)).bind fun t1071 => (if t1071 = true then (spec_DeltaFault.l0 kj23 (wrap64 (x5_3 + 1)) a0_0 a0_1 l0_2 l0_3) else (some 1))) else (none)) else (none)) = some r := by first|(rw [hji48] at H;exact H)|(simp only [hji48] at H ⊢;exact H)
                 have hji48w : (IntKind.i64.wrap (x5_3 - 1)) = ji48 := (i64_w _).trans hji48
                 by_cases c49 : 0 ≤ (ji48)
                 ·
                  rw [if_pos c49] at H
                  have c49b0 : decide (0 ≤ (ji48)) = true := decide_eq_true c49
                  clear c49
                  by_cases c50 : (ji48) < (l0_3.length : Int)
                  ·
                   rw [if_pos c50] at H
                   have c50b0 : decide ((ji48) < (l0_3.length : Int)) = true := decide_eq_true c50
                   clear c50
                   replace H := Option.bind_eq_some_iff.mp H
                   obtain ⟨t1071, A510, H⟩ := H
                   replace H : (if t1071 = true then (spec_DeltaFault.l0 kj23 (wrap64 (x5_3 + 1)) a0_0 a0_1 l0_2 l0_3) else (some 1)) = some r := H
                   have A51 := Aside0.mk A510
                   clear A510
                   by_cases c52 : t1071 = true
                   ·
                    subst c52
                    have H1 : (spec_DeltaFault.l0 kj23 (wrap64 (x5_3 + 1)) a0_0 a0_1 l0_2 l0_3) = some r := by rw [if_pos rfl] at H;exact H
                    clear H
                    have H := H1
                    clear H1
                    have H' := Aside0.mk H
                    clear H
                    try go_wp2
                    have n0_ := Aside0.mk (blk_drew BK1060.out)
                    have n1_ := Aside0.mk (blk_drew BK1063.out)
                    have n2_ := Aside0.mk (blk_drew BK1066.out)
                    have n3_ := Aside0.mk (below_drew1 HB.out)
                    clear BK1060
                    clear BK1063
                    clear BK1066
                    clear HB
                    have BK1060 := n0_
                    have BK1063 := n1_
                    have BK1066 := n2_
                    have HB := n3_
                    clear n0_ n1_ n2_ n3_
                    have p1070 : 0 ≤ ((ji48) : Int) := of_decide_eq_true (by first|(with_reducible assumption)|assumption)
                    have q1070 : (ji48) < (l0_3.length : Int) := of_decide_eq_true (by first|(with_reducible assumption)|assumption)
                    obtain ⟨ad1070, e1070, hx1070_0, hx1070_1, hx1070_2, hx1070_3⟩ := at_T137 HR0_3.out (ji48) p1070 q1070
                    have hw1070_3 := hx1070_3
                    have hw1070_2 := hx1070_2
                    have hw1070_1 := hx1070_1
                    have hw1070_0 := hx1070_0
                    obtain rfl : ad1065 = ad1070 := (by injection e1070)
                    replace hx1070_0 := (HB.out.cell (World.block_lt_of_cell? w _ hx1070_0)).trans hx1070_0
                    replace hx1070_1 := (HB.out.cell (World.block_lt_of_cell? w _ hx1070_1)).trans hx1070_1
                    replace hx1070_2 := (HB.out.cell (World.block_lt_of_cell? w _ hx1070_2)).trans hx1070_2
                    replace hx1070_3 := (HB.out.cell (World.block_lt_of_cell? w _ hx1070_3)).trans hx1070_3
                    replace p1070 := eq_true p1070
                    replace q1070 := eq_true q1070
                    refine start_ (n := 23) (S := fun w' => w'.cell? ⟨gb1066, 0, none⟩ = some (.bool ((rd_T137 l0_3 x5_3).f0)) ∧ w'.cell? ⟨gb1066, 1, none⟩ = some (.int .i64 ((rd_T137 l0_3 x5_3).f1)) ∧ w'.cell? ⟨gb1066, 2, none⟩ = some (.int .i64 ((rd_T137 l0_3 x5_3).f2)) ∧ w'.cell? ⟨gb1066, 3, none⟩ = some (.int .i64 ((rd_T137 l0_3 x5_3).f3)) ∧ w'.cell? ⟨gb1060, 0, none⟩ = some (.int .i64 a0_0) ∧ w'.cell? ⟨gb1060, 1, none⟩ = some (.int .i64 a0_1) ∧ w'.cell? ⟨gb1060, 2, none⟩ = some (.slice A0_2 l0_2.length c0_2) ∧ w'.cell? ⟨gb1060, 3, none⟩ = some (.slice (some ad1065) l0_3.length c0_3) ∧ w'.cell? (ad1065.add (((ji48)).toNat * 4)) = some (.bool ((rd_T137 l0_3 (ji48)).f0)) ∧ w'.cell? ⟨(ad1065.add (((ji48)).toNat * 4)).block, (ad1065.add (((ji48)).toNat * 4)).off + 1, none⟩ = some (.int .i64 ((rd_T137 l0_3 (ji48)).f1)) ∧ w'.cell? ⟨(ad1065.add (((ji48)).toNat * 4)).block, (ad1065.add (((ji48)).toNat * 4)).off + 2, none⟩ = some (.int .i64 ((rd_T137 l0_3 (ji48)).f2)) ∧ w'.cell? ⟨(ad1065.add (((ji48)).toNat * 4)).block, (ad1065.add (((ji48)).toNat * 4)).off + 3, none⟩ = some (.int .i64 ((rd_T137 l0_3 (ji48)).f3))) (ds := []) #[false, false, false, false, false, false, false, false, false, false, false, false, false, false, false, false, false, false, false, false, false, false, false] (by kernel_rfl) rfl rfl ⟨(blk_cell BK1066.out 0).trans rfl, (blk_cell BK1066.out 1).trans rfl, (blk_cell BK1066.out 2).trans rfl, (blk_cell BK1066.out 3).trans rfl, (blk_cell BK1060.out 0).trans rfl, (blk_cell BK1060.out 1).trans rfl, (blk_cell BK1060.out 2).trans rfl, (blk_cell BK1060.out 3).trans rfl, ((HB.out.cell (World.block_lt_of_cell? w _ hw1070_0)).trans hw1070_0), ((HB.out.cell (World.block_lt_of_cell? w _ hw1070_1)).trans hw1070_1), ((HB.out.cell (World.block_lt_of_cell? w _ hw1070_2)).trans hw1070_2), ((HB.out.cell (World.block_lt_of_cell? w _ hw1070_3)).trans hw1070_3)⟩ (fun hHeld => ?_);refine with_tabW spec_DeltaFault.tab15 spec_DeltaFault.bits15 (fun HT_ HW_ => ?_)
                    generalize wc.drew = w53 at BK1060 BK1063 BK1066 HB hx1070_0 hx1070_1 hx1070_2 hx1070_3 hHeld ⊢
                    refine pure_ (i := 0) (N := some 62) (v := ?_) (a' := ?_) #[true, false, false, false, false, false, false, false, false, false, false, false, false, false, false, false, false, false, false, false, false, false, false] rfl rfl (any_of HT_.out (by kernel_rfl)) (fun _ _ _ h => h) (Or.inl ⟨by rfl, ?_⟩) ?_ ?_
                    rotate_left
                    ·
                     intro w'
                     go_simp
                     with_reducible rfl
                    rotate_left
                    ·
                     simp only [Act.put, List.setIfInBounds_toArray, List.set_cons_zero, List.set_cons_succ, i64_w, i32_w]
                     rfl
                    refine take_ (i := 1) (N := some 63) (v := ?_) (a' := ?_) #[true, true, false, false, false, false, false, false, false, false, false, false, false, false, false, false, false, false, false, false, false, false, false] rfl rfl (take_ofW HT_.out HW_.out (by kernel_rfl)) (fun _ _ _ h => h) (Or.inl ⟨by rfl, ?_⟩) hHeld ?_ ?_
                    rotate_left
                    ·
                     rintro w' ⟨s0, s1, s2, s3, s4, s5, s6, s7, s8, s9, s10, s11⟩
                     go_simp
                     with_reducible rfl
                    rotate_left
                    ·
                     simp only [Act.put, List.setIfInBounds_toArray, List.set_cons_zero, List.set_cons_succ, i64_w, i32_w]
                     rfl
                    refine pure_ (i := 2) (N := some 64) (v := ?_) (a' := ?_) #[true, true, true, false, false, false, false, false, false, false, false, false, false, false, false, false, false, false, false, false, false, false, false] rfl rfl (any_of HT_.out (by kernel_rfl)) (fun _ _ _ h => h) (Or.inl ⟨by rfl, ?_⟩) ?_ ?_
                    rotate_left
                    ·
                     intro w'
                     go_simp
                     with_reducible rfl
                    rotate_left
                    ·
                     simp only [Act.put, List.setIfInBounds_toArray, List.set_cons_zero, List.set_cons_succ, i64_w, i32_w]
                     rfl
                    refine pure_ (i := 3) (N := some 65) (v := ?_) (a' := ?_) #[true, true, true, true, false, false, false, false, false, false, false, false, false, false, false, false, false, false, false, false, false, false, false] rfl rfl (any_of HT_.out (by kernel_rfl)) (fun _ _ _ h => h) (Or.inl ⟨by rfl, ?_⟩) ?_ ?_
                    rotate_left
                    ·
                     intro w'
                     go_simp
                     with_reducible rfl
                    rotate_left
                    ·
                     simp only [Act.put, List.setIfInBounds_toArray, List.set_cons_zero, List.set_cons_succ, i64_w, i32_w]
                     rfl
                    refine pure_ (i := 4) (N := some 66) (v := undef) (a' := ?_) #[true, true, true, true, true, false, false, false, false, false, false, false, false, false, false, false, false, false, false, false, false, false, false] rfl rfl (any_of HT_.out (by kernel_rfl)) (fun _ _ _ h => h) (Or.inr ⟨by rfl, rfl⟩) ?_ ?_
                    rotate_left
                    ·
                     simp only [Act.put, List.setIfInBounds_toArray, List.set_cons_zero, List.set_cons_succ, i64_w, i32_w]
                     rfl
                    refine pure_ (i := 5) (N := some 67) (v := undef) (a' := ?_) #[true, true, true, true, true, true, false, false, false, false, false, false, false, false, false, false, false, false, false, false, false, false, false] rfl rfl (any_of HT_.out (by kernel_rfl)) (fun _ _ _ h => h) (Or.inr ⟨by rfl, rfl⟩) ?_ ?_
                    rotate_left
                    ·
                     simp only [Act.put, List.setIfInBounds_toArray, List.set_cons_zero, List.set_cons_succ, i64_w, i32_w]
                     rfl
                    refine pure_ (i := 6) (N := some 68) (v := undef) (a' := ?_) #[true, true, true, true, true, true, true, false, false, false, false, false, false, false, false, false, false, false, false, false, false, false, false] rfl rfl (any_of HT_.out (by kernel_rfl)) (fun _ _ _ h => h) (Or.inr ⟨by rfl, rfl⟩) ?_ ?_
                    rotate_left
                    ·
                     simp only [Act.put, List.setIfInBounds_toArray, List.set_cons_zero, List.set_cons_succ, i64_w, i32_w]
                     rfl
                    refine pure_ (i := 7) (N := some 69) (v := ?_) (a' := ?_) #[true, true, true, true, true, true, true, true, false, false, false, false, false, false, false, false, false, false, false, false, false, false, false] rfl rfl (any_of HT_.out (by kernel_rfl)) (fun _ _ _ h => h) (Or.inl ⟨by rfl, ?_⟩) ?_ ?_
                    rotate_left
                    ·
                     intro w'
                     go_simp
                     with_reducible rfl
                    rotate_left
                    ·
                     simp only [Act.put, List.setIfInBounds_toArray, List.set_cons_zero, List.set_cons_succ, i64_w, i32_w]
                     rfl
                    refine pure_ (i := 8) (N := some 70) (v := ?_) (a' := ?_) #[true, true, true, true, true, true, true, true, true, false, false, false, false, false, false, false, false, false, false, false, false, false, false] rfl rfl (any_of HT_.out (by kernel_rfl)) (fun _ _ _ h => h) (Or.inl ⟨by rfl, ?_⟩) ?_ ?_
                    rotate_left
                    ·
                     intro w'
                     go_simp
                     with_reducible rfl
                    rotate_left
                    ·
                     simp only [Act.put, List.setIfInBounds_toArray, List.set_cons_zero, List.set_cons_succ, i64_w, i32_w]
                     rfl
                    refine pure_ (i := 9) (N := some 71) (v := ?_) (a' := ?_) #[true, true, true, true, true, true, true, true, true, true, false, false, false, false, false, false, false, false, false, false, false, false, false] rfl rfl (any_of HT_.out (by kernel_rfl)) (fun _ _ _ h => h) (Or.inl ⟨by rfl, ?_⟩) ?_ ?_
                    rotate_left
                    ·
                     intro w'
                     go_simp
                     with_reducible rfl
                    rotate_left
                    ·
                     simp only [Act.put, List.setIfInBounds_toArray, List.set_cons_zero, List.set_cons_succ, i64_w, i32_w]
                     rfl
                    refine pure_ (i := 10) (N := some 72) (v := ?_) (a' := ?_) #[true, true, true, true, true, true, true, true, true, true, true, false, false, false, false, false, false, false, false, false, false, false, false] rfl rfl (any_of HT_.out (by kernel_rfl)) (fun _ _ _ h => h) (Or.inl ⟨by rfl, ?_⟩) ?_ ?_
                    rotate_left
                    ·
                     intro w'
                     go_simp
                     with_reducible rfl
                    rotate_left
                    ·
                     simp only [Act.put, List.setIfInBounds_toArray, List.set_cons_zero, List.set_cons_succ, i64_w, i32_w]
                     rfl
                    refine pure_ (i := 11) (N := some 73) (v := ?_) (a' := ?_) #[true, true, true, true, true, true, true, true, true, true, true, true, false, false, false, false, false, false, false, false, false, false, false] rfl rfl (any_of HT_.out (by kernel_rfl)) (fun _ _ _ h => h) (Or.inl ⟨by rfl, ?_⟩) ?_ ?_
                    rotate_left
                    ·
                     intro w'
                     go_simp
                     with_reducible rfl
                    rotate_left
                    ·
                     simp only [Act.put, List.setIfInBounds_toArray, List.set_cons_zero, List.set_cons_succ, i64_w, i32_w]
                     rfl
                    refine pure_ (i := 12) (N := some 74) (v := ?_) (a' := ?_) #[true, true, true, true, true, true, true, true, true, true, true, true, true, false, false, false, false, false, false, false, false, false, false] rfl rfl (any_of HT_.out (by kernel_rfl)) (fun _ _ _ h => h) (Or.inl ⟨by rfl, ?_⟩) ?_ ?_
                    rotate_left
                    ·
                     intro w'
                     go_simp
                     with_reducible rfl
                    rotate_left
                    ·
                     simp only [Act.put, List.setIfInBounds_toArray, List.set_cons_zero, List.set_cons_succ, i64_w, i32_w]
                     rfl
                    refine pure_ (i := 14) (N := some 76) (v := ?_) (a' := ?_) #[true, true, true, true, true, true, true, true, true, true, true, true, true, false, true, false, false, false, false, false, false, false, false] rfl rfl (any_of HT_.out (by kernel_rfl)) (fun _ _ _ h => h) (Or.inl ⟨by rfl, ?_⟩) ?_ ?_
                    rotate_left
                    ·
                     intro w'
                     go_simp
                     with_reducible rfl
                    rotate_left
                    ·
                     simp only [Act.put, List.setIfInBounds_toArray, List.set_cons_zero, List.set_cons_succ, i64_w, i32_w]
                     rfl
                    refine pure_ (i := 15) (N := some 77) (v := ?_) (a' := ?_) #[true, true, true, true, true, true, true, true, true, true, true, true, true, false, true, true, false, false, false, false, false, false, false] rfl rfl (any_of HT_.out (by kernel_rfl)) (fun _ _ _ h => h) (Or.inl ⟨by rfl, ?_⟩) ?_ ?_
                    rotate_left
                    ·
                     intro w'
                     go_simp
                     with_reducible rfl
                    rotate_left
                    ·
                     simp only [Act.put, List.setIfInBounds_toArray, List.set_cons_zero, List.set_cons_succ, i64_w, i32_w]
                     rfl
                    refine take_ (i := 13) (N := some 75) (v := ?_) (a' := ?_) #[true, true, true, true, true, true, true, true, true, true, true, true, true, true, true, true, false, false, false, false, false, false, false] rfl rfl (take_ofW HT_.out HW_.out (by kernel_rfl)) (fun _ _ _ h => h) (Or.inl ⟨by rfl, ?_⟩) hHeld ?_ ?_
                    rotate_left
                    ·
                     rintro w' ⟨s0, s1, s2, s3, s4, s5, s6, s7, s8, s9, s10, s11⟩
                     go_simp
                     with_reducible rfl
                    rotate_left
                    ·
                     simp only [Act.put, List.setIfInBounds_toArray, List.set_cons_zero, List.set_cons_succ, i64_w, i32_w]
                     rfl
                    refine pure_ (i := 16) (N := some 78) (v := ?_) (a' := ?_) #[true, true, true, true, true, true, true, true, true, true, true, true, true, true, true, true, true, false, false, false, false, false, false] rfl rfl (any_of HT_.out (by kernel_rfl)) (fun _ _ _ h => h) (Or.inl ⟨by rfl, ?_⟩) ?_ ?_
                    rotate_left
                    ·
                     intro w'
                     go_simp
                     with_reducible rfl
                    rotate_left
                    ·
                     simp only [Act.put, List.setIfInBounds_toArray, List.set_cons_zero, List.set_cons_succ, i64_w, i32_w]
                     rfl
                    refine take_ (i := 17) (N := some 79) (v := ?_) (a' := ?_) #[true, true, true, true, true, true, true, true, true, true, true, true, true, true, true, true, true, true, false, false, false, false, false] rfl rfl (take_ofW HT_.out HW_.out (by kernel_rfl)) (fun _ _ _ h => h) (Or.inl ⟨by rfl, ?_⟩) hHeld ?_ ?_
                    rotate_left
                    ·
                     rintro w' ⟨s0, s1, s2, s3, s4, s5, s6, s7, s8, s9, s10, s11⟩
                     go_simp
                     with_reducible rfl
                    rotate_left
                    ·
                     simp only [Act.put, List.setIfInBounds_toArray, List.set_cons_zero, List.set_cons_succ, i64_w, i32_w]
                     rfl
                    refine take_ (i := 18) (N := some 80) (v := ?_) (a' := ?_) #[true, true, true, true, true, true, true, true, true, true, true, true, true, true, true, true, true, true, true, false, false, false, false] rfl rfl (take_ofW HT_.out HW_.out (by kernel_rfl)) (fun _ _ _ h => h) (Or.inl ⟨by rfl, ?_⟩) hHeld ?_ ?_
                    rotate_left
                    ·
                     rintro w' ⟨s0, s1, s2, s3, s4, s5, s6, s7, s8, s9, s10, s11⟩
                     go_simp
                     with_reducible rfl
                    rotate_left
                    ·
                     simp only [Act.put, List.setIfInBounds_toArray, List.set_cons_zero, List.set_cons_succ, i64_w, i32_w]
                     rfl
                    refine one_ (i := 19) (N := some 81) #[true, true, true, true, true, true, true, true, true, true, true, true, true, true, true, true, true, true, true, true, false, false, false] rfl rfl (one_of HT_.out (by kernel_rfl)) (by decide) (fun K hK => ?_)
                    refine goes_ Try.func104 (by kernel_rfl) rfl #[.agg #[.bool ((rd_T137 l0_3 (ji48)).f0), .int .i64 ((rd_T137 l0_3 (ji48)).f1), .int .i64 ((rd_T137 l0_3 (ji48)).f2), .int .i64 ((rd_T137 l0_3 (ji48)).f3)], .agg #[.bool ((rd_T137 l0_3 x5_3).f0), .int .i64 ((rd_T137 l0_3 x5_3).f1), .int .i64 ((rd_T137 l0_3 x5_3).f2), .int .i64 ((rd_T137 l0_3 x5_3).f3)]] (by rfl) rfl rfl (by (try simp only [List.map_toArray, List.map_cons, List.map_nil]);first|done|(simp only [hji48];rfl)|rfl|(simp only [List.length_drop, List.length_take];rfl)|(simp [Act.eval, *];done)) ?_
                    with_reducible refine (spec_l7Ahead.calls ((rd_T137 l0_3 (ji48)).f0) ((rd_T137 l0_3 (ji48)).f1) ((rd_T137 l0_3 (ji48)).f2) ((rd_T137 l0_3 (ji48)).f3) ((rd_T137 l0_3 x5_3).f0) ((rd_T137 l0_3 x5_3).f1) ((rd_T137 l0_3 x5_3).f2) ((rd_T137 l0_3 x5_3).f3) true _ A51.out).mono ?_
                    rintro e w54 ⟨rfl, hb⟩
                    refine ⟨_, rfl, ?_⟩
                    have n0_ := Aside0.mk (blk_below (g := gb1060) (o := .cells #[.int .i64 a0_0, .int .i64 a0_1, .slice A0_2 l0_2.length c0_2, .slice (some ad1065) l0_3.length c0_3] 84 (0, 0)) (by (with_reducible repeat (first|refine blk_drewN ?_ _|refine blk_drew ?_|refine blk_alloc ?_ _));exact BK1060.out) hb)
                    have n1_ := Aside0.mk (blk_below (g := gb1063) (o := .cells #[.int .i64 0, .slice A0_2 l0_2.length c0_2, .slice none 0 0, .slice none 0 0] 41 (0, 0)) (by (with_reducible repeat (first|refine blk_drewN ?_ _|refine blk_drew ?_|refine blk_alloc ?_ _));exact BK1063.out) hb)
                    have n2_ := Aside0.mk (blk_below (g := gb1066) (o := .cells #[.bool ((rd_T137 l0_3 x5_3).f0), .int .i64 ((rd_T137 l0_3 x5_3).f1), .int .i64 ((rd_T137 l0_3 x5_3).f2), .int .i64 ((rd_T137 l0_3 x5_3).f3)] 137 (0, 0)) (by (with_reducible repeat (first|refine blk_drewN ?_ _|refine blk_drew ?_|refine blk_alloc ?_ _));exact BK1066.out) hb)
                    have n3_ := Aside0.mk (below_step (by repeat (first|(with_reducible first|exact HB.out|apply below_alloc|apply pw_below_drewN|apply below_drew1|refine below_set ?_ GE1060.out|refine below_set ?_ GE1063.out|refine below_set ?_ GE1066.out)|exact HB.out)) hb)
                    clear BK1060
                    clear BK1063
                    clear BK1066
                    clear HB
                    have BK1060 := n0_
                    have BK1063 := n1_
                    have BK1066 := n2_
                    have HB := n3_
                    clear n0_ n1_ n2_ n3_
                    (try clear hb)
                    (try clear hb2)
                    (try clear hk)
                    (try clear hi)
                    refine hK.out _ _ ⟨(blk_cell BK1066.out 0).trans rfl, (blk_cell BK1066.out 1).trans rfl, (blk_cell BK1066.out 2).trans rfl, (blk_cell BK1066.out 3).trans rfl, (blk_cell BK1060.out 0).trans rfl, (blk_cell BK1060.out 1).trans rfl, (blk_cell BK1060.out 2).trans rfl, (blk_cell BK1060.out 3).trans rfl, ((HB.out.cell (World.block_lt_of_cell? w _ hw1070_0)).trans hw1070_0), ((HB.out.cell (World.block_lt_of_cell? w _ hw1070_1)).trans hw1070_1), ((HB.out.cell (World.block_lt_of_cell? w _ hw1070_2)).trans hw1070_2), ((HB.out.cell (World.block_lt_of_cell? w _ hw1070_3)).trans hw1070_3)⟩ (fun hHeld => ?_)
                    clear hK K
                    refine norm_ (a' := ?_) ?_ ?_
                    rotate_left
                    ·
                     show Act.put _ (some 81) _ = _
                     simp only [Act.put, List.setIfInBounds_toArray, List.set_cons_zero, List.set_cons_succ, i64_w, i32_w]
                     rfl
                    refine pure_ (i := 20) (N := some 82) (v := ?_) (a' := ?_) #[true, true, true, true, true, true, true, true, true, true, true, true, true, true, true, true, true, true, true, true, true, false, false] rfl rfl (any_of HT_.out (by kernel_rfl)) (fun _ _ _ h => h) (Or.inl ⟨by rfl, ?_⟩) ?_ ?_
                    rotate_left
                    ·
                     intro w'
                     go_simp
                     with_reducible rfl
                    rotate_left
                    ·
                     simp only [Act.put, List.setIfInBounds_toArray, List.set_cons_zero, List.set_cons_succ, i64_w, i32_w]
                     rfl
                    refine pure_ (i := 21) (N := some 83) (v := ?_) (a' := ?_) #[true, true, true, true, true, true, true, true, true, true, true, true, true, true, true, true, true, true, true, true, true, true, false] rfl rfl (any_of HT_.out (by kernel_rfl)) (fun _ _ _ h => h) (Or.inl ⟨by rfl, ?_⟩) ?_ ?_
                    rotate_left
                    ·
                     intro w'
                     go_simp
                     with_reducible rfl
                    rotate_left
                    ·
                     simp only [Act.put, List.setIfInBounds_toArray, List.set_cons_zero, List.set_cons_succ, i64_w, i32_w]
                     rfl
                    refine pure_ (i := 22) (N := some 84) (v := ?_) (a' := ?_) #[true, true, true, true, true, true, true, true, true, true, true, true, true, true, true, true, true, true, true, true, true, true, true] rfl rfl (any_of HT_.out (by kernel_rfl)) (fun _ _ _ h => h) (Or.inl ⟨by rfl, ?_⟩) ?_ ?_
                    rotate_left
                    ·
                     intro w'
                     go_simp
                     with_reducible rfl
                    rotate_left
                    ·
                     simp only [Act.put, List.setIfInBounds_toArray, List.set_cons_zero, List.set_cons_succ, i64_w, i32_w]
                     rfl
                    refine done_ (done_of HT_.out (by kernel_rfl)) ?_
                    try go_wp2
                    go_roundg kj23
                    case measure => have := HJ1.out;have := HJ9.out;have := HK3.out;have := HJ23.out;omega
                    case rel => exact ⟨(wrap64 (x5_3 + 1)), (by first|rfl|(simp;done)|(simp [*];done)), H', ⟨by have := HJ1.out;have := HJ9.out;have := HK3.out;have := HJ23.out;omega⟩, ⟨by (with_reducible repeat (first|refine blk_drewN ?_ _|refine blk_drew ?_|refine blk_alloc ?_ _));exact BK1060.out⟩, ⟨by (with_reducible repeat (first|refine blk_drewN ?_ _|refine blk_drew ?_|refine blk_alloc ?_ _));exact BK1063.out⟩, ⟨by repeat (first|(with_reducible first|exact HB.out|apply below_alloc|apply pw_below_drewN|apply below_drew1|refine below_set ?_ GE1060.out|refine below_set ?_ GE1063.out|refine below_set ?_ GE1066.out)|exact HB.out)⟩⟩
                   ·
                    replace c52 := Bool.eq_false_iff.mpr c52
                    subst c52
                    have H1 : (some 1) = some r := by rw [if_neg (show ¬ (false = true) by decide)] at H;exact H
                    clear H
                    have H := H1
                    clear H1
                    obtain rfl := Option.some.inj H
                    try go_wp2
                    have n0_ := Aside0.mk (blk_drew BK1060.out)
                    have n1_ := Aside0.mk (blk_drew BK1063.out)
                    have n2_ := Aside0.mk (blk_drew BK1066.out)
                    have n3_ := Aside0.mk (below_drew1 HB.out)
                    clear BK1060
                    clear BK1063
                    clear BK1066
                    clear HB
                    have BK1060 := n0_
                    have BK1063 := n1_
                    have BK1066 := n2_
                    have HB := n3_
                    clear n0_ n1_ n2_ n3_
                    have p1070 : 0 ≤ ((ji48) : Int) := of_decide_eq_true (by first|(with_reducible assumption)|assumption)
                    have q1070 : (ji48) < (l0_3.length : Int) := of_decide_eq_true (by first|(with_reducible assumption)|assumption)
                    obtain ⟨ad1070, e1070, hx1070_0, hx1070_1, hx1070_2, hx1070_3⟩ := at_T137 HR0_3.out (ji48) p1070 q1070
                    have hw1070_3 := hx1070_3
                    have hw1070_2 := hx1070_2
                    have hw1070_1 := hx1070_1
                    have hw1070_0 := hx1070_0
                    obtain rfl : ad1065 = ad1070 := (by injection e1070)
                    replace hx1070_0 := (HB.out.cell (World.block_lt_of_cell? w _ hx1070_0)).trans hx1070_0
                    replace hx1070_1 := (HB.out.cell (World.block_lt_of_cell? w _ hx1070_1)).trans hx1070_1
                    replace hx1070_2 := (HB.out.cell (World.block_lt_of_cell? w _ hx1070_2)).trans hx1070_2
                    replace hx1070_3 := (HB.out.cell (World.block_lt_of_cell? w _ hx1070_3)).trans hx1070_3
                    replace p1070 := eq_true p1070
                    replace q1070 := eq_true q1070
                    refine start_ (n := 23) (S := fun w' => w'.cell? ⟨gb1066, 0, none⟩ = some (.bool ((rd_T137 l0_3 x5_3).f0)) ∧ w'.cell? ⟨gb1066, 1, none⟩ = some (.int .i64 ((rd_T137 l0_3 x5_3).f1)) ∧ w'.cell? ⟨gb1066, 2, none⟩ = some (.int .i64 ((rd_T137 l0_3 x5_3).f2)) ∧ w'.cell? ⟨gb1066, 3, none⟩ = some (.int .i64 ((rd_T137 l0_3 x5_3).f3)) ∧ w'.cell? ⟨gb1060, 0, none⟩ = some (.int .i64 a0_0) ∧ w'.cell? ⟨gb1060, 1, none⟩ = some (.int .i64 a0_1) ∧ w'.cell? ⟨gb1060, 2, none⟩ = some (.slice A0_2 l0_2.length c0_2) ∧ w'.cell? ⟨gb1060, 3, none⟩ = some (.slice (some ad1065) l0_3.length c0_3) ∧ w'.cell? (ad1065.add (((ji48)).toNat * 4)) = some (.bool ((rd_T137 l0_3 (ji48)).f0)) ∧ w'.cell? ⟨(ad1065.add (((ji48)).toNat * 4)).block, (ad1065.add (((ji48)).toNat * 4)).off + 1, none⟩ = some (.int .i64 ((rd_T137 l0_3 (ji48)).f1)) ∧ w'.cell? ⟨(ad1065.add (((ji48)).toNat * 4)).block, (ad1065.add (((ji48)).toNat * 4)).off + 2, none⟩ = some (.int .i64 ((rd_T137 l0_3 (ji48)).f2)) ∧ w'.cell? ⟨(ad1065.add (((ji48)).toNat * 4)).block, (ad1065.add (((ji48)).toNat * 4)).off + 3, none⟩ = some (.int .i64 ((rd_T137 l0_3 (ji48)).f3))) (ds := []) #[false, false, false, false, false, false, false, false, false, false, false, false, false, false, false, false, false, false, false, false, false, false, false] (by kernel_rfl) rfl rfl ⟨(blk_cell BK1066.out 0).trans rfl, (blk_cell BK1066.out 1).trans rfl, (blk_cell BK1066.out 2).trans rfl, (blk_cell BK1066.out 3).trans rfl, (blk_cell BK1060.out 0).trans rfl, (blk_cell BK1060.out 1).trans rfl, (blk_cell BK1060.out 2).trans rfl, (blk_cell BK1060.out 3).trans rfl, ((HB.out.cell (World.block_lt_of_cell? w _ hw1070_0)).trans hw1070_0), ((HB.out.cell (World.block_lt_of_cell? w _ hw1070_1)).trans hw1070_1), ((HB.out.cell (World.block_lt_of_cell? w _ hw1070_2)).trans hw1070_2), ((HB.out.cell (World.block_lt_of_cell? w _ hw1070_3)).trans hw1070_3)⟩ (fun hHeld => ?_);refine with_tabW spec_DeltaFault.tab15 spec_DeltaFault.bits15 (fun HT_ HW_ => ?_)
                    generalize wc.drew = w55 at BK1060 BK1063 BK1066 HB hx1070_0 hx1070_1 hx1070_2 hx1070_3 hHeld ⊢
                    refine pure_ (i := 0) (N := some 62) (v := ?_) (a' := ?_) #[true, false, false, false, false, false, false, false, false, false, false, false, false, false, false, false, false, false, false, false, false, false, false] rfl rfl (any_of HT_.out (by kernel_rfl)) (fun _ _ _ h => h) (Or.inl ⟨by rfl, ?_⟩) ?_ ?_
                    rotate_left
                    ·
                     intro w'
                     go_simp
                     with_reducible rfl
                    rotate_left
                    ·
                     simp only [Act.put, List.setIfInBounds_toArray, List.set_cons_zero, List.set_cons_succ, i64_w, i32_w]
                     rfl
                    refine take_ (i := 1) (N := some 63) (v := ?_) (a' := ?_) #[true, true, false, false, false, false, false, false, false, false, false, false, false, false, false, false, false, false, false, false, false, false, false] rfl rfl (take_ofW HT_.out HW_.out (by kernel_rfl)) (fun _ _ _ h => h) (Or.inl ⟨by rfl, ?_⟩) hHeld ?_ ?_
                    rotate_left
                    ·
                     rintro w' ⟨s0, s1, s2, s3, s4, s5, s6, s7, s8, s9, s10, s11⟩
                     go_simp
                     with_reducible rfl
                    rotate_left
                    ·
                     simp only [Act.put, List.setIfInBounds_toArray, List.set_cons_zero, List.set_cons_succ, i64_w, i32_w]
                     rfl
                    refine pure_ (i := 2) (N := some 64) (v := ?_) (a' := ?_) #[true, true, true, false, false, false, false, false, false, false, false, false, false, false, false, false, false, false, false, false, false, false, false] rfl rfl (any_of HT_.out (by kernel_rfl)) (fun _ _ _ h => h) (Or.inl ⟨by rfl, ?_⟩) ?_ ?_
                    rotate_left
                    ·
                     intro w'
                     go_simp
                     with_reducible rfl
                    rotate_left
                    ·
                     simp only [Act.put, List.setIfInBounds_toArray, List.set_cons_zero, List.set_cons_succ, i64_w, i32_w]
                     rfl
                    refine pure_ (i := 3) (N := some 65) (v := ?_) (a' := ?_) #[true, true, true, true, false, false, false, false, false, false, false, false, false, false, false, false, false, false, false, false, false, false, false] rfl rfl (any_of HT_.out (by kernel_rfl)) (fun _ _ _ h => h) (Or.inl ⟨by rfl, ?_⟩) ?_ ?_
                    rotate_left
                    ·
                     intro w'
                     go_simp
                     with_reducible rfl
                    rotate_left
                    ·
                     simp only [Act.put, List.setIfInBounds_toArray, List.set_cons_zero, List.set_cons_succ, i64_w, i32_w]
                     rfl
                    refine pure_ (i := 4) (N := some 66) (v := undef) (a' := ?_) #[true, true, true, true, true, false, false, false, false, false, false, false, false, false, false, false, false, false, false, false, false, false, false] rfl rfl (any_of HT_.out (by kernel_rfl)) (fun _ _ _ h => h) (Or.inr ⟨by rfl, rfl⟩) ?_ ?_
                    rotate_left
                    ·
                     simp only [Act.put, List.setIfInBounds_toArray, List.set_cons_zero, List.set_cons_succ, i64_w, i32_w]
                     rfl
                    refine pure_ (i := 5) (N := some 67) (v := undef) (a' := ?_) #[true, true, true, true, true, true, false, false, false, false, false, false, false, false, false, false, false, false, false, false, false, false, false] rfl rfl (any_of HT_.out (by kernel_rfl)) (fun _ _ _ h => h) (Or.inr ⟨by rfl, rfl⟩) ?_ ?_
                    rotate_left
                    ·
                     simp only [Act.put, List.setIfInBounds_toArray, List.set_cons_zero, List.set_cons_succ, i64_w, i32_w]
                     rfl
                    refine pure_ (i := 6) (N := some 68) (v := undef) (a' := ?_) #[true, true, true, true, true, true, true, false, false, false, false, false, false, false, false, false, false, false, false, false, false, false, false] rfl rfl (any_of HT_.out (by kernel_rfl)) (fun _ _ _ h => h) (Or.inr ⟨by rfl, rfl⟩) ?_ ?_
                    rotate_left
                    ·
                     simp only [Act.put, List.setIfInBounds_toArray, List.set_cons_zero, List.set_cons_succ, i64_w, i32_w]
                     rfl
                    refine pure_ (i := 7) (N := some 69) (v := ?_) (a' := ?_) #[true, true, true, true, true, true, true, true, false, false, false, false, false, false, false, false, false, false, false, false, false, false, false] rfl rfl (any_of HT_.out (by kernel_rfl)) (fun _ _ _ h => h) (Or.inl ⟨by rfl, ?_⟩) ?_ ?_
                    rotate_left
                    ·
                     intro w'
                     go_simp
                     with_reducible rfl
                    rotate_left
                    ·
                     simp only [Act.put, List.setIfInBounds_toArray, List.set_cons_zero, List.set_cons_succ, i64_w, i32_w]
                     rfl
                    refine pure_ (i := 8) (N := some 70) (v := ?_) (a' := ?_) #[true, true, true, true, true, true, true, true, true, false, false, false, false, false, false, false, false, false, false, false, false, false, false] rfl rfl (any_of HT_.out (by kernel_rfl)) (fun _ _ _ h => h) (Or.inl ⟨by rfl, ?_⟩) ?_ ?_
                    rotate_left
                    ·
                     intro w'
                     go_simp
                     with_reducible rfl
                    rotate_left
                    ·
                     simp only [Act.put, List.setIfInBounds_toArray, List.set_cons_zero, List.set_cons_succ, i64_w, i32_w]
                     rfl
                    refine pure_ (i := 9) (N := some 71) (v := ?_) (a' := ?_) #[true, true, true, true, true, true, true, true, true, true, false, false, false, false, false, false, false, false, false, false, false, false, false] rfl rfl (any_of HT_.out (by kernel_rfl)) (fun _ _ _ h => h) (Or.inl ⟨by rfl, ?_⟩) ?_ ?_
                    rotate_left
                    ·
                     intro w'
                     go_simp
                     with_reducible rfl
                    rotate_left
                    ·
                     simp only [Act.put, List.setIfInBounds_toArray, List.set_cons_zero, List.set_cons_succ, i64_w, i32_w]
                     rfl
                    refine pure_ (i := 10) (N := some 72) (v := ?_) (a' := ?_) #[true, true, true, true, true, true, true, true, true, true, true, false, false, false, false, false, false, false, false, false, false, false, false] rfl rfl (any_of HT_.out (by kernel_rfl)) (fun _ _ _ h => h) (Or.inl ⟨by rfl, ?_⟩) ?_ ?_
                    rotate_left
                    ·
                     intro w'
                     go_simp
                     with_reducible rfl
                    rotate_left
                    ·
                     simp only [Act.put, List.setIfInBounds_toArray, List.set_cons_zero, List.set_cons_succ, i64_w, i32_w]
                     rfl
                    refine pure_ (i := 11) (N := some 73) (v := ?_) (a' := ?_) #[true, true, true, true, true, true, true, true, true, true, true, true, false, false, false, false, false, false, false, false, false, false, false] rfl rfl (any_of HT_.out (by kernel_rfl)) (fun _ _ _ h => h) (Or.inl ⟨by rfl, ?_⟩) ?_ ?_
                    rotate_left
                    ·
                     intro w'
                     go_simp
                     with_reducible rfl
                    rotate_left
                    ·
                     simp only [Act.put, List.setIfInBounds_toArray, List.set_cons_zero, List.set_cons_succ, i64_w, i32_w]
                     rfl
                    refine pure_ (i := 12) (N := some 74) (v := ?_) (a' := ?_) #[true, true, true, true, true, true, true, true, true, true, true, true, true, false, false, false, false, false, false, false, false, false, false] rfl rfl (any_of HT_.out (by kernel_rfl)) (fun _ _ _ h => h) (Or.inl ⟨by rfl, ?_⟩) ?_ ?_
                    rotate_left
                    ·
                     intro w'
                     go_simp
                     with_reducible rfl
                    rotate_left
                    ·
                     simp only [Act.put, List.setIfInBounds_toArray, List.set_cons_zero, List.set_cons_succ, i64_w, i32_w]
                     rfl
                    refine pure_ (i := 14) (N := some 76) (v := ?_) (a' := ?_) #[true, true, true, true, true, true, true, true, true, true, true, true, true, false, true, false, false, false, false, false, false, false, false] rfl rfl (any_of HT_.out (by kernel_rfl)) (fun _ _ _ h => h) (Or.inl ⟨by rfl, ?_⟩) ?_ ?_
                    rotate_left
                    ·
                     intro w'
                     go_simp
                     with_reducible rfl
                    rotate_left
                    ·
                     simp only [Act.put, List.setIfInBounds_toArray, List.set_cons_zero, List.set_cons_succ, i64_w, i32_w]
                     rfl
                    refine pure_ (i := 15) (N := some 77) (v := ?_) (a' := ?_) #[true, true, true, true, true, true, true, true, true, true, true, true, true, false, true, true, false, false, false, false, false, false, false] rfl rfl (any_of HT_.out (by kernel_rfl)) (fun _ _ _ h => h) (Or.inl ⟨by rfl, ?_⟩) ?_ ?_
                    rotate_left
                    ·
                     intro w'
                     go_simp
                     with_reducible rfl
                    rotate_left
                    ·
                     simp only [Act.put, List.setIfInBounds_toArray, List.set_cons_zero, List.set_cons_succ, i64_w, i32_w]
                     rfl
                    refine take_ (i := 13) (N := some 75) (v := ?_) (a' := ?_) #[true, true, true, true, true, true, true, true, true, true, true, true, true, true, true, true, false, false, false, false, false, false, false] rfl rfl (take_ofW HT_.out HW_.out (by kernel_rfl)) (fun _ _ _ h => h) (Or.inl ⟨by rfl, ?_⟩) hHeld ?_ ?_
                    rotate_left
                    ·
                     rintro w' ⟨s0, s1, s2, s3, s4, s5, s6, s7, s8, s9, s10, s11⟩
                     go_simp
                     with_reducible rfl
                    rotate_left
                    ·
                     simp only [Act.put, List.setIfInBounds_toArray, List.set_cons_zero, List.set_cons_succ, i64_w, i32_w]
                     rfl
                    refine pure_ (i := 16) (N := some 78) (v := ?_) (a' := ?_) #[true, true, true, true, true, true, true, true, true, true, true, true, true, true, true, true, true, false, false, false, false, false, false] rfl rfl (any_of HT_.out (by kernel_rfl)) (fun _ _ _ h => h) (Or.inl ⟨by rfl, ?_⟩) ?_ ?_
                    rotate_left
                    ·
                     intro w'
                     go_simp
                     with_reducible rfl
                    rotate_left
                    ·
                     simp only [Act.put, List.setIfInBounds_toArray, List.set_cons_zero, List.set_cons_succ, i64_w, i32_w]
                     rfl
                    refine take_ (i := 17) (N := some 79) (v := ?_) (a' := ?_) #[true, true, true, true, true, true, true, true, true, true, true, true, true, true, true, true, true, true, false, false, false, false, false] rfl rfl (take_ofW HT_.out HW_.out (by kernel_rfl)) (fun _ _ _ h => h) (Or.inl ⟨by rfl, ?_⟩) hHeld ?_ ?_
                    rotate_left
                    ·
                     rintro w' ⟨s0, s1, s2, s3, s4, s5, s6, s7, s8, s9, s10, s11⟩
                     go_simp
                     with_reducible rfl
                    rotate_left
                    ·
                     simp only [Act.put, List.setIfInBounds_toArray, List.set_cons_zero, List.set_cons_succ, i64_w, i32_w]
                     rfl
                    refine take_ (i := 18) (N := some 80) (v := ?_) (a' := ?_) #[true, true, true, true, true, true, true, true, true, true, true, true, true, true, true, true, true, true, true, false, false, false, false] rfl rfl (take_ofW HT_.out HW_.out (by kernel_rfl)) (fun _ _ _ h => h) (Or.inl ⟨by rfl, ?_⟩) hHeld ?_ ?_
                    rotate_left
                    ·
                     rintro w' ⟨s0, s1, s2, s3, s4, s5, s6, s7, s8, s9, s10, s11⟩
                     go_simp
                     with_reducible rfl
                    rotate_left
                    ·
                     simp only [Act.put, List.setIfInBounds_toArray, List.set_cons_zero, List.set_cons_succ, i64_w, i32_w]
                     rfl
                    refine one_ (i := 19) (N := some 81) #[true, true, true, true, true, true, true, true, true, true, true, true, true, true, true, true, true, true, true, true, false, false, false] rfl rfl (one_of HT_.out (by kernel_rfl)) (by decide) (fun K hK => ?_)
                    refine goes_ Try.func104 (by kernel_rfl) rfl #[.agg #[.bool ((rd_T137 l0_3 (ji48)).f0), .int .i64 ((rd_T137 l0_3 (ji48)).f1), .int .i64 ((rd_T137 l0_3 (ji48)).f2), .int .i64 ((rd_T137 l0_3 (ji48)).f3)], .agg #[.bool ((rd_T137 l0_3 x5_3).f0), .int .i64 ((rd_T137 l0_3 x5_3).f1), .int .i64 ((rd_T137 l0_3 x5_3).f2), .int .i64 ((rd_T137 l0_3 x5_3).f3)]] (by rfl) rfl rfl (by (try simp only [List.map_toArray, List.map_cons, List.map_nil]);first|done|(simp only [hji48];rfl)|rfl|(simp only [List.length_drop, List.length_take];rfl)|(simp [Act.eval, *];done)) ?_
                    with_reducible refine (spec_l7Ahead.calls ((rd_T137 l0_3 (ji48)).f0) ((rd_T137 l0_3 (ji48)).f1) ((rd_T137 l0_3 (ji48)).f2) ((rd_T137 l0_3 (ji48)).f3) ((rd_T137 l0_3 x5_3).f0) ((rd_T137 l0_3 x5_3).f1) ((rd_T137 l0_3 x5_3).f2) ((rd_T137 l0_3 x5_3).f3) false _ A51.out).mono ?_
                    rintro e w56 ⟨rfl, hb⟩
                    refine ⟨_, rfl, ?_⟩
                    have n0_ := Aside0.mk (blk_below (g := gb1060) (o := .cells #[.int .i64 a0_0, .int .i64 a0_1, .slice A0_2 l0_2.length c0_2, .slice (some ad1065) l0_3.length c0_3] 84 (0, 0)) (by (with_reducible repeat (first|refine blk_drewN ?_ _|refine blk_drew ?_|refine blk_alloc ?_ _));exact BK1060.out) hb)
                    have n1_ := Aside0.mk (blk_below (g := gb1063) (o := .cells #[.int .i64 0, .slice A0_2 l0_2.length c0_2, .slice none 0 0, .slice none 0 0] 41 (0, 0)) (by (with_reducible repeat (first|refine blk_drewN ?_ _|refine blk_drew ?_|refine blk_alloc ?_ _));exact BK1063.out) hb)
                    have n2_ := Aside0.mk (blk_below (g := gb1066) (o := .cells #[.bool ((rd_T137 l0_3 x5_3).f0), .int .i64 ((rd_T137 l0_3 x5_3).f1), .int .i64 ((rd_T137 l0_3 x5_3).f2), .int .i64 ((rd_T137 l0_3 x5_3).f3)] 137 (0, 0)) (by (with_reducible repeat (first|refine blk_drewN ?_ _|refine blk_drew ?_|refine blk_alloc ?_ _));exact BK1066.out) hb)
                    have n3_ := Aside0.mk (below_step (by repeat (first|(with_reducible first|exact HB.out|apply below_alloc|apply pw_below_drewN|apply below_drew1|refine below_set ?_ GE1060.out|refine below_set ?_ GE1063.out|refine below_set ?_ GE1066.out)|exact HB.out)) hb)
                    clear BK1060
                    clear BK1063
                    clear BK1066
                    clear HB
                    have BK1060 := n0_
                    have BK1063 := n1_
                    have BK1066 := n2_
                    have HB := n3_
                    clear n0_ n1_ n2_ n3_
                    (try clear hb)
                    (try clear hb2)
                    (try clear hk)
                    (try clear hi)
                    refine hK.out _ _ ⟨(blk_cell BK1066.out 0).trans rfl, (blk_cell BK1066.out 1).trans rfl, (blk_cell BK1066.out 2).trans rfl, (blk_cell BK1066.out 3).trans rfl, (blk_cell BK1060.out 0).trans rfl, (blk_cell BK1060.out 1).trans rfl, (blk_cell BK1060.out 2).trans rfl, (blk_cell BK1060.out 3).trans rfl, ((HB.out.cell (World.block_lt_of_cell? w _ hw1070_0)).trans hw1070_0), ((HB.out.cell (World.block_lt_of_cell? w _ hw1070_1)).trans hw1070_1), ((HB.out.cell (World.block_lt_of_cell? w _ hw1070_2)).trans hw1070_2), ((HB.out.cell (World.block_lt_of_cell? w _ hw1070_3)).trans hw1070_3)⟩ (fun hHeld => ?_)
                    clear hK K
                    refine norm_ (a' := ?_) ?_ ?_
                    rotate_left
                    ·
                     show Act.put _ (some 81) _ = _
                     simp only [Act.put, List.setIfInBounds_toArray, List.set_cons_zero, List.set_cons_succ, i64_w, i32_w]
                     rfl
                    refine pure_ (i := 20) (N := some 82) (v := ?_) (a' := ?_) #[true, true, true, true, true, true, true, true, true, true, true, true, true, true, true, true, true, true, true, true, true, false, false] rfl rfl (any_of HT_.out (by kernel_rfl)) (fun _ _ _ h => h) (Or.inl ⟨by rfl, ?_⟩) ?_ ?_
                    rotate_left
                    ·
                     intro w'
                     go_simp
                     with_reducible rfl
                    rotate_left
                    ·
                     simp only [Act.put, List.setIfInBounds_toArray, List.set_cons_zero, List.set_cons_succ, i64_w, i32_w]
                     rfl
                    refine pure_ (i := 21) (N := some 83) (v := ?_) (a' := ?_) #[true, true, true, true, true, true, true, true, true, true, true, true, true, true, true, true, true, true, true, true, true, true, false] rfl rfl (any_of HT_.out (by kernel_rfl)) (fun _ _ _ h => h) (Or.inl ⟨by rfl, ?_⟩) ?_ ?_
                    rotate_left
                    ·
                     intro w'
                     go_simp
                     with_reducible rfl
                    rotate_left
                    ·
                     simp only [Act.put, List.setIfInBounds_toArray, List.set_cons_zero, List.set_cons_succ, i64_w, i32_w]
                     rfl
                    refine pure_ (i := 22) (N := some 84) (v := ?_) (a' := ?_) #[true, true, true, true, true, true, true, true, true, true, true, true, true, true, true, true, true, true, true, true, true, true, true] rfl rfl (any_of HT_.out (by kernel_rfl)) (fun _ _ _ h => h) (Or.inl ⟨by rfl, ?_⟩) ?_ ?_
                    rotate_left
                    ·
                     intro w'
                     go_simp
                     with_reducible rfl
                    rotate_left
                    ·
                     simp only [Act.put, List.setIfInBounds_toArray, List.set_cons_zero, List.set_cons_succ, i64_w, i32_w]
                     rfl
                    refine done_ (done_of HT_.out (by kernel_rfl)) ?_
                    try go_wp2
                    go_ret
                    exact ⟨by first|rfl|(simp [errW_none, errW_some] <;> rfl)|(simp only [← hji48];first|rfl|(simp [errW_none, errW_some] <;> rfl))|(simp [*, errW_none, errW_some] <;> rfl), by repeat (first|(with_reducible first|exact HB.out|apply below_alloc|apply pw_below_drewN|apply below_drew1|refine below_set ?_ GE1060.out|refine below_set ?_ GE1063.out|refine below_set ?_ GE1066.out)|exact HB.out)⟩
                  ·
                   rw [if_neg c50] at H
                   exact absurd H (by simp)
                 ·
                  rw [if_neg c49] at H
                  exact absurd H (by simp)
                ·
                 rw [if_neg c47] at H
                 have c47b0 : decide (0 < x5_3) = false := decide_eq_false c47
                 clear c47
                 have H' := Aside0.mk H
                 clear H
                 try go_wp2
                 have n0_ := Aside0.mk (blk_drew BK1060.out)
                 have n1_ := Aside0.mk (blk_drew BK1063.out)
                 have n2_ := Aside0.mk (blk_drew BK1066.out)
                 have n3_ := Aside0.mk (below_drew1 HB.out)
                 clear BK1060
                 clear BK1063
                 clear BK1066
                 clear HB
                 have BK1060 := n0_
                 have BK1063 := n1_
                 have BK1066 := n2_
                 have HB := n3_
                 clear n0_ n1_ n2_ n3_
                 refine start_ (n := 23) (S := fun w' => w'.cell? ⟨gb1066, 0, none⟩ = some (.bool ((rd_T137 l0_3 x5_3).f0)) ∧ w'.cell? ⟨gb1066, 1, none⟩ = some (.int .i64 ((rd_T137 l0_3 x5_3).f1)) ∧ w'.cell? ⟨gb1066, 2, none⟩ = some (.int .i64 ((rd_T137 l0_3 x5_3).f2)) ∧ w'.cell? ⟨gb1066, 3, none⟩ = some (.int .i64 ((rd_T137 l0_3 x5_3).f3))) (ds := []) #[false, false, false, false, false, false, false, false, false, false, false, false, false, false, false, false, false, false, false, false, false, false, false] (by kernel_rfl) rfl rfl ⟨(blk_cell BK1066.out 0).trans rfl, (blk_cell BK1066.out 1).trans rfl, (blk_cell BK1066.out 2).trans rfl, (blk_cell BK1066.out 3).trans rfl⟩ (fun hHeld => ?_);refine with_tabW spec_DeltaFault.tab15 spec_DeltaFault.bits15 (fun HT_ HW_ => ?_)
                 generalize wc.drew = w57 at BK1060 BK1063 BK1066 HB hHeld ⊢
                 refine pure_ (i := 0) (N := some 62) (v := ?_) (a' := ?_) #[true, false, false, false, false, false, false, false, false, false, false, false, false, false, false, false, false, false, false, false, false, false, false] rfl rfl (any_of HT_.out (by kernel_rfl)) (fun _ _ _ h => h) (Or.inl ⟨by rfl, ?_⟩) ?_ ?_
                 rotate_left
                 ·
                  intro w'
                  go_simp
                  with_reducible rfl
                 rotate_left
                 ·
                  simp only [Act.put, List.setIfInBounds_toArray, List.set_cons_zero, List.set_cons_succ, i64_w, i32_w]
                  rfl
                 refine take_ (i := 1) (N := some 63) (v := ?_) (a' := ?_) #[true, true, false, false, false, false, false, false, false, false, false, false, false, false, false, false, false, false, false, false, false, false, false] rfl rfl (take_ofW HT_.out HW_.out (by kernel_rfl)) (fun _ _ _ h => h) (Or.inl ⟨by rfl, ?_⟩) hHeld ?_ ?_
                 rotate_left
                 ·
                  rintro w' ⟨s0, s1, s2, s3⟩
                  go_simp
                  with_reducible rfl
                 rotate_left
                 ·
                  simp only [Act.put, List.setIfInBounds_toArray, List.set_cons_zero, List.set_cons_succ, i64_w, i32_w]
                  rfl
                 refine pure_ (i := 2) (N := some 64) (v := ?_) (a' := ?_) #[true, true, true, false, false, false, false, false, false, false, false, false, false, false, false, false, false, false, false, false, false, false, false] rfl rfl (any_of HT_.out (by kernel_rfl)) (fun _ _ _ h => h) (Or.inl ⟨by rfl, ?_⟩) ?_ ?_
                 rotate_left
                 ·
                  intro w'
                  go_simp
                  with_reducible rfl
                 rotate_left
                 ·
                  simp only [Act.put, List.setIfInBounds_toArray, List.set_cons_zero, List.set_cons_succ, i64_w, i32_w]
                  rfl
                 refine pure_ (i := 3) (N := some 65) (v := ?_) (a' := ?_) #[true, true, true, true, false, false, false, false, false, false, false, false, false, false, false, false, false, false, false, false, false, false, false] rfl rfl (any_of HT_.out (by kernel_rfl)) (fun _ _ _ h => h) (Or.inl ⟨by rfl, ?_⟩) ?_ ?_
                 rotate_left
                 ·
                  intro w'
                  go_simp
                  with_reducible rfl
                 rotate_left
                 ·
                  simp only [Act.put, List.setIfInBounds_toArray, List.set_cons_zero, List.set_cons_succ, i64_w, i32_w]
                  rfl
                 refine pure_ (i := 4) (N := some 66) (v := undef) (a' := ?_) #[true, true, true, true, true, false, false, false, false, false, false, false, false, false, false, false, false, false, false, false, false, false, false] rfl rfl (any_of HT_.out (by kernel_rfl)) (fun _ _ _ h => h) (Or.inr ⟨by rfl, rfl⟩) ?_ ?_
                 rotate_left
                 ·
                  simp only [Act.put, List.setIfInBounds_toArray, List.set_cons_zero, List.set_cons_succ, i64_w, i32_w]
                  rfl
                 refine pure_ (i := 5) (N := some 67) (v := undef) (a' := ?_) #[true, true, true, true, true, true, false, false, false, false, false, false, false, false, false, false, false, false, false, false, false, false, false] rfl rfl (any_of HT_.out (by kernel_rfl)) (fun _ _ _ h => h) (Or.inr ⟨by rfl, rfl⟩) ?_ ?_
                 rotate_left
                 ·
                  simp only [Act.put, List.setIfInBounds_toArray, List.set_cons_zero, List.set_cons_succ, i64_w, i32_w]
                  rfl
                 refine pure_ (i := 6) (N := some 68) (v := undef) (a' := ?_) #[true, true, true, true, true, true, true, false, false, false, false, false, false, false, false, false, false, false, false, false, false, false, false] rfl rfl (any_of HT_.out (by kernel_rfl)) (fun _ _ _ h => h) (Or.inr ⟨by rfl, rfl⟩) ?_ ?_
                 rotate_left
                 ·
                  simp only [Act.put, List.setIfInBounds_toArray, List.set_cons_zero, List.set_cons_succ, i64_w, i32_w]
                  rfl
                 refine pure_ (i := 7) (N := some 69) (v := ?_) (a' := ?_) #[true, true, true, true, true, true, true, true, false, false, false, false, false, false, false, false, false, false, false, false, false, false, false] rfl rfl (any_of HT_.out (by kernel_rfl)) (fun _ _ _ h => h) (Or.inl ⟨by rfl, ?_⟩) ?_ ?_
                 rotate_left
                 ·
                  intro w'
                  go_simp
                  with_reducible rfl
                 rotate_left
                 ·
                  simp only [Act.put, List.setIfInBounds_toArray, List.set_cons_zero, List.set_cons_succ, i64_w, i32_w]
                  rfl
                 refine pure_ (i := 8) (N := some 70) (v := ?_) (a' := ?_) #[true, true, true, true, true, true, true, true, true, false, false, false, false, false, false, false, false, false, false, false, false, false, false] rfl rfl (any_of HT_.out (by kernel_rfl)) (fun _ _ _ h => h) (Or.inl ⟨by rfl, ?_⟩) ?_ ?_
                 rotate_left
                 ·
                  intro w'
                  go_simp
                  with_reducible rfl
                 rotate_left
                 ·
                  simp only [Act.put, List.setIfInBounds_toArray, List.set_cons_zero, List.set_cons_succ, i64_w, i32_w]
                  rfl
                 refine pure_ (i := 9) (N := some 71) (v := ?_) (a' := ?_) #[true, true, true, true, true, true, true, true, true, true, false, false, false, false, false, false, false, false, false, false, false, false, false] rfl rfl (any_of HT_.out (by kernel_rfl)) (fun _ _ _ h => h) (Or.inl ⟨by rfl, ?_⟩) ?_ ?_
                 rotate_left
                 ·
                  intro w'
                  go_simp
                  with_reducible rfl
                 rotate_left
                 ·
                  simp only [Act.put, List.setIfInBounds_toArray, List.set_cons_zero, List.set_cons_succ, i64_w, i32_w]
                  rfl
                 refine pure_ (i := 10) (N := some 72) (v := ?_) (a' := ?_) #[true, true, true, true, true, true, true, true, true, true, true, false, false, false, false, false, false, false, false, false, false, false, false] rfl rfl (any_of HT_.out (by kernel_rfl)) (fun _ _ _ h => h) (Or.inl ⟨by rfl, ?_⟩) ?_ ?_
                 rotate_left
                 ·
                  intro w'
                  go_simp
                  with_reducible rfl
                 rotate_left
                 ·
                  simp only [Act.put, List.setIfInBounds_toArray, List.set_cons_zero, List.set_cons_succ, i64_w, i32_w]
                  rfl
                 refine pure_ (i := 11) (N := some 73) (v := ?_) (a' := ?_) #[true, true, true, true, true, true, true, true, true, true, true, true, false, false, false, false, false, false, false, false, false, false, false] rfl rfl (any_of HT_.out (by kernel_rfl)) (fun _ _ _ h => h) (Or.inl ⟨by rfl, ?_⟩) ?_ ?_
                 rotate_left
                 ·
                  intro w'
                  go_simp
                  with_reducible rfl
                 rotate_left
                 ·
                  simp only [Act.put, List.setIfInBounds_toArray, List.set_cons_zero, List.set_cons_succ, i64_w, i32_w]
                  rfl
                 refine pure_ (i := 12) (N := some 74) (v := undef) (a' := ?_) #[true, true, true, true, true, true, true, true, true, true, true, true, true, false, false, false, false, false, false, false, false, false, false] rfl rfl (any_of HT_.out (by kernel_rfl)) (fun _ _ _ h => h) (Or.inr ⟨by rfl, rfl⟩) ?_ ?_
                 rotate_left
                 ·
                  simp only [Act.put, List.setIfInBounds_toArray, List.set_cons_zero, List.set_cons_succ, i64_w, i32_w]
                  rfl
                 refine pure_ (i := 13) (N := some 75) (v := undef) (a' := ?_) #[true, true, true, true, true, true, true, true, true, true, true, true, true, true, false, false, false, false, false, false, false, false, false] rfl rfl (any_of HT_.out (by kernel_rfl)) (fun _ _ _ h => h) (Or.inr ⟨by rfl, rfl⟩) ?_ ?_
                 rotate_left
                 ·
                  simp only [Act.put, List.setIfInBounds_toArray, List.set_cons_zero, List.set_cons_succ, i64_w, i32_w]
                  rfl
                 refine pure_ (i := 14) (N := some 76) (v := undef) (a' := ?_) #[true, true, true, true, true, true, true, true, true, true, true, true, true, true, true, false, false, false, false, false, false, false, false] rfl rfl (any_of HT_.out (by kernel_rfl)) (fun _ _ _ h => h) (Or.inr ⟨by rfl, rfl⟩) ?_ ?_
                 rotate_left
                 ·
                  simp only [Act.put, List.setIfInBounds_toArray, List.set_cons_zero, List.set_cons_succ, i64_w, i32_w]
                  rfl
                 refine pure_ (i := 15) (N := some 77) (v := undef) (a' := ?_) #[true, true, true, true, true, true, true, true, true, true, true, true, true, true, true, true, false, false, false, false, false, false, false] rfl rfl (any_of HT_.out (by kernel_rfl)) (fun _ _ _ h => h) (Or.inr ⟨by rfl, rfl⟩) ?_ ?_
                 rotate_left
                 ·
                  simp only [Act.put, List.setIfInBounds_toArray, List.set_cons_zero, List.set_cons_succ, i64_w, i32_w]
                  rfl
                 refine pure_ (i := 16) (N := some 78) (v := undef) (a' := ?_) #[true, true, true, true, true, true, true, true, true, true, true, true, true, true, true, true, true, false, false, false, false, false, false] rfl rfl (any_of HT_.out (by kernel_rfl)) (fun _ _ _ h => h) (Or.inr ⟨by rfl, rfl⟩) ?_ ?_
                 rotate_left
                 ·
                  simp only [Act.put, List.setIfInBounds_toArray, List.set_cons_zero, List.set_cons_succ, i64_w, i32_w]
                  rfl
                 refine pure_ (i := 17) (N := some 79) (v := undef) (a' := ?_) #[true, true, true, true, true, true, true, true, true, true, true, true, true, true, true, true, true, true, false, false, false, false, false] rfl rfl (any_of HT_.out (by kernel_rfl)) (fun _ _ _ h => h) (Or.inr ⟨by rfl, rfl⟩) ?_ ?_
                 rotate_left
                 ·
                  simp only [Act.put, List.setIfInBounds_toArray, List.set_cons_zero, List.set_cons_succ, i64_w, i32_w]
                  rfl
                 refine pure_ (i := 18) (N := some 80) (v := undef) (a' := ?_) #[true, true, true, true, true, true, true, true, true, true, true, true, true, true, true, true, true, true, true, false, false, false, false] rfl rfl (any_of HT_.out (by kernel_rfl)) (fun _ _ _ h => h) (Or.inr ⟨by rfl, rfl⟩) ?_ ?_
                 rotate_left
                 ·
                  simp only [Act.put, List.setIfInBounds_toArray, List.set_cons_zero, List.set_cons_succ, i64_w, i32_w]
                  rfl
                 refine pure_ (i := 19) (N := some 81) (v := undef) (a' := ?_) #[true, true, true, true, true, true, true, true, true, true, true, true, true, true, true, true, true, true, true, true, false, false, false] rfl rfl (any_of HT_.out (by kernel_rfl)) (fun _ _ _ h => h) (Or.inr ⟨by rfl, rfl⟩) ?_ ?_
                 rotate_left
                 ·
                  simp only [Act.put, List.setIfInBounds_toArray, List.set_cons_zero, List.set_cons_succ, i64_w, i32_w]
                  rfl
                 refine pure_ (i := 20) (N := some 82) (v := undef) (a' := ?_) #[true, true, true, true, true, true, true, true, true, true, true, true, true, true, true, true, true, true, true, true, true, false, false] rfl rfl (any_of HT_.out (by kernel_rfl)) (fun _ _ _ h => h) (Or.inr ⟨by rfl, rfl⟩) ?_ ?_
                 rotate_left
                 ·
                  simp only [Act.put, List.setIfInBounds_toArray, List.set_cons_zero, List.set_cons_succ, i64_w, i32_w]
                  rfl
                 refine pure_ (i := 21) (N := some 83) (v := ?_) (a' := ?_) #[true, true, true, true, true, true, true, true, true, true, true, true, true, true, true, true, true, true, true, true, true, true, false] rfl rfl (any_of HT_.out (by kernel_rfl)) (fun _ _ _ h => h) (Or.inl ⟨by rfl, ?_⟩) ?_ ?_
                 rotate_left
                 ·
                  intro w'
                  go_simp
                  with_reducible rfl
                 rotate_left
                 ·
                  simp only [Act.put, List.setIfInBounds_toArray, List.set_cons_zero, List.set_cons_succ, i64_w, i32_w]
                  rfl
                 refine pure_ (i := 22) (N := some 84) (v := ?_) (a' := ?_) #[true, true, true, true, true, true, true, true, true, true, true, true, true, true, true, true, true, true, true, true, true, true, true] rfl rfl (any_of HT_.out (by kernel_rfl)) (fun _ _ _ h => h) (Or.inl ⟨by rfl, ?_⟩) ?_ ?_
                 rotate_left
                 ·
                  intro w'
                  go_simp
                  with_reducible rfl
                 rotate_left
                 ·
                  simp only [Act.put, List.setIfInBounds_toArray, List.set_cons_zero, List.set_cons_succ, i64_w, i32_w]
                  rfl
                 refine done_ (done_of HT_.out (by kernel_rfl)) ?_
                 try go_wp2
                 go_roundg kj23
                 case measure => have := HJ1.out;have := HJ9.out;have := HK3.out;have := HJ23.out;omega
                 case rel => exact ⟨(wrap64 (x5_3 + 1)), (by first|rfl|(simp;done)|(simp [*];done)), H', ⟨by have := HJ1.out;have := HJ9.out;have := HK3.out;have := HJ23.out;omega⟩, ⟨by (with_reducible repeat (first|refine blk_drewN ?_ _|refine blk_drew ?_|refine blk_alloc ?_ _));exact BK1060.out⟩, ⟨by (with_reducible repeat (first|refine blk_drewN ?_ _|refine blk_drew ?_|refine blk_alloc ?_ _));exact BK1063.out⟩, ⟨by repeat (first|(with_reducible first|exact HB.out|apply below_alloc|apply pw_below_drewN|apply below_drew1|refine below_set ?_ GE1060.out|refine below_set ?_ GE1063.out|refine below_set ?_ GE1066.out)|exact HB.out)⟩⟩
               ·
                rw [if_neg c46] at H
                have c46b0 : ((rd_T137 l0_3 x5_3).f0) = false := by simpa using c46
                clear c46
                by_cases c58 : ((rd_T137 l0_3 x5_3).f3) = 0
                ·
                 rw [if_pos c58] at H
                 have c58b0 : (((rd_T137 l0_3 x5_3).f3) == 0) = true := beq_iff_eq.mpr c58
                 have c58b1 : (((rd_T137 l0_3 x5_3).f3) != 0) = false := bne_eq_false_iff_eq.mpr c58
                 clear c58
                 by_cases c59 : x5_3 > 0
                 ·
                  rw [if_pos c59] at H
                  have c59b0 : decide (0 < x5_3) = true := decide_eq_true c59
                  clear c59
                  obtain ⟨ji60, hji60⟩ : ∃ j_ : Int, (wrap64 (x5_3 - 1)) = j_ := ⟨_, rfl⟩
                  replace H : (if 0 ≤ (ji60) then (if (ji60) < (l0_3.length : Int) then ((spec_l7Ahead.f ((rd_T137 l0_3 (ji60)).f0) ((rd_T137 l0_3 (ji60)).f1) ((rd_T137 l0_3 (ji60)).f2) ((rd_T137 l0_3 (ji60)).f3) ((rd_T137 l0_3 x5_3).f0) ((rd_T137 l0_3 x5_3).f1) ((rd_T137 l0_3 x5_3).f2) ((rd_T137 l0_3 x5_3).f3)).bind fun t1073 => (if t1073 = true then (spec_DeltaFault.l0 kj23 (wrap64 (x5_3 + 1)) a0_0 a0_1 l0_2 l0_3) else (some 1))) else (none)) else (none)) = some r := by first|(rw [hji60] at H;exact H)|(simp only [hji60] at H ⊢;exact H)
                  have hji60w : (IntKind.i64.wrap (x5_3 - 1)) = ji60 := (i64_w _).trans hji60
                  by_cases c61 : 0 ≤ (ji60)
                  ·
                   rw [if_pos c61] at H
                   have c61b0 : decide (0 ≤ (ji60)) = true := decide_eq_true c61
                   clear c61
                   by_cases c62 : (ji60) < (l0_3.length : Int)
                   ·
                    rw [if_pos c62] at H
                    have c62b0 : decide ((ji60) < (l0_3.length : Int)) = true := decide_eq_true c62
                    clear c62
                    replace H := Option.bind_eq_some_iff.mp H
                    obtain ⟨t1073, A630, H⟩ := H
                    replace H : (if t1073 = true then (spec_DeltaFault.l0 kj23 (wrap64 (x5_3 + 1)) a0_0 a0_1 l0_2 l0_3) else (some 1)) = some r := H
                    have A63 := Aside0.mk A630
                    clear A630
                    by_cases c64 : t1073 = true
                    ·
                     subst c64
                     have H1 : (spec_DeltaFault.l0 kj23 (wrap64 (x5_3 + 1)) a0_0 a0_1 l0_2 l0_3) = some r := by rw [if_pos rfl] at H;exact H
                     clear H
                     have H := H1
                     clear H1
                     have H' := Aside0.mk H
                     clear H
                     try go_wp2
                     have n0_ := Aside0.mk (blk_drew BK1060.out)
                     have n1_ := Aside0.mk (blk_drew BK1063.out)
                     have n2_ := Aside0.mk (blk_drew BK1066.out)
                     have n3_ := Aside0.mk (below_drew1 HB.out)
                     clear BK1060
                     clear BK1063
                     clear BK1066
                     clear HB
                     have BK1060 := n0_
                     have BK1063 := n1_
                     have BK1066 := n2_
                     have HB := n3_
                     clear n0_ n1_ n2_ n3_
                     have p1072 : 0 ≤ ((ji60) : Int) := of_decide_eq_true (by first|(with_reducible assumption)|assumption)
                     have q1072 : (ji60) < (l0_3.length : Int) := of_decide_eq_true (by first|(with_reducible assumption)|assumption)
                     obtain ⟨ad1072, e1072, hx1072_0, hx1072_1, hx1072_2, hx1072_3⟩ := at_T137 HR0_3.out (ji60) p1072 q1072
                     have hw1072_3 := hx1072_3
                     have hw1072_2 := hx1072_2
                     have hw1072_1 := hx1072_1
                     have hw1072_0 := hx1072_0
                     obtain rfl : ad1065 = ad1072 := (by injection e1072)
                     replace hx1072_0 := (HB.out.cell (World.block_lt_of_cell? w _ hx1072_0)).trans hx1072_0
                     replace hx1072_1 := (HB.out.cell (World.block_lt_of_cell? w _ hx1072_1)).trans hx1072_1
                     replace hx1072_2 := (HB.out.cell (World.block_lt_of_cell? w _ hx1072_2)).trans hx1072_2
                     replace hx1072_3 := (HB.out.cell (World.block_lt_of_cell? w _ hx1072_3)).trans hx1072_3
                     replace p1072 := eq_true p1072
                     replace q1072 := eq_true q1072
                     refine start_ (n := 23) (S := fun w' => w'.cell? ⟨gb1066, 0, none⟩ = some (.bool ((rd_T137 l0_3 x5_3).f0)) ∧ w'.cell? ⟨gb1066, 1, none⟩ = some (.int .i64 ((rd_T137 l0_3 x5_3).f1)) ∧ w'.cell? ⟨gb1066, 2, none⟩ = some (.int .i64 ((rd_T137 l0_3 x5_3).f2)) ∧ w'.cell? ⟨gb1066, 3, none⟩ = some (.int .i64 ((rd_T137 l0_3 x5_3).f3)) ∧ w'.cell? ⟨gb1060, 0, none⟩ = some (.int .i64 a0_0) ∧ w'.cell? ⟨gb1060, 1, none⟩ = some (.int .i64 a0_1) ∧ w'.cell? ⟨gb1060, 2, none⟩ = some (.slice A0_2 l0_2.length c0_2) ∧ w'.cell? ⟨gb1060, 3, none⟩ = some (.slice (some ad1065) l0_3.length c0_3) ∧ w'.cell? (ad1065.add (((ji60)).toNat * 4)) = some (.bool ((rd_T137 l0_3 (ji60)).f0)) ∧ w'.cell? ⟨(ad1065.add (((ji60)).toNat * 4)).block, (ad1065.add (((ji60)).toNat * 4)).off + 1, none⟩ = some (.int .i64 ((rd_T137 l0_3 (ji60)).f1)) ∧ w'.cell? ⟨(ad1065.add (((ji60)).toNat * 4)).block, (ad1065.add (((ji60)).toNat * 4)).off + 2, none⟩ = some (.int .i64 ((rd_T137 l0_3 (ji60)).f2)) ∧ w'.cell? ⟨(ad1065.add (((ji60)).toNat * 4)).block, (ad1065.add (((ji60)).toNat * 4)).off + 3, none⟩ = some (.int .i64 ((rd_T137 l0_3 (ji60)).f3))) (ds := []) #[false, false, false, false, false, false, false, false, false, false, false, false, false, false, false, false, false, false, false, false, false, false, false] (by kernel_rfl) rfl rfl ⟨(blk_cell BK1066.out 0).trans rfl, (blk_cell BK1066.out 1).trans rfl, (blk_cell BK1066.out 2).trans rfl, (blk_cell BK1066.out 3).trans rfl, (blk_cell BK1060.out 0).trans rfl, (blk_cell BK1060.out 1).trans rfl, (blk_cell BK1060.out 2).trans rfl, (blk_cell BK1060.out 3).trans rfl, ((HB.out.cell (World.block_lt_of_cell? w _ hw1072_0)).trans hw1072_0), ((HB.out.cell (World.block_lt_of_cell? w _ hw1072_1)).trans hw1072_1), ((HB.out.cell (World.block_lt_of_cell? w _ hw1072_2)).trans hw1072_2), ((HB.out.cell (World.block_lt_of_cell? w _ hw1072_3)).trans hw1072_3)⟩ (fun hHeld => ?_);refine with_tabW spec_DeltaFault.tab15 spec_DeltaFault.bits15 (fun HT_ HW_ => ?_)
                     generalize wc.drew = w65 at BK1060 BK1063 BK1066 HB hx1072_0 hx1072_1 hx1072_2 hx1072_3 hHeld ⊢
                     refine pure_ (i := 0) (N := some 62) (v := ?_) (a' := ?_) #[true, false, false, false, false, false, false, false, false, false, false, false, false, false, false, false, false, false, false, false, false, false, false] rfl rfl (any_of HT_.out (by kernel_rfl)) (fun _ _ _ h => h) (Or.inl ⟨by rfl, ?_⟩) ?_ ?_
                     rotate_left
                     ·
                      intro w'
                      go_simp
                      with_reducible rfl
                     rotate_left
                     ·
                      simp only [Act.put, List.setIfInBounds_toArray, List.set_cons_zero, List.set_cons_succ, i64_w, i32_w]
                      rfl
                     refine take_ (i := 1) (N := some 63) (v := ?_) (a' := ?_) #[true, true, false, false, false, false, false, false, false, false, false, false, false, false, false, false, false, false, false, false, false, false, false] rfl rfl (take_ofW HT_.out HW_.out (by kernel_rfl)) (fun _ _ _ h => h) (Or.inl ⟨by rfl, ?_⟩) hHeld ?_ ?_
                     rotate_left
                     ·
                      rintro w' ⟨s0, s1, s2, s3, s4, s5, s6, s7, s8, s9, s10, s11⟩
                      go_simp
                      with_reducible rfl
                     rotate_left
                     ·
                      simp only [Act.put, List.setIfInBounds_toArray, List.set_cons_zero, List.set_cons_succ, i64_w, i32_w]
                      rfl
                     refine pure_ (i := 2) (N := some 64) (v := ?_) (a' := ?_) #[true, true, true, false, false, false, false, false, false, false, false, false, false, false, false, false, false, false, false, false, false, false, false] rfl rfl (any_of HT_.out (by kernel_rfl)) (fun _ _ _ h => h) (Or.inl ⟨by rfl, ?_⟩) ?_ ?_
                     rotate_left
                     ·
                      intro w'
                      go_simp
                      with_reducible rfl
                     rotate_left
                     ·
                      simp only [Act.put, List.setIfInBounds_toArray, List.set_cons_zero, List.set_cons_succ, i64_w, i32_w]
                      rfl
                     refine pure_ (i := 3) (N := some 65) (v := ?_) (a' := ?_) #[true, true, true, true, false, false, false, false, false, false, false, false, false, false, false, false, false, false, false, false, false, false, false] rfl rfl (any_of HT_.out (by kernel_rfl)) (fun _ _ _ h => h) (Or.inl ⟨by rfl, ?_⟩) ?_ ?_
                     rotate_left
                     ·
                      intro w'
                      go_simp
                      with_reducible rfl
                     rotate_left
                     ·
                      simp only [Act.put, List.setIfInBounds_toArray, List.set_cons_zero, List.set_cons_succ, i64_w, i32_w]
                      rfl
                     refine pure_ (i := 4) (N := some 66) (v := ?_) (a' := ?_) #[true, true, true, true, true, false, false, false, false, false, false, false, false, false, false, false, false, false, false, false, false, false, false] rfl rfl (any_of HT_.out (by kernel_rfl)) (fun _ _ _ h => h) (Or.inl ⟨by rfl, ?_⟩) ?_ ?_
                     rotate_left
                     ·
                      intro w'
                      go_simp
                      with_reducible rfl
                     rotate_left
                     ·
                      simp only [Act.put, List.setIfInBounds_toArray, List.set_cons_zero, List.set_cons_succ, i64_w, i32_w]
                      rfl
                     refine take_ (i := 5) (N := some 67) (v := ?_) (a' := ?_) #[true, true, true, true, true, true, false, false, false, false, false, false, false, false, false, false, false, false, false, false, false, false, false] rfl rfl (take_ofW HT_.out HW_.out (by kernel_rfl)) (fun _ _ _ h => h) (Or.inl ⟨by rfl, ?_⟩) hHeld ?_ ?_
                     rotate_left
                     ·
                      rintro w' ⟨s0, s1, s2, s3, s4, s5, s6, s7, s8, s9, s10, s11⟩
                      go_simp
                      with_reducible rfl
                     rotate_left
                     ·
                      simp only [Act.put, List.setIfInBounds_toArray, List.set_cons_zero, List.set_cons_succ, i64_w, i32_w]
                      rfl
                     refine pure_ (i := 6) (N := some 68) (v := ?_) (a' := ?_) #[true, true, true, true, true, true, true, false, false, false, false, false, false, false, false, false, false, false, false, false, false, false, false] rfl rfl (any_of HT_.out (by kernel_rfl)) (fun _ _ _ h => h) (Or.inl ⟨by rfl, ?_⟩) ?_ ?_
                     rotate_left
                     ·
                      intro w'
                      go_simp
                      with_reducible rfl
                     rotate_left
                     ·
                      simp only [Act.put, List.setIfInBounds_toArray, List.set_cons_zero, List.set_cons_succ, i64_w, i32_w]
                      rfl
                     refine pure_ (i := 7) (N := some 69) (v := ?_) (a' := ?_) #[true, true, true, true, true, true, true, true, false, false, false, false, false, false, false, false, false, false, false, false, false, false, false] rfl rfl (any_of HT_.out (by kernel_rfl)) (fun _ _ _ h => h) (Or.inl ⟨by rfl, ?_⟩) ?_ ?_
                     rotate_left
                     ·
                      intro w'
                      go_simp
                      with_reducible rfl
                     rotate_left
                     ·
                      simp only [Act.put, List.setIfInBounds_toArray, List.set_cons_zero, List.set_cons_succ, i64_w, i32_w]
                      rfl
                     refine pure_ (i := 8) (N := some 70) (v := ?_) (a' := ?_) #[true, true, true, true, true, true, true, true, true, false, false, false, false, false, false, false, false, false, false, false, false, false, false] rfl rfl (any_of HT_.out (by kernel_rfl)) (fun _ _ _ h => h) (Or.inl ⟨by rfl, ?_⟩) ?_ ?_
                     rotate_left
                     ·
                      intro w'
                      go_simp
                      with_reducible rfl
                     rotate_left
                     ·
                      simp only [Act.put, List.setIfInBounds_toArray, List.set_cons_zero, List.set_cons_succ, i64_w, i32_w]
                      rfl
                     refine pure_ (i := 9) (N := some 71) (v := ?_) (a' := ?_) #[true, true, true, true, true, true, true, true, true, true, false, false, false, false, false, false, false, false, false, false, false, false, false] rfl rfl (any_of HT_.out (by kernel_rfl)) (fun _ _ _ h => h) (Or.inl ⟨by rfl, ?_⟩) ?_ ?_
                     rotate_left
                     ·
                      intro w'
                      go_simp
                      with_reducible rfl
                     rotate_left
                     ·
                      simp only [Act.put, List.setIfInBounds_toArray, List.set_cons_zero, List.set_cons_succ, i64_w, i32_w]
                      rfl
                     refine pure_ (i := 10) (N := some 72) (v := ?_) (a' := ?_) #[true, true, true, true, true, true, true, true, true, true, true, false, false, false, false, false, false, false, false, false, false, false, false] rfl rfl (any_of HT_.out (by kernel_rfl)) (fun _ _ _ h => h) (Or.inl ⟨by rfl, ?_⟩) ?_ ?_
                     rotate_left
                     ·
                      intro w'
                      go_simp
                      with_reducible rfl
                     rotate_left
                     ·
                      simp only [Act.put, List.setIfInBounds_toArray, List.set_cons_zero, List.set_cons_succ, i64_w, i32_w]
                      rfl
                     refine pure_ (i := 11) (N := some 73) (v := ?_) (a' := ?_) #[true, true, true, true, true, true, true, true, true, true, true, true, false, false, false, false, false, false, false, false, false, false, false] rfl rfl (any_of HT_.out (by kernel_rfl)) (fun _ _ _ h => h) (Or.inl ⟨by rfl, ?_⟩) ?_ ?_
                     rotate_left
                     ·
                      intro w'
                      go_simp
                      with_reducible rfl
                     rotate_left
                     ·
                      simp only [Act.put, List.setIfInBounds_toArray, List.set_cons_zero, List.set_cons_succ, i64_w, i32_w]
                      rfl
                     refine pure_ (i := 12) (N := some 74) (v := ?_) (a' := ?_) #[true, true, true, true, true, true, true, true, true, true, true, true, true, false, false, false, false, false, false, false, false, false, false] rfl rfl (any_of HT_.out (by kernel_rfl)) (fun _ _ _ h => h) (Or.inl ⟨by rfl, ?_⟩) ?_ ?_
                     rotate_left
                     ·
                      intro w'
                      go_simp
                      with_reducible rfl
                     rotate_left
                     ·
                      simp only [Act.put, List.setIfInBounds_toArray, List.set_cons_zero, List.set_cons_succ, i64_w, i32_w]
                      rfl
                     refine pure_ (i := 14) (N := some 76) (v := ?_) (a' := ?_) #[true, true, true, true, true, true, true, true, true, true, true, true, true, false, true, false, false, false, false, false, false, false, false] rfl rfl (any_of HT_.out (by kernel_rfl)) (fun _ _ _ h => h) (Or.inl ⟨by rfl, ?_⟩) ?_ ?_
                     rotate_left
                     ·
                      intro w'
                      go_simp
                      with_reducible rfl
                     rotate_left
                     ·
                      simp only [Act.put, List.setIfInBounds_toArray, List.set_cons_zero, List.set_cons_succ, i64_w, i32_w]
                      rfl
                     refine pure_ (i := 15) (N := some 77) (v := ?_) (a' := ?_) #[true, true, true, true, true, true, true, true, true, true, true, true, true, false, true, true, false, false, false, false, false, false, false] rfl rfl (any_of HT_.out (by kernel_rfl)) (fun _ _ _ h => h) (Or.inl ⟨by rfl, ?_⟩) ?_ ?_
                     rotate_left
                     ·
                      intro w'
                      go_simp
                      with_reducible rfl
                     rotate_left
                     ·
                      simp only [Act.put, List.setIfInBounds_toArray, List.set_cons_zero, List.set_cons_succ, i64_w, i32_w]
                      rfl
                     refine take_ (i := 13) (N := some 75) (v := ?_) (a' := ?_) #[true, true, true, true, true, true, true, true, true, true, true, true, true, true, true, true, false, false, false, false, false, false, false] rfl rfl (take_ofW HT_.out HW_.out (by kernel_rfl)) (fun _ _ _ h => h) (Or.inl ⟨by rfl, ?_⟩) hHeld ?_ ?_
                     rotate_left
                     ·
                      rintro w' ⟨s0, s1, s2, s3, s4, s5, s6, s7, s8, s9, s10, s11⟩
                      go_simp
                      with_reducible rfl
                     rotate_left
                     ·
                      simp only [Act.put, List.setIfInBounds_toArray, List.set_cons_zero, List.set_cons_succ, i64_w, i32_w]
                      rfl
                     refine pure_ (i := 16) (N := some 78) (v := ?_) (a' := ?_) #[true, true, true, true, true, true, true, true, true, true, true, true, true, true, true, true, true, false, false, false, false, false, false] rfl rfl (any_of HT_.out (by kernel_rfl)) (fun _ _ _ h => h) (Or.inl ⟨by rfl, ?_⟩) ?_ ?_
                     rotate_left
                     ·
                      intro w'
                      go_simp
                      with_reducible rfl
                     rotate_left
                     ·
                      simp only [Act.put, List.setIfInBounds_toArray, List.set_cons_zero, List.set_cons_succ, i64_w, i32_w]
                      rfl
                     refine take_ (i := 17) (N := some 79) (v := ?_) (a' := ?_) #[true, true, true, true, true, true, true, true, true, true, true, true, true, true, true, true, true, true, false, false, false, false, false] rfl rfl (take_ofW HT_.out HW_.out (by kernel_rfl)) (fun _ _ _ h => h) (Or.inl ⟨by rfl, ?_⟩) hHeld ?_ ?_
                     rotate_left
                     ·
                      rintro w' ⟨s0, s1, s2, s3, s4, s5, s6, s7, s8, s9, s10, s11⟩
                      go_simp
                      with_reducible rfl
                     rotate_left
                     ·
                      simp only [Act.put, List.setIfInBounds_toArray, List.set_cons_zero, List.set_cons_succ, i64_w, i32_w]
                      rfl
                     refine take_ (i := 18) (N := some 80) (v := ?_) (a' := ?_) #[true, true, true, true, true, true, true, true, true, true, true, true, true, true, true, true, true, true, true, false, false, false, false] rfl rfl (take_ofW HT_.out HW_.out (by kernel_rfl)) (fun _ _ _ h => h) (Or.inl ⟨by rfl, ?_⟩) hHeld ?_ ?_
                     rotate_left
                     ·
                      rintro w' ⟨s0, s1, s2, s3, s4, s5, s6, s7, s8, s9, s10, s11⟩
                      go_simp
                      with_reducible rfl
                     rotate_left
                     ·
                      simp only [Act.put, List.setIfInBounds_toArray, List.set_cons_zero, List.set_cons_succ, i64_w, i32_w]
                      rfl
                     refine one_ (i := 19) (N := some 81) #[true, true, true, true, true, true, true, true, true, true, true, true, true, true, true, true, true, true, true, true, false, false, false] rfl rfl (one_of HT_.out (by kernel_rfl)) (by decide) (fun K hK => ?_)
                     refine goes_ Try.func104 (by kernel_rfl) rfl #[.agg #[.bool ((rd_T137 l0_3 (ji60)).f0), .int .i64 ((rd_T137 l0_3 (ji60)).f1), .int .i64 ((rd_T137 l0_3 (ji60)).f2), .int .i64 ((rd_T137 l0_3 (ji60)).f3)], .agg #[.bool ((rd_T137 l0_3 x5_3).f0), .int .i64 ((rd_T137 l0_3 x5_3).f1), .int .i64 ((rd_T137 l0_3 x5_3).f2), .int .i64 ((rd_T137 l0_3 x5_3).f3)]] (by rfl) rfl rfl (by (try simp only [List.map_toArray, List.map_cons, List.map_nil]);first|done|(simp only [hji60];rfl)|rfl|(simp only [List.length_drop, List.length_take];rfl)|(simp [Act.eval, *];done)) ?_
                     with_reducible refine (spec_l7Ahead.calls ((rd_T137 l0_3 (ji60)).f0) ((rd_T137 l0_3 (ji60)).f1) ((rd_T137 l0_3 (ji60)).f2) ((rd_T137 l0_3 (ji60)).f3) ((rd_T137 l0_3 x5_3).f0) ((rd_T137 l0_3 x5_3).f1) ((rd_T137 l0_3 x5_3).f2) ((rd_T137 l0_3 x5_3).f3) true _ A63.out).mono ?_
                     rintro e w66 ⟨rfl, hb⟩
                     refine ⟨_, rfl, ?_⟩
                     have n0_ := Aside0.mk (blk_below (g := gb1060) (o := .cells #[.int .i64 a0_0, .int .i64 a0_1, .slice A0_2 l0_2.length c0_2, .slice (some ad1065) l0_3.length c0_3] 84 (0, 0)) (by (with_reducible repeat (first|refine blk_drewN ?_ _|refine blk_drew ?_|refine blk_alloc ?_ _));exact BK1060.out) hb)
                     have n1_ := Aside0.mk (blk_below (g := gb1063) (o := .cells #[.int .i64 0, .slice A0_2 l0_2.length c0_2, .slice none 0 0, .slice none 0 0] 41 (0, 0)) (by (with_reducible repeat (first|refine blk_drewN ?_ _|refine blk_drew ?_|refine blk_alloc ?_ _));exact BK1063.out) hb)
                     have n2_ := Aside0.mk (blk_below (g := gb1066) (o := .cells #[.bool ((rd_T137 l0_3 x5_3).f0), .int .i64 ((rd_T137 l0_3 x5_3).f1), .int .i64 ((rd_T137 l0_3 x5_3).f2), .int .i64 ((rd_T137 l0_3 x5_3).f3)] 137 (0, 0)) (by (with_reducible repeat (first|refine blk_drewN ?_ _|refine blk_drew ?_|refine blk_alloc ?_ _));exact BK1066.out) hb)
                     have n3_ := Aside0.mk (below_step (by repeat (first|(with_reducible first|exact HB.out|apply below_alloc|apply pw_below_drewN|apply below_drew1|refine below_set ?_ GE1060.out|refine below_set ?_ GE1063.out|refine below_set ?_ GE1066.out)|exact HB.out)) hb)
                     clear BK1060
                     clear BK1063
                     clear BK1066
                     clear HB
                     have BK1060 := n0_
                     have BK1063 := n1_
                     have BK1066 := n2_
                     have HB := n3_
                     clear n0_ n1_ n2_ n3_
                     (try clear hb)
                     (try clear hb2)
                     (try clear hk)
                     (try clear hi)
                     refine hK.out _ _ ⟨(blk_cell BK1066.out 0).trans rfl, (blk_cell BK1066.out 1).trans rfl, (blk_cell BK1066.out 2).trans rfl, (blk_cell BK1066.out 3).trans rfl, (blk_cell BK1060.out 0).trans rfl, (blk_cell BK1060.out 1).trans rfl, (blk_cell BK1060.out 2).trans rfl, (blk_cell BK1060.out 3).trans rfl, ((HB.out.cell (World.block_lt_of_cell? w _ hw1072_0)).trans hw1072_0), ((HB.out.cell (World.block_lt_of_cell? w _ hw1072_1)).trans hw1072_1), ((HB.out.cell (World.block_lt_of_cell? w _ hw1072_2)).trans hw1072_2), ((HB.out.cell (World.block_lt_of_cell? w _ hw1072_3)).trans hw1072_3)⟩ (fun hHeld => ?_)
                     clear hK K
                     refine norm_ (a' := ?_) ?_ ?_
                     rotate_left
                     ·
                      show Act.put _ (some 81) _ = _
                      simp only [Act.put, List.setIfInBounds_toArray, List.set_cons_zero, List.set_cons_succ, i64_w, i32_w]
                      rfl
                     refine pure_ (i := 20) (N := some 82) (v := ?_) (a' := ?_) #[true, true, true, true, true, true, true, true, true, true, true, true, true, true, true, true, true, true, true, true, true, false, false] rfl rfl (any_of HT_.out (by kernel_rfl)) (fun _ _ _ h => h) (Or.inl ⟨by rfl, ?_⟩) ?_ ?_
                     rotate_left
                     ·
                      intro w'
                      go_simp
                      with_reducible rfl
                     rotate_left
                     ·
                      simp only [Act.put, List.setIfInBounds_toArray, List.set_cons_zero, List.set_cons_succ, i64_w, i32_w]
                      rfl
                     refine pure_ (i := 21) (N := some 83) (v := ?_) (a' := ?_) #[true, true, true, true, true, true, true, true, true, true, true, true, true, true, true, true, true, true, true, true, true, true, false] rfl rfl (any_of HT_.out (by kernel_rfl)) (fun _ _ _ h => h) (Or.inl ⟨by rfl, ?_⟩) ?_ ?_
                     rotate_left
                     ·
                      intro w'
                      go_simp
                      with_reducible rfl
                     rotate_left
                     ·
                      simp only [Act.put, List.setIfInBounds_toArray, List.set_cons_zero, List.set_cons_succ, i64_w, i32_w]
                      rfl
                     refine pure_ (i := 22) (N := some 84) (v := ?_) (a' := ?_) #[true, true, true, true, true, true, true, true, true, true, true, true, true, true, true, true, true, true, true, true, true, true, true] rfl rfl (any_of HT_.out (by kernel_rfl)) (fun _ _ _ h => h) (Or.inl ⟨by rfl, ?_⟩) ?_ ?_
                     rotate_left
                     ·
                      intro w'
                      go_simp
                      with_reducible rfl
                     rotate_left
                     ·
                      simp only [Act.put, List.setIfInBounds_toArray, List.set_cons_zero, List.set_cons_succ, i64_w, i32_w]
                      rfl
                     refine done_ (done_of HT_.out (by kernel_rfl)) ?_
                     try go_wp2
                     go_roundg kj23
                     case measure => have := HJ1.out;have := HJ9.out;have := HK3.out;have := HJ23.out;omega
                     case rel => exact ⟨(wrap64 (x5_3 + 1)), (by first|rfl|(simp;done)|(simp [*];done)), H', ⟨by have := HJ1.out;have := HJ9.out;have := HK3.out;have := HJ23.out;omega⟩, ⟨by (with_reducible repeat (first|refine blk_drewN ?_ _|refine blk_drew ?_|refine blk_alloc ?_ _));exact BK1060.out⟩, ⟨by (with_reducible repeat (first|refine blk_drewN ?_ _|refine blk_drew ?_|refine blk_alloc ?_ _));exact BK1063.out⟩, ⟨by repeat (first|(with_reducible first|exact HB.out|apply below_alloc|apply pw_below_drewN|apply below_drew1|refine below_set ?_ GE1060.out|refine below_set ?_ GE1063.out|refine below_set ?_ GE1066.out)|exact HB.out)⟩⟩
                    ·
                     replace c64 := Bool.eq_false_iff.mpr c64
                     subst c64
                     have H1 : (some 1) = some r := by rw [if_neg (show ¬ (false = true) by decide)] at H;exact H
                     clear H
                     have H := H1
                     clear H1
                     obtain rfl := Option.some.inj H
                     try go_wp2
                     have n0_ := Aside0.mk (blk_drew BK1060.out)
                     have n1_ := Aside0.mk (blk_drew BK1063.out)
                     have n2_ := Aside0.mk (blk_drew BK1066.out)
                     have n3_ := Aside0.mk (below_drew1 HB.out)
                     clear BK1060
                     clear BK1063
                     clear BK1066
                     clear HB
                     have BK1060 := n0_
                     have BK1063 := n1_
                     have BK1066 := n2_
                     have HB := n3_
                     clear n0_ n1_ n2_ n3_
                     have p1072 : 0 ≤ ((ji60) : Int) := of_decide_eq_true (by first|(with_reducible assumption)|assumption)
                     have q1072 : (ji60) < (l0_3.length : Int) := of_decide_eq_true (by first|(with_reducible assumption)|assumption)
                     obtain ⟨ad1072, e1072, hx1072_0, hx1072_1, hx1072_2, hx1072_3⟩ := at_T137 HR0_3.out (ji60) p1072 q1072
                     have hw1072_3 := hx1072_3
                     have hw1072_2 := hx1072_2
                     have hw1072_1 := hx1072_1
                     have hw1072_0 := hx1072_0
                     obtain rfl : ad1065 = ad1072 := (by injection e1072)
                     replace hx1072_0 := (HB.out.cell (World.block_lt_of_cell? w _ hx1072_0)).trans hx1072_0
                     replace hx1072_1 := (HB.out.cell (World.block_lt_of_cell? w _ hx1072_1)).trans hx1072_1
                     replace hx1072_2 := (HB.out.cell (World.block_lt_of_cell? w _ hx1072_2)).trans hx1072_2
                     replace hx1072_3 := (HB.out.cell (World.block_lt_of_cell? w _ hx1072_3)).trans hx1072_3
                     replace p1072 := eq_true p1072
                     replace q1072 := eq_true q1072
                     refine start_ (n := 23) (S := fun w' => w'.cell? ⟨gb1066, 0, none⟩ = some (.bool ((rd_T137 l0_3 x5_3).f0)) ∧ w'.cell? ⟨gb1066, 1, none⟩ = some (.int .i64 ((rd_T137 l0_3 x5_3).f1)) ∧ w'.cell? ⟨gb1066, 2, none⟩ = some (.int .i64 ((rd_T137 l0_3 x5_3).f2)) ∧ w'.cell? ⟨gb1066, 3, none⟩ = some (.int .i64 ((rd_T137 l0_3 x5_3).f3)) ∧ w'.cell? ⟨gb1060, 0, none⟩ = some (.int .i64 a0_0) ∧ w'.cell? ⟨gb1060, 1, none⟩ = some (.int .i64 a0_1) ∧ w'.cell? ⟨gb1060, 2, none⟩ = some (.slice A0_2 l0_2.length c0_2) ∧ w'.cell? ⟨gb1060, 3, none⟩ = some (.slice (some ad1065) l0_3.length c0_3) ∧ w'.cell? (ad1065.add (((ji60)).toNat * 4)) = some (.bool ((rd_T137 l0_3 (ji60)).f0)) ∧ w'.cell? ⟨(ad1065.add (((ji60)).toNat * 4)).block, (ad1065.add (((ji60)).toNat * 4)).off + 1, none⟩ = some (.int .i64 ((rd_T137 l0_3 (ji60)).f1)) ∧ w'.cell? ⟨(ad1065.add (((ji60)).toNat * 4)).block, (ad1065.add (((ji60)).toNat * 4)).off + 2, none⟩ = some (.int .i64 ((rd_T137 l0_3 (ji60)).f2)) ∧ w'.cell? ⟨(ad1065.add (((ji60)).toNat * 4)).block, (ad1065.add (((ji60)).toNat * 4)).off + 3, none⟩ = some (.int .i64 ((rd_T137 l0_3 (ji60)).f3))) (ds := []) #[false, false, false, false, false, false, false, false, false, false, false, false, false, false, false, false, false, false, false, false, false, false, false] (by kernel_rfl) rfl rfl ⟨(blk_cell BK1066.out 0).trans rfl, (blk_cell BK1066.out 1).trans rfl, (blk_cell BK1066.out 2).trans rfl, (blk_cell BK1066.out 3).trans rfl, (blk_cell BK1060.out 0).trans rfl, (blk_cell BK1060.out 1).trans rfl, (blk_cell BK1060.out 2).trans rfl, (blk_cell BK1060.out 3).trans rfl, ((HB.out.cell (World.block_lt_of_cell? w _ hw1072_0)).trans hw1072_0), ((HB.out.cell (World.block_lt_of_cell? w _ hw1072_1)).trans hw1072_1), ((HB.out.cell (World.block_lt_of_cell? w _ hw1072_2)).trans hw1072_2), ((HB.out.cell (World.block_lt_of_cell? w _ hw1072_3)).trans hw1072_3)⟩ (fun hHeld => ?_);refine with_tabW spec_DeltaFault.tab15 spec_DeltaFault.bits15 (fun HT_ HW_ => ?_)
                     generalize wc.drew = w67 at BK1060 BK1063 BK1066 HB hx1072_0 hx1072_1 hx1072_2 hx1072_3 hHeld ⊢
                     refine pure_ (i := 0) (N := some 62) (v := ?_) (a' := ?_) #[true, false, false, false, false, false, false, false, false, false, false, false, false, false, false, false, false, false, false, false, false, false, false] rfl rfl (any_of HT_.out (by kernel_rfl)) (fun _ _ _ h => h) (Or.inl ⟨by rfl, ?_⟩) ?_ ?_
                     rotate_left
                     ·
                      intro w'
                      go_simp
                      with_reducible rfl
                     rotate_left
                     ·
                      simp only [Act.put, List.setIfInBounds_toArray, List.set_cons_zero, List.set_cons_succ, i64_w, i32_w]
                      rfl
                     refine take_ (i := 1) (N := some 63) (v := ?_) (a' := ?_) #[true, true, false, false, false, false, false, false, false, false, false, false, false, false, false, false, false, false, false, false, false, false, false] rfl rfl (take_ofW HT_.out HW_.out (by kernel_rfl)) (fun _ _ _ h => h) (Or.inl ⟨by rfl, ?_⟩) hHeld ?_ ?_
                     rotate_left
                     ·
                      rintro w' ⟨s0, s1, s2, s3, s4, s5, s6, s7, s8, s9, s10, s11⟩
                      go_simp
                      with_reducible rfl
                     rotate_left
                     ·
                      simp only [Act.put, List.setIfInBounds_toArray, List.set_cons_zero, List.set_cons_succ, i64_w, i32_w]
                      rfl
                     refine pure_ (i := 2) (N := some 64) (v := ?_) (a' := ?_) #[true, true, true, false, false, false, false, false, false, false, false, false, false, false, false, false, false, false, false, false, false, false, false] rfl rfl (any_of HT_.out (by kernel_rfl)) (fun _ _ _ h => h) (Or.inl ⟨by rfl, ?_⟩) ?_ ?_
                     rotate_left
                     ·
                      intro w'
                      go_simp
                      with_reducible rfl
                     rotate_left
                     ·
                      simp only [Act.put, List.setIfInBounds_toArray, List.set_cons_zero, List.set_cons_succ, i64_w, i32_w]
                      rfl
                     refine pure_ (i := 3) (N := some 65) (v := ?_) (a' := ?_) #[true, true, true, true, false, false, false, false, false, false, false, false, false, false, false, false, false, false, false, false, false, false, false] rfl rfl (any_of HT_.out (by kernel_rfl)) (fun _ _ _ h => h) (Or.inl ⟨by rfl, ?_⟩) ?_ ?_
                     rotate_left
                     ·
                      intro w'
                      go_simp
                      with_reducible rfl
                     rotate_left
                     ·
                      simp only [Act.put, List.setIfInBounds_toArray, List.set_cons_zero, List.set_cons_succ, i64_w, i32_w]
                      rfl
                     refine pure_ (i := 4) (N := some 66) (v := ?_) (a' := ?_) #[true, true, true, true, true, false, false, false, false, false, false, false, false, false, false, false, false, false, false, false, false, false, false] rfl rfl (any_of HT_.out (by kernel_rfl)) (fun _ _ _ h => h) (Or.inl ⟨by rfl, ?_⟩) ?_ ?_
                     rotate_left
                     ·
                      intro w'
                      go_simp
                      with_reducible rfl
                     rotate_left
                     ·
                      simp only [Act.put, List.setIfInBounds_toArray, List.set_cons_zero, List.set_cons_succ, i64_w, i32_w]
                      rfl
                     refine take_ (i := 5) (N := some 67) (v := ?_) (a' := ?_) #[true, true, true, true, true, true, false, false, false, false, false, false, false, false, false, false, false, false, false, false, false, false, false] rfl rfl (take_ofW HT_.out HW_.out (by kernel_rfl)) (fun _ _ _ h => h) (Or.inl ⟨by rfl, ?_⟩) hHeld ?_ ?_
                     rotate_left
                     ·
                      rintro w' ⟨s0, s1, s2, s3, s4, s5, s6, s7, s8, s9, s10, s11⟩
                      go_simp
                      with_reducible rfl
                     rotate_left
                     ·
                      simp only [Act.put, List.setIfInBounds_toArray, List.set_cons_zero, List.set_cons_succ, i64_w, i32_w]
                      rfl
                     refine pure_ (i := 6) (N := some 68) (v := ?_) (a' := ?_) #[true, true, true, true, true, true, true, false, false, false, false, false, false, false, false, false, false, false, false, false, false, false, false] rfl rfl (any_of HT_.out (by kernel_rfl)) (fun _ _ _ h => h) (Or.inl ⟨by rfl, ?_⟩) ?_ ?_
                     rotate_left
                     ·
                      intro w'
                      go_simp
                      with_reducible rfl
                     rotate_left
                     ·
                      simp only [Act.put, List.setIfInBounds_toArray, List.set_cons_zero, List.set_cons_succ, i64_w, i32_w]
                      rfl
                     refine pure_ (i := 7) (N := some 69) (v := ?_) (a' := ?_) #[true, true, true, true, true, true, true, true, false, false, false, false, false, false, false, false, false, false, false, false, false, false, false] rfl rfl (any_of HT_.out (by kernel_rfl)) (fun _ _ _ h => h) (Or.inl ⟨by rfl, ?_⟩) ?_ ?_
                     rotate_left
                     ·
                      intro w'
                      go_simp
                      with_reducible rfl
                     rotate_left
                     ·
                      simp only [Act.put, List.setIfInBounds_toArray, List.set_cons_zero, List.set_cons_succ, i64_w, i32_w]
                      rfl
                     refine pure_ (i := 8) (N := some 70) (v := ?_) (a' := ?_) #[true, true, true, true, true, true, true, true, true, false, false, false, false, false, false, false, false, false, false, false, false, false, false] rfl rfl (any_of HT_.out (by kernel_rfl)) (fun _ _ _ h => h) (Or.inl ⟨by rfl, ?_⟩) ?_ ?_
                     rotate_left
                     ·
                      intro w'
                      go_simp
                      with_reducible rfl
                     rotate_left
                     ·
                      simp only [Act.put, List.setIfInBounds_toArray, List.set_cons_zero, List.set_cons_succ, i64_w, i32_w]
                      rfl
                     refine pure_ (i := 9) (N := some 71) (v := ?_) (a' := ?_) #[true, true, true, true, true, true, true, true, true, true, false, false, false, false, false, false, false, false, false, false, false, false, false] rfl rfl (any_of HT_.out (by kernel_rfl)) (fun _ _ _ h => h) (Or.inl ⟨by rfl, ?_⟩) ?_ ?_
                     rotate_left
                     ·
                      intro w'
                      go_simp
                      with_reducible rfl
                     rotate_left
                     ·
                      simp only [Act.put, List.setIfInBounds_toArray, List.set_cons_zero, List.set_cons_succ, i64_w, i32_w]
                      rfl
                     refine pure_ (i := 10) (N := some 72) (v := ?_) (a' := ?_) #[true, true, true, true, true, true, true, true, true, true, true, false, false, false, false, false, false, false, false, false, false, false, false] rfl rfl (any_of HT_.out (by kernel_rfl)) (fun _ _ _ h => h) (Or.inl ⟨by rfl, ?_⟩) ?_ ?_
                     rotate_left
                     ·
                      intro w'
                      go_simp
                      with_reducible rfl
                     rotate_left
                     ·
                      simp only [Act.put, List.setIfInBounds_toArray, List.set_cons_zero, List.set_cons_succ, i64_w, i32_w]
                      rfl
                     refine pure_ (i := 11) (N := some 73) (v := ?_) (a' := ?_) #[true, true, true, true, true, true, true, true, true, true, true, true, false, false, false, false, false, false, false, false, false, false, false] rfl rfl (any_of HT_.out (by kernel_rfl)) (fun _ _ _ h => h) (Or.inl ⟨by rfl, ?_⟩) ?_ ?_
                     rotate_left
                     ·
                      intro w'
                      go_simp
                      with_reducible rfl
                     rotate_left
                     ·
                      simp only [Act.put, List.setIfInBounds_toArray, List.set_cons_zero, List.set_cons_succ, i64_w, i32_w]
                      rfl
                     refine pure_ (i := 12) (N := some 74) (v := ?_) (a' := ?_) #[true, true, true, true, true, true, true, true, true, true, true, true, true, false, false, false, false, false, false, false, false, false, false] rfl rfl (any_of HT_.out (by kernel_rfl)) (fun _ _ _ h => h) (Or.inl ⟨by rfl, ?_⟩) ?_ ?_
                     rotate_left
                     ·
                      intro w'
                      go_simp
                      with_reducible rfl
                     rotate_left
                     ·
                      simp only [Act.put, List.setIfInBounds_toArray, List.set_cons_zero, List.set_cons_succ, i64_w, i32_w]
                      rfl
                     refine pure_ (i := 14) (N := some 76) (v := ?_) (a' := ?_) #[true, true, true, true, true, true, true, true, true, true, true, true, true, false, true, false, false, false, false, false, false, false, false] rfl rfl (any_of HT_.out (by kernel_rfl)) (fun _ _ _ h => h) (Or.inl ⟨by rfl, ?_⟩) ?_ ?_
                     rotate_left
                     ·
                      intro w'
                      go_simp
                      with_reducible rfl
                     rotate_left
                     ·
                      simp only [Act.put, List.setIfInBounds_toArray, List.set_cons_zero, List.set_cons_succ, i64_w, i32_w]
                      rfl
                     refine pure_ (i := 15) (N := some 77) (v := ?_) (a' := ?_) #[true, true, true, true, true, true, true, true, true, true, true, true, true, false, true, true, false, false, false, false, false, false, false] rfl rfl (any_of HT_.out (by kernel_rfl)) (fun _ _ _ h => h) (Or.inl ⟨by rfl, ?_⟩) ?_ ?_
                     rotate_left
                     ·
                      intro w'
                      go_simp
                      with_reducible rfl
                     rotate_left
                     ·
                      simp only [Act.put, List.setIfInBounds_toArray, List.set_cons_zero, List.set_cons_succ, i64_w, i32_w]
                      rfl
                     refine take_ (i := 13) (N := some 75) (v := ?_) (a' := ?_) #[true, true, true, true, true, true, true, true, true, true, true, true, true, true, true, true, false, false, false, false, false, false, false] rfl rfl (take_ofW HT_.out HW_.out (by kernel_rfl)) (fun _ _ _ h => h) (Or.inl ⟨by rfl, ?_⟩) hHeld ?_ ?_
                     rotate_left
                     ·
                      rintro w' ⟨s0, s1, s2, s3, s4, s5, s6, s7, s8, s9, s10, s11⟩
                      go_simp
                      with_reducible rfl
                     rotate_left
                     ·
                      simp only [Act.put, List.setIfInBounds_toArray, List.set_cons_zero, List.set_cons_succ, i64_w, i32_w]
                      rfl
                     refine pure_ (i := 16) (N := some 78) (v := ?_) (a' := ?_) #[true, true, true, true, true, true, true, true, true, true, true, true, true, true, true, true, true, false, false, false, false, false, false] rfl rfl (any_of HT_.out (by kernel_rfl)) (fun _ _ _ h => h) (Or.inl ⟨by rfl, ?_⟩) ?_ ?_
                     rotate_left
                     ·
                      intro w'
                      go_simp
                      with_reducible rfl
                     rotate_left
                     ·
                      simp only [Act.put, List.setIfInBounds_toArray, List.set_cons_zero, List.set_cons_succ, i64_w, i32_w]
                      rfl
                     refine take_ (i := 17) (N := some 79) (v := ?_) (a' := ?_) #[true, true, true, true, true, true, true, true, true, true, true, true, true, true, true, true, true, true, false, false, false, false, false] rfl rfl (take_ofW HT_.out HW_.out (by kernel_rfl)) (fun _ _ _ h => h) (Or.inl ⟨by rfl, ?_⟩) hHeld ?_ ?_
                     rotate_left
                     ·
                      rintro w' ⟨s0, s1, s2, s3, s4, s5, s6, s7, s8, s9, s10, s11⟩
                      go_simp
                      with_reducible rfl
                     rotate_left
                     ·
                      simp only [Act.put, List.setIfInBounds_toArray, List.set_cons_zero, List.set_cons_succ, i64_w, i32_w]
                      rfl
                     refine take_ (i := 18) (N := some 80) (v := ?_) (a' := ?_) #[true, true, true, true, true, true, true, true, true, true, true, true, true, true, true, true, true, true, true, false, false, false, false] rfl rfl (take_ofW HT_.out HW_.out (by kernel_rfl)) (fun _ _ _ h => h) (Or.inl ⟨by rfl, ?_⟩) hHeld ?_ ?_
                     rotate_left
                     ·
                      rintro w' ⟨s0, s1, s2, s3, s4, s5, s6, s7, s8, s9, s10, s11⟩
                      go_simp
                      with_reducible rfl
                     rotate_left
                     ·
                      simp only [Act.put, List.setIfInBounds_toArray, List.set_cons_zero, List.set_cons_succ, i64_w, i32_w]
                      rfl
                     refine one_ (i := 19) (N := some 81) #[true, true, true, true, true, true, true, true, true, true, true, true, true, true, true, true, true, true, true, true, false, false, false] rfl rfl (one_of HT_.out (by kernel_rfl)) (by decide) (fun K hK => ?_)
                     refine goes_ Try.func104 (by kernel_rfl) rfl #[.agg #[.bool ((rd_T137 l0_3 (ji60)).f0), .int .i64 ((rd_T137 l0_3 (ji60)).f1), .int .i64 ((rd_T137 l0_3 (ji60)).f2), .int .i64 ((rd_T137 l0_3 (ji60)).f3)], .agg #[.bool ((rd_T137 l0_3 x5_3).f0), .int .i64 ((rd_T137 l0_3 x5_3).f1), .int .i64 ((rd_T137 l0_3 x5_3).f2), .int .i64 ((rd_T137 l0_3 x5_3).f3)]] (by rfl) rfl rfl (by (try simp only [List.map_toArray, List.map_cons, List.map_nil]);first|done|(simp only [hji60];rfl)|rfl|(simp only [List.length_drop, List.length_take];rfl)|(simp [Act.eval, *];done)) ?_
                     with_reducible refine (spec_l7Ahead.calls ((rd_T137 l0_3 (ji60)).f0) ((rd_T137 l0_3 (ji60)).f1) ((rd_T137 l0_3 (ji60)).f2) ((rd_T137 l0_3 (ji60)).f3) ((rd_T137 l0_3 x5_3).f0) ((rd_T137 l0_3 x5_3).f1) ((rd_T137 l0_3 x5_3).f2) ((rd_T137 l0_3 x5_3).f3) false _ A63.out).mono ?_
                     rintro e w68 ⟨rfl, hb⟩
                     refine ⟨_, rfl, ?_⟩
                     have n0_ := Aside0.mk (blk_below (g := gb1060) (o := .cells #[.int .i64 a0_0, .int .i64 a0_1, .slice A0_2 l0_2.length c0_2, .slice (some ad1065) l0_3.length c0_3] 84 (0, 0)) (by (with_reducible repeat (first|refine blk_drewN ?_ _|refine blk_drew ?_|refine blk_alloc ?_ _));exact BK1060.out) hb)
                     have n1_ := Aside0.mk (blk_below (g := gb1063) (o := .cells #[.int .i64 0, .slice A0_2 l0_2.length c0_2, .slice none 0 0, .slice none 0 0] 41 (0, 0)) (by (with_reducible repeat (first|refine blk_drewN ?_ _|refine blk_drew ?_|refine blk_alloc ?_ _));exact BK1063.out) hb)
                     have n2_ := Aside0.mk (blk_below (g := gb1066) (o := .cells #[.bool ((rd_T137 l0_3 x5_3).f0), .int .i64 ((rd_T137 l0_3 x5_3).f1), .int .i64 ((rd_T137 l0_3 x5_3).f2), .int .i64 ((rd_T137 l0_3 x5_3).f3)] 137 (0, 0)) (by (with_reducible repeat (first|refine blk_drewN ?_ _|refine blk_drew ?_|refine blk_alloc ?_ _));exact BK1066.out) hb)
                     have n3_ := Aside0.mk (below_step (by repeat (first|(with_reducible first|exact HB.out|apply below_alloc|apply pw_below_drewN|apply below_drew1|refine below_set ?_ GE1060.out|refine below_set ?_ GE1063.out|refine below_set ?_ GE1066.out)|exact HB.out)) hb)
                     clear BK1060
                     clear BK1063
                     clear BK1066
                     clear HB
                     have BK1060 := n0_
                     have BK1063 := n1_
                     have BK1066 := n2_
                     have HB := n3_
                     clear n0_ n1_ n2_ n3_
                     (try clear hb)
                     (try clear hb2)
                     (try clear hk)
                     (try clear hi)
                     refine hK.out _ _ ⟨(blk_cell BK1066.out 0).trans rfl, (blk_cell BK1066.out 1).trans rfl, (blk_cell BK1066.out 2).trans rfl, (blk_cell BK1066.out 3).trans rfl, (blk_cell BK1060.out 0).trans rfl, (blk_cell BK1060.out 1).trans rfl, (blk_cell BK1060.out 2).trans rfl, (blk_cell BK1060.out 3).trans rfl, ((HB.out.cell (World.block_lt_of_cell? w _ hw1072_0)).trans hw1072_0), ((HB.out.cell (World.block_lt_of_cell? w _ hw1072_1)).trans hw1072_1), ((HB.out.cell (World.block_lt_of_cell? w _ hw1072_2)).trans hw1072_2), ((HB.out.cell (World.block_lt_of_cell? w _ hw1072_3)).trans hw1072_3)⟩ (fun hHeld => ?_)
                     clear hK K
                     refine norm_ (a' := ?_) ?_ ?_
                     rotate_left
                     ·
                      show Act.put _ (some 81) _ = _
                      simp only [Act.put, List.setIfInBounds_toArray, List.set_cons_zero, List.set_cons_succ, i64_w, i32_w]
                      rfl
                     refine pure_ (i := 20) (N := some 82) (v := ?_) (a' := ?_) #[true, true, true, true, true, true, true, true, true, true, true, true, true, true, true, true, true, true, true, true, true, false, false] rfl rfl (any_of HT_.out (by kernel_rfl)) (fun _ _ _ h => h) (Or.inl ⟨by rfl, ?_⟩) ?_ ?_
                     rotate_left
                     ·
                      intro w'
                      go_simp
                      with_reducible rfl
                     rotate_left
                     ·
                      simp only [Act.put, List.setIfInBounds_toArray, List.set_cons_zero, List.set_cons_succ, i64_w, i32_w]
                      rfl
                     refine pure_ (i := 21) (N := some 83) (v := ?_) (a' := ?_) #[true, true, true, true, true, true, true, true, true, true, true, true, true, true, true, true, true, true, true, true, true, true, false] rfl rfl (any_of HT_.out (by kernel_rfl)) (fun _ _ _ h => h) (Or.inl ⟨by rfl, ?_⟩) ?_ ?_
                     rotate_left
                     ·
                      intro w'
                      go_simp
                      with_reducible rfl
                     rotate_left
                     ·
                      simp only [Act.put, List.setIfInBounds_toArray, List.set_cons_zero, List.set_cons_succ, i64_w, i32_w]
                      rfl
                     refine pure_ (i := 22) (N := some 84) (v := ?_) (a' := ?_) #[true, true, true, true, true, true, true, true, true, true, true, true, true, true, true, true, true, true, true, true, true, true, true] rfl rfl (any_of HT_.out (by kernel_rfl)) (fun _ _ _ h => h) (Or.inl ⟨by rfl, ?_⟩) ?_ ?_
                     rotate_left
                     ·
                      intro w'
                      go_simp
                      with_reducible rfl
                     rotate_left
                     ·
                      simp only [Act.put, List.setIfInBounds_toArray, List.set_cons_zero, List.set_cons_succ, i64_w, i32_w]
                      rfl
                     refine done_ (done_of HT_.out (by kernel_rfl)) ?_
                     try go_wp2
                     go_ret
                     exact ⟨by first|rfl|(simp [errW_none, errW_some] <;> rfl)|(simp only [← hji60];first|rfl|(simp [errW_none, errW_some] <;> rfl))|(simp [*, errW_none, errW_some] <;> rfl), by repeat (first|(with_reducible first|exact HB.out|apply below_alloc|apply pw_below_drewN|apply below_drew1|refine below_set ?_ GE1060.out|refine below_set ?_ GE1063.out|refine below_set ?_ GE1066.out)|exact HB.out)⟩
                   ·
                    rw [if_neg c62] at H
                    exact absurd H (by simp)
                  ·
                   rw [if_neg c61] at H
                   exact absurd H (by simp)
                 ·
                  rw [if_neg c59] at H
                  have c59b0 : decide (0 < x5_3) = false := decide_eq_false c59
                  clear c59
                  have H' := Aside0.mk H
                  clear H
                  try go_wp2
                  have n0_ := Aside0.mk (blk_drew BK1060.out)
                  have n1_ := Aside0.mk (blk_drew BK1063.out)
                  have n2_ := Aside0.mk (blk_drew BK1066.out)
                  have n3_ := Aside0.mk (below_drew1 HB.out)
                  clear BK1060
                  clear BK1063
                  clear BK1066
                  clear HB
                  have BK1060 := n0_
                  have BK1063 := n1_
                  have BK1066 := n2_
                  have HB := n3_
                  clear n0_ n1_ n2_ n3_
                  refine start_ (n := 23) (S := fun w' => w'.cell? ⟨gb1066, 0, none⟩ = some (.bool ((rd_T137 l0_3 x5_3).f0)) ∧ w'.cell? ⟨gb1066, 1, none⟩ = some (.int .i64 ((rd_T137 l0_3 x5_3).f1)) ∧ w'.cell? ⟨gb1066, 2, none⟩ = some (.int .i64 ((rd_T137 l0_3 x5_3).f2)) ∧ w'.cell? ⟨gb1066, 3, none⟩ = some (.int .i64 ((rd_T137 l0_3 x5_3).f3))) (ds := []) #[false, false, false, false, false, false, false, false, false, false, false, false, false, false, false, false, false, false, false, false, false, false, false] (by kernel_rfl) rfl rfl ⟨(blk_cell BK1066.out 0).trans rfl, (blk_cell BK1066.out 1).trans rfl, (blk_cell BK1066.out 2).trans rfl, (blk_cell BK1066.out 3).trans rfl⟩ (fun hHeld => ?_);refine with_tabW spec_DeltaFault.tab15 spec_DeltaFault.bits15 (fun HT_ HW_ => ?_)
                  generalize wc.drew = w69 at BK1060 BK1063 BK1066 HB hHeld ⊢
                  refine pure_ (i := 0) (N := some 62) (v := ?_) (a' := ?_) #[true, false, false, false, false, false, false, false, false, false, false, false, false, false, false, false, false, false, false, false, false, false, false] rfl rfl (any_of HT_.out (by kernel_rfl)) (fun _ _ _ h => h) (Or.inl ⟨by rfl, ?_⟩) ?_ ?_
                  rotate_left
                  ·
                   intro w'
                   go_simp
                   with_reducible rfl
                  rotate_left
                  ·
                   simp only [Act.put, List.setIfInBounds_toArray, List.set_cons_zero, List.set_cons_succ, i64_w, i32_w]
                   rfl
                  refine take_ (i := 1) (N := some 63) (v := ?_) (a' := ?_) #[true, true, false, false, false, false, false, false, false, false, false, false, false, false, false, false, false, false, false, false, false, false, false] rfl rfl (take_ofW HT_.out HW_.out (by kernel_rfl)) (fun _ _ _ h => h) (Or.inl ⟨by rfl, ?_⟩) hHeld ?_ ?_
                  rotate_left
                  ·
                   rintro w' ⟨s0, s1, s2, s3⟩
                   go_simp
                   with_reducible rfl
                  rotate_left
                  ·
                   simp only [Act.put, List.setIfInBounds_toArray, List.set_cons_zero, List.set_cons_succ, i64_w, i32_w]
                   rfl
                  refine pure_ (i := 2) (N := some 64) (v := ?_) (a' := ?_) #[true, true, true, false, false, false, false, false, false, false, false, false, false, false, false, false, false, false, false, false, false, false, false] rfl rfl (any_of HT_.out (by kernel_rfl)) (fun _ _ _ h => h) (Or.inl ⟨by rfl, ?_⟩) ?_ ?_
                  rotate_left
                  ·
                   intro w'
                   go_simp
                   with_reducible rfl
                  rotate_left
                  ·
                   simp only [Act.put, List.setIfInBounds_toArray, List.set_cons_zero, List.set_cons_succ, i64_w, i32_w]
                   rfl
                  refine pure_ (i := 3) (N := some 65) (v := ?_) (a' := ?_) #[true, true, true, true, false, false, false, false, false, false, false, false, false, false, false, false, false, false, false, false, false, false, false] rfl rfl (any_of HT_.out (by kernel_rfl)) (fun _ _ _ h => h) (Or.inl ⟨by rfl, ?_⟩) ?_ ?_
                  rotate_left
                  ·
                   intro w'
                   go_simp
                   with_reducible rfl
                  rotate_left
                  ·
                   simp only [Act.put, List.setIfInBounds_toArray, List.set_cons_zero, List.set_cons_succ, i64_w, i32_w]
                   rfl
                  refine pure_ (i := 4) (N := some 66) (v := ?_) (a' := ?_) #[true, true, true, true, true, false, false, false, false, false, false, false, false, false, false, false, false, false, false, false, false, false, false] rfl rfl (any_of HT_.out (by kernel_rfl)) (fun _ _ _ h => h) (Or.inl ⟨by rfl, ?_⟩) ?_ ?_
                  rotate_left
                  ·
                   intro w'
                   go_simp
                   with_reducible rfl
                  rotate_left
                  ·
                   simp only [Act.put, List.setIfInBounds_toArray, List.set_cons_zero, List.set_cons_succ, i64_w, i32_w]
                   rfl
                  refine take_ (i := 5) (N := some 67) (v := ?_) (a' := ?_) #[true, true, true, true, true, true, false, false, false, false, false, false, false, false, false, false, false, false, false, false, false, false, false] rfl rfl (take_ofW HT_.out HW_.out (by kernel_rfl)) (fun _ _ _ h => h) (Or.inl ⟨by rfl, ?_⟩) hHeld ?_ ?_
                  rotate_left
                  ·
                   rintro w' ⟨s0, s1, s2, s3⟩
                   go_simp
                   with_reducible rfl
                  rotate_left
                  ·
                   simp only [Act.put, List.setIfInBounds_toArray, List.set_cons_zero, List.set_cons_succ, i64_w, i32_w]
                   rfl
                  refine pure_ (i := 6) (N := some 68) (v := ?_) (a' := ?_) #[true, true, true, true, true, true, true, false, false, false, false, false, false, false, false, false, false, false, false, false, false, false, false] rfl rfl (any_of HT_.out (by kernel_rfl)) (fun _ _ _ h => h) (Or.inl ⟨by rfl, ?_⟩) ?_ ?_
                  rotate_left
                  ·
                   intro w'
                   go_simp
                   with_reducible rfl
                  rotate_left
                  ·
                   simp only [Act.put, List.setIfInBounds_toArray, List.set_cons_zero, List.set_cons_succ, i64_w, i32_w]
                   rfl
                  refine pure_ (i := 7) (N := some 69) (v := ?_) (a' := ?_) #[true, true, true, true, true, true, true, true, false, false, false, false, false, false, false, false, false, false, false, false, false, false, false] rfl rfl (any_of HT_.out (by kernel_rfl)) (fun _ _ _ h => h) (Or.inl ⟨by rfl, ?_⟩) ?_ ?_
                  rotate_left
                  ·
                   intro w'
                   go_simp
                   with_reducible rfl
                  rotate_left
                  ·
                   simp only [Act.put, List.setIfInBounds_toArray, List.set_cons_zero, List.set_cons_succ, i64_w, i32_w]
                   rfl
                  refine pure_ (i := 8) (N := some 70) (v := ?_) (a' := ?_) #[true, true, true, true, true, true, true, true, true, false, false, false, false, false, false, false, false, false, false, false, false, false, false] rfl rfl (any_of HT_.out (by kernel_rfl)) (fun _ _ _ h => h) (Or.inl ⟨by rfl, ?_⟩) ?_ ?_
                  rotate_left
                  ·
                   intro w'
                   go_simp
                   with_reducible rfl
                  rotate_left
                  ·
                   simp only [Act.put, List.setIfInBounds_toArray, List.set_cons_zero, List.set_cons_succ, i64_w, i32_w]
                   rfl
                  refine pure_ (i := 9) (N := some 71) (v := ?_) (a' := ?_) #[true, true, true, true, true, true, true, true, true, true, false, false, false, false, false, false, false, false, false, false, false, false, false] rfl rfl (any_of HT_.out (by kernel_rfl)) (fun _ _ _ h => h) (Or.inl ⟨by rfl, ?_⟩) ?_ ?_
                  rotate_left
                  ·
                   intro w'
                   go_simp
                   with_reducible rfl
                  rotate_left
                  ·
                   simp only [Act.put, List.setIfInBounds_toArray, List.set_cons_zero, List.set_cons_succ, i64_w, i32_w]
                   rfl
                  refine pure_ (i := 10) (N := some 72) (v := ?_) (a' := ?_) #[true, true, true, true, true, true, true, true, true, true, true, false, false, false, false, false, false, false, false, false, false, false, false] rfl rfl (any_of HT_.out (by kernel_rfl)) (fun _ _ _ h => h) (Or.inl ⟨by rfl, ?_⟩) ?_ ?_
                  rotate_left
                  ·
                   intro w'
                   go_simp
                   with_reducible rfl
                  rotate_left
                  ·
                   simp only [Act.put, List.setIfInBounds_toArray, List.set_cons_zero, List.set_cons_succ, i64_w, i32_w]
                   rfl
                  refine pure_ (i := 11) (N := some 73) (v := ?_) (a' := ?_) #[true, true, true, true, true, true, true, true, true, true, true, true, false, false, false, false, false, false, false, false, false, false, false] rfl rfl (any_of HT_.out (by kernel_rfl)) (fun _ _ _ h => h) (Or.inl ⟨by rfl, ?_⟩) ?_ ?_
                  rotate_left
                  ·
                   intro w'
                   go_simp
                   with_reducible rfl
                  rotate_left
                  ·
                   simp only [Act.put, List.setIfInBounds_toArray, List.set_cons_zero, List.set_cons_succ, i64_w, i32_w]
                   rfl
                  refine pure_ (i := 12) (N := some 74) (v := undef) (a' := ?_) #[true, true, true, true, true, true, true, true, true, true, true, true, true, false, false, false, false, false, false, false, false, false, false] rfl rfl (any_of HT_.out (by kernel_rfl)) (fun _ _ _ h => h) (Or.inr ⟨by rfl, rfl⟩) ?_ ?_
                  rotate_left
                  ·
                   simp only [Act.put, List.setIfInBounds_toArray, List.set_cons_zero, List.set_cons_succ, i64_w, i32_w]
                   rfl
                  refine pure_ (i := 13) (N := some 75) (v := undef) (a' := ?_) #[true, true, true, true, true, true, true, true, true, true, true, true, true, true, false, false, false, false, false, false, false, false, false] rfl rfl (any_of HT_.out (by kernel_rfl)) (fun _ _ _ h => h) (Or.inr ⟨by rfl, rfl⟩) ?_ ?_
                  rotate_left
                  ·
                   simp only [Act.put, List.setIfInBounds_toArray, List.set_cons_zero, List.set_cons_succ, i64_w, i32_w]
                   rfl
                  refine pure_ (i := 14) (N := some 76) (v := undef) (a' := ?_) #[true, true, true, true, true, true, true, true, true, true, true, true, true, true, true, false, false, false, false, false, false, false, false] rfl rfl (any_of HT_.out (by kernel_rfl)) (fun _ _ _ h => h) (Or.inr ⟨by rfl, rfl⟩) ?_ ?_
                  rotate_left
                  ·
                   simp only [Act.put, List.setIfInBounds_toArray, List.set_cons_zero, List.set_cons_succ, i64_w, i32_w]
                   rfl
                  refine pure_ (i := 15) (N := some 77) (v := undef) (a' := ?_) #[true, true, true, true, true, true, true, true, true, true, true, true, true, true, true, true, false, false, false, false, false, false, false] rfl rfl (any_of HT_.out (by kernel_rfl)) (fun _ _ _ h => h) (Or.inr ⟨by rfl, rfl⟩) ?_ ?_
                  rotate_left
                  ·
                   simp only [Act.put, List.setIfInBounds_toArray, List.set_cons_zero, List.set_cons_succ, i64_w, i32_w]
                   rfl
                  refine pure_ (i := 16) (N := some 78) (v := undef) (a' := ?_) #[true, true, true, true, true, true, true, true, true, true, true, true, true, true, true, true, true, false, false, false, false, false, false] rfl rfl (any_of HT_.out (by kernel_rfl)) (fun _ _ _ h => h) (Or.inr ⟨by rfl, rfl⟩) ?_ ?_
                  rotate_left
                  ·
                   simp only [Act.put, List.setIfInBounds_toArray, List.set_cons_zero, List.set_cons_succ, i64_w, i32_w]
                   rfl
                  refine pure_ (i := 17) (N := some 79) (v := undef) (a' := ?_) #[true, true, true, true, true, true, true, true, true, true, true, true, true, true, true, true, true, true, false, false, false, false, false] rfl rfl (any_of HT_.out (by kernel_rfl)) (fun _ _ _ h => h) (Or.inr ⟨by rfl, rfl⟩) ?_ ?_
                  rotate_left
                  ·
                   simp only [Act.put, List.setIfInBounds_toArray, List.set_cons_zero, List.set_cons_succ, i64_w, i32_w]
                   rfl
                  refine pure_ (i := 18) (N := some 80) (v := undef) (a' := ?_) #[true, true, true, true, true, true, true, true, true, true, true, true, true, true, true, true, true, true, true, false, false, false, false] rfl rfl (any_of HT_.out (by kernel_rfl)) (fun _ _ _ h => h) (Or.inr ⟨by rfl, rfl⟩) ?_ ?_
                  rotate_left
                  ·
                   simp only [Act.put, List.setIfInBounds_toArray, List.set_cons_zero, List.set_cons_succ, i64_w, i32_w]
                   rfl
                  refine pure_ (i := 19) (N := some 81) (v := undef) (a' := ?_) #[true, true, true, true, true, true, true, true, true, true, true, true, true, true, true, true, true, true, true, true, false, false, false] rfl rfl (any_of HT_.out (by kernel_rfl)) (fun _ _ _ h => h) (Or.inr ⟨by rfl, rfl⟩) ?_ ?_
                  rotate_left
                  ·
                   simp only [Act.put, List.setIfInBounds_toArray, List.set_cons_zero, List.set_cons_succ, i64_w, i32_w]
                   rfl
                  refine pure_ (i := 20) (N := some 82) (v := undef) (a' := ?_) #[true, true, true, true, true, true, true, true, true, true, true, true, true, true, true, true, true, true, true, true, true, false, false] rfl rfl (any_of HT_.out (by kernel_rfl)) (fun _ _ _ h => h) (Or.inr ⟨by rfl, rfl⟩) ?_ ?_
                  rotate_left
                  ·
                   simp only [Act.put, List.setIfInBounds_toArray, List.set_cons_zero, List.set_cons_succ, i64_w, i32_w]
                   rfl
                  refine pure_ (i := 21) (N := some 83) (v := ?_) (a' := ?_) #[true, true, true, true, true, true, true, true, true, true, true, true, true, true, true, true, true, true, true, true, true, true, false] rfl rfl (any_of HT_.out (by kernel_rfl)) (fun _ _ _ h => h) (Or.inl ⟨by rfl, ?_⟩) ?_ ?_
                  rotate_left
                  ·
                   intro w'
                   go_simp
                   with_reducible rfl
                  rotate_left
                  ·
                   simp only [Act.put, List.setIfInBounds_toArray, List.set_cons_zero, List.set_cons_succ, i64_w, i32_w]
                   rfl
                  refine pure_ (i := 22) (N := some 84) (v := ?_) (a' := ?_) #[true, true, true, true, true, true, true, true, true, true, true, true, true, true, true, true, true, true, true, true, true, true, true] rfl rfl (any_of HT_.out (by kernel_rfl)) (fun _ _ _ h => h) (Or.inl ⟨by rfl, ?_⟩) ?_ ?_
                  rotate_left
                  ·
                   intro w'
                   go_simp
                   with_reducible rfl
                  rotate_left
                  ·
                   simp only [Act.put, List.setIfInBounds_toArray, List.set_cons_zero, List.set_cons_succ, i64_w, i32_w]
                   rfl
                  refine done_ (done_of HT_.out (by kernel_rfl)) ?_
                  try go_wp2
                  go_roundg kj23
                  case measure => have := HJ1.out;have := HJ9.out;have := HK3.out;have := HJ23.out;omega
                  case rel => exact ⟨(wrap64 (x5_3 + 1)), (by first|rfl|(simp;done)|(simp [*];done)), H', ⟨by have := HJ1.out;have := HJ9.out;have := HK3.out;have := HJ23.out;omega⟩, ⟨by (with_reducible repeat (first|refine blk_drewN ?_ _|refine blk_drew ?_|refine blk_alloc ?_ _));exact BK1060.out⟩, ⟨by (with_reducible repeat (first|refine blk_drewN ?_ _|refine blk_drew ?_|refine blk_alloc ?_ _));exact BK1063.out⟩, ⟨by repeat (first|(with_reducible first|exact HB.out|apply below_alloc|apply pw_below_drewN|apply below_drew1|refine below_set ?_ GE1060.out|refine below_set ?_ GE1063.out|refine below_set ?_ GE1066.out)|exact HB.out)⟩⟩
                ·
                 rw [if_neg c58] at H
                 have c58b0 : (((rd_T137 l0_3 x5_3).f3) == 0) = false := beq_eq_false_iff_ne.mpr c58
                 have c58b1 : (((rd_T137 l0_3 x5_3).f3) != 0) = true := bne_iff_ne.mpr c58
                 obtain rfl := Option.some.inj H
                 try go_wp2
                 have n0_ := Aside0.mk (blk_drew BK1060.out)
                 have n1_ := Aside0.mk (blk_drew BK1063.out)
                 have n2_ := Aside0.mk (blk_drew BK1066.out)
                 have n3_ := Aside0.mk (below_drew1 HB.out)
                 clear BK1060
                 clear BK1063
                 clear BK1066
                 clear HB
                 have BK1060 := n0_
                 have BK1063 := n1_
                 have BK1066 := n2_
                 have HB := n3_
                 clear n0_ n1_ n2_ n3_
                 refine start_ (n := 23) (S := fun w' => w'.cell? ⟨gb1066, 0, none⟩ = some (.bool ((rd_T137 l0_3 x5_3).f0)) ∧ w'.cell? ⟨gb1066, 1, none⟩ = some (.int .i64 ((rd_T137 l0_3 x5_3).f1)) ∧ w'.cell? ⟨gb1066, 2, none⟩ = some (.int .i64 ((rd_T137 l0_3 x5_3).f2)) ∧ w'.cell? ⟨gb1066, 3, none⟩ = some (.int .i64 ((rd_T137 l0_3 x5_3).f3))) (ds := []) #[false, false, false, false, false, false, false, false, false, false, false, false, false, false, false, false, false, false, false, false, false, false, false] (by kernel_rfl) rfl rfl ⟨(blk_cell BK1066.out 0).trans rfl, (blk_cell BK1066.out 1).trans rfl, (blk_cell BK1066.out 2).trans rfl, (blk_cell BK1066.out 3).trans rfl⟩ (fun hHeld => ?_);refine with_tabW spec_DeltaFault.tab15 spec_DeltaFault.bits15 (fun HT_ HW_ => ?_)
                 generalize wc.drew = w70 at BK1060 BK1063 BK1066 HB hHeld ⊢
                 refine pure_ (i := 0) (N := some 62) (v := ?_) (a' := ?_) #[true, false, false, false, false, false, false, false, false, false, false, false, false, false, false, false, false, false, false, false, false, false, false] rfl rfl (any_of HT_.out (by kernel_rfl)) (fun _ _ _ h => h) (Or.inl ⟨by rfl, ?_⟩) ?_ ?_
                 rotate_left
                 ·
                  intro w'
                  go_simp
                  with_reducible rfl
                 rotate_left
                 ·
                  simp only [Act.put, List.setIfInBounds_toArray, List.set_cons_zero, List.set_cons_succ, i64_w, i32_w]
                  rfl
                 refine take_ (i := 1) (N := some 63) (v := ?_) (a' := ?_) #[true, true, false, false, false, false, false, false, false, false, false, false, false, false, false, false, false, false, false, false, false, false, false] rfl rfl (take_ofW HT_.out HW_.out (by kernel_rfl)) (fun _ _ _ h => h) (Or.inl ⟨by rfl, ?_⟩) hHeld ?_ ?_
                 rotate_left
                 ·
                  rintro w' ⟨s0, s1, s2, s3⟩
                  go_simp
                  with_reducible rfl
                 rotate_left
                 ·
                  simp only [Act.put, List.setIfInBounds_toArray, List.set_cons_zero, List.set_cons_succ, i64_w, i32_w]
                  rfl
                 refine pure_ (i := 2) (N := some 64) (v := ?_) (a' := ?_) #[true, true, true, false, false, false, false, false, false, false, false, false, false, false, false, false, false, false, false, false, false, false, false] rfl rfl (any_of HT_.out (by kernel_rfl)) (fun _ _ _ h => h) (Or.inl ⟨by rfl, ?_⟩) ?_ ?_
                 rotate_left
                 ·
                  intro w'
                  go_simp
                  with_reducible rfl
                 rotate_left
                 ·
                  simp only [Act.put, List.setIfInBounds_toArray, List.set_cons_zero, List.set_cons_succ, i64_w, i32_w]
                  rfl
                 refine pure_ (i := 3) (N := some 65) (v := ?_) (a' := ?_) #[true, true, true, true, false, false, false, false, false, false, false, false, false, false, false, false, false, false, false, false, false, false, false] rfl rfl (any_of HT_.out (by kernel_rfl)) (fun _ _ _ h => h) (Or.inl ⟨by rfl, ?_⟩) ?_ ?_
                 rotate_left
                 ·
                  intro w'
                  go_simp
                  with_reducible rfl
                 rotate_left
                 ·
                  simp only [Act.put, List.setIfInBounds_toArray, List.set_cons_zero, List.set_cons_succ, i64_w, i32_w]
                  rfl
                 refine pure_ (i := 4) (N := some 66) (v := ?_) (a' := ?_) #[true, true, true, true, true, false, false, false, false, false, false, false, false, false, false, false, false, false, false, false, false, false, false] rfl rfl (any_of HT_.out (by kernel_rfl)) (fun _ _ _ h => h) (Or.inl ⟨by rfl, ?_⟩) ?_ ?_
                 rotate_left
                 ·
                  intro w'
                  go_simp
                  with_reducible rfl
                 rotate_left
                 ·
                  simp only [Act.put, List.setIfInBounds_toArray, List.set_cons_zero, List.set_cons_succ, i64_w, i32_w]
                  rfl
                 refine take_ (i := 5) (N := some 67) (v := ?_) (a' := ?_) #[true, true, true, true, true, true, false, false, false, false, false, false, false, false, false, false, false, false, false, false, false, false, false] rfl rfl (take_ofW HT_.out HW_.out (by kernel_rfl)) (fun _ _ _ h => h) (Or.inl ⟨by rfl, ?_⟩) hHeld ?_ ?_
                 rotate_left
                 ·
                  rintro w' ⟨s0, s1, s2, s3⟩
                  go_simp
                  with_reducible rfl
                 rotate_left
                 ·
                  simp only [Act.put, List.setIfInBounds_toArray, List.set_cons_zero, List.set_cons_succ, i64_w, i32_w]
                  rfl
                 refine pure_ (i := 6) (N := some 68) (v := ?_) (a' := ?_) #[true, true, true, true, true, true, true, false, false, false, false, false, false, false, false, false, false, false, false, false, false, false, false] rfl rfl (any_of HT_.out (by kernel_rfl)) (fun _ _ _ h => h) (Or.inl ⟨by rfl, ?_⟩) ?_ ?_
                 rotate_left
                 ·
                  intro w'
                  go_simp
                  with_reducible rfl
                 rotate_left
                 ·
                  simp only [Act.put, List.setIfInBounds_toArray, List.set_cons_zero, List.set_cons_succ, i64_w, i32_w]
                  rfl
                 refine pure_ (i := 7) (N := some 69) (v := ?_) (a' := ?_) #[true, true, true, true, true, true, true, true, false, false, false, false, false, false, false, false, false, false, false, false, false, false, false] rfl rfl (any_of HT_.out (by kernel_rfl)) (fun _ _ _ h => h) (Or.inl ⟨by rfl, ?_⟩) ?_ ?_
                 rotate_left
                 ·
                  intro w'
                  go_simp
                  with_reducible rfl
                 rotate_left
                 ·
                  simp only [Act.put, List.setIfInBounds_toArray, List.set_cons_zero, List.set_cons_succ, i64_w, i32_w]
                  rfl
                 refine pure_ (i := 8) (N := some 70) (v := ?_) (a' := ?_) #[true, true, true, true, true, true, true, true, true, false, false, false, false, false, false, false, false, false, false, false, false, false, false] rfl rfl (any_of HT_.out (by kernel_rfl)) (fun _ _ _ h => h) (Or.inl ⟨by rfl, ?_⟩) ?_ ?_
                 rotate_left
                 ·
                  intro w'
                  go_simp
                  with_reducible rfl
                 rotate_left
                 ·
                  simp only [Act.put, List.setIfInBounds_toArray, List.set_cons_zero, List.set_cons_succ, i64_w, i32_w]
                  rfl
                 refine pure_ (i := 9) (N := some 71) (v := undef) (a' := ?_) #[true, true, true, true, true, true, true, true, true, true, false, false, false, false, false, false, false, false, false, false, false, false, false] rfl rfl (any_of HT_.out (by kernel_rfl)) (fun _ _ _ h => h) (Or.inr ⟨by rfl, rfl⟩) ?_ ?_
                 rotate_left
                 ·
                  simp only [Act.put, List.setIfInBounds_toArray, List.set_cons_zero, List.set_cons_succ, i64_w, i32_w]
                  rfl
                 refine pure_ (i := 10) (N := some 72) (v := undef) (a' := ?_) #[true, true, true, true, true, true, true, true, true, true, true, false, false, false, false, false, false, false, false, false, false, false, false] rfl rfl (any_of HT_.out (by kernel_rfl)) (fun _ _ _ h => h) (Or.inr ⟨by rfl, rfl⟩) ?_ ?_
                 rotate_left
                 ·
                  simp only [Act.put, List.setIfInBounds_toArray, List.set_cons_zero, List.set_cons_succ, i64_w, i32_w]
                  rfl
                 refine pure_ (i := 11) (N := some 73) (v := undef) (a' := ?_) #[true, true, true, true, true, true, true, true, true, true, true, true, false, false, false, false, false, false, false, false, false, false, false] rfl rfl (any_of HT_.out (by kernel_rfl)) (fun _ _ _ h => h) (Or.inr ⟨by rfl, rfl⟩) ?_ ?_
                 rotate_left
                 ·
                  simp only [Act.put, List.setIfInBounds_toArray, List.set_cons_zero, List.set_cons_succ, i64_w, i32_w]
                  rfl
                 refine pure_ (i := 12) (N := some 74) (v := undef) (a' := ?_) #[true, true, true, true, true, true, true, true, true, true, true, true, true, false, false, false, false, false, false, false, false, false, false] rfl rfl (any_of HT_.out (by kernel_rfl)) (fun _ _ _ h => h) (Or.inr ⟨by rfl, rfl⟩) ?_ ?_
                 rotate_left
                 ·
                  simp only [Act.put, List.setIfInBounds_toArray, List.set_cons_zero, List.set_cons_succ, i64_w, i32_w]
                  rfl
                 refine pure_ (i := 13) (N := some 75) (v := undef) (a' := ?_) #[true, true, true, true, true, true, true, true, true, true, true, true, true, true, false, false, false, false, false, false, false, false, false] rfl rfl (any_of HT_.out (by kernel_rfl)) (fun _ _ _ h => h) (Or.inr ⟨by rfl, rfl⟩) ?_ ?_
                 rotate_left
                 ·
                  simp only [Act.put, List.setIfInBounds_toArray, List.set_cons_zero, List.set_cons_succ, i64_w, i32_w]
                  rfl
                 refine pure_ (i := 14) (N := some 76) (v := undef) (a' := ?_) #[true, true, true, true, true, true, true, true, true, true, true, true, true, true, true, false, false, false, false, false, false, false, false] rfl rfl (any_of HT_.out (by kernel_rfl)) (fun _ _ _ h => h) (Or.inr ⟨by rfl, rfl⟩) ?_ ?_
                 rotate_left
                 ·
                  simp only [Act.put, List.setIfInBounds_toArray, List.set_cons_zero, List.set_cons_succ, i64_w, i32_w]
                  rfl
                 refine pure_ (i := 15) (N := some 77) (v := undef) (a' := ?_) #[true, true, true, true, true, true, true, true, true, true, true, true, true, true, true, true, false, false, false, false, false, false, false] rfl rfl (any_of HT_.out (by kernel_rfl)) (fun _ _ _ h => h) (Or.inr ⟨by rfl, rfl⟩) ?_ ?_
                 rotate_left
                 ·
                  simp only [Act.put, List.setIfInBounds_toArray, List.set_cons_zero, List.set_cons_succ, i64_w, i32_w]
                  rfl
                 refine pure_ (i := 16) (N := some 78) (v := undef) (a' := ?_) #[true, true, true, true, true, true, true, true, true, true, true, true, true, true, true, true, true, false, false, false, false, false, false] rfl rfl (any_of HT_.out (by kernel_rfl)) (fun _ _ _ h => h) (Or.inr ⟨by rfl, rfl⟩) ?_ ?_
                 rotate_left
                 ·
                  simp only [Act.put, List.setIfInBounds_toArray, List.set_cons_zero, List.set_cons_succ, i64_w, i32_w]
                  rfl
                 refine pure_ (i := 17) (N := some 79) (v := undef) (a' := ?_) #[true, true, true, true, true, true, true, true, true, true, true, true, true, true, true, true, true, true, false, false, false, false, false] rfl rfl (any_of HT_.out (by kernel_rfl)) (fun _ _ _ h => h) (Or.inr ⟨by rfl, rfl⟩) ?_ ?_
                 rotate_left
                 ·
                  simp only [Act.put, List.setIfInBounds_toArray, List.set_cons_zero, List.set_cons_succ, i64_w, i32_w]
                  rfl
                 refine pure_ (i := 18) (N := some 80) (v := undef) (a' := ?_) #[true, true, true, true, true, true, true, true, true, true, true, true, true, true, true, true, true, true, true, false, false, false, false] rfl rfl (any_of HT_.out (by kernel_rfl)) (fun _ _ _ h => h) (Or.inr ⟨by rfl, rfl⟩) ?_ ?_
                 rotate_left
                 ·
                  simp only [Act.put, List.setIfInBounds_toArray, List.set_cons_zero, List.set_cons_succ, i64_w, i32_w]
                  rfl
                 refine pure_ (i := 19) (N := some 81) (v := undef) (a' := ?_) #[true, true, true, true, true, true, true, true, true, true, true, true, true, true, true, true, true, true, true, true, false, false, false] rfl rfl (any_of HT_.out (by kernel_rfl)) (fun _ _ _ h => h) (Or.inr ⟨by rfl, rfl⟩) ?_ ?_
                 rotate_left
                 ·
                  simp only [Act.put, List.setIfInBounds_toArray, List.set_cons_zero, List.set_cons_succ, i64_w, i32_w]
                  rfl
                 refine pure_ (i := 20) (N := some 82) (v := undef) (a' := ?_) #[true, true, true, true, true, true, true, true, true, true, true, true, true, true, true, true, true, true, true, true, true, false, false] rfl rfl (any_of HT_.out (by kernel_rfl)) (fun _ _ _ h => h) (Or.inr ⟨by rfl, rfl⟩) ?_ ?_
                 rotate_left
                 ·
                  simp only [Act.put, List.setIfInBounds_toArray, List.set_cons_zero, List.set_cons_succ, i64_w, i32_w]
                  rfl
                 refine pure_ (i := 21) (N := some 83) (v := undef) (a' := ?_) #[true, true, true, true, true, true, true, true, true, true, true, true, true, true, true, true, true, true, true, true, true, true, false] rfl rfl (any_of HT_.out (by kernel_rfl)) (fun _ _ _ h => h) (Or.inr ⟨by rfl, rfl⟩) ?_ ?_
                 rotate_left
                 ·
                  simp only [Act.put, List.setIfInBounds_toArray, List.set_cons_zero, List.set_cons_succ, i64_w, i32_w]
                  rfl
                 refine pure_ (i := 22) (N := some 84) (v := ?_) (a' := ?_) #[true, true, true, true, true, true, true, true, true, true, true, true, true, true, true, true, true, true, true, true, true, true, true] rfl rfl (any_of HT_.out (by kernel_rfl)) (fun _ _ _ h => h) (Or.inl ⟨by rfl, ?_⟩) ?_ ?_
                 rotate_left
                 ·
                  intro w'
                  go_simp
                  with_reducible rfl
                 rotate_left
                 ·
                  simp only [Act.put, List.setIfInBounds_toArray, List.set_cons_zero, List.set_cons_succ, i64_w, i32_w]
                  rfl
                 refine done_ (done_of HT_.out (by kernel_rfl)) ?_
                 try go_wp2
                 go_ret
                 exact ⟨by first|rfl|(simp [errW_none, errW_some] <;> rfl)|(simp [*, errW_none, errW_some] <;> rfl), by repeat (first|(with_reducible first|exact HB.out|apply below_alloc|apply pw_below_drewN|apply below_drew1|refine below_set ?_ GE1060.out|refine below_set ?_ GE1063.out|refine below_set ?_ GE1066.out)|exact HB.out)⟩
           ·
            rw [if_neg c23] at H
            exact absurd H (by simp)
          ·
           rw [if_neg c22] at H
           have c22b0 : decide (x5_3 < (l0_3.length : Int)) = false := decide_eq_false c22
           clear c22
           obtain rfl := Option.some.inj H
           have hnb71 := NB1060_1063.out
           have hnc71 := NB1063_1060.out
           have hcz72_0 : wr.cell? ⟨gb1060, 0, none⟩ = some (.int .i64 a0_0) := (blk_cell BK1060.out 0).trans rfl
           have hcz72_1 : wr.cell? ⟨gb1060, 1, none⟩ = some (.int .i64 a0_1) := (blk_cell BK1060.out 1).trans rfl
           have hcz72_2 : wr.cell? ⟨gb1060, 2, none⟩ = some (.slice A0_2 l0_2.length c0_2) := (blk_cell BK1060.out 2).trans rfl
           have hcz72_3 : wr.cell? ⟨gb1060, 3, none⟩ = some (.slice A0_3 l0_3.length c0_3) := (blk_cell BK1060.out 3).trans rfl
           have hfz72_0 := blk_frozen BK1060.out 0
           have hfz72_1 := blk_frozen BK1060.out 1
           have hfz72_2 := blk_frozen BK1060.out 2
           have hfz72_3 := blk_frozen BK1060.out 3
           go_wp2
           go_ret
           exact ⟨by first|rfl|(simp [errW_none, errW_some] <;> rfl)|(simp [*, errW_none, errW_some] <;> rfl), by repeat (first|(with_reducible first|exact HB.out|apply below_alloc|apply pw_below_drewN|apply below_drew1|refine below_set ?_ GE1060.out|refine below_set ?_ GE1063.out)|exact HB.out)⟩
       ·
        rw [if_neg c16] at H
        have c16b0 : (t1064 == 0) = false := beq_eq_false_iff_ne.mpr c16
        have c16b1 : (t1064 != 0) = true := bne_iff_ne.mpr c16
        obtain rfl := Option.some.inj H
        have hcz73_0 : wc.cell? ⟨gb1060, 0, none⟩ = some (.int .i64 a0_0) := (blk_cell BK1060.out 0).trans rfl
        have hcz73_1 : wc.cell? ⟨gb1060, 1, none⟩ = some (.int .i64 a0_1) := (blk_cell BK1060.out 1).trans rfl
        have hcz73_2 : wc.cell? ⟨gb1060, 2, none⟩ = some (.slice A0_2 l0_2.length c0_2) := (blk_cell BK1060.out 2).trans rfl
        have hcz73_3 : wc.cell? ⟨gb1060, 3, none⟩ = some (.slice A0_3 l0_3.length c0_3) := (blk_cell BK1060.out 3).trans rfl
        have hfz73_0 := blk_frozen BK1060.out 0
        have hfz73_1 := blk_frozen BK1060.out 1
        have hfz73_2 := blk_frozen BK1060.out 2
        have hfz73_3 := blk_frozen BK1060.out 3
        go_wp2_with (first|((with_reducible refine gate_dst (N := 3) rfl ?_);(try (refine gate_guard (by rfl) ?_;dsimp only));refine box_event ?hg (N := 3) ?hd (cs := #[.int .i64 0, .slice none 0 0, .slice none 0 0, .slice none 0 0]) (t := 41) ?hr ?_;(case hd => rfl);(case hg => rfl);(case hr => first|(go_simp;done)|(go_simp;rfl));intro gb1063 hg w74 hbox hb;have n0_ := Aside0.mk (blk_below (g := gb1060) (o := .cells #[.int .i64 a0_0, .int .i64 a0_1, .slice A0_2 l0_2.length c0_2, .slice A0_3 l0_3.length c0_3] 84 (0, 0)) (by (with_reducible repeat (first|refine blk_drewN ?_ _|refine blk_drew ?_|refine blk_alloc ?_ _));exact BK1060.out) hb);have n1_ := Aside0.mk (below_step (by repeat (first|(with_reducible first|exact HB.out|apply below_alloc|apply pw_below_drewN|apply below_drew1|refine below_set ?_ GE1060.out)|exact HB.out)) hb);have n2_ := Aside0.mk (hbox);have n3_ := Aside0.mk ((by rw [hg];exact (below_size (by repeat (first|(with_reducible first|exact HB.out|apply below_alloc|apply pw_below_drewN|apply below_drew1|refine below_set ?_ GE1060.out)|exact HB.out))) : w.heap.size ≤ gb1063));have n4_ := Aside0.mk ((by rw [hg];exact (below_size (by repeat (first|(with_reducible first|exact HB.out|apply below_alloc|apply pw_below_drewN|apply below_drew1|refine below_set ?_ GE1060.out)|exact HB.out))) : w.heap.size ≤ gb1063));have n5_ := Aside0.mk ((by rw [hg];exact Nat.ne_of_lt (blk_lt (g := gb1060) (o := .cells #[.int .i64 a0_0, .int .i64 a0_1, .slice A0_2 l0_2.length c0_2, .slice A0_3 l0_3.length c0_3] 84 (0, 0)) (by (with_reducible repeat (first|refine blk_drewN ?_ _|refine blk_drew ?_|refine blk_alloc ?_ _));exact BK1060.out)) : gb1060 ≠ gb1063));have n6_ := Aside0.mk ((by rw [hg];exact Nat.ne_of_gt (blk_lt (g := gb1060) (o := .cells #[.int .i64 a0_0, .int .i64 a0_1, .slice A0_2 l0_2.length c0_2, .slice A0_3 l0_3.length c0_3] 84 (0, 0)) (by (with_reducible repeat (first|refine blk_drewN ?_ _|refine blk_drew ?_|refine blk_alloc ?_ _));exact BK1060.out)) : gb1063 ≠ gb1060));clear BK1060;clear HB;have BK1060 := n0_;have HB := n1_;have BK1063 := n2_;have GW1063 := n3_;have GE1063 := n4_;have NB1060_1063 := n5_;have NB1063_1060 := n6_;clear n0_ n1_ n2_ n3_ n4_ n5_ n6_;clear hb hbox hg;have hnb75 := NB1063_1060.out;have hnc75 := NB1060_1063.out;have hcz76_0 : w74.cell? ⟨gb1063, 0, none⟩ = some (.int .i64 0) := (blk_cell BK1063.out 0).trans rfl;have hcz76_1 : w74.cell? ⟨gb1063, 1, none⟩ = some (.slice none 0 0) := (blk_cell BK1063.out 1).trans rfl;have hcz76_2 : w74.cell? ⟨gb1063, 2, none⟩ = some (.slice none 0 0) := (blk_cell BK1063.out 2).trans rfl;have hcz76_3 : w74.cell? ⟨gb1063, 3, none⟩ = some (.slice none 0 0) := (blk_cell BK1063.out 3).trans rfl;have hfz76_0 := blk_frozen BK1063.out 0;have hfz76_1 := blk_frozen BK1063.out 1;have hfz76_2 := blk_frozen BK1063.out 2;have hfz76_3 := blk_frozen BK1063.out 3)|((with_reducible refine gate_callee (f := 100) rfl ?_);refine goesL_ (some 30) rfl rfl Try.func100 (by kernel_rfl) rfl #[.pointer (some ⟨gb1063, 0, none⟩)] rfl (by (try simp only [List.map_toArray, List.map_cons, List.map_nil]);first|done|rfl|(simp only [List.length_drop, List.length_take];rfl)) ?_;(refine (spec_l6Vols.calls kj9 _ (⟨0, l0_2, ([] : List (S95)), ([] : List Int)⟩ : S41) t1064 _ ?side1 A15.out).mono ?_);(case side1 => exact Kd.C_box (t := 41) (by (with_reducible repeat (first|refine blk_drewN ?_ _|refine blk_drew ?_|refine blk_alloc ?_ _));refine blk_put (cs := #[.int .i64 0, .slice A0_2 l0_2.length c0_2, .slice none 0 0, .slice none 0 0]) ?_ 3 _ rfl;(with_reducible repeat (first|refine blk_drewN ?_ _|refine blk_drew ?_|refine blk_alloc ?_ _));refine blk_put (cs := #[.int .i64 0, .slice A0_2 l0_2.length c0_2, .slice none 0 0, .slice none 0 0]) ?_ 2 _ rfl;(with_reducible repeat (first|refine blk_drewN ?_ _|refine blk_drew ?_|refine blk_alloc ?_ _));refine blk_put (cs := #[.int .i64 0, .slice none 0 0, .slice none 0 0, .slice none 0 0]) ?_ 1 _ rfl;(with_reducible repeat (first|refine blk_drewN ?_ _|refine blk_drew ?_|refine blk_alloc ?_ _));refine blk_put (cs := #[.int .i64 0, .slice none 0 0, .slice none 0 0, .slice none 0 0]) ?_ 0 _ rfl;(with_reducible repeat (first|refine blk_drewN ?_ _|refine blk_drew ?_|refine blk_alloc ?_ _));exact BK1063.out) (k41_mk _ (⟨0, l0_2, ([] : List (S95)), ([] : List Int)⟩ : S41) (by exact HC0_2.out) (by exact Kd.C_below HR0_2.out (by repeat (first|(with_reducible first|exact HB.out|apply below_alloc|apply pw_below_drewN|apply below_drew1|refine below_set ?_ GE1060.out|refine below_set ?_ GE1063.out)|exact HB.out))) (by exact Nat.le_refl _) (by exact Kd.C_nil _ _) (by exact Nat.le_refl _) (by exact Kd.C_nil _ _)));rintro e w77 ⟨rfl, hb⟩;refine ⟨_, rfl, ?_⟩;have n0_ := Aside0.mk (blk_below (g := gb1060) (o := .cells #[.int .i64 a0_0, .int .i64 a0_1, .slice A0_2 l0_2.length c0_2, .slice A0_3 l0_3.length c0_3] 84 (0, 0)) (by (with_reducible repeat (first|refine blk_drewN ?_ _|refine blk_drew ?_|refine blk_alloc ?_ _));refine blk_far ?_ NB1060_1063.out _;(with_reducible repeat (first|refine blk_drewN ?_ _|refine blk_drew ?_|refine blk_alloc ?_ _));refine blk_far ?_ NB1060_1063.out _;(with_reducible repeat (first|refine blk_drewN ?_ _|refine blk_drew ?_|refine blk_alloc ?_ _));refine blk_far ?_ NB1060_1063.out _;(with_reducible repeat (first|refine blk_drewN ?_ _|refine blk_drew ?_|refine blk_alloc ?_ _));refine blk_far ?_ NB1060_1063.out _;(with_reducible repeat (first|refine blk_drewN ?_ _|refine blk_drew ?_|refine blk_alloc ?_ _));exact BK1060.out) hb);have n1_ := Aside0.mk (blk_below (g := gb1063) (o := .cells #[.int .i64 0, .slice A0_2 l0_2.length c0_2, .slice none 0 0, .slice none 0 0] 41 (0, 0)) (by (with_reducible repeat (first|refine blk_drewN ?_ _|refine blk_drew ?_|refine blk_alloc ?_ _));refine blk_put (cs := #[.int .i64 0, .slice A0_2 l0_2.length c0_2, .slice none 0 0, .slice none 0 0]) ?_ 3 _ rfl;(with_reducible repeat (first|refine blk_drewN ?_ _|refine blk_drew ?_|refine blk_alloc ?_ _));refine blk_put (cs := #[.int .i64 0, .slice A0_2 l0_2.length c0_2, .slice none 0 0, .slice none 0 0]) ?_ 2 _ rfl;(with_reducible repeat (first|refine blk_drewN ?_ _|refine blk_drew ?_|refine blk_alloc ?_ _));refine blk_put (cs := #[.int .i64 0, .slice none 0 0, .slice none 0 0, .slice none 0 0]) ?_ 1 _ rfl;(with_reducible repeat (first|refine blk_drewN ?_ _|refine blk_drew ?_|refine blk_alloc ?_ _));refine blk_put (cs := #[.int .i64 0, .slice none 0 0, .slice none 0 0, .slice none 0 0]) ?_ 0 _ rfl;(with_reducible repeat (first|refine blk_drewN ?_ _|refine blk_drew ?_|refine blk_alloc ?_ _));exact BK1063.out) hb);have n2_ := Aside0.mk (below_step (by repeat (first|(with_reducible first|exact HB.out|apply below_alloc|apply pw_below_drewN|apply below_drew1|refine below_set ?_ GE1060.out|refine below_set ?_ GE1063.out)|exact HB.out)) hb);clear BK1060;clear BK1063;clear HB;have BK1060 := n0_;have BK1063 := n1_;have HB := n2_;clear n0_ n1_ n2_;(try clear hb);(try clear hb2);(try clear hk);(try clear hi)))
        go_ret
        exact ⟨by first|rfl|(simp [errW_none, errW_some] <;> rfl)|(simp [*, errW_none, errW_some] <;> rfl), by repeat (first|(with_reducible first|exact HB.out|apply below_alloc|apply pw_below_drewN|apply below_drew1|refine below_set ?_ GE1060.out|refine below_set ?_ GE1063.out)|exact HB.out)⟩

end Go.Proofs.Ytflddpkmajoeaaa.PP
