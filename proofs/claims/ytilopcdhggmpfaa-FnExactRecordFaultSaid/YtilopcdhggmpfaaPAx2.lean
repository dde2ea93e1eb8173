-- Laid by a program of this session's (wip/xprint.py) over the kit's print. Nothing in it is trusted: Lean checks it.
import Derived.Test.YtilopcdhggmpfaaPAx0
import Derived.Test.YtilopcdhggmpfaaPAx1
namespace Go.Proofs.Ytilopcdhggmpfaa.PA
open Go.RowKit Go.Proofs.YtilopcdhggmpfaaW.PrintWords Go.Proofs.YtilopcdhggmpfaaW.PrintLast Go.Proofs.YtilopcdhggmpfaaW.PrintMore
attribute [local go_sem] max2_int min2_int max_two min_two max_three min_three max_four min_four   -- for this text's walks alone
set_option linter.unusedVariables false
set_option linter.unusedSimpArgs false

/-! ### spec_OpFault: function 12 -/
mutual
def spec_OpFault.j0 : Nat → Bool → Int → Int → Int → Int → Option (Int)
  | 0, _, _, _, _, _ => none
  | k + 1, x3, x126000, x126001, x126002, x126003 => if x126000 = 1 then (spec_OpFault.j1 k x3 true x126000 x126001 x126002 x126003) else (if x126000 = 2 then (spec_OpFault.j1 k x3 true x126000 x126001 x126002 x126003) else (spec_OpFault.j1 k x3 (x126000 == 5) x126000 x126001 x126002 x126003))
def spec_OpFault.j1 : Nat → Bool → Bool → Int → Int → Int → Int → Option (Int)
  | 0, _, _, _, _, _, _ => none
  | k + 1, x3, x4, x126000, x126001, x126002, x126003 => (spec_l5Id.f x126001).bind fun t127 => (if t127 = true then (if x3 = true then ((spec_l4Place.f x126002).bind fun t128 => (if t128 = true then (if x126000 = 1 then ((spec_l1In.f x126003 1 16).bind fun t129 => (if t129 = true then (if x126000 = 2 then ((spec_l3Data.f x126003).bind fun t130 => (if t130 = true then (if x126000 = 5 then ((spec_l5Id.f x126003).bind fun t131 => (spec_OpFault.j2 k x3 x4 (!t131) x126000 x126001 x126002 x126003)) else (spec_OpFault.j2 k x3 x4 false x126000 x126001 x126002 x126003)) else (spec_OpFault.j2 k x3 x4 true x126000 x126001 x126002 x126003))) else (if x126000 = 5 then ((spec_l5Id.f x126003).bind fun t132 => (spec_OpFault.j2 k x3 x4 (!t132) x126000 x126001 x126002 x126003)) else (spec_OpFault.j2 k x3 x4 false x126000 x126001 x126002 x126003))) else (spec_OpFault.j2 k x3 x4 true x126000 x126001 x126002 x126003))) else (if x126000 = 2 then ((spec_l3Data.f x126003).bind fun t133 => (if t133 = true then (if x126000 = 5 then ((spec_l5Id.f x126003).bind fun t134 => (spec_OpFault.j2 k x3 x4 (!t134) x126000 x126001 x126002 x126003)) else (spec_OpFault.j2 k x3 x4 false x126000 x126001 x126002 x126003)) else (spec_OpFault.j2 k x3 x4 true x126000 x126001 x126002 x126003))) else (if x126000 = 5 then ((spec_l5Id.f x126003).bind fun t135 => (spec_OpFault.j2 k x3 x4 (!t135) x126000 x126001 x126002 x126003)) else (spec_OpFault.j2 k x3 x4 false x126000 x126001 x126002 x126003)))) else (spec_OpFault.j2 k x3 x4 true x126000 x126001 x126002 x126003))) else (if x126000 = 1 then ((spec_l1In.f x126003 1 16).bind fun t136 => (if t136 = true then (if x126000 = 2 then ((spec_l3Data.f x126003).bind fun t137 => (if t137 = true then (if x126000 = 5 then ((spec_l5Id.f x126003).bind fun t138 => (spec_OpFault.j2 k x3 x4 (!t138) x126000 x126001 x126002 x126003)) else (spec_OpFault.j2 k x3 x4 false x126000 x126001 x126002 x126003)) else (spec_OpFault.j2 k x3 x4 true x126000 x126001 x126002 x126003))) else (if x126000 = 5 then ((spec_l5Id.f x126003).bind fun t139 => (spec_OpFault.j2 k x3 x4 (!t139) x126000 x126001 x126002 x126003)) else (spec_OpFault.j2 k x3 x4 false x126000 x126001 x126002 x126003))) else (spec_OpFault.j2 k x3 x4 true x126000 x126001 x126002 x126003))) else (if x126000 = 2 then ((spec_l3Data.f x126003).bind fun t140 => (if t140 = true then (if x126000 = 5 then ((spec_l5Id.f x126003).bind fun t141 => (spec_OpFault.j2 k x3 x4 (!t141) x126000 x126001 x126002 x126003)) else (spec_OpFault.j2 k x3 x4 false x126000 x126001 x126002 x126003)) else (spec_OpFault.j2 k x3 x4 true x126000 x126001 x126002 x126003))) else (if x126000 = 5 then ((spec_l5Id.f x126003).bind fun t142 => (spec_OpFault.j2 k x3 x4 (!t142) x126000 x126001 x126002 x126003)) else (spec_OpFault.j2 k x3 x4 false x126000 x126001 x126002 x126003))))) else (spec_OpFault.j2 k x3 x4 true x126000 x126001 x126002 x126003))
def spec_OpFault.j2 : Nat → Bool → Bool → Bool → Int → Int → Int → Int → Option (Int)
  | 0, _, _, _, _, _, _, _ => none
  | k + 1, x3, x4, x80, x126000, x126001, x126002, x126003 => if x80 = true then (some 3) else (if x3 = true then (if x4 = true then (some 0) else (if x126003 = 0 then (some 0) else (some 1))) else (if x126002 = 0 then (if x4 = true then (some 0) else (if x126003 = 0 then (some 0) else (some 1))) else (some 1)))
end
def spec_OpFault.f (k : Nat) (a0_0 : Int) (a0_1 : Int) (a0_2 : Int) (a0_3 : Int) : Option (Int) := (spec_l1In.f a0_0 1 6).bind fun t126 => (if t126 = true then (if a0_0 = 2 then (spec_OpFault.j0 k true a0_0 a0_1 a0_2 a0_3) else (if a0_0 = 3 then (spec_OpFault.j0 k true a0_0 a0_1 a0_2 a0_3) else (spec_OpFault.j0 k (a0_0 == 4) a0_0 a0_1 a0_2 a0_3))) else (some 1))
theorem spec_OpFault.mono_l : ∀ k, (∀ y0 y1 y2 y3 y4, LeO (spec_OpFault.j0 k y0 y1 y2 y3 y4) (spec_OpFault.j0 (k + 1) y0 y1 y2 y3 y4)) ∧ (∀ y0 y1 y2 y3 y4 y5, LeO (spec_OpFault.j1 k y0 y1 y2 y3 y4 y5) (spec_OpFault.j1 (k + 1) y0 y1 y2 y3 y4 y5)) ∧ (∀ y0 y1 y2 y3 y4 y5 y6, LeO (spec_OpFault.j2 k y0 y1 y2 y3 y4 y5 y6) (spec_OpFault.j2 (k + 1) y0 y1 y2 y3 y4 y5 y6))
  | 0 => ⟨fun _ _ _ _ _ r h => by simp [spec_OpFault.j0] at h, fun _ _ _ _ _ _ r h => by simp [spec_OpFault.j1] at h, fun _ _ _ _ _ _ _ r h => by simp [spec_OpFault.j2] at h⟩
  | k + 1 => by
    obtain ⟨ih0, ih1, ih2⟩ := spec_OpFault.mono_l k
    refine ⟨?_, ?_, ?_⟩
    · intro y0 y1 y2 y3 y4
      unfold spec_OpFault.j0
      repeat' first
      | (with_reducible exact ih0 _ _ _ _ _)
      | (with_reducible exact ih1 _ _ _ _ _ _)
      | (with_reducible exact ih2 _ _ _ _ _ _ _)
      | (with_reducible exact LeO.refl _)
      | (with_reducible exact LeO.none _)
      | (with_reducible refine LeO.ite ?_ ?_)
      | (with_reducible refine LeO.bind ?_ (fun _ => ?_))
      | exact ih0 _ _ _ _ _
      | exact ih1 _ _ _ _ _ _
      | exact ih2 _ _ _ _ _ _ _
      | exact LeO.none _
      | refine LeO.ite ?_ ?_
      | refine LeO.bind ?_ (fun _ => ?_)
    · intro y0 y1 y2 y3 y4 y5
      unfold spec_OpFault.j1
      repeat' first
      | (with_reducible exact ih0 _ _ _ _ _)
      | (with_reducible exact ih1 _ _ _ _ _ _)
      | (with_reducible exact ih2 _ _ _ _ _ _ _)
      | (with_reducible exact LeO.refl _)
      | (with_reducible exact LeO.none _)
      | (with_reducible refine LeO.ite ?_ ?_)
      | (with_reducible refine LeO.bind ?_ (fun _ => ?_))
      | exact ih0 _ _ _ _ _
      | exact ih1 _ _ _ _ _ _
      | exact ih2 _ _ _ _ _ _ _
      | exact LeO.none _
      | refine LeO.ite ?_ ?_
      | refine LeO.bind ?_ (fun _ => ?_)
    · intro y0 y1 y2 y3 y4 y5 y6
      unfold spec_OpFault.j2
      repeat' first
      | (with_reducible exact ih0 _ _ _ _ _)
      | (with_reducible exact ih1 _ _ _ _ _ _)
      | (with_reducible exact ih2 _ _ _ _ _ _ _)
      | (with_reducible exact LeO.refl _)
      | (with_reducible exact LeO.none _)
      | (with_reducible refine LeO.ite ?_ ?_)
      | (with_reducible refine LeO.bind ?_ (fun _ => ?_))
      | exact ih0 _ _ _ _ _
      | exact ih1 _ _ _ _ _ _
      | exact ih2 _ _ _ _ _ _ _
      | exact LeO.none _
      | refine LeO.ite ?_ ?_
      | refine LeO.bind ?_ (fun _ => ?_)
theorem spec_OpFault.mono : ∀ a0 a1 a2 a3 k, LeO (spec_OpFault.f k a0 a1 a2 a3) (spec_OpFault.f (k + 1) a0 a1 a2 a3) := by
  intro a0 a1 a2 a3 k
  obtain ⟨ih0, ih1, ih2⟩ := spec_OpFault.mono_l k
  unfold spec_OpFault.f
  repeat' first
      | (with_reducible exact ih0 _ _ _ _ _)
      | (with_reducible exact ih1 _ _ _ _ _ _)
      | (with_reducible exact ih2 _ _ _ _ _ _ _)
      | (with_reducible exact LeO.refl _)
      | (with_reducible exact LeO.none _)
      | (with_reducible refine LeO.ite ?_ ?_)
      | (with_reducible refine LeO.bind ?_ (fun _ => ?_))
      | exact ih0 _ _ _ _ _
      | exact ih1 _ _ _ _ _ _
      | exact ih2 _ _ _ _ _ _ _
      | exact LeO.none _
      | refine LeO.ite ?_ ?_
      | refine LeO.bind ?_ (fun _ => ?_)
set_option maxHeartbeats 8000000 in
set_option maxRecDepth 100000 in
theorem spec_OpFault.calls (k : Nat) (a0_0 : Int) (a0_1 : Int) (a0_2 : Int) (a0_3 : Int) (r : Int) (w : World) (h : spec_OpFault.f k a0_0 a0_1 a0_2 a0_3 = some r) :
    Calls Try.prog 12 #[.agg #[.int .i64 a0_0, .int .i64 a0_1, .int .i64 a0_2, .int .i64 a0_3]] w fun e w' => e = .returned (.int .i64 r) ∧ Below w.heap.size w w' := by
  have hu31 := Try.underlying31
  have HB := Aside0.mk (Below.refl w.heap.size w)
  have H : ((spec_l1In.f a0_0 1 6).bind fun t126 => (if t126 = true then (if a0_0 = 2 then (spec_OpFault.j0 k true a0_0 a0_1 a0_2 a0_3) else (if a0_0 = 3 then (spec_OpFault.j0 k true a0_0 a0_1 a0_2 a0_3) else (spec_OpFault.j0 k (a0_0 == 4) a0_0 a0_1 a0_2 a0_3))) else (some 1))) = some r := h
  clear h
  replace H := Option.bind_eq_some_iff.mp H
  obtain ⟨t126, A20, H⟩ := H
  replace H : (if t126 = true then (if a0_0 = 2 then (spec_OpFault.j0 k true a0_0 a0_1 a0_2 a0_3) else (if a0_0 = 3 then (spec_OpFault.j0 k true a0_0 a0_1 a0_2 a0_3) else (spec_OpFault.j0 k (a0_0 == 4) a0_0 a0_1 a0_2 a0_3))) else (some 1)) = some r := H
  have A2 := Aside0.mk A20
  clear A20
  by_cases c3 : t126 = true
  · subst c3
    have H1 : (if a0_0 = 2 then (spec_OpFault.j0 k true a0_0 a0_1 a0_2 a0_3) else (if a0_0 = 3 then (spec_OpFault.j0 k true a0_0 a0_1 a0_2 a0_3) else (spec_OpFault.j0 k (a0_0 == 4) a0_0 a0_1 a0_2 a0_3))) = some r := by rw [if_pos rfl] at H; exact H
    clear H
    have H := H1
    clear H1
    have HC4 := Aside0.mk H
    clear H
    go_enter Try.func12, Try.ntmps12
    go_upto_region 3 with (first | ((with_reducible refine gate_dst (N := 1) rfl ?_); refine box_event ?hg (N := 1) ?hd (cs := #[.int .i64 a0_0, .int .i64 a0_1, .int .i64 a0_2, .int .i64 a0_3]) (t := 31) ?hr ?_; (case hd => rfl); (case hg => rfl); (case hr => first | (go_simp; done) | (go_simp; rfl)); intro gb125 hg w5 hbox hb; have n0_ := Aside0.mk (below_step (by repeat (first | (with_reducible first | exact HB.out | apply below_alloc | apply pw_below_drewN | apply below_drew1) | exact HB.out)) hb); have n1_ := Aside0.mk (hbox); have n2_ := Aside0.mk ((by rw [hg]; exact (below_size (by repeat (first | (with_reducible first | exact HB.out | apply below_alloc | apply pw_below_drewN | apply below_drew1) | exact HB.out))) : w.heap.size ≤ gb125)); have n3_ := Aside0.mk ((by rw [hg]; exact (below_size (by repeat (first | (with_reducible first | exact HB.out | apply below_alloc | apply pw_below_drewN | apply below_drew1) | exact HB.out))) : w.heap.size ≤ gb125)); clear HB; have HB := n0_; have BK125 := n1_; have GW125 := n2_; have GE125 := n3_; clear n0_ n1_ n2_ n3_; clear hb hbox hg; have hcz6_0 : w5.cell? ⟨gb125, 0, none⟩ = some (.int .i64 a0_0) := (blk_cell BK125.out 0).trans rfl; have hcz6_1 : w5.cell? ⟨gb125, 1, none⟩ = some (.int .i64 a0_1) := (blk_cell BK125.out 1).trans rfl; have hcz6_2 : w5.cell? ⟨gb125, 2, none⟩ = some (.int .i64 a0_2) := (blk_cell BK125.out 2).trans rfl; have hcz6_3 : w5.cell? ⟨gb125, 3, none⟩ = some (.int .i64 a0_3) := (blk_cell BK125.out 3).trans rfl; have hfz6_0 := blk_frozen BK125.out 0; have hfz6_1 := blk_frozen BK125.out 1; have hfz6_2 := blk_frozen BK125.out 2; have hfz6_3 := blk_frozen BK125.out 3) | ((with_reducible refine gate_callee (f := 22) rfl ?_); refine goesL_ (some 7) rfl rfl Try.func22 (by kernel_rfl) rfl #[.int .i64 a0_0, .int .i64 1, .int .i64 6] rfl (by (try simp only [List.map_toArray, List.map_cons, List.map_nil]); first | done | rfl | (simp only [List.length_drop, List.length_take]; rfl)) ?_; (with_reducible refine (spec_l1In.calls a0_0 1 6 true _ A2.out).mono ?_); rintro e w' ⟨rfl, ⟨nd, rfl⟩⟩; refine ⟨_, rfl, ?_⟩))
    (try simp only [Act.put, List.setIfInBounds_toArray, List.set_cons_zero, List.set_cons_succ])
    go_cut [3] (fun v3 wc => ∃ (kq : Nat) (x3_3 : Bool), v3 = .bool x3_3 ∧ Aside0 (spec_OpFault.j0 kq x3_3 a0_0 a0_1 a0_2 a0_3 = some r) ∧ Aside0 (kq ≤ k) ∧ Aside0 (wc.heap[gb125]? = some (.cells #[.int .i64 a0_0, .int .i64 a0_1, .int .i64 a0_2, .int .i64 a0_3] 31 (0, 0))) ∧ Aside0 (Below w.heap.size w wc))
    case first =>
      have H := HC4.out
      clear HC4
      by_cases c7 : a0_0 = 2
      · rw [if_pos c7] at H
        have c7b0 : (a0_0 == 2) = true := beq_iff_eq.mpr c7
        have c7b1 : (a0_0 != 2) = false := bne_eq_false_iff_eq.mpr c7
        clear c7
        (first | rw [c7b0] | (simp only [i64_w, i32_w]; rw [c7b0]) | skip)
        have H' := Aside0.mk H
        clear H
        have hcz8_0 : w5.cell? ⟨gb125, 0, none⟩ = some (.int .i64 a0_0) := (blk_cell BK125.out 0).trans rfl
        have hcz8_1 : w5.cell? ⟨gb125, 1, none⟩ = some (.int .i64 a0_1) := (blk_cell BK125.out 1).trans rfl
        have hcz8_2 : w5.cell? ⟨gb125, 2, none⟩ = some (.int .i64 a0_2) := (blk_cell BK125.out 2).trans rfl
        have hcz8_3 : w5.cell? ⟨gb125, 3, none⟩ = some (.int .i64 a0_3) := (blk_cell BK125.out 3).trans rfl
        have hfz8_0 := blk_frozen BK125.out 0
        have hfz8_1 := blk_frozen BK125.out 1
        have hfz8_2 := blk_frozen BK125.out 2
        have hfz8_3 := blk_frozen BK125.out 3
        go_wp2
        go_meet
        case rel => exact ⟨_, (true), (by first | rfl | (simp; done) | (simp [*]; done)), H', ⟨by first | omega | exact Nat.le_refl _⟩, ⟨by (with_reducible repeat (first | refine blk_drewN ?_ _ | refine blk_drew ?_ | refine blk_alloc ?_ _)); exact BK125.out⟩, ⟨by repeat (first | (with_reducible first | exact HB.out | apply below_alloc | apply pw_below_drewN | apply below_drew1 | refine below_set ?_ GE125.out) | exact HB.out)⟩⟩
      · rw [if_neg c7] at H
        have c7b0 : (a0_0 == 2) = false := beq_eq_false_iff_ne.mpr c7
        have c7b1 : (a0_0 != 2) = true := bne_iff_ne.mpr c7
        (first | rw [c7b0] | (simp only [i64_w, i32_w]; rw [c7b0]) | skip)
        by_cases c9 : a0_0 = 3
        · rw [if_pos c9] at H
          have c9b0 : (a0_0 == 3) = true := beq_iff_eq.mpr c9
          have c9b1 : (a0_0 != 3) = false := bne_eq_false_iff_eq.mpr c9
          clear c9
          have H' := Aside0.mk H
          clear H
          have hcz10_0 : w5.cell? ⟨gb125, 0, none⟩ = some (.int .i64 a0_0) := (blk_cell BK125.out 0).trans rfl
          have hcz10_1 : w5.cell? ⟨gb125, 1, none⟩ = some (.int .i64 a0_1) := (blk_cell BK125.out 1).trans rfl
          have hcz10_2 : w5.cell? ⟨gb125, 2, none⟩ = some (.int .i64 a0_2) := (blk_cell BK125.out 2).trans rfl
          have hcz10_3 : w5.cell? ⟨gb125, 3, none⟩ = some (.int .i64 a0_3) := (blk_cell BK125.out 3).trans rfl
          have hfz10_0 := blk_frozen BK125.out 0
          have hfz10_1 := blk_frozen BK125.out 1
          have hfz10_2 := blk_frozen BK125.out 2
          have hfz10_3 := blk_frozen BK125.out 3
          go_wp2
          go_meet
          case rel => exact ⟨_, (true), (by first | rfl | (simp; done) | (simp [*]; done)), H', ⟨by first | omega | exact Nat.le_refl _⟩, ⟨by (with_reducible repeat (first | refine blk_drewN ?_ _ | refine blk_drew ?_ | refine blk_alloc ?_ _)); exact BK125.out⟩, ⟨by repeat (first | (with_reducible first | exact HB.out | apply below_alloc | apply pw_below_drewN | apply below_drew1 | refine below_set ?_ GE125.out) | exact HB.out)⟩⟩
        · rw [if_neg c9] at H
          have c9b0 : (a0_0 == 3) = false := beq_eq_false_iff_ne.mpr c9
          have c9b1 : (a0_0 != 3) = true := bne_iff_ne.mpr c9
          have H' := Aside0.mk H
          clear H
          have hcz11_0 : w5.cell? ⟨gb125, 0, none⟩ = some (.int .i64 a0_0) := (blk_cell BK125.out 0).trans rfl
          have hcz11_1 : w5.cell? ⟨gb125, 1, none⟩ = some (.int .i64 a0_1) := (blk_cell BK125.out 1).trans rfl
          have hcz11_2 : w5.cell? ⟨gb125, 2, none⟩ = some (.int .i64 a0_2) := (blk_cell BK125.out 2).trans rfl
          have hcz11_3 : w5.cell? ⟨gb125, 3, none⟩ = some (.int .i64 a0_3) := (blk_cell BK125.out 3).trans rfl
          have hfz11_0 := blk_frozen BK125.out 0
          have hfz11_1 := blk_frozen BK125.out 1
          have hfz11_2 := blk_frozen BK125.out 2
          have hfz11_3 := blk_frozen BK125.out 3
          go_wp2
          go_meet
          case rel => exact ⟨_, ((a0_0 == 4)), (by first | rfl | (simp; done) | (simp [*]; done)), H', ⟨by first | omega | exact Nat.le_refl _⟩, ⟨by (with_reducible repeat (first | refine blk_drewN ?_ _ | refine blk_drew ?_ | refine blk_alloc ?_ _)); exact BK125.out⟩, ⟨by repeat (first | (with_reducible first | exact HB.out | apply below_alloc | apply pw_below_drewN | apply below_drew1 | refine below_set ?_ GE125.out) | exact HB.out)⟩⟩
    case rest =>
      clear HC4
      try clear c1
      try clear c2
      try clear p2
      try clear c3
      try clear c7
      try clear c7b0
      try clear c7b1
      try clear c9
      try clear c9b0
      try clear c9b1
      try clear hcz10_0
      try clear hcz10_1
      try clear hcz10_2
      try clear hcz10_3
      try clear hcz11_0
      try clear hcz11_1
      try clear hcz11_2
      try clear hcz11_3
      try clear hcz6_0
      try clear hcz6_1
      try clear hcz6_2
      try clear hcz6_3
      try clear hcz8_0
      try clear hcz8_1
      try clear hcz8_2
      try clear hcz8_3
      try clear hfz10_0
      try clear hfz10_1
      try clear hfz10_2
      try clear hfz10_3
      try clear hfz11_0
      try clear hfz11_1
      try clear hfz11_2
      try clear hfz11_3
      try clear hfz6_0
      try clear hfz6_1
      try clear hfz6_2
      try clear hfz6_3
      try clear hfz8_0
      try clear hfz8_1
      try clear hfz8_2
      try clear hfz8_3
      obtain ⟨kq, x3_3, rfl, HA, HJ3, BK125, HB⟩ := hcut
      cases kq with
      | zero => exact absurd HA.out (by simp [spec_OpFault.j0])
      | succ kj3 =>
        have H := HA.out
        clear HA
        simp only [spec_OpFault.j0] at H
        have HC12 := Aside0.mk H
        clear H
        go_upto_region 4 with (fail)
        go_cut [4] (fun v4 wc => ∃ (kq : Nat) (x4_11 : Bool), v4 = .bool x4_11 ∧ Aside0 (spec_OpFault.j1 kq x3_3 x4_11 a0_0 a0_1 a0_2 a0_3 = some r) ∧ Aside0 (kq ≤ kj3) ∧ Aside0 (wc.heap[gb125]? = some (.cells #[.int .i64 a0_0, .int .i64 a0_1, .int .i64 a0_2, .int .i64 a0_3] 31 (0, 0))) ∧ Aside0 (Below w.heap.size w wc))
        case first =>
          have H := HC12.out
          clear HC12
          by_cases c13 : a0_0 = 1
          · rw [if_pos c13] at H
            have c13b0 : (a0_0 == 1) = true := beq_iff_eq.mpr c13
            have c13b1 : (a0_0 != 1) = false := bne_eq_false_iff_eq.mpr c13
            clear c13
            (first | rw [c13b0] | (simp only [i64_w, i32_w]; rw [c13b0]) | skip)
            have H' := Aside0.mk H
            clear H
            have hcz14_0 : wc.cell? ⟨gb125, 0, none⟩ = some (.int .i64 a0_0) := (blk_cell BK125.out 0).trans rfl
            have hcz14_1 : wc.cell? ⟨gb125, 1, none⟩ = some (.int .i64 a0_1) := (blk_cell BK125.out 1).trans rfl
            have hcz14_2 : wc.cell? ⟨gb125, 2, none⟩ = some (.int .i64 a0_2) := (blk_cell BK125.out 2).trans rfl
            have hcz14_3 : wc.cell? ⟨gb125, 3, none⟩ = some (.int .i64 a0_3) := (blk_cell BK125.out 3).trans rfl
            have hfz14_0 := blk_frozen BK125.out 0
            have hfz14_1 := blk_frozen BK125.out 1
            have hfz14_2 := blk_frozen BK125.out 2
            have hfz14_3 := blk_frozen BK125.out 3
            go_wp2
            go_meet
            case rel => exact ⟨_, (true), (by first | rfl | (simp; done) | (simp [*]; done)), H', ⟨by have := HJ3.out; first | omega | exact Nat.le_refl _⟩, ⟨by (with_reducible repeat (first | refine blk_drewN ?_ _ | refine blk_drew ?_ | refine blk_alloc ?_ _)); exact BK125.out⟩, ⟨by repeat (first | (with_reducible first | exact HB.out | apply below_alloc | apply pw_below_drewN | apply below_drew1 | refine below_set ?_ GE125.out) | exact HB.out)⟩⟩
          · rw [if_neg c13] at H
            have c13b0 : (a0_0 == 1) = false := beq_eq_false_iff_ne.mpr c13
            have c13b1 : (a0_0 != 1) = true := bne_iff_ne.mpr c13
            (first | rw [c13b0] | (simp only [i64_w, i32_w]; rw [c13b0]) | skip)
            by_cases c15 : a0_0 = 2
            · rw [if_pos c15] at H
              have c15b0 : (a0_0 == 2) = true := beq_iff_eq.mpr c15
              have c15b1 : (a0_0 != 2) = false := bne_eq_false_iff_eq.mpr c15
              clear c15
              have H' := Aside0.mk H
              clear H
              have hcz16_0 : wc.cell? ⟨gb125, 0, none⟩ = some (.int .i64 a0_0) := (blk_cell BK125.out 0).trans rfl
              have hcz16_1 : wc.cell? ⟨gb125, 1, none⟩ = some (.int .i64 a0_1) := (blk_cell BK125.out 1).trans rfl
              have hcz16_2 : wc.cell? ⟨gb125, 2, none⟩ = some (.int .i64 a0_2) := (blk_cell BK125.out 2).trans rfl
              have hcz16_3 : wc.cell? ⟨gb125, 3, none⟩ = some (.int .i64 a0_3) := (blk_cell BK125.out 3).trans rfl
              have hfz16_0 := blk_frozen BK125.out 0
              have hfz16_1 := blk_frozen BK125.out 1
              have hfz16_2 := blk_frozen BK125.out 2
              have hfz16_3 := blk_frozen BK125.out 3
              go_wp2
              go_meet
              case rel => exact ⟨_, (true), (by first | rfl | (simp; done) | (simp [*]; done)), H', ⟨by have := HJ3.out; first | omega | exact Nat.le_refl _⟩, ⟨by (with_reducible repeat (first | refine blk_drewN ?_ _ | refine blk_drew ?_ | refine blk_alloc ?_ _)); exact BK125.out⟩, ⟨by repeat (first | (with_reducible first | exact HB.out | apply below_alloc | apply pw_below_drewN | apply below_drew1 | refine below_set ?_ GE125.out) | exact HB.out)⟩⟩
            · rw [if_neg c15] at H
              have c15b0 : (a0_0 == 2) = false := beq_eq_false_iff_ne.mpr c15
              have c15b1 : (a0_0 != 2) = true := bne_iff_ne.mpr c15
              have H' := Aside0.mk H
              clear H
              have hcz17_0 : wc.cell? ⟨gb125, 0, none⟩ = some (.int .i64 a0_0) := (blk_cell BK125.out 0).trans rfl
              have hcz17_1 : wc.cell? ⟨gb125, 1, none⟩ = some (.int .i64 a0_1) := (blk_cell BK125.out 1).trans rfl
              have hcz17_2 : wc.cell? ⟨gb125, 2, none⟩ = some (.int .i64 a0_2) := (blk_cell BK125.out 2).trans rfl
              have hcz17_3 : wc.cell? ⟨gb125, 3, none⟩ = some (.int .i64 a0_3) := (blk_cell BK125.out 3).trans rfl
              have hfz17_0 := blk_frozen BK125.out 0
              have hfz17_1 := blk_frozen BK125.out 1
              have hfz17_2 := blk_frozen BK125.out 2
              have hfz17_3 := blk_frozen BK125.out 3
              go_wp2
              go_meet
              case rel => exact ⟨_, ((a0_0 == 5)), (by first | rfl | (simp; done) | (simp [*]; done)), H', ⟨by have := HJ3.out; first | omega | exact Nat.le_refl _⟩, ⟨by (with_reducible repeat (first | refine blk_drewN ?_ _ | refine blk_drew ?_ | refine blk_alloc ?_ _)); exact BK125.out⟩, ⟨by repeat (first | (with_reducible first | exact HB.out | apply below_alloc | apply pw_below_drewN | apply below_drew1 | refine below_set ?_ GE125.out) | exact HB.out)⟩⟩
        case rest =>
          clear HC12
          try clear c1
          try clear c2
          try clear p2
          try clear c3
          try clear c7
          try clear c7b0
          try clear c7b1
          try clear c9
          try clear c9b0
          try clear c9b1
          try clear c12
          try clear c13
          try clear c13b0
          try clear c13b1
          try clear c15
          try clear c15b0
          try clear c15b1
          try clear hcz10_0
          try clear hcz10_1
          try clear hcz10_2
          try clear hcz10_3
          try clear hcz11_0
          try clear hcz11_1
          try clear hcz11_2
          try clear hcz11_3
          try clear hcz14_0
          try clear hcz14_1
          try clear hcz14_2
          try clear hcz14_3
          try clear hcz16_0
          try clear hcz16_1
          try clear hcz16_2
          try clear hcz16_3
          try clear hcz17_0
          try clear hcz17_1
          try clear hcz17_2
          try clear hcz17_3
          try clear hcz6_0
          try clear hcz6_1
          try clear hcz6_2
          try clear hcz6_3
          try clear hcz8_0
          try clear hcz8_1
          try clear hcz8_2
          try clear hcz8_3
          try clear hfz10_0
          try clear hfz10_1
          try clear hfz10_2
          try clear hfz10_3
          try clear hfz11_0
          try clear hfz11_1
          try clear hfz11_2
          try clear hfz11_3
          try clear hfz14_0
          try clear hfz14_1
          try clear hfz14_2
          try clear hfz14_3
          try clear hfz16_0
          try clear hfz16_1
          try clear hfz16_2
          try clear hfz16_3
          try clear hfz17_0
          try clear hfz17_1
          try clear hfz17_2
          try clear hfz17_3
          try clear hfz6_0
          try clear hfz6_1
          try clear hfz6_2
          try clear hfz6_3
          try clear hfz8_0
          try clear hfz8_1
          try clear hfz8_2
          try clear hfz8_3
          try clear p2
          obtain ⟨kq, x4_11, rfl, HA, HJ11, BK125, HB⟩ := hcut
          cases kq with
          | zero => exact absurd HA.out (by simp [spec_OpFault.j1])
          | succ kj11 =>
            have H := HA.out
            clear HA
            simp only [spec_OpFault.j1] at H
            have HC18 := Aside0.mk H
            clear H
            go_upto_region 5 with (fail)
            go_cut [80] (fun v80 wc => ∃ (kq : Nat) (x80_17 : Bool), v80 = .bool x80_17 ∧ Aside0 (spec_OpFault.j2 kq x3_3 x4_11 x80_17 a0_0 a0_1 a0_2 a0_3 = some r) ∧ Aside0 (kq ≤ kj11) ∧ Aside0 (wc.heap[gb125]? = some (.cells #[.int .i64 a0_0, .int .i64 a0_1, .int .i64 a0_2, .int .i64 a0_3] 31 (0, 0))) ∧ Aside0 (Below w.heap.size w wc))
            case first =>
              have H := HC18.out
              clear HC18
              replace H := Option.bind_eq_some_iff.mp H
              obtain ⟨t127, A190, H⟩ := H
              replace H : (if t127 = true then (if x3_3 = true then ((spec_l4Place.f a0_2).bind fun t128 => (if t128 = true then (if a0_0 = 1 then ((spec_l1In.f a0_3 1 16).bind fun t129 => (if t129 = true then (if a0_0 = 2 then ((spec_l3Data.f a0_3).bind fun t130 => (if t130 = true then (if a0_0 = 5 then ((spec_l5Id.f a0_3).bind fun t131 => (spec_OpFault.j2 kj11 x3_3 x4_11 (!t131) a0_0 a0_1 a0_2 a0_3)) else (spec_OpFault.j2 kj11 x3_3 x4_11 false a0_0 a0_1 a0_2 a0_3)) else (spec_OpFault.j2 kj11 x3_3 x4_11 true a0_0 a0_1 a0_2 a0_3))) else (if a0_0 = 5 then ((spec_l5Id.f a0_3).bind fun t132 => (spec_OpFault.j2 kj11 x3_3 x4_11 (!t132) a0_0 a0_1 a0_2 a0_3)) else (spec_OpFault.j2 kj11 x3_3 x4_11 false a0_0 a0_1 a0_2 a0_3))) else (spec_OpFault.j2 kj11 x3_3 x4_11 true a0_0 a0_1 a0_2 a0_3))) else (if a0_0 = 2 then ((spec_l3Data.f a0_3).bind fun t133 => (if t133 = true then (if a0_0 = 5 then ((spec_l5Id.f a0_3).bind fun t134 => (spec_OpFault.j2 kj11 x3_3 x4_11 (!t134) a0_0 a0_1 a0_2 a0_3)) else (spec_OpFault.j2 kj11 x3_3 x4_11 false a0_0 a0_1 a0_2 a0_3)) else (spec_OpFault.j2 kj11 x3_3 x4_11 true a0_0 a0_1 a0_2 a0_3))) else (if a0_0 = 5 then ((spec_l5Id.f a0_3).bind fun t135 => (spec_OpFault.j2 kj11 x3_3 x4_11 (!t135) a0_0 a0_1 a0_2 a0_3)) else (spec_OpFault.j2 kj11 x3_3 x4_11 false a0_0 a0_1 a0_2 a0_3)))) else (spec_OpFault.j2 kj11 x3_3 x4_11 true a0_0 a0_1 a0_2 a0_3))) else (if a0_0 = 1 then ((spec_l1In.f a0_3 1 16).bind fun t136 => (if t136 = true then (if a0_0 = 2 then ((spec_l3Data.f a0_3).bind fun t137 => (if t137 = true then (if a0_0 = 5 then ((spec_l5Id.f a0_3).bind fun t138 => (spec_OpFault.j2 kj11 x3_3 x4_11 (!t138) a0_0 a0_1 a0_2 a0_3)) else (spec_OpFault.j2 kj11 x3_3 x4_11 false a0_0 a0_1 a0_2 a0_3)) else (spec_OpFault.j2 kj11 x3_3 x4_11 true a0_0 a0_1 a0_2 a0_3))) else (if a0_0 = 5 then ((spec_l5Id.f a0_3).bind fun t139 => (spec_OpFault.j2 kj11 x3_3 x4_11 (!t139) a0_0 a0_1 a0_2 a0_3)) else (spec_OpFault.j2 kj11 x3_3 x4_11 false a0_0 a0_1 a0_2 a0_3))) else (spec_OpFault.j2 kj11 x3_3 x4_11 true a0_0 a0_1 a0_2 a0_3))) else (if a0_0 = 2 then ((spec_l3Data.f a0_3).bind fun t140 => (if t140 = true then (if a0_0 = 5 then ((spec_l5Id.f a0_3).bind fun t141 => (spec_OpFault.j2 kj11 x3_3 x4_11 (!t141) a0_0 a0_1 a0_2 a0_3)) else (spec_OpFault.j2 kj11 x3_3 x4_11 false a0_0 a0_1 a0_2 a0_3)) else (spec_OpFault.j2 kj11 x3_3 x4_11 true a0_0 a0_1 a0_2 a0_3))) else (if a0_0 = 5 then ((spec_l5Id.f a0_3).bind fun t142 => (spec_OpFault.j2 kj11 x3_3 x4_11 (!t142) a0_0 a0_1 a0_2 a0_3)) else (spec_OpFault.j2 kj11 x3_3 x4_11 false a0_0 a0_1 a0_2 a0_3))))) else (spec_OpFault.j2 kj11 x3_3 x4_11 true a0_0 a0_1 a0_2 a0_3)) = some r := H
              have A19 := Aside0.mk A190
              clear A190
              by_cases c20 : t127 = true
              · subst c20
                have H1 : (if x3_3 = true then ((spec_l4Place.f a0_2).bind fun t128 => (if t128 = true then (if a0_0 = 1 then ((spec_l1In.f a0_3 1 16).bind fun t129 => (if t129 = true then (if a0_0 = 2 then ((spec_l3Data.f a0_3).bind fun t130 => (if t130 = true then (if a0_0 = 5 then ((spec_l5Id.f a0_3).bind fun t131 => (spec_OpFault.j2 kj11 x3_3 x4_11 (!t131) a0_0 a0_1 a0_2 a0_3)) else (spec_OpFault.j2 kj11 x3_3 x4_11 false a0_0 a0_1 a0_2 a0_3)) else (spec_OpFault.j2 kj11 x3_3 x4_11 true a0_0 a0_1 a0_2 a0_3))) else (if a0_0 = 5 then ((spec_l5Id.f a0_3).bind fun t132 => (spec_OpFault.j2 kj11 x3_3 x4_11 (!t132) a0_0 a0_1 a0_2 a0_3)) else (spec_OpFault.j2 kj11 x3_3 x4_11 false a0_0 a0_1 a0_2 a0_3))) else (spec_OpFault.j2 kj11 x3_3 x4_11 true a0_0 a0_1 a0_2 a0_3))) else (if a0_0 = 2 then ((spec_l3Data.f a0_3).bind fun t133 => (if t133 = true then (if a0_0 = 5 then ((spec_l5Id.f a0_3).bind fun t134 => (spec_OpFault.j2 kj11 x3_3 x4_11 (!t134) a0_0 a0_1 a0_2 a0_3)) else (spec_OpFault.j2 kj11 x3_3 x4_11 false a0_0 a0_1 a0_2 a0_3)) else (spec_OpFault.j2 kj11 x3_3 x4_11 true a0_0 a0_1 a0_2 a0_3))) else (if a0_0 = 5 then ((spec_l5Id.f a0_3).bind fun t135 => (spec_OpFault.j2 kj11 x3_3 x4_11 (!t135) a0_0 a0_1 a0_2 a0_3)) else (spec_OpFault.j2 kj11 x3_3 x4_11 false a0_0 a0_1 a0_2 a0_3)))) else (spec_OpFault.j2 kj11 x3_3 x4_11 true a0_0 a0_1 a0_2 a0_3))) else (if a0_0 = 1 then ((spec_l1In.f a0_3 1 16).bind fun t136 => (if t136 = true then (if a0_0 = 2 then ((spec_l3Data.f a0_3).bind fun t137 => (if t137 = true then (if a0_0 = 5 then ((spec_l5Id.f a0_3).bind fun t138 => (spec_OpFault.j2 kj11 x3_3 x4_11 (!t138) a0_0 a0_1 a0_2 a0_3)) else (spec_OpFault.j2 kj11 x3_3 x4_11 false a0_0 a0_1 a0_2 a0_3)) else (spec_OpFault.j2 kj11 x3_3 x4_11 true a0_0 a0_1 a0_2 a0_3))) else (if a0_0 = 5 then ((spec_l5Id.f a0_3).bind fun t139 => (spec_OpFault.j2 kj11 x3_3 x4_11 (!t139) a0_0 a0_1 a0_2 a0_3)) else (spec_OpFault.j2 kj11 x3_3 x4_11 false a0_0 a0_1 a0_2 a0_3))) else (spec_OpFault.j2 kj11 x3_3 x4_11 true a0_0 a0_1 a0_2 a0_3))) else (if a0_0 = 2 then ((spec_l3Data.f a0_3).bind fun t140 => (if t140 = true then (if a0_0 = 5 then ((spec_l5Id.f a0_3).bind fun t141 => (spec_OpFault.j2 kj11 x3_3 x4_11 (!t141) a0_0 a0_1 a0_2 a0_3)) else (spec_OpFault.j2 kj11 x3_3 x4_11 false a0_0 a0_1 a0_2 a0_3)) else (spec_OpFault.j2 kj11 x3_3 x4_11 true a0_0 a0_1 a0_2 a0_3))) else (if a0_0 = 5 then ((spec_l5Id.f a0_3).bind fun t142 => (spec_OpFault.j2 kj11 x3_3 x4_11 (!t142) a0_0 a0_1 a0_2 a0_3)) else (spec_OpFault.j2 kj11 x3_3 x4_11 false a0_0 a0_1 a0_2 a0_3))))) = some r := by rw [if_pos rfl] at H; exact H
                clear H
                have H := H1
                clear H1
                by_cases c21 : x3_3 = true
                · subst c21
                  have H1 : ((spec_l4Place.f a0_2).bind fun t128 => (if t128 = true then (if a0_0 = 1 then ((spec_l1In.f a0_3 1 16).bind fun t129 => (if t129 = true then (if a0_0 = 2 then ((spec_l3Data.f a0_3).bind fun t130 => (if t130 = true then (if a0_0 = 5 then ((spec_l5Id.f a0_3).bind fun t131 => (spec_OpFault.j2 kj11 true x4_11 (!t131) a0_0 a0_1 a0_2 a0_3)) else (spec_OpFault.j2 kj11 true x4_11 false a0_0 a0_1 a0_2 a0_3)) else (spec_OpFault.j2 kj11 true x4_11 true a0_0 a0_1 a0_2 a0_3))) else (if a0_0 = 5 then ((spec_l5Id.f a0_3).bind fun t132 => (spec_OpFault.j2 kj11 true x4_11 (!t132) a0_0 a0_1 a0_2 a0_3)) else (spec_OpFault.j2 kj11 true x4_11 false a0_0 a0_1 a0_2 a0_3))) else (spec_OpFault.j2 kj11 true x4_11 true a0_0 a0_1 a0_2 a0_3))) else (if a0_0 = 2 then ((spec_l3Data.f a0_3).bind fun t133 => (if t133 = true then (if a0_0 = 5 then ((spec_l5Id.f a0_3).bind fun t134 => (spec_OpFault.j2 kj11 true x4_11 (!t134) a0_0 a0_1 a0_2 a0_3)) else (spec_OpFault.j2 kj11 true x4_11 false a0_0 a0_1 a0_2 a0_3)) else (spec_OpFault.j2 kj11 true x4_11 true a0_0 a0_1 a0_2 a0_3))) else (if a0_0 = 5 then ((spec_l5Id.f a0_3).bind fun t135 => (spec_OpFault.j2 kj11 true x4_11 (!t135) a0_0 a0_1 a0_2 a0_3)) else (spec_OpFault.j2 kj11 true x4_11 false a0_0 a0_1 a0_2 a0_3)))) else (spec_OpFault.j2 kj11 true x4_11 true a0_0 a0_1 a0_2 a0_3))) = some r := by rw [if_pos rfl] at H; exact H
                  clear H
                  have H := H1
                  clear H1
                  replace H := Option.bind_eq_some_iff.mp H
                  obtain ⟨t128, A220, H⟩ := H
                  replace H : (if t128 = true then (if a0_0 = 1 then ((spec_l1In.f a0_3 1 16).bind fun t129 => (if t129 = true then (if a0_0 = 2 then ((spec_l3Data.f a0_3).bind fun t130 => (if t130 = true then (if a0_0 = 5 then ((spec_l5Id.f a0_3).bind fun t131 => (spec_OpFault.j2 kj11 true x4_11 (!t131) a0_0 a0_1 a0_2 a0_3)) else (spec_OpFault.j2 kj11 true x4_11 false a0_0 a0_1 a0_2 a0_3)) else (spec_OpFault.j2 kj11 true x4_11 true a0_0 a0_1 a0_2 a0_3))) else (if a0_0 = 5 then ((spec_l5Id.f a0_3).bind fun t132 => (spec_OpFault.j2 kj11 true x4_11 (!t132) a0_0 a0_1 a0_2 a0_3)) else (spec_OpFault.j2 kj11 true x4_11 false a0_0 a0_1 a0_2 a0_3))) else (spec_OpFault.j2 kj11 true x4_11 true a0_0 a0_1 a0_2 a0_3))) else (if a0_0 = 2 then ((spec_l3Data.f a0_3).bind fun t133 => (if t133 = true then (if a0_0 = 5 then ((spec_l5Id.f a0_3).bind fun t134 => (spec_OpFault.j2 kj11 true x4_11 (!t134) a0_0 a0_1 a0_2 a0_3)) else (spec_OpFault.j2 kj11 true x4_11 false a0_0 a0_1 a0_2 a0_3)) else (spec_OpFault.j2 kj11 true x4_11 true a0_0 a0_1 a0_2 a0_3))) else (if a0_0 = 5 then ((spec_l5Id.f a0_3).bind fun t135 => (spec_OpFault.j2 kj11 true x4_11 (!t135) a0_0 a0_1 a0_2 a0_3)) else (spec_OpFault.j2 kj11 true x4_11 false a0_0 a0_1 a0_2 a0_3)))) else (spec_OpFault.j2 kj11 true x4_11 true a0_0 a0_1 a0_2 a0_3)) = some r := H
                  have A22 := Aside0.mk A220
                  clear A220
                  by_cases c23 : t128 = true
                  · subst c23
                    have H1 : (if a0_0 = 1 then ((spec_l1In.f a0_3 1 16).bind fun t129 => (if t129 = true then (if a0_0 = 2 then ((spec_l3Data.f a0_3).bind fun t130 => (if t130 = true then (if a0_0 = 5 then ((spec_l5Id.f a0_3).bind fun t131 => (spec_OpFault.j2 kj11 true x4_11 (!t131) a0_0 a0_1 a0_2 a0_3)) else (spec_OpFault.j2 kj11 true x4_11 false a0_0 a0_1 a0_2 a0_3)) else (spec_OpFault.j2 kj11 true x4_11 true a0_0 a0_1 a0_2 a0_3))) else (if a0_0 = 5 then ((spec_l5Id.f a0_3).bind fun t132 => (spec_OpFault.j2 kj11 true x4_11 (!t132) a0_0 a0_1 a0_2 a0_3)) else (spec_OpFault.j2 kj11 true x4_11 false a0_0 a0_1 a0_2 a0_3))) else (spec_OpFault.j2 kj11 true x4_11 true a0_0 a0_1 a0_2 a0_3))) else (if a0_0 = 2 then ((spec_l3Data.f a0_3).bind fun t133 => (if t133 = true then (if a0_0 = 5 then ((spec_l5Id.f a0_3).bind fun t134 => (spec_OpFault.j2 kj11 true x4_11 (!t134) a0_0 a0_1 a0_2 a0_3)) else (spec_OpFault.j2 kj11 true x4_11 false a0_0 a0_1 a0_2 a0_3)) else (spec_OpFault.j2 kj11 true x4_11 true a0_0 a0_1 a0_2 a0_3))) else (if a0_0 = 5 then ((spec_l5Id.f a0_3).bind fun t135 => (spec_OpFault.j2 kj11 true x4_11 (!t135) a0_0 a0_1 a0_2 a0_3)) else (spec_OpFault.j2 kj11 true x4_11 false a0_0 a0_1 a0_2 a0_3)))) = some r := by rw [if_pos rfl] at H; exact H
                    clear H
                    have H := H1
                    clear H1
                    by_cases c24 : a0_0 = 1
                    · rw [if_pos c24] at H
                      have c24b0 : (a0_0 == 1) = true := beq_iff_eq.mpr c24
                      have c24b1 : (a0_0 != 1) = false := bne_eq_false_iff_eq.mpr c24
                      clear c24
                      (first | rw [c24b0] | (simp only [i64_w, i32_w]; rw [c24b0]) | skip)
                      replace H := Option.bind_eq_some_iff.mp H
                      obtain ⟨t129, A250, H⟩ := H
                      replace H : (if t129 = true then (if a0_0 = 2 then ((spec_l3Data.f a0_3).bind fun t130 => (if t130 = true then (if a0_0 = 5 then ((spec_l5Id.f a0_3).bind fun t131 => (spec_OpFault.j2 kj11 true x4_11 (!t131) a0_0 a0_1 a0_2 a0_3)) else (spec_OpFault.j2 kj11 true x4_11 false a0_0 a0_1 a0_2 a0_3)) else (spec_OpFault.j2 kj11 true x4_11 true a0_0 a0_1 a0_2 a0_3))) else (if a0_0 = 5 then ((spec_l5Id.f a0_3).bind fun t132 => (spec_OpFault.j2 kj11 true x4_11 (!t132) a0_0 a0_1 a0_2 a0_3)) else (spec_OpFault.j2 kj11 true x4_11 false a0_0 a0_1 a0_2 a0_3))) else (spec_OpFault.j2 kj11 true x4_11 true a0_0 a0_1 a0_2 a0_3)) = some r := H
                      have A25 := Aside0.mk A250
                      clear A250
                      by_cases c26 : t129 = true
                      · subst c26
                        have H1 : (if a0_0 = 2 then ((spec_l3Data.f a0_3).bind fun t130 => (if t130 = true then (if a0_0 = 5 then ((spec_l5Id.f a0_3).bind fun t131 => (spec_OpFault.j2 kj11 true x4_11 (!t131) a0_0 a0_1 a0_2 a0_3)) else (spec_OpFault.j2 kj11 true x4_11 false a0_0 a0_1 a0_2 a0_3)) else (spec_OpFault.j2 kj11 true x4_11 true a0_0 a0_1 a0_2 a0_3))) else (if a0_0 = 5 then ((spec_l5Id.f a0_3).bind fun t132 => (spec_OpFault.j2 kj11 true x4_11 (!t132) a0_0 a0_1 a0_2 a0_3)) else (spec_OpFault.j2 kj11 true x4_11 false a0_0 a0_1 a0_2 a0_3))) = some r := by rw [if_pos rfl] at H; exact H
                        clear H
                        have H := H1
                        clear H1
                        by_cases c27 : a0_0 = 2
                        · rw [if_pos c27] at H
                          have c27b0 : (a0_0 == 2) = true := beq_iff_eq.mpr c27
                          have c27b1 : (a0_0 != 2) = false := bne_eq_false_iff_eq.mpr c27
                          clear c27
                          replace H := Option.bind_eq_some_iff.mp H
                          obtain ⟨t130, A280, H⟩ := H
                          replace H : (if t130 = true then (if a0_0 = 5 then ((spec_l5Id.f a0_3).bind fun t131 => (spec_OpFault.j2 kj11 true x4_11 (!t131) a0_0 a0_1 a0_2 a0_3)) else (spec_OpFault.j2 kj11 true x4_11 false a0_0 a0_1 a0_2 a0_3)) else (spec_OpFault.j2 kj11 true x4_11 true a0_0 a0_1 a0_2 a0_3)) = some r := H
                          have A28 := Aside0.mk A280
                          clear A280
                          by_cases c29 : t130 = true
                          · subst c29
                            have H1 : (if a0_0 = 5 then ((spec_l5Id.f a0_3).bind fun t131 => (spec_OpFault.j2 kj11 true x4_11 (!t131) a0_0 a0_1 a0_2 a0_3)) else (spec_OpFault.j2 kj11 true x4_11 false a0_0 a0_1 a0_2 a0_3)) = some r := by rw [if_pos rfl] at H; exact H
                            clear H
                            have H := H1
                            clear H1
                            by_cases c30 : a0_0 = 5
                            · rw [if_pos c30] at H
                              have c30b0 : (a0_0 == 5) = true := beq_iff_eq.mpr c30
                              have c30b1 : (a0_0 != 5) = false := bne_eq_false_iff_eq.mpr c30
                              clear c30
                              replace H := Option.bind_eq_some_iff.mp H
                              obtain ⟨t131, A310, H⟩ := H
                              replace H : (spec_OpFault.j2 kj11 true x4_11 (!t131) a0_0 a0_1 a0_2 a0_3) = some r := H
                              have A31 := Aside0.mk A310
                              clear A310
                              have H' := Aside0.mk H
                              clear H
                              have hcz32_0 : wc.cell? ⟨gb125, 0, none⟩ = some (.int .i64 a0_0) := (blk_cell BK125.out 0).trans rfl
                              have hcz32_1 : wc.cell? ⟨gb125, 1, none⟩ = some (.int .i64 a0_1) := (blk_cell BK125.out 1).trans rfl
                              have hcz32_2 : wc.cell? ⟨gb125, 2, none⟩ = some (.int .i64 a0_2) := (blk_cell BK125.out 2).trans rfl
                              have hcz32_3 : wc.cell? ⟨gb125, 3, none⟩ = some (.int .i64 a0_3) := (blk_cell BK125.out 3).trans rfl
                              have hfz32_0 := blk_frozen BK125.out 0
                              have hfz32_1 := blk_frozen BK125.out 1
                              have hfz32_2 := blk_frozen BK125.out 2
                              have hfz32_3 := blk_frozen BK125.out 3
                              go_wp2_with (first | ((with_reducible refine gate_callee (f := 23) rfl ?_); refine goesL_ (some 37) rfl rfl Try.func23 (by kernel_rfl) rfl #[.int .i64 a0_1] rfl (by (try simp only [List.map_toArray, List.map_cons, List.map_nil]); first | done | rfl | (simp only [List.length_drop, List.length_take]; rfl)) ?_; (with_reducible refine (spec_l5Id.calls a0_1 true _ A19.out).mono ?_); rintro e w' ⟨rfl, ⟨nd, rfl⟩⟩; refine ⟨_, rfl, ?_⟩) | (go_at_call 24; (with_reducible refine (spec_l4Place.calls a0_2 true _ A22.out).mono ?_); rintro e w' ⟨rfl, ⟨nd, rfl⟩⟩) | (go_at_call 22; (with_reducible refine (spec_l1In.calls a0_3 1 16 true _ A25.out).mono ?_); rintro e w' ⟨rfl, ⟨nd, rfl⟩⟩) | (go_at_call 25; (with_reducible refine (spec_l3Data.calls a0_3 true _ A28.out).mono ?_); rintro e w' ⟨rfl, ⟨nd, rfl⟩⟩) | (go_at_call 23; (with_reducible refine (spec_l5Id.calls a0_3 t131 _ A31.out).mono ?_); rintro e w' ⟨rfl, ⟨nd, rfl⟩⟩))
                              go_meet
                              case rel => exact ⟨_, (!t131), (by first | rfl | (simp; done) | (simp [*]; done)), H', ⟨by have := HJ3.out; have := HJ11.out; first | omega | exact Nat.le_refl _⟩, ⟨by (with_reducible repeat (first | refine blk_drewN ?_ _ | refine blk_drew ?_ | refine blk_alloc ?_ _)); exact BK125.out⟩, ⟨by repeat (first | (with_reducible first | exact HB.out | apply below_alloc | apply pw_below_drewN | apply below_drew1 | refine below_set ?_ GE125.out) | exact HB.out)⟩⟩
                            · rw [if_neg c30] at H
                              have c30b0 : (a0_0 == 5) = false := beq_eq_false_iff_ne.mpr c30
                              have c30b1 : (a0_0 != 5) = true := bne_iff_ne.mpr c30
                              have H' := Aside0.mk H
                              clear H
                              have hcz33_0 : wc.cell? ⟨gb125, 0, none⟩ = some (.int .i64 a0_0) := (blk_cell BK125.out 0).trans rfl
                              have hcz33_1 : wc.cell? ⟨gb125, 1, none⟩ = some (.int .i64 a0_1) := (blk_cell BK125.out 1).trans rfl
                              have hcz33_2 : wc.cell? ⟨gb125, 2, none⟩ = some (.int .i64 a0_2) := (blk_cell BK125.out 2).trans rfl
                              have hcz33_3 : wc.cell? ⟨gb125, 3, none⟩ = some (.int .i64 a0_3) := (blk_cell BK125.out 3).trans rfl
                              have hfz33_0 := blk_frozen BK125.out 0
                              have hfz33_1 := blk_frozen BK125.out 1
                              have hfz33_2 := blk_frozen BK125.out 2
                              have hfz33_3 := blk_frozen BK125.out 3
                              go_wp2_with (first | ((with_reducible refine gate_callee (f := 23) rfl ?_); refine goesL_ (some 37) rfl rfl Try.func23 (by kernel_rfl) rfl #[.int .i64 a0_1] rfl (by (try simp only [List.map_toArray, List.map_cons, List.map_nil]); first | done | rfl | (simp only [List.length_drop, List.length_take]; rfl)) ?_; (with_reducible refine (spec_l5Id.calls a0_1 true _ A19.out).mono ?_); rintro e w' ⟨rfl, ⟨nd, rfl⟩⟩; refine ⟨_, rfl, ?_⟩) | (go_at_call 24; (with_reducible refine (spec_l4Place.calls a0_2 true _ A22.out).mono ?_); rintro e w' ⟨rfl, ⟨nd, rfl⟩⟩) | (go_at_call 22; (with_reducible refine (spec_l1In.calls a0_3 1 16 true _ A25.out).mono ?_); rintro e w' ⟨rfl, ⟨nd, rfl⟩⟩) | (go_at_call 25; (with_reducible refine (spec_l3Data.calls a0_3 true _ A28.out).mono ?_); rintro e w' ⟨rfl, ⟨nd, rfl⟩⟩))
                              go_meet
                              case rel => exact ⟨_, (false), (by first | rfl | (simp; done) | (simp [*]; done)), H', ⟨by have := HJ3.out; have := HJ11.out; first | omega | exact Nat.le_refl _⟩, ⟨by (with_reducible repeat (first | refine blk_drewN ?_ _ | refine blk_drew ?_ | refine blk_alloc ?_ _)); exact BK125.out⟩, ⟨by repeat (first | (with_reducible first | exact HB.out | apply below_alloc | apply pw_below_drewN | apply below_drew1 | refine below_set ?_ GE125.out) | exact HB.out)⟩⟩
                          · replace c29 := Bool.eq_false_iff.mpr c29
                            subst c29
                            have H1 : (spec_OpFault.j2 kj11 true x4_11 true a0_0 a0_1 a0_2 a0_3) = some r := by rw [if_neg (show ¬ (false = true) by decide)] at H; exact H
                            clear H
                            have H := H1
                            clear H1
                            have H' := Aside0.mk H
                            clear H
                            have hcz34_0 : wc.cell? ⟨gb125, 0, none⟩ = some (.int .i64 a0_0) := (blk_cell BK125.out 0).trans rfl
                            have hcz34_1 : wc.cell? ⟨gb125, 1, none⟩ = some (.int .i64 a0_1) := (blk_cell BK125.out 1).trans rfl
                            have hcz34_2 : wc.cell? ⟨gb125, 2, none⟩ = some (.int .i64 a0_2) := (blk_cell BK125.out 2).trans rfl
                            have hcz34_3 : wc.cell? ⟨gb125, 3, none⟩ = some (.int .i64 a0_3) := (blk_cell BK125.out 3).trans rfl
                            have hfz34_0 := blk_frozen BK125.out 0
                            have hfz34_1 := blk_frozen BK125.out 1
                            have hfz34_2 := blk_frozen BK125.out 2
                            have hfz34_3 := blk_frozen BK125.out 3
                            go_wp2_with (first | ((with_reducible refine gate_callee (f := 23) rfl ?_); refine goesL_ (some 37) rfl rfl Try.func23 (by kernel_rfl) rfl #[.int .i64 a0_1] rfl (by (try simp only [List.map_toArray, List.map_cons, List.map_nil]); first | done | rfl | (simp only [List.length_drop, List.length_take]; rfl)) ?_; (with_reducible refine (spec_l5Id.calls a0_1 true _ A19.out).mono ?_); rintro e w' ⟨rfl, ⟨nd, rfl⟩⟩; refine ⟨_, rfl, ?_⟩) | (go_at_call 24; (with_reducible refine (spec_l4Place.calls a0_2 true _ A22.out).mono ?_); rintro e w' ⟨rfl, ⟨nd, rfl⟩⟩) | (go_at_call 22; (with_reducible refine (spec_l1In.calls a0_3 1 16 true _ A25.out).mono ?_); rintro e w' ⟨rfl, ⟨nd, rfl⟩⟩) | (go_at_call 25; (with_reducible refine (spec_l3Data.calls a0_3 false _ A28.out).mono ?_); rintro e w' ⟨rfl, ⟨nd, rfl⟩⟩))
                            go_meet
                            case rel => exact ⟨_, (true), (by first | rfl | (simp; done) | (simp [*]; done)), H', ⟨by have := HJ3.out; have := HJ11.out; first | omega | exact Nat.le_refl _⟩, ⟨by (with_reducible repeat (first | refine blk_drewN ?_ _ | refine blk_drew ?_ | refine blk_alloc ?_ _)); exact BK125.out⟩, ⟨by repeat (first | (with_reducible first | exact HB.out | apply below_alloc | apply pw_below_drewN | apply below_drew1 | refine below_set ?_ GE125.out) | exact HB.out)⟩⟩
                        · rw [if_neg c27] at H
                          have c27b0 : (a0_0 == 2) = false := beq_eq_false_iff_ne.mpr c27
                          have c27b1 : (a0_0 != 2) = true := bne_iff_ne.mpr c27
                          by_cases c35 : a0_0 = 5
                          · rw [if_pos c35] at H
                            have c35b0 : (a0_0 == 5) = true := beq_iff_eq.mpr c35
                            have c35b1 : (a0_0 != 5) = false := bne_eq_false_iff_eq.mpr c35
                            clear c35
                            replace H := Option.bind_eq_some_iff.mp H
                            obtain ⟨t132, A360, H⟩ := H
                            replace H : (spec_OpFault.j2 kj11 true x4_11 (!t132) a0_0 a0_1 a0_2 a0_3) = some r := H
                            have A36 := Aside0.mk A360
                            clear A360
                            have H' := Aside0.mk H
                            clear H
                            have hcz37_0 : wc.cell? ⟨gb125, 0, none⟩ = some (.int .i64 a0_0) := (blk_cell BK125.out 0).trans rfl
                            have hcz37_1 : wc.cell? ⟨gb125, 1, none⟩ = some (.int .i64 a0_1) := (blk_cell BK125.out 1).trans rfl
                            have hcz37_2 : wc.cell? ⟨gb125, 2, none⟩ = some (.int .i64 a0_2) := (blk_cell BK125.out 2).trans rfl
                            have hcz37_3 : wc.cell? ⟨gb125, 3, none⟩ = some (.int .i64 a0_3) := (blk_cell BK125.out 3).trans rfl
                            have hfz37_0 := blk_frozen BK125.out 0
                            have hfz37_1 := blk_frozen BK125.out 1
                            have hfz37_2 := blk_frozen BK125.out 2
                            have hfz37_3 := blk_frozen BK125.out 3
                            go_wp2_with (first | ((with_reducible refine gate_callee (f := 23) rfl ?_); refine goesL_ (some 37) rfl rfl Try.func23 (by kernel_rfl) rfl #[.int .i64 a0_1] rfl (by (try simp only [List.map_toArray, List.map_cons, List.map_nil]); first | done | rfl | (simp only [List.length_drop, List.length_take]; rfl)) ?_; (with_reducible refine (spec_l5Id.calls a0_1 true _ A19.out).mono ?_); rintro e w' ⟨rfl, ⟨nd, rfl⟩⟩; refine ⟨_, rfl, ?_⟩) | (go_at_call 24; (with_reducible refine (spec_l4Place.calls a0_2 true _ A22.out).mono ?_); rintro e w' ⟨rfl, ⟨nd, rfl⟩⟩) | (go_at_call 22; (with_reducible refine (spec_l1In.calls a0_3 1 16 true _ A25.out).mono ?_); rintro e w' ⟨rfl, ⟨nd, rfl⟩⟩) | (go_at_call 23; (with_reducible refine (spec_l5Id.calls a0_3 t132 _ A36.out).mono ?_); rintro e w' ⟨rfl, ⟨nd, rfl⟩⟩))
                            go_meet
                            case rel => exact ⟨_, (!t132), (by first | rfl | (simp; done) | (simp [*]; done)), H', ⟨by have := HJ3.out; have := HJ11.out; first | omega | exact Nat.le_refl _⟩, ⟨by (with_reducible repeat (first | refine blk_drewN ?_ _ | refine blk_drew ?_ | refine blk_alloc ?_ _)); exact BK125.out⟩, ⟨by repeat (first | (with_reducible first | exact HB.out | apply below_alloc | apply pw_below_drewN | apply below_drew1 | refine below_set ?_ GE125.out) | exact HB.out)⟩⟩
                          · rw [if_neg c35] at H
                            have c35b0 : (a0_0 == 5) = false := beq_eq_false_iff_ne.mpr c35
                            have c35b1 : (a0_0 != 5) = true := bne_iff_ne.mpr c35
                            have H' := Aside0.mk H
                            clear H
                            have hcz38_0 : wc.cell? ⟨gb125, 0, none⟩ = some (.int .i64 a0_0) := (blk_cell BK125.out 0).trans rfl
                            have hcz38_1 : wc.cell? ⟨gb125, 1, none⟩ = some (.int .i64 a0_1) := (blk_cell BK125.out 1).trans rfl
                            have hcz38_2 : wc.cell? ⟨gb125, 2, none⟩ = some (.int .i64 a0_2) := (blk_cell BK125.out 2).trans rfl
                            have hcz38_3 : wc.cell? ⟨gb125, 3, none⟩ = some (.int .i64 a0_3) := (blk_cell BK125.out 3).trans rfl
                            have hfz38_0 := blk_frozen BK125.out 0
                            have hfz38_1 := blk_frozen BK125.out 1
                            have hfz38_2 := blk_frozen BK125.out 2
                            have hfz38_3 := blk_frozen BK125.out 3
                            go_wp2_with (first | ((with_reducible refine gate_callee (f := 23) rfl ?_); refine goesL_ (some 37) rfl rfl Try.func23 (by kernel_rfl) rfl #[.int .i64 a0_1] rfl (by (try simp only [List.map_toArray, List.map_cons, List.map_nil]); first | done | rfl | (simp only [List.length_drop, List.length_take]; rfl)) ?_; (with_reducible refine (spec_l5Id.calls a0_1 true _ A19.out).mono ?_); rintro e w' ⟨rfl, ⟨nd, rfl⟩⟩; refine ⟨_, rfl, ?_⟩) | (go_at_call 24; (with_reducible refine (spec_l4Place.calls a0_2 true _ A22.out).mono ?_); rintro e w' ⟨rfl, ⟨nd, rfl⟩⟩) | (go_at_call 22; (with_reducible refine (spec_l1In.calls a0_3 1 16 true _ A25.out).mono ?_); rintro e w' ⟨rfl, ⟨nd, rfl⟩⟩))
                            go_meet
                            case rel => exact ⟨_, (false), (by first | rfl | (simp; done) | (simp [*]; done)), H', ⟨by have := HJ3.out; have := HJ11.out; first | omega | exact Nat.le_refl _⟩, ⟨by (with_reducible repeat (first | refine blk_drewN ?_ _ | refine blk_drew ?_ | refine blk_alloc ?_ _)); exact BK125.out⟩, ⟨by repeat (first | (with_reducible first | exact HB.out | apply below_alloc | apply pw_below_drewN | apply below_drew1 | refine below_set ?_ GE125.out) | exact HB.out)⟩⟩
                      · replace c26 := Bool.eq_false_iff.mpr c26
                        subst c26
                        have H1 : (spec_OpFault.j2 kj11 true x4_11 true a0_0 a0_1 a0_2 a0_3) = some r := by rw [if_neg (show ¬ (false = true) by decide)] at H; exact H
                        clear H
                        have H := H1
                        clear H1
                        have H' := Aside0.mk H
                        clear H
                        have hcz39_0 : wc.cell? ⟨gb125, 0, none⟩ = some (.int .i64 a0_0) := (blk_cell BK125.out 0).trans rfl
                        have hcz39_1 : wc.cell? ⟨gb125, 1, none⟩ = some (.int .i64 a0_1) := (blk_cell BK125.out 1).trans rfl
                        have hcz39_2 : wc.cell? ⟨gb125, 2, none⟩ = some (.int .i64 a0_2) := (blk_cell BK125.out 2).trans rfl
                        have hcz39_3 : wc.cell? ⟨gb125, 3, none⟩ = some (.int .i64 a0_3) := (blk_cell BK125.out 3).trans rfl
                        have hfz39_0 := blk_frozen BK125.out 0
                        have hfz39_1 := blk_frozen BK125.out 1
                        have hfz39_2 := blk_frozen BK125.out 2
                        have hfz39_3 := blk_frozen BK125.out 3
                        go_wp2_with (first | ((with_reducible refine gate_callee (f := 23) rfl ?_); refine goesL_ (some 37) rfl rfl Try.func23 (by kernel_rfl) rfl #[.int .i64 a0_1] rfl (by (try simp only [List.map_toArray, List.map_cons, List.map_nil]); first | done | rfl | (simp only [List.length_drop, List.length_take]; rfl)) ?_; (with_reducible refine (spec_l5Id.calls a0_1 true _ A19.out).mono ?_); rintro e w' ⟨rfl, ⟨nd, rfl⟩⟩; refine ⟨_, rfl, ?_⟩) | (go_at_call 24; (with_reducible refine (spec_l4Place.calls a0_2 true _ A22.out).mono ?_); rintro e w' ⟨rfl, ⟨nd, rfl⟩⟩) | (go_at_call 22; (with_reducible refine (spec_l1In.calls a0_3 1 16 false _ A25.out).mono ?_); rintro e w' ⟨rfl, ⟨nd, rfl⟩⟩))
                        go_meet
                        case rel => exact ⟨_, (true), (by first | rfl | (simp; done) | (simp [*]; done)), H', ⟨by have := HJ3.out; have := HJ11.out; first | omega | exact Nat.le_refl _⟩, ⟨by (with_reducible repeat (first | refine blk_drewN ?_ _ | refine blk_drew ?_ | refine blk_alloc ?_ _)); exact BK125.out⟩, ⟨by repeat (first | (with_reducible first | exact HB.out | apply below_alloc | apply pw_below_drewN | apply below_drew1 | refine below_set ?_ GE125.out) | exact HB.out)⟩⟩
                    · rw [if_neg c24] at H
                      have c24b0 : (a0_0 == 1) = false := beq_eq_false_iff_ne.mpr c24
                      have c24b1 : (a0_0 != 1) = true := bne_iff_ne.mpr c24
                      (first | rw [c24b0] | (simp only [i64_w, i32_w]; rw [c24b0]) | skip)
                      by_cases c40 : a0_0 = 2
                      · rw [if_pos c40] at H
                        have c40b0 : (a0_0 == 2) = true := beq_iff_eq.mpr c40
                        have c40b1 : (a0_0 != 2) = false := bne_eq_false_iff_eq.mpr c40
                        clear c40
                        replace H := Option.bind_eq_some_iff.mp H
                        obtain ⟨t133, A410, H⟩ := H
                        replace H : (if t133 = true then (if a0_0 = 5 then ((spec_l5Id.f a0_3).bind fun t134 => (spec_OpFault.j2 kj11 true x4_11 (!t134) a0_0 a0_1 a0_2 a0_3)) else (spec_OpFault.j2 kj11 true x4_11 false a0_0 a0_1 a0_2 a0_3)) else (spec_OpFault.j2 kj11 true x4_11 true a0_0 a0_1 a0_2 a0_3)) = some r := H
                        have A41 := Aside0.mk A410
                        clear A410
                        by_cases c42 : t133 = true
                        · subst c42
                          have H1 : (if a0_0 = 5 then ((spec_l5Id.f a0_3).bind fun t134 => (spec_OpFault.j2 kj11 true x4_11 (!t134) a0_0 a0_1 a0_2 a0_3)) else (spec_OpFault.j2 kj11 true x4_11 false a0_0 a0_1 a0_2 a0_3)) = some r := by rw [if_pos rfl] at H; exact H
                          clear H
                          have H := H1
                          clear H1
                          by_cases c43 : a0_0 = 5
                          · rw [if_pos c43] at H
                            have c43b0 : (a0_0 == 5) = true := beq_iff_eq.mpr c43
                            have c43b1 : (a0_0 != 5) = false := bne_eq_false_iff_eq.mpr c43
                            clear c43
                            replace H := Option.bind_eq_some_iff.mp H
                            obtain ⟨t134, A440, H⟩ := H
                            replace H : (spec_OpFault.j2 kj11 true x4_11 (!t134) a0_0 a0_1 a0_2 a0_3) = some r := H
                            have A44 := Aside0.mk A440
                            clear A440
                            have H' := Aside0.mk H
                            clear H
                            have hcz45_0 : wc.cell? ⟨gb125, 0, none⟩ = some (.int .i64 a0_0) := (blk_cell BK125.out 0).trans rfl
                            have hcz45_1 : wc.cell? ⟨gb125, 1, none⟩ = some (.int .i64 a0_1) := (blk_cell BK125.out 1).trans rfl
                            have hcz45_2 : wc.cell? ⟨gb125, 2, none⟩ = some (.int .i64 a0_2) := (blk_cell BK125.out 2).trans rfl
                            have hcz45_3 : wc.cell? ⟨gb125, 3, none⟩ = some (.int .i64 a0_3) := (blk_cell BK125.out 3).trans rfl
                            have hfz45_0 := blk_frozen BK125.out 0
                            have hfz45_1 := blk_frozen BK125.out 1
                            have hfz45_2 := blk_frozen BK125.out 2
                            have hfz45_3 := blk_frozen BK125.out 3
                            go_wp2_with (first | ((with_reducible refine gate_callee (f := 23) rfl ?_); refine goesL_ (some 37) rfl rfl Try.func23 (by kernel_rfl) rfl #[.int .i64 a0_1] rfl (by (try simp only [List.map_toArray, List.map_cons, List.map_nil]); first | done | rfl | (simp only [List.length_drop, List.length_take]; rfl)) ?_; (with_reducible refine (spec_l5Id.calls a0_1 true _ A19.out).mono ?_); rintro e w' ⟨rfl, ⟨nd, rfl⟩⟩; refine ⟨_, rfl, ?_⟩) | (go_at_call 24; (with_reducible refine (spec_l4Place.calls a0_2 true _ A22.out).mono ?_); rintro e w' ⟨rfl, ⟨nd, rfl⟩⟩) | (go_at_call 25; (with_reducible refine (spec_l3Data.calls a0_3 true _ A41.out).mono ?_); rintro e w' ⟨rfl, ⟨nd, rfl⟩⟩) | (go_at_call 23; (with_reducible refine (spec_l5Id.calls a0_3 t134 _ A44.out).mono ?_); rintro e w' ⟨rfl, ⟨nd, rfl⟩⟩))
                            go_meet
                            case rel => exact ⟨_, (!t134), (by first | rfl | (simp; done) | (simp [*]; done)), H', ⟨by have := HJ3.out; have := HJ11.out; first | omega | exact Nat.le_refl _⟩, ⟨by (with_reducible repeat (first | refine blk_drewN ?_ _ | refine blk_drew ?_ | refine blk_alloc ?_ _)); exact BK125.out⟩, ⟨by repeat (first | (with_reducible first | exact HB.out | apply below_alloc | apply pw_below_drewN | apply below_drew1 | refine below_set ?_ GE125.out) | exact HB.out)⟩⟩
                          · rw [if_neg c43] at H
                            have c43b0 : (a0_0 == 5) = false := beq_eq_false_iff_ne.mpr c43
                            have c43b1 : (a0_0 != 5) = true := bne_iff_ne.mpr c43
                            have H' := Aside0.mk H
                            clear H
                            have hcz46_0 : wc.cell? ⟨gb125, 0, none⟩ = some (.int .i64 a0_0) := (blk_cell BK125.out 0).trans rfl
                            have hcz46_1 : wc.cell? ⟨gb125, 1, none⟩ = some (.int .i64 a0_1) := (blk_cell BK125.out 1).trans rfl
                            have hcz46_2 : wc.cell? ⟨gb125, 2, none⟩ = some (.int .i64 a0_2) := (blk_cell BK125.out 2).trans rfl
                            have hcz46_3 : wc.cell? ⟨gb125, 3, none⟩ = some (.int .i64 a0_3) := (blk_cell BK125.out 3).trans rfl
                            have hfz46_0 := blk_frozen BK125.out 0
                            have hfz46_1 := blk_frozen BK125.out 1
                            have hfz46_2 := blk_frozen BK125.out 2
                            have hfz46_3 := blk_frozen BK125.out 3
                            go_wp2_with (first | ((with_reducible refine gate_callee (f := 23) rfl ?_); refine goesL_ (some 37) rfl rfl Try.func23 (by kernel_rfl) rfl #[.int .i64 a0_1] rfl (by (try simp only [List.map_toArray, List.map_cons, List.map_nil]); first | done | rfl | (simp only [List.length_drop, List.length_take]; rfl)) ?_; (with_reducible refine (spec_l5Id.calls a0_1 true _ A19.out).mono ?_); rintro e w' ⟨rfl, ⟨nd, rfl⟩⟩; refine ⟨_, rfl, ?_⟩) | (go_at_call 24; (with_reducible refine (spec_l4Place.calls a0_2 true _ A22.out).mono ?_); rintro e w' ⟨rfl, ⟨nd, rfl⟩⟩) | (go_at_call 25; (with_reducible refine (spec_l3Data.calls a0_3 true _ A41.out).mono ?_); rintro e w' ⟨rfl, ⟨nd, rfl⟩⟩))
                            go_meet
                            case rel => exact ⟨_, (false), (by first | rfl | (simp; done) | (simp [*]; done)), H', ⟨by have := HJ3.out; have := HJ11.out; first | omega | exact Nat.le_refl _⟩, ⟨by (with_reducible repeat (first | refine blk_drewN ?_ _ | refine blk_drew ?_ | refine blk_alloc ?_ _)); exact BK125.out⟩, ⟨by repeat (first | (with_reducible first | exact HB.out | apply below_alloc | apply pw_below_drewN | apply below_drew1 | refine below_set ?_ GE125.out) | exact HB.out)⟩⟩
                        · replace c42 := Bool.eq_false_iff.mpr c42
                          subst c42
                          have H1 : (spec_OpFault.j2 kj11 true x4_11 true a0_0 a0_1 a0_2 a0_3) = some r := by rw [if_neg (show ¬ (false = true) by decide)] at H; exact H
                          clear H
                          have H := H1
                          clear H1
                          have H' := Aside0.mk H
                          clear H
                          have hcz47_0 : wc.cell? ⟨gb125, 0, none⟩ = some (.int .i64 a0_0) := (blk_cell BK125.out 0).trans rfl
                          have hcz47_1 : wc.cell? ⟨gb125, 1, none⟩ = some (.int .i64 a0_1) := (blk_cell BK125.out 1).trans rfl
                          have hcz47_2 : wc.cell? ⟨gb125, 2, none⟩ = some (.int .i64 a0_2) := (blk_cell BK125.out 2).trans rfl
                          have hcz47_3 : wc.cell? ⟨gb125, 3, none⟩ = some (.int .i64 a0_3) := (blk_cell BK125.out 3).trans rfl
                          have hfz47_0 := blk_frozen BK125.out 0
                          have hfz47_1 := blk_frozen BK125.out 1
                          have hfz47_2 := blk_frozen BK125.out 2
                          have hfz47_3 := blk_frozen BK125.out 3
                          go_wp2_with (first | ((with_reducible refine gate_callee (f := 23) rfl ?_); refine goesL_ (some 37) rfl rfl Try.func23 (by kernel_rfl) rfl #[.int .i64 a0_1] rfl (by (try simp only [List.map_toArray, List.map_cons, List.map_nil]); first | done | rfl | (simp only [List.length_drop, List.length_take]; rfl)) ?_; (with_reducible refine (spec_l5Id.calls a0_1 true _ A19.out).mono ?_); rintro e w' ⟨rfl, ⟨nd, rfl⟩⟩; refine ⟨_, rfl, ?_⟩) | (go_at_call 24; (with_reducible refine (spec_l4Place.calls a0_2 true _ A22.out).mono ?_); rintro e w' ⟨rfl, ⟨nd, rfl⟩⟩) | (go_at_call 25; (with_reducible refine (spec_l3Data.calls a0_3 false _ A41.out).mono ?_); rintro e w' ⟨rfl, ⟨nd, rfl⟩⟩))
                          go_meet
                          case rel => exact ⟨_, (true), (by first | rfl | (simp; done) | (simp [*]; done)), H', ⟨by have := HJ3.out; have := HJ11.out; first | omega | exact Nat.le_refl _⟩, ⟨by (with_reducible repeat (first | refine blk_drewN ?_ _ | refine blk_drew ?_ | refine blk_alloc ?_ _)); exact BK125.out⟩, ⟨by repeat (first | (with_reducible first | exact HB.out | apply below_alloc | apply pw_below_drewN | apply below_drew1 | refine below_set ?_ GE125.out) | exact HB.out)⟩⟩
                      · rw [if_neg c40] at H
                        have c40b0 : (a0_0 == 2) = false := beq_eq_false_iff_ne.mpr c40
                        have c40b1 : (a0_0 != 2) = true := bne_iff_ne.mpr c40
                        by_cases c48 : a0_0 = 5
                        · rw [if_pos c48] at H
                          have c48b0 : (a0_0 == 5) = true := beq_iff_eq.mpr c48
                          have c48b1 : (a0_0 != 5) = false := bne_eq_false_iff_eq.mpr c48
                          clear c48
                          replace H := Option.bind_eq_some_iff.mp H
                          obtain ⟨t135, A490, H⟩ := H
                          replace H : (spec_OpFault.j2 kj11 true x4_11 (!t135) a0_0 a0_1 a0_2 a0_3) = some r := H
                          have A49 := Aside0.mk A490
                          clear A490
                          have H' := Aside0.mk H
                          clear H
                          have hcz50_0 : wc.cell? ⟨gb125, 0, none⟩ = some (.int .i64 a0_0) := (blk_cell BK125.out 0).trans rfl
                          have hcz50_1 : wc.cell? ⟨gb125, 1, none⟩ = some (.int .i64 a0_1) := (blk_cell BK125.out 1).trans rfl
                          have hcz50_2 : wc.cell? ⟨gb125, 2, none⟩ = some (.int .i64 a0_2) := (blk_cell BK125.out 2).trans rfl
                          have hcz50_3 : wc.cell? ⟨gb125, 3, none⟩ = some (.int .i64 a0_3) := (blk_cell BK125.out 3).trans rfl
                          have hfz50_0 := blk_frozen BK125.out 0
                          have hfz50_1 := blk_frozen BK125.out 1
                          have hfz50_2 := blk_frozen BK125.out 2
                          have hfz50_3 := blk_frozen BK125.out 3
                          go_wp2_with (first | ((with_reducible refine gate_callee (f := 23) rfl ?_); refine goesL_ (some 37) rfl rfl Try.func23 (by kernel_rfl) rfl #[.int .i64 a0_1] rfl (by (try simp only [List.map_toArray, List.map_cons, List.map_nil]); first | done | rfl | (simp only [List.length_drop, List.length_take]; rfl)) ?_; (with_reducible refine (spec_l5Id.calls a0_1 true _ A19.out).mono ?_); rintro e w' ⟨rfl, ⟨nd, rfl⟩⟩; refine ⟨_, rfl, ?_⟩) | (go_at_call 24; (with_reducible refine (spec_l4Place.calls a0_2 true _ A22.out).mono ?_); rintro e w' ⟨rfl, ⟨nd, rfl⟩⟩) | (go_at_call 23; (with_reducible refine (spec_l5Id.calls a0_3 t135 _ A49.out).mono ?_); rintro e w' ⟨rfl, ⟨nd, rfl⟩⟩))
                          go_meet
                          case rel => exact ⟨_, (!t135), (by first | rfl | (simp; done) | (simp [*]; done)), H', ⟨by have := HJ3.out; have := HJ11.out; first | omega | exact Nat.le_refl _⟩, ⟨by (with_reducible repeat (first | refine blk_drewN ?_ _ | refine blk_drew ?_ | refine blk_alloc ?_ _)); exact BK125.out⟩, ⟨by repeat (first | (with_reducible first | exact HB.out | apply below_alloc | apply pw_below_drewN | apply below_drew1 | refine below_set ?_ GE125.out) | exact HB.out)⟩⟩
                        · rw [if_neg c48] at H
                          have c48b0 : (a0_0 == 5) = false := beq_eq_false_iff_ne.mpr c48
                          have c48b1 : (a0_0 != 5) = true := bne_iff_ne.mpr c48
                          have H' := Aside0.mk H
                          clear H
                          have hcz51_0 : wc.cell? ⟨gb125, 0, none⟩ = some (.int .i64 a0_0) := (blk_cell BK125.out 0).trans rfl
                          have hcz51_1 : wc.cell? ⟨gb125, 1, none⟩ = some (.int .i64 a0_1) := (blk_cell BK125.out 1).trans rfl
                          have hcz51_2 : wc.cell? ⟨gb125, 2, none⟩ = some (.int .i64 a0_2) := (blk_cell BK125.out 2).trans rfl
                          have hcz51_3 : wc.cell? ⟨gb125, 3, none⟩ = some (.int .i64 a0_3) := (blk_cell BK125.out 3).trans rfl
                          have hfz51_0 := blk_frozen BK125.out 0
                          have hfz51_1 := blk_frozen BK125.out 1
                          have hfz51_2 := blk_frozen BK125.out 2
                          have hfz51_3 := blk_frozen BK125.out 3
                          go_wp2_with (first | ((with_reducible refine gate_callee (f := 23) rfl ?_); refine goesL_ (some 37) rfl rfl Try.func23 (by kernel_rfl) rfl #[.int .i64 a0_1] rfl (by (try simp only [List.map_toArray, List.map_cons, List.map_nil]); first | done | rfl | (simp only [List.length_drop, List.length_take]; rfl)) ?_; (with_reducible refine (spec_l5Id.calls a0_1 true _ A19.out).mono ?_); rintro e w' ⟨rfl, ⟨nd, rfl⟩⟩; refine ⟨_, rfl, ?_⟩) | (go_at_call 24; (with_reducible refine (spec_l4Place.calls a0_2 true _ A22.out).mono ?_); rintro e w' ⟨rfl, ⟨nd, rfl⟩⟩))
                          go_meet
                          case rel => exact ⟨_, (false), (by first | rfl | (simp; done) | (simp [*]; done)), H', ⟨by have := HJ3.out; have := HJ11.out; first | omega | exact Nat.le_refl _⟩, ⟨by (with_reducible repeat (first | refine blk_drewN ?_ _ | refine blk_drew ?_ | refine blk_alloc ?_ _)); exact BK125.out⟩, ⟨by repeat (first | (with_reducible first | exact HB.out | apply below_alloc | apply pw_below_drewN | apply below_drew1 | refine below_set ?_ GE125.out) | exact HB.out)⟩⟩
                  · replace c23 := Bool.eq_false_iff.mpr c23
                    subst c23
                    have H1 : (spec_OpFault.j2 kj11 true x4_11 true a0_0 a0_1 a0_2 a0_3) = some r := by rw [if_neg (show ¬ (false = true) by decide)] at H; exact H
                    clear H
                    have H := H1
                    clear H1
                    have H' := Aside0.mk H
                    clear H
                    have hcz52_0 : wc.cell? ⟨gb125, 0, none⟩ = some (.int .i64 a0_0) := (blk_cell BK125.out 0).trans rfl
                    have hcz52_1 : wc.cell? ⟨gb125, 1, none⟩ = some (.int .i64 a0_1) := (blk_cell BK125.out 1).trans rfl
                    have hcz52_2 : wc.cell? ⟨gb125, 2, none⟩ = some (.int .i64 a0_2) := (blk_cell BK125.out 2).trans rfl
                    have hcz52_3 : wc.cell? ⟨gb125, 3, none⟩ = some (.int .i64 a0_3) := (blk_cell BK125.out 3).trans rfl
                    have hfz52_0 := blk_frozen BK125.out 0
                    have hfz52_1 := blk_frozen BK125.out 1
                    have hfz52_2 := blk_frozen BK125.out 2
                    have hfz52_3 := blk_frozen BK125.out 3
                    go_wp2_with (first | ((with_reducible refine gate_callee (f := 23) rfl ?_); refine goesL_ (some 37) rfl rfl Try.func23 (by kernel_rfl) rfl #[.int .i64 a0_1] rfl (by (try simp only [List.map_toArray, List.map_cons, List.map_nil]); first | done | rfl | (simp only [List.length_drop, List.length_take]; rfl)) ?_; (with_reducible refine (spec_l5Id.calls a0_1 true _ A19.out).mono ?_); rintro e w' ⟨rfl, ⟨nd, rfl⟩⟩; refine ⟨_, rfl, ?_⟩) | (go_at_call 24; (with_reducible refine (spec_l4Place.calls a0_2 false _ A22.out).mono ?_); rintro e w' ⟨rfl, ⟨nd, rfl⟩⟩))
                    go_meet
                    case rel => exact ⟨_, (true), (by first | rfl | (simp; done) | (simp [*]; done)), H', ⟨by have := HJ3.out; have := HJ11.out; first | omega | exact Nat.le_refl _⟩, ⟨by (with_reducible repeat (first | refine blk_drewN ?_ _ | refine blk_drew ?_ | refine blk_alloc ?_ _)); exact BK125.out⟩, ⟨by repeat (first | (with_reducible first | exact HB.out | apply below_alloc | apply pw_below_drewN | apply below_drew1 | refine below_set ?_ GE125.out) | exact HB.out)⟩⟩
                · replace c21 := Bool.eq_false_iff.mpr c21
                  subst c21
                  have H1 : (if a0_0 = 1 then ((spec_l1In.f a0_3 1 16).bind fun t136 => (if t136 = true then (if a0_0 = 2 then ((spec_l3Data.f a0_3).bind fun t137 => (if t137 = true then (if a0_0 = 5 then ((spec_l5Id.f a0_3).bind fun t138 => (spec_OpFault.j2 kj11 false x4_11 (!t138) a0_0 a0_1 a0_2 a0_3)) else (spec_OpFault.j2 kj11 false x4_11 false a0_0 a0_1 a0_2 a0_3)) else (spec_OpFault.j2 kj11 false x4_11 true a0_0 a0_1 a0_2 a0_3))) else (if a0_0 = 5 then ((spec_l5Id.f a0_3).bind fun t139 => (spec_OpFault.j2 kj11 false x4_11 (!t139) a0_0 a0_1 a0_2 a0_3)) else (spec_OpFault.j2 kj11 false x4_11 false a0_0 a0_1 a0_2 a0_3))) else (spec_OpFault.j2 kj11 false x4_11 true a0_0 a0_1 a0_2 a0_3))) else (if a0_0 = 2 then ((spec_l3Data.f a0_3).bind fun t140 => (if t140 = true then (if a0_0 = 5 then ((spec_l5Id.f a0_3).bind fun t141 => (spec_OpFault.j2 kj11 false x4_11 (!t141) a0_0 a0_1 a0_2 a0_3)) else (spec_OpFault.j2 kj11 false x4_11 false a0_0 a0_1 a0_2 a0_3)) else (spec_OpFault.j2 kj11 false x4_11 true a0_0 a0_1 a0_2 a0_3))) else (if a0_0 = 5 then ((spec_l5Id.f a0_3).bind fun t142 => (spec_OpFault.j2 kj11 false x4_11 (!t142) a0_0 a0_1 a0_2 a0_3)) else (spec_OpFault.j2 kj11 false x4_11 false a0_0 a0_1 a0_2 a0_3)))) = some r := by rw [if_neg (show ¬ (false = true) by decide)] at H; exact H
                  clear H
                  have H := H1
                  clear H1
                  by_cases c53 : a0_0 = 1
                  · rw [if_pos c53] at H
                    have c53b0 : (a0_0 == 1) = true := beq_iff_eq.mpr c53
                    have c53b1 : (a0_0 != 1) = false := bne_eq_false_iff_eq.mpr c53
                    clear c53
                    replace H := Option.bind_eq_some_iff.mp H
                    obtain ⟨t136, A540, H⟩ := H
                    replace H : (if t136 = true then (if a0_0 = 2 then ((spec_l3Data.f a0_3).bind fun t137 => (if t137 = true then (if a0_0 = 5 then ((spec_l5Id.f a0_3).bind fun t138 => (spec_OpFault.j2 kj11 false x4_11 (!t138) a0_0 a0_1 a0_2 a0_3)) else (spec_OpFault.j2 kj11 false x4_11 false a0_0 a0_1 a0_2 a0_3)) else (spec_OpFault.j2 kj11 false x4_11 true a0_0 a0_1 a0_2 a0_3))) else (if a0_0 = 5 then ((spec_l5Id.f a0_3).bind fun t139 => (spec_OpFault.j2 kj11 false x4_11 (!t139) a0_0 a0_1 a0_2 a0_3)) else (spec_OpFault.j2 kj11 false x4_11 false a0_0 a0_1 a0_2 a0_3))) else (spec_OpFault.j2 kj11 false x4_11 true a0_0 a0_1 a0_2 a0_3)) = some r := H
                    have A54 := Aside0.mk A540
                    clear A540
                    by_cases c55 : t136 = true
                    · subst c55
                      have H1 : (if a0_0 = 2 then ((spec_l3Data.f a0_3).bind fun t137 => (if t137 = true then (if a0_0 = 5 then ((spec_l5Id.f a0_3).bind fun t138 => (spec_OpFault.j2 kj11 false x4_11 (!t138) a0_0 a0_1 a0_2 a0_3)) else (spec_OpFault.j2 kj11 false x4_11 false a0_0 a0_1 a0_2 a0_3)) else (spec_OpFault.j2 kj11 false x4_11 true a0_0 a0_1 a0_2 a0_3))) else (if a0_0 = 5 then ((spec_l5Id.f a0_3).bind fun t139 => (spec_OpFault.j2 kj11 false x4_11 (!t139) a0_0 a0_1 a0_2 a0_3)) else (spec_OpFault.j2 kj11 false x4_11 false a0_0 a0_1 a0_2 a0_3))) = some r := by rw [if_pos rfl] at H; exact H
                      clear H
                      have H := H1
                      clear H1
                      by_cases c56 : a0_0 = 2
                      · rw [if_pos c56] at H
                        have c56b0 : (a0_0 == 2) = true := beq_iff_eq.mpr c56
                        have c56b1 : (a0_0 != 2) = false := bne_eq_false_iff_eq.mpr c56
                        clear c56
                        replace H := Option.bind_eq_some_iff.mp H
                        obtain ⟨t137, A570, H⟩ := H
                        replace H : (if t137 = true then (if a0_0 = 5 then ((spec_l5Id.f a0_3).bind fun t138 => (spec_OpFault.j2 kj11 false x4_11 (!t138) a0_0 a0_1 a0_2 a0_3)) else (spec_OpFault.j2 kj11 false x4_11 false a0_0 a0_1 a0_2 a0_3)) else (spec_OpFault.j2 kj11 false x4_11 true a0_0 a0_1 a0_2 a0_3)) = some r := H
                        have A57 := Aside0.mk A570
                        clear A570
                        by_cases c58 : t137 = true
                        · subst c58
                          have H1 : (if a0_0 = 5 then ((spec_l5Id.f a0_3).bind fun t138 => (spec_OpFault.j2 kj11 false x4_11 (!t138) a0_0 a0_1 a0_2 a0_3)) else (spec_OpFault.j2 kj11 false x4_11 false a0_0 a0_1 a0_2 a0_3)) = some r := by rw [if_pos rfl] at H; exact H
                          clear H
                          have H := H1
                          clear H1
                          by_cases c59 : a0_0 = 5
                          · rw [if_pos c59] at H
                            have c59b0 : (a0_0 == 5) = true := beq_iff_eq.mpr c59
                            have c59b1 : (a0_0 != 5) = false := bne_eq_false_iff_eq.mpr c59
                            clear c59
                            replace H := Option.bind_eq_some_iff.mp H
                            obtain ⟨t138, A600, H⟩ := H
                            replace H : (spec_OpFault.j2 kj11 false x4_11 (!t138) a0_0 a0_1 a0_2 a0_3) = some r := H
                            have A60 := Aside0.mk A600
                            clear A600
                            have H' := Aside0.mk H
                            clear H
                            have hcz61_0 : wc.cell? ⟨gb125, 0, none⟩ = some (.int .i64 a0_0) := (blk_cell BK125.out 0).trans rfl
                            have hcz61_1 : wc.cell? ⟨gb125, 1, none⟩ = some (.int .i64 a0_1) := (blk_cell BK125.out 1).trans rfl
                            have hcz61_2 : wc.cell? ⟨gb125, 2, none⟩ = some (.int .i64 a0_2) := (blk_cell BK125.out 2).trans rfl
                            have hcz61_3 : wc.cell? ⟨gb125, 3, none⟩ = some (.int .i64 a0_3) := (blk_cell BK125.out 3).trans rfl
                            have hfz61_0 := blk_frozen BK125.out 0
                            have hfz61_1 := blk_frozen BK125.out 1
                            have hfz61_2 := blk_frozen BK125.out 2
                            have hfz61_3 := blk_frozen BK125.out 3
                            go_wp2_with (first | ((with_reducible refine gate_callee (f := 23) rfl ?_); refine goesL_ (some 37) rfl rfl Try.func23 (by kernel_rfl) rfl #[.int .i64 a0_1] rfl (by (try simp only [List.map_toArray, List.map_cons, List.map_nil]); first | done | rfl | (simp only [List.length_drop, List.length_take]; rfl)) ?_; (with_reducible refine (spec_l5Id.calls a0_1 true _ A19.out).mono ?_); rintro e w' ⟨rfl, ⟨nd, rfl⟩⟩; refine ⟨_, rfl, ?_⟩) | (go_at_call 22; (with_reducible refine (spec_l1In.calls a0_3 1 16 true _ A54.out).mono ?_); rintro e w' ⟨rfl, ⟨nd, rfl⟩⟩) | (go_at_call 25; (with_reducible refine (spec_l3Data.calls a0_3 true _ A57.out).mono ?_); rintro e w' ⟨rfl, ⟨nd, rfl⟩⟩) | (go_at_call 23; (with_reducible refine (spec_l5Id.calls a0_3 t138 _ A60.out).mono ?_); rintro e w' ⟨rfl, ⟨nd, rfl⟩⟩))
                            go_meet
                            case rel => exact ⟨_, (!t138), (by first | rfl | (simp; done) | (simp [*]; done)), H', ⟨by have := HJ3.out; have := HJ11.out; first | omega | exact Nat.le_refl _⟩, ⟨by (with_reducible repeat (first | refine blk_drewN ?_ _ | refine blk_drew ?_ | refine blk_alloc ?_ _)); exact BK125.out⟩, ⟨by repeat (first | (with_reducible first | exact HB.out | apply below_alloc | apply pw_below_drewN | apply below_drew1 | refine below_set ?_ GE125.out) | exact HB.out)⟩⟩
                          · rw [if_neg c59] at H
                            have c59b0 : (a0_0 == 5) = false := beq_eq_false_iff_ne.mpr c59
                            have c59b1 : (a0_0 != 5) = true := bne_iff_ne.mpr c59
                            have H' := Aside0.mk H
                            clear H
                            have hcz62_0 : wc.cell? ⟨gb125, 0, none⟩ = some (.int .i64 a0_0) := (blk_cell BK125.out 0).trans rfl
                            have hcz62_1 : wc.cell? ⟨gb125, 1, none⟩ = some (.int .i64 a0_1) := (blk_cell BK125.out 1).trans rfl
                            have hcz62_2 : wc.cell? ⟨gb125, 2, none⟩ = some (.int .i64 a0_2) := (blk_cell BK125.out 2).trans rfl
                            have hcz62_3 : wc.cell? ⟨gb125, 3, none⟩ = some (.int .i64 a0_3) := (blk_cell BK125.out 3).trans rfl
                            have hfz62_0 := blk_frozen BK125.out 0
                            have hfz62_1 := blk_frozen BK125.out 1
                            have hfz62_2 := blk_frozen BK125.out 2
                            have hfz62_3 := blk_frozen BK125.out 3
                            go_wp2_with (first | ((with_reducible refine gate_callee (f := 23) rfl ?_); refine goesL_ (some 37) rfl rfl Try.func23 (by kernel_rfl) rfl #[.int .i64 a0_1] rfl (by (try simp only [List.map_toArray, List.map_cons, List.map_nil]); first | done | rfl | (simp only [List.length_drop, List.length_take]; rfl)) ?_; (with_reducible refine (spec_l5Id.calls a0_1 true _ A19.out).mono ?_); rintro e w' ⟨rfl, ⟨nd, rfl⟩⟩; refine ⟨_, rfl, ?_⟩) | (go_at_call 22; (with_reducible refine (spec_l1In.calls a0_3 1 16 true _ A54.out).mono ?_); rintro e w' ⟨rfl, ⟨nd, rfl⟩⟩) | (go_at_call 25; (with_reducible refine (spec_l3Data.calls a0_3 true _ A57.out).mono ?_); rintro e w' ⟨rfl, ⟨nd, rfl⟩⟩))
                            go_meet
                            case rel => exact ⟨_, (false), (by first | rfl | (simp; done) | (simp [*]; done)), H', ⟨by have := HJ3.out; have := HJ11.out; first | omega | exact Nat.le_refl _⟩, ⟨by (with_reducible repeat (first | refine blk_drewN ?_ _ | refine blk_drew ?_ | refine blk_alloc ?_ _)); exact BK125.out⟩, ⟨by repeat (first | (with_reducible first | exact HB.out | apply below_alloc | apply pw_below_drewN | apply below_drew1 | refine below_set ?_ GE125.out) | exact HB.out)⟩⟩
                        · replace c58 := Bool.eq_false_iff.mpr c58
                          subst c58
                          have H1 : (spec_OpFault.j2 kj11 false x4_11 true a0_0 a0_1 a0_2 a0_3) = some r := by rw [if_neg (show ¬ (false = true) by decide)] at H; exact H
                          clear H
                          have H := H1
                          clear H1
                          have H' := Aside0.mk H
                          clear H
                          have hcz63_0 : wc.cell? ⟨gb125, 0, none⟩ = some (.int .i64 a0_0) := (blk_cell BK125.out 0).trans rfl
                          have hcz63_1 : wc.cell? ⟨gb125, 1, none⟩ = some (.int .i64 a0_1) := (blk_cell BK125.out 1).trans rfl
                          have hcz63_2 : wc.cell? ⟨gb125, 2, none⟩ = some (.int .i64 a0_2) := (blk_cell BK125.out 2).trans rfl
                          have hcz63_3 : wc.cell? ⟨gb125, 3, none⟩ = some (.int .i64 a0_3) := (blk_cell BK125.out 3).trans rfl
                          have hfz63_0 := blk_frozen BK125.out 0
                          have hfz63_1 := blk_frozen BK125.out 1
                          have hfz63_2 := blk_frozen BK125.out 2
                          have hfz63_3 := blk_frozen BK125.out 3
                          go_wp2_with (first | ((with_reducible refine gate_callee (f := 23) rfl ?_); refine goesL_ (some 37) rfl rfl Try.func23 (by kernel_rfl) rfl #[.int .i64 a0_1] rfl (by (try simp only [List.map_toArray, List.map_cons, List.map_nil]); first | done | rfl | (simp only [List.length_drop, List.length_take]; rfl)) ?_; (with_reducible refine (spec_l5Id.calls a0_1 true _ A19.out).mono ?_); rintro e w' ⟨rfl, ⟨nd, rfl⟩⟩; refine ⟨_, rfl, ?_⟩) | (go_at_call 22; (with_reducible refine (spec_l1In.calls a0_3 1 16 true _ A54.out).mono ?_); rintro e w' ⟨rfl, ⟨nd, rfl⟩⟩) | (go_at_call 25; (with_reducible refine (spec_l3Data.calls a0_3 false _ A57.out).mono ?_); rintro e w' ⟨rfl, ⟨nd, rfl⟩⟩))
                          go_meet
                          case rel => exact ⟨_, (true), (by first | rfl | (simp; done) | (simp [*]; done)), H', ⟨by have := HJ3.out; have := HJ11.out; first | omega | exact Nat.le_refl _⟩, ⟨by (with_reducible repeat (first | refine blk_drewN ?_ _ | refine blk_drew ?_ | refine blk_alloc ?_ _)); exact BK125.out⟩, ⟨by repeat (first | (with_reducible first | exact HB.out | apply below_alloc | apply pw_below_drewN | apply below_drew1 | refine below_set ?_ GE125.out) | exact HB.out)⟩⟩
                      · rw [if_neg c56] at H
                        have c56b0 : (a0_0 == 2) = false := beq_eq_false_iff_ne.mpr c56
                        have c56b1 : (a0_0 != 2) = true := bne_iff_ne.mpr c56
                        by_cases c64 : a0_0 = 5
                        · rw [if_pos c64] at H
                          have c64b0 : (a0_0 == 5) = true := beq_iff_eq.mpr c64
                          have c64b1 : (a0_0 != 5) = false := bne_eq_false_iff_eq.mpr c64
                          clear c64
                          replace H := Option.bind_eq_some_iff.mp H
                          obtain ⟨t139, A650, H⟩ := H
                          replace H : (spec_OpFault.j2 kj11 false x4_11 (!t139) a0_0 a0_1 a0_2 a0_3) = some r := H
                          have A65 := Aside0.mk A650
                          clear A650
                          have H' := Aside0.mk H
                          clear H
                          have hcz66_0 : wc.cell? ⟨gb125, 0, none⟩ = some (.int .i64 a0_0) := (blk_cell BK125.out 0).trans rfl
                          have hcz66_1 : wc.cell? ⟨gb125, 1, none⟩ = some (.int .i64 a0_1) := (blk_cell BK125.out 1).trans rfl
                          have hcz66_2 : wc.cell? ⟨gb125, 2, none⟩ = some (.int .i64 a0_2) := (blk_cell BK125.out 2).trans rfl
                          have hcz66_3 : wc.cell? ⟨gb125, 3, none⟩ = some (.int .i64 a0_3) := (blk_cell BK125.out 3).trans rfl
                          have hfz66_0 := blk_frozen BK125.out 0
                          have hfz66_1 := blk_frozen BK125.out 1
                          have hfz66_2 := blk_frozen BK125.out 2
                          have hfz66_3 := blk_frozen BK125.out 3
                          go_wp2_with (first | ((with_reducible refine gate_callee (f := 23) rfl ?_); refine goesL_ (some 37) rfl rfl Try.func23 (by kernel_rfl) rfl #[.int .i64 a0_1] rfl (by (try simp only [List.map_toArray, List.map_cons, List.map_nil]); first | done | rfl | (simp only [List.length_drop, List.length_take]; rfl)) ?_; (with_reducible refine (spec_l5Id.calls a0_1 true _ A19.out).mono ?_); rintro e w' ⟨rfl, ⟨nd, rfl⟩⟩; refine ⟨_, rfl, ?_⟩) | (go_at_call 22; (with_reducible refine (spec_l1In.calls a0_3 1 16 true _ A54.out).mono ?_); rintro e w' ⟨rfl, ⟨nd, rfl⟩⟩) | (go_at_call 23; (with_reducible refine (spec_l5Id.calls a0_3 t139 _ A65.out).mono ?_); rintro e w' ⟨rfl, ⟨nd, rfl⟩⟩))
                          go_meet
                          case rel => exact ⟨_, (!t139), (by first | rfl | (simp; done) | (simp [*]; done)), H', ⟨by have := HJ3.out; have := HJ11.out; first | omega | exact Nat.le_refl _⟩, ⟨by (with_reducible repeat (first | refine blk_drewN ?_ _ | refine blk_drew ?_ | refine blk_alloc ?_ _)); exact BK125.out⟩, ⟨by repeat (first | (with_reducible first | exact HB.out | apply below_alloc | apply pw_below_drewN | apply below_drew1 | refine below_set ?_ GE125.out) | exact HB.out)⟩⟩
                        · rw [if_neg c64] at H
                          have c64b0 : (a0_0 == 5) = false := beq_eq_false_iff_ne.mpr c64
                          have c64b1 : (a0_0 != 5) = true := bne_iff_ne.mpr c64
                          have H' := Aside0.mk H
                          clear H
                          have hcz67_0 : wc.cell? ⟨gb125, 0, none⟩ = some (.int .i64 a0_0) := (blk_cell BK125.out 0).trans rfl
                          have hcz67_1 : wc.cell? ⟨gb125, 1, none⟩ = some (.int .i64 a0_1) := (blk_cell BK125.out 1).trans rfl
                          have hcz67_2 : wc.cell? ⟨gb125, 2, none⟩ = some (.int .i64 a0_2) := (blk_cell BK125.out 2).trans rfl
                          have hcz67_3 : wc.cell? ⟨gb125, 3, none⟩ = some (.int .i64 a0_3) := (blk_cell BK125.out 3).trans rfl
                          have hfz67_0 := blk_frozen BK125.out 0
                          have hfz67_1 := blk_frozen BK125.out 1
                          have hfz67_2 := blk_frozen BK125.out 2
                          have hfz67_3 := blk_frozen BK125.out 3
                          go_wp2_with (first | ((with_reducible refine gate_callee (f := 23) rfl ?_); refine goesL_ (some 37) rfl rfl Try.func23 (by kernel_rfl) rfl #[.int .i64 a0_1] rfl (by (try simp only [List.map_toArray, List.map_cons, List.map_nil]); first | done | rfl | (simp only [List.length_drop, List.length_take]; rfl)) ?_; (with_reducible refine (spec_l5Id.calls a0_1 true _ A19.out).mono ?_); rintro e w' ⟨rfl, ⟨nd, rfl⟩⟩; refine ⟨_, rfl, ?_⟩) | (go_at_call 22; (with_reducible refine (spec_l1In.calls a0_3 1 16 true _ A54.out).mono ?_); rintro e w' ⟨rfl, ⟨nd, rfl⟩⟩))
                          go_meet
                          case rel => exact ⟨_, (false), (by first | rfl | (simp; done) | (simp [*]; done)), H', ⟨by have := HJ3.out; have := HJ11.out; first | omega | exact Nat.le_refl _⟩, ⟨by (with_reducible repeat (first | refine blk_drewN ?_ _ | refine blk_drew ?_ | refine blk_alloc ?_ _)); exact BK125.out⟩, ⟨by repeat (first | (with_reducible first | exact HB.out | apply below_alloc | apply pw_below_drewN | apply below_drew1 | refine below_set ?_ GE125.out) | exact HB.out)⟩⟩
                    · replace c55 := Bool.eq_false_iff.mpr c55
                      subst c55
                      have H1 : (spec_OpFault.j2 kj11 false x4_11 true a0_0 a0_1 a0_2 a0_3) = some r := by rw [if_neg (show ¬ (false = true) by decide)] at H; exact H
                      clear H
                      have H := H1
                      clear H1
                      have H' := Aside0.mk H
                      clear H
                      have hcz68_0 : wc.cell? ⟨gb125, 0, none⟩ = some (.int .i64 a0_0) := (blk_cell BK125.out 0).trans rfl
                      have hcz68_1 : wc.cell? ⟨gb125, 1, none⟩ = some (.int .i64 a0_1) := (blk_cell BK125.out 1).trans rfl
                      have hcz68_2 : wc.cell? ⟨gb125, 2, none⟩ = some (.int .i64 a0_2) := (blk_cell BK125.out 2).trans rfl
                      have hcz68_3 : wc.cell? ⟨gb125, 3, none⟩ = some (.int .i64 a0_3) := (blk_cell BK125.out 3).trans rfl
                      have hfz68_0 := blk_frozen BK125.out 0
                      have hfz68_1 := blk_frozen BK125.out 1
                      have hfz68_2 := blk_frozen BK125.out 2
                      have hfz68_3 := blk_frozen BK125.out 3
                      go_wp2_with (first | ((with_reducible refine gate_callee (f := 23) rfl ?_); refine goesL_ (some 37) rfl rfl Try.func23 (by kernel_rfl) rfl #[.int .i64 a0_1] rfl (by (try simp only [List.map_toArray, List.map_cons, List.map_nil]); first | done | rfl | (simp only [List.length_drop, List.length_take]; rfl)) ?_; (with_reducible refine (spec_l5Id.calls a0_1 true _ A19.out).mono ?_); rintro e w' ⟨rfl, ⟨nd, rfl⟩⟩; refine ⟨_, rfl, ?_⟩) | (go_at_call 22; (with_reducible refine (spec_l1In.calls a0_3 1 16 false _ A54.out).mono ?_); rintro e w' ⟨rfl, ⟨nd, rfl⟩⟩))
                      go_meet
                      case rel => exact ⟨_, (true), (by first | rfl | (simp; done) | (simp [*]; done)), H', ⟨by have := HJ3.out; have := HJ11.out; first | omega | exact Nat.le_refl _⟩, ⟨by (with_reducible repeat (first | refine blk_drewN ?_ _ | refine blk_drew ?_ | refine blk_alloc ?_ _)); exact BK125.out⟩, ⟨by repeat (first | (with_reducible first | exact HB.out | apply below_alloc | apply pw_below_drewN | apply below_drew1 | refine below_set ?_ GE125.out) | exact HB.out)⟩⟩
                  · rw [if_neg c53] at H
                    have c53b0 : (a0_0 == 1) = false := beq_eq_false_iff_ne.mpr c53
                    have c53b1 : (a0_0 != 1) = true := bne_iff_ne.mpr c53
                    by_cases c69 : a0_0 = 2
                    · rw [if_pos c69] at H
                      have c69b0 : (a0_0 == 2) = true := beq_iff_eq.mpr c69
                      have c69b1 : (a0_0 != 2) = false := bne_eq_false_iff_eq.mpr c69
                      clear c69
                      replace H := Option.bind_eq_some_iff.mp H
                      obtain ⟨t140, A700, H⟩ := H
                      replace H : (if t140 = true then (if a0_0 = 5 then ((spec_l5Id.f a0_3).bind fun t141 => (spec_OpFault.j2 kj11 false x4_11 (!t141) a0_0 a0_1 a0_2 a0_3)) else (spec_OpFault.j2 kj11 false x4_11 false a0_0 a0_1 a0_2 a0_3)) else (spec_OpFault.j2 kj11 false x4_11 true a0_0 a0_1 a0_2 a0_3)) = some r := H
                      have A70 := Aside0.mk A700
                      clear A700
                      by_cases c71 : t140 = true
                      · subst c71
                        have H1 : (if a0_0 = 5 then ((spec_l5Id.f a0_3).bind fun t141 => (spec_OpFault.j2 kj11 false x4_11 (!t141) a0_0 a0_1 a0_2 a0_3)) else (spec_OpFault.j2 kj11 false x4_11 false a0_0 a0_1 a0_2 a0_3)) = some r := by rw [if_pos rfl] at H; exact H
                        clear H
                        have H := H1
                        clear H1
                        by_cases c72 : a0_0 = 5
                        · rw [if_pos c72] at H
                          have c72b0 : (a0_0 == 5) = true := beq_iff_eq.mpr c72
                          have c72b1 : (a0_0 != 5) = false := bne_eq_false_iff_eq.mpr c72
                          clear c72
                          replace H := Option.bind_eq_some_iff.mp H
                          obtain ⟨t141, A730, H⟩ := H
                          replace H : (spec_OpFault.j2 kj11 false x4_11 (!t141) a0_0 a0_1 a0_2 a0_3) = some r := H
                          have A73 := Aside0.mk A730
                          clear A730
                          have H' := Aside0.mk H
                          clear H
                          have hcz74_0 : wc.cell? ⟨gb125, 0, none⟩ = some (.int .i64 a0_0) := (blk_cell BK125.out 0).trans rfl
                          have hcz74_1 : wc.cell? ⟨gb125, 1, none⟩ = some (.int .i64 a0_1) := (blk_cell BK125.out 1).trans rfl
                          have hcz74_2 : wc.cell? ⟨gb125, 2, none⟩ = some (.int .i64 a0_2) := (blk_cell BK125.out 2).trans rfl
                          have hcz74_3 : wc.cell? ⟨gb125, 3, none⟩ = some (.int .i64 a0_3) := (blk_cell BK125.out 3).trans rfl
                          have hfz74_0 := blk_frozen BK125.out 0
                          have hfz74_1 := blk_frozen BK125.out 1
                          have hfz74_2 := blk_frozen BK125.out 2
                          have hfz74_3 := blk_frozen BK125.out 3
                          go_wp2_with (first | ((with_reducible refine gate_callee (f := 23) rfl ?_); refine goesL_ (some 37) rfl rfl Try.func23 (by kernel_rfl) rfl #[.int .i64 a0_1] rfl (by (try simp only [List.map_toArray, List.map_cons, List.map_nil]); first | done | rfl | (simp only [List.length_drop, List.length_take]; rfl)) ?_; (with_reducible refine (spec_l5Id.calls a0_1 true _ A19.out).mono ?_); rintro e w' ⟨rfl, ⟨nd, rfl⟩⟩; refine ⟨_, rfl, ?_⟩) | (go_at_call 25; (with_reducible refine (spec_l3Data.calls a0_3 true _ A70.out).mono ?_); rintro e w' ⟨rfl, ⟨nd, rfl⟩⟩) | (go_at_call 23; (with_reducible refine (spec_l5Id.calls a0_3 t141 _ A73.out).mono ?_); rintro e w' ⟨rfl, ⟨nd, rfl⟩⟩))
                          go_meet
                          case rel => exact ⟨_, (!t141), (by first | rfl | (simp; done) | (simp [*]; done)), H', ⟨by have := HJ3.out; have := HJ11.out; first | omega | exact Nat.le_refl _⟩, ⟨by (with_reducible repeat (first | refine blk_drewN ?_ _ | refine blk_drew ?_ | refine blk_alloc ?_ _)); exact BK125.out⟩, ⟨by repeat (first | (with_reducible first | exact HB.out | apply below_alloc | apply pw_below_drewN | apply below_drew1 | refine below_set ?_ GE125.out) | exact HB.out)⟩⟩
                        · rw [if_neg c72] at H
                          have c72b0 : (a0_0 == 5) = false := beq_eq_false_iff_ne.mpr c72
                          have c72b1 : (a0_0 != 5) = true := bne_iff_ne.mpr c72
                          have H' := Aside0.mk H
                          clear H
                          have hcz75_0 : wc.cell? ⟨gb125, 0, none⟩ = some (.int .i64 a0_0) := (blk_cell BK125.out 0).trans rfl
                          have hcz75_1 : wc.cell? ⟨gb125, 1, none⟩ = some (.int .i64 a0_1) := (blk_cell BK125.out 1).trans rfl
                          have hcz75_2 : wc.cell? ⟨gb125, 2, none⟩ = some (.int .i64 a0_2) := (blk_cell BK125.out 2).trans rfl
                          have hcz75_3 : wc.cell? ⟨gb125, 3, none⟩ = some (.int .i64 a0_3) := (blk_cell BK125.out 3).trans rfl
                          have hfz75_0 := blk_frozen BK125.out 0
                          have hfz75_1 := blk_frozen BK125.out 1
                          have hfz75_2 := blk_frozen BK125.out 2
                          have hfz75_3 := blk_frozen BK125.out 3
                          go_wp2_with (first | ((with_reducible refine gate_callee (f := 23) rfl ?_); refine goesL_ (some 37) rfl rfl Try.func23 (by kernel_rfl) rfl #[.int .i64 a0_1] rfl (by (try simp only [List.map_toArray, List.map_cons, List.map_nil]); first | done | rfl | (simp only [List.length_drop, List.length_take]; rfl)) ?_; (with_reducible refine (spec_l5Id.calls a0_1 true _ A19.out).mono ?_); rintro e w' ⟨rfl, ⟨nd, rfl⟩⟩; refine ⟨_, rfl, ?_⟩) | (go_at_call 25; (with_reducible refine (spec_l3Data.calls a0_3 true _ A70.out).mono ?_); rintro e w' ⟨rfl, ⟨nd, rfl⟩⟩))
                          go_meet
                          case rel => exact ⟨_, (false), (by first | rfl | (simp; done) | (simp [*]; done)), H', ⟨by have := HJ3.out; have := HJ11.out; first | omega | exact Nat.le_refl _⟩, ⟨by (with_reducible repeat (first | refine blk_drewN ?_ _ | refine blk_drew ?_ | refine blk_alloc ?_ _)); exact BK125.out⟩, ⟨by repeat (first | (with_reducible first | exact HB.out | apply below_alloc | apply pw_below_drewN | apply below_drew1 | refine below_set ?_ GE125.out) | exact HB.out)⟩⟩
                      · replace c71 := Bool.eq_false_iff.mpr c71
                        subst c71
                        have H1 : (spec_OpFault.j2 kj11 false x4_11 true a0_0 a0_1 a0_2 a0_3) = some r := by rw [if_neg (show ¬ (false = true) by decide)] at H; exact H
                        clear H
                        have H := H1
                        clear H1
                        have H' := Aside0.mk H
                        clear H
                        have hcz76_0 : wc.cell? ⟨gb125, 0, none⟩ = some (.int .i64 a0_0) := (blk_cell BK125.out 0).trans rfl
                        have hcz76_1 : wc.cell? ⟨gb125, 1, none⟩ = some (.int .i64 a0_1) := (blk_cell BK125.out 1).trans rfl
                        have hcz76_2 : wc.cell? ⟨gb125, 2, none⟩ = some (.int .i64 a0_2) := (blk_cell BK125.out 2).trans rfl
                        have hcz76_3 : wc.cell? ⟨gb125, 3, none⟩ = some (.int .i64 a0_3) := (blk_cell BK125.out 3).trans rfl
                        have hfz76_0 := blk_frozen BK125.out 0
                        have hfz76_1 := blk_frozen BK125.out 1
                        have hfz76_2 := blk_frozen BK125.out 2
                        have hfz76_3 := blk_frozen BK125.out 3
                        go_wp2_with (first | ((with_reducible refine gate_callee (f := 23) rfl ?_); refine goesL_ (some 37) rfl rfl Try.func23 (by kernel_rfl) rfl #[.int .i64 a0_1] rfl (by (try simp only [List.map_toArray, List.map_cons, List.map_nil]); first | done | rfl | (simp only [List.length_drop, List.length_take]; rfl)) ?_; (with_reducible refine (spec_l5Id.calls a0_1 true _ A19.out).mono ?_); rintro e w' ⟨rfl, ⟨nd, rfl⟩⟩; refine ⟨_, rfl, ?_⟩) | (go_at_call 25; (with_reducible refine (spec_l3Data.calls a0_3 false _ A70.out).mono ?_); rintro e w' ⟨rfl, ⟨nd, rfl⟩⟩))
                        go_meet
                        case rel => exact ⟨_, (true), (by first | rfl | (simp; done) | (simp [*]; done)), H', ⟨by have := HJ3.out; have := HJ11.out; first | omega | exact Nat.le_refl _⟩, ⟨by (with_reducible repeat (first | refine blk_drewN ?_ _ | refine blk_drew ?_ | refine blk_alloc ?_ _)); exact BK125.out⟩, ⟨by repeat (first | (with_reducible first | exact HB.out | apply below_alloc | apply pw_below_drewN | apply below_drew1 | refine below_set ?_ GE125.out) | exact HB.out)⟩⟩
                    · rw [if_neg c69] at H
                      have c69b0 : (a0_0 == 2) = false := beq_eq_false_iff_ne.mpr c69
                      have c69b1 : (a0_0 != 2) = true := bne_iff_ne.mpr c69
                      by_cases c77 : a0_0 = 5
                      · rw [if_pos c77] at H
                        have c77b0 : (a0_0 == 5) = true := beq_iff_eq.mpr c77
                        have c77b1 : (a0_0 != 5) = false := bne_eq_false_iff_eq.mpr c77
                        clear c77
                        replace H := Option.bind_eq_some_iff.mp H
                        obtain ⟨t142, A780, H⟩ := H
                        replace H : (spec_OpFault.j2 kj11 false x4_11 (!t142) a0_0 a0_1 a0_2 a0_3) = some r := H
                        have A78 := Aside0.mk A780
                        clear A780
                        have H' := Aside0.mk H
                        clear H
                        have hcz79_0 : wc.cell? ⟨gb125, 0, none⟩ = some (.int .i64 a0_0) := (blk_cell BK125.out 0).trans rfl
                        have hcz79_1 : wc.cell? ⟨gb125, 1, none⟩ = some (.int .i64 a0_1) := (blk_cell BK125.out 1).trans rfl
                        have hcz79_2 : wc.cell? ⟨gb125, 2, none⟩ = some (.int .i64 a0_2) := (blk_cell BK125.out 2).trans rfl
                        have hcz79_3 : wc.cell? ⟨gb125, 3, none⟩ = some (.int .i64 a0_3) := (blk_cell BK125.out 3).trans rfl
                        have hfz79_0 := blk_frozen BK125.out 0
                        have hfz79_1 := blk_frozen BK125.out 1
                        have hfz79_2 := blk_frozen BK125.out 2
                        have hfz79_3 := blk_frozen BK125.out 3
                        go_wp2_with (first | ((with_reducible refine gate_callee (f := 23) rfl ?_); refine goesL_ (some 37) rfl rfl Try.func23 (by kernel_rfl) rfl #[.int .i64 a0_1] rfl (by (try simp only [List.map_toArray, List.map_cons, List.map_nil]); first | done | rfl | (simp only [List.length_drop, List.length_take]; rfl)) ?_; (with_reducible refine (spec_l5Id.calls a0_1 true _ A19.out).mono ?_); rintro e w' ⟨rfl, ⟨nd, rfl⟩⟩; refine ⟨_, rfl, ?_⟩) | (go_at_call 23; (with_reducible refine (spec_l5Id.calls a0_3 t142 _ A78.out).mono ?_); rintro e w' ⟨rfl, ⟨nd, rfl⟩⟩))
                        go_meet
                        case rel => exact ⟨_, (!t142), (by first | rfl | (simp; done) | (simp [*]; done)), H', ⟨by have := HJ3.out; have := HJ11.out; first | omega | exact Nat.le_refl _⟩, ⟨by (with_reducible repeat (first | refine blk_drewN ?_ _ | refine blk_drew ?_ | refine blk_alloc ?_ _)); exact BK125.out⟩, ⟨by repeat (first | (with_reducible first | exact HB.out | apply below_alloc | apply pw_below_drewN | apply below_drew1 | refine below_set ?_ GE125.out) | exact HB.out)⟩⟩
                      · rw [if_neg c77] at H
                        have c77b0 : (a0_0 == 5) = false := beq_eq_false_iff_ne.mpr c77
                        have c77b1 : (a0_0 != 5) = true := bne_iff_ne.mpr c77
                        have H' := Aside0.mk H
                        clear H
                        have hcz80_0 : wc.cell? ⟨gb125, 0, none⟩ = some (.int .i64 a0_0) := (blk_cell BK125.out 0).trans rfl
                        have hcz80_1 : wc.cell? ⟨gb125, 1, none⟩ = some (.int .i64 a0_1) := (blk_cell BK125.out 1).trans rfl
                        have hcz80_2 : wc.cell? ⟨gb125, 2, none⟩ = some (.int .i64 a0_2) := (blk_cell BK125.out 2).trans rfl
                        have hcz80_3 : wc.cell? ⟨gb125, 3, none⟩ = some (.int .i64 a0_3) := (blk_cell BK125.out 3).trans rfl
                        have hfz80_0 := blk_frozen BK125.out 0
                        have hfz80_1 := blk_frozen BK125.out 1
                        have hfz80_2 := blk_frozen BK125.out 2
                        have hfz80_3 := blk_frozen BK125.out 3
                        go_wp2_with (first | ((with_reducible refine gate_callee (f := 23) rfl ?_); refine goesL_ (some 37) rfl rfl Try.func23 (by kernel_rfl) rfl #[.int .i64 a0_1] rfl (by (try simp only [List.map_toArray, List.map_cons, List.map_nil]); first | done | rfl | (simp only [List.length_drop, List.length_take]; rfl)) ?_; (with_reducible refine (spec_l5Id.calls a0_1 true _ A19.out).mono ?_); rintro e w' ⟨rfl, ⟨nd, rfl⟩⟩; refine ⟨_, rfl, ?_⟩))
                        go_meet
                        case rel => exact ⟨_, (false), (by first | rfl | (simp; done) | (simp [*]; done)), H', ⟨by have := HJ3.out; have := HJ11.out; first | omega | exact Nat.le_refl _⟩, ⟨by (with_reducible repeat (first | refine blk_drewN ?_ _ | refine blk_drew ?_ | refine blk_alloc ?_ _)); exact BK125.out⟩, ⟨by repeat (first | (with_reducible first | exact HB.out | apply below_alloc | apply pw_below_drewN | apply below_drew1 | refine below_set ?_ GE125.out) | exact HB.out)⟩⟩
              · replace c20 := Bool.eq_false_iff.mpr c20
                subst c20
                have H1 : (spec_OpFault.j2 kj11 x3_3 x4_11 true a0_0 a0_1 a0_2 a0_3) = some r := by rw [if_neg (show ¬ (false = true) by decide)] at H; exact H
                clear H
                have H := H1
                clear H1
                have H' := Aside0.mk H
                clear H
                have hcz81_0 : wc.cell? ⟨gb125, 0, none⟩ = some (.int .i64 a0_0) := (blk_cell BK125.out 0).trans rfl
                have hcz81_1 : wc.cell? ⟨gb125, 1, none⟩ = some (.int .i64 a0_1) := (blk_cell BK125.out 1).trans rfl
                have hcz81_2 : wc.cell? ⟨gb125, 2, none⟩ = some (.int .i64 a0_2) := (blk_cell BK125.out 2).trans rfl
                have hcz81_3 : wc.cell? ⟨gb125, 3, none⟩ = some (.int .i64 a0_3) := (blk_cell BK125.out 3).trans rfl
                have hfz81_0 := blk_frozen BK125.out 0
                have hfz81_1 := blk_frozen BK125.out 1
                have hfz81_2 := blk_frozen BK125.out 2
                have hfz81_3 := blk_frozen BK125.out 3
                go_wp2_with (first | ((with_reducible refine gate_callee (f := 23) rfl ?_); refine goesL_ (some 37) rfl rfl Try.func23 (by kernel_rfl) rfl #[.int .i64 a0_1] rfl (by (try simp only [List.map_toArray, List.map_cons, List.map_nil]); first | done | rfl | (simp only [List.length_drop, List.length_take]; rfl)) ?_; (with_reducible refine (spec_l5Id.calls a0_1 false _ A19.out).mono ?_); rintro e w' ⟨rfl, ⟨nd, rfl⟩⟩; refine ⟨_, rfl, ?_⟩))
                go_meet
                case rel => exact ⟨_, (true), (by first | rfl | (simp; done) | (simp [*]; done)), H', ⟨by have := HJ3.out; have := HJ11.out; first | omega | exact Nat.le_refl _⟩, ⟨by (with_reducible repeat (first | refine blk_drewN ?_ _ | refine blk_drew ?_ | refine blk_alloc ?_ _)); exact BK125.out⟩, ⟨by repeat (first | (with_reducible first | exact HB.out | apply below_alloc | apply pw_below_drewN | apply below_drew1 | refine below_set ?_ GE125.out) | exact HB.out)⟩⟩
            case rest =>
              clear HC18
              try clear c2
              try clear p2
              try clear c3
              try clear c4
              try clear c5
              try clear c6
              try clear c7
              try clear c20
              try clear c21
              try clear c23
              try clear c24
              try clear c24b0
              try clear c24b1
              try clear c26
              try clear c27
              try clear c27b0
              try clear c27b1
              try clear c29
              try clear c30
              try clear c30b0
              try clear c30b1
              try clear c35
              try clear c35b0
              try clear c35b1
              try clear c40
              try clear c40b0
              try clear c40b1
              try clear c42
              try clear c43
              try clear c43b0
              try clear c43b1
              try clear c48
              try clear c48b0
              try clear c48b1
              try clear c53
              try clear c53b0
              try clear c53b1
              try clear c55
              try clear c56
              try clear c56b0
              try clear c56b1
              try clear c58
              try clear c59
              try clear c59b0
              try clear c59b1
              try clear c64
              try clear c64b0
              try clear c64b1
              try clear c69
              try clear c69b0
              try clear c69b1
              try clear c71
              try clear c72
              try clear c72b0
              try clear c72b1
              try clear c77
              try clear c77b0
              try clear c77b1
              try clear hcz32_0
              try clear hcz32_1
              try clear hcz32_2
              try clear hcz32_3
              try clear hcz33_0
              try clear hcz33_1
              try clear hcz33_2
              try clear hcz33_3
              try clear hcz34_0
              try clear hcz34_1
              try clear hcz34_2
              try clear hcz34_3
              try clear hcz37_0
              try clear hcz37_1
              try clear hcz37_2
              try clear hcz37_3
              try clear hcz38_0
              try clear hcz38_1
              try clear hcz38_2
              try clear hcz38_3
              try clear hcz39_0
              try clear hcz39_1
              try clear hcz39_2
              try clear hcz39_3
              try clear hcz45_0
              try clear hcz45_1
              try clear hcz45_2
              try clear hcz45_3
              try clear hcz46_0
              try clear hcz46_1
              try clear hcz46_2
              try clear hcz46_3
              try clear hcz47_0
              try clear hcz47_1
              try clear hcz47_2
              try clear hcz47_3
              try clear hcz50_0
              try clear hcz50_1
              try clear hcz50_2
              try clear hcz50_3
              try clear hcz51_0
              try clear hcz51_1
              try clear hcz51_2
              try clear hcz51_3
              try clear hcz52_0
              try clear hcz52_1
              try clear hcz52_2
              try clear hcz52_3
              try clear hcz61_0
              try clear hcz61_1
              try clear hcz61_2
              try clear hcz61_3
              try clear hcz62_0
              try clear hcz62_1
              try clear hcz62_2
              try clear hcz62_3
              try clear hcz63_0
              try clear hcz63_1
              try clear hcz63_2
              try clear hcz63_3
              try clear hcz66_0
              try clear hcz66_1
              try clear hcz66_2
              try clear hcz66_3
              try clear hcz67_0
              try clear hcz67_1
              try clear hcz67_2
              try clear hcz67_3
              try clear hcz68_0
              try clear hcz68_1
              try clear hcz68_2
              try clear hcz68_3
              try clear hcz74_0
              try clear hcz74_1
              try clear hcz74_2
              try clear hcz74_3
              try clear hcz75_0
              try clear hcz75_1
              try clear hcz75_2
              try clear hcz75_3
              try clear hcz76_0
              try clear hcz76_1
              try clear hcz76_2
              try clear hcz76_3
              try clear hcz79_0
              try clear hcz79_1
              try clear hcz79_2
              try clear hcz79_3
              try clear hcz80_0
              try clear hcz80_1
              try clear hcz80_2
              try clear hcz80_3
              try clear hcz81_0
              try clear hcz81_1
              try clear hcz81_2
              try clear hcz81_3
              try clear hfz32_0
              try clear hfz32_1
              try clear hfz32_2
              try clear hfz32_3
              try clear hfz33_0
              try clear hfz33_1
              try clear hfz33_2
              try clear hfz33_3
              try clear hfz34_0
              try clear hfz34_1
              try clear hfz34_2
              try clear hfz34_3
              try clear hfz37_0
              try clear hfz37_1
              try clear hfz37_2
              try clear hfz37_3
              try clear hfz38_0
              try clear hfz38_1
              try clear hfz38_2
              try clear hfz38_3
              try clear hfz39_0
              try clear hfz39_1
              try clear hfz39_2
              try clear hfz39_3
              try clear hfz45_0
              try clear hfz45_1
              try clear hfz45_2
              try clear hfz45_3
              try clear hfz46_0
              try clear hfz46_1
              try clear hfz46_2
              try clear hfz46_3
              try clear hfz47_0
              try clear hfz47_1
              try clear hfz47_2
              try clear hfz47_3
              try clear hfz50_0
              try clear hfz50_1
              try clear hfz50_2
              try clear hfz50_3
              try clear hfz51_0
              try clear hfz51_1
              try clear hfz51_2
              try clear hfz51_3
              try clear hfz52_0
              try clear hfz52_1
              try clear hfz52_2
              try clear hfz52_3
              try clear hfz61_0
              try clear hfz61_1
              try clear hfz61_2
              try clear hfz61_3
              try clear hfz62_0
              try clear hfz62_1
              try clear hfz62_2
              try clear hfz62_3
              try clear hfz63_0
              try clear hfz63_1
              try clear hfz63_2
              try clear hfz63_3
              try clear hfz66_0
              try clear hfz66_1
              try clear hfz66_2
              try clear hfz66_3
              try clear hfz67_0
              try clear hfz67_1
              try clear hfz67_2
              try clear hfz67_3
              try clear hfz68_0
              try clear hfz68_1
              try clear hfz68_2
              try clear hfz68_3
              try clear hfz74_0
              try clear hfz74_1
              try clear hfz74_2
              try clear hfz74_3
              try clear hfz75_0
              try clear hfz75_1
              try clear hfz75_2
              try clear hfz75_3
              try clear hfz76_0
              try clear hfz76_1
              try clear hfz76_2
              try clear hfz76_3
              try clear hfz79_0
              try clear hfz79_1
              try clear hfz79_2
              try clear hfz79_3
              try clear hfz80_0
              try clear hfz80_1
              try clear hfz80_2
              try clear hfz80_3
              try clear hfz81_0
              try clear hfz81_1
              try clear hfz81_2
              try clear hfz81_3
              obtain ⟨kq, x80_17, rfl, HA, HJ17, BK125, HB⟩ := hcut
              cases kq with
              | zero => exact absurd HA.out (by simp [spec_OpFault.j2])
              | succ kj17 =>
                have H := HA.out
                clear HA
                simp only [spec_OpFault.j2] at H
                by_cases c82 : x80_17 = true
                · subst c82
                  have H1 : (some 3) = some r := by rw [if_pos rfl] at H; exact H
                  clear H
                  have H := H1
                  clear H1
                  obtain rfl := Option.some.inj H
                  go_wp2
                  go_ret
                  exact ⟨by first | rfl | (simp [errW_none, errW_some] <;> rfl) | (simp [*, errW_none, errW_some] <;> rfl), by repeat (first | (with_reducible first | exact HB.out | apply below_alloc | apply pw_below_drewN | apply below_drew1 | refine below_set ?_ GE125.out) | exact HB.out)⟩
                · replace c82 := Bool.eq_false_iff.mpr c82
                  subst c82
                  have H1 : (if x3_3 = true then (if x4_11 = true then (some 0) else (if a0_3 = 0 then (some 0) else (some 1))) else (if a0_2 = 0 then (if x4_11 = true then (some 0) else (if a0_3 = 0 then (some 0) else (some 1))) else (some 1))) = some r := by rw [if_neg (show ¬ (false = true) by decide)] at H; exact H
                  clear H
                  have H := H1
                  clear H1
                  by_cases c83 : x3_3 = true
                  · subst c83
                    have H1 : (if x4_11 = true then (some 0) else (if a0_3 = 0 then (some 0) else (some 1))) = some r := by rw [if_pos rfl] at H; exact H
                    clear H
                    have H := H1
                    clear H1
                    by_cases c84 : x4_11 = true
                    · subst c84
                      have H1 : (some 0) = some r := by rw [if_pos rfl] at H; exact H
                      clear H
                      have H := H1
                      clear H1
                      obtain rfl := Option.some.inj H
                      go_wp2
                      go_ret
                      exact ⟨by first | rfl | (simp [errW_none, errW_some] <;> rfl) | (simp [*, errW_none, errW_some] <;> rfl), by repeat (first | (with_reducible first | exact HB.out | apply below_alloc | apply pw_below_drewN | apply below_drew1 | refine below_set ?_ GE125.out) | exact HB.out)⟩
                    · replace c84 := Bool.eq_false_iff.mpr c84
                      subst c84
                      have H1 : (if a0_3 = 0 then (some 0) else (some 1)) = some r := by rw [if_neg (show ¬ (false = true) by decide)] at H; exact H
                      clear H
                      have H := H1
                      clear H1
                      by_cases c85 : a0_3 = 0
                      · rw [if_pos c85] at H
                        have c85b0 : (a0_3 == 0) = true := beq_iff_eq.mpr c85
                        have c85b1 : (a0_3 != 0) = false := bne_eq_false_iff_eq.mpr c85
                        clear c85
                        obtain rfl := Option.some.inj H
                        have hcz86_0 : wc.cell? ⟨gb125, 0, none⟩ = some (.int .i64 a0_0) := (blk_cell BK125.out 0).trans rfl
                        have hcz86_1 : wc.cell? ⟨gb125, 1, none⟩ = some (.int .i64 a0_1) := (blk_cell BK125.out 1).trans rfl
                        have hcz86_2 : wc.cell? ⟨gb125, 2, none⟩ = some (.int .i64 a0_2) := (blk_cell BK125.out 2).trans rfl
                        have hcz86_3 : wc.cell? ⟨gb125, 3, none⟩ = some (.int .i64 a0_3) := (blk_cell BK125.out 3).trans rfl
                        have hfz86_0 := blk_frozen BK125.out 0
                        have hfz86_1 := blk_frozen BK125.out 1
                        have hfz86_2 := blk_frozen BK125.out 2
                        have hfz86_3 := blk_frozen BK125.out 3
                        go_wp2
                        go_ret
                        exact ⟨by first | rfl | (simp [errW_none, errW_some] <;> rfl) | (simp [*, errW_none, errW_some] <;> rfl), by repeat (first | (with_reducible first | exact HB.out | apply below_alloc | apply pw_below_drewN | apply below_drew1 | refine below_set ?_ GE125.out) | exact HB.out)⟩
                      · rw [if_neg c85] at H
                        have c85b0 : (a0_3 == 0) = false := beq_eq_false_iff_ne.mpr c85
                        have c85b1 : (a0_3 != 0) = true := bne_iff_ne.mpr c85
                        obtain rfl := Option.some.inj H
                        have hcz87_0 : wc.cell? ⟨gb125, 0, none⟩ = some (.int .i64 a0_0) := (blk_cell BK125.out 0).trans rfl
                        have hcz87_1 : wc.cell? ⟨gb125, 1, none⟩ = some (.int .i64 a0_1) := (blk_cell BK125.out 1).trans rfl
                        have hcz87_2 : wc.cell? ⟨gb125, 2, none⟩ = some (.int .i64 a0_2) := (blk_cell BK125.out 2).trans rfl
                        have hcz87_3 : wc.cell? ⟨gb125, 3, none⟩ = some (.int .i64 a0_3) := (blk_cell BK125.out 3).trans rfl
                        have hfz87_0 := blk_frozen BK125.out 0
                        have hfz87_1 := blk_frozen BK125.out 1
                        have hfz87_2 := blk_frozen BK125.out 2
                        have hfz87_3 := blk_frozen BK125.out 3
                        go_wp2
                        go_ret
                        exact ⟨by first | rfl | (simp [errW_none, errW_some] <;> rfl) | (simp [*, errW_none, errW_some] <;> rfl), by repeat (first | (with_reducible first | exact HB.out | apply below_alloc | apply pw_below_drewN | apply below_drew1 | refine below_set ?_ GE125.out) | exact HB.out)⟩
                  · replace c83 := Bool.eq_false_iff.mpr c83
                    subst c83
                    have H1 : (if a0_2 = 0 then (if x4_11 = true then (some 0) else (if a0_3 = 0 then (some 0) else (some 1))) else (some 1)) = some r := by rw [if_neg (show ¬ (false = true) by decide)] at H; exact H
                    clear H
                    have H := H1
                    clear H1
                    by_cases c88 : a0_2 = 0
                    · rw [if_pos c88] at H
                      have c88b0 : (a0_2 == 0) = true := beq_iff_eq.mpr c88
                      have c88b1 : (a0_2 != 0) = false := bne_eq_false_iff_eq.mpr c88
                      clear c88
                      by_cases c89 : x4_11 = true
                      · subst c89
                        have H1 : (some 0) = some r := by rw [if_pos rfl] at H; exact H
                        clear H
                        have H := H1
                        clear H1
                        obtain rfl := Option.some.inj H
                        have hcz90_0 : wc.cell? ⟨gb125, 0, none⟩ = some (.int .i64 a0_0) := (blk_cell BK125.out 0).trans rfl
                        have hcz90_1 : wc.cell? ⟨gb125, 1, none⟩ = some (.int .i64 a0_1) := (blk_cell BK125.out 1).trans rfl
                        have hcz90_2 : wc.cell? ⟨gb125, 2, none⟩ = some (.int .i64 a0_2) := (blk_cell BK125.out 2).trans rfl
                        have hcz90_3 : wc.cell? ⟨gb125, 3, none⟩ = some (.int .i64 a0_3) := (blk_cell BK125.out 3).trans rfl
                        have hfz90_0 := blk_frozen BK125.out 0
                        have hfz90_1 := blk_frozen BK125.out 1
                        have hfz90_2 := blk_frozen BK125.out 2
                        have hfz90_3 := blk_frozen BK125.out 3
                        go_wp2
                        go_ret
                        exact ⟨by first | rfl | (simp [errW_none, errW_some] <;> rfl) | (simp [*, errW_none, errW_some] <;> rfl), by repeat (first | (with_reducible first | exact HB.out | apply below_alloc | apply pw_below_drewN | apply below_drew1 | refine below_set ?_ GE125.out) | exact HB.out)⟩
                      · replace c89 := Bool.eq_false_iff.mpr c89
                        subst c89
                        have H1 : (if a0_3 = 0 then (some 0) else (some 1)) = some r := by rw [if_neg (show ¬ (false = true) by decide)] at H; exact H
                        clear H
                        have H := H1
                        clear H1
                        by_cases c91 : a0_3 = 0
                        · rw [if_pos c91] at H
                          have c91b0 : (a0_3 == 0) = true := beq_iff_eq.mpr c91
                          have c91b1 : (a0_3 != 0) = false := bne_eq_false_iff_eq.mpr c91
                          clear c91
                          obtain rfl := Option.some.inj H
                          have hcz92_0 : wc.cell? ⟨gb125, 0, none⟩ = some (.int .i64 a0_0) := (blk_cell BK125.out 0).trans rfl
                          have hcz92_1 : wc.cell? ⟨gb125, 1, none⟩ = some (.int .i64 a0_1) := (blk_cell BK125.out 1).trans rfl
                          have hcz92_2 : wc.cell? ⟨gb125, 2, none⟩ = some (.int .i64 a0_2) := (blk_cell BK125.out 2).trans rfl
                          have hcz92_3 : wc.cell? ⟨gb125, 3, none⟩ = some (.int .i64 a0_3) := (blk_cell BK125.out 3).trans rfl
                          have hfz92_0 := blk_frozen BK125.out 0
                          have hfz92_1 := blk_frozen BK125.out 1
                          have hfz92_2 := blk_frozen BK125.out 2
                          have hfz92_3 := blk_frozen BK125.out 3
                          go_wp2
                          go_ret
                          exact ⟨by first | rfl | (simp [errW_none, errW_some] <;> rfl) | (simp [*, errW_none, errW_some] <;> rfl), by repeat (first | (with_reducible first | exact HB.out | apply below_alloc | apply pw_below_drewN | apply below_drew1 | refine below_set ?_ GE125.out) | exact HB.out)⟩
                        · rw [if_neg c91] at H
                          have c91b0 : (a0_3 == 0) = false := beq_eq_false_iff_ne.mpr c91
                          have c91b1 : (a0_3 != 0) = true := bne_iff_ne.mpr c91
                          obtain rfl := Option.some.inj H
                          have hcz93_0 : wc.cell? ⟨gb125, 0, none⟩ = some (.int .i64 a0_0) := (blk_cell BK125.out 0).trans rfl
                          have hcz93_1 : wc.cell? ⟨gb125, 1, none⟩ = some (.int .i64 a0_1) := (blk_cell BK125.out 1).trans rfl
                          have hcz93_2 : wc.cell? ⟨gb125, 2, none⟩ = some (.int .i64 a0_2) := (blk_cell BK125.out 2).trans rfl
                          have hcz93_3 : wc.cell? ⟨gb125, 3, none⟩ = some (.int .i64 a0_3) := (blk_cell BK125.out 3).trans rfl
                          have hfz93_0 := blk_frozen BK125.out 0
                          have hfz93_1 := blk_frozen BK125.out 1
                          have hfz93_2 := blk_frozen BK125.out 2
                          have hfz93_3 := blk_frozen BK125.out 3
                          go_wp2
                          go_ret
                          exact ⟨by first | rfl | (simp [errW_none, errW_some] <;> rfl) | (simp [*, errW_none, errW_some] <;> rfl), by repeat (first | (with_reducible first | exact HB.out | apply below_alloc | apply pw_below_drewN | apply below_drew1 | refine below_set ?_ GE125.out) | exact HB.out)⟩
                    · rw [if_neg c88] at H
                      have c88b0 : (a0_2 == 0) = false := beq_eq_false_iff_ne.mpr c88
                      have c88b1 : (a0_2 != 0) = true := bne_iff_ne.mpr c88
                      obtain rfl := Option.some.inj H
                      have hcz94_0 : wc.cell? ⟨gb125, 0, none⟩ = some (.int .i64 a0_0) := (blk_cell BK125.out 0).trans rfl
                      have hcz94_1 : wc.cell? ⟨gb125, 1, none⟩ = some (.int .i64 a0_1) := (blk_cell BK125.out 1).trans rfl
                      have hcz94_2 : wc.cell? ⟨gb125, 2, none⟩ = some (.int .i64 a0_2) := (blk_cell BK125.out 2).trans rfl
                      have hcz94_3 : wc.cell? ⟨gb125, 3, none⟩ = some (.int .i64 a0_3) := (blk_cell BK125.out 3).trans rfl
                      have hfz94_0 := blk_frozen BK125.out 0
                      have hfz94_1 := blk_frozen BK125.out 1
                      have hfz94_2 := blk_frozen BK125.out 2
                      have hfz94_3 := blk_frozen BK125.out 3
                      go_wp2
                      go_ret
                      exact ⟨by first | rfl | (simp [errW_none, errW_some] <;> rfl) | (simp [*, errW_none, errW_some] <;> rfl), by repeat (first | (with_reducible first | exact HB.out | apply below_alloc | apply pw_below_drewN | apply below_drew1 | refine below_set ?_ GE125.out) | exact HB.out)⟩
  · replace c3 := Bool.eq_false_iff.mpr c3
    subst c3
    have H1 : (some 1) = some r := by rw [if_neg (show ¬ (false = true) by decide)] at H; exact H
    clear H
    have H := H1
    clear H1
    obtain rfl := Option.some.inj H
    go_enter Try.func12, Try.ntmps12
    go_wp2_with (first | ((with_reducible refine gate_dst (N := 1) rfl ?_); refine box_event ?hg (N := 1) ?hd (cs := #[.int .i64 a0_0, .int .i64 a0_1, .int .i64 a0_2, .int .i64 a0_3]) (t := 31) ?hr ?_; (case hd => rfl); (case hg => rfl); (case hr => first | (go_simp; done) | (go_simp; rfl)); intro gb125 hg w95 hbox hb; have n0_ := Aside0.mk (below_step (by repeat (first | (with_reducible first | exact HB.out | apply below_alloc | apply pw_below_drewN | apply below_drew1) | exact HB.out)) hb); have n1_ := Aside0.mk (hbox); have n2_ := Aside0.mk ((by rw [hg]; exact (below_size (by repeat (first | (with_reducible first | exact HB.out | apply below_alloc | apply pw_below_drewN | apply below_drew1) | exact HB.out))) : w.heap.size ≤ gb125)); have n3_ := Aside0.mk ((by rw [hg]; exact (below_size (by repeat (first | (with_reducible first | exact HB.out | apply below_alloc | apply pw_below_drewN | apply below_drew1) | exact HB.out))) : w.heap.size ≤ gb125)); clear HB; have HB := n0_; have BK125 := n1_; have GW125 := n2_; have GE125 := n3_; clear n0_ n1_ n2_ n3_; clear hb hbox hg; have hcz96_0 : w95.cell? ⟨gb125, 0, none⟩ = some (.int .i64 a0_0) := (blk_cell BK125.out 0).trans rfl; have hcz96_1 : w95.cell? ⟨gb125, 1, none⟩ = some (.int .i64 a0_1) := (blk_cell BK125.out 1).trans rfl; have hcz96_2 : w95.cell? ⟨gb125, 2, none⟩ = some (.int .i64 a0_2) := (blk_cell BK125.out 2).trans rfl; have hcz96_3 : w95.cell? ⟨gb125, 3, none⟩ = some (.int .i64 a0_3) := (blk_cell BK125.out 3).trans rfl; have hfz96_0 := blk_frozen BK125.out 0; have hfz96_1 := blk_frozen BK125.out 1; have hfz96_2 := blk_frozen BK125.out 2; have hfz96_3 := blk_frozen BK125.out 3) | ((with_reducible refine gate_callee (f := 22) rfl ?_); refine goesL_ (some 7) rfl rfl Try.func22 (by kernel_rfl) rfl #[.int .i64 a0_0, .int .i64 1, .int .i64 6] rfl (by (try simp only [List.map_toArray, List.map_cons, List.map_nil]); first | done | rfl | (simp only [List.length_drop, List.length_take]; rfl)) ?_; (with_reducible refine (spec_l1In.calls a0_0 1 6 false _ A2.out).mono ?_); rintro e w' ⟨rfl, ⟨nd, rfl⟩⟩; refine ⟨_, rfl, ?_⟩))
    go_ret
    exact ⟨by first | rfl | (simp [errW_none, errW_some] <;> rfl) | (simp [*, errW_none, errW_some] <;> rfl), by repeat (first | (with_reducible first | exact HB.out | apply below_alloc | apply pw_below_drewN | apply below_drew1 | refine below_set ?_ GE125.out) | exact HB.out)⟩

end Go.Proofs.Ytilopcdhggmpfaa.PA
