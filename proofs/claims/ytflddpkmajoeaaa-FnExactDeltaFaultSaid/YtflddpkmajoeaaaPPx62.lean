-- Laid by a program of this session's (wip/xprint.py) over the kit's print. Nothing in it is trusted: Lean checks it.
import Derived.Test.YtflddpkmajoeaaaPPx0
import Derived.Test.YtflddpkmajoeaaaPPx5
namespace Go.Proofs.Ytflddpkmajoeaaa.PP
open Go.RowKit Go.Proofs.YtflddpkmajoeaaaW.PrintWords Go.Proofs.YtflddpkmajoeaaaW.PrintLast Go.Proofs.YtflddpkmajoeaaaW.PrintMore
set_option maxHeartbeats 8000000
set_option maxRecDepth 100000
attribute [local go_sem] max2_int min2_int max_two min_two max_three min_three max_four min_four   -- for this text's walks alone
set_option linter.unusedVariables false
set_option linter.unusedSimpArgs false

/-! ### impl_isId: function 77 -/
def impl_isId.f (a0 : Int) : Option (Bool) := (impl_within.f a0 1 99).bind fun t623 => (some t623)
theorem impl_isId.calls (a0 : Int) (r : Bool) (w : World) (h : impl_isId.f a0 = some r) :
  Calls Try.prog 77 #[.int .i64 a0] w fun e w' => e = .returned (.bool r) ∧ Drawn0 w w' := by
 have H : ((impl_within.f a0 1 99).bind fun t623 => (some t623)) = some r := h
 clear h
 replace H := Option.bind_eq_some_iff.mp H
 obtain ⟨t623, A20, H⟩ := H
 replace H : (some t623) = some r := H
 have A2 := Aside0.mk A20
 clear A20
 obtain rfl := Option.some.inj H
 go_enter Try.func77, Try.ntmps77
 go_wp2_with (first|((with_reducible refine gate_callee (f := 55) rfl ?_);refine goesL_ (some 4) rfl rfl Try.func55 (by kernel_rfl) rfl #[.int .i64 a0, .int .i64 1, .int .i64 99] rfl (by (try simp only [List.map_toArray, List.map_cons, List.map_nil]);first|done|rfl|(simp only [List.length_drop, List.length_take];rfl)) ?_;(with_reducible refine (impl_within.calls a0 1 99 t623 _ A2.out).mono ?_);rintro e w' ⟨rfl, ⟨nd, rfl⟩⟩;refine ⟨_, rfl, ?_⟩))
 go_ret
 exact ⟨by first|rfl|(simp;done)|(simp [*];done), by repeat (first|exact Drawn0.refl _|apply Drawn0.step)⟩

/-! ### impl_isQuota: function 78 -/
def impl_isQuota.f (a0 : Int) : Option (Bool) := (impl_within.f a0 1 16).bind fun t624 => (some t624)
theorem impl_isQuota.calls (a0 : Int) (r : Bool) (w : World) (h : impl_isQuota.f a0 = some r) :
  Calls Try.prog 78 #[.int .i64 a0] w fun e w' => e = .returned (.bool r) ∧ Drawn0 w w' := by
 have H : ((impl_within.f a0 1 16).bind fun t624 => (some t624)) = some r := h
 clear h
 replace H := Option.bind_eq_some_iff.mp H
 obtain ⟨t624, A20, H⟩ := H
 replace H : (some t624) = some r := H
 have A2 := Aside0.mk A20
 clear A20
 obtain rfl := Option.some.inj H
 go_enter Try.func78, Try.ntmps78
 go_wp2_with (first|((with_reducible refine gate_callee (f := 55) rfl ?_);refine goesL_ (some 4) rfl rfl Try.func55 (by kernel_rfl) rfl #[.int .i64 a0, .int .i64 1, .int .i64 16] rfl (by (try simp only [List.map_toArray, List.map_cons, List.map_nil]);first|done|rfl|(simp only [List.length_drop, List.length_take];rfl)) ?_;(with_reducible refine (impl_within.calls a0 1 16 t624 _ A2.out).mono ?_);rintro e w' ⟨rfl, ⟨nd, rfl⟩⟩;refine ⟨_, rfl, ?_⟩))
 go_ret
 exact ⟨by first|rfl|(simp;done)|(simp [*];done), by repeat (first|exact Drawn0.refl _|apply Drawn0.step)⟩

/-! ### impl_isRoot: function 79 -/
def impl_isRoot.f (l0_0 : List (S105)) (l0_1 : List (S102)) (a1 : Int) : Option (Bool) := if a1 = (-1) then (some true) else ((impl_within.f a1 0 (wrap64 ((l0_0.length : Int) - 1))).bind fun t626 => (if t626 = true then (if 0 ≤ a1 then (if a1 < (l0_0.length : Int) then (if ((rd_T105 l0_0 a1).f1 = true) then (some false) else (some (decide (((rd_T105 l0_0 a1).f0) > 0)))) else (none)) else (none)) else (some false)))
theorem impl_isRoot.calls (A0_0 : Option Addr) (c0_0 : Nat) (l0_0 : List (S105)) (A0_1 : Option Addr) (c0_1 : Nat) (l0_1 : List (S102)) (a1 : Int) (r : Bool) (w : World) (hr0_0 : Kd.C k105 w A0_0 l0_0.length l0_0) (hc0_0 : l0_0.length ≤ c0_0) (hr0_1 : Kd.C k102 w A0_1 l0_1.length l0_1) (hc0_1 : l0_1.length ≤ c0_1) (h : impl_isRoot.f l0_0 l0_1 a1 = some r) :
  Calls Try.prog 79 #[.agg #[.slice A0_0 l0_0.length c0_0, .slice A0_1 l0_1.length c0_1], .int .i64 a1] w fun e w' => e = .returned (.bool r) ∧ Below w.heap.size w w' := by
 have hu55 := Try.underlying55
 have HR0_0 := Aside0.mk hr0_0
 have HC0_0 := Aside0.mk hc0_0
 clear hr0_0 hc0_0
 have HR0_1 := Aside0.mk hr0_1
 have HC0_1 := Aside0.mk hc0_1
 clear hr0_1 hc0_1
 have HB := Aside0.mk (Below.refl w.heap.size w)
 have H : (if a1 = (-1) then (some true) else ((impl_within.f a1 0 (wrap64 ((l0_0.length : Int) - 1))).bind fun t626 => (if t626 = true then (if 0 ≤ a1 then (if a1 < (l0_0.length : Int) then (if ((rd_T105 l0_0 a1).f1 = true) then (some false) else (some (decide (((rd_T105 l0_0 a1).f0) > 0)))) else (none)) else (none)) else (some false)))) = some r := h
 clear h
 by_cases c3 : a1 = (-1)
 · rw [if_pos c3] at H
  have c3b0 : (a1 == (-1)) = true := beq_iff_eq.mpr c3
  have c3b1 : (a1 != (-1)) = false := bne_eq_false_iff_eq.mpr c3
  clear c3
  obtain rfl := Option.some.inj H
  go_enter Try.func79, Try.ntmps79
  go_wp2_with (first|((with_reducible refine gate_dst (N := 2) rfl ?_);(try (refine gate_guard (by rfl) ?_;dsimp only));refine box_event ?hg (N := 2) ?hd (cs := #[.slice A0_0 l0_0.length c0_0, .slice A0_1 l0_1.length c0_1]) (t := 55) ?hr ?_;(case hd => rfl);(case hg => rfl);(case hr => first|(go_simp;done)|(go_simp;rfl));intro gb625 hg w4 hbox hb;have n0_ := Aside0.mk (below_step (by repeat (first|(with_reducible first|exact HB.out|apply below_alloc|apply pw_below_drewN|apply below_drew1)|exact HB.out)) hb);have n1_ := Aside0.mk (hbox);have n2_ := Aside0.mk ((by rw [hg];exact (below_size (by repeat (first|(with_reducible first|exact HB.out|apply below_alloc|apply pw_below_drewN|apply below_drew1)|exact HB.out))) : w.heap.size ≤ gb625));have n3_ := Aside0.mk ((by rw [hg];exact (below_size (by repeat (first|(with_reducible first|exact HB.out|apply below_alloc|apply pw_below_drewN|apply below_drew1)|exact HB.out))) : w.heap.size ≤ gb625));clear HB;have HB := n0_;have BK625 := n1_;have GW625 := n2_;have GE625 := n3_;clear n0_ n1_ n2_ n3_;clear hb hbox hg))
  go_ret
  exact ⟨by first|rfl|(simp [errW_none, errW_some] <;> rfl)|(simp [*, errW_none, errW_some] <;> rfl), by repeat (first|(with_reducible first|exact HB.out|apply below_alloc|apply pw_below_drewN|apply below_drew1|refine below_set ?_ GE625.out)|exact HB.out)⟩
 · rw [if_neg c3] at H
  have c3b0 : (a1 == (-1)) = false := beq_eq_false_iff_ne.mpr c3
  have c3b1 : (a1 != (-1)) = true := bne_iff_ne.mpr c3
  replace H := Option.bind_eq_some_iff.mp H
  obtain ⟨t626, A50, H⟩ := H
  replace H : (if t626 = true then (if 0 ≤ a1 then (if a1 < (l0_0.length : Int) then (if ((rd_T105 l0_0 a1).f1 = true) then (some false) else (some (decide (((rd_T105 l0_0 a1).f0) > 0)))) else (none)) else (none)) else (some false)) = some r := H
  have A5 := Aside0.mk A50
  clear A50
  by_cases c6 : t626 = true
  · subst c6
   have H1 : (if 0 ≤ a1 then (if a1 < (l0_0.length : Int) then (if ((rd_T105 l0_0 a1).f1 = true) then (some false) else (some (decide (((rd_T105 l0_0 a1).f0) > 0)))) else (none)) else (none)) = some r := by rw [if_pos rfl] at H;exact H
   clear H
   have H := H1
   clear H1
   by_cases c7 : 0 ≤ a1
   · rw [if_pos c7] at H
    have c7b0 : decide (0 ≤ a1) = true := decide_eq_true c7
    clear c7
    by_cases c8 : a1 < (l0_0.length : Int)
    · rw [if_pos c8] at H
     have c8b0 : decide (a1 < (l0_0.length : Int)) = true := decide_eq_true c8
     clear c8
     obtain ⟨bq9, hbq9⟩ : ∃ b_ : Bool, b_ = ((rd_T105 l0_0 a1).f1) := ⟨_, rfl⟩
     replace H : (if (bq9 = true) then (some false) else (some (decide (((rd_T105 l0_0 a1).f0) > 0)))) = some r := by rw [← hbq9] at H;exact H
     have Nbq9 := Aside0.mk hbq9
     clear hbq9
     by_cases c10 : (bq9 = true)
     · subst c10
      have H1 : (some false) = some r := by rw [if_pos rfl] at H;exact H
      clear H
      have H := H1
      clear H1
      obtain rfl := Option.some.inj H
      go_enter Try.func79, Try.ntmps79
      go_wp2_with (first|((with_reducible refine gate_dst (N := 2) rfl ?_);(try (refine gate_guard (by rfl) ?_;dsimp only));refine box_event ?hg (N := 2) ?hd (cs := #[.slice A0_0 l0_0.length c0_0, .slice A0_1 l0_1.length c0_1]) (t := 55) ?hr ?_;(case hd => rfl);(case hg => rfl);(case hr => first|(go_simp;done)|(go_simp;rfl));intro gb625 hg w11 hbox hb;have n0_ := Aside0.mk (below_step (by repeat (first|(with_reducible first|exact HB.out|apply below_alloc|apply pw_below_drewN|apply below_drew1)|exact HB.out)) hb);have n1_ := Aside0.mk (hbox);have n2_ := Aside0.mk ((by rw [hg];exact (below_size (by repeat (first|(with_reducible first|exact HB.out|apply below_alloc|apply pw_below_drewN|apply below_drew1)|exact HB.out))) : w.heap.size ≤ gb625));have n3_ := Aside0.mk ((by rw [hg];exact (below_size (by repeat (first|(with_reducible first|exact HB.out|apply below_alloc|apply pw_below_drewN|apply below_drew1)|exact HB.out))) : w.heap.size ≤ gb625));clear HB;have HB := n0_;have BK625 := n1_;have GW625 := n2_;have GE625 := n3_;clear n0_ n1_ n2_ n3_;clear hb hbox hg;have hcz12_0 : w11.cell? ⟨gb625, 0, none⟩ = some (.slice A0_0 l0_0.length c0_0) := (blk_cell BK625.out 0).trans rfl;have hcz12_1 : w11.cell? ⟨gb625, 1, none⟩ = some (.slice A0_1 l0_1.length c0_1) := (blk_cell BK625.out 1).trans rfl;have hfz12_0 := blk_frozen BK625.out 0;have hfz12_1 := blk_frozen BK625.out 1)|(go_at_call 55;(with_reducible refine (impl_within.calls a1 0 (wrap64 ((l0_0.length : Int) - 1)) true _ A5.out).mono ?_);rintro e w' ⟨rfl, ⟨nd, rfl⟩⟩;have p627 : 0 ≤ (a1 : Int) := of_decide_eq_true (by first|(with_reducible assumption)|assumption);have q627 : a1 < (l0_0.length : Int) := of_decide_eq_true (by first|(with_reducible assumption)|assumption);obtain ⟨ad627, A627_2, c627_2, e627, hx627_0, hx627_1, hx627_2, hl627_2, hi627_2⟩ := at_T105 HR0_0.out a1 p627 q627;(try rw [← Nbq9.out] at hx627_1);cases e627;replace hx627_0 := (HB.out.cell (World.block_lt_of_cell? w _ hx627_0)).trans hx627_0;replace hx627_1 := (HB.out.cell (World.block_lt_of_cell? w _ hx627_1)).trans hx627_1;replace hx627_2 := (HB.out.cell (World.block_lt_of_cell? w _ hx627_2)).trans hx627_2;have HR627_2 := Aside0.mk hi627_2;have HC627_2 := Aside0.mk hl627_2;clear hi627_2 hl627_2;replace p627 := eq_true p627;replace q627 := eq_true q627))
      go_ret
      exact ⟨by first|rfl|(simp [errW_none, errW_some] <;> rfl)|(simp [*, errW_none, errW_some] <;> rfl), by repeat (first|(with_reducible first|exact HB.out|apply below_alloc|apply pw_below_drewN|apply below_drew1|refine below_set ?_ GE625.out)|exact HB.out)⟩
     · replace c10 := Bool.eq_false_iff.mpr c10
      subst c10
      have H1 : (some (decide (((rd_T105 l0_0 a1).f0) > 0))) = some r := by rw [if_neg (show ¬ (false = true) by decide)] at H;exact H
      clear H
      have H := H1
      clear H1
      obtain rfl := Option.some.inj H
      go_enter Try.func79, Try.ntmps79
      go_wp2_with (first|((with_reducible refine gate_dst (N := 2) rfl ?_);(try (refine gate_guard (by rfl) ?_;dsimp only));refine box_event ?hg (N := 2) ?hd (cs := #[.slice A0_0 l0_0.length c0_0, .slice A0_1 l0_1.length c0_1]) (t := 55) ?hr ?_;(case hd => rfl);(case hg => rfl);(case hr => first|(go_simp;done)|(go_simp;rfl));intro gb625 hg w13 hbox hb;have n0_ := Aside0.mk (below_step (by repeat (first|(with_reducible first|exact HB.out|apply below_alloc|apply pw_below_drewN|apply below_drew1)|exact HB.out)) hb);have n1_ := Aside0.mk (hbox);have n2_ := Aside0.mk ((by rw [hg];exact (below_size (by repeat (first|(with_reducible first|exact HB.out|apply below_alloc|apply pw_below_drewN|apply below_drew1)|exact HB.out))) : w.heap.size ≤ gb625));have n3_ := Aside0.mk ((by rw [hg];exact (below_size (by repeat (first|(with_reducible first|exact HB.out|apply below_alloc|apply pw_below_drewN|apply below_drew1)|exact HB.out))) : w.heap.size ≤ gb625));clear HB;have HB := n0_;have BK625 := n1_;have GW625 := n2_;have GE625 := n3_;clear n0_ n1_ n2_ n3_;clear hb hbox hg;have hcz14_0 : w13.cell? ⟨gb625, 0, none⟩ = some (.slice A0_0 l0_0.length c0_0) := (blk_cell BK625.out 0).trans rfl;have hcz14_1 : w13.cell? ⟨gb625, 1, none⟩ = some (.slice A0_1 l0_1.length c0_1) := (blk_cell BK625.out 1).trans rfl;have hfz14_0 := blk_frozen BK625.out 0;have hfz14_1 := blk_frozen BK625.out 1)|(go_at_call 55;(with_reducible refine (impl_within.calls a1 0 (wrap64 ((l0_0.length : Int) - 1)) true _ A5.out).mono ?_);rintro e w' ⟨rfl, ⟨nd, rfl⟩⟩;have p627 : 0 ≤ (a1 : Int) := of_decide_eq_true (by first|(with_reducible assumption)|assumption);have q627 : a1 < (l0_0.length : Int) := of_decide_eq_true (by first|(with_reducible assumption)|assumption);obtain ⟨ad627, A627_2, c627_2, e627, hx627_0, hx627_1, hx627_2, hl627_2, hi627_2⟩ := at_T105 HR0_0.out a1 p627 q627;(try rw [← Nbq9.out] at hx627_1);cases e627;replace hx627_0 := (HB.out.cell (World.block_lt_of_cell? w _ hx627_0)).trans hx627_0;replace hx627_1 := (HB.out.cell (World.block_lt_of_cell? w _ hx627_1)).trans hx627_1;replace hx627_2 := (HB.out.cell (World.block_lt_of_cell? w _ hx627_2)).trans hx627_2;have HR627_2 := Aside0.mk hi627_2;have HC627_2 := Aside0.mk hl627_2;clear hi627_2 hl627_2;replace p627 := eq_true p627;replace q627 := eq_true q627;have p628 : 0 ≤ (a1 : Int) := of_decide_eq_true (by first|(with_reducible assumption)|assumption);have q628 : a1 < (l0_0.length : Int) := of_decide_eq_true (by first|(with_reducible assumption)|assumption);obtain ⟨ad628, A628_2, c628_2, e628, hx628_0, hx628_1, hx628_2, hl628_2, hi628_2⟩ := at_T105 HR0_0.out a1 p628 q628;(try rw [← Nbq9.out] at hx628_1);obtain rfl : ad627 = ad628 := (by injection e628);replace hx628_0 := (HB.out.cell (World.block_lt_of_cell? w _ hx628_0)).trans hx628_0;replace hx628_1 := (HB.out.cell (World.block_lt_of_cell? w _ hx628_1)).trans hx628_1;replace hx628_2 := (HB.out.cell (World.block_lt_of_cell? w _ hx628_2)).trans hx628_2;have HR628_2 := Aside0.mk hi628_2;have HC628_2 := Aside0.mk hl628_2;clear hi628_2 hl628_2;replace p628 := eq_true p628;replace q628 := eq_true q628;have ea_ := Option.some.inj (hx627_2.symm.trans hx628_2);injection ea_ with ea_ en_ ec_;subst ea_;subst ec_;clear en_))
      go_ret
      exact ⟨by first|rfl|(simp [errW_none, errW_some] <;> rfl)|(simp [*, errW_none, errW_some] <;> rfl), by repeat (first|(with_reducible first|exact HB.out|apply below_alloc|apply pw_below_drewN|apply below_drew1|refine below_set ?_ GE625.out)|exact HB.out)⟩
    · rw [if_neg c8] at H
     exact absurd H (by simp)
   · rw [if_neg c7] at H
    exact absurd H (by simp)
  · replace c6 := Bool.eq_false_iff.mpr c6
   subst c6
   have H1 : (some false) = some r := by rw [if_neg (show ¬ (false = true) by decide)] at H;exact H
   clear H
   have H := H1
   clear H1
   obtain rfl := Option.some.inj H
   go_enter Try.func79, Try.ntmps79
   go_wp2_with (first|((with_reducible refine gate_dst (N := 2) rfl ?_);(try (refine gate_guard (by rfl) ?_;dsimp only));refine box_event ?hg (N := 2) ?hd (cs := #[.slice A0_0 l0_0.length c0_0, .slice A0_1 l0_1.length c0_1]) (t := 55) ?hr ?_;(case hd => rfl);(case hg => rfl);(case hr => first|(go_simp;done)|(go_simp;rfl));intro gb625 hg w15 hbox hb;have n0_ := Aside0.mk (below_step (by repeat (first|(with_reducible first|exact HB.out|apply below_alloc|apply pw_below_drewN|apply below_drew1)|exact HB.out)) hb);have n1_ := Aside0.mk (hbox);have n2_ := Aside0.mk ((by rw [hg];exact (below_size (by repeat (first|(with_reducible first|exact HB.out|apply below_alloc|apply pw_below_drewN|apply below_drew1)|exact HB.out))) : w.heap.size ≤ gb625));have n3_ := Aside0.mk ((by rw [hg];exact (below_size (by repeat (first|(with_reducible first|exact HB.out|apply below_alloc|apply pw_below_drewN|apply below_drew1)|exact HB.out))) : w.heap.size ≤ gb625));clear HB;have HB := n0_;have BK625 := n1_;have GW625 := n2_;have GE625 := n3_;clear n0_ n1_ n2_ n3_;clear hb hbox hg;have hcz16_0 : w15.cell? ⟨gb625, 0, none⟩ = some (.slice A0_0 l0_0.length c0_0) := (blk_cell BK625.out 0).trans rfl;have hcz16_1 : w15.cell? ⟨gb625, 1, none⟩ = some (.slice A0_1 l0_1.length c0_1) := (blk_cell BK625.out 1).trans rfl;have hfz16_0 := blk_frozen BK625.out 0;have hfz16_1 := blk_frozen BK625.out 1)|(go_at_call 55;(with_reducible refine (impl_within.calls a1 0 (wrap64 ((l0_0.length : Int) - 1)) false _ A5.out).mono ?_);rintro e w' ⟨rfl, ⟨nd, rfl⟩⟩))
   go_ret
   exact ⟨by first|rfl|(simp [errW_none, errW_some] <;> rfl)|(simp [*, errW_none, errW_some] <;> rfl), by repeat (first|(with_reducible first|exact HB.out|apply below_alloc|apply pw_below_drewN|apply below_drew1|refine below_set ?_ GE625.out)|exact HB.out)⟩

/-! ### impl_Forest_kid: function 165 -/
def impl_Forest_kid.f (xp0 : S55) (a1 : Int) (a2 : Int) : Option (Int) := if a1 = (-1) then (some (-1)) else (if 0 ≤ a1 then (if a1 < (((rd_T55 [xp0] 0).f0).length : Int) then (if 0 ≤ a2 then (if a2 < (((rd_T105 ((rd_T55 [xp0] 0).f0) a1).f2).length : Int) then (some (rd ((rd_T105 ((rd_T55 [xp0] 0).f0) a1).f2) a2)) else (none)) else (none)) else (none)) else (none))
theorem impl_Forest_kid.calls (adp0 : Addr) (xp0 : S55) (a1 : Int) (a2 : Int) (r : Int) (w : World) (hr0 : Kd.C k55 w (some adp0) 1 [xp0]) (h : impl_Forest_kid.f xp0 a1 a2 = some r) :
  Calls Try.prog 165 #[.pointer (some adp0), .int .i64 a1, .int .i64 a2] w fun e w' => e = .returned (.int .i64 r) ∧ Drawn0 w w' := by
 have HR0 := Aside0.mk hr0
 clear hr0
 have H : (if a1 = (-1) then (some (-1)) else (if 0 ≤ a1 then (if a1 < (((rd_T55 [xp0] 0).f0).length : Int) then (if 0 ≤ a2 then (if a2 < (((rd_T105 ((rd_T55 [xp0] 0).f0) a1).f2).length : Int) then (some (rd ((rd_T105 ((rd_T55 [xp0] 0).f0) a1).f2) a2)) else (none)) else (none)) else (none)) else (none))) = some r := h
 clear h
 by_cases c4 : a1 = (-1)
 · rw [if_pos c4] at H
  have c4b0 : (a1 == (-1)) = true := beq_iff_eq.mpr c4
  have c4b1 : (a1 != (-1)) = false := bne_eq_false_iff_eq.mpr c4
  clear c4
  obtain rfl := Option.some.inj H
  go_enter Try.func165, Try.ntmps165
  go_wp2
  go_ret
  exact ⟨by first|rfl|(simp;done)|(simp [*];done), by repeat (first|exact Drawn0.refl _|apply Drawn0.step)⟩
 · rw [if_neg c4] at H
  have c4b0 : (a1 == (-1)) = false := beq_eq_false_iff_ne.mpr c4
  have c4b1 : (a1 != (-1)) = true := bne_iff_ne.mpr c4
  by_cases c5 : 0 ≤ a1
  · rw [if_pos c5] at H
   have c5b0 : decide (0 ≤ a1) = true := decide_eq_true c5
   clear c5
   by_cases c6 : a1 < (((rd_T55 [xp0] 0).f0).length : Int)
   · rw [if_pos c6] at H
    have c6b0 : decide (a1 < (((rd_T55 [xp0] 0).f0).length : Int)) = true := decide_eq_true c6
    clear c6
    by_cases c7 : 0 ≤ a2
    · rw [if_pos c7] at H
     have c7b0 : decide (0 ≤ a2) = true := decide_eq_true c7
     clear c7
     by_cases c8 : a2 < (((rd_T105 ((rd_T55 [xp0] 0).f0) a1).f2).length : Int)
     · rw [if_pos c8] at H
      have c8b0 : decide (a2 < (((rd_T105 ((rd_T55 [xp0] 0).f0) a1).f2).length : Int)) = true := decide_eq_true c8
      clear c8
      obtain rfl := Option.some.inj H
      have p629 : 0 ≤ (0 : Int) := (by omega)
      have q629 : 0 < ([xp0].length : Int) := (by simp)
      obtain ⟨ad629, A629_0, c629_0, A629_1, c629_1, e629, hx629_0, hx629_1, hl629_0, hi629_0, hl629_1, hi629_1⟩ := at_T55 HR0.out 0 p629 q629
      obtain rfl : adp0 = ad629 := (by injection e629)
      (try rw [show ((0 : Int)).toNat = 0 from rfl] at hx629_0)
      (try rw [show 0 * 2 = 0 from rfl] at hx629_0)
      (try rw [Addr.add_zero'] at hx629_0)
      (try rw [show ((0 : Int)).toNat = 0 from rfl] at hx629_1)
      (try rw [show 0 * 2 = 0 from rfl] at hx629_1)
      (try rw [Addr.add_zero'] at hx629_1)
      have HR629_0 := Aside0.mk hi629_0
      have HC629_0 := Aside0.mk hl629_0
      clear hi629_0 hl629_0
      have HR629_1 := Aside0.mk hi629_1
      have HC629_1 := Aside0.mk hl629_1
      clear hi629_1 hl629_1
      replace p629 := eq_true p629
      replace q629 := eq_true q629
      have p630 : 0 ≤ (a1 : Int) := of_decide_eq_true (by first|(with_reducible assumption)|assumption)
      have q630 : a1 < (((rd_T55 [xp0] 0).f0).length : Int) := of_decide_eq_true (by first|(with_reducible assumption)|assumption)
      obtain ⟨ad630, A630_2, c630_2, e630, hx630_0, hx630_1, hx630_2, hl630_2, hi630_2⟩ := at_T105 HR629_0.out a1 p630 q630
      cases e630
      have HR630_2 := Aside0.mk hi630_2
      have HC630_2 := Aside0.mk hl630_2
      clear hi630_2 hl630_2
      replace p630 := eq_true p630
      replace q630 := eq_true q630
      have p631 : 0 ≤ (a2 : Int) := of_decide_eq_true (by first|(with_reducible assumption)|assumption)
      have q631 : a2 < (((rd_T105 ((rd_T55 [xp0] 0).f0) a1).f2).length : Int) := of_decide_eq_true (by first|(with_reducible assumption)|assumption)
      obtain ⟨ad631, e631, hx631_0⟩ := Kd.at_int HR630_2.out a2 p631 q631
      cases e631
      replace p631 := eq_true p631
      replace q631 := eq_true q631
      go_enter Try.func165, Try.ntmps165
      go_wp2
      go_ret
      exact ⟨by first|rfl|(simp;done)|(simp [*];done), by repeat (first|exact Drawn0.refl _|apply Drawn0.step)⟩
     · rw [if_neg c8] at H
      exact absurd H (by simp)
    · rw [if_neg c7] at H
     exact absurd H (by simp)
   · rw [if_neg c6] at H
    exact absurd H (by simp)
  · rw [if_neg c5] at H
   exact absurd H (by simp)

end Go.Proofs.Ytflddpkmajoeaaa.PP
