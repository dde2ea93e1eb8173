-- Laid by a program of this session's (wip/xprint.py) over the kit's print. Nothing in it is trusted: Lean checks it.
import Derived.Test.YtflddpkmajoeaaaPPx0
import Derived.Test.YtflddpkmajoeaaaPPx95
import Derived.Test.YtflddpkmajoeaaaPPx96
namespace Go.Proofs.Ytflddpkmajoeaaa.PP
open Go.RowKit Go.Proofs.YtflddpkmajoeaaaW.PrintWords Go.Proofs.YtflddpkmajoeaaaW.PrintLast Go.Proofs.YtflddpkmajoeaaaW.PrintMore
set_option maxHeartbeats 8000000
set_option maxRecDepth 100000
attribute [local go_sem] max2_int min2_int max_two min_two max_three min_three max_four min_four   -- for this text's walks alone
set_option linter.unusedVariables false
set_option linter.unusedSimpArgs false

/-! ### impl_volsFault: function 92 -/
mutual
def impl_volsFault.l0 : Nat → List (S93) → List (S93) → Int → Int → Option (Int)
 | 0, _, _, _, _ => none
 | k + 1, x0, x5, x6, x7 => if x7 < x6 then (if 0 ≤ x7 then (if x7 < (x5.length : Int) then ((impl_isId.f ((rd_T93 x5 x7).f0)).bind fun t938 => (if t938 = true then ((impl_isQuota.f ((rd_T93 x5 x7).f1)).bind fun t939 => (if t939 = true then (impl_volsFault.j1 k x0 x7 x5 x6 x7 (((rd_T93 x5 x7).f2) != (-1)) ((rd_T93 x5 x7).f0) ((rd_T93 x5 x7).f1) ((rd_T93 x5 x7).f2)) else (impl_volsFault.j1 k x0 x7 x5 x6 x7 true ((rd_T93 x5 x7).f0) ((rd_T93 x5 x7).f1) ((rd_T93 x5 x7).f2)))) else (impl_volsFault.j1 k x0 x7 x5 x6 x7 true ((rd_T93 x5 x7).f0) ((rd_T93 x5 x7).f1) ((rd_T93 x5 x7).f2)))) else (none)) else (none)) else (some 0)
def impl_volsFault.j1 : Nat → List (S93) → Int → List (S93) → Int → Int → Bool → Int → Int → Int → Option (Int)
 | 0, _, _, _, _, _, _, _, _, _ => none
 | k + 1, x0, x3, x5, x6, x7, x12, x938000, x938001, x938002 => if x12 = true then (some 3) else (if x3 > 0 then (if 0 ≤ (wrap64 (x3 - 1)) then (if (wrap64 (x3 - 1)) < (x0.length : Int) then (if x938000 ≤ ((rd_T93 x0 (wrap64 (x3 - 1))).f0) then (some 1) else (impl_volsFault.l0 k x0 x5 x6 (wrap64 (x7 + 1)))) else (none)) else (none)) else (impl_volsFault.l0 k x0 x5 x6 (wrap64 (x7 + 1))))
end
def impl_volsFault.f (k : Nat) (l0 : List (S93)) : Option (Int) := impl_volsFault.l0 k l0 l0 (l0.length : Int) 0
theorem impl_volsFault.mono_l : ∀ k, (∀ y0 y1 y2 y3, LeO (impl_volsFault.l0 k y0 y1 y2 y3) (impl_volsFault.l0 (k + 1) y0 y1 y2 y3)) ∧ (∀ y0 y1 y2 y3 y4 y5 y6 y7 y8, LeO (impl_volsFault.j1 k y0 y1 y2 y3 y4 y5 y6 y7 y8) (impl_volsFault.j1 (k + 1) y0 y1 y2 y3 y4 y5 y6 y7 y8))
 | 0 => ⟨fun _ _ _ _ r h => by simp [impl_volsFault.l0] at h, fun _ _ _ _ _ _ _ _ _ r h => by simp [impl_volsFault.j1] at h⟩
 | k + 1 => by
  obtain ⟨ih0, ih1⟩ := impl_volsFault.mono_l k
  refine ⟨?_, ?_⟩
  ·
   intro y0 y1 y2 y3
   unfold impl_volsFault.l0
   repeat' first
   | (with_reducible exact ih0 _ _ _ _)
   | (with_reducible exact ih1 _ _ _ _ _ _ _ _ _)
   | (with_reducible exact LeO.refl _)
   | (with_reducible exact LeO.none _)
   | (with_reducible refine LeO.ite ?_ ?_)
   | (with_reducible refine LeO.bind ?_ (fun _ => ?_))
   | exact ih0 _ _ _ _
   | exact ih1 _ _ _ _ _ _ _ _ _
   | exact LeO.none _
   | refine LeO.ite ?_ ?_
   | refine LeO.bind ?_ (fun _ => ?_)
  ·
   intro y0 y1 y2 y3 y4 y5 y6 y7 y8
   unfold impl_volsFault.j1
   repeat' first
   | (with_reducible exact ih0 _ _ _ _)
   | (with_reducible exact ih1 _ _ _ _ _ _ _ _ _)
   | (with_reducible exact LeO.refl _)
   | (with_reducible exact LeO.none _)
   | (with_reducible refine LeO.ite ?_ ?_)
   | (with_reducible refine LeO.bind ?_ (fun _ => ?_))
   | exact ih0 _ _ _ _
   | exact ih1 _ _ _ _ _ _ _ _ _
   | exact LeO.none _
   | refine LeO.ite ?_ ?_
   | refine LeO.bind ?_ (fun _ => ?_)
theorem impl_volsFault.mono : ∀ a0 k, LeO (impl_volsFault.f k a0) (impl_volsFault.f (k + 1) a0) := by
 intro a0 k
 obtain ⟨ih0, ih1⟩ := impl_volsFault.mono_l k
 unfold impl_volsFault.f
 repeat' first
   | (with_reducible exact ih0 _ _ _ _)
   | (with_reducible exact ih1 _ _ _ _ _ _ _ _ _)
   | (with_reducible exact LeO.refl _)
   | (with_reducible exact LeO.none _)
   | (with_reducible refine LeO.ite ?_ ?_)
   | (with_reducible refine LeO.bind ?_ (fun _ => ?_))
   | exact ih0 _ _ _ _
   | exact ih1 _ _ _ _ _ _ _ _ _
   | exact LeO.none _
   | refine LeO.ite ?_ ?_
   | refine LeO.bind ?_ (fun _ => ?_)
theorem impl_volsFault.calls (k : Nat) (A0 : Option Addr) (c0 : Nat) (l0 : List (S93)) (r : Int) (w : World) (hr0 : Kd.C k93 w A0 l0.length l0) (hc0 : l0.length ≤ c0) (h : impl_volsFault.f k l0 = some r) :
  Calls Try.prog 92 #[.slice A0 l0.length c0] w fun e w' => e = .returned (.int .i64 r) ∧ Below w.heap.size w w' := by
 have hu93 := Try.underlying93
 have HR0 := Aside0.mk hr0
 have HC0 := Aside0.mk hc0
 clear hr0 hc0
 have HB := Aside0.mk (Below.refl w.heap.size w)
 have H : (impl_volsFault.l0 k l0 l0 (l0.length : Int) 0) = some r := h
 clear h
 have H' := Aside0.mk H
 clear H
 go_enter Try.func92, Try.ntmps92
 go_wp2
 repeat (go_quiet (fail);try go_wp2)
 go_loopg [7] k (fun kq v7 w' => ∃ (x7_1 : Int), v7 = .int .i64 x7_1 ∧ Aside0 (impl_volsFault.l0 kq l0 l0 (l0.length : Int) x7_1 = some r) ∧ Aside0 (kq ≤ k) ∧ Aside0 (Below w.heap.size w w'))
 case atStart => exact ⟨(0), (by first|rfl|(simp;done)|(simp [*];done)), H', ⟨Nat.le_refl _⟩, ⟨by repeat (first|(with_reducible first|exact HB.out|apply below_alloc|apply pw_below_drewN|apply below_drew1)|exact HB.out)⟩⟩
 case round =>
  clear H'
  obtain ⟨x7_1, rfl, HA, HK1, HB⟩ := hrel
  cases gk with
  | zero => exact absurd HA.out (by simp [impl_volsFault.l0])
  | succ k1 =>
   have H := HA.out
   clear HA
   simp only [impl_volsFault.l0] at H
   by_cases c2 : x7_1 < (l0.length : Int)
   ·
    rw [if_pos c2] at H
    have c2b0 : decide (x7_1 < (l0.length : Int)) = true := decide_eq_true c2
    clear c2
    by_cases c3 : 0 ≤ x7_1
    ·
     rw [if_pos c3] at H
     have c3b0 : decide (0 ≤ x7_1) = true := decide_eq_true c3
     clear c3
     by_cases c4 : x7_1 < (l0.length : Int)
     ·
      rw [if_pos c4] at H
      have c4b0 : decide (x7_1 < (l0.length : Int)) = true := decide_eq_true c4
      clear c4
      have HC5 := Aside0.mk H
      clear H
      have p936 : 0 ≤ (x7_1 : Int) := of_decide_eq_true (by first|(with_reducible assumption)|assumption)
      have q936 : x7_1 < (l0.length : Int) := of_decide_eq_true (by first|(with_reducible assumption)|assumption)
      obtain ⟨ad936, e936, hx936_0, hx936_1, hx936_2⟩ := at_T93 HR0.out x7_1 p936 q936
      cases e936
      replace hx936_0 := (HB.out.cell (World.block_lt_of_cell? w _ hx936_0)).trans hx936_0
      replace hx936_1 := (HB.out.cell (World.block_lt_of_cell? w _ hx936_1)).trans hx936_1
      replace hx936_2 := (HB.out.cell (World.block_lt_of_cell? w _ hx936_2)).trans hx936_2
      replace p936 := eq_true p936
      replace q936 := eq_true q936
      go_upto_region 4 with (first|((with_reducible refine gate_dst (N := 4) rfl ?_);refine box_event ?hg (N := 4) ?hd (cs := #[.int .i64 0, .int .i64 0, .int .i64 0]) (t := 93) ?hr ?_;(case hd => rfl);(case hg => rfl);(case hr => first|(go_simp;done)|(go_simp;rfl));intro gb937 hg w6 hbox hb;have n0_ := Aside0.mk (below_step (by repeat (first|(with_reducible first|exact HB.out|apply below_alloc|apply pw_below_drewN|apply below_drew1)|exact HB.out)) hb);have n1_ := Aside0.mk (hbox);have n2_ := Aside0.mk ((by rw [hg];exact (below_size (by repeat (first|(with_reducible first|exact HB.out|apply below_alloc|apply pw_below_drewN|apply below_drew1)|exact HB.out))) : w.heap.size ≤ gb937));have n3_ := Aside0.mk ((by rw [hg];exact (below_size (by repeat (first|(with_reducible first|exact HB.out|apply below_alloc|apply pw_below_drewN|apply below_drew1)|exact HB.out))) : w.heap.size ≤ gb937));clear HB;have HB := n0_;have BK937 := n1_;have GW937 := n2_;have GE937 := n3_;clear n0_ n1_ n2_ n3_;clear hb hbox hg;have hcz7_0 : w6.cell? ⟨gb937, 0, none⟩ = some (.int .i64 0) := (blk_cell BK937.out 0).trans rfl;have hcz7_1 : w6.cell? ⟨gb937, 1, none⟩ = some (.int .i64 0) := (blk_cell BK937.out 1).trans rfl;have hcz7_2 : w6.cell? ⟨gb937, 2, none⟩ = some (.int .i64 0) := (blk_cell BK937.out 2).trans rfl;have hfz7_0 := blk_frozen BK937.out 0;have hfz7_1 := blk_frozen BK937.out 1;have hfz7_2 := blk_frozen BK937.out 2))
      repeat (go_quiet (first|((with_reducible refine gate_dst (N := 4) rfl ?_);refine box_event ?hg (N := 4) ?hd (cs := #[.int .i64 0, .int .i64 0, .int .i64 0]) (t := 93) ?hr ?_;(case hd => rfl);(case hg => rfl);(case hr => first|(go_simp;done)|(go_simp;rfl));intro gb937 hg w6 hbox hb;have n0_ := Aside0.mk (below_step (by repeat (first|(with_reducible first|exact HB.out|apply below_alloc|apply pw_below_drewN|apply below_drew1)|exact HB.out)) hb);have n1_ := Aside0.mk (hbox);have n2_ := Aside0.mk ((by rw [hg];exact (below_size (by repeat (first|(with_reducible first|exact HB.out|apply below_alloc|apply pw_below_drewN|apply below_drew1)|exact HB.out))) : w.heap.size ≤ gb937));have n3_ := Aside0.mk ((by rw [hg];exact (below_size (by repeat (first|(with_reducible first|exact HB.out|apply below_alloc|apply pw_below_drewN|apply below_drew1)|exact HB.out))) : w.heap.size ≤ gb937));clear HB;have HB := n0_;have BK937 := n1_;have GW937 := n2_;have GE937 := n3_;clear n0_ n1_ n2_ n3_;clear hb hbox hg;have hcz7_0 : w6.cell? ⟨gb937, 0, none⟩ = some (.int .i64 0) := (blk_cell BK937.out 0).trans rfl;have hcz7_1 : w6.cell? ⟨gb937, 1, none⟩ = some (.int .i64 0) := (blk_cell BK937.out 1).trans rfl;have hcz7_2 : w6.cell? ⟨gb937, 2, none⟩ = some (.int .i64 0) := (blk_cell BK937.out 2).trans rfl;have hfz7_0 := blk_frozen BK937.out 0;have hfz7_1 := blk_frozen BK937.out 1;have hfz7_2 := blk_frozen BK937.out 2));go_upto_region 4 with (first|((with_reducible refine gate_dst (N := 4) rfl ?_);refine box_event ?hg (N := 4) ?hd (cs := #[.int .i64 0, .int .i64 0, .int .i64 0]) (t := 93) ?hr ?_;(case hd => rfl);(case hg => rfl);(case hr => first|(go_simp;done)|(go_simp;rfl));intro gb937 hg w6 hbox hb;have n0_ := Aside0.mk (below_step (by repeat (first|(with_reducible first|exact HB.out|apply below_alloc|apply pw_below_drewN|apply below_drew1)|exact HB.out)) hb);have n1_ := Aside0.mk (hbox);have n2_ := Aside0.mk ((by rw [hg];exact (below_size (by repeat (first|(with_reducible first|exact HB.out|apply below_alloc|apply pw_below_drewN|apply below_drew1)|exact HB.out))) : w.heap.size ≤ gb937));have n3_ := Aside0.mk ((by rw [hg];exact (below_size (by repeat (first|(with_reducible first|exact HB.out|apply below_alloc|apply pw_below_drewN|apply below_drew1)|exact HB.out))) : w.heap.size ≤ gb937));clear HB;have HB := n0_;have BK937 := n1_;have GW937 := n2_;have GE937 := n3_;clear n0_ n1_ n2_ n3_;clear hb hbox hg;have hcz7_0 : w6.cell? ⟨gb937, 0, none⟩ = some (.int .i64 0) := (blk_cell BK937.out 0).trans rfl;have hcz7_1 : w6.cell? ⟨gb937, 1, none⟩ = some (.int .i64 0) := (blk_cell BK937.out 1).trans rfl;have hcz7_2 : w6.cell? ⟨gb937, 2, none⟩ = some (.int .i64 0) := (blk_cell BK937.out 2).trans rfl;have hfz7_0 := blk_frozen BK937.out 0;have hfz7_1 := blk_frozen BK937.out 1;have hfz7_2 := blk_frozen BK937.out 2)))
      (try simp only [Act.put, List.setIfInBounds_toArray, List.set_cons_zero, List.set_cons_succ])
      go_cut [12] (fun v12 wc => ∃ (kq : Nat) (x12_4 : Bool), v12 = .bool x12_4 ∧ Aside0 (impl_volsFault.j1 kq l0 x7_1 l0 (l0.length : Int) x7_1 x12_4 ((rd_T93 l0 x7_1).f0) ((rd_T93 l0 x7_1).f1) ((rd_T93 l0 x7_1).f2) = some r) ∧ Aside0 (kq ≤ k1) ∧ Aside0 (wc.heap[gb937]? = some (.cells #[.int .i64 ((rd_T93 l0 x7_1).f0), .int .i64 ((rd_T93 l0 x7_1).f1), .int .i64 ((rd_T93 l0 x7_1).f2)] 93 (0, 0))) ∧ Aside0 (Below w.heap.size w wc))
      case first =>
       have H := HC5.out
       clear HC5
       replace H := Option.bind_eq_some_iff.mp H
       obtain ⟨t938, A80, H⟩ := H
       replace H : (if t938 = true then ((impl_isQuota.f ((rd_T93 l0 x7_1).f1)).bind fun t939 => (if t939 = true then (impl_volsFault.j1 k1 l0 x7_1 l0 (l0.length : Int) x7_1 (((rd_T93 l0 x7_1).f2) != (-1)) ((rd_T93 l0 x7_1).f0) ((rd_T93 l0 x7_1).f1) ((rd_T93 l0 x7_1).f2)) else (impl_volsFault.j1 k1 l0 x7_1 l0 (l0.length : Int) x7_1 true ((rd_T93 l0 x7_1).f0) ((rd_T93 l0 x7_1).f1) ((rd_T93 l0 x7_1).f2)))) else (impl_volsFault.j1 k1 l0 x7_1 l0 (l0.length : Int) x7_1 true ((rd_T93 l0 x7_1).f0) ((rd_T93 l0 x7_1).f1) ((rd_T93 l0 x7_1).f2))) = some r := H
       have A8 := Aside0.mk A80
       clear A80
       by_cases c9 : t938 = true
       ·
        subst c9
        have H1 : ((impl_isQuota.f ((rd_T93 l0 x7_1).f1)).bind fun t939 => (if t939 = true then (impl_volsFault.j1 k1 l0 x7_1 l0 (l0.length : Int) x7_1 (((rd_T93 l0 x7_1).f2) != (-1)) ((rd_T93 l0 x7_1).f0) ((rd_T93 l0 x7_1).f1) ((rd_T93 l0 x7_1).f2)) else (impl_volsFault.j1 k1 l0 x7_1 l0 (l0.length : Int) x7_1 true ((rd_T93 l0 x7_1).f0) ((rd_T93 l0 x7_1).f1) ((rd_T93 l0 x7_1).f2)))) = some r := by rw [if_pos rfl] at H;exact H
        clear H
        have H := H1
        clear H1
        replace H := Option.bind_eq_some_iff.mp H
        obtain ⟨t939, A100, H⟩ := H
        replace H : (if t939 = true then (impl_volsFault.j1 k1 l0 x7_1 l0 (l0.length : Int) x7_1 (((rd_T93 l0 x7_1).f2) != (-1)) ((rd_T93 l0 x7_1).f0) ((rd_T93 l0 x7_1).f1) ((rd_T93 l0 x7_1).f2)) else (impl_volsFault.j1 k1 l0 x7_1 l0 (l0.length : Int) x7_1 true ((rd_T93 l0 x7_1).f0) ((rd_T93 l0 x7_1).f1) ((rd_T93 l0 x7_1).f2))) = some r := H
        have A10 := Aside0.mk A100
        clear A100
        by_cases c11 : t939 = true
        ·
         subst c11
         have H1 : (impl_volsFault.j1 k1 l0 x7_1 l0 (l0.length : Int) x7_1 (((rd_T93 l0 x7_1).f2) != (-1)) ((rd_T93 l0 x7_1).f0) ((rd_T93 l0 x7_1).f1) ((rd_T93 l0 x7_1).f2)) = some r := by rw [if_pos rfl] at H;exact H
         clear H
         have H := H1
         clear H1
         have H' := Aside0.mk H
         clear H
         have hcz12_0 : w6.cell? ⟨gb937, 0, none⟩ = some (.int .i64 0) := (blk_cell BK937.out 0).trans rfl
         have hcz12_1 : w6.cell? ⟨gb937, 1, none⟩ = some (.int .i64 0) := (blk_cell BK937.out 1).trans rfl
         have hcz12_2 : w6.cell? ⟨gb937, 2, none⟩ = some (.int .i64 0) := (blk_cell BK937.out 2).trans rfl
         have hfz12_0 := blk_frozen BK937.out 0
         have hfz12_1 := blk_frozen BK937.out 1
         have hfz12_2 := blk_frozen BK937.out 2
         go_wp2_with (first|(go_at_call 77;(with_reducible refine (impl_isId.calls ((rd_T93 l0 x7_1).f0) true _ A8.out).mono ?_);rintro e w' ⟨rfl, ⟨nd, rfl⟩⟩;(try first|exact ⟨rfl, _, World.drewN_drewN _ _ _⟩|exact ⟨rfl, _, Eq.trans (World.drewN_drewN _ _ _) (congrArg (World.drewN _) (Nat.add_assoc _ _ _))⟩))|(go_at_call 78;(with_reducible refine (impl_isQuota.calls ((rd_T93 l0 x7_1).f1) true _ A10.out).mono ?_);rintro e w' ⟨rfl, ⟨nd, rfl⟩⟩;(try first|exact ⟨rfl, _, World.drewN_drewN _ _ _⟩|exact ⟨rfl, _, Eq.trans (World.drewN_drewN _ _ _) (congrArg (World.drewN _) (Nat.add_assoc _ _ _))⟩)))
         repeat (go_quiet (first|(go_at_call 77;(with_reducible refine (impl_isId.calls ((rd_T93 l0 x7_1).f0) true _ A8.out).mono ?_);rintro e w' ⟨rfl, ⟨nd, rfl⟩⟩;(try first|exact ⟨rfl, _, World.drewN_drewN _ _ _⟩|exact ⟨rfl, _, Eq.trans (World.drewN_drewN _ _ _) (congrArg (World.drewN _) (Nat.add_assoc _ _ _))⟩))|(go_at_call 78;(with_reducible refine (impl_isQuota.calls ((rd_T93 l0 x7_1).f1) true _ A10.out).mono ?_);rintro e w' ⟨rfl, ⟨nd, rfl⟩⟩;(try first|exact ⟨rfl, _, World.drewN_drewN _ _ _⟩|exact ⟨rfl, _, Eq.trans (World.drewN_drewN _ _ _) (congrArg (World.drewN _) (Nat.add_assoc _ _ _))⟩)));try go_wp2_with (first|(go_at_call 77;(with_reducible refine (impl_isId.calls ((rd_T93 l0 x7_1).f0) true _ A8.out).mono ?_);rintro e w' ⟨rfl, ⟨nd, rfl⟩⟩;(try first|exact ⟨rfl, _, World.drewN_drewN _ _ _⟩|exact ⟨rfl, _, Eq.trans (World.drewN_drewN _ _ _) (congrArg (World.drewN _) (Nat.add_assoc _ _ _))⟩))|(go_at_call 78;(with_reducible refine (impl_isQuota.calls ((rd_T93 l0 x7_1).f1) true _ A10.out).mono ?_);rintro e w' ⟨rfl, ⟨nd, rfl⟩⟩;(try first|exact ⟨rfl, _, World.drewN_drewN _ _ _⟩|exact ⟨rfl, _, Eq.trans (World.drewN_drewN _ _ _) (congrArg (World.drewN _) (Nat.add_assoc _ _ _))⟩))))
         go_meet
         case rel => exact ⟨_, ((((rd_T93 l0 x7_1).f2) != (-1))), (by first|rfl|(simp;done)|(simp [*];done)), H', ⟨by have := HK1.out;first|omega|exact Nat.le_refl _⟩, ⟨by (with_reducible repeat (first|refine blk_drewN ?_ _|refine blk_drew ?_|refine blk_alloc ?_ _));refine blk_put (cs := #[.int .i64 ((rd_T93 l0 x7_1).f0), .int .i64 ((rd_T93 l0 x7_1).f1), .int .i64 0]) ?_ 2 _ rfl;(with_reducible repeat (first|refine blk_drewN ?_ _|refine blk_drew ?_|refine blk_alloc ?_ _));refine blk_put (cs := #[.int .i64 ((rd_T93 l0 x7_1).f0), .int .i64 0, .int .i64 0]) ?_ 1 _ rfl;(with_reducible repeat (first|refine blk_drewN ?_ _|refine blk_drew ?_|refine blk_alloc ?_ _));refine blk_put (cs := #[.int .i64 0, .int .i64 0, .int .i64 0]) ?_ 0 _ rfl;(with_reducible repeat (first|refine blk_drewN ?_ _|refine blk_drew ?_|refine blk_alloc ?_ _));exact BK937.out⟩, ⟨by repeat (first|(with_reducible first|exact HB.out|apply below_alloc|apply pw_below_drewN|apply below_drew1|refine below_set ?_ GE937.out)|exact HB.out)⟩⟩
        ·
         replace c11 := Bool.eq_false_iff.mpr c11
         subst c11
         have H1 : (impl_volsFault.j1 k1 l0 x7_1 l0 (l0.length : Int) x7_1 true ((rd_T93 l0 x7_1).f0) ((rd_T93 l0 x7_1).f1) ((rd_T93 l0 x7_1).f2)) = some r := by rw [if_neg (show ¬ (false = true) by decide)] at H;exact H
         clear H
         have H := H1
         clear H1
         have H' := Aside0.mk H
         clear H
         have hcz13_0 : w6.cell? ⟨gb937, 0, none⟩ = some (.int .i64 0) := (blk_cell BK937.out 0).trans rfl
         have hcz13_1 : w6.cell? ⟨gb937, 1, none⟩ = some (.int .i64 0) := (blk_cell BK937.out 1).trans rfl
         have hcz13_2 : w6.cell? ⟨gb937, 2, none⟩ = some (.int .i64 0) := (blk_cell BK937.out 2).trans rfl
         have hfz13_0 := blk_frozen BK937.out 0
         have hfz13_1 := blk_frozen BK937.out 1
         have hfz13_2 := blk_frozen BK937.out 2
         go_wp2_with (first|(go_at_call 77;(with_reducible refine (impl_isId.calls ((rd_T93 l0 x7_1).f0) true _ A8.out).mono ?_);rintro e w' ⟨rfl, ⟨nd, rfl⟩⟩;(try first|exact ⟨rfl, _, World.drewN_drewN _ _ _⟩|exact ⟨rfl, _, Eq.trans (World.drewN_drewN _ _ _) (congrArg (World.drewN _) (Nat.add_assoc _ _ _))⟩))|(go_at_call 78;(with_reducible refine (impl_isQuota.calls ((rd_T93 l0 x7_1).f1) false _ A10.out).mono ?_);rintro e w' ⟨rfl, ⟨nd, rfl⟩⟩;(try first|exact ⟨rfl, _, World.drewN_drewN _ _ _⟩|exact ⟨rfl, _, Eq.trans (World.drewN_drewN _ _ _) (congrArg (World.drewN _) (Nat.add_assoc _ _ _))⟩)))
         repeat (go_quiet (first|(go_at_call 77;(with_reducible refine (impl_isId.calls ((rd_T93 l0 x7_1).f0) true _ A8.out).mono ?_);rintro e w' ⟨rfl, ⟨nd, rfl⟩⟩;(try first|exact ⟨rfl, _, World.drewN_drewN _ _ _⟩|exact ⟨rfl, _, Eq.trans (World.drewN_drewN _ _ _) (congrArg (World.drewN _) (Nat.add_assoc _ _ _))⟩))|(go_at_call 78;(with_reducible refine (impl_isQuota.calls ((rd_T93 l0 x7_1).f1) false _ A10.out).mono ?_);rintro e w' ⟨rfl, ⟨nd, rfl⟩⟩;(try first|exact ⟨rfl, _, World.drewN_drewN _ _ _⟩|exact ⟨rfl, _, Eq.trans (World.drewN_drewN _ _ _) (congrArg (World.drewN _) (Nat.add_assoc _ _ _))⟩)));try go_wp2_with (first|(go_at_call 77;(with_reducible refine (impl_isId.calls ((rd_T93 l0 x7_1).f0) true _ A8.out).mono ?_);rintro e w' ⟨rfl, ⟨nd, rfl⟩⟩;(try first|exact ⟨rfl, _, World.drewN_drewN _ _ _⟩|exact ⟨rfl, _, Eq.trans (World.drewN_drewN _ _ _) (congrArg (World.drewN _) (Nat.add_assoc _ _ _))⟩))|(go_at_call 78;(with_reducible refine (impl_isQuota.calls ((rd_T93 l0 x7_1).f1) false _ A10.out).mono ?_);rintro e w' ⟨rfl, ⟨nd, rfl⟩⟩;(try first|exact ⟨rfl, _, World.drewN_drewN _ _ _⟩|exact ⟨rfl, _, Eq.trans (World.drewN_drewN _ _ _) (congrArg (World.drewN _) (Nat.add_assoc _ _ _))⟩))))
         go_meet
         case rel => exact ⟨_, (true), (by first|rfl|(simp;done)|(simp [*];done)), H', ⟨by have := HK1.out;first|omega|exact Nat.le_refl _⟩, ⟨by (with_reducible repeat (first|refine blk_drewN ?_ _|refine blk_drew ?_|refine blk_alloc ?_ _));refine blk_put (cs := #[.int .i64 ((rd_T93 l0 x7_1).f0), .int .i64 ((rd_T93 l0 x7_1).f1), .int .i64 0]) ?_ 2 _ rfl;(with_reducible repeat (first|refine blk_drewN ?_ _|refine blk_drew ?_|refine blk_alloc ?_ _));refine blk_put (cs := #[.int .i64 ((rd_T93 l0 x7_1).f0), .int .i64 0, .int .i64 0]) ?_ 1 _ rfl;(with_reducible repeat (first|refine blk_drewN ?_ _|refine blk_drew ?_|refine blk_alloc ?_ _));refine blk_put (cs := #[.int .i64 0, .int .i64 0, .int .i64 0]) ?_ 0 _ rfl;(with_reducible repeat (first|refine blk_drewN ?_ _|refine blk_drew ?_|refine blk_alloc ?_ _));exact BK937.out⟩, ⟨by repeat (first|(with_reducible first|exact HB.out|apply below_alloc|apply pw_below_drewN|apply below_drew1|refine below_set ?_ GE937.out)|exact HB.out)⟩⟩
       ·
        replace c9 := Bool.eq_false_iff.mpr c9
        subst c9
        have H1 : (impl_volsFault.j1 k1 l0 x7_1 l0 (l0.length : Int) x7_1 true ((rd_T93 l0 x7_1).f0) ((rd_T93 l0 x7_1).f1) ((rd_T93 l0 x7_1).f2)) = some r := by rw [if_neg (show ¬ (false = true) by decide)] at H;exact H
        clear H
        have H := H1
        clear H1
        have H' := Aside0.mk H
        clear H
        have hcz14_0 : w6.cell? ⟨gb937, 0, none⟩ = some (.int .i64 0) := (blk_cell BK937.out 0).trans rfl
        have hcz14_1 : w6.cell? ⟨gb937, 1, none⟩ = some (.int .i64 0) := (blk_cell BK937.out 1).trans rfl
        have hcz14_2 : w6.cell? ⟨gb937, 2, none⟩ = some (.int .i64 0) := (blk_cell BK937.out 2).trans rfl
        have hfz14_0 := blk_frozen BK937.out 0
        have hfz14_1 := blk_frozen BK937.out 1
        have hfz14_2 := blk_frozen BK937.out 2
        go_wp2_with (first|(go_at_call 77;(with_reducible refine (impl_isId.calls ((rd_T93 l0 x7_1).f0) false _ A8.out).mono ?_);rintro e w' ⟨rfl, ⟨nd, rfl⟩⟩;(try first|exact ⟨rfl, _, World.drewN_drewN _ _ _⟩|exact ⟨rfl, _, Eq.trans (World.drewN_drewN _ _ _) (congrArg (World.drewN _) (Nat.add_assoc _ _ _))⟩)))
        repeat (go_quiet (first|(go_at_call 77;(with_reducible refine (impl_isId.calls ((rd_T93 l0 x7_1).f0) false _ A8.out).mono ?_);rintro e w' ⟨rfl, ⟨nd, rfl⟩⟩;(try first|exact ⟨rfl, _, World.drewN_drewN _ _ _⟩|exact ⟨rfl, _, Eq.trans (World.drewN_drewN _ _ _) (congrArg (World.drewN _) (Nat.add_assoc _ _ _))⟩)));try go_wp2_with (first|(go_at_call 77;(with_reducible refine (impl_isId.calls ((rd_T93 l0 x7_1).f0) false _ A8.out).mono ?_);rintro e w' ⟨rfl, ⟨nd, rfl⟩⟩;(try first|exact ⟨rfl, _, World.drewN_drewN _ _ _⟩|exact ⟨rfl, _, Eq.trans (World.drewN_drewN _ _ _) (congrArg (World.drewN _) (Nat.add_assoc _ _ _))⟩))))
        go_meet
        case rel => exact ⟨_, (true), (by first|rfl|(simp;done)|(simp [*];done)), H', ⟨by have := HK1.out;first|omega|exact Nat.le_refl _⟩, ⟨by (with_reducible repeat (first|refine blk_drewN ?_ _|refine blk_drew ?_|refine blk_alloc ?_ _));refine blk_put (cs := #[.int .i64 ((rd_T93 l0 x7_1).f0), .int .i64 ((rd_T93 l0 x7_1).f1), .int .i64 0]) ?_ 2 _ rfl;(with_reducible repeat (first|refine blk_drewN ?_ _|refine blk_drew ?_|refine blk_alloc ?_ _));refine blk_put (cs := #[.int .i64 ((rd_T93 l0 x7_1).f0), .int .i64 0, .int .i64 0]) ?_ 1 _ rfl;(with_reducible repeat (first|refine blk_drewN ?_ _|refine blk_drew ?_|refine blk_alloc ?_ _));refine blk_put (cs := #[.int .i64 0, .int .i64 0, .int .i64 0]) ?_ 0 _ rfl;(with_reducible repeat (first|refine blk_drewN ?_ _|refine blk_drew ?_|refine blk_alloc ?_ _));exact BK937.out⟩, ⟨by repeat (first|(with_reducible first|exact HB.out|apply below_alloc|apply pw_below_drewN|apply below_drew1|refine below_set ?_ GE937.out)|exact HB.out)⟩⟩
      case rest =>
       clear HC5
       try clear c1
       try clear c2
       try clear c2b0
       try clear p2
       try clear c3
       try clear c3b0
       try clear c4
       try clear c4b0
       try clear c9
       try clear p9
       try clear q9
       try clear hx9
       try clear c11
       try clear hcz12_0
       try clear hcz12_1
       try clear hcz12_2
       try clear hcz13_0
       try clear hcz13_1
       try clear hcz13_2
       try clear hcz14_0
       try clear hcz14_1
       try clear hcz14_2
       try clear hcz7_0
       try clear hcz7_1
       try clear hcz7_2
       try clear hfz12_0
       try clear hfz12_1
       try clear hfz12_2
       try clear hfz13_0
       try clear hfz13_1
       try clear hfz13_2
       try clear hfz14_0
       try clear hfz14_1
       try clear hfz14_2
       try clear hfz7_0
       try clear hfz7_1
       try clear hfz7_2
       try clear hx936_0
       try clear hx936_1
       try clear hx936_2
       try clear p936
       try clear q936
       obtain ⟨kq, x12_4, rfl, HA, HJ4, BK937, HB⟩ := hcut
       cases kq with
       | zero => exact absurd HA.out (by simp [impl_volsFault.j1])
       | succ kj4 =>
        have H := HA.out
        clear HA
        simp only [impl_volsFault.j1] at H
        by_cases c15 : x12_4 = true
        ·
         subst c15
         have H1 : (some 3) = some r := by rw [if_pos rfl] at H;exact H
         clear H
         have H := H1
         clear H1
         obtain rfl := Option.some.inj H
         go_wp2
         repeat (go_quiet (fail);try go_wp2)
         go_ret
         exact ⟨by first|rfl|(simp [errW_none, errW_some] <;> rfl)|(simp [*, errW_none, errW_some] <;> rfl), by repeat (first|(with_reducible first|exact HB.out|apply below_alloc|apply pw_below_drewN|apply below_drew1|refine below_set ?_ GE937.out)|exact HB.out)⟩
        ·
         replace c15 := Bool.eq_false_iff.mpr c15
         subst c15
         have H1 : (if x7_1 > 0 then (if 0 ≤ (wrap64 (x7_1 - 1)) then (if (wrap64 (x7_1 - 1)) < (l0.length : Int) then (if ((rd_T93 l0 x7_1).f0) ≤ ((rd_T93 l0 (wrap64 (x7_1 - 1))).f0) then (some 1) else (impl_volsFault.l0 kj4 l0 l0 (l0.length : Int) (wrap64 (x7_1 + 1)))) else (none)) else (none)) else (impl_volsFault.l0 kj4 l0 l0 (l0.length : Int) (wrap64 (x7_1 + 1)))) = some r := by rw [if_neg (show ¬ (false = true) by decide)] at H;exact H
         clear H
         have H := H1
         clear H1
         by_cases c16 : x7_1 > 0
         ·
          rw [if_pos c16] at H
          have c16b0 : decide (0 < x7_1) = true := decide_eq_true c16
          clear c16
          obtain ⟨ji17, hji17⟩ : ∃ j_ : Int, (wrap64 (x7_1 - 1)) = j_ := ⟨_, rfl⟩
          replace H : (if 0 ≤ (ji17) then (if (ji17) < (l0.length : Int) then (if ((rd_T93 l0 x7_1).f0) ≤ ((rd_T93 l0 (ji17)).f0) then (some 1) else (impl_volsFault.l0 kj4 l0 l0 (l0.length : Int) (wrap64 (x7_1 + 1)))) else (none)) else (none)) = some r := by first|(rw [hji17] at H;exact H)|(simp only [hji17] at H ⊢;exact H)
          have hji17w : (IntKind.i64.wrap (x7_1 - 1)) = ji17 := (i64_w _).trans hji17
          by_cases c18 : 0 ≤ (ji17)
          ·
           rw [if_pos c18] at H
           have c18b0 : decide (0 ≤ (ji17)) = true := decide_eq_true c18
           clear c18
           by_cases c19 : (ji17) < (l0.length : Int)
           ·
            rw [if_pos c19] at H
            have c19b0 : decide ((ji17) < (l0.length : Int)) = true := decide_eq_true c19
            clear c19
            by_cases c20 : ((rd_T93 l0 x7_1).f0) ≤ ((rd_T93 l0 (ji17)).f0)
            ·
             rw [if_pos c20] at H
             have c20b0 : decide (((rd_T93 l0 x7_1).f0) ≤ ((rd_T93 l0 (ji17)).f0)) = true := decide_eq_true c20
             clear c20
             obtain rfl := Option.some.inj H
             have hcz21_0 : wc.cell? ⟨gb937, 0, none⟩ = some (.int .i64 ((rd_T93 l0 x7_1).f0)) := (blk_cell BK937.out 0).trans rfl
             have hcz21_1 : wc.cell? ⟨gb937, 1, none⟩ = some (.int .i64 ((rd_T93 l0 x7_1).f1)) := (blk_cell BK937.out 1).trans rfl
             have hcz21_2 : wc.cell? ⟨gb937, 2, none⟩ = some (.int .i64 ((rd_T93 l0 x7_1).f2)) := (blk_cell BK937.out 2).trans rfl
             have hfz21_0 := blk_frozen BK937.out 0
             have hfz21_1 := blk_frozen BK937.out 1
             have hfz21_2 := blk_frozen BK937.out 2
             have p940 : 0 ≤ ((ji17) : Int) := of_decide_eq_true (by first|(with_reducible assumption)|assumption)
             have q940 : (ji17) < (l0.length : Int) := of_decide_eq_true (by first|(with_reducible assumption)|assumption)
             obtain ⟨ad940, e940, hx940_0, hx940_1, hx940_2⟩ := at_T93 HR0.out (ji17) p940 q940
             obtain rfl : ad936 = ad940 := (by injection e940)
             replace hx940_0 := (HB.out.cell (World.block_lt_of_cell? w _ hx940_0)).trans hx940_0
             replace hx940_1 := (HB.out.cell (World.block_lt_of_cell? w _ hx940_1)).trans hx940_1
             replace hx940_2 := (HB.out.cell (World.block_lt_of_cell? w _ hx940_2)).trans hx940_2
             replace p940 := eq_true p940
             replace q940 := eq_true q940
             go_wp2
             repeat (go_quiet (fail);try go_wp2)
             go_ret
             exact ⟨by first|rfl|(simp [errW_none, errW_some] <;> rfl)|(simp only [← hji17];first|rfl|(simp [errW_none, errW_some] <;> rfl))|(simp [*, errW_none, errW_some] <;> rfl), by repeat (first|(with_reducible first|exact HB.out|apply below_alloc|apply pw_below_drewN|apply below_drew1|refine below_set ?_ GE937.out)|exact HB.out)⟩
            ·
             rw [if_neg c20] at H
             have c20b0 : decide (((rd_T93 l0 x7_1).f0) ≤ ((rd_T93 l0 (ji17)).f0)) = false := decide_eq_false c20
             clear c20
             have H' := Aside0.mk H
             clear H
             have hcz22_0 : wc.cell? ⟨gb937, 0, none⟩ = some (.int .i64 ((rd_T93 l0 x7_1).f0)) := (blk_cell BK937.out 0).trans rfl
             have hcz22_1 : wc.cell? ⟨gb937, 1, none⟩ = some (.int .i64 ((rd_T93 l0 x7_1).f1)) := (blk_cell BK937.out 1).trans rfl
             have hcz22_2 : wc.cell? ⟨gb937, 2, none⟩ = some (.int .i64 ((rd_T93 l0 x7_1).f2)) := (blk_cell BK937.out 2).trans rfl
             have hfz22_0 := blk_frozen BK937.out 0
             have hfz22_1 := blk_frozen BK937.out 1
             have hfz22_2 := blk_frozen BK937.out 2
             have p940 : 0 ≤ ((ji17) : Int) := of_decide_eq_true (by first|(with_reducible assumption)|assumption)
             have q940 : (ji17) < (l0.length : Int) := of_decide_eq_true (by first|(with_reducible assumption)|assumption)
             obtain ⟨ad940, e940, hx940_0, hx940_1, hx940_2⟩ := at_T93 HR0.out (ji17) p940 q940
             obtain rfl : ad936 = ad940 := (by injection e940)
             replace hx940_0 := (HB.out.cell (World.block_lt_of_cell? w _ hx940_0)).trans hx940_0
             replace hx940_1 := (HB.out.cell (World.block_lt_of_cell? w _ hx940_1)).trans hx940_1
             replace hx940_2 := (HB.out.cell (World.block_lt_of_cell? w _ hx940_2)).trans hx940_2
             replace p940 := eq_true p940
             replace q940 := eq_true q940
             go_wp2
             repeat (go_quiet (fail);try go_wp2)
             go_roundg kj4
             case measure => have := HK1.out;have := HJ4.out;omega
             case rel => exact ⟨(wrap64 (x7_1 + 1)), (by first|rfl|(simp;done)|(simp [*];done)), H', ⟨by have := HK1.out;have := HJ4.out;omega⟩, ⟨by repeat (first|(with_reducible first|exact HB.out|apply below_alloc|apply pw_below_drewN|apply below_drew1|refine below_set ?_ GE937.out)|exact HB.out)⟩⟩
           ·
            rw [if_neg c19] at H
            exact absurd H (by simp)
          ·
           rw [if_neg c18] at H
           exact absurd H (by simp)
         ·
          rw [if_neg c16] at H
          have c16b0 : decide (0 < x7_1) = false := decide_eq_false c16
          clear c16
          have H' := Aside0.mk H
          clear H
          go_wp2
          repeat (go_quiet (fail);try go_wp2)
          go_roundg kj4
          case measure => have := HK1.out;have := HJ4.out;omega
          case rel => exact ⟨(wrap64 (x7_1 + 1)), (by first|rfl|(simp;done)|(simp [*];done)), H', ⟨by have := HK1.out;have := HJ4.out;omega⟩, ⟨by repeat (first|(with_reducible first|exact HB.out|apply below_alloc|apply pw_below_drewN|apply below_drew1|refine below_set ?_ GE937.out)|exact HB.out)⟩⟩
     ·
      rw [if_neg c4] at H
      exact absurd H (by simp)
    ·
     rw [if_neg c3] at H
     exact absurd H (by simp)
   ·
    rw [if_neg c2] at H
    have c2b0 : decide (x7_1 < (l0.length : Int)) = false := decide_eq_false c2
    clear c2
    obtain rfl := Option.some.inj H
    go_wp2
    repeat (go_quiet (fail);try go_wp2)
    go_ret
    exact ⟨by first|rfl|(simp [errW_none, errW_some] <;> rfl)|(simp [*, errW_none, errW_some] <;> rfl), by repeat (first|(with_reducible first|exact HB.out|apply below_alloc|apply pw_below_drewN|apply below_drew1)|exact HB.out)⟩

end Go.Proofs.Ytflddpkmajoeaaa.PP
