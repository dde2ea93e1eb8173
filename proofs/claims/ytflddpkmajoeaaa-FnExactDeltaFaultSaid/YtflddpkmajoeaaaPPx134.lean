-- Laid by a program of this session's (wip/xprint.py) over the kit's print. Nothing in it is trusted: Lean checks it.
import Derived.Test.YtflddpkmajoeaaaPPx0
import Derived.Test.YtflddpkmajoeaaaPPx4
import Derived.Test.YtflddpkmajoeaaaPPx71
namespace Go.Proofs.Ytflddpkmajoeaaa.PP
open Go.RowKit Go.Proofs.YtflddpkmajoeaaaW.PrintWords Go.Proofs.YtflddpkmajoeaaaW.PrintLast Go.Proofs.YtflddpkmajoeaaaW.PrintMore
set_option maxHeartbeats 8000000
set_option maxRecDepth 100000
attribute [local go_sem] max2_int min2_int max_two min_two max_three min_three max_four min_four   -- for this text's walks alone
set_option linter.unusedVariables false
set_option linter.unusedSimpArgs false

/-! ### spec_l6Vols: function 100 -/
mutual
def spec_l6Vols.l0 : Nat → S41 → Int → Option (Int)
 | 0, _, _ => none
 | k + 1, x0, x3 => if x3 < (((rd_T41 [x0] 0).f1).length : Int) then (if 0 ≤ x3 then ((spec_l5Id.f ((rd_T93 ((rd_T41 [x0] 0).f1) x3).f0)).bind fun t903 => (if t903 = true then ((spec_l1In.f ((rd_T93 ((rd_T41 [x0] 0).f1) x3).f1) 1 16).bind fun t904 => (if t904 = true then (spec_l6Vols.j1 k x0 x3 (((rd_T93 ((rd_T41 [x0] 0).f1) x3).f2) != (-1)) ((rd_T93 ((rd_T41 [x0] 0).f1) x3).f0) ((rd_T93 ((rd_T41 [x0] 0).f1) x3).f1) ((rd_T93 ((rd_T41 [x0] 0).f1) x3).f2)) else (spec_l6Vols.j1 k x0 x3 true ((rd_T93 ((rd_T41 [x0] 0).f1) x3).f0) ((rd_T93 ((rd_T41 [x0] 0).f1) x3).f1) ((rd_T93 ((rd_T41 [x0] 0).f1) x3).f2)))) else (spec_l6Vols.j1 k x0 x3 true ((rd_T93 ((rd_T41 [x0] 0).f1) x3).f0) ((rd_T93 ((rd_T41 [x0] 0).f1) x3).f1) ((rd_T93 ((rd_T41 [x0] 0).f1) x3).f2)))) else (none)) else (some 0)
def spec_l6Vols.j1 : Nat → S41 → Int → Bool → Int → Int → Int → Option (Int)
 | 0, _, _, _, _, _, _ => none
 | k + 1, x0, x3, x35, x903000, x903001, x903002 => if x35 = true then (some 3) else (if x3 > 0 then (if 0 ≤ (wrap64 (x3 - 1)) then (if (wrap64 (x3 - 1)) < (((rd_T41 [x0] 0).f1).length : Int) then (if x903000 ≤ ((rd_T93 ((rd_T41 [x0] 0).f1) (wrap64 (x3 - 1))).f0) then (some 1) else (spec_l6Vols.l0 k x0 (wrap64 (x3 + 1)))) else (none)) else (none)) else (spec_l6Vols.l0 k x0 (wrap64 (x3 + 1))))
end
def spec_l6Vols.f (k : Nat) (xp0 : S41) : Option (Int) := spec_l6Vols.l0 k xp0 0
theorem spec_l6Vols.mono_l : ∀ k, (∀ y0 y1, LeO (spec_l6Vols.l0 k y0 y1) (spec_l6Vols.l0 (k + 1) y0 y1)) ∧ (∀ y0 y1 y2 y3 y4 y5, LeO (spec_l6Vols.j1 k y0 y1 y2 y3 y4 y5) (spec_l6Vols.j1 (k + 1) y0 y1 y2 y3 y4 y5))
 | 0 => ⟨fun _ _ r h => by simp [spec_l6Vols.l0] at h, fun _ _ _ _ _ _ r h => by simp [spec_l6Vols.j1] at h⟩
 | k + 1 => by
  obtain ⟨ih0, ih1⟩ := spec_l6Vols.mono_l k
  refine ⟨?_, ?_⟩
  ·
   intro y0 y1
   unfold spec_l6Vols.l0
   repeat' first
   | (with_reducible exact ih0 _ _)
   | (with_reducible exact ih1 _ _ _ _ _ _)
   | (with_reducible exact LeO.refl _)
   | (with_reducible exact LeO.none _)
   | (with_reducible refine LeO.ite ?_ ?_)
   | (with_reducible refine LeO.bind ?_ (fun _ => ?_))
   | exact ih0 _ _
   | exact ih1 _ _ _ _ _ _
   | exact LeO.none _
   | refine LeO.ite ?_ ?_
   | refine LeO.bind ?_ (fun _ => ?_)
  ·
   intro y0 y1 y2 y3 y4 y5
   unfold spec_l6Vols.j1
   repeat' first
   | (with_reducible exact ih0 _ _)
   | (with_reducible exact ih1 _ _ _ _ _ _)
   | (with_reducible exact LeO.refl _)
   | (with_reducible exact LeO.none _)
   | (with_reducible refine LeO.ite ?_ ?_)
   | (with_reducible refine LeO.bind ?_ (fun _ => ?_))
   | exact ih0 _ _
   | exact ih1 _ _ _ _ _ _
   | exact LeO.none _
   | refine LeO.ite ?_ ?_
   | refine LeO.bind ?_ (fun _ => ?_)
theorem spec_l6Vols.mono : ∀ a0 k, LeO (spec_l6Vols.f k a0) (spec_l6Vols.f (k + 1) a0) := by
 intro a0 k
 obtain ⟨ih0, ih1⟩ := spec_l6Vols.mono_l k
 unfold spec_l6Vols.f
 repeat' first
   | (with_reducible exact ih0 _ _)
   | (with_reducible exact ih1 _ _ _ _ _ _)
   | (with_reducible exact LeO.refl _)
   | (with_reducible exact LeO.none _)
   | (with_reducible refine LeO.ite ?_ ?_)
   | (with_reducible refine LeO.bind ?_ (fun _ => ?_))
   | exact ih0 _ _
   | exact ih1 _ _ _ _ _ _
   | exact LeO.none _
   | refine LeO.ite ?_ ?_
   | refine LeO.bind ?_ (fun _ => ?_)
theorem spec_l6Vols.calls (k : Nat) (adp0 : Addr) (xp0 : S41) (r : Int) (w : World) (hr0 : Kd.C k41 w (some adp0) 1 [xp0]) (h : spec_l6Vols.f k xp0 = some r) :
  Calls Try.prog 100 #[.pointer (some adp0)] w fun e w' => e = .returned (.int .i64 r) ∧ Below w.heap.size w w' := by
 have hu93 := Try.underlying93
 have HR0 := Aside0.mk hr0
 clear hr0
 have HB := Aside0.mk (Below.refl w.heap.size w)
 have H : (spec_l6Vols.l0 k xp0 0) = some r := h
 clear h
 have H' := Aside0.mk H
 clear H
 go_enter Try.func100, Try.ntmps100
 go_wp2
 repeat (go_quiet (fail);try go_wp2)
 go_loopg [3] k (fun kq v3 w' => ∃ (x3_1 : Int), v3 = .int .i64 x3_1 ∧ Aside0 (spec_l6Vols.l0 kq xp0 x3_1 = some r) ∧ Aside0 (kq ≤ k) ∧ Aside0 (Below w.heap.size w w'))
 case atStart => exact ⟨(0), (by first|rfl|(simp;done)|(simp [*];done)), H', ⟨Nat.le_refl _⟩, ⟨by repeat (first|(with_reducible first|exact HB.out|apply below_alloc|apply pw_below_drewN|apply below_drew1)|exact HB.out)⟩⟩
 case round =>
  clear H'
  try clear c1
  obtain ⟨x3_1, rfl, HA, HK1, HB⟩ := hrel
  cases gk with
  | zero => exact absurd HA.out (by simp [spec_l6Vols.l0])
  | succ k1 =>
   have H := HA.out
   clear HA
   simp only [spec_l6Vols.l0] at H
   by_cases c2 : x3_1 < (((rd_T41 [xp0] 0).f1).length : Int)
   ·
    rw [if_pos c2] at H
    have c2b0 : decide (x3_1 < (((rd_T41 [xp0] 0).f1).length : Int)) = true := decide_eq_true c2
    clear c2
    by_cases c3 : 0 ≤ x3_1
    ·
     rw [if_pos c3] at H
     have c3b0 : decide (0 ≤ x3_1) = true := decide_eq_true c3
     clear c3
     have HC4 := Aside0.mk H
     clear H
     have p900 : 0 ≤ (0 : Int) := (by omega)
     have q900 : 0 < ([xp0].length : Int) := (by simp)
     obtain ⟨ad900, A900_1, c900_1, A900_2, c900_2, A900_3, c900_3, e900, hx900_0, hx900_1, hx900_2, hx900_3, hl900_1, hi900_1, hl900_2, hi900_2, hl900_3, hi900_3⟩ := at_T41 HR0.out 0 p900 q900
     obtain rfl : adp0 = ad900 := (by injection e900)
     (try rw [show ((0 : Int)).toNat = 0 from rfl] at hx900_0)
     (try rw [show 0 * 4 = 0 from rfl] at hx900_0)
     (try rw [Addr.add_zero'] at hx900_0)
     (try rw [show ((0 : Int)).toNat = 0 from rfl] at hx900_1)
     (try rw [show 0 * 4 = 0 from rfl] at hx900_1)
     (try rw [Addr.add_zero'] at hx900_1)
     (try rw [show ((0 : Int)).toNat = 0 from rfl] at hx900_2)
     (try rw [show 0 * 4 = 0 from rfl] at hx900_2)
     (try rw [Addr.add_zero'] at hx900_2)
     (try rw [show ((0 : Int)).toNat = 0 from rfl] at hx900_3)
     (try rw [show 0 * 4 = 0 from rfl] at hx900_3)
     (try rw [Addr.add_zero'] at hx900_3)
     replace hx900_0 := (HB.out.cell (World.block_lt_of_cell? w _ hx900_0)).trans hx900_0
     replace hx900_1 := (HB.out.cell (World.block_lt_of_cell? w _ hx900_1)).trans hx900_1
     replace hx900_2 := (HB.out.cell (World.block_lt_of_cell? w _ hx900_2)).trans hx900_2
     replace hx900_3 := (HB.out.cell (World.block_lt_of_cell? w _ hx900_3)).trans hx900_3
     have HR900_1 := Aside0.mk hi900_1
     have HC900_1 := Aside0.mk hl900_1
     clear hi900_1 hl900_1
     have HR900_2 := Aside0.mk hi900_2
     have HC900_2 := Aside0.mk hl900_2
     clear hi900_2 hl900_2
     have HR900_3 := Aside0.mk hi900_3
     have HC900_3 := Aside0.mk hl900_3
     clear hi900_3 hl900_3
     replace p900 := eq_true p900
     replace q900 := eq_true q900
     have p901 : 0 ≤ (x3_1 : Int) := of_decide_eq_true (by first|(with_reducible assumption)|assumption)
     have q901 : x3_1 < (((rd_T41 [xp0] 0).f1).length : Int) := of_decide_eq_true (by first|(with_reducible assumption)|assumption)
     obtain ⟨ad901, e901, hx901_0, hx901_1, hx901_2⟩ := at_T93 HR900_1.out x3_1 p901 q901
     cases e901
     replace hx901_0 := (HB.out.cell (World.block_lt_of_cell? w _ hx901_0)).trans hx901_0
     replace hx901_1 := (HB.out.cell (World.block_lt_of_cell? w _ hx901_1)).trans hx901_1
     replace hx901_2 := (HB.out.cell (World.block_lt_of_cell? w _ hx901_2)).trans hx901_2
     replace p901 := eq_true p901
     replace q901 := eq_true q901
     go_upto_region 5 with (first|((with_reducible refine gate_dst (N := 4) rfl ?_);refine box_event ?hg (N := 4) ?hd (cs := #[.int .i64 0, .int .i64 0, .int .i64 0]) (t := 93) ?hr ?_;(case hd => rfl);(case hg => rfl);(case hr => first|(go_simp;done)|(go_simp;rfl));intro gb902 hg w5 hbox hb;have n0_ := Aside0.mk (below_step (by repeat (first|(with_reducible first|exact HB.out|apply below_alloc|apply pw_below_drewN|apply below_drew1)|exact HB.out)) hb);have n1_ := Aside0.mk (hbox);have n2_ := Aside0.mk ((by rw [hg];exact (below_size (by repeat (first|(with_reducible first|exact HB.out|apply below_alloc|apply pw_below_drewN|apply below_drew1)|exact HB.out))) : w.heap.size ≤ gb902));have n3_ := Aside0.mk ((by rw [hg];exact (below_size (by repeat (first|(with_reducible first|exact HB.out|apply below_alloc|apply pw_below_drewN|apply below_drew1)|exact HB.out))) : w.heap.size ≤ gb902));clear HB;have HB := n0_;have BK902 := n1_;have GW902 := n2_;have GE902 := n3_;clear n0_ n1_ n2_ n3_;clear hb hbox hg;have hcz6_0 : w5.cell? ⟨gb902, 0, none⟩ = some (.int .i64 0) := (blk_cell BK902.out 0).trans rfl;have hcz6_1 : w5.cell? ⟨gb902, 1, none⟩ = some (.int .i64 0) := (blk_cell BK902.out 1).trans rfl;have hcz6_2 : w5.cell? ⟨gb902, 2, none⟩ = some (.int .i64 0) := (blk_cell BK902.out 2).trans rfl;have hfz6_0 := blk_frozen BK902.out 0;have hfz6_1 := blk_frozen BK902.out 1;have hfz6_2 := blk_frozen BK902.out 2))
     repeat (go_quiet (first|((with_reducible refine gate_dst (N := 4) rfl ?_);refine box_event ?hg (N := 4) ?hd (cs := #[.int .i64 0, .int .i64 0, .int .i64 0]) (t := 93) ?hr ?_;(case hd => rfl);(case hg => rfl);(case hr => first|(go_simp;done)|(go_simp;rfl));intro gb902 hg w5 hbox hb;have n0_ := Aside0.mk (below_step (by repeat (first|(with_reducible first|exact HB.out|apply below_alloc|apply pw_below_drewN|apply below_drew1)|exact HB.out)) hb);have n1_ := Aside0.mk (hbox);have n2_ := Aside0.mk ((by rw [hg];exact (below_size (by repeat (first|(with_reducible first|exact HB.out|apply below_alloc|apply pw_below_drewN|apply below_drew1)|exact HB.out))) : w.heap.size ≤ gb902));have n3_ := Aside0.mk ((by rw [hg];exact (below_size (by repeat (first|(with_reducible first|exact HB.out|apply below_alloc|apply pw_below_drewN|apply below_drew1)|exact HB.out))) : w.heap.size ≤ gb902));clear HB;have HB := n0_;have BK902 := n1_;have GW902 := n2_;have GE902 := n3_;clear n0_ n1_ n2_ n3_;clear hb hbox hg;have hcz6_0 : w5.cell? ⟨gb902, 0, none⟩ = some (.int .i64 0) := (blk_cell BK902.out 0).trans rfl;have hcz6_1 : w5.cell? ⟨gb902, 1, none⟩ = some (.int .i64 0) := (blk_cell BK902.out 1).trans rfl;have hcz6_2 : w5.cell? ⟨gb902, 2, none⟩ = some (.int .i64 0) := (blk_cell BK902.out 2).trans rfl;have hfz6_0 := blk_frozen BK902.out 0;have hfz6_1 := blk_frozen BK902.out 1;have hfz6_2 := blk_frozen BK902.out 2));go_upto_region 5 with (first|((with_reducible refine gate_dst (N := 4) rfl ?_);refine box_event ?hg (N := 4) ?hd (cs := #[.int .i64 0, .int .i64 0, .int .i64 0]) (t := 93) ?hr ?_;(case hd => rfl);(case hg => rfl);(case hr => first|(go_simp;done)|(go_simp;rfl));intro gb902 hg w5 hbox hb;have n0_ := Aside0.mk (below_step (by repeat (first|(with_reducible first|exact HB.out|apply below_alloc|apply pw_below_drewN|apply below_drew1)|exact HB.out)) hb);have n1_ := Aside0.mk (hbox);have n2_ := Aside0.mk ((by rw [hg];exact (below_size (by repeat (first|(with_reducible first|exact HB.out|apply below_alloc|apply pw_below_drewN|apply below_drew1)|exact HB.out))) : w.heap.size ≤ gb902));have n3_ := Aside0.mk ((by rw [hg];exact (below_size (by repeat (first|(with_reducible first|exact HB.out|apply below_alloc|apply pw_below_drewN|apply below_drew1)|exact HB.out))) : w.heap.size ≤ gb902));clear HB;have HB := n0_;have BK902 := n1_;have GW902 := n2_;have GE902 := n3_;clear n0_ n1_ n2_ n3_;clear hb hbox hg;have hcz6_0 : w5.cell? ⟨gb902, 0, none⟩ = some (.int .i64 0) := (blk_cell BK902.out 0).trans rfl;have hcz6_1 : w5.cell? ⟨gb902, 1, none⟩ = some (.int .i64 0) := (blk_cell BK902.out 1).trans rfl;have hcz6_2 : w5.cell? ⟨gb902, 2, none⟩ = some (.int .i64 0) := (blk_cell BK902.out 2).trans rfl;have hfz6_0 := blk_frozen BK902.out 0;have hfz6_1 := blk_frozen BK902.out 1;have hfz6_2 := blk_frozen BK902.out 2)))
     (try simp only [Act.put, List.setIfInBounds_toArray, List.set_cons_zero, List.set_cons_succ])
     go_cut [35] (fun v35 wc => ∃ (kq : Nat) (x35_3 : Bool), v35 = .bool x35_3 ∧ Aside0 (spec_l6Vols.j1 kq xp0 x3_1 x35_3 ((rd_T93 ((rd_T41 [xp0] 0).f1) x3_1).f0) ((rd_T93 ((rd_T41 [xp0] 0).f1) x3_1).f1) ((rd_T93 ((rd_T41 [xp0] 0).f1) x3_1).f2) = some r) ∧ Aside0 (kq ≤ k1) ∧ Aside0 (wc.heap[gb902]? = some (.cells #[.int .i64 ((rd_T93 ((rd_T41 [xp0] 0).f1) x3_1).f0), .int .i64 ((rd_T93 ((rd_T41 [xp0] 0).f1) x3_1).f1), .int .i64 ((rd_T93 ((rd_T41 [xp0] 0).f1) x3_1).f2)] 93 (0, 0))) ∧ Aside0 (Below w.heap.size w wc))
     case first =>
      have H := HC4.out
      clear HC4
      replace H := Option.bind_eq_some_iff.mp H
      obtain ⟨t903, A70, H⟩ := H
      replace H : (if t903 = true then ((spec_l1In.f ((rd_T93 ((rd_T41 [xp0] 0).f1) x3_1).f1) 1 16).bind fun t904 => (if t904 = true then (spec_l6Vols.j1 k1 xp0 x3_1 (((rd_T93 ((rd_T41 [xp0] 0).f1) x3_1).f2) != (-1)) ((rd_T93 ((rd_T41 [xp0] 0).f1) x3_1).f0) ((rd_T93 ((rd_T41 [xp0] 0).f1) x3_1).f1) ((rd_T93 ((rd_T41 [xp0] 0).f1) x3_1).f2)) else (spec_l6Vols.j1 k1 xp0 x3_1 true ((rd_T93 ((rd_T41 [xp0] 0).f1) x3_1).f0) ((rd_T93 ((rd_T41 [xp0] 0).f1) x3_1).f1) ((rd_T93 ((rd_T41 [xp0] 0).f1) x3_1).f2)))) else (spec_l6Vols.j1 k1 xp0 x3_1 true ((rd_T93 ((rd_T41 [xp0] 0).f1) x3_1).f0) ((rd_T93 ((rd_T41 [xp0] 0).f1) x3_1).f1) ((rd_T93 ((rd_T41 [xp0] 0).f1) x3_1).f2))) = some r := H
      have A7 := Aside0.mk A70
      clear A70
      by_cases c8 : t903 = true
      ·
       subst c8
       have H1 : ((spec_l1In.f ((rd_T93 ((rd_T41 [xp0] 0).f1) x3_1).f1) 1 16).bind fun t904 => (if t904 = true then (spec_l6Vols.j1 k1 xp0 x3_1 (((rd_T93 ((rd_T41 [xp0] 0).f1) x3_1).f2) != (-1)) ((rd_T93 ((rd_T41 [xp0] 0).f1) x3_1).f0) ((rd_T93 ((rd_T41 [xp0] 0).f1) x3_1).f1) ((rd_T93 ((rd_T41 [xp0] 0).f1) x3_1).f2)) else (spec_l6Vols.j1 k1 xp0 x3_1 true ((rd_T93 ((rd_T41 [xp0] 0).f1) x3_1).f0) ((rd_T93 ((rd_T41 [xp0] 0).f1) x3_1).f1) ((rd_T93 ((rd_T41 [xp0] 0).f1) x3_1).f2)))) = some r := by rw [if_pos rfl] at H;exact H
       clear H
       have H := H1
       clear H1
       replace H := Option.bind_eq_some_iff.mp H
       obtain ⟨t904, A90, H⟩ := H
       replace H : (if t904 = true then (spec_l6Vols.j1 k1 xp0 x3_1 (((rd_T93 ((rd_T41 [xp0] 0).f1) x3_1).f2) != (-1)) ((rd_T93 ((rd_T41 [xp0] 0).f1) x3_1).f0) ((rd_T93 ((rd_T41 [xp0] 0).f1) x3_1).f1) ((rd_T93 ((rd_T41 [xp0] 0).f1) x3_1).f2)) else (spec_l6Vols.j1 k1 xp0 x3_1 true ((rd_T93 ((rd_T41 [xp0] 0).f1) x3_1).f0) ((rd_T93 ((rd_T41 [xp0] 0).f1) x3_1).f1) ((rd_T93 ((rd_T41 [xp0] 0).f1) x3_1).f2))) = some r := H
       have A9 := Aside0.mk A90
       clear A90
       by_cases c10 : t904 = true
       ·
        subst c10
        have H1 : (spec_l6Vols.j1 k1 xp0 x3_1 (((rd_T93 ((rd_T41 [xp0] 0).f1) x3_1).f2) != (-1)) ((rd_T93 ((rd_T41 [xp0] 0).f1) x3_1).f0) ((rd_T93 ((rd_T41 [xp0] 0).f1) x3_1).f1) ((rd_T93 ((rd_T41 [xp0] 0).f1) x3_1).f2)) = some r := by rw [if_pos rfl] at H;exact H
        clear H
        have H := H1
        clear H1
        have H' := Aside0.mk H
        clear H
        have hcz11_0 : w5.cell? ⟨gb902, 0, none⟩ = some (.int .i64 0) := (blk_cell BK902.out 0).trans rfl
        have hcz11_1 : w5.cell? ⟨gb902, 1, none⟩ = some (.int .i64 0) := (blk_cell BK902.out 1).trans rfl
        have hcz11_2 : w5.cell? ⟨gb902, 2, none⟩ = some (.int .i64 0) := (blk_cell BK902.out 2).trans rfl
        have hfz11_0 := blk_frozen BK902.out 0
        have hfz11_1 := blk_frozen BK902.out 1
        have hfz11_2 := blk_frozen BK902.out 2
        go_wp2_with (first|(go_at_call 101;(with_reducible refine (spec_l5Id.calls ((rd_T93 ((rd_T41 [xp0] 0).f1) x3_1).f0) true _ A7.out).mono ?_);rintro e w' ⟨rfl, ⟨nd, rfl⟩⟩;(try first|exact ⟨rfl, _, World.drewN_drewN _ _ _⟩|exact ⟨rfl, _, Eq.trans (World.drewN_drewN _ _ _) (congrArg (World.drewN _) (Nat.add_assoc _ _ _))⟩))|(go_at_call 53;(with_reducible refine (spec_l1In.calls ((rd_T93 ((rd_T41 [xp0] 0).f1) x3_1).f1) 1 16 true _ A9.out).mono ?_);rintro e w' ⟨rfl, ⟨nd, rfl⟩⟩;(try first|exact ⟨rfl, _, World.drewN_drewN _ _ _⟩|exact ⟨rfl, _, Eq.trans (World.drewN_drewN _ _ _) (congrArg (World.drewN _) (Nat.add_assoc _ _ _))⟩)))
        repeat (go_quiet (first|(go_at_call 101;(with_reducible refine (spec_l5Id.calls ((rd_T93 ((rd_T41 [xp0] 0).f1) x3_1).f0) true _ A7.out).mono ?_);rintro e w' ⟨rfl, ⟨nd, rfl⟩⟩;(try first|exact ⟨rfl, _, World.drewN_drewN _ _ _⟩|exact ⟨rfl, _, Eq.trans (World.drewN_drewN _ _ _) (congrArg (World.drewN _) (Nat.add_assoc _ _ _))⟩))|(go_at_call 53;(with_reducible refine (spec_l1In.calls ((rd_T93 ((rd_T41 [xp0] 0).f1) x3_1).f1) 1 16 true _ A9.out).mono ?_);rintro e w' ⟨rfl, ⟨nd, rfl⟩⟩;(try first|exact ⟨rfl, _, World.drewN_drewN _ _ _⟩|exact ⟨rfl, _, Eq.trans (World.drewN_drewN _ _ _) (congrArg (World.drewN _) (Nat.add_assoc _ _ _))⟩)));try go_wp2_with (first|(go_at_call 101;(with_reducible refine (spec_l5Id.calls ((rd_T93 ((rd_T41 [xp0] 0).f1) x3_1).f0) true _ A7.out).mono ?_);rintro e w' ⟨rfl, ⟨nd, rfl⟩⟩;(try first|exact ⟨rfl, _, World.drewN_drewN _ _ _⟩|exact ⟨rfl, _, Eq.trans (World.drewN_drewN _ _ _) (congrArg (World.drewN _) (Nat.add_assoc _ _ _))⟩))|(go_at_call 53;(with_reducible refine (spec_l1In.calls ((rd_T93 ((rd_T41 [xp0] 0).f1) x3_1).f1) 1 16 true _ A9.out).mono ?_);rintro e w' ⟨rfl, ⟨nd, rfl⟩⟩;(try first|exact ⟨rfl, _, World.drewN_drewN _ _ _⟩|exact ⟨rfl, _, Eq.trans (World.drewN_drewN _ _ _) (congrArg (World.drewN _) (Nat.add_assoc _ _ _))⟩))))
        go_meet
        case rel => exact ⟨_, ((((rd_T93 ((rd_T41 [xp0] 0).f1) x3_1).f2) != (-1))), (by first|rfl|(simp;done)|(simp [*];done)), H', ⟨by have := HK1.out;first|omega|exact Nat.le_refl _⟩, ⟨by (with_reducible repeat (first|refine blk_drewN ?_ _|refine blk_drew ?_|refine blk_alloc ?_ _));refine blk_put (cs := #[.int .i64 ((rd_T93 ((rd_T41 [xp0] 0).f1) x3_1).f0), .int .i64 ((rd_T93 ((rd_T41 [xp0] 0).f1) x3_1).f1), .int .i64 0]) ?_ 2 _ rfl;(with_reducible repeat (first|refine blk_drewN ?_ _|refine blk_drew ?_|refine blk_alloc ?_ _));refine blk_put (cs := #[.int .i64 ((rd_T93 ((rd_T41 [xp0] 0).f1) x3_1).f0), .int .i64 0, .int .i64 0]) ?_ 1 _ rfl;(with_reducible repeat (first|refine blk_drewN ?_ _|refine blk_drew ?_|refine blk_alloc ?_ _));refine blk_put (cs := #[.int .i64 0, .int .i64 0, .int .i64 0]) ?_ 0 _ rfl;(with_reducible repeat (first|refine blk_drewN ?_ _|refine blk_drew ?_|refine blk_alloc ?_ _));exact BK902.out⟩, ⟨by repeat (first|(with_reducible first|exact HB.out|apply below_alloc|apply pw_below_drewN|apply below_drew1|refine below_set ?_ GE902.out)|exact HB.out)⟩⟩
       ·
        replace c10 := Bool.eq_false_iff.mpr c10
        subst c10
        have H1 : (spec_l6Vols.j1 k1 xp0 x3_1 true ((rd_T93 ((rd_T41 [xp0] 0).f1) x3_1).f0) ((rd_T93 ((rd_T41 [xp0] 0).f1) x3_1).f1) ((rd_T93 ((rd_T41 [xp0] 0).f1) x3_1).f2)) = some r := by rw [if_neg (show ¬ (false = true) by decide)] at H;exact H
        clear H
        have H := H1
        clear H1
        have H' := Aside0.mk H
        clear H
        have hcz12_0 : w5.cell? ⟨gb902, 0, none⟩ = some (.int .i64 0) := (blk_cell BK902.out 0).trans rfl
        have hcz12_1 : w5.cell? ⟨gb902, 1, none⟩ = some (.int .i64 0) := (blk_cell BK902.out 1).trans rfl
        have hcz12_2 : w5.cell? ⟨gb902, 2, none⟩ = some (.int .i64 0) := (blk_cell BK902.out 2).trans rfl
        have hfz12_0 := blk_frozen BK902.out 0
        have hfz12_1 := blk_frozen BK902.out 1
        have hfz12_2 := blk_frozen BK902.out 2
        go_wp2_with (first|(go_at_call 101;(with_reducible refine (spec_l5Id.calls ((rd_T93 ((rd_T41 [xp0] 0).f1) x3_1).f0) true _ A7.out).mono ?_);rintro e w' ⟨rfl, ⟨nd, rfl⟩⟩;(try first|exact ⟨rfl, _, World.drewN_drewN _ _ _⟩|exact ⟨rfl, _, Eq.trans (World.drewN_drewN _ _ _) (congrArg (World.drewN _) (Nat.add_assoc _ _ _))⟩))|(go_at_call 53;(with_reducible refine (spec_l1In.calls ((rd_T93 ((rd_T41 [xp0] 0).f1) x3_1).f1) 1 16 false _ A9.out).mono ?_);rintro e w' ⟨rfl, ⟨nd, rfl⟩⟩;(try first|exact ⟨rfl, _, World.drewN_drewN _ _ _⟩|exact ⟨rfl, _, Eq.trans (World.drewN_drewN _ _ _) (congrArg (World.drewN _) (Nat.add_assoc _ _ _))⟩)))
        repeat (go_quiet (first|(go_at_call 101;(with_reducible refine (spec_l5Id.calls ((rd_T93 ((rd_T41 [xp0] 0).f1) x3_1).f0) true _ A7.out).mono ?_);rintro e w' ⟨rfl, ⟨nd, rfl⟩⟩;(try first|exact ⟨rfl, _, World.drewN_drewN _ _ _⟩|exact ⟨rfl, _, Eq.trans (World.drewN_drewN _ _ _) (congrArg (World.drewN _) (Nat.add_assoc _ _ _))⟩))|(go_at_call 53;(with_reducible refine (spec_l1In.calls ((rd_T93 ((rd_T41 [xp0] 0).f1) x3_1).f1) 1 16 false _ A9.out).mono ?_);rintro e w' ⟨rfl, ⟨nd, rfl⟩⟩;(try first|exact ⟨rfl, _, World.drewN_drewN _ _ _⟩|exact ⟨rfl, _, Eq.trans (World.drewN_drewN _ _ _) (congrArg (World.drewN _) (Nat.add_assoc _ _ _))⟩)));try go_wp2_with (first|(go_at_call 101;(with_reducible refine (spec_l5Id.calls ((rd_T93 ((rd_T41 [xp0] 0).f1) x3_1).f0) true _ A7.out).mono ?_);rintro e w' ⟨rfl, ⟨nd, rfl⟩⟩;(try first|exact ⟨rfl, _, World.drewN_drewN _ _ _⟩|exact ⟨rfl, _, Eq.trans (World.drewN_drewN _ _ _) (congrArg (World.drewN _) (Nat.add_assoc _ _ _))⟩))|(go_at_call 53;(with_reducible refine (spec_l1In.calls ((rd_T93 ((rd_T41 [xp0] 0).f1) x3_1).f1) 1 16 false _ A9.out).mono ?_);rintro e w' ⟨rfl, ⟨nd, rfl⟩⟩;(try first|exact ⟨rfl, _, World.drewN_drewN _ _ _⟩|exact ⟨rfl, _, Eq.trans (World.drewN_drewN _ _ _) (congrArg (World.drewN _) (Nat.add_assoc _ _ _))⟩))))
        go_meet
        case rel => exact ⟨_, (true), (by first|rfl|(simp;done)|(simp [*];done)), H', ⟨by have := HK1.out;first|omega|exact Nat.le_refl _⟩, ⟨by (with_reducible repeat (first|refine blk_drewN ?_ _|refine blk_drew ?_|refine blk_alloc ?_ _));refine blk_put (cs := #[.int .i64 ((rd_T93 ((rd_T41 [xp0] 0).f1) x3_1).f0), .int .i64 ((rd_T93 ((rd_T41 [xp0] 0).f1) x3_1).f1), .int .i64 0]) ?_ 2 _ rfl;(with_reducible repeat (first|refine blk_drewN ?_ _|refine blk_drew ?_|refine blk_alloc ?_ _));refine blk_put (cs := #[.int .i64 ((rd_T93 ((rd_T41 [xp0] 0).f1) x3_1).f0), .int .i64 0, .int .i64 0]) ?_ 1 _ rfl;(with_reducible repeat (first|refine blk_drewN ?_ _|refine blk_drew ?_|refine blk_alloc ?_ _));refine blk_put (cs := #[.int .i64 0, .int .i64 0, .int .i64 0]) ?_ 0 _ rfl;(with_reducible repeat (first|refine blk_drewN ?_ _|refine blk_drew ?_|refine blk_alloc ?_ _));exact BK902.out⟩, ⟨by repeat (first|(with_reducible first|exact HB.out|apply below_alloc|apply pw_below_drewN|apply below_drew1|refine below_set ?_ GE902.out)|exact HB.out)⟩⟩
      ·
       replace c8 := Bool.eq_false_iff.mpr c8
       subst c8
       have H1 : (spec_l6Vols.j1 k1 xp0 x3_1 true ((rd_T93 ((rd_T41 [xp0] 0).f1) x3_1).f0) ((rd_T93 ((rd_T41 [xp0] 0).f1) x3_1).f1) ((rd_T93 ((rd_T41 [xp0] 0).f1) x3_1).f2)) = some r := by rw [if_neg (show ¬ (false = true) by decide)] at H;exact H
       clear H
       have H := H1
       clear H1
       have H' := Aside0.mk H
       clear H
       have hcz13_0 : w5.cell? ⟨gb902, 0, none⟩ = some (.int .i64 0) := (blk_cell BK902.out 0).trans rfl
       have hcz13_1 : w5.cell? ⟨gb902, 1, none⟩ = some (.int .i64 0) := (blk_cell BK902.out 1).trans rfl
       have hcz13_2 : w5.cell? ⟨gb902, 2, none⟩ = some (.int .i64 0) := (blk_cell BK902.out 2).trans rfl
       have hfz13_0 := blk_frozen BK902.out 0
       have hfz13_1 := blk_frozen BK902.out 1
       have hfz13_2 := blk_frozen BK902.out 2
       go_wp2_with (first|(go_at_call 101;(with_reducible refine (spec_l5Id.calls ((rd_T93 ((rd_T41 [xp0] 0).f1) x3_1).f0) false _ A7.out).mono ?_);rintro e w' ⟨rfl, ⟨nd, rfl⟩⟩;(try first|exact ⟨rfl, _, World.drewN_drewN _ _ _⟩|exact ⟨rfl, _, Eq.trans (World.drewN_drewN _ _ _) (congrArg (World.drewN _) (Nat.add_assoc _ _ _))⟩)))
       repeat (go_quiet (first|(go_at_call 101;(with_reducible refine (spec_l5Id.calls ((rd_T93 ((rd_T41 [xp0] 0).f1) x3_1).f0) false _ A7.out).mono ?_);rintro e w' ⟨rfl, ⟨nd, rfl⟩⟩;(try first|exact ⟨rfl, _, World.drewN_drewN _ _ _⟩|exact ⟨rfl, _, Eq.trans (World.drewN_drewN _ _ _) (congrArg (World.drewN _) (Nat.add_assoc _ _ _))⟩)));try go_wp2_with (first|(go_at_call 101;(with_reducible refine (spec_l5Id.calls ((rd_T93 ((rd_T41 [xp0] 0).f1) x3_1).f0) false _ A7.out).mono ?_);rintro e w' ⟨rfl, ⟨nd, rfl⟩⟩;(try first|exact ⟨rfl, _, World.drewN_drewN _ _ _⟩|exact ⟨rfl, _, Eq.trans (World.drewN_drewN _ _ _) (congrArg (World.drewN _) (Nat.add_assoc _ _ _))⟩))))
       go_meet
       case rel => exact ⟨_, (true), (by first|rfl|(simp;done)|(simp [*];done)), H', ⟨by have := HK1.out;first|omega|exact Nat.le_refl _⟩, ⟨by (with_reducible repeat (first|refine blk_drewN ?_ _|refine blk_drew ?_|refine blk_alloc ?_ _));refine blk_put (cs := #[.int .i64 ((rd_T93 ((rd_T41 [xp0] 0).f1) x3_1).f0), .int .i64 ((rd_T93 ((rd_T41 [xp0] 0).f1) x3_1).f1), .int .i64 0]) ?_ 2 _ rfl;(with_reducible repeat (first|refine blk_drewN ?_ _|refine blk_drew ?_|refine blk_alloc ?_ _));refine blk_put (cs := #[.int .i64 ((rd_T93 ((rd_T41 [xp0] 0).f1) x3_1).f0), .int .i64 0, .int .i64 0]) ?_ 1 _ rfl;(with_reducible repeat (first|refine blk_drewN ?_ _|refine blk_drew ?_|refine blk_alloc ?_ _));refine blk_put (cs := #[.int .i64 0, .int .i64 0, .int .i64 0]) ?_ 0 _ rfl;(with_reducible repeat (first|refine blk_drewN ?_ _|refine blk_drew ?_|refine blk_alloc ?_ _));exact BK902.out⟩, ⟨by repeat (first|(with_reducible first|exact HB.out|apply below_alloc|apply pw_below_drewN|apply below_drew1|refine below_set ?_ GE902.out)|exact HB.out)⟩⟩
     case rest =>
      clear HC4
      try clear c1
      try clear c2
      try clear c2b0
      try clear p2
      try clear c3
      try clear c3b0
      try clear c8
      try clear c9
      try clear p9
      try clear q9
      try clear hx9
      try clear c10
      try clear hcz11_0
      try clear hcz11_1
      try clear hcz11_2
      try clear hcz12_0
      try clear hcz12_1
      try clear hcz12_2
      try clear hcz13_0
      try clear hcz13_1
      try clear hcz13_2
      try clear hcz6_0
      try clear hcz6_1
      try clear hcz6_2
      try clear hfz11_0
      try clear hfz11_1
      try clear hfz11_2
      try clear hfz12_0
      try clear hfz12_1
      try clear hfz12_2
      try clear hfz13_0
      try clear hfz13_1
      try clear hfz13_2
      try clear hfz6_0
      try clear hfz6_1
      try clear hfz6_2
      try clear hx900_0
      try clear hx900_1
      try clear hx900_2
      try clear hx900_3
      try clear hx901_0
      try clear hx901_1
      try clear hx901_2
      try clear p900
      try clear p901
      try clear q900
      try clear q901
      obtain ⟨kq, x35_3, rfl, HA, HJ3, BK902, HB⟩ := hcut
      cases kq with
      | zero => exact absurd HA.out (by simp [spec_l6Vols.j1])
      | succ kj3 =>
       have H := HA.out
       clear HA
       simp only [spec_l6Vols.j1] at H
       by_cases c14 : x35_3 = true
       ·
        subst c14
        have H1 : (some 3) = some r := by rw [if_pos rfl] at H;exact H
        clear H
        have H := H1
        clear H1
        obtain rfl := Option.some.inj H
        go_wp2
        repeat (go_quiet (fail);try go_wp2)
        go_ret
        exact ⟨by first|rfl|(simp [errW_none, errW_some] <;> rfl)|(simp [*, errW_none, errW_some] <;> rfl), by repeat (first|(with_reducible first|exact HB.out|apply below_alloc|apply pw_below_drewN|apply below_drew1|refine below_set ?_ GE902.out)|exact HB.out)⟩
       ·
        replace c14 := Bool.eq_false_iff.mpr c14
        subst c14
        have H1 : (if x3_1 > 0 then (if 0 ≤ (wrap64 (x3_1 - 1)) then (if (wrap64 (x3_1 - 1)) < (((rd_T41 [xp0] 0).f1).length : Int) then (if ((rd_T93 ((rd_T41 [xp0] 0).f1) x3_1).f0) ≤ ((rd_T93 ((rd_T41 [xp0] 0).f1) (wrap64 (x3_1 - 1))).f0) then (some 1) else (spec_l6Vols.l0 kj3 xp0 (wrap64 (x3_1 + 1)))) else (none)) else (none)) else (spec_l6Vols.l0 kj3 xp0 (wrap64 (x3_1 + 1)))) = some r := by rw [if_neg (show ¬ (false = true) by decide)] at H;exact H
        clear H
        have H := H1
        clear H1
        by_cases c15 : x3_1 > 0
        ·
         rw [if_pos c15] at H
         have c15b0 : decide (0 < x3_1) = true := decide_eq_true c15
         clear c15
         obtain ⟨ji16, hji16⟩ : ∃ j_ : Int, (wrap64 (x3_1 - 1)) = j_ := ⟨_, rfl⟩
         replace H : (if 0 ≤ (ji16) then (if (ji16) < (((rd_T41 [xp0] 0).f1).length : Int) then (if ((rd_T93 ((rd_T41 [xp0] 0).f1) x3_1).f0) ≤ ((rd_T93 ((rd_T41 [xp0] 0).f1) (ji16)).f0) then (some 1) else (spec_l6Vols.l0 kj3 xp0 (wrap64 (x3_1 + 1)))) else (none)) else (none)) = some r := by first|(rw [hji16] at H;exact H)|(simp only [hji16] at H ⊢;exact H)
         have hji16w : (IntKind.i64.wrap (x3_1 - 1)) = ji16 := (i64_w _).trans hji16
         by_cases c17 : 0 ≤ (ji16)
         ·
          rw [if_pos c17] at H
          have c17b0 : decide (0 ≤ (ji16)) = true := decide_eq_true c17
          clear c17
          by_cases c18 : (ji16) < (((rd_T41 [xp0] 0).f1).length : Int)
          ·
           rw [if_pos c18] at H
           have c18b0 : decide ((ji16) < (((rd_T41 [xp0] 0).f1).length : Int)) = true := decide_eq_true c18
           clear c18
           by_cases c19 : ((rd_T93 ((rd_T41 [xp0] 0).f1) x3_1).f0) ≤ ((rd_T93 ((rd_T41 [xp0] 0).f1) (ji16)).f0)
           ·
            rw [if_pos c19] at H
            have c19b0 : decide (((rd_T93 ((rd_T41 [xp0] 0).f1) x3_1).f0) ≤ ((rd_T93 ((rd_T41 [xp0] 0).f1) (ji16)).f0)) = true := decide_eq_true c19
            clear c19
            obtain rfl := Option.some.inj H
            have hcz20_0 : wc.cell? ⟨gb902, 0, none⟩ = some (.int .i64 ((rd_T93 ((rd_T41 [xp0] 0).f1) x3_1).f0)) := (blk_cell BK902.out 0).trans rfl
            have hcz20_1 : wc.cell? ⟨gb902, 1, none⟩ = some (.int .i64 ((rd_T93 ((rd_T41 [xp0] 0).f1) x3_1).f1)) := (blk_cell BK902.out 1).trans rfl
            have hcz20_2 : wc.cell? ⟨gb902, 2, none⟩ = some (.int .i64 ((rd_T93 ((rd_T41 [xp0] 0).f1) x3_1).f2)) := (blk_cell BK902.out 2).trans rfl
            have hfz20_0 := blk_frozen BK902.out 0
            have hfz20_1 := blk_frozen BK902.out 1
            have hfz20_2 := blk_frozen BK902.out 2
            have p905 : 0 ≤ (0 : Int) := (by omega)
            have q905 : 0 < ([xp0].length : Int) := (by simp)
            obtain ⟨ad905, A905_1, c905_1, A905_2, c905_2, A905_3, c905_3, e905, hx905_0, hx905_1, hx905_2, hx905_3, hl905_1, hi905_1, hl905_2, hi905_2, hl905_3, hi905_3⟩ := at_T41 HR0.out 0 p905 q905
            obtain rfl : adp0 = ad905 := (by injection e905)
            (try rw [show ((0 : Int)).toNat = 0 from rfl] at hx905_0)
            (try rw [show 0 * 4 = 0 from rfl] at hx905_0)
            (try rw [Addr.add_zero'] at hx905_0)
            (try rw [show ((0 : Int)).toNat = 0 from rfl] at hx905_1)
            (try rw [show 0 * 4 = 0 from rfl] at hx905_1)
            (try rw [Addr.add_zero'] at hx905_1)
            (try rw [show ((0 : Int)).toNat = 0 from rfl] at hx905_2)
            (try rw [show 0 * 4 = 0 from rfl] at hx905_2)
            (try rw [Addr.add_zero'] at hx905_2)
            (try rw [show ((0 : Int)).toNat = 0 from rfl] at hx905_3)
            (try rw [show 0 * 4 = 0 from rfl] at hx905_3)
            (try rw [Addr.add_zero'] at hx905_3)
            replace hx905_0 := (HB.out.cell (World.block_lt_of_cell? w _ hx905_0)).trans hx905_0
            replace hx905_1 := (HB.out.cell (World.block_lt_of_cell? w _ hx905_1)).trans hx905_1
            replace hx905_2 := (HB.out.cell (World.block_lt_of_cell? w _ hx905_2)).trans hx905_2
            replace hx905_3 := (HB.out.cell (World.block_lt_of_cell? w _ hx905_3)).trans hx905_3
            have HR905_1 := Aside0.mk hi905_1
            have HC905_1 := Aside0.mk hl905_1
            clear hi905_1 hl905_1
            have HR905_2 := Aside0.mk hi905_2
            have HC905_2 := Aside0.mk hl905_2
            clear hi905_2 hl905_2
            have HR905_3 := Aside0.mk hi905_3
            have HC905_3 := Aside0.mk hl905_3
            clear hi905_3 hl905_3
            replace p905 := eq_true p905
            replace q905 := eq_true q905
            have p906 : 0 ≤ ((ji16) : Int) := of_decide_eq_true (by first|(with_reducible assumption)|assumption)
            have q906 : (ji16) < (((rd_T41 [xp0] 0).f1).length : Int) := of_decide_eq_true (by first|(with_reducible assumption)|assumption)
            obtain ⟨ad906, e906, hx906_0, hx906_1, hx906_2⟩ := at_T93 HR905_1.out (ji16) p906 q906
            cases e906
            replace hx906_0 := (HB.out.cell (World.block_lt_of_cell? w _ hx906_0)).trans hx906_0
            replace hx906_1 := (HB.out.cell (World.block_lt_of_cell? w _ hx906_1)).trans hx906_1
            replace hx906_2 := (HB.out.cell (World.block_lt_of_cell? w _ hx906_2)).trans hx906_2
            replace p906 := eq_true p906
            replace q906 := eq_true q906
            go_wp2
            repeat (go_quiet (fail);try go_wp2)
            go_ret
            exact ⟨by first|rfl|(simp [errW_none, errW_some] <;> rfl)|(simp only [← hji16];first|rfl|(simp [errW_none, errW_some] <;> rfl))|(simp [*, errW_none, errW_some] <;> rfl), by repeat (first|(with_reducible first|exact HB.out|apply below_alloc|apply pw_below_drewN|apply below_drew1|refine below_set ?_ GE902.out)|exact HB.out)⟩
           ·
            rw [if_neg c19] at H
            have c19b0 : decide (((rd_T93 ((rd_T41 [xp0] 0).f1) x3_1).f0) ≤ ((rd_T93 ((rd_T41 [xp0] 0).f1) (ji16)).f0)) = false := decide_eq_false c19
            clear c19
            have H' := Aside0.mk H
            clear H
            have hcz21_0 : wc.cell? ⟨gb902, 0, none⟩ = some (.int .i64 ((rd_T93 ((rd_T41 [xp0] 0).f1) x3_1).f0)) := (blk_cell BK902.out 0).trans rfl
            have hcz21_1 : wc.cell? ⟨gb902, 1, none⟩ = some (.int .i64 ((rd_T93 ((rd_T41 [xp0] 0).f1) x3_1).f1)) := (blk_cell BK902.out 1).trans rfl
            have hcz21_2 : wc.cell? ⟨gb902, 2, none⟩ = some (.int .i64 ((rd_T93 ((rd_T41 [xp0] 0).f1) x3_1).f2)) := (blk_cell BK902.out 2).trans rfl
            have hfz21_0 := blk_frozen BK902.out 0
            have hfz21_1 := blk_frozen BK902.out 1
            have hfz21_2 := blk_frozen BK902.out 2
            have p905 : 0 ≤ (0 : Int) := (by omega)
            have q905 : 0 < ([xp0].length : Int) := (by simp)
            obtain ⟨ad905, A905_1, c905_1, A905_2, c905_2, A905_3, c905_3, e905, hx905_0, hx905_1, hx905_2, hx905_3, hl905_1, hi905_1, hl905_2, hi905_2, hl905_3, hi905_3⟩ := at_T41 HR0.out 0 p905 q905
            obtain rfl : adp0 = ad905 := (by injection e905)
            (try rw [show ((0 : Int)).toNat = 0 from rfl] at hx905_0)
            (try rw [show 0 * 4 = 0 from rfl] at hx905_0)
            (try rw [Addr.add_zero'] at hx905_0)
            (try rw [show ((0 : Int)).toNat = 0 from rfl] at hx905_1)
            (try rw [show 0 * 4 = 0 from rfl] at hx905_1)
            (try rw [Addr.add_zero'] at hx905_1)
            (try rw [show ((0 : Int)).toNat = 0 from rfl] at hx905_2)
            (try rw [show 0 * 4 = 0 from rfl] at hx905_2)
            (try rw [Addr.add_zero'] at hx905_2)
            (try rw [show ((0 : Int)).toNat = 0 from rfl] at hx905_3)
            (try rw [show 0 * 4 = 0 from rfl] at hx905_3)
            (try rw [Addr.add_zero'] at hx905_3)
            replace hx905_0 := (HB.out.cell (World.block_lt_of_cell? w _ hx905_0)).trans hx905_0
            replace hx905_1 := (HB.out.cell (World.block_lt_of_cell? w _ hx905_1)).trans hx905_1
            replace hx905_2 := (HB.out.cell (World.block_lt_of_cell? w _ hx905_2)).trans hx905_2
            replace hx905_3 := (HB.out.cell (World.block_lt_of_cell? w _ hx905_3)).trans hx905_3
            have HR905_1 := Aside0.mk hi905_1
            have HC905_1 := Aside0.mk hl905_1
            clear hi905_1 hl905_1
            have HR905_2 := Aside0.mk hi905_2
            have HC905_2 := Aside0.mk hl905_2
            clear hi905_2 hl905_2
            have HR905_3 := Aside0.mk hi905_3
            have HC905_3 := Aside0.mk hl905_3
            clear hi905_3 hl905_3
            replace p905 := eq_true p905
            replace q905 := eq_true q905
            have p906 : 0 ≤ ((ji16) : Int) := of_decide_eq_true (by first|(with_reducible assumption)|assumption)
            have q906 : (ji16) < (((rd_T41 [xp0] 0).f1).length : Int) := of_decide_eq_true (by first|(with_reducible assumption)|assumption)
            obtain ⟨ad906, e906, hx906_0, hx906_1, hx906_2⟩ := at_T93 HR905_1.out (ji16) p906 q906
            cases e906
            replace hx906_0 := (HB.out.cell (World.block_lt_of_cell? w _ hx906_0)).trans hx906_0
            replace hx906_1 := (HB.out.cell (World.block_lt_of_cell? w _ hx906_1)).trans hx906_1
            replace hx906_2 := (HB.out.cell (World.block_lt_of_cell? w _ hx906_2)).trans hx906_2
            replace p906 := eq_true p906
            replace q906 := eq_true q906
            go_wp2
            repeat (go_quiet (fail);try go_wp2)
            go_roundg kj3
            case measure => have := HK1.out;have := HJ3.out;omega
            case rel => exact ⟨(wrap64 (x3_1 + 1)), (by first|rfl|(simp;done)|(simp [*];done)), H', ⟨by have := HK1.out;have := HJ3.out;omega⟩, ⟨by repeat (first|(with_reducible first|exact HB.out|apply below_alloc|apply pw_below_drewN|apply below_drew1|refine below_set ?_ GE902.out)|exact HB.out)⟩⟩
          ·
           rw [if_neg c18] at H
           exact absurd H (by simp)
         ·
          rw [if_neg c17] at H
          exact absurd H (by simp)
        ·
         rw [if_neg c15] at H
         have c15b0 : decide (0 < x3_1) = false := decide_eq_false c15
         clear c15
         have H' := Aside0.mk H
         clear H
         go_wp2
         repeat (go_quiet (fail);try go_wp2)
         go_roundg kj3
         case measure => have := HK1.out;have := HJ3.out;omega
         case rel => exact ⟨(wrap64 (x3_1 + 1)), (by first|rfl|(simp;done)|(simp [*];done)), H', ⟨by have := HK1.out;have := HJ3.out;omega⟩, ⟨by repeat (first|(with_reducible first|exact HB.out|apply below_alloc|apply pw_below_drewN|apply below_drew1|refine below_set ?_ GE902.out)|exact HB.out)⟩⟩
    ·
     rw [if_neg c3] at H
     exact absurd H (by simp)
   ·
    rw [if_neg c2] at H
    have c2b0 : decide (x3_1 < (((rd_T41 [xp0] 0).f1).length : Int)) = false := decide_eq_false c2
    clear c2
    obtain rfl := Option.some.inj H
    have p900 : 0 ≤ (0 : Int) := (by omega)
    have q900 : 0 < ([xp0].length : Int) := (by simp)
    obtain ⟨ad900, A900_1, c900_1, A900_2, c900_2, A900_3, c900_3, e900, hx900_0, hx900_1, hx900_2, hx900_3, hl900_1, hi900_1, hl900_2, hi900_2, hl900_3, hi900_3⟩ := at_T41 HR0.out 0 p900 q900
    obtain rfl : adp0 = ad900 := (by injection e900)
    (try rw [show ((0 : Int)).toNat = 0 from rfl] at hx900_0)
    (try rw [show 0 * 4 = 0 from rfl] at hx900_0)
    (try rw [Addr.add_zero'] at hx900_0)
    (try rw [show ((0 : Int)).toNat = 0 from rfl] at hx900_1)
    (try rw [show 0 * 4 = 0 from rfl] at hx900_1)
    (try rw [Addr.add_zero'] at hx900_1)
    (try rw [show ((0 : Int)).toNat = 0 from rfl] at hx900_2)
    (try rw [show 0 * 4 = 0 from rfl] at hx900_2)
    (try rw [Addr.add_zero'] at hx900_2)
    (try rw [show ((0 : Int)).toNat = 0 from rfl] at hx900_3)
    (try rw [show 0 * 4 = 0 from rfl] at hx900_3)
    (try rw [Addr.add_zero'] at hx900_3)
    replace hx900_0 := (HB.out.cell (World.block_lt_of_cell? w _ hx900_0)).trans hx900_0
    replace hx900_1 := (HB.out.cell (World.block_lt_of_cell? w _ hx900_1)).trans hx900_1
    replace hx900_2 := (HB.out.cell (World.block_lt_of_cell? w _ hx900_2)).trans hx900_2
    replace hx900_3 := (HB.out.cell (World.block_lt_of_cell? w _ hx900_3)).trans hx900_3
    have HR900_1 := Aside0.mk hi900_1
    have HC900_1 := Aside0.mk hl900_1
    clear hi900_1 hl900_1
    have HR900_2 := Aside0.mk hi900_2
    have HC900_2 := Aside0.mk hl900_2
    clear hi900_2 hl900_2
    have HR900_3 := Aside0.mk hi900_3
    have HC900_3 := Aside0.mk hl900_3
    clear hi900_3 hl900_3
    replace p900 := eq_true p900
    replace q900 := eq_true q900
    go_wp2
    repeat (go_quiet (fail);try go_wp2)
    go_ret
    exact ⟨by first|rfl|(simp [errW_none, errW_some] <;> rfl)|(simp [*, errW_none, errW_some] <;> rfl), by repeat (first|(with_reducible first|exact HB.out|apply below_alloc|apply pw_below_drewN|apply below_drew1)|exact HB.out)⟩

end Go.Proofs.Ytflddpkmajoeaaa.PP
