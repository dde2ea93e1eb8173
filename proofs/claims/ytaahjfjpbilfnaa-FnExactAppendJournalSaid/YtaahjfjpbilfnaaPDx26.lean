-- Laid by a program of this session's (wip/xprint.py) over the kit's print. Nothing in it is trusted: Lean checks it.
import Derived.Test.YtaahjfjpbilfnaaPDx0
import Derived.Test.YtaahjfjpbilfnaaPDx24
namespace Go.Proofs.Ytaahjfjpbilfnaa.PD
open Go.RowKit Go.Proofs.YtaahjfjpbilfnaaW.PrintWords Go.Proofs.YtaahjfjpbilfnaaW.PrintLast Go.Proofs.YtaahjfjpbilfnaaW.PrintMore
set_option maxHeartbeats 8000000
set_option maxRecDepth 100000
attribute [local go_sem] max2_int min2_int max_two min_two max_three min_three max_four min_four   -- for this text's walks alone
set_option linter.unusedVariables false
set_option linter.unusedSimpArgs false

/-! ### impl_flushed: function 79 -/
def impl_flushed.l0 : Nat → List Int → List (S53) → Int → Int → Option (List Int)
 | 0, _, _, _, _ => none
 | k + 1, x3, x10, x11, x12 => if x12 < x11 then (if 0 ≤ x12 then (if x12 < (x10.length : Int) then (if 0 ≤ ((rd_T53 x10 x12).f0) then (if ((rd_T53 x10 x12).f0) < (x3.length : Int) then (impl_flushed.l0 k (x3.set (((rd_T53 x10 x12).f0) : Int).toNat ((rd_T53 x10 x12).f1)) x10 x11 (wrap64 (x12 + 1))) else (none)) else (none)) else (none)) else (none)) else (some x3)
def impl_flushed.f (k : Nat) (l0_0 : List Int) (l0_1 : List (S53)) : Option (List Int) := (slices_Clone_int64.f l0_0).bind fun t298 => (impl_flushed.l0 k t298 l0_1 (l0_1.length : Int) 0)
theorem impl_flushed.mono_l : ∀ k, (∀ y0 y1 y2 y3, LeO (impl_flushed.l0 k y0 y1 y2 y3) (impl_flushed.l0 (k + 1) y0 y1 y2 y3))
 | 0 => fun _ _ _ _ r h => by simp [impl_flushed.l0] at h
 | k + 1 => by
  have ih0 := impl_flushed.mono_l k
  ·
   intro y0 y1 y2 y3
   unfold impl_flushed.l0
   repeat' first
   | (with_reducible exact ih0 _ _ _ _)
   | (with_reducible exact LeO.refl _)
   | (with_reducible exact LeO.none _)
   | (with_reducible refine LeO.ite ?_ ?_)
   | (with_reducible refine LeO.bind ?_ (fun _ => ?_))
   | exact ih0 _ _ _ _
   | exact LeO.none _
   | refine LeO.ite ?_ ?_
   | refine LeO.bind ?_ (fun _ => ?_)
theorem impl_flushed.mono : ∀ a0 a1 k, LeO (impl_flushed.f k a0 a1) (impl_flushed.f (k + 1) a0 a1) := by
 intro a0 a1 k
 have ih0 := impl_flushed.mono_l k
 unfold impl_flushed.f
 repeat' first
   | (with_reducible exact ih0 _ _ _ _)
   | (with_reducible exact LeO.refl _)
   | (with_reducible exact LeO.none _)
   | (with_reducible refine LeO.ite ?_ ?_)
   | (with_reducible refine LeO.bind ?_ (fun _ => ?_))
   | exact ih0 _ _ _ _
   | exact LeO.none _
   | refine LeO.ite ?_ ?_
   | refine LeO.bind ?_ (fun _ => ?_)
theorem impl_flushed.calls (k : Nat) (A0_0 : Option Addr) (c0_0 : Nat) (l0_0 : List Int) (A0_1 : Option Addr) (c0_1 : Nat) (l0_1 : List (S53)) (r : List Int) (w : World) (hr0_0 : Kd.C (Kd.int .i64) w A0_0 l0_0.length l0_0) (hc0_0 : l0_0.length ≤ c0_0) (hr0_1 : Kd.C k53 w A0_1 l0_1.length l0_1) (hc0_1 : l0_1.length ≤ c0_1) (h : impl_flushed.f k l0_0 l0_1 = some r) :
  Calls Try.prog 79 #[.agg #[.slice A0_0 l0_0.length c0_0, .slice A0_1 l0_1.length c0_1]] w fun e w' => ∃ v0_ : Value, e = .returned (v0_) ∧ Kd.R (Kd.int .i64) 2 w' w.heap.size (fun _ => True) v0_ r ∧ Below w.heap.size w w' := by
 have hu30 := Try.underlying30
 have hu53 := Try.underlying53
 have HR0_0 := Aside0.mk hr0_0
 have HC0_0 := Aside0.mk hc0_0
 clear hr0_0 hc0_0
 have HR0_1 := Aside0.mk hr0_1
 have HC0_1 := Aside0.mk hc0_1
 clear hr0_1 hc0_1
 have HB := Aside0.mk (Below.refl w.heap.size w)
 have H : ((slices_Clone_int64.f l0_0).bind fun t298 => (impl_flushed.l0 k t298 l0_1 (l0_1.length : Int) 0)) = some r := h
 clear h
 replace H := Option.bind_eq_some_iff.mp H
 obtain ⟨t298, A20, H⟩ := H
 replace H : (impl_flushed.l0 k t298 l0_1 (l0_1.length : Int) 0) = some r := H
 have A2 := Aside0.mk A20
 clear A20
 have H' := Aside0.mk H
 clear H
 go_enter Try.func79, Try.ntmps79
 go_wp2_with (first|((with_reducible refine gate_dst (N := 1) rfl ?_);refine box_event ?hg (N := 1) ?hd (cs := #[.slice A0_0 l0_0.length c0_0, .slice A0_1 l0_1.length c0_1]) (t := 30) ?hr ?_;(case hd => rfl);(case hg => rfl);(case hr => first|(go_simp;done)|(go_simp;rfl));intro gb297 hg w3 hbox hb;have n0_ := Aside0.mk (below_step (by repeat (first|(with_reducible first|exact HB.out|apply below_alloc|apply pw_below_drewN|apply below_drew1)|exact HB.out)) hb);have n1_ := Aside0.mk (hbox);have n2_ := Aside0.mk ((by rw [hg];exact (below_size (by repeat (first|(with_reducible first|exact HB.out|apply below_alloc|apply pw_below_drewN|apply below_drew1)|exact HB.out))) : w.heap.size ≤ gb297));have n3_ := Aside0.mk ((by rw [hg];exact (below_size (by repeat (first|(with_reducible first|exact HB.out|apply below_alloc|apply pw_below_drewN|apply below_drew1)|exact HB.out))) : w.heap.size ≤ gb297));clear HB;have HB := n0_;have BK297 := n1_;have GW297 := n2_;have GE297 := n3_;clear n0_ n1_ n2_ n3_;clear hb hbox hg;have hcz4_0 : w3.cell? ⟨gb297, 0, none⟩ = some (.slice A0_0 l0_0.length c0_0) := (blk_cell BK297.out 0).trans rfl;have hcz4_1 : w3.cell? ⟨gb297, 1, none⟩ = some (.slice A0_1 l0_1.length c0_1) := (blk_cell BK297.out 1).trans rfl;have hfz4_0 := blk_frozen BK297.out 0;have hfz4_1 := blk_frozen BK297.out 1)|((with_reducible refine gate_callee (f := 111) rfl ?_);refine goesL_ (some 8) rfl rfl Try.func111 (by kernel_rfl) rfl #[.slice A0_0 l0_0.length c0_0] rfl (by (try simp only [List.map_toArray, List.map_cons, List.map_nil]);first|done|rfl|(simp only [List.length_drop, List.length_take];rfl)) ?_;(with_reducible refine (slices_Clone_int64.calls _ _ l0_0 t298 _ ?side1 ?side2 A2.out).mono ?_);(case side1 => repeat (first|exact (Kd.C_below HR0_0.out HB.out)|(with_reducible refine Kd.C_alloc ?_ _)|(with_reducible refine Kd.C_drewN ?_ _)|(with_reducible refine Kd.C_drew ?_)));(case side2 => exact HC0_0.out);rintro e w5 ⟨v299, rfl, ho0, hb⟩;refine ⟨_, rfl, ?_⟩;have n0_ := Aside0.mk (Kd.R_lower ho0 (below_size (by repeat (first|(with_reducible first|exact HB.out|apply below_alloc|apply pw_below_drewN|apply below_drew1|refine below_set ?_ GE297.out)|exact HB.out))));have n1_ := Aside0.mk (blk_below (g := gb297) (o := .cells #[.slice A0_0 l0_0.length c0_0, .slice A0_1 l0_1.length c0_1] 30 (0, 0)) (by (with_reducible repeat (first|refine blk_drewN ?_ _|refine blk_drew ?_|refine blk_alloc ?_ _));exact BK297.out) hb);have n2_ := Aside0.mk (below_step (by repeat (first|(with_reducible first|exact HB.out|apply below_alloc|apply pw_below_drewN|apply below_drew1|refine below_set ?_ GE297.out)|exact HB.out)) hb);clear BK297;clear HB;have HO300 := n0_;have BK297 := n1_;have HB := n2_;clear n0_ n1_ n2_;(try clear hb);(try clear hb2);(try clear hk);(try clear hi);(try clear ho0);have hcz6_0 : w5.cell? ⟨gb297, 0, none⟩ = some (.slice A0_0 l0_0.length c0_0) := (blk_cell BK297.out 0).trans rfl;have hcz6_1 : w5.cell? ⟨gb297, 1, none⟩ = some (.slice A0_1 l0_1.length c0_1) := (blk_cell BK297.out 1).trans rfl;have hfz6_0 := blk_frozen BK297.out 0;have hfz6_1 := blk_frozen BK297.out 1))
 go_loopg [12] k (fun kq v12 w' => ∃ (x3_1 : List Int) (x12_1 : Int), v12 = .int .i64 x12_1 ∧ Aside0 (impl_flushed.l0 kq x3_1 l0_1 (l0_1.length : Int) x12_1 = some r) ∧ Aside0 (kq ≤ k) ∧ Aside0 (Kd.R (Kd.int .i64) 2 w' w.heap.size (fun _ => True) v299 x3_1) ∧ Aside0 (w'.heap[gb297]? = some (.cells #[(.slice A0_0 l0_0.length c0_0), (.slice A0_1 l0_1.length c0_1)] 30 (0, 0))) ∧ Aside0 (Below w.heap.size w w'))
 case atStart => exact ⟨(t298), (0), (by first|rfl|(simp;done)|(simp [*];done)), H', ⟨Nat.le_refl _⟩, ⟨by (with_reducible repeat (first|apply Kd.R_alloc|apply Kd.R_drewN|apply Kd.R_drew));exact HO300.out⟩, ⟨by (with_reducible repeat (first|refine blk_drewN ?_ _|refine blk_drew ?_|refine blk_alloc ?_ _));exact BK297.out⟩, ⟨by repeat (first|(with_reducible first|exact HB.out|apply below_alloc|apply pw_below_drewN|apply below_drew1|refine below_set ?_ GE297.out)|exact HB.out)⟩⟩
 case round =>
  clear H'
  try clear c1
  try clear p2
  try clear hcz4_0
  try clear hcz4_1
  try clear hcz6_0
  try clear hcz6_1
  try clear hfz4_0
  try clear hfz4_1
  try clear hfz6_0
  try clear hfz6_1
  obtain ⟨x3_1, x12_1, rfl, HA, HK1, HO_3, BK297, HB⟩ := hrel
  cases gk with
  | zero => exact absurd HA.out (by simp [impl_flushed.l0])
  | succ k1 =>
   have H := HA.out
   clear HA
   simp only [impl_flushed.l0] at H
   by_cases c7 : x12_1 < (l0_1.length : Int)
   ·
    rw [if_pos c7] at H
    have c7b0 : decide (x12_1 < (l0_1.length : Int)) = true := decide_eq_true c7
    clear c7
    by_cases c8 : 0 ≤ x12_1
    ·
     rw [if_pos c8] at H
     have c8b0 : decide (0 ≤ x12_1) = true := decide_eq_true c8
     clear c8
     by_cases c9 : x12_1 < (l0_1.length : Int)
     ·
      rw [if_pos c9] at H
      have c9b0 : decide (x12_1 < (l0_1.length : Int)) = true := decide_eq_true c9
      clear c9
      by_cases c10 : 0 ≤ ((rd_T53 l0_1 x12_1).f0)
      ·
       rw [if_pos c10] at H
       have c10b0 : decide (0 ≤ ((rd_T53 l0_1 x12_1).f0)) = true := decide_eq_true c10
       clear c10
       by_cases c11 : ((rd_T53 l0_1 x12_1).f0) < (x3_1.length : Int)
       ·
        rw [if_pos c11] at H
        have c11b0 : decide (((rd_T53 l0_1 x12_1).f0) < (x3_1.length : Int)) = true := decide_eq_true c11
        clear c11
        obtain ⟨y303, hy303⟩ : ∃ y_ : List Int, y_ = (x3_1.set (((rd_T53 l0_1 x12_1).f0) : Int).toNat ((rd_T53 l0_1 x12_1).f1)) := ⟨_, rfl⟩
        replace H : (impl_flushed.l0 k1 y303 l0_1 (l0_1.length : Int) (wrap64 (x12_1 + 1))) = some r := by first|(rw [hy303];with_reducible exact H)|(have H2_ := (Option.bind_some _ _).symm.trans H;rw [hy303];with_reducible exact H2_)|(have H2_ := (Option.bind_some _ _).symm.trans H;with_reducible exact H2_)|with_reducible exact H|(rw [hy303];exact H)|exact H
        have Ny303 := Aside0.mk hy303
        clear hy303
        have H' := Aside0.mk H
        clear H
        have p301 : 0 ≤ (x12_1 : Int) := of_decide_eq_true (by first|(with_reducible assumption)|assumption)
        have q301 : x12_1 < (l0_1.length : Int) := of_decide_eq_true (by first|(with_reducible assumption)|assumption)
        obtain ⟨ad301, e301, hx301_0, hx301_1⟩ := at_T53 HR0_1.out x12_1 p301 q301
        cases e301
        replace hx301_0 := (HB.out.cell (World.block_lt_of_cell? w _ hx301_0)).trans hx301_0
        replace hx301_1 := (HB.out.cell (World.block_lt_of_cell? w _ hx301_1)).trans hx301_1
        replace p301 := eq_true p301
        replace q301 := eq_true q301
        go_wp2_with (first|((with_reducible refine gate_dst (N := 5) rfl ?_);refine box_event ?hg (N := 5) ?hd (cs := #[.int .i64 0, .int .i64 0]) (t := 53) ?hr ?_;(case hd => rfl);(case hg => rfl);(case hr => first|(go_simp;done)|(go_simp;rfl));intro gb302 hg w13 hbox hb;have n0_ := Aside0.mk (Kd.R_below (by (with_reducible repeat (first|apply Kd.R_alloc|apply Kd.R_drewN|apply Kd.R_drew));exact HO_3.out) hb);have n1_ := Aside0.mk (blk_below (g := gb297) (o := .cells #[.slice A0_0 l0_0.length c0_0, .slice (some ad301) l0_1.length c0_1] 30 (0, 0)) (by (with_reducible repeat (first|refine blk_drewN ?_ _|refine blk_drew ?_|refine blk_alloc ?_ _));exact BK297.out) hb);have n2_ := Aside0.mk (below_step (by repeat (first|(with_reducible first|exact HB.out|apply below_alloc|apply pw_below_drewN|apply below_drew1|refine below_set ?_ GE297.out)|exact HB.out)) hb);have n3_ := Aside0.mk (hbox);have n4_ := Aside0.mk ((by rw [hg];exact (below_size (by repeat (first|(with_reducible first|exact HB.out|apply below_alloc|apply pw_below_drewN|apply below_drew1|refine below_set ?_ GE297.out)|exact HB.out))) : w.heap.size ≤ gb302));have n5_ := Aside0.mk ((by rw [hg];exact (below_size (by repeat (first|(with_reducible first|exact HB.out|apply below_alloc|apply pw_below_drewN|apply below_drew1|refine below_set ?_ GE297.out)|exact HB.out))) : w.heap.size ≤ gb302));have n6_ := Aside0.mk ((by rw [hg];exact Nat.ne_of_lt (blk_lt (g := gb297) (o := .cells #[.slice A0_0 l0_0.length c0_0, .slice (some ad301) l0_1.length c0_1] 30 (0, 0)) (by (with_reducible repeat (first|refine blk_drewN ?_ _|refine blk_drew ?_|refine blk_alloc ?_ _));exact BK297.out)) : gb297 ≠ gb302));have n7_ := Aside0.mk ((by rw [hg];exact Nat.ne_of_gt (blk_lt (g := gb297) (o := .cells #[.slice A0_0 l0_0.length c0_0, .slice (some ad301) l0_1.length c0_1] 30 (0, 0)) (by (with_reducible repeat (first|refine blk_drewN ?_ _|refine blk_drew ?_|refine blk_alloc ?_ _));exact BK297.out)) : gb302 ≠ gb297));clear HO_3;clear BK297;clear HB;have HO_3 := n0_;have BK297 := n1_;have HB := n2_;have BK302 := n3_;have GW302 := n4_;have GE302 := n5_;have NB297_302 := n6_;have NB302_297 := n7_;clear n0_ n1_ n2_ n3_ n4_ n5_ n6_ n7_;clear hb hbox hg;have hnb14 := NB302_297.out;have hnc14 := NB297_302.out;have hcz15_0 : w13.cell? ⟨gb302, 0, none⟩ = some (.int .i64 0) := (blk_cell BK302.out 0).trans rfl;have hcz15_1 : w13.cell? ⟨gb302, 1, none⟩ = some (.int .i64 0) := (blk_cell BK302.out 1).trans rfl;have hfz15_0 := blk_frozen BK302.out 0;have hfz15_1 := blk_frozen BK302.out 1)|((with_reducible refine gate_store (t := 53) (p := 5) rfl ?_);refine store_event (t := 53) (p := 5) (v := ?vo_w16) (w1 := ((w13.setCell ⟨gb302, 0, none⟩ (.int .i64 ((rd_T53 l0_1 x12_1).f0))).setCell ⟨gb302, 1, none⟩ (.int .i64 ((rd_T53 l0_1 x12_1).f1)))) ?hg ?ho ?hn ?hr ?_;(case ho => rfl);(case hg => rfl);(case hn => rfl);(case hr => first|(go_simp;done)|(go_simp;rfl));intro w16 hw;have n0_ : Aside0 (Kd.R (Kd.int .i64) 2 w16 w.heap.size (fun _ => True) v299 x3_1) := ⟨(by rw [hw];exact (by (with_reducible repeat (first|apply Kd.R_alloc|apply Kd.R_drewN|apply Kd.R_drew));exact Kd.R_mono (Kd.R_far (p := ⟨gb302, 1, none⟩) (Kd.R_far (p := ⟨gb302, 0, none⟩) (Kd.R_types HO_3.out BK302.out (by decide)) (fun _ hk => hk.2) (.int .i64 ((rd_T53 l0_1 x12_1).f0))) (fun _ hk => hk.2) (.int .i64 ((rd_T53 l0_1 x12_1).f1))) (fun _ hk => trivial)))⟩;have n1_ : Aside0 (w16.heap[gb297]? = some (.cells #[.slice A0_0 l0_0.length c0_0, .slice (some ad301) l0_1.length c0_1] 30 (0, 0))) := ⟨(by rw [hw];exact (by (with_reducible repeat (first|refine blk_drewN ?_ _|refine blk_drew ?_|refine blk_alloc ?_ _));refine blk_far ?_ NB297_302.out _;(with_reducible repeat (first|refine blk_drewN ?_ _|refine blk_drew ?_|refine blk_alloc ?_ _));refine blk_far ?_ NB297_302.out _;(with_reducible repeat (first|refine blk_drewN ?_ _|refine blk_drew ?_|refine blk_alloc ?_ _));exact BK297.out))⟩;have n2_ : Aside0 (w16.heap[gb302]? = some (.cells #[.int .i64 ((rd_T53 l0_1 x12_1).f0), .int .i64 ((rd_T53 l0_1 x12_1).f1)] 53 (0, 0))) := ⟨(by rw [hw];exact (by (with_reducible repeat (first|refine blk_drewN ?_ _|refine blk_drew ?_|refine blk_alloc ?_ _));refine blk_put (cs := #[.int .i64 ((rd_T53 l0_1 x12_1).f0), .int .i64 0]) ?_ 1 _ rfl;(with_reducible repeat (first|refine blk_drewN ?_ _|refine blk_drew ?_|refine blk_alloc ?_ _));refine blk_put (cs := #[.int .i64 0, .int .i64 0]) ?_ 0 _ rfl;(with_reducible repeat (first|refine blk_drewN ?_ _|refine blk_drew ?_|refine blk_alloc ?_ _));exact BK302.out))⟩;have n3_ : Aside0 (Below w.heap.size w w16) := ⟨(by rw [hw];exact (by repeat (first|(with_reducible first|exact HB.out|apply below_alloc|apply pw_below_drewN|apply below_drew1|refine below_set ?_ GE297.out|refine below_set ?_ GE302.out)|exact HB.out)))⟩;clear hw;clear HO_3;clear BK297;clear BK302;clear HB;have HO_3 := n0_;have BK297 := n1_;have BK302 := n2_;have HB := n3_;clear n0_ n1_ n2_ n3_;have hcz17_0 : w16.cell? ⟨gb302, 0, none⟩ = some (.int .i64 ((rd_T53 l0_1 x12_1).f0)) := (blk_cell BK302.out 0).trans rfl;have hcz17_1 : w16.cell? ⟨gb302, 1, none⟩ = some (.int .i64 ((rd_T53 l0_1 x12_1).f1)) := (blk_cell BK302.out 1).trans rfl;have hfz17_0 := blk_frozen BK302.out 0;have hfz17_1 := blk_frozen BK302.out 1;have p12 : 0 ≤ (((rd_T53 l0_1 x12_1).f0) : Int) := of_decide_eq_true (by first|(with_reducible assumption)|assumption);have q12 : (((rd_T53 l0_1 x12_1).f0) : Int) < ((x3_1.length : Int) : Int) := of_decide_eq_true (by first|(with_reducible assumption)|assumption);obtain ⟨go12, co12, eo12, gb12, gl12, cl12, HG12⟩ := Kd.R_form HO_3.out (by omega);(first|cases eo12|(injection eo12 with ea_ en_ ec_;(first|subst ea_|(injection ea_ with ea_;subst ea_));subst ec_;clear en_));have GB12 := Aside0.mk gb12;have GG12 := Aside0.mk HG12;clear gb12 gl12 HG12;obtain ⟨hx12_0, hf12_0⟩ := Kd.R_celln 0 HO_3.out (((rd_T53 l0_1 x12_1).f0) : Int) p12 q12;replace p12 := eq_true p12;replace q12 := eq_true q12;obtain ⟨hy18_, hz18_⟩ := Kd.R_celln 0 HO_3.out (((rd_T53 l0_1 x12_1).f0) : Int) (of_decide_eq_true (by first|(with_reducible assumption)|assumption)) (of_decide_eq_true (by first|(with_reducible assumption)|assumption));have HP18 := Kd.R_putg HO_3.out (((rd_T53 l0_1 x12_1).f0) : Int) ((rd_T53 l0_1 x12_1).f1))|((with_reducible refine gate_store (t := 2) (p := 21) rfl ?_);refine store_event (t := 2) (p := 21) (v := ?vo_w19) (w1 := (w16.setCell ⟨go12, (((rd_T53 l0_1 x12_1).f0) : Int).toNat, none⟩ (.int .i64 ((rd_T53 l0_1 x12_1).f1)))) ?hg ?ho ?hn ?hr ?_;(case ho => rfl);(case hg => rfl);(case hn => rfl);(case hr => first|(go_simp;done)|(go_simp;rfl));intro w19 hw;have hg : w16.grownBy w19 (some go12) := (by rw [hw];exact HP18.2);have hp_ : Kd.R (Kd.int .i64) 2 w19 w.heap.size (fun _ => True) (.slice (some ⟨go12, 0, none⟩) x3_1.length co12) y303 := (by rw [hw, Ny303.out];exact HP18.1);clear HP18;have n0_ := Aside0.mk (hp_);have n1_ := Aside0.mk (blk_grown (g := gb297) (o := .cells #[.slice A0_0 l0_0.length c0_0, .slice (some ad301) l0_1.length c0_1] 30 (0, 0)) (by (with_reducible repeat (first|refine blk_drewN ?_ _|refine blk_drew ?_|refine blk_alloc ?_ _));exact BK297.out) hg (Kd.R_ne HO_3.out BK297.out (by decide)));have n2_ := Aside0.mk (blk_grown (g := gb302) (o := .cells #[.int .i64 ((rd_T53 l0_1 x12_1).f0), .int .i64 ((rd_T53 l0_1 x12_1).f1)] 53 (0, 0)) (by (with_reducible repeat (first|refine blk_drewN ?_ _|refine blk_drew ?_|refine blk_alloc ?_ _));exact BK302.out) hg (Kd.R_ne HO_3.out BK302.out (by decide)));have n3_ := Aside0.mk ((by rw [hw];exact below_set (HB.out) GB12.out : Below w.heap.size w w19));clear HO_3;clear BK297;clear BK302;clear HB;have HO_3 := n0_;have BK297 := n1_;have BK302 := n2_;have HB := n3_;clear n0_ n1_ n2_ n3_;clear hg hw hp_))
        go_roundg k1
        case measure => have := HK1.out;omega
        case rel => exact ⟨(y303), (wrap64 (x12_1 + 1)), (by first|rfl|(simp;done)|(simp [*];done)), H', ⟨by have := HK1.out;omega⟩, ⟨by (with_reducible repeat (first|apply Kd.R_alloc|apply Kd.R_drewN|apply Kd.R_drew));exact HO_3.out⟩, ⟨by (with_reducible repeat (first|refine blk_drewN ?_ _|refine blk_drew ?_|refine blk_alloc ?_ _));exact BK297.out⟩, ⟨by repeat (first|(with_reducible first|exact HB.out|apply below_alloc|apply pw_below_drewN|apply below_drew1|refine below_set ?_ GE297.out|refine below_set ?_ GE302.out)|exact HB.out)⟩⟩
       ·
        rw [if_neg c11] at H
        exact absurd H (by simp)
      ·
       rw [if_neg c10] at H
       exact absurd H (by simp)
     ·
      rw [if_neg c9] at H
      exact absurd H (by simp)
    ·
     rw [if_neg c8] at H
     exact absurd H (by simp)
   ·
    rw [if_neg c7] at H
    have c7b0 : decide (x12_1 < (l0_1.length : Int)) = false := decide_eq_false c7
    clear c7
    obtain rfl := Option.some.inj H
    go_wp2
    go_ret
    exact ⟨_, by first|rfl|(simp [errW_none, errW_some] <;> rfl)|(simp [*, errW_none, errW_some] <;> rfl), by (with_reducible repeat (first|apply Kd.R_alloc|apply Kd.R_drewN|apply Kd.R_drew));exact HO_3.out, by repeat (first|(with_reducible first|exact HB.out|apply below_alloc|apply pw_below_drewN|apply below_drew1|refine below_set ?_ GE297.out)|exact HB.out)⟩

end Go.Proofs.Ytaahjfjpbilfnaa.PD
