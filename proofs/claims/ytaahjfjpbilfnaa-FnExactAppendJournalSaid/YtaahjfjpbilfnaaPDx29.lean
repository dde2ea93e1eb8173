-- Laid by a program of this session's (wip/xprint.py) over the kit's print. Nothing in it is trusted: Lean checks it.
import Derived.Test.YtaahjfjpbilfnaaPDx0
import Derived.Test.YtaahjfjpbilfnaaPDx20
import Derived.Test.YtaahjfjpbilfnaaPDx24
import Derived.Test.YtaahjfjpbilfnaaPDx26
import Derived.Test.YtaahjfjpbilfnaaPDx27
import Derived.Test.YtaahjfjpbilfnaaPDx28
namespace Go.Proofs.Ytaahjfjpbilfnaa.PD
open Go.RowKit Go.Proofs.YtaahjfjpbilfnaaW.PrintWords Go.Proofs.YtaahjfjpbilfnaaW.PrintLast Go.Proofs.YtaahjfjpbilfnaaW.PrintMore
set_option maxHeartbeats 8000000
set_option maxRecDepth 100000
attribute [local go_sem] max2_int min2_int max_two min_two max_three min_three max_four min_four   -- for this text's walks alone
set_option linter.unusedVariables false
set_option linter.unusedSimpArgs false

/-! ### impl_scan: function 94 -/
mutual
def impl_scan.l0 : Nat → List (List Int) → List Int → Int → Option ((List (List Int)) × Int)
 | 0, _, _, _ => none
 | k + 1, x4, x5, x6 => if x6 < 64 then (if 0 ≤ x6 then (if x6 < (x5.length : Int) then ((impl_within.f (rd x5 x6) 1 8).bind fun t328 => (if t328 = true then (impl_scan.j1 k x4 x5 x6 (rd x5 x6) (decide ((rd x5 x6) > (wrap64 ((wrap64 (64 - x6)) - 2))))) else (impl_scan.j1 k x4 x5 x6 (rd x5 x6) true))) else (none)) else (none)) else (some (x4, x6))
def impl_scan.j1 : Nat → List (List Int) → List Int → Int → Int → Bool → Option ((List (List Int)) × Int)
 | 0, _, _, _, _, _ => none
 | k + 1, x4, x5, x6, x7, x28 => if x28 = true then (some (x4, x6)) else (if 0 ≤ (wrap64 (x6 + 2)) then (if (wrap64 (x6 + 2)) ≤ (wrap64 ((wrap64 (x6 + 2)) + x7)) then (if (wrap64 ((wrap64 (x6 + 2)) + x7)) ≤ (x5.length : Int) then ((some ((x5.take ((wrap64 ((wrap64 (x6 + 2)) + x7)) : Int).toNat).drop ((wrap64 (x6 + 2)) : Int).toNat : List Int)).bind fun y329 => ((impl_stands.f k (x4.length : Int) y329).bind fun t333 => (if 0 ≤ x6 then (if x6 ≤ (wrap64 ((wrap64 (x6 + 2)) + x7)) then ((slices_Equal_int64.f k t333 ((x5.take ((wrap64 ((wrap64 (x6 + 2)) + x7)) : Int).toNat).drop (x6 : Int).toNat)).bind fun t340 => (if t340 = true then ((slices_Clone_int64.f y329).bind fun t341 => (if x4.length < 5864062014805 then (impl_scan.l0 k (x4 ++ [t341]) x5 (wrap64 ((wrap64 (x6 + 2)) + x7))) else (none))) else (some (x4, x6)))) else (none)) else (none)))) else (none)) else (none)) else (none))
end
def impl_scan.f (k : Nat) (l0_0 : List Int) (l0_1 : List (S53)) : Option ((List (List Int)) × Int) := (impl_flushed.f k l0_0 l0_1).bind fun t324 => (impl_scan.l0 k (([] : List (List Int))) t324 0)
theorem impl_scan.mono_l : ∀ k, (∀ y0 y1 y2, LeO (impl_scan.l0 k y0 y1 y2) (impl_scan.l0 (k + 1) y0 y1 y2)) ∧ (∀ y0 y1 y2 y3 y4, LeO (impl_scan.j1 k y0 y1 y2 y3 y4) (impl_scan.j1 (k + 1) y0 y1 y2 y3 y4))
 | 0 => ⟨fun _ _ _ r h => by simp [impl_scan.l0] at h, fun _ _ _ _ _ r h => by simp [impl_scan.j1] at h⟩
 | k + 1 => by
  obtain ⟨ih0, ih1⟩ := impl_scan.mono_l k
  refine ⟨?_, ?_⟩
  ·
   intro y0 y1 y2
   unfold impl_scan.l0
   repeat' first
   | (with_reducible exact ih0 _ _ _)
   | (with_reducible exact ih1 _ _ _ _ _)
   | (with_reducible exact impl_flushed.mono _ _ _)
   | (with_reducible exact impl_stands.mono _ _ _)
   | (with_reducible exact slices_Equal_int64.mono _ _ _)
   | (with_reducible exact LeO.refl _)
   | (with_reducible exact LeO.none _)
   | (with_reducible refine LeO.ite ?_ ?_)
   | (with_reducible refine LeO.bind ?_ (fun _ => ?_))
   | exact ih0 _ _ _
   | exact ih1 _ _ _ _ _
   | exact impl_flushed.mono _ _ _
   | exact impl_stands.mono _ _ _
   | exact slices_Equal_int64.mono _ _ _
   | exact LeO.none _
   | refine LeO.ite ?_ ?_
   | refine LeO.bind ?_ (fun _ => ?_)
  ·
   intro y0 y1 y2 y3 y4
   unfold impl_scan.j1
   repeat' first
   | (with_reducible exact ih0 _ _ _)
   | (with_reducible exact ih1 _ _ _ _ _)
   | (with_reducible exact impl_flushed.mono _ _ _)
   | (with_reducible exact impl_stands.mono _ _ _)
   | (with_reducible exact slices_Equal_int64.mono _ _ _)
   | (with_reducible exact LeO.refl _)
   | (with_reducible exact LeO.none _)
   | (with_reducible refine LeO.ite ?_ ?_)
   | (with_reducible refine LeO.bind ?_ (fun _ => ?_))
   | exact ih0 _ _ _
   | exact ih1 _ _ _ _ _
   | exact impl_flushed.mono _ _ _
   | exact impl_stands.mono _ _ _
   | exact slices_Equal_int64.mono _ _ _
   | exact LeO.none _
   | refine LeO.ite ?_ ?_
   | refine LeO.bind ?_ (fun _ => ?_)
theorem impl_scan.mono : ∀ a0 a1 k, LeO (impl_scan.f k a0 a1) (impl_scan.f (k + 1) a0 a1) := by
 intro a0 a1 k
 obtain ⟨ih0, ih1⟩ := impl_scan.mono_l k
 unfold impl_scan.f
 repeat' first
   | (with_reducible exact ih0 _ _ _)
   | (with_reducible exact ih1 _ _ _ _ _)
   | (with_reducible exact impl_flushed.mono _ _ _)
   | (with_reducible exact impl_stands.mono _ _ _)
   | (with_reducible exact slices_Equal_int64.mono _ _ _)
   | (with_reducible exact LeO.refl _)
   | (with_reducible exact LeO.none _)
   | (with_reducible refine LeO.ite ?_ ?_)
   | (with_reducible refine LeO.bind ?_ (fun _ => ?_))
   | exact ih0 _ _ _
   | exact ih1 _ _ _ _ _
   | exact impl_flushed.mono _ _ _
   | exact impl_stands.mono _ _ _
   | exact slices_Equal_int64.mono _ _ _
   | exact LeO.none _
   | refine LeO.ite ?_ ?_
   | refine LeO.bind ?_ (fun _ => ?_)
def impl_scan.T7 : Bool × List (List Nat × List Nat) := (true, [([], []), ([0], [0]), ([], []), ([1, 2], [1, 2]), ([], []), ([], []), ([], []), ([4, 5, 6], [4, 5, 6]), ([3, 7, 3], [3, 7]), ([8], [8])])
def impl_scan.B7 : List Nat := [0, 1, 0, 7, 0, 0, 0, 112, 255, 511]
theorem impl_scan.tab7 : rtab .any (opsOf Try.f94 7) = impl_scan.T7 := by kernel_rfl
theorem impl_scan.bits7 : waitsOk impl_scan.T7.2 impl_scan.B7 = true := by kernel_rfl
theorem impl_scan.calls (k : Nat) (A0_0 : Option Addr) (c0_0 : Nat) (l0_0 : List Int) (A0_1 : Option Addr) (c0_1 : Nat) (l0_1 : List (S53)) (r1 : List (List Int)) (r2 : Int) (w : World) (hr0_0 : Kd.C (Kd.int .i64) w A0_0 l0_0.length l0_0) (hc0_0 : l0_0.length ≤ c0_0) (hr0_1 : Kd.C k53 w A0_1 l0_1.length l0_1) (hc0_1 : l0_1.length ≤ c0_1) (h : impl_scan.f k l0_0 l0_1 = some (r1, r2)) :
  Calls Try.prog 94 #[.agg #[.slice A0_0 l0_0.length c0_0, .slice A0_1 l0_1.length c0_1]] w fun e w' => ∃ v0_ : Value, e = .returned (.tuple #[v0_, .int .i64 r2]) ∧ Kd.S (Kd.slice 2 (Kd.int .i64)) 22 w' w.heap.size (fun _ => True) v0_ r1 ∧ Below w.heap.size w w' := by
 have hu30 := Try.underlying30
 have HR0_0 := Aside0.mk hr0_0
 have HC0_0 := Aside0.mk hc0_0
 clear hr0_0 hc0_0
 have HR0_1 := Aside0.mk hr0_1
 have HC0_1 := Aside0.mk hc0_1
 clear hr0_1 hc0_1
 have HB := Aside0.mk (Below.refl w.heap.size w)
 have H : ((impl_flushed.f k l0_0 l0_1).bind fun t324 => (impl_scan.l0 k (([] : List (List Int))) t324 0)) = some (r1, r2) := h
 clear h
 obtain ⟨y321, hy321⟩ : ∃ y_ : List (List Int), y_ = (([] : List (List Int))) := ⟨_, rfl⟩
 replace H : ((impl_flushed.f k l0_0 l0_1).bind fun t324 => (impl_scan.l0 k y321 t324 0)) = some (r1, r2) := by first|(rw [hy321];with_reducible exact H)|(have H2_ := (Option.bind_some _ _).symm.trans H;rw [hy321];with_reducible exact H2_)|(have H2_ := (Option.bind_some _ _).symm.trans H;with_reducible exact H2_)|with_reducible exact H|(rw [hy321];exact H)|exact H
 have Ny321 := Aside0.mk hy321
 clear hy321
 replace H := Option.bind_eq_some_iff.mp H
 obtain ⟨t324, A20, H⟩ := H
 replace H : (impl_scan.l0 k y321 t324 0) = some (r1, r2) := H
 have A2 := Aside0.mk A20
 clear A20
 have H' := Aside0.mk H
 clear H
 go_enter Try.func94, Try.ntmps94
 go_wp2_with (first|((with_reducible refine gate_dst (N := 1) rfl ?_);refine box_event ?hg (N := 1) ?hd (cs := #[.slice A0_0 l0_0.length c0_0, .slice A0_1 l0_1.length c0_1]) (t := 30) ?hr ?_;(case hd => rfl);(case hg => rfl);(case hr => first|(go_simp;done)|(go_simp;rfl));intro gb320 hg w3 hbox hb;have n0_ := Aside0.mk (below_step (by repeat (first|(with_reducible first|exact HB.out|apply below_alloc|apply pw_below_drewN|apply below_drew1)|exact HB.out)) hb);have n1_ := Aside0.mk (hbox);have n2_ := Aside0.mk ((by rw [hg];exact (below_size (by repeat (first|(with_reducible first|exact HB.out|apply below_alloc|apply pw_below_drewN|apply below_drew1)|exact HB.out))) : w.heap.size ≤ gb320));have n3_ := Aside0.mk ((by rw [hg];exact (below_size (by repeat (first|(with_reducible first|exact HB.out|apply below_alloc|apply pw_below_drewN|apply below_drew1)|exact HB.out))) : w.heap.size ≤ gb320));clear HB;have HB := n0_;have BK320 := n1_;have GW320 := n2_;have GE320 := n3_;clear n0_ n1_ n2_ n3_;clear hb hbox hg)|((with_reducible refine gate_dst (N := 10) rfl ?_);refine Kd.S_lit (Kd.slice 2 (Kd.int .i64)) _ 22 ?hg (N := 10) ?hd (xs := ([] : List (List Int))) (inner := []) (ok := fun _ => True) (okp := fun _ => True) ?hr ?hp (fun _ hk => hk) trivial (Below.refl _ _) (Nat.le_refl _) (by simp) ?_;(case hd => rfl);(case hg => rfl);(case hr => first|(go_simp;done)|(go_simp;rfl));(case hp => exact (Reps.none _ _));intro v322 w4 ho5 hb hg_ hnew_;clear hg_ hnew_;(first|rw [← Ny321.out] at ho5|(simp only [Int.reduceToNat] at ho5;rw [← Ny321.out] at ho5));have n0_ := Aside0.mk (Kd.S_lower ho5 (below_size (by repeat (first|(with_reducible first|exact HB.out|apply below_alloc|apply pw_below_drewN|apply below_drew1|refine below_set ?_ GE320.out)|exact HB.out))));have n1_ := Aside0.mk (blk_below (g := gb320) (o := .cells #[.slice A0_0 l0_0.length c0_0, .slice A0_1 l0_1.length c0_1] 30 (0, 0)) (by (with_reducible repeat (first|refine blk_drewN ?_ _|refine blk_drew ?_|refine blk_alloc ?_ _));exact BK320.out) hb);have n2_ := Aside0.mk (below_step (by repeat (first|(with_reducible first|exact HB.out|apply below_alloc|apply pw_below_drewN|apply below_drew1|refine below_set ?_ GE320.out)|exact HB.out)) hb);clear BK320;clear HB;have HO323 := n0_;have BK320 := n1_;have HB := n2_;clear n0_ n1_ n2_;clear hb ho5;have hcz6_0 : w4.cell? ⟨gb320, 0, none⟩ = some (.slice A0_0 l0_0.length c0_0) := (blk_cell BK320.out 0).trans rfl;have hcz6_1 : w4.cell? ⟨gb320, 1, none⟩ = some (.slice A0_1 l0_1.length c0_1) := (blk_cell BK320.out 1).trans rfl;have hfz6_0 := blk_frozen BK320.out 0;have hfz6_1 := blk_frozen BK320.out 1)|((with_reducible refine gate_callee (f := 79) rfl ?_);refine goesL_ (some 12) rfl rfl Try.func79 (by kernel_rfl) rfl #[.agg #[.slice A0_0 l0_0.length c0_0, .slice A0_1 l0_1.length c0_1]] rfl (by (try simp only [List.map_toArray, List.map_cons, List.map_nil]);first|done|rfl|(simp only [List.length_drop, List.length_take];rfl)) ?_;(with_reducible refine (impl_flushed.calls k _ _ l0_0 _ _ l0_1 t324 _ ?side1 ?side2 ?side3 ?side4 A2.out).mono ?_);(case side1 => repeat (first|exact (Kd.C_below HR0_0.out HB.out)|(with_reducible refine Kd.C_alloc ?_ _)|(with_reducible refine Kd.C_drewN ?_ _)|(with_reducible refine Kd.C_drew ?_)));(case side2 => exact HC0_0.out);(case side3 => repeat (first|exact (Kd.C_below HR0_1.out HB.out)|(with_reducible refine Kd.C_alloc ?_ _)|(with_reducible refine Kd.C_drewN ?_ _)|(with_reducible refine Kd.C_drew ?_)));(case side4 => exact HC0_1.out);rintro e w7 ⟨v325, rfl, ho0, hb⟩;refine ⟨_, rfl, ?_⟩;have n0_ := Aside0.mk (Kd.S_elder' (by (with_reducible repeat (first|apply Kd.S_alloc|apply Kd.S_drewN|apply Kd.S_drew));exact HO323.out) (Kd.R_base ho0) hb);have n1_ := Aside0.mk (Kd.R_lower ho0 (below_size (by repeat (first|(with_reducible first|exact HB.out|apply below_alloc|apply pw_below_drewN|apply below_drew1|refine below_set ?_ GE320.out)|exact HB.out))));have n2_ := Aside0.mk (blk_below (g := gb320) (o := .cells #[.slice A0_0 l0_0.length c0_0, .slice A0_1 l0_1.length c0_1] 30 (0, 0)) (by (with_reducible repeat (first|refine blk_drewN ?_ _|refine blk_drew ?_|refine blk_alloc ?_ _));exact BK320.out) hb);have n3_ := Aside0.mk (below_step (by repeat (first|(with_reducible first|exact HB.out|apply below_alloc|apply pw_below_drewN|apply below_drew1|refine below_set ?_ GE320.out)|exact HB.out)) hb);clear HO323;clear BK320;clear HB;have HO323 := n0_;have HO326 := n1_;have BK320 := n2_;have HB := n3_;clear n0_ n1_ n2_ n3_;(try clear hb);(try clear hb2);(try clear hk);(try clear hi);(try clear ho0)))
 go_loopg [4, 6] k (fun kq v4 v6 w' => ∃ (x4_1 : List (List Int)) (x6_1 : Int), v6 = .int .i64 x6_1 ∧ Aside0 (impl_scan.l0 kq x4_1 t324 x6_1 = some (r1, r2)) ∧ Aside0 (kq ≤ k) ∧ Aside0 (Kd.S (Kd.slice 2 (Kd.int .i64)) 22 w' w.heap.size (fun k_ => some k_ ≠ (v325 : Value).ownBlock) v4 x4_1) ∧ Aside0 (Kd.R (Kd.int .i64) 2 w' w.heap.size (fun _ => True) v325 t324) ∧ Aside0 (w'.heap[gb320]? = some (.cells #[(.slice A0_0 l0_0.length c0_0), (.slice A0_1 l0_1.length c0_1)] 30 (0, 0))) ∧ Aside0 (Below w.heap.size w w'))
 case atStart => exact ⟨(y321), (0), (by first|rfl|(simp;done)|(simp [*];done)), H', ⟨Nat.le_refl _⟩, ⟨by (with_reducible repeat (first|apply Kd.S_alloc|apply Kd.S_drewN|apply Kd.S_drew));exact Kd.S_mono HO323.out (fun _ hk => hk.2)⟩, ⟨by (with_reducible repeat (first|apply Kd.R_alloc|apply Kd.R_drewN|apply Kd.R_drew));exact HO326.out⟩, ⟨by (with_reducible repeat (first|refine blk_drewN ?_ _|refine blk_drew ?_|refine blk_alloc ?_ _));exact BK320.out⟩, ⟨by repeat (first|(with_reducible first|exact HB.out|apply below_alloc|apply pw_below_drewN|apply below_drew1|refine below_set ?_ GE320.out)|exact HB.out)⟩⟩
 case round =>
  clear H'
  try clear p2
  try clear c7
  try clear hcz6_0
  try clear hcz6_1
  try clear hfz6_0
  try clear hfz6_1
  obtain ⟨x4_1, x6_1, rfl, HA, HK1, HO_4, HO_5, BK320, HB⟩ := hrel
  cases gk with
  | zero => exact absurd HA.out (by simp [impl_scan.l0])
  | succ k1 =>
   have H := HA.out
   clear HA
   simp only [impl_scan.l0] at H
   by_cases c8 : x6_1 < 64
   ·
    rw [if_pos c8] at H
    have c8b0 : decide (x6_1 < 64) = true := decide_eq_true c8
    clear c8
    by_cases c9 : 0 ≤ x6_1
    ·
     rw [if_pos c9] at H
     have c9b0 : decide (0 ≤ x6_1) = true := decide_eq_true c9
     clear c9
     by_cases c10 : x6_1 < (t324.length : Int)
     ·
      rw [if_pos c10] at H
      have c10b0 : decide (x6_1 < (t324.length : Int)) = true := decide_eq_true c10
      clear c10
      have HC11 := Aside0.mk H
      clear H
      obtain ⟨Ao12, co12, eo12⟩ := Kd.R_slice HO_5.out
      subst eo12
      have p327 : 0 ≤ (x6_1 : Int) := of_decide_eq_true (by first|(with_reducible assumption)|assumption)
      have q327 : x6_1 < (t324.length : Int) := of_decide_eq_true (by first|(with_reducible assumption)|assumption)
      obtain ⟨ad327, e327, hx327_0⟩ := Kd.at_int (Kd.R_reads' HO_5.out).2.2 x6_1 p327 q327
      cases e327
      replace p327 := eq_true p327
      replace q327 := eq_true q327
      go_upto_region 4 with (fail)
      go_cut [28] (fun v28 wc => ∃ (kq : Nat) (x28_10 : Bool), v28 = .bool x28_10 ∧ Aside0 (impl_scan.j1 kq x4_1 t324 x6_1 (rd t324 x6_1) x28_10 = some (r1, r2)) ∧ Aside0 (kq ≤ k1) ∧ Aside0 (Kd.S (Kd.slice 2 (Kd.int .i64)) 22 wc w.heap.size (fun k_ => some k_ ≠ ((.slice (some ad327) t324.length co12) : Value).ownBlock) u4 x4_1) ∧ Aside0 (Kd.R (Kd.int .i64) 2 wc w.heap.size (fun _ => True) (.slice (some ad327) t324.length co12) t324) ∧ Aside0 (wc.heap[gb320]? = some (.cells #[(.slice A0_0 l0_0.length c0_0), (.slice A0_1 l0_1.length c0_1)] 30 (0, 0))) ∧ Aside0 (Below w.heap.size w wc))
      case first =>
       have H := HC11.out
       clear HC11
       replace H := Option.bind_eq_some_iff.mp H
       obtain ⟨t328, A130, H⟩ := H
       replace H : (if t328 = true then (impl_scan.j1 k1 x4_1 t324 x6_1 (rd t324 x6_1) (decide ((rd t324 x6_1) > (wrap64 ((wrap64 (64 - x6_1)) - 2))))) else (impl_scan.j1 k1 x4_1 t324 x6_1 (rd t324 x6_1) true)) = some (r1, r2) := H
       have A13 := Aside0.mk A130
       clear A130
       by_cases c14 : t328 = true
       ·
        subst c14
        have H1 : (impl_scan.j1 k1 x4_1 t324 x6_1 (rd t324 x6_1) (decide ((rd t324 x6_1) > (wrap64 ((wrap64 (64 - x6_1)) - 2))))) = some (r1, r2) := by rw [if_pos rfl] at H;exact H
        clear H
        have H := H1
        clear H1
        have H' := Aside0.mk H
        clear H
        go_wp2_with (first|((with_reducible refine gate_callee (f := 104) rfl ?_);refine goesL_ (some 20) rfl rfl Try.func104 (by kernel_rfl) rfl #[.int .i64 (rd t324 x6_1), .int .i64 1, .int .i64 8] rfl (by (try simp only [List.map_toArray, List.map_cons, List.map_nil]);first|done|rfl|(simp only [List.length_drop, List.length_take];rfl)) ?_;(with_reducible refine (impl_within.calls (rd t324 x6_1) 1 8 true _ A13.out).mono ?_);rintro e w' ⟨rfl, ⟨nd, rfl⟩⟩;refine ⟨_, rfl, ?_⟩))
        go_meet
        case rel => exact ⟨_, (decide ((rd t324 x6_1) > (wrap64 ((wrap64 (64 - x6_1)) - 2)))), (by first|rfl|(simp;done)|(simp [*];done)), H', ⟨by have := HK1.out;first|omega|exact Nat.le_refl _⟩, ⟨by (with_reducible repeat (first|apply Kd.S_alloc|apply Kd.S_drewN|apply Kd.S_drew));exact HO_4.out⟩, ⟨by (with_reducible repeat (first|apply Kd.R_alloc|apply Kd.R_drewN|apply Kd.R_drew));exact HO_5.out⟩, ⟨by (with_reducible repeat (first|refine blk_drewN ?_ _|refine blk_drew ?_|refine blk_alloc ?_ _));exact BK320.out⟩, ⟨by repeat (first|(with_reducible first|exact HB.out|apply below_alloc|apply pw_below_drewN|apply below_drew1|refine below_set ?_ GE320.out)|exact HB.out)⟩⟩
       ·
        replace c14 := Bool.eq_false_iff.mpr c14
        subst c14
        have H1 : (impl_scan.j1 k1 x4_1 t324 x6_1 (rd t324 x6_1) true) = some (r1, r2) := by rw [if_neg (show ¬ (false = true) by decide)] at H;exact H
        clear H
        have H := H1
        clear H1
        have H' := Aside0.mk H
        clear H
        go_wp2_with (first|((with_reducible refine gate_callee (f := 104) rfl ?_);refine goesL_ (some 20) rfl rfl Try.func104 (by kernel_rfl) rfl #[.int .i64 (rd t324 x6_1), .int .i64 1, .int .i64 8] rfl (by (try simp only [List.map_toArray, List.map_cons, List.map_nil]);first|done|rfl|(simp only [List.length_drop, List.length_take];rfl)) ?_;(with_reducible refine (impl_within.calls (rd t324 x6_1) 1 8 false _ A13.out).mono ?_);rintro e w' ⟨rfl, ⟨nd, rfl⟩⟩;refine ⟨_, rfl, ?_⟩))
        go_meet
        case rel => exact ⟨_, (true), (by first|rfl|(simp;done)|(simp [*];done)), H', ⟨by have := HK1.out;first|omega|exact Nat.le_refl _⟩, ⟨by (with_reducible repeat (first|apply Kd.S_alloc|apply Kd.S_drewN|apply Kd.S_drew));exact HO_4.out⟩, ⟨by (with_reducible repeat (first|apply Kd.R_alloc|apply Kd.R_drewN|apply Kd.R_drew));exact HO_5.out⟩, ⟨by (with_reducible repeat (first|refine blk_drewN ?_ _|refine blk_drew ?_|refine blk_alloc ?_ _));exact BK320.out⟩, ⟨by repeat (first|(with_reducible first|exact HB.out|apply below_alloc|apply pw_below_drewN|apply below_drew1|refine below_set ?_ GE320.out)|exact HB.out)⟩⟩
      case rest =>
       clear HC11
       try clear c1
       try clear p2
       try clear p3
       try clear q3
       try clear hx3
       try clear p6
       try clear c7
       try clear c8
       try clear c8b0
       try clear c9
       try clear c9b0
       try clear c10
       try clear c10b0
       try clear c14
       try clear hcz6_0
       try clear hcz6_1
       try clear hfz6_0
       try clear hfz6_1
       try clear hx327_0
       try clear p2
       try clear p327
       try clear q327
       obtain ⟨kq, x28_10, rfl, HA, HJ10, HO_4, HO_5, BK320, HB⟩ := hcut
       cases kq with
       | zero => exact absurd HA.out (by simp [impl_scan.j1])
       | succ kj10 =>
        have H := HA.out
        clear HA
        simp only [impl_scan.j1] at H
        by_cases c15 : x28_10 = true
        ·
         subst c15
         have H1 : (some (x4_1, x6_1)) = some (r1, r2) := by rw [if_pos rfl] at H;exact H
         clear H
         have H := H1
         clear H1
         simp only [Option.some.injEq, Prod.mk.injEq] at H
         obtain ⟨rfl, rfl⟩ := H
         go_wp2
         go_ret2
         exact ⟨_, by first|rfl|(simp [errW_none, errW_some] <;> rfl)|(simp [*, errW_none, errW_some] <;> rfl), by (with_reducible repeat (first|apply Kd.S_alloc|apply Kd.S_drewN|apply Kd.S_drew));exact Kd.S_mono HO_4.out (fun _ hk => trivial), by repeat (first|(with_reducible first|exact HB.out|apply below_alloc|apply pw_below_drewN|apply below_drew1|refine below_set ?_ GE320.out)|exact HB.out)⟩
        ·
         replace c15 := Bool.eq_false_iff.mpr c15
         subst c15
         have H1 : (if 0 ≤ (wrap64 (x6_1 + 2)) then (if (wrap64 (x6_1 + 2)) ≤ (wrap64 ((wrap64 (x6_1 + 2)) + (rd t324 x6_1))) then (if (wrap64 ((wrap64 (x6_1 + 2)) + (rd t324 x6_1))) ≤ (t324.length : Int) then ((some ((t324.take ((wrap64 ((wrap64 (x6_1 + 2)) + (rd t324 x6_1))) : Int).toNat).drop ((wrap64 (x6_1 + 2)) : Int).toNat : List Int)).bind fun y329 => ((impl_stands.f kj10 (x4_1.length : Int) y329).bind fun t333 => (if 0 ≤ x6_1 then (if x6_1 ≤ (wrap64 ((wrap64 (x6_1 + 2)) + (rd t324 x6_1))) then ((slices_Equal_int64.f kj10 t333 ((t324.take ((wrap64 ((wrap64 (x6_1 + 2)) + (rd t324 x6_1))) : Int).toNat).drop (x6_1 : Int).toNat)).bind fun t340 => (if t340 = true then ((slices_Clone_int64.f y329).bind fun t341 => (if x4_1.length < 5864062014805 then (impl_scan.l0 kj10 (x4_1 ++ [t341]) t324 (wrap64 ((wrap64 (x6_1 + 2)) + (rd t324 x6_1)))) else (none))) else (some (x4_1, x6_1)))) else (none)) else (none)))) else (none)) else (none)) else (none)) = some (r1, r2) := by rw [if_neg (show ¬ (false = true) by decide)] at H;exact H
         clear H
         have H := H1
         clear H1
         obtain ⟨ji16, hji16⟩ : ∃ j_ : Int, (wrap64 (x6_1 + 2)) = j_ := ⟨_, rfl⟩
         replace H : (if 0 ≤ (ji16) then (if (ji16) ≤ (wrap64 ((ji16) + (rd t324 x6_1))) then (if (wrap64 ((ji16) + (rd t324 x6_1))) ≤ (t324.length : Int) then ((some ((t324.take ((wrap64 ((ji16) + (rd t324 x6_1))) : Int).toNat).drop ((ji16) : Int).toNat : List Int)).bind fun y329 => ((impl_stands.f kj10 (x4_1.length : Int) y329).bind fun t333 => (if 0 ≤ x6_1 then (if x6_1 ≤ (wrap64 ((ji16) + (rd t324 x6_1))) then ((slices_Equal_int64.f kj10 t333 ((t324.take ((wrap64 ((ji16) + (rd t324 x6_1))) : Int).toNat).drop (x6_1 : Int).toNat)).bind fun t340 => (if t340 = true then ((slices_Clone_int64.f y329).bind fun t341 => (if x4_1.length < 5864062014805 then (impl_scan.l0 kj10 (x4_1 ++ [t341]) t324 (wrap64 ((ji16) + (rd t324 x6_1)))) else (none))) else (some (x4_1, x6_1)))) else (none)) else (none)))) else (none)) else (none)) else (none)) = some (r1, r2) := by first|(rw [hji16] at H;exact H)|(simp only [hji16] at H ⊢;exact H)
         have hji16w : (IntKind.i64.wrap (x6_1 + 2)) = ji16 := (i64_w _).trans hji16
         by_cases c17 : 0 ≤ (ji16)
         ·
          rw [if_pos c17] at H
          have c17b0 := eq_true c17
          have c17b1 : decide (0 ≤ (ji16)) = true := decide_eq_true c17
          clear c17
          by_cases c18 : (ji16) ≤ (wrap64 ((ji16) + (rd t324 x6_1)))
          ·
           rw [if_pos c18] at H
           have c18b0 := eq_true c18
           have c18b1 : decide ((ji16) ≤ (wrap64 ((ji16) + (rd t324 x6_1)))) = true := decide_eq_true c18
           by_cases c19 : (wrap64 ((ji16) + (rd t324 x6_1))) ≤ (t324.length : Int)
           ·
            rw [if_pos c19] at H
            have c19b0 := eq_true c19
            have c19b1 : decide ((wrap64 ((ji16) + (rd t324 x6_1))) ≤ (t324.length : Int)) = true := decide_eq_true c19
            obtain ⟨y329, hy329⟩ : ∃ y_ : List Int, y_ = ((t324.take ((wrap64 ((ji16) + (rd t324 x6_1))) : Int).toNat).drop ((ji16) : Int).toNat) := ⟨_, rfl⟩
            replace H : ((impl_stands.f kj10 (x4_1.length : Int) y329).bind fun t333 => (if 0 ≤ x6_1 then (if x6_1 ≤ (wrap64 ((ji16) + (rd t324 x6_1))) then ((slices_Equal_int64.f kj10 t333 ((t324.take ((wrap64 ((ji16) + (rd t324 x6_1))) : Int).toNat).drop (x6_1 : Int).toNat)).bind fun t340 => (if t340 = true then ((slices_Clone_int64.f y329).bind fun t341 => (if x4_1.length < 5864062014805 then (impl_scan.l0 kj10 (x4_1 ++ [t341]) t324 (wrap64 ((ji16) + (rd t324 x6_1)))) else (none))) else (some (x4_1, x6_1)))) else (none)) else (none))) = some (r1, r2) := by first|(rw [hy329];with_reducible exact H)|(have H2_ := (Option.bind_some _ _).symm.trans H;rw [hy329];with_reducible exact H2_)|(have H2_ := (Option.bind_some _ _).symm.trans H;with_reducible exact H2_)|with_reducible exact H|(rw [hy329];exact H)|exact H
            have Ny329 := Aside0.mk hy329
            clear hy329
            replace H := Option.bind_eq_some_iff.mp H
            obtain ⟨t333, A200, H⟩ := H
            replace H : (if 0 ≤ x6_1 then (if x6_1 ≤ (wrap64 ((ji16) + (rd t324 x6_1))) then ((slices_Equal_int64.f kj10 t333 ((t324.take ((wrap64 ((ji16) + (rd t324 x6_1))) : Int).toNat).drop (x6_1 : Int).toNat)).bind fun t340 => (if t340 = true then ((slices_Clone_int64.f y329).bind fun t341 => (if x4_1.length < 5864062014805 then (impl_scan.l0 kj10 (x4_1 ++ [t341]) t324 (wrap64 ((ji16) + (rd t324 x6_1)))) else (none))) else (some (x4_1, x6_1)))) else (none)) else (none)) = some (r1, r2) := H
            have A20 := Aside0.mk A200
            clear A200
            by_cases c21 : 0 ≤ x6_1
            ·
             rw [if_pos c21] at H
             have c21b0 := eq_true c21
             have c21b1 : decide (0 ≤ x6_1) = true := decide_eq_true c21
             clear c21
             by_cases c22 : x6_1 ≤ (wrap64 ((ji16) + (rd t324 x6_1)))
             ·
              rw [if_pos c22] at H
              have c22b0 := eq_true c22
              have c22b1 : decide (x6_1 ≤ (wrap64 ((ji16) + (rd t324 x6_1)))) = true := decide_eq_true c22
              have c23b0 := eq_true (of_decide_eq_true (by first|(with_reducible assumption)|assumption) : (wrap64 ((ji16) + (rd t324 x6_1))) ≤ (t324.length : Int))
              obtain ⟨y336, hy336⟩ : ∃ y_ : List Int, y_ = ((t324.take ((wrap64 ((ji16) + (rd t324 x6_1))) : Int).toNat).drop (x6_1 : Int).toNat) := ⟨_, rfl⟩
              replace H : ((slices_Equal_int64.f kj10 t333 y336).bind fun t340 => (if t340 = true then ((slices_Clone_int64.f y329).bind fun t341 => (if x4_1.length < 5864062014805 then (impl_scan.l0 kj10 (x4_1 ++ [t341]) t324 (wrap64 ((ji16) + (rd t324 x6_1)))) else (none))) else (some (x4_1, x6_1)))) = some (r1, r2) := by first|(rw [hy336];with_reducible exact H)|(have H2_ := (Option.bind_some _ _).symm.trans H;rw [hy336];with_reducible exact H2_)|(have H2_ := (Option.bind_some _ _).symm.trans H;with_reducible exact H2_)|with_reducible exact H|(rw [hy336];exact H)|exact H
              have Ny336 := Aside0.mk hy336
              clear hy336
              replace H := Option.bind_eq_some_iff.mp H
              obtain ⟨t340, A240, H⟩ := H
              replace H : (if t340 = true then ((slices_Clone_int64.f y329).bind fun t341 => (if x4_1.length < 5864062014805 then (impl_scan.l0 kj10 (x4_1 ++ [t341]) t324 (wrap64 ((ji16) + (rd t324 x6_1)))) else (none))) else (some (x4_1, x6_1))) = some (r1, r2) := H
              have A24 := Aside0.mk A240
              clear A240
              by_cases c25 : t340 = true
              ·
               subst c25
               have H1 : ((slices_Clone_int64.f y329).bind fun t341 => (if x4_1.length < 5864062014805 then (impl_scan.l0 kj10 (x4_1 ++ [t341]) t324 (wrap64 ((ji16) + (rd t324 x6_1)))) else (none))) = some (r1, r2) := by rw [if_pos rfl] at H;exact H
               clear H
               have H := H1
               clear H1
               replace H := Option.bind_eq_some_iff.mp H
               obtain ⟨t341, A260, H⟩ := H
               replace H : (if x4_1.length < 5864062014805 then (impl_scan.l0 kj10 (x4_1 ++ [t341]) t324 (wrap64 ((ji16) + (rd t324 x6_1)))) else (none)) = some (r1, r2) := H
               have A26 := Aside0.mk A260
               clear A260
               by_cases c27 : x4_1.length < 5864062014805
               ·
                rw [if_pos c27] at H
                have LMc27 := Aside0.mk c27
                clear c27
                obtain ⟨y344, hy344⟩ : ∃ y_ : List (List Int), y_ = (x4_1 ++ [t341]) := ⟨_, rfl⟩
                replace H : (impl_scan.l0 kj10 y344 t324 (wrap64 ((ji16) + (rd t324 x6_1)))) = some (r1, r2) := by first|(rw [hy344];with_reducible exact H)|(have H2_ := (Option.bind_some _ _).symm.trans H;rw [hy344];with_reducible exact H2_)|(have H2_ := (Option.bind_some _ _).symm.trans H;with_reducible exact H2_)|with_reducible exact H|(rw [hy344];exact H)|exact H
                have Ny344 := Aside0.mk hy344
                clear hy344
                have H' := Aside0.mk H
                clear H
                have q28 : ((wrap64 ((ji16) + (rd t324 x6_1))) : Int) ≤ ((t324.length : Int) : Int) := of_decide_eq_true (by first|(with_reducible assumption)|assumption)
                obtain ⟨i028, hi028, _, hsz28, _⟩ := info_parts info2
                have hroom28 : t324.length ≤ co12 := (Kd.R_reads' HO_5.out).2.1
                have hC28 : Kd.C (Kd.int .i64) _ (some ad327) t324.length t324 := (Kd.R_reads' HO_5.out).2.2
                have ql28 : ((ji16) : Int) ≤ ((wrap64 ((ji16) + (rd t324 x6_1))) : Int) := of_decide_eq_true (by first|(with_reducible assumption)|assumption)
                have q028 : (0 : Int) ≤ ((ji16) : Int) := of_decide_eq_true (by first|(with_reducible assumption)|assumption)
                have hcut28 := cut_mid (P := Try.prog) 22 2 .i64 .i64 Try.underlying22 hi028 1 hsz28 (some ad327) t324.length co12 (ji16) (wrap64 ((ji16) + (rd t324 x6_1))) q028 ql28 q28 hroom28
                have hr28 := Kd.C_mid (lo := ((ji16) : Int).toNat) (hi := ((wrap64 ((ji16) + (rd t324 x6_1))) : Int).toNat) (c := co12) hC28 (by omega) (by omega) hroom28
                obtain ⟨A28, hA28⟩ : ∃ A1, A1 = (if co12 = ((ji16) : Int).toNat then (some ad327) else ((some ad327) : Option Addr).map (·.add (((ji16) : Int).toNat * 1))) := ⟨_, rfl⟩
                obtain ⟨c28, hc28⟩ : ∃ c1, c1 = co12 - ((ji16) : Int).toNat := ⟨_, rfl⟩
                have hy28 : y329.length = ((wrap64 ((ji16) + (rd t324 x6_1))) : Int).toNat - ((ji16) : Int).toNat := (by rw [Ny329.out, List.length_drop, List.length_take] <;> omega)
                rw [show ((t324).take ((wrap64 ((ji16) + (rd t324 x6_1))) : Int).toNat).drop ((ji16) : Int).toNat = y329 from Ny329.out.symm] at hr28
                replace hr28 : Kd.C (Kd.int .i64) _ A28 y329.length y329 := (by rw [hA28];exact hr28)
                rw [← hy28, ← hA28, ← hc28] at hcut28
                have HR332 := Aside0.mk hr28
                have HC332 := Aside0.mk (show y329.length ≤ c28 from by rw [hy28, hc28];exact Nat.sub_le_sub_right (Nat.le_trans (by omega) hroom28) _)
                clear hr28 hC28 hroom28 hi028 hsz28 hc28
                have KY28 := Aside0.mk hy28
                have KA28 := Aside0.mk hA28
                clear hy28 hA28
                have KL28 := Aside0.mk (show ((wrap64 ((ji16) + (rd t324 x6_1))) : Int).toNat ≤ t324.length from by omega)
                have KM28 := Aside0.mk (show ((ji16) : Int).toNat ≤ ((wrap64 ((ji16) + (rd t324 x6_1))) : Int).toNat from by omega)
                replace q28 := eq_true q28
                try go_wp2
                have n0_ := Aside0.mk (Kd.S_drew HO_4.out)
                have n1_ := Aside0.mk (Kd.R_drew HO_5.out)
                have n2_ := Aside0.mk (blk_drew BK320.out)
                have n3_ := Aside0.mk (Kd.C_drew HR332.out)
                have n4_ := Aside0.mk (below_drew1 HB.out)
                clear HO_4
                clear HO_5
                clear BK320
                clear HR332
                clear HB
                have HO_4 := n0_
                have HO_5 := n1_
                have BK320 := n2_
                have HR332 := n3_
                have HB := n4_
                clear n0_ n1_ n2_ n3_ n4_
                obtain ⟨Ao30, co30, eo30⟩ := Kd.S_slice HO_4.out
                (first|subst eo30|(injection eo30 with f1_ f2_ f3_;have f4_ := f1_.symm;have f5_ := f3_.symm;clear f1_ f2_ f3_;subst f4_;subst f5_))
                have q31 : ((wrap64 ((ji16) + (rd t324 x6_1))) : Int) ≤ ((t324.length : Int) : Int) := of_decide_eq_true (by first|(with_reducible assumption)|assumption)
                obtain ⟨i031, hi031, _, hsz31, _⟩ := info_parts info2
                have hroom31 : t324.length ≤ co12 := (Kd.R_reads' HO_5.out).2.1
                have hC31 : Kd.C (Kd.int .i64) _ (some ad327) t324.length t324 := (Kd.R_reads' HO_5.out).2.2
                have ql31 : (x6_1 : Int) ≤ ((wrap64 ((ji16) + (rd t324 x6_1))) : Int) := of_decide_eq_true (by first|(with_reducible assumption)|assumption)
                have q031 : (0 : Int) ≤ (x6_1 : Int) := of_decide_eq_true (by first|(with_reducible assumption)|assumption)
                have hcut31 := cut_mid (P := Try.prog) 22 2 .i64 .i64 Try.underlying22 hi031 1 hsz31 (some ad327) t324.length co12 x6_1 (wrap64 ((ji16) + (rd t324 x6_1))) q031 ql31 q31 hroom31
                have hr31 := Kd.C_mid (lo := (x6_1 : Int).toNat) (hi := ((wrap64 ((ji16) + (rd t324 x6_1))) : Int).toNat) (c := co12) hC31 (by omega) (by omega) hroom31
                obtain ⟨A31, hA31⟩ : ∃ A1, A1 = (if co12 = (x6_1 : Int).toNat then (some ad327) else ((some ad327) : Option Addr).map (·.add ((x6_1 : Int).toNat * 1))) := ⟨_, rfl⟩
                obtain ⟨c31, hc31⟩ : ∃ c1, c1 = co12 - (x6_1 : Int).toNat := ⟨_, rfl⟩
                have hy31 : y336.length = ((wrap64 ((ji16) + (rd t324 x6_1))) : Int).toNat - (x6_1 : Int).toNat := (by rw [Ny336.out, List.length_drop, List.length_take] <;> omega)
                rw [show ((t324).take ((wrap64 ((ji16) + (rd t324 x6_1))) : Int).toNat).drop (x6_1 : Int).toNat = y336 from Ny336.out.symm] at hr31
                replace hr31 : Kd.C (Kd.int .i64) _ A31 y336.length y336 := (by rw [hA31];exact hr31)
                rw [← hy31, ← hA31, ← hc31] at hcut31
                have HR339 := Aside0.mk hr31
                have HC339 := Aside0.mk (show y336.length ≤ c31 from by rw [hy31, hc31];exact Nat.sub_le_sub_right (Nat.le_trans (by omega) hroom31) _)
                clear hr31 hC31 hroom31 hi031 hsz31 hc31
                have KY31 := Aside0.mk hy31
                have KA31 := Aside0.mk hA31
                clear hy31 hA31
                have KL31 := Aside0.mk (show ((wrap64 ((ji16) + (rd t324 x6_1))) : Int).toNat ≤ t324.length from by omega)
                have KM31 := Aside0.mk (show (x6_1 : Int).toNat ≤ ((wrap64 ((ji16) + (rd t324 x6_1))) : Int).toNat from by omega)
                replace q31 := eq_true q31
                refine start_ (n := 10) (S := fun w' => True) (ds := []) #[false, false, false, false, false, false, false, false, false, false] (by kernel_rfl) rfl rfl trivial (fun hHeld => ?_);refine with_tabW impl_scan.tab7 impl_scan.bits7 (fun HT_ HW_ => ?_)
                generalize wc.drew = w29 at HO_4 HO_5 BK320 HR332 HB HR339 hHeld ⊢
                refine pure_ (i := 0) (N := some 38) (v := ?_) (a' := ?_) #[true, false, false, false, false, false, false, false, false, false] rfl rfl (any_of HT_.out (by kernel_rfl)) (fun _ _ _ h => h) (Or.inl ⟨by rfl, ?_⟩) ?_ ?_
                rotate_left
                ·
                 intro w'
                 go_simp
                 with_reducible rfl
                rotate_left
                ·
                 simp only [Act.put, List.setIfInBounds_toArray, List.set_cons_zero, List.set_cons_succ, i64_w, i32_w]
                 rfl
                refine pure_ (i := 1) (N := some 39) (v := ?_) (a' := ?_) #[true, true, false, false, false, false, false, false, false, false] rfl rfl (any_of HT_.out (by kernel_rfl)) (fun _ _ _ h => h) (Or.inl ⟨by rfl, ?_⟩) ?_ ?_
                rotate_left
                ·
                 intro w'
                 go_simp
                 with_reducible rfl
                rotate_left
                ·
                 simp only [Act.put, List.setIfInBounds_toArray, List.set_cons_zero, List.set_cons_succ, i64_w, i32_w]
                 rfl
                refine pure_ (i := 2) (N := some 40) (v := ?_) (a' := ?_) #[true, true, true, false, false, false, false, false, false, false] rfl rfl (any_of HT_.out (by kernel_rfl)) (fun _ _ _ h => h) (Or.inl ⟨by rfl, ?_⟩) ?_ ?_
                rotate_left
                ·
                 intro w'
                 go_simp
                 with_reducible rfl
                rotate_left
                ·
                 simp only [Act.put, List.setIfInBounds_toArray, List.set_cons_zero, List.set_cons_succ, i64_w, i32_w]
                 rfl
                refine pure_ (i := 4) (N := some 42) (v := ?_) (a' := ?_) #[true, true, true, false, true, false, false, false, false, false] rfl rfl (any_of HT_.out (by kernel_rfl)) (fun _ _ _ h => h) (Or.inl ⟨by rfl, ?_⟩) ?_ ?_
                rotate_left
                ·
                 intro w'
                 go_simp
                 with_reducible rfl
                rotate_left
                ·
                 simp only [Act.put, List.setIfInBounds_toArray, List.set_cons_zero, List.set_cons_succ, i64_w, i32_w]
                 rfl
                refine pure_ (i := 5) (N := some 43) (v := ?_) (a' := ?_) #[true, true, true, false, true, true, false, false, false, false] rfl rfl (any_of HT_.out (by kernel_rfl)) (fun _ _ _ h => h) (Or.inl ⟨by rfl, ?_⟩) ?_ ?_
                rotate_left
                ·
                 intro w'
                 go_simp
                 with_reducible rfl
                rotate_left
                ·
                 simp only [Act.put, List.setIfInBounds_toArray, List.set_cons_zero, List.set_cons_succ, i64_w, i32_w]
                 rfl
                refine pure_ (i := 6) (N := some 44) (v := ?_) (a' := ?_) #[true, true, true, false, true, true, true, false, false, false] rfl rfl (any_of HT_.out (by kernel_rfl)) (fun _ _ _ h => h) (Or.inl ⟨by rfl, ?_⟩) ?_ ?_
                rotate_left
                ·
                 intro w'
                 go_simp
                 with_reducible rfl
                rotate_left
                ·
                 simp only [Act.put, List.setIfInBounds_toArray, List.set_cons_zero, List.set_cons_succ, i64_w, i32_w]
                 rfl
                refine pure_ (i := 7) (N := some 45) (v := ?_) (a' := ?_) #[true, true, true, false, true, true, true, true, false, false] rfl rfl (any_of HT_.out (by kernel_rfl)) (fun _ _ _ h => h) (Or.inl ⟨by rfl, ?_⟩) ?_ ?_
                rotate_left
                ·
                 intro w'
                 go_simp
                 with_reducible rfl
                rotate_left
                ·
                 simp only [Act.put, List.setIfInBounds_toArray, List.set_cons_zero, List.set_cons_succ, i64_w, i32_w]
                 rfl
                refine one_ (i := 3) (N := some 41) #[true, true, true, true, true, true, true, true, false, false] rfl rfl (one_of HT_.out (by kernel_rfl)) (by decide) (fun K hK => ?_)
                refine goes_ Try.func100 (by kernel_rfl) rfl #[.int .i64 (x4_1.length : Int), .slice A28 y329.length c28] (by rfl) rfl rfl (by (try simp only [List.map_toArray, List.map_cons, List.map_nil]);first|done|rfl|(simp only [List.length_drop, List.length_take];rfl)|(simp [Act.eval, *];done)) ?_
                with_reducible refine (impl_stands.calls kj10 (x4_1.length : Int) _ _ y329 t333 _ ?side1 ?side2 A20.out).mono ?_
                (case side1 => repeat (first|exact (by repeat (first|(with_reducible exact HR332.out)|(with_reducible refine Kd.C_alloc ?_ _)|(with_reducible refine Kd.C_drewN ?_ _)|(with_reducible refine Kd.C_drew ?_)|exact HR332.out))|(with_reducible refine Kd.C_alloc ?_ _)|(with_reducible refine Kd.C_drewN ?_ _)|(with_reducible refine Kd.C_drew ?_)))
                (case side2 => exact HC332.out)
                rintro e w32 ⟨v334, rfl, ho0, hb⟩
                refine ⟨_, rfl, ?_⟩
                have n0_ := Aside0.mk (Kd.S_elder' (by (with_reducible repeat (first|apply Kd.S_alloc|apply Kd.S_drewN|apply Kd.S_drew));exact HO_4.out) (Kd.R_base ho0) hb)
                have n1_ := Aside0.mk (Kd.R_elder' (by (with_reducible repeat (first|apply Kd.R_alloc|apply Kd.R_drewN|apply Kd.R_drew));exact HO_5.out) (Kd.R_base ho0) hb)
                have n2_ := Aside0.mk (Kd.R_lower (Kd.R_new' ho0 (Kd.R_lt (by (with_reducible repeat (first|apply Kd.R_alloc|apply Kd.R_drewN|apply Kd.R_drew));exact HO_5.out))) (below_size (by repeat (first|(with_reducible first|exact HB.out|apply below_alloc|apply pw_below_drewN|apply below_drew1|refine below_set ?_ GE320.out)|exact HB.out))))
                have n3_ := Aside0.mk (blk_below (g := gb320) (o := .cells #[.slice A0_0 l0_0.length c0_0, .slice A0_1 l0_1.length c0_1] 30 (0, 0)) (by (with_reducible repeat (first|refine blk_drewN ?_ _|refine blk_drew ?_|refine blk_alloc ?_ _));exact BK320.out) hb)
                have n4_ := Aside0.mk (Kd.C_below (by repeat (first|(with_reducible exact HR332.out)|(with_reducible refine Kd.C_alloc ?_ _)|(with_reducible refine Kd.C_drewN ?_ _)|(with_reducible refine Kd.C_drew ?_)|exact HR332.out)) hb)
                have n5_ := Aside0.mk (Kd.C_below (by repeat (first|(with_reducible exact HR339.out)|(with_reducible refine Kd.C_alloc ?_ _)|(with_reducible refine Kd.C_drewN ?_ _)|(with_reducible refine Kd.C_drew ?_)|exact HR339.out)) hb)
                have n6_ := Aside0.mk (below_step (by repeat (first|(with_reducible first|exact HB.out|apply below_alloc|apply pw_below_drewN|apply below_drew1|refine below_set ?_ GE320.out)|exact HB.out)) hb)
                clear HO_4
                clear HO_5
                clear BK320
                clear HR332
                clear HR339
                clear HB
                have HO_4 := n0_
                have HO_5 := n1_
                have HO335 := n2_
                have BK320 := n3_
                have HR332 := n4_
                have HR339 := n5_
                have HB := n6_
                clear n0_ n1_ n2_ n3_ n4_ n5_ n6_
                (try clear hb)
                (try clear hb2)
                (try clear hk)
                (try clear hi)
                (try clear ho0)
                obtain ⟨Ao33, co33, eo33⟩ := Kd.R_slice HO335.out
                (first|subst eo33|(injection eo33 with f1_ f2_ f3_;have f4_ := f1_.symm;have f5_ := f3_.symm;clear f1_ f2_ f3_;subst f4_;subst f5_))
                refine hK.out _ _ trivial (fun hHeld => ?_)
                clear hK K
                refine norm_ (a' := ?_) ?_ ?_
                rotate_left
                ·
                 show Act.put _ (some 41) _ = _
                 simp only [Act.put, List.setIfInBounds_toArray, List.set_cons_zero, List.set_cons_succ, i64_w, i32_w]
                 rfl
                refine one_ (i := 8) (N := some 46) #[true, true, true, true, true, true, true, true, true, false] rfl rfl (one_of HT_.out (by kernel_rfl)) (by decide) (fun K hK => ?_)
                refine goes_ Try.func117 (by kernel_rfl) rfl #[.slice Ao33 t333.length co33, .slice A31 y336.length c31] (by rfl) rfl rfl (by (try simp only [List.map_toArray, List.map_cons, List.map_nil]);first|done|rfl|(simp only [List.length_drop, List.length_take];rfl)|(simp [Act.eval, *];done)) ?_
                with_reducible refine (slices_Equal_int64.calls kj10 _ _ t333 _ _ y336 true _ ?side1 ?side2 ?side3 ?side4 A24.out).mono ?_
                (case side1 => repeat (first|exact (Kd.R_reads' HO335.out).2.2|(with_reducible refine Kd.C_alloc ?_ _)|(with_reducible refine Kd.C_drewN ?_ _)|(with_reducible refine Kd.C_drew ?_)))
                (case side2 => exact (Kd.R_reads' HO335.out).2.1)
                (case side3 => repeat (first|exact (by repeat (first|(with_reducible exact HR339.out)|(with_reducible refine Kd.C_alloc ?_ _)|(with_reducible refine Kd.C_drewN ?_ _)|(with_reducible refine Kd.C_drew ?_)|exact HR339.out))|(with_reducible refine Kd.C_alloc ?_ _)|(with_reducible refine Kd.C_drewN ?_ _)|(with_reducible refine Kd.C_drew ?_)))
                (case side4 => exact HC339.out)
                rintro e w' ⟨rfl, ⟨nd, rfl⟩⟩
                refine ⟨_, rfl, ?_⟩
                refine hK.out _ _ trivial (fun hHeld => ?_)
                clear hK K
                refine norm_ (a' := ?_) ?_ ?_
                rotate_left
                ·
                 show Act.put _ (some 46) _ = _
                 simp only [Act.put, List.setIfInBounds_toArray, List.set_cons_zero, List.set_cons_succ, i64_w, i32_w]
                 rfl
                refine pure_ (i := 9) (N := some 47) (v := ?_) (a' := ?_) #[true, true, true, true, true, true, true, true, true, true] rfl rfl (any_of HT_.out (by kernel_rfl)) (fun _ _ _ h => h) (Or.inl ⟨by rfl, ?_⟩) ?_ ?_
                rotate_left
                ·
                 intro w'
                 go_simp
                 with_reducible rfl
                rotate_left
                ·
                 simp only [Act.put, List.setIfInBounds_toArray, List.set_cons_zero, List.set_cons_succ, i64_w, i32_w]
                 rfl
                refine done_ (done_of HT_.out (by kernel_rfl)) ?_
                try go_wp2_with (first|((with_reducible refine gate_callee (f := 111) rfl ?_);refine goesL_ (some 50) rfl rfl Try.func111 (by kernel_rfl) rfl #[.slice A28 y329.length c28] rfl (by (try simp only [List.map_toArray, List.map_cons, List.map_nil]);first|done|rfl|(simp only [List.length_drop, List.length_take];rfl)) ?_;(with_reducible refine (slices_Clone_int64.calls _ _ y329 t341 _ ?side1 ?side2 A26.out).mono ?_);(case side1 => repeat (first|exact (by repeat (first|(with_reducible exact HR332.out)|(with_reducible refine Kd.C_alloc ?_ _)|(with_reducible refine Kd.C_drewN ?_ _)|(with_reducible refine Kd.C_drew ?_)|exact HR332.out))|(with_reducible refine Kd.C_alloc ?_ _)|(with_reducible refine Kd.C_drewN ?_ _)|(with_reducible refine Kd.C_drew ?_)));(case side2 => exact HC332.out);rintro e w34 ⟨v342, rfl, ho0, hb⟩;refine ⟨_, rfl, ?_⟩;have n0_ := Aside0.mk (Kd.S_elder' (by (with_reducible repeat (first|apply Kd.S_alloc|apply Kd.S_drewN|apply Kd.S_drew));exact HO_4.out) (Kd.R_base ho0) hb);have n1_ := Aside0.mk (Kd.R_elder' (by (with_reducible repeat (first|apply Kd.R_alloc|apply Kd.R_drewN|apply Kd.R_drew));exact HO_5.out) (Kd.R_base ho0) hb);have n2_ := Aside0.mk (Kd.R_elder' (by (with_reducible repeat (first|apply Kd.R_alloc|apply Kd.R_drewN|apply Kd.R_drew));exact HO335.out) (Kd.R_base ho0) hb);have n3_ := Aside0.mk (Kd.R_lower (Kd.R_new' (Kd.R_new' ho0 (Kd.R_lt (by (with_reducible repeat (first|apply Kd.R_alloc|apply Kd.R_drewN|apply Kd.R_drew));exact HO_5.out))) (Kd.R_lt (by (with_reducible repeat (first|apply Kd.R_alloc|apply Kd.R_drewN|apply Kd.R_drew));exact HO335.out))) (below_size (by repeat (first|(with_reducible first|exact HB.out|apply below_alloc|apply pw_below_drewN|apply below_drew1|refine below_set ?_ GE320.out)|exact HB.out))));have n4_ := Aside0.mk (blk_below (g := gb320) (o := .cells #[.slice A0_0 l0_0.length c0_0, .slice A0_1 l0_1.length c0_1] 30 (0, 0)) (by (with_reducible repeat (first|refine blk_drewN ?_ _|refine blk_drew ?_|refine blk_alloc ?_ _));exact BK320.out) hb);have n5_ := Aside0.mk (Kd.C_below (by repeat (first|(with_reducible exact HR332.out)|(with_reducible refine Kd.C_alloc ?_ _)|(with_reducible refine Kd.C_drewN ?_ _)|(with_reducible refine Kd.C_drew ?_)|exact HR332.out)) hb);have n6_ := Aside0.mk (Kd.C_below (by repeat (first|(with_reducible exact HR339.out)|(with_reducible refine Kd.C_alloc ?_ _)|(with_reducible refine Kd.C_drewN ?_ _)|(with_reducible refine Kd.C_drew ?_)|exact HR339.out)) hb);have n7_ := Aside0.mk (below_step (by repeat (first|(with_reducible first|exact HB.out|apply below_alloc|apply pw_below_drewN|apply below_drew1|refine below_set ?_ GE320.out)|exact HB.out)) hb);clear HO_4;clear HO_5;clear HO335;clear BK320;clear HR332;clear HR339;clear HB;have HO_4 := n0_;have HO_5 := n1_;have HO335 := n2_;have HO343 := n3_;have BK320 := n4_;have HR332 := n5_;have HR339 := n6_;have HB := n7_;clear n0_ n1_ n2_ n3_ n4_ n5_ n6_ n7_;(try clear hb);(try clear hb2);(try clear hk);(try clear hi);(try clear ho0);obtain ⟨Ao36, co36, eo36⟩ := Kd.R_slice HO343.out;subst eo36)|((with_reducible refine gate_builtin (b := .append) (xs := #[.tmp 48, .tmp 51]) rfl ?_);at_builtin;refine Kd.S_append (Kd.slice 2 (Kd.int .i64)) (w0 := w) w.heap.size rfl (.tmp 48) (.tmp 51) 70 22 (.slice none 0 0) 24 rfl Try.underlying70 info22 rfl (by decide) (by omega) (.slice Ao30 x4_1.length co30) x4_1 t341 [.slice Ao36 t341.length co36] (fun k_ => some k_ ≠ (.slice (some ad327) t324.length co12 : Value).ownBlock ∧ some k_ ≠ (.slice Ao33 t333.length co33 : Value).ownBlock) (fun k_ => some k_ = (.slice Ao36 t341.length co36 : Value).ownBlock) rfl rfl ?aP (fun k_ hk_ => ((Kd.R_mono (ok' := fun k_ => ((fun k_ => some k_ ≠ (.slice (some ad327) t324.length co12 : Value).ownBlock ∧ some k_ ≠ (.slice Ao33 t333.length co33 : Value).ownBlock)) k_ ∧ some k_ ≠ (.slice Ao30 x4_1.length co30 : Value).ownBlock) (Kd.R_apart' (HO343.out) (Kd.S_typed HO_4.out) (by decide)) (fun k_ hk => ⟨⟨hk.1.1.2, hk.1.2⟩, hk.2⟩))).1 k_ hk_.symm) ?aF ?aO ?aB ?aS ?aL ?_;(case aP => exact Kd.M_row (Kd.R_mono (Kd.R_tight rfl (Kd.R_mono (ok' := fun k_ => ((fun k_ => some k_ ≠ (.slice (some ad327) t324.length co12 : Value).ownBlock ∧ some k_ ≠ (.slice Ao33 t333.length co33 : Value).ownBlock)) k_ ∧ some k_ ≠ (.slice Ao30 x4_1.length co30 : Value).ownBlock) (Kd.R_apart' (HO343.out) (Kd.S_typed HO_4.out) (by decide)) (fun k_ hk => ⟨⟨hk.1.1.2, hk.1.2⟩, hk.2⟩))) (fun _ h_ => h_)));(case aB => exact (by repeat (first|(with_reducible first|exact HB.out|apply below_alloc|apply pw_below_drewN|apply below_drew1|refine below_set ?_ GE320.out)|exact HB.out)));(case aF => exact (fun k_ hk => ⟨Kd.fresh' (Kd.R_lt (by (with_reducible repeat (first|apply Kd.R_alloc|apply Kd.R_drewN|apply Kd.R_drew));exact HO_5.out)) k_ hk, Kd.fresh' (Kd.R_lt (by (with_reducible repeat (first|apply Kd.R_alloc|apply Kd.R_drewN|apply Kd.R_drew));exact HO335.out)) k_ hk⟩));(case aO => exact (by (with_reducible repeat (first|apply Kd.S_alloc|apply Kd.S_drewN|apply Kd.S_drew));exact Kd.S_mono HO_4.out (fun k_ hk => ⟨⟨hk.1.1, hk.1.2⟩, fun e_ => hk.2 e_⟩)));(case aS => exact (below_size (by repeat (first|(with_reducible first|exact HB.out|apply below_alloc|apply pw_below_drewN|apply below_drew1|refine below_set ?_ GE320.out)|exact HB.out))));(case aL => have := LMc27.out;omega);intro v345 w35 ho hb hg hat;rw [← Ny344.out] at ho;have n0_ := Aside0.mk (Kd.R_over' (by (with_reducible repeat (first|apply Kd.R_alloc|apply Kd.R_drewN|apply Kd.R_drew));exact HO_5.out) (Kd.S_typed (by (with_reducible repeat (first|apply Kd.S_alloc|apply Kd.S_drewN|apply Kd.S_drew));exact HO_4.out)) (by decide) hg);have n1_ := Aside0.mk (blk_grown (g := gb320) (o := .cells #[.slice A0_0 l0_0.length c0_0, .slice A0_1 l0_1.length c0_1] 30 (0, 0)) (by (with_reducible repeat (first|refine blk_drewN ?_ _|refine blk_drew ?_|refine blk_alloc ?_ _));exact BK320.out) hg (Kd.S_ne HO_4.out BK320.out (by decide)));have n2_ := Aside0.mk (Kd.R_over' (by (with_reducible repeat (first|apply Kd.R_alloc|apply Kd.R_drewN|apply Kd.R_drew));exact HO335.out) (Kd.S_typed (by (with_reducible repeat (first|apply Kd.S_alloc|apply Kd.S_drewN|apply Kd.S_drew));exact HO_4.out)) (by decide) hg);have n3_ := Aside0.mk (hb);have n4_ := Aside0.mk ((show Kd.C (Kd.int .i64) w35 A28 y329.length y329 from by rw [Ny329.out, KA28.out];exact Kd.C_mid (lo := ((ji16) : Int).toNat) (hi := ((wrap64 ((ji16) + (rd t324 x6_1))) : Int).toNat) (c := co12) ((Kd.R_reads' (Kd.R_over' (by (with_reducible repeat (first|apply Kd.R_alloc|apply Kd.R_drewN|apply Kd.R_drew));exact HO_5.out) (Kd.S_typed (by (with_reducible repeat (first|apply Kd.S_alloc|apply Kd.S_drewN|apply Kd.S_drew));exact HO_4.out)) (by decide) hg)).2.2) KM28.out KL28.out ((Kd.R_reads' (Kd.R_over' (by (with_reducible repeat (first|apply Kd.R_alloc|apply Kd.R_drewN|apply Kd.R_drew));exact HO_5.out) (Kd.S_typed (by (with_reducible repeat (first|apply Kd.S_alloc|apply Kd.S_drewN|apply Kd.S_drew));exact HO_4.out)) (by decide) hg)).2.1)));have n5_ := Aside0.mk ((show Kd.C (Kd.int .i64) w35 A31 y336.length y336 from by rw [Ny336.out, KA31.out];exact Kd.C_mid (lo := (x6_1 : Int).toNat) (hi := ((wrap64 ((ji16) + (rd t324 x6_1))) : Int).toNat) (c := co12) ((Kd.R_reads' (Kd.R_over' (by (with_reducible repeat (first|apply Kd.R_alloc|apply Kd.R_drewN|apply Kd.R_drew));exact HO_5.out) (Kd.S_typed (by (with_reducible repeat (first|apply Kd.S_alloc|apply Kd.S_drewN|apply Kd.S_drew));exact HO_4.out)) (by decide) hg)).2.2) KM31.out KL31.out ((Kd.R_reads' (Kd.R_over' (by (with_reducible repeat (first|apply Kd.R_alloc|apply Kd.R_drewN|apply Kd.R_drew));exact HO_5.out) (Kd.S_typed (by (with_reducible repeat (first|apply Kd.S_alloc|apply Kd.S_drewN|apply Kd.S_drew));exact HO_4.out)) (by decide) hg)).2.1)));have n6_ := Aside0.mk (ho);clear HO_5;clear BK320;clear HO335;clear HB;clear HR332;clear HR339;clear HO_4;clear HO343;have HO_5 := n0_;have BK320 := n1_;have HO335 := n2_;have HB := n3_;have HR332 := n4_;have HR339 := n5_;have HO346 := n6_;clear n0_ n1_ n2_ n3_ n4_ n5_ n6_;clear ho hb hg hat))
                go_roundg kj10
                case measure => have := HK1.out;have := HJ10.out;omega
                case rel => exact ⟨(y344), (wrap64 ((ji16) + (rd t324 x6_1))), (by first|rfl|(simp;done)|(simp only [← hji16] <;> (first|rfl|simp))|(simp [*];done)), H', ⟨by have := HK1.out;have := HJ10.out;omega⟩, ⟨by (with_reducible repeat (first|apply Kd.S_alloc|apply Kd.S_drewN|apply Kd.S_drew));exact Kd.S_mono HO346.out (fun _ hk => hk.1)⟩, ⟨by (with_reducible repeat (first|apply Kd.R_alloc|apply Kd.R_drewN|apply Kd.R_drew));exact Kd.R_mono HO_5.out (fun _ hk => trivial)⟩, ⟨by (with_reducible repeat (first|refine blk_drewN ?_ _|refine blk_drew ?_|refine blk_alloc ?_ _));exact BK320.out⟩, ⟨by repeat (first|(with_reducible first|exact HB.out|apply below_alloc|apply pw_below_drewN|apply below_drew1|refine below_set ?_ GE320.out)|exact HB.out)⟩⟩
               ·
                rw [if_neg c27] at H
                exact absurd H (by simp)
              ·
               replace c25 := Bool.eq_false_iff.mpr c25
               subst c25
               have H1 : (some (x4_1, x6_1)) = some (r1, r2) := by rw [if_neg (show ¬ (false = true) by decide)] at H;exact H
               clear H
               have H := H1
               clear H1
               simp only [Option.some.injEq, Prod.mk.injEq] at H
               obtain ⟨rfl, rfl⟩ := H
               have q37 : ((wrap64 ((ji16) + (rd t324 x6_1))) : Int) ≤ ((t324.length : Int) : Int) := of_decide_eq_true (by first|(with_reducible assumption)|assumption)
               obtain ⟨i037, hi037, _, hsz37, _⟩ := info_parts info2
               have hroom37 : t324.length ≤ co12 := (Kd.R_reads' HO_5.out).2.1
               have hC37 : Kd.C (Kd.int .i64) _ (some ad327) t324.length t324 := (Kd.R_reads' HO_5.out).2.2
               have ql37 : ((ji16) : Int) ≤ ((wrap64 ((ji16) + (rd t324 x6_1))) : Int) := of_decide_eq_true (by first|(with_reducible assumption)|assumption)
               have q037 : (0 : Int) ≤ ((ji16) : Int) := of_decide_eq_true (by first|(with_reducible assumption)|assumption)
               have hcut37 := cut_mid (P := Try.prog) 22 2 .i64 .i64 Try.underlying22 hi037 1 hsz37 (some ad327) t324.length co12 (ji16) (wrap64 ((ji16) + (rd t324 x6_1))) q037 ql37 q37 hroom37
               have hr37 := Kd.C_mid (lo := ((ji16) : Int).toNat) (hi := ((wrap64 ((ji16) + (rd t324 x6_1))) : Int).toNat) (c := co12) hC37 (by omega) (by omega) hroom37
               obtain ⟨A37, hA37⟩ : ∃ A1, A1 = (if co12 = ((ji16) : Int).toNat then (some ad327) else ((some ad327) : Option Addr).map (·.add (((ji16) : Int).toNat * 1))) := ⟨_, rfl⟩
               obtain ⟨c37, hc37⟩ : ∃ c1, c1 = co12 - ((ji16) : Int).toNat := ⟨_, rfl⟩
               have hy37 : y329.length = ((wrap64 ((ji16) + (rd t324 x6_1))) : Int).toNat - ((ji16) : Int).toNat := (by rw [Ny329.out, List.length_drop, List.length_take] <;> omega)
               rw [show ((t324).take ((wrap64 ((ji16) + (rd t324 x6_1))) : Int).toNat).drop ((ji16) : Int).toNat = y329 from Ny329.out.symm] at hr37
               replace hr37 : Kd.C (Kd.int .i64) _ A37 y329.length y329 := (by rw [hA37];exact hr37)
               rw [← hy37, ← hA37, ← hc37] at hcut37
               have HR332 := Aside0.mk hr37
               have HC332 := Aside0.mk (show y329.length ≤ c37 from by rw [hy37, hc37];exact Nat.sub_le_sub_right (Nat.le_trans (by omega) hroom37) _)
               clear hr37 hC37 hroom37 hi037 hsz37 hc37
               have KY37 := Aside0.mk hy37
               have KA37 := Aside0.mk hA37
               clear hy37 hA37
               have KL37 := Aside0.mk (show ((wrap64 ((ji16) + (rd t324 x6_1))) : Int).toNat ≤ t324.length from by omega)
               have KM37 := Aside0.mk (show ((ji16) : Int).toNat ≤ ((wrap64 ((ji16) + (rd t324 x6_1))) : Int).toNat from by omega)
               replace q37 := eq_true q37
               try go_wp2
               have n0_ := Aside0.mk (Kd.S_drew HO_4.out)
               have n1_ := Aside0.mk (Kd.R_drew HO_5.out)
               have n2_ := Aside0.mk (blk_drew BK320.out)
               have n3_ := Aside0.mk (Kd.C_drew HR332.out)
               have n4_ := Aside0.mk (below_drew1 HB.out)
               clear HO_4
               clear HO_5
               clear BK320
               clear HR332
               clear HB
               have HO_4 := n0_
               have HO_5 := n1_
               have BK320 := n2_
               have HR332 := n3_
               have HB := n4_
               clear n0_ n1_ n2_ n3_ n4_
               obtain ⟨Ao39, co39, eo39⟩ := Kd.S_slice HO_4.out
               (first|subst eo39|(injection eo39 with f1_ f2_ f3_;have f4_ := f1_.symm;have f5_ := f3_.symm;clear f1_ f2_ f3_;subst f4_;subst f5_))
               have q40 : ((wrap64 ((ji16) + (rd t324 x6_1))) : Int) ≤ ((t324.length : Int) : Int) := of_decide_eq_true (by first|(with_reducible assumption)|assumption)
               obtain ⟨i040, hi040, _, hsz40, _⟩ := info_parts info2
               have hroom40 : t324.length ≤ co12 := (Kd.R_reads' HO_5.out).2.1
               have hC40 : Kd.C (Kd.int .i64) _ (some ad327) t324.length t324 := (Kd.R_reads' HO_5.out).2.2
               have ql40 : (x6_1 : Int) ≤ ((wrap64 ((ji16) + (rd t324 x6_1))) : Int) := of_decide_eq_true (by first|(with_reducible assumption)|assumption)
               have q040 : (0 : Int) ≤ (x6_1 : Int) := of_decide_eq_true (by first|(with_reducible assumption)|assumption)
               have hcut40 := cut_mid (P := Try.prog) 22 2 .i64 .i64 Try.underlying22 hi040 1 hsz40 (some ad327) t324.length co12 x6_1 (wrap64 ((ji16) + (rd t324 x6_1))) q040 ql40 q40 hroom40
               have hr40 := Kd.C_mid (lo := (x6_1 : Int).toNat) (hi := ((wrap64 ((ji16) + (rd t324 x6_1))) : Int).toNat) (c := co12) hC40 (by omega) (by omega) hroom40
               obtain ⟨A40, hA40⟩ : ∃ A1, A1 = (if co12 = (x6_1 : Int).toNat then (some ad327) else ((some ad327) : Option Addr).map (·.add ((x6_1 : Int).toNat * 1))) := ⟨_, rfl⟩
               obtain ⟨c40, hc40⟩ : ∃ c1, c1 = co12 - (x6_1 : Int).toNat := ⟨_, rfl⟩
               have hy40 : y336.length = ((wrap64 ((ji16) + (rd t324 x6_1))) : Int).toNat - (x6_1 : Int).toNat := (by rw [Ny336.out, List.length_drop, List.length_take] <;> omega)
               rw [show ((t324).take ((wrap64 ((ji16) + (rd t324 x6_1))) : Int).toNat).drop (x6_1 : Int).toNat = y336 from Ny336.out.symm] at hr40
               replace hr40 : Kd.C (Kd.int .i64) _ A40 y336.length y336 := (by rw [hA40];exact hr40)
               rw [← hy40, ← hA40, ← hc40] at hcut40
               have HR339 := Aside0.mk hr40
               have HC339 := Aside0.mk (show y336.length ≤ c40 from by rw [hy40, hc40];exact Nat.sub_le_sub_right (Nat.le_trans (by omega) hroom40) _)
               clear hr40 hC40 hroom40 hi040 hsz40 hc40
               have KY40 := Aside0.mk hy40
               have KA40 := Aside0.mk hA40
               clear hy40 hA40
               have KL40 := Aside0.mk (show ((wrap64 ((ji16) + (rd t324 x6_1))) : Int).toNat ≤ t324.length from by omega)
               have KM40 := Aside0.mk (show (x6_1 : Int).toNat ≤ ((wrap64 ((ji16) + (rd t324 x6_1))) : Int).toNat from by omega)
               replace q40 := eq_true q40
               refine start_ (n := 10) (S := fun w' => True) (ds := []) #[false, false, false, false, false, false, false, false, false, false] (by kernel_rfl) rfl rfl trivial (fun hHeld => ?_);refine with_tabW impl_scan.tab7 impl_scan.bits7 (fun HT_ HW_ => ?_)
               generalize wc.drew = w38 at HO_4 HO_5 BK320 HR332 HB HR339 hHeld ⊢
               refine pure_ (i := 0) (N := some 38) (v := ?_) (a' := ?_) #[true, false, false, false, false, false, false, false, false, false] rfl rfl (any_of HT_.out (by kernel_rfl)) (fun _ _ _ h => h) (Or.inl ⟨by rfl, ?_⟩) ?_ ?_
               rotate_left
               ·
                intro w'
                go_simp
                with_reducible rfl
               rotate_left
               ·
                simp only [Act.put, List.setIfInBounds_toArray, List.set_cons_zero, List.set_cons_succ, i64_w, i32_w]
                rfl
               refine pure_ (i := 1) (N := some 39) (v := ?_) (a' := ?_) #[true, true, false, false, false, false, false, false, false, false] rfl rfl (any_of HT_.out (by kernel_rfl)) (fun _ _ _ h => h) (Or.inl ⟨by rfl, ?_⟩) ?_ ?_
               rotate_left
               ·
                intro w'
                go_simp
                with_reducible rfl
               rotate_left
               ·
                simp only [Act.put, List.setIfInBounds_toArray, List.set_cons_zero, List.set_cons_succ, i64_w, i32_w]
                rfl
               refine pure_ (i := 2) (N := some 40) (v := ?_) (a' := ?_) #[true, true, true, false, false, false, false, false, false, false] rfl rfl (any_of HT_.out (by kernel_rfl)) (fun _ _ _ h => h) (Or.inl ⟨by rfl, ?_⟩) ?_ ?_
               rotate_left
               ·
                intro w'
                go_simp
                with_reducible rfl
               rotate_left
               ·
                simp only [Act.put, List.setIfInBounds_toArray, List.set_cons_zero, List.set_cons_succ, i64_w, i32_w]
                rfl
               refine pure_ (i := 4) (N := some 42) (v := ?_) (a' := ?_) #[true, true, true, false, true, false, false, false, false, false] rfl rfl (any_of HT_.out (by kernel_rfl)) (fun _ _ _ h => h) (Or.inl ⟨by rfl, ?_⟩) ?_ ?_
               rotate_left
               ·
                intro w'
                go_simp
                with_reducible rfl
               rotate_left
               ·
                simp only [Act.put, List.setIfInBounds_toArray, List.set_cons_zero, List.set_cons_succ, i64_w, i32_w]
                rfl
               refine pure_ (i := 5) (N := some 43) (v := ?_) (a' := ?_) #[true, true, true, false, true, true, false, false, false, false] rfl rfl (any_of HT_.out (by kernel_rfl)) (fun _ _ _ h => h) (Or.inl ⟨by rfl, ?_⟩) ?_ ?_
               rotate_left
               ·
                intro w'
                go_simp
                with_reducible rfl
               rotate_left
               ·
                simp only [Act.put, List.setIfInBounds_toArray, List.set_cons_zero, List.set_cons_succ, i64_w, i32_w]
                rfl
               refine pure_ (i := 6) (N := some 44) (v := ?_) (a' := ?_) #[true, true, true, false, true, true, true, false, false, false] rfl rfl (any_of HT_.out (by kernel_rfl)) (fun _ _ _ h => h) (Or.inl ⟨by rfl, ?_⟩) ?_ ?_
               rotate_left
               ·
                intro w'
                go_simp
                with_reducible rfl
               rotate_left
               ·
                simp only [Act.put, List.setIfInBounds_toArray, List.set_cons_zero, List.set_cons_succ, i64_w, i32_w]
                rfl
               refine pure_ (i := 7) (N := some 45) (v := ?_) (a' := ?_) #[true, true, true, false, true, true, true, true, false, false] rfl rfl (any_of HT_.out (by kernel_rfl)) (fun _ _ _ h => h) (Or.inl ⟨by rfl, ?_⟩) ?_ ?_
               rotate_left
               ·
                intro w'
                go_simp
                with_reducible rfl
               rotate_left
               ·
                simp only [Act.put, List.setIfInBounds_toArray, List.set_cons_zero, List.set_cons_succ, i64_w, i32_w]
                rfl
               refine one_ (i := 3) (N := some 41) #[true, true, true, true, true, true, true, true, false, false] rfl rfl (one_of HT_.out (by kernel_rfl)) (by decide) (fun K hK => ?_)
               refine goes_ Try.func100 (by kernel_rfl) rfl #[.int .i64 (x4_1.length : Int), .slice A37 y329.length c37] (by rfl) rfl rfl (by (try simp only [List.map_toArray, List.map_cons, List.map_nil]);first|done|rfl|(simp only [List.length_drop, List.length_take];rfl)|(simp [Act.eval, *];done)) ?_
               with_reducible refine (impl_stands.calls kj10 (x4_1.length : Int) _ _ y329 t333 _ ?side1 ?side2 A20.out).mono ?_
               (case side1 => repeat (first|exact (by repeat (first|(with_reducible exact HR332.out)|(with_reducible refine Kd.C_alloc ?_ _)|(with_reducible refine Kd.C_drewN ?_ _)|(with_reducible refine Kd.C_drew ?_)|exact HR332.out))|(with_reducible refine Kd.C_alloc ?_ _)|(with_reducible refine Kd.C_drewN ?_ _)|(with_reducible refine Kd.C_drew ?_)))
               (case side2 => exact HC332.out)
               rintro e w41 ⟨v334, rfl, ho0, hb⟩
               refine ⟨_, rfl, ?_⟩
               have n0_ := Aside0.mk (Kd.S_elder' (by (with_reducible repeat (first|apply Kd.S_alloc|apply Kd.S_drewN|apply Kd.S_drew));exact HO_4.out) (Kd.R_base ho0) hb)
               have n1_ := Aside0.mk (Kd.R_elder' (by (with_reducible repeat (first|apply Kd.R_alloc|apply Kd.R_drewN|apply Kd.R_drew));exact HO_5.out) (Kd.R_base ho0) hb)
               have n2_ := Aside0.mk (Kd.R_lower (Kd.R_new' ho0 (Kd.R_lt (by (with_reducible repeat (first|apply Kd.R_alloc|apply Kd.R_drewN|apply Kd.R_drew));exact HO_5.out))) (below_size (by repeat (first|(with_reducible first|exact HB.out|apply below_alloc|apply pw_below_drewN|apply below_drew1|refine below_set ?_ GE320.out)|exact HB.out))))
               have n3_ := Aside0.mk (blk_below (g := gb320) (o := .cells #[.slice A0_0 l0_0.length c0_0, .slice A0_1 l0_1.length c0_1] 30 (0, 0)) (by (with_reducible repeat (first|refine blk_drewN ?_ _|refine blk_drew ?_|refine blk_alloc ?_ _));exact BK320.out) hb)
               have n4_ := Aside0.mk (Kd.C_below (by repeat (first|(with_reducible exact HR332.out)|(with_reducible refine Kd.C_alloc ?_ _)|(with_reducible refine Kd.C_drewN ?_ _)|(with_reducible refine Kd.C_drew ?_)|exact HR332.out)) hb)
               have n5_ := Aside0.mk (Kd.C_below (by repeat (first|(with_reducible exact HR339.out)|(with_reducible refine Kd.C_alloc ?_ _)|(with_reducible refine Kd.C_drewN ?_ _)|(with_reducible refine Kd.C_drew ?_)|exact HR339.out)) hb)
               have n6_ := Aside0.mk (below_step (by repeat (first|(with_reducible first|exact HB.out|apply below_alloc|apply pw_below_drewN|apply below_drew1|refine below_set ?_ GE320.out)|exact HB.out)) hb)
               clear HO_4
               clear HO_5
               clear BK320
               clear HR332
               clear HR339
               clear HB
               have HO_4 := n0_
               have HO_5 := n1_
               have HO335 := n2_
               have BK320 := n3_
               have HR332 := n4_
               have HR339 := n5_
               have HB := n6_
               clear n0_ n1_ n2_ n3_ n4_ n5_ n6_
               (try clear hb)
               (try clear hb2)
               (try clear hk)
               (try clear hi)
               (try clear ho0)
               obtain ⟨Ao42, co42, eo42⟩ := Kd.R_slice HO335.out
               (first|subst eo42|(injection eo42 with f1_ f2_ f3_;have f4_ := f1_.symm;have f5_ := f3_.symm;clear f1_ f2_ f3_;subst f4_;subst f5_))
               refine hK.out _ _ trivial (fun hHeld => ?_)
               clear hK K
               refine norm_ (a' := ?_) ?_ ?_
               rotate_left
               ·
                show Act.put _ (some 41) _ = _
                simp only [Act.put, List.setIfInBounds_toArray, List.set_cons_zero, List.set_cons_succ, i64_w, i32_w]
                rfl
               refine one_ (i := 8) (N := some 46) #[true, true, true, true, true, true, true, true, true, false] rfl rfl (one_of HT_.out (by kernel_rfl)) (by decide) (fun K hK => ?_)
               refine goes_ Try.func117 (by kernel_rfl) rfl #[.slice Ao42 t333.length co42, .slice A40 y336.length c40] (by rfl) rfl rfl (by (try simp only [List.map_toArray, List.map_cons, List.map_nil]);first|done|rfl|(simp only [List.length_drop, List.length_take];rfl)|(simp [Act.eval, *];done)) ?_
               with_reducible refine (slices_Equal_int64.calls kj10 _ _ t333 _ _ y336 false _ ?side1 ?side2 ?side3 ?side4 A24.out).mono ?_
               (case side1 => repeat (first|exact (Kd.R_reads' HO335.out).2.2|(with_reducible refine Kd.C_alloc ?_ _)|(with_reducible refine Kd.C_drewN ?_ _)|(with_reducible refine Kd.C_drew ?_)))
               (case side2 => exact (Kd.R_reads' HO335.out).2.1)
               (case side3 => repeat (first|exact (by repeat (first|(with_reducible exact HR339.out)|(with_reducible refine Kd.C_alloc ?_ _)|(with_reducible refine Kd.C_drewN ?_ _)|(with_reducible refine Kd.C_drew ?_)|exact HR339.out))|(with_reducible refine Kd.C_alloc ?_ _)|(with_reducible refine Kd.C_drewN ?_ _)|(with_reducible refine Kd.C_drew ?_)))
               (case side4 => exact HC339.out)
               rintro e w' ⟨rfl, ⟨nd, rfl⟩⟩
               refine ⟨_, rfl, ?_⟩
               refine hK.out _ _ trivial (fun hHeld => ?_)
               clear hK K
               refine norm_ (a' := ?_) ?_ ?_
               rotate_left
               ·
                show Act.put _ (some 46) _ = _
                simp only [Act.put, List.setIfInBounds_toArray, List.set_cons_zero, List.set_cons_succ, i64_w, i32_w]
                rfl
               refine pure_ (i := 9) (N := some 47) (v := ?_) (a' := ?_) #[true, true, true, true, true, true, true, true, true, true] rfl rfl (any_of HT_.out (by kernel_rfl)) (fun _ _ _ h => h) (Or.inl ⟨by rfl, ?_⟩) ?_ ?_
               rotate_left
               ·
                intro w'
                go_simp
                with_reducible rfl
               rotate_left
               ·
                simp only [Act.put, List.setIfInBounds_toArray, List.set_cons_zero, List.set_cons_succ, i64_w, i32_w]
                rfl
               refine done_ (done_of HT_.out (by kernel_rfl)) ?_
               try go_wp2
               go_ret2
               exact ⟨_, by first|rfl|(simp [errW_none, errW_some] <;> rfl)|(simp only [← hji16];first|rfl|(simp [errW_none, errW_some] <;> rfl))|(simp [*, errW_none, errW_some] <;> rfl), by (with_reducible repeat (first|apply Kd.S_alloc|apply Kd.S_drewN|apply Kd.S_drew));exact Kd.S_mono HO_4.out (fun _ hk => trivial), by repeat (first|(with_reducible first|exact HB.out|apply below_alloc|apply pw_below_drewN|apply below_drew1|refine below_set ?_ GE320.out)|exact HB.out)⟩
             ·
              rw [if_neg c22] at H
              exact absurd H (by simp)
            ·
             rw [if_neg c21] at H
             exact absurd H (by simp)
           ·
            rw [if_neg c19] at H
            exact absurd H (by simp)
          ·
           rw [if_neg c18] at H
           exact absurd H (by simp)
         ·
          rw [if_neg c17] at H
          exact absurd H (by simp)
     ·
      rw [if_neg c10] at H
      exact absurd H (by simp)
    ·
     rw [if_neg c9] at H
     exact absurd H (by simp)
   ·
    rw [if_neg c8] at H
    have c8b0 : decide (x6_1 < 64) = false := decide_eq_false c8
    clear c8
    simp only [Option.some.injEq, Prod.mk.injEq] at H
    obtain ⟨rfl, rfl⟩ := H
    go_wp2
    go_ret2
    exact ⟨_, by first|rfl|(simp [errW_none, errW_some] <;> rfl)|(simp [*, errW_none, errW_some] <;> rfl), by (with_reducible repeat (first|apply Kd.S_alloc|apply Kd.S_drewN|apply Kd.S_drew));exact Kd.S_mono HO_4.out (fun _ hk => trivial), by repeat (first|(with_reducible first|exact HB.out|apply below_alloc|apply pw_below_drewN|apply below_drew1|refine below_set ?_ GE320.out)|exact HB.out)⟩

end Go.Proofs.Ytaahjfjpbilfnaa.PD
