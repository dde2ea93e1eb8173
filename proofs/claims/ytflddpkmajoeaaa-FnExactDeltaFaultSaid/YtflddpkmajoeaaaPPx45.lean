-- Laid by a program of this session's (wip/xprint.py) over the kit's print. Nothing in it is trusted: Lean checks it.
import Derived.Test.YtflddpkmajoeaaaPPx0
import Derived.Test.YtflddpkmajoeaaaPPx4
import Derived.Test.YtflddpkmajoeaaaPPx44
namespace Go.Proofs.Ytflddpkmajoeaaa.PP
open Go.RowKit Go.Proofs.YtflddpkmajoeaaaW.PrintWords Go.Proofs.YtflddpkmajoeaaaW.PrintLast Go.Proofs.YtflddpkmajoeaaaW.PrintMore
set_option maxHeartbeats 8000000
set_option maxRecDepth 100000
attribute [local go_sem] max2_int min2_int max_two min_two max_three min_three max_four min_four   -- for this text's walks alone
set_option linter.unusedVariables false
set_option linter.unusedSimpArgs false

/-! ### spec_l4Walk: function 130 -/
def spec_l4Walk.l0 : Nat → S55 → Int → List Int → Int → Option (List Int)
 | 0, _, _, _, _ => none
 | k + 1, x0, x1, x5, x6 => if x6 < 16 then ((spec_l4Block.f x0 x1 x6).bind fun t494 => (if t494 ≥ 0 then (if 0 ≤ t494 then (if t494 < (((rd_T55 [x0] 0).f1).length : Int) then ((some (([x6, (rd_T102 ((rd_T55 [x0] 0).f1) t494).f1] : List Int) : List Int)).bind fun y497 => (if x5.length + y497.length < 17592186044416 then (spec_l4Walk.l0 k x0 x1 (x5 ++ y497) (wrap64 (x6 + 1))) else (none))) else (none)) else (none)) else (spec_l4Walk.l0 k x0 x1 x5 (wrap64 (x6 + 1))))) else (some x5)
def spec_l4Walk.f (k : Nat) (xp0 : S55) (a1 : Int) : Option (List Int) := spec_l4Walk.l0 k xp0 a1 (([] : List Int)) 0
theorem spec_l4Walk.mono_l : ∀ k, (∀ y0 y1 y2 y3, LeO (spec_l4Walk.l0 k y0 y1 y2 y3) (spec_l4Walk.l0 (k + 1) y0 y1 y2 y3))
 | 0 => fun _ _ _ _ r h => by simp [spec_l4Walk.l0] at h
 | k + 1 => by
  have ih0 := spec_l4Walk.mono_l k
  · intro y0 y1 y2 y3
   unfold spec_l4Walk.l0
   repeat' first
   | (with_reducible exact ih0 _ _ _ _)
   | (with_reducible exact LeO.refl _)
   | (with_reducible exact LeO.none _)
   | (with_reducible refine LeO.ite ?_ ?_)
   | (with_reducible refine LeO.bind ?_ (fun _ => ?_))
   | exact ih0 _ _ _ _
   | exact LeO.none _
   | refine LeO.ite ?_ ?_
   | refine LeO.bind ?_ (fun _ => ?_)
theorem spec_l4Walk.mono : ∀ a0 a1 k, LeO (spec_l4Walk.f k a0 a1) (spec_l4Walk.f (k + 1) a0 a1) := by
 intro a0 a1 k
 have ih0 := spec_l4Walk.mono_l k
 unfold spec_l4Walk.f
 repeat' first
   | (with_reducible exact ih0 _ _ _ _)
   | (with_reducible exact LeO.refl _)
   | (with_reducible exact LeO.none _)
   | (with_reducible refine LeO.ite ?_ ?_)
   | (with_reducible refine LeO.bind ?_ (fun _ => ?_))
   | exact ih0 _ _ _ _
   | exact LeO.none _
   | refine LeO.ite ?_ ?_
   | refine LeO.bind ?_ (fun _ => ?_)
theorem spec_l4Walk.calls (k : Nat) (adp0 : Addr) (xp0 : S55) (a1 : Int) (r : List Int) (w : World) (hr0 : Kd.C k55 w (some adp0) 1 [xp0]) (h : spec_l4Walk.f k xp0 a1 = some r) :
  Calls Try.prog 130 #[.pointer (some adp0), .int .i64 a1] w fun e w' => ∃ v0_ : Value, e = .returned (v0_) ∧ Kd.R (Kd.int .i64) 2 w' w.heap.size (fun _ => True) v0_ r ∧ Below w.heap.size w w' := by
 have HR0 := Aside0.mk hr0
 clear hr0
 have HB := Aside0.mk (Below.refl w.heap.size w)
 have H : (spec_l4Walk.l0 k xp0 a1 (([] : List Int)) 0) = some r := h
 clear h
 obtain ⟨y491, hy491⟩ : ∃ y_ : List Int, y_ = (([] : List Int)) := ⟨_, rfl⟩
 replace H : (spec_l4Walk.l0 k xp0 a1 y491 0) = some r := by first|(rw [hy491];with_reducible exact H)|(have H2_ := (Option.bind_some _ _).symm.trans H;rw [hy491];with_reducible exact H2_)|(have H2_ := (Option.bind_some _ _).symm.trans H;with_reducible exact H2_)|with_reducible exact H|(rw [hy491];exact H)|exact H
 have Ny491 := Aside0.mk hy491
 clear hy491
 have H' := Aside0.mk H
 clear H
 go_enter Try.func130, Try.ntmps130
 go_wp2_with (first|((with_reducible refine gate_dst (N := 8) rfl ?_);refine Kd.R_lit (Kd.int .i64) _ 2 ?hg (N := 8) ?hd (xs := ([] : List Int)) (inner := []) (ok := fun _ => True) (okp := fun _ => True) ?hr ?hp (fun _ hk => hk) trivial (Below.refl _ _) (Nat.le_refl _) (by simp) ?_;(case hd => rfl);(case hg => rfl);(case hr => first|(go_simp;done)|(go_simp;rfl));(case hp => exact (Reps.none _ _));intro v492 w3 ho4 hb hg_ hnew_;clear hg_ hnew_;(first|rw [← Ny491.out] at ho4|(simp only [Int.reduceToNat] at ho4;rw [← Ny491.out] at ho4));have n0_ := Aside0.mk (Kd.R_lower ho4 (below_size (by repeat (first|(with_reducible first|exact HB.out|apply below_alloc|apply pw_below_drewN|apply below_drew1)|exact HB.out))));have n1_ := Aside0.mk (below_step (by repeat (first|(with_reducible first|exact HB.out|apply below_alloc|apply pw_below_drewN|apply below_drew1)|exact HB.out)) hb);clear HB;have HO493 := n0_;have HB := n1_;clear n0_ n1_;clear hb ho4))
 go_loopg [5, 6] k (fun kq v5 v6 w' => ∃ (x5_1 : List Int) (x6_1 : Int), v6 = .int .i64 x6_1 ∧ Aside0 (spec_l4Walk.l0 kq xp0 a1 x5_1 x6_1 = some r) ∧ Aside0 (kq ≤ k) ∧ Aside0 (Kd.R (Kd.int .i64) 2 w' w.heap.size (fun _ => True) v5 x5_1) ∧ Aside0 (Below w.heap.size w w'))
 case atStart => exact ⟨(y491), (0), (by first|rfl|(simp;done)|(simp [*];done)), H', ⟨Nat.le_refl _⟩, ⟨by (with_reducible repeat (first|apply Kd.R_alloc|apply Kd.R_drewN|apply Kd.R_drew));exact HO493.out⟩, ⟨by repeat (first|(with_reducible first|exact HB.out|apply below_alloc|apply pw_below_drewN|apply below_drew1)|exact HB.out)⟩⟩
 case round =>
  clear H'
  try clear c1
  try clear p2
  obtain ⟨x5_1, x6_1, rfl, HA, HK1, HO_5, HB⟩ := hrel
  cases gk with
  | zero => exact absurd HA.out (by simp [spec_l4Walk.l0])
  | succ k1 =>
   have H := HA.out
   clear HA
   simp only [spec_l4Walk.l0] at H
   by_cases c5 : x6_1 < 16
   · rw [if_pos c5] at H
    have c5b0 : decide (x6_1 < 16) = true := decide_eq_true c5
    clear c5
    replace H := Option.bind_eq_some_iff.mp H
    obtain ⟨t494, A60, H⟩ := H
    replace H : (if t494 ≥ 0 then (if 0 ≤ t494 then (if t494 < (((rd_T55 [xp0] 0).f1).length : Int) then ((some (([x6_1, (rd_T102 ((rd_T55 [xp0] 0).f1) t494).f1] : List Int) : List Int)).bind fun y497 => (if x5_1.length + y497.length < 17592186044416 then (spec_l4Walk.l0 k1 xp0 a1 (x5_1 ++ y497) (wrap64 (x6_1 + 1))) else (none))) else (none)) else (none)) else (spec_l4Walk.l0 k1 xp0 a1 x5_1 (wrap64 (x6_1 + 1)))) = some r := H
    have A6 := Aside0.mk A60
    clear A60
    by_cases c7 : t494 ≥ 0
    · rw [if_pos c7] at H
     have c7b0 : decide (0 ≤ t494) = true := decide_eq_true c7
     clear c7
     by_cases c8 : 0 ≤ t494
     · rw [if_pos c8] at H
      have c8b0 : decide (0 ≤ t494) = true := decide_eq_true c8
      clear c8
      by_cases c9 : t494 < (((rd_T55 [xp0] 0).f1).length : Int)
      · rw [if_pos c9] at H
       have c9b0 : decide (t494 < (((rd_T55 [xp0] 0).f1).length : Int)) = true := decide_eq_true c9
       clear c9
       obtain ⟨y497, hy497⟩ : ∃ y_ : List Int, y_ = (([x6_1, (rd_T102 ((rd_T55 [xp0] 0).f1) t494).f1] : List Int)) := ⟨_, rfl⟩
       replace H : (if x5_1.length + y497.length < 17592186044416 then (spec_l4Walk.l0 k1 xp0 a1 (x5_1 ++ y497) (wrap64 (x6_1 + 1))) else (none)) = some r := by first|(rw [hy497];with_reducible exact H)|(have H2_ := (Option.bind_some _ _).symm.trans H;rw [hy497];with_reducible exact H2_)|(have H2_ := (Option.bind_some _ _).symm.trans H;with_reducible exact H2_)|with_reducible exact H|(rw [hy497];exact H)|exact H
       have Ny497 := Aside0.mk hy497
       clear hy497
       by_cases c10 : x5_1.length + y497.length < 17592186044416
       · rw [if_pos c10] at H
        have LMc10 := Aside0.mk c10
        clear c10
        obtain ⟨y500, hy500⟩ : ∃ y_ : List Int, y_ = (x5_1 ++ y497) := ⟨_, rfl⟩
        replace H : (spec_l4Walk.l0 k1 xp0 a1 y500 (wrap64 (x6_1 + 1))) = some r := by first|(rw [hy500];with_reducible exact H)|(have H2_ := (Option.bind_some _ _).symm.trans H;rw [hy500];with_reducible exact H2_)|(have H2_ := (Option.bind_some _ _).symm.trans H;with_reducible exact H2_)|with_reducible exact H|(rw [hy500];exact H)|exact H
        have Ny500 := Aside0.mk hy500
        clear hy500
        have H' := Aside0.mk H
        clear H
        go_wp2_with (first|((with_reducible refine gate_callee (f := 159) rfl ?_);refine goesL_ (some 16) rfl rfl Try.func159 (by kernel_rfl) rfl #[.pointer (some adp0), .int .i64 a1, .int .i64 x6_1] rfl (by (try simp only [List.map_toArray, List.map_cons, List.map_nil]);first|done|rfl|(simp only [List.length_drop, List.length_take];rfl)) ?_;(with_reducible refine (spec_l4Block.calls _ xp0 a1 x6_1 t494 _ ?side1 A6.out).mono ?_);(case side1 => repeat (first|exact (Kd.C_below HR0.out HB.out)|(with_reducible refine Kd.C_alloc ?_ _)|(with_reducible refine Kd.C_drewN ?_ _)|(with_reducible refine Kd.C_drew ?_)));rintro e w' ⟨rfl, ⟨nd, rfl⟩⟩;refine ⟨_, rfl, ?_⟩;have p495 : 0 ≤ (0 : Int) := (by omega);have q495 : 0 < ([xp0].length : Int) := (by simp);obtain ⟨ad495, A495_0, c495_0, A495_1, c495_1, e495, hx495_0, hx495_1, hl495_0, hi495_0, hl495_1, hi495_1⟩ := at_T55 HR0.out 0 p495 q495;obtain rfl : adp0 = ad495 := (by injection e495);(try rw [show ((0 : Int)).toNat = 0 from rfl] at hx495_0);(try rw [show 0 * 2 = 0 from rfl] at hx495_0);(try rw [Addr.add_zero'] at hx495_0);(try rw [show ((0 : Int)).toNat = 0 from rfl] at hx495_1);(try rw [show 0 * 2 = 0 from rfl] at hx495_1);(try rw [Addr.add_zero'] at hx495_1);replace hx495_0 := (HB.out.cell (World.block_lt_of_cell? w _ hx495_0)).trans hx495_0;replace hx495_1 := (HB.out.cell (World.block_lt_of_cell? w _ hx495_1)).trans hx495_1;have HR495_0 := Aside0.mk hi495_0;have HC495_0 := Aside0.mk hl495_0;clear hi495_0 hl495_0;have HR495_1 := Aside0.mk hi495_1;have HC495_1 := Aside0.mk hl495_1;clear hi495_1 hl495_1;replace p495 := eq_true p495;replace q495 := eq_true q495;have p496 : 0 ≤ (t494 : Int) := of_decide_eq_true (by first|(with_reducible assumption)|assumption);have q496 : t494 < (((rd_T55 [xp0] 0).f1).length : Int) := of_decide_eq_true (by first|(with_reducible assumption)|assumption);obtain ⟨ad496, e496, hx496_0, hx496_1⟩ := at_T102 HR495_1.out t494 p496 q496;cases e496;replace hx496_0 := (HB.out.cell (World.block_lt_of_cell? w _ hx496_0)).trans hx496_0;replace hx496_1 := (HB.out.cell (World.block_lt_of_cell? w _ hx496_1)).trans hx496_1;replace p496 := eq_true p496;replace q496 := eq_true q496)|((with_reducible refine gate_dst (N := 29) rfl ?_);refine Kd.R_lit (Kd.int .i64) _ 2 ?hg (N := 29) ?hd (xs := ([x6_1, (rd_T102 ((rd_T55 [xp0] 0).f1) t494).f1] : List Int)) (inner := [.int .i64 x6_1, .int .i64 ((rd_T102 ((rd_T55 [xp0] 0).f1) t494).f1)]) (ok := fun _ => True) (okp := fun _ => True) ?hr ?hp (fun _ hk => hk) trivial (Below.refl _ _) (Nat.le_refl _) (by simp) ?_;(case hd => rfl);(case hg => rfl);(case hr => first|(go_simp;done)|(go_simp;rfl));(case hp => exact (Reps.one (show Kd.M (Kd.int .i64) _ _ _ x6_1 [.int .i64 x6_1] from rfl) (Reps.one (show Kd.M (Kd.int .i64) _ _ _ ((rd_T102 ((rd_T55 [xp0] 0).f1) t494).f1) [.int .i64 ((rd_T102 ((rd_T55 [xp0] 0).f1) t494).f1)] from rfl) (Reps.none _ _))));intro v498 w11 ho12 hb hg_ hnew_;clear hg_ hnew_;(first|rw [← Ny497.out] at ho12|(simp only [Int.reduceToNat] at ho12;rw [← Ny497.out] at ho12));have n0_ := Aside0.mk (Kd.R_elder' (by (with_reducible repeat (first|apply Kd.R_alloc|apply Kd.R_drewN|apply Kd.R_drew));exact HO_5.out) (Kd.R_base ho12) hb);have n1_ := Aside0.mk (Kd.R_lower (Kd.R_new' ho12 (Kd.R_lt (by (with_reducible repeat (first|apply Kd.R_alloc|apply Kd.R_drewN|apply Kd.R_drew));exact HO_5.out))) (below_size (by repeat (first|(with_reducible first|exact HB.out|apply below_alloc|apply pw_below_drewN|apply below_drew1)|exact HB.out))));have n2_ := Aside0.mk (below_step (by repeat (first|(with_reducible first|exact HB.out|apply below_alloc|apply pw_below_drewN|apply below_drew1)|exact HB.out)) hb);clear HO_5;clear HB;have HO_5 := n0_;have HO499 := n1_;have HB := n2_;clear n0_ n1_ n2_;clear hb ho12;obtain ⟨Ao14, co14, eo14⟩ := Kd.R_slice HO499.out;subst eo14)|((with_reducible refine gate_builtin (b := .append) (xs := #[.tmp 19, .tmp 29]) rfl ?_);at_builtin;refine Kd.R_append_rows (Kd.int .i64) (w0 := w) w.heap.size rfl (.tmp 19) (.tmp 29) 22 2 (.int .i64 0) 8 rfl Try.underlying22 info2 rfl (by decide) (by omega) u5 x5_1 y497 _ _ _ (fun k_ => some k_ ≠ (.slice Ao14 y497.length co14 : Value).ownBlock) (fun _ => False) rfl rfl ?aO ?aR (fun _ _ h => h) (fun _ h => h.elim) ?aF ?aB ?aS ?aL ?_;(case aR => repeat (first|exact (Kd.R_reads' HO499.out).2.2|(with_reducible refine Kd.C_alloc ?_ _)|(with_reducible refine Kd.C_drewN ?_ _)|(with_reducible refine Kd.C_drew ?_)));(case aB => exact (by repeat (first|(with_reducible first|exact HB.out|apply below_alloc|apply pw_below_drewN|apply below_drew1)|exact HB.out)));(case aF => exact (fun k_ hk => Kd.fresh' (Kd.R_lt (by (with_reducible repeat (first|apply Kd.R_alloc|apply Kd.R_drewN|apply Kd.R_drew));exact HO499.out)) k_ hk));(case aO => exact (by (with_reducible repeat (first|apply Kd.R_alloc|apply Kd.R_drewN|apply Kd.R_drew));exact Kd.R_mono HO_5.out (fun _ hk => hk.2)));(case aS => exact (below_size (by repeat (first|(with_reducible first|exact HB.out|apply below_alloc|apply pw_below_drewN|apply below_drew1)|exact HB.out))));(case aL => have := LMc10.out;omega);intro v501 w13 ho hb hg hat;rw [← Ny500.out] at ho;have n0_ := Aside0.mk (Kd.R_after (ok := (fun _ => True)) (by (with_reducible repeat (first|apply Kd.R_alloc|apply Kd.R_drewN|apply Kd.R_drew));exact HO499.out) hg hat);have n1_ := Aside0.mk (hb);have n2_ := Aside0.mk (ho);clear HO499;clear HB;clear HO_5;have HO499 := n0_;have HB := n1_;have HO502 := n2_;clear n0_ n1_ n2_;clear ho hb hg hat))
        go_roundg k1
        case measure => have := HK1.out;omega
        case rel => exact ⟨(y500), (wrap64 (x6_1 + 1)), (by first|rfl|(simp;done)|(simp [*];done)), H', ⟨by have := HK1.out;omega⟩, ⟨by (with_reducible repeat (first|apply Kd.R_alloc|apply Kd.R_drewN|apply Kd.R_drew));exact Kd.R_mono HO502.out (fun _ hk => trivial)⟩, ⟨by repeat (first|(with_reducible first|exact HB.out|apply below_alloc|apply pw_below_drewN|apply below_drew1)|exact HB.out)⟩⟩
       · rw [if_neg c10] at H
        exact absurd H (by simp)
      · rw [if_neg c9] at H
       exact absurd H (by simp)
     · rw [if_neg c8] at H
      exact absurd H (by simp)
    · rw [if_neg c7] at H
     have c7b0 : decide (0 ≤ t494) = false := decide_eq_false c7
     clear c7
     have H' := Aside0.mk H
     clear H
     go_wp2_with (first|((with_reducible refine gate_callee (f := 159) rfl ?_);refine goesL_ (some 16) rfl rfl Try.func159 (by kernel_rfl) rfl #[.pointer (some adp0), .int .i64 a1, .int .i64 x6_1] rfl (by (try simp only [List.map_toArray, List.map_cons, List.map_nil]);first|done|rfl|(simp only [List.length_drop, List.length_take];rfl)) ?_;(with_reducible refine (spec_l4Block.calls _ xp0 a1 x6_1 t494 _ ?side1 A6.out).mono ?_);(case side1 => repeat (first|exact (Kd.C_below HR0.out HB.out)|(with_reducible refine Kd.C_alloc ?_ _)|(with_reducible refine Kd.C_drewN ?_ _)|(with_reducible refine Kd.C_drew ?_)));rintro e w' ⟨rfl, ⟨nd, rfl⟩⟩;refine ⟨_, rfl, ?_⟩))
     go_roundg k1
     case measure => have := HK1.out;omega
     case rel => exact ⟨(x5_1), (wrap64 (x6_1 + 1)), (by first|rfl|(simp;done)|(simp [*];done)), H', ⟨by have := HK1.out;omega⟩, ⟨by (with_reducible repeat (first|apply Kd.R_alloc|apply Kd.R_drewN|apply Kd.R_drew));exact HO_5.out⟩, ⟨by repeat (first|(with_reducible first|exact HB.out|apply below_alloc|apply pw_below_drewN|apply below_drew1)|exact HB.out)⟩⟩
   · rw [if_neg c5] at H
    have c5b0 : decide (x6_1 < 16) = false := decide_eq_false c5
    clear c5
    obtain rfl := Option.some.inj H
    go_wp2
    go_ret
    exact ⟨_, by first|rfl|(simp [errW_none, errW_some] <;> rfl)|(simp [*, errW_none, errW_some] <;> rfl), by (with_reducible repeat (first|apply Kd.R_alloc|apply Kd.R_drewN|apply Kd.R_drew));exact HO_5.out, by repeat (first|(with_reducible first|exact HB.out|apply below_alloc|apply pw_below_drewN|apply below_drew1)|exact HB.out)⟩

/-! ### spec_l5Used: function 84 -/
def spec_l5Used.f (k : Nat) (xp0 : S55) (a1 : Int) : Option (Int) := (spec_l4Walk.f k xp0 a1).bind fun t503 => (some (wrap64 ((t503.length : Int) / 2)))
theorem spec_l5Used.mono : ∀ a0 a1 k, LeO (spec_l5Used.f k a0 a1) (spec_l5Used.f (k + 1) a0 a1) := by
 intro a0 a1 k
 unfold spec_l5Used.f
 repeat' first
   | (with_reducible exact spec_l4Walk.mono _ _ _)
   | (with_reducible exact LeO.refl _)
   | (with_reducible exact LeO.none _)
   | (with_reducible refine LeO.ite ?_ ?_)
   | (with_reducible refine LeO.bind ?_ (fun _ => ?_))
   | exact spec_l4Walk.mono _ _ _
   | exact LeO.none _
   | refine LeO.ite ?_ ?_
   | refine LeO.bind ?_ (fun _ => ?_)
theorem spec_l5Used.calls (k : Nat) (adp0 : Addr) (xp0 : S55) (a1 : Int) (r : Int) (w : World) (hr0 : Kd.C k55 w (some adp0) 1 [xp0]) (h : spec_l5Used.f k xp0 a1 = some r) :
  Calls Try.prog 84 #[.pointer (some adp0), .int .i64 a1] w fun e w' => e = .returned (.int .i64 r) ∧ Below w.heap.size w w' := by
 have HR0 := Aside0.mk hr0
 clear hr0
 have HB := Aside0.mk (Below.refl w.heap.size w)
 have H : ((spec_l4Walk.f k xp0 a1).bind fun t503 => (some (wrap64 ((t503.length : Int) / 2)))) = some r := h
 clear h
 replace H := Option.bind_eq_some_iff.mp H
 obtain ⟨t503, A30, H⟩ := H
 replace H : (some (wrap64 ((t503.length : Int) / 2))) = some r := H
 have A3 := Aside0.mk A30
 clear A30
 obtain rfl := Option.some.inj H
 go_enter Try.func84, Try.ntmps84
 go_wp2_with (first|((with_reducible refine gate_callee (f := 130) rfl ?_);refine goesL_ (some 7) rfl rfl Try.func130 (by kernel_rfl) rfl #[.pointer (some adp0), .int .i64 a1] rfl (by (try simp only [List.map_toArray, List.map_cons, List.map_nil]);first|done|rfl|(simp only [List.length_drop, List.length_take];rfl)) ?_;(with_reducible refine (spec_l4Walk.calls k _ xp0 a1 t503 _ ?side1 A3.out).mono ?_);(case side1 => repeat (first|exact HR0.out|(with_reducible refine Kd.C_alloc ?_ _)|(with_reducible refine Kd.C_drewN ?_ _)|(with_reducible refine Kd.C_drew ?_)));rintro e w4 ⟨v504, rfl, ho0, hb⟩;refine ⟨_, rfl, ?_⟩;have n0_ := Aside0.mk (Kd.R_lower ho0 (below_size (by repeat (first|(with_reducible first|exact HB.out|apply below_alloc|apply pw_below_drewN|apply below_drew1)|exact HB.out))));have n1_ := Aside0.mk (below_step (by repeat (first|(with_reducible first|exact HB.out|apply below_alloc|apply pw_below_drewN|apply below_drew1)|exact HB.out)) hb);clear HB;have HO505 := n0_;have HB := n1_;clear n0_ n1_;(try clear hb);(try clear hb2);(try clear hk);(try clear hi);(try clear ho0);obtain ⟨Ao5, co5, eo5⟩ := Kd.R_slice HO505.out;subst eo5))
 go_ret
 exact ⟨by first|rfl|(simp [errW_none, errW_some] <;> rfl)|(simp [*, errW_none, errW_some] <;> rfl), by repeat (first|(with_reducible first|exact HB.out|apply below_alloc|apply pw_below_drewN|apply below_drew1)|exact HB.out)⟩

/-! ### spec_l5Id: function 101 -/
def spec_l5Id.f (a0 : Int) : Option (Bool) := (spec_l1In.f a0 1 99).bind fun t506 => (some t506)
theorem spec_l5Id.calls (a0 : Int) (r : Bool) (w : World) (h : spec_l5Id.f a0 = some r) :
  Calls Try.prog 101 #[.int .i64 a0] w fun e w' => e = .returned (.bool r) ∧ Drawn0 w w' := by
 have H : ((spec_l1In.f a0 1 99).bind fun t506 => (some t506)) = some r := h
 clear h
 replace H := Option.bind_eq_some_iff.mp H
 obtain ⟨t506, A20, H⟩ := H
 replace H : (some t506) = some r := H
 have A2 := Aside0.mk A20
 clear A20
 obtain rfl := Option.some.inj H
 go_enter Try.func101, Try.ntmps101
 go_wp2_with (first|((with_reducible refine gate_callee (f := 53) rfl ?_);refine goesL_ (some 4) rfl rfl Try.func53 (by kernel_rfl) rfl #[.int .i64 a0, .int .i64 1, .int .i64 99] rfl (by (try simp only [List.map_toArray, List.map_cons, List.map_nil]);first|done|rfl|(simp only [List.length_drop, List.length_take];rfl)) ?_;(with_reducible refine (spec_l1In.calls a0 1 99 t506 _ A2.out).mono ?_);rintro e w' ⟨rfl, ⟨nd, rfl⟩⟩;refine ⟨_, rfl, ?_⟩))
 go_ret
 exact ⟨by first|rfl|(simp;done)|(simp [*];done), by repeat (first|exact Drawn0.refl _|apply Drawn0.step)⟩

/-! ### spec_l3Data: function 103 -/
def spec_l3Data.f (a0 : Int) : Option (Bool) := (spec_l1In.f a0 0 255).bind fun t507 => (some t507)
theorem spec_l3Data.calls (a0 : Int) (r : Bool) (w : World) (h : spec_l3Data.f a0 = some r) :
  Calls Try.prog 103 #[.int .i64 a0] w fun e w' => e = .returned (.bool r) ∧ Drawn0 w w' := by
 have H : ((spec_l1In.f a0 0 255).bind fun t507 => (some t507)) = some r := h
 clear h
 replace H := Option.bind_eq_some_iff.mp H
 obtain ⟨t507, A20, H⟩ := H
 replace H : (some t507) = some r := H
 have A2 := Aside0.mk A20
 clear A20
 obtain rfl := Option.some.inj H
 go_enter Try.func103, Try.ntmps103
 go_wp2_with (first|((with_reducible refine gate_callee (f := 53) rfl ?_);refine goesL_ (some 4) rfl rfl Try.func53 (by kernel_rfl) rfl #[.int .i64 a0, .int .i64 0, .int .i64 255] rfl (by (try simp only [List.map_toArray, List.map_cons, List.map_nil]);first|done|rfl|(simp only [List.length_drop, List.length_take];rfl)) ?_;(with_reducible refine (spec_l1In.calls a0 0 255 t507 _ A2.out).mono ?_);rintro e w' ⟨rfl, ⟨nd, rfl⟩⟩;refine ⟨_, rfl, ?_⟩))
 go_ret
 exact ⟨by first|rfl|(simp;done)|(simp [*];done), by repeat (first|exact Drawn0.refl _|apply Drawn0.step)⟩

end Go.Proofs.Ytflddpkmajoeaaa.PP
