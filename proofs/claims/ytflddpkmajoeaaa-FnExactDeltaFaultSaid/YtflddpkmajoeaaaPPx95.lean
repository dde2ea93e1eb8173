-- Laid by a program of this session's (wip/xprint.py) over the kit's print. Nothing in it is trusted: Lean checks it.
import Derived.Test.YtflddpkmajoeaaaPPx0
import Derived.Test.YtflddpkmajoeaaaPPx12
import Derived.Test.YtflddpkmajoeaaaPPx94
namespace Go.Proofs.Ytflddpkmajoeaaa.PP
open Go.RowKit Go.Proofs.YtflddpkmajoeaaaW.PrintWords Go.Proofs.YtflddpkmajoeaaaW.PrintLast Go.Proofs.YtflddpkmajoeaaaW.PrintMore
set_option maxHeartbeats 8000000
set_option maxRecDepth 100000
attribute [local go_sem] max2_int min2_int max_two min_two max_three min_three max_four min_four   -- for this text's walks alone
set_option linter.unusedVariables false
set_option linter.unusedSimpArgs false

/-! ### impl_cellAt: function 98 -/
def impl_cellAt.f (k : Nat) (l0 : List (S95)) (a1 : Int) (a2 : Int) : Option (Int × Bool) := (slices_BinarySearchFunc_impl_Cell__impl_cellOrder.f k l0 a1 a2 0).bind fun bt1025 => (some (bt1025.1, bt1025.2))
theorem impl_cellAt.mono : ∀ a0 a1 a2 k, LeO (impl_cellAt.f k a0 a1 a2) (impl_cellAt.f (k + 1) a0 a1 a2) := by
 intro a0 a1 a2 k
 unfold impl_cellAt.f
 repeat' first
   | (with_reducible exact slices_BinarySearchFunc_impl_Cell__impl_cellOrder.mono _ _ _ _ _)
   | (with_reducible exact LeO.refl _)
   | (with_reducible exact LeO.none _)
   | (with_reducible refine LeO.ite ?_ ?_)
   | (with_reducible refine LeO.bind ?_ (fun _ => ?_))
   | exact slices_BinarySearchFunc_impl_Cell__impl_cellOrder.mono _ _ _ _ _
   | exact LeO.none _
   | refine LeO.ite ?_ ?_
   | refine LeO.bind ?_ (fun _ => ?_)
theorem impl_cellAt.calls (k : Nat) (A0 : Option Addr) (c0 : Nat) (l0 : List (S95)) (a1 : Int) (a2 : Int) (r1 : Int) (r2 : Bool) (w : World) (hr0 : Kd.C k95 w A0 l0.length l0) (hc0 : l0.length ≤ c0) (h : impl_cellAt.f k l0 a1 a2 = some (r1, r2)) :
  Calls Try.prog 98 #[.slice A0 l0.length c0, .int .i64 a1, .int .i64 a2] w fun e w' => e = .returned (.tuple #[.int .i64 r1, .bool r2]) ∧ Below w.heap.size w w' := by
 have hu95 := Try.underlying95
 have HR0 := Aside0.mk hr0
 have HC0 := Aside0.mk hc0
 clear hr0 hc0
 have HB := Aside0.mk (Below.refl w.heap.size w)
 have H : ((slices_BinarySearchFunc_impl_Cell__impl_cellOrder.f k l0 a1 a2 0).bind fun bt1025 => (some (bt1025.1, bt1025.2))) = some (r1, r2) := h
 clear h
 replace H := Option.bind_eq_some_iff.mp H
 obtain ⟨⟨t1025, t1026⟩, A40, H⟩ := H
 replace H : (some (t1025, t1026)) = some (r1, r2) := H
 have A4 := Aside0.mk A40
 clear A40
 simp only [Option.some.injEq, Prod.mk.injEq] at H
 obtain ⟨rfl, rfl⟩ := H
 go_enter Try.func98, Try.ntmps98
 go_wp2_with (first|((with_reducible refine gate_callee (f := 144) rfl ?_);refine goesL_ (some 12) rfl rfl Try.func144 (by kernel_rfl) rfl #[.slice A0 l0.length c0, .agg #[.int .i64 a1, .int .i64 a2, .int .i64 0], .func (.func 95) #[] #[]] rfl (by (try simp only [List.map_toArray, List.map_cons, List.map_nil]);first|done|rfl|(simp only [List.length_drop, List.length_take];rfl)) ?_;(with_reducible refine (slices_BinarySearchFunc_impl_Cell__impl_cellOrder.calls k _ _ l0 a1 a2 0 t1025 t1026 _ ?side1 ?side2 A4.out).mono ?_);(case side1 => repeat (first|exact HR0.out|(with_reducible refine Kd.C_alloc ?_ _)|(with_reducible refine Kd.C_drewN ?_ _)|(with_reducible refine Kd.C_drew ?_)));(case side2 => exact HC0.out);rintro e w5 ⟨rfl, hb⟩;refine ⟨_, rfl, ?_⟩;have n0_ := Aside0.mk (below_step (by repeat (first|(with_reducible first|exact HB.out|apply below_alloc|apply pw_below_drewN|apply below_drew1)|exact HB.out)) hb);clear HB;have HB := n0_;clear n0_;(try clear hb);(try clear hb2);(try clear hk);(try clear hi)))
 go_ret2
 exact ⟨by first|rfl|(simp [errW_none, errW_some] <;> rfl)|(simp [*, errW_none, errW_some] <;> rfl), by repeat (first|(with_reducible first|exact HB.out|apply below_alloc|apply pw_below_drewN|apply below_drew1)|exact HB.out)⟩

-- NOT PRINTED: function 47 (impl_CellIn)

-- NOT PRINTED: function 11 (laws_FnExactCellIn)

/-! ### laws_szStepS: function 99 -/
def laws_szStepS.f (l0 : List (S175)) (a1 : Int) : Option (Int) := if (wrap64 (a1 - (l0.length : Int))) < 0 then (some (-1)) else (some (wrap64 (a1 - (l0.length : Int))))
theorem laws_szStepS.calls (A0 : Option Addr) (c0 : Nat) (l0 : List (S175)) (a1 : Int) (r : Int) (w : World) (hr0 : Kd.C k175 w A0 l0.length l0) (hc0 : l0.length ≤ c0) (h : laws_szStepS.f l0 a1 = some r) :
  Calls Try.prog 99 #[.slice A0 l0.length c0, .int .i64 a1] w fun e w' => e = .returned (.int .i64 r) ∧ Drawn0 w w' := by
 have HR0 := Aside0.mk hr0
 have HC0 := Aside0.mk hc0
 clear hr0 hc0
 have H : (if (wrap64 (a1 - (l0.length : Int))) < 0 then (some (-1)) else (some (wrap64 (a1 - (l0.length : Int))))) = some r := h
 clear h
 by_cases c3 : (wrap64 (a1 - (l0.length : Int))) < 0
 · rw [if_pos c3] at H
  have c3b0 : decide ((wrap64 (a1 - (l0.length : Int))) < 0) = true := decide_eq_true c3
  clear c3
  obtain rfl := Option.some.inj H
  go_enter Try.func99, Try.ntmps99
  go_wp2
  go_ret
  exact ⟨by first|rfl|(simp;done)|(simp [*];done), by repeat (first|exact Drawn0.refl _|apply Drawn0.step)⟩
 · rw [if_neg c3] at H
  have c3b0 : decide ((wrap64 (a1 - (l0.length : Int))) < 0) = false := decide_eq_false c3
  clear c3
  obtain rfl := Option.some.inj H
  go_enter Try.func99, Try.ntmps99
  go_wp2
  go_ret
  exact ⟨by first|rfl|(simp;done)|(simp [*];done), by repeat (first|exact Drawn0.refl _|apply Drawn0.step)⟩

/-! ### laws_szDelta: function 48 -/
def laws_szDelta.f (a0_0 : Int) (a0_1 : Int) (l0_2 : List (S143)) (l0_3 : List (S175)) (a1 : Int) : Option (Int) := (laws_szVolS.f l0_2 a1).bind fun t1056 => (if t1056 < 0 then (some (-1)) else ((laws_szStepS.f l0_3 t1056).bind fun t1057 => (if t1057 < 0 then (some (-1)) else (some t1057))))
theorem laws_szDelta.calls (a0_0 : Int) (a0_1 : Int) (A0_2 : Option Addr) (c0_2 : Nat) (l0_2 : List (S143)) (A0_3 : Option Addr) (c0_3 : Nat) (l0_3 : List (S175)) (a1 : Int) (r : Int) (w : World) (hr0_2 : Kd.C k143 w A0_2 l0_2.length l0_2) (hc0_2 : l0_2.length ≤ c0_2) (hr0_3 : Kd.C k175 w A0_3 l0_3.length l0_3) (hc0_3 : l0_3.length ≤ c0_3) (h : laws_szDelta.f a0_0 a0_1 l0_2 l0_3 a1 = some r) :
  Calls Try.prog 48 #[.agg #[.int .i64 a0_0, .int .i64 a0_1, .slice A0_2 l0_2.length c0_2, .slice A0_3 l0_3.length c0_3], .int .i64 a1] w fun e w' => e = .returned (.int .i64 r) ∧ Below w.heap.size w w' := by
 have hu79 := Try.underlying79
 have HR0_2 := Aside0.mk hr0_2
 have HC0_2 := Aside0.mk hc0_2
 clear hr0_2 hc0_2
 have HR0_3 := Aside0.mk hr0_3
 have HC0_3 := Aside0.mk hc0_3
 clear hr0_3 hc0_3
 have HB := Aside0.mk (Below.refl w.heap.size w)
 have H : ((laws_szVolS.f l0_2 a1).bind fun t1056 => (if t1056 < 0 then (some (-1)) else ((laws_szStepS.f l0_3 t1056).bind fun t1057 => (if t1057 < 0 then (some (-1)) else (some t1057))))) = some r := h
 clear h
 replace H := Option.bind_eq_some_iff.mp H
 obtain ⟨t1056, A30, H⟩ := H
 replace H : (if t1056 < 0 then (some (-1)) else ((laws_szStepS.f l0_3 t1056).bind fun t1057 => (if t1057 < 0 then (some (-1)) else (some t1057)))) = some r := H
 have A3 := Aside0.mk A30
 clear A30
 by_cases c4 : t1056 < 0
 · rw [if_pos c4] at H
  have c4b0 : decide (t1056 < 0) = true := decide_eq_true c4
  clear c4
  obtain rfl := Option.some.inj H
  go_enter Try.func48, Try.ntmps48
  go_wp2_with (first|((with_reducible refine gate_dst (N := 2) rfl ?_);refine box_event ?hg (N := 2) ?hd (cs := #[.int .i64 a0_0, .int .i64 a0_1, .slice A0_2 l0_2.length c0_2, .slice A0_3 l0_3.length c0_3]) (t := 79) ?hr ?_;(case hd => rfl);(case hg => rfl);(case hr => first|(go_simp;done)|(go_simp;rfl));intro gb1055 hg w5 hbox hb;have n0_ := Aside0.mk (below_step (by repeat (first|(with_reducible first|exact HB.out|apply below_alloc|apply pw_below_drewN|apply below_drew1)|exact HB.out)) hb);have n1_ := Aside0.mk (hbox);have n2_ := Aside0.mk ((by rw [hg];exact (below_size (by repeat (first|(with_reducible first|exact HB.out|apply below_alloc|apply pw_below_drewN|apply below_drew1)|exact HB.out))) : w.heap.size ≤ gb1055));have n3_ := Aside0.mk ((by rw [hg];exact (below_size (by repeat (first|(with_reducible first|exact HB.out|apply below_alloc|apply pw_below_drewN|apply below_drew1)|exact HB.out))) : w.heap.size ≤ gb1055));clear HB;have HB := n0_;have BK1055 := n1_;have GW1055 := n2_;have GE1055 := n3_;clear n0_ n1_ n2_ n3_;clear hb hbox hg;have hcz6_0 : w5.cell? ⟨gb1055, 0, none⟩ = some (.int .i64 a0_0) := (blk_cell BK1055.out 0).trans rfl;have hcz6_1 : w5.cell? ⟨gb1055, 1, none⟩ = some (.int .i64 a0_1) := (blk_cell BK1055.out 1).trans rfl;have hcz6_2 : w5.cell? ⟨gb1055, 2, none⟩ = some (.slice A0_2 l0_2.length c0_2) := (blk_cell BK1055.out 2).trans rfl;have hcz6_3 : w5.cell? ⟨gb1055, 3, none⟩ = some (.slice A0_3 l0_3.length c0_3) := (blk_cell BK1055.out 3).trans rfl;have hfz6_0 := blk_frozen BK1055.out 0;have hfz6_1 := blk_frozen BK1055.out 1;have hfz6_2 := blk_frozen BK1055.out 2;have hfz6_3 := blk_frozen BK1055.out 3)|((with_reducible refine gate_callee (f := 58) rfl ?_);refine goesL_ (some 8) rfl rfl Try.func58 (by kernel_rfl) rfl #[.slice A0_2 l0_2.length c0_2, .int .i64 a1] rfl (by (try simp only [List.map_toArray, List.map_cons, List.map_nil]);first|done|rfl|(simp only [List.length_drop, List.length_take];rfl)) ?_;(with_reducible refine (laws_szVolS.calls _ _ l0_2 a1 t1056 _ ?side1 ?side2 A3.out).mono ?_);(case side1 => repeat (first|exact (Kd.C_below HR0_2.out HB.out)|(with_reducible refine Kd.C_alloc ?_ _)|(with_reducible refine Kd.C_drewN ?_ _)|(with_reducible refine Kd.C_drew ?_)));(case side2 => exact HC0_2.out);rintro e w' ⟨rfl, ⟨nd, rfl⟩⟩;refine ⟨_, rfl, ?_⟩))
  go_ret
  exact ⟨by first|rfl|(simp [errW_none, errW_some] <;> rfl)|(simp [*, errW_none, errW_some] <;> rfl), by repeat (first|(with_reducible first|exact HB.out|apply below_alloc|apply pw_below_drewN|apply below_drew1|refine below_set ?_ GE1055.out)|exact HB.out)⟩
 · rw [if_neg c4] at H
  have c4b0 : decide (t1056 < 0) = false := decide_eq_false c4
  clear c4
  replace H := Option.bind_eq_some_iff.mp H
  obtain ⟨t1057, A70, H⟩ := H
  replace H : (if t1057 < 0 then (some (-1)) else (some t1057)) = some r := H
  have A7 := Aside0.mk A70
  clear A70
  by_cases c8 : t1057 < 0
  · rw [if_pos c8] at H
   have c8b0 : decide (t1057 < 0) = true := decide_eq_true c8
   clear c8
   obtain rfl := Option.some.inj H
   go_enter Try.func48, Try.ntmps48
   go_wp2_with (first|((with_reducible refine gate_dst (N := 2) rfl ?_);refine box_event ?hg (N := 2) ?hd (cs := #[.int .i64 a0_0, .int .i64 a0_1, .slice A0_2 l0_2.length c0_2, .slice A0_3 l0_3.length c0_3]) (t := 79) ?hr ?_;(case hd => rfl);(case hg => rfl);(case hr => first|(go_simp;done)|(go_simp;rfl));intro gb1055 hg w9 hbox hb;have n0_ := Aside0.mk (below_step (by repeat (first|(with_reducible first|exact HB.out|apply below_alloc|apply pw_below_drewN|apply below_drew1)|exact HB.out)) hb);have n1_ := Aside0.mk (hbox);have n2_ := Aside0.mk ((by rw [hg];exact (below_size (by repeat (first|(with_reducible first|exact HB.out|apply below_alloc|apply pw_below_drewN|apply below_drew1)|exact HB.out))) : w.heap.size ≤ gb1055));have n3_ := Aside0.mk ((by rw [hg];exact (below_size (by repeat (first|(with_reducible first|exact HB.out|apply below_alloc|apply pw_below_drewN|apply below_drew1)|exact HB.out))) : w.heap.size ≤ gb1055));clear HB;have HB := n0_;have BK1055 := n1_;have GW1055 := n2_;have GE1055 := n3_;clear n0_ n1_ n2_ n3_;clear hb hbox hg;have hcz10_0 : w9.cell? ⟨gb1055, 0, none⟩ = some (.int .i64 a0_0) := (blk_cell BK1055.out 0).trans rfl;have hcz10_1 : w9.cell? ⟨gb1055, 1, none⟩ = some (.int .i64 a0_1) := (blk_cell BK1055.out 1).trans rfl;have hcz10_2 : w9.cell? ⟨gb1055, 2, none⟩ = some (.slice A0_2 l0_2.length c0_2) := (blk_cell BK1055.out 2).trans rfl;have hcz10_3 : w9.cell? ⟨gb1055, 3, none⟩ = some (.slice A0_3 l0_3.length c0_3) := (blk_cell BK1055.out 3).trans rfl;have hfz10_0 := blk_frozen BK1055.out 0;have hfz10_1 := blk_frozen BK1055.out 1;have hfz10_2 := blk_frozen BK1055.out 2;have hfz10_3 := blk_frozen BK1055.out 3)|((with_reducible refine gate_callee (f := 58) rfl ?_);refine goesL_ (some 8) rfl rfl Try.func58 (by kernel_rfl) rfl #[.slice A0_2 l0_2.length c0_2, .int .i64 a1] rfl (by (try simp only [List.map_toArray, List.map_cons, List.map_nil]);first|done|rfl|(simp only [List.length_drop, List.length_take];rfl)) ?_;(with_reducible refine (laws_szVolS.calls _ _ l0_2 a1 t1056 _ ?side1 ?side2 A3.out).mono ?_);(case side1 => repeat (first|exact (Kd.C_below HR0_2.out HB.out)|(with_reducible refine Kd.C_alloc ?_ _)|(with_reducible refine Kd.C_drewN ?_ _)|(with_reducible refine Kd.C_drew ?_)));(case side2 => exact HC0_2.out);rintro e w' ⟨rfl, ⟨nd, rfl⟩⟩;refine ⟨_, rfl, ?_⟩)|((with_reducible refine gate_callee (f := 99) rfl ?_);refine goesL_ (some 14) rfl rfl Try.func99 (by kernel_rfl) rfl #[.slice A0_3 l0_3.length c0_3, .int .i64 t1056] rfl (by (try simp only [List.map_toArray, List.map_cons, List.map_nil]);first|done|rfl|(simp only [List.length_drop, List.length_take];rfl)) ?_;(with_reducible refine (laws_szStepS.calls _ _ l0_3 t1056 t1057 _ ?side1 ?side2 A7.out).mono ?_);(case side1 => repeat (first|exact (Kd.C_below HR0_3.out (by repeat (first|(with_reducible first|exact HB.out|apply below_alloc|apply pw_below_drewN|apply below_drew1|refine below_set ?_ GE1055.out)|exact HB.out)))|(with_reducible refine Kd.C_alloc ?_ _)|(with_reducible refine Kd.C_drewN ?_ _)|(with_reducible refine Kd.C_drew ?_)));(case side2 => exact HC0_3.out);rintro e w' ⟨rfl, ⟨nd, rfl⟩⟩;refine ⟨_, rfl, ?_⟩))
   go_ret
   exact ⟨by first|rfl|(simp [errW_none, errW_some] <;> rfl)|(simp [*, errW_none, errW_some] <;> rfl), by repeat (first|(with_reducible first|exact HB.out|apply below_alloc|apply pw_below_drewN|apply below_drew1|refine below_set ?_ GE1055.out)|exact HB.out)⟩
  · rw [if_neg c8] at H
   have c8b0 : decide (t1057 < 0) = false := decide_eq_false c8
   clear c8
   obtain rfl := Option.some.inj H
   go_enter Try.func48, Try.ntmps48
   go_wp2_with (first|((with_reducible refine gate_dst (N := 2) rfl ?_);refine box_event ?hg (N := 2) ?hd (cs := #[.int .i64 a0_0, .int .i64 a0_1, .slice A0_2 l0_2.length c0_2, .slice A0_3 l0_3.length c0_3]) (t := 79) ?hr ?_;(case hd => rfl);(case hg => rfl);(case hr => first|(go_simp;done)|(go_simp;rfl));intro gb1055 hg w11 hbox hb;have n0_ := Aside0.mk (below_step (by repeat (first|(with_reducible first|exact HB.out|apply below_alloc|apply pw_below_drewN|apply below_drew1)|exact HB.out)) hb);have n1_ := Aside0.mk (hbox);have n2_ := Aside0.mk ((by rw [hg];exact (below_size (by repeat (first|(with_reducible first|exact HB.out|apply below_alloc|apply pw_below_drewN|apply below_drew1)|exact HB.out))) : w.heap.size ≤ gb1055));have n3_ := Aside0.mk ((by rw [hg];exact (below_size (by repeat (first|(with_reducible first|exact HB.out|apply below_alloc|apply pw_below_drewN|apply below_drew1)|exact HB.out))) : w.heap.size ≤ gb1055));clear HB;have HB := n0_;have BK1055 := n1_;have GW1055 := n2_;have GE1055 := n3_;clear n0_ n1_ n2_ n3_;clear hb hbox hg;have hcz12_0 : w11.cell? ⟨gb1055, 0, none⟩ = some (.int .i64 a0_0) := (blk_cell BK1055.out 0).trans rfl;have hcz12_1 : w11.cell? ⟨gb1055, 1, none⟩ = some (.int .i64 a0_1) := (blk_cell BK1055.out 1).trans rfl;have hcz12_2 : w11.cell? ⟨gb1055, 2, none⟩ = some (.slice A0_2 l0_2.length c0_2) := (blk_cell BK1055.out 2).trans rfl;have hcz12_3 : w11.cell? ⟨gb1055, 3, none⟩ = some (.slice A0_3 l0_3.length c0_3) := (blk_cell BK1055.out 3).trans rfl;have hfz12_0 := blk_frozen BK1055.out 0;have hfz12_1 := blk_frozen BK1055.out 1;have hfz12_2 := blk_frozen BK1055.out 2;have hfz12_3 := blk_frozen BK1055.out 3)|((with_reducible refine gate_callee (f := 58) rfl ?_);refine goesL_ (some 8) rfl rfl Try.func58 (by kernel_rfl) rfl #[.slice A0_2 l0_2.length c0_2, .int .i64 a1] rfl (by (try simp only [List.map_toArray, List.map_cons, List.map_nil]);first|done|rfl|(simp only [List.length_drop, List.length_take];rfl)) ?_;(with_reducible refine (laws_szVolS.calls _ _ l0_2 a1 t1056 _ ?side1 ?side2 A3.out).mono ?_);(case side1 => repeat (first|exact (Kd.C_below HR0_2.out HB.out)|(with_reducible refine Kd.C_alloc ?_ _)|(with_reducible refine Kd.C_drewN ?_ _)|(with_reducible refine Kd.C_drew ?_)));(case side2 => exact HC0_2.out);rintro e w' ⟨rfl, ⟨nd, rfl⟩⟩;refine ⟨_, rfl, ?_⟩)|((with_reducible refine gate_callee (f := 99) rfl ?_);refine goesL_ (some 14) rfl rfl Try.func99 (by kernel_rfl) rfl #[.slice A0_3 l0_3.length c0_3, .int .i64 t1056] rfl (by (try simp only [List.map_toArray, List.map_cons, List.map_nil]);first|done|rfl|(simp only [List.length_drop, List.length_take];rfl)) ?_;(with_reducible refine (laws_szStepS.calls _ _ l0_3 t1056 t1057 _ ?side1 ?side2 A7.out).mono ?_);(case side1 => repeat (first|exact (Kd.C_below HR0_3.out (by repeat (first|(with_reducible first|exact HB.out|apply below_alloc|apply pw_below_drewN|apply below_drew1|refine below_set ?_ GE1055.out)|exact HB.out)))|(with_reducible refine Kd.C_alloc ?_ _)|(with_reducible refine Kd.C_drewN ?_ _)|(with_reducible refine Kd.C_drew ?_)));(case side2 => exact HC0_3.out);rintro e w' ⟨rfl, ⟨nd, rfl⟩⟩;refine ⟨_, rfl, ?_⟩))
   go_ret
   exact ⟨by first|rfl|(simp [errW_none, errW_some] <;> rfl)|(simp [*, errW_none, errW_some] <;> rfl), by repeat (first|(with_reducible first|exact HB.out|apply below_alloc|apply pw_below_drewN|apply below_drew1|refine below_set ?_ GE1055.out)|exact HB.out)⟩

/-! ### spec_l7Ahead: function 104 -/
def spec_l7Ahead.f (a0_0 : Bool) (a0_1 : Int) (a0_2 : Int) (a0_3 : Int) (a1_0 : Bool) (a1_1 : Int) (a1_2 : Int) (a1_3 : Int) : Option (Bool) := if a0_1 = a1_1 then (some (decide (a0_2 < a1_2))) else (some (decide (a0_1 < a1_1)))
theorem spec_l7Ahead.calls (a0_0 : Bool) (a0_1 : Int) (a0_2 : Int) (a0_3 : Int) (a1_0 : Bool) (a1_1 : Int) (a1_2 : Int) (a1_3 : Int) (r : Bool) (w : World) (h : spec_l7Ahead.f a0_0 a0_1 a0_2 a0_3 a1_0 a1_1 a1_2 a1_3 = some r) :
  Calls Try.prog 104 #[.agg #[.bool a0_0, .int .i64 a0_1, .int .i64 a0_2, .int .i64 a0_3], .agg #[.bool a1_0, .int .i64 a1_1, .int .i64 a1_2, .int .i64 a1_3]] w fun e w' => e = .returned (.bool r) ∧ Below w.heap.size w w' := by
 have hu137 := Try.underlying137
 have HB := Aside0.mk (Below.refl w.heap.size w)
 have H : (if a0_1 = a1_1 then (some (decide (a0_2 < a1_2))) else (some (decide (a0_1 < a1_1)))) = some r := h
 clear h
 by_cases c3 : a0_1 = a1_1
 · rw [if_pos c3] at H
  have c3b0 : (a0_1 == a1_1) = true := beq_iff_eq.mpr c3
  have c3b1 : (a0_1 != a1_1) = false := bne_eq_false_iff_eq.mpr c3
  clear c3
  obtain rfl := Option.some.inj H
  go_enter Try.func104, Try.ntmps104
  go_wp2_with (first|((with_reducible refine gate_dst (N := 2) rfl ?_);refine box_event ?hg (N := 2) ?hd (cs := #[.bool a0_0, .int .i64 a0_1, .int .i64 a0_2, .int .i64 a0_3]) (t := 137) ?hr ?_;(case hd => rfl);(case hg => rfl);(case hr => first|(go_simp;done)|(go_simp;rfl));intro gb1058 hg w4 hbox hb;have n0_ := Aside0.mk (below_step (by repeat (first|(with_reducible first|exact HB.out|apply below_alloc|apply pw_below_drewN|apply below_drew1)|exact HB.out)) hb);have n1_ := Aside0.mk (hbox);have n2_ := Aside0.mk ((by rw [hg];exact (below_size (by repeat (first|(with_reducible first|exact HB.out|apply below_alloc|apply pw_below_drewN|apply below_drew1)|exact HB.out))) : w.heap.size ≤ gb1058));have n3_ := Aside0.mk ((by rw [hg];exact (below_size (by repeat (first|(with_reducible first|exact HB.out|apply below_alloc|apply pw_below_drewN|apply below_drew1)|exact HB.out))) : w.heap.size ≤ gb1058));clear HB;have HB := n0_;have BK1058 := n1_;have GW1058 := n2_;have GE1058 := n3_;clear n0_ n1_ n2_ n3_;clear hb hbox hg)|((with_reducible refine gate_dst (N := 3) rfl ?_);refine box_event ?hg (N := 3) ?hd (cs := #[.bool a1_0, .int .i64 a1_1, .int .i64 a1_2, .int .i64 a1_3]) (t := 137) ?hr ?_;(case hd => rfl);(case hg => rfl);(case hr => first|(go_simp;done)|(go_simp;rfl));intro gb1059 hg w5 hbox hb;have n0_ := Aside0.mk (blk_below (g := gb1058) (o := .cells #[.bool a0_0, .int .i64 a0_1, .int .i64 a0_2, .int .i64 a0_3] 137 (0, 0)) (by (with_reducible repeat (first|refine blk_drewN ?_ _|refine blk_drew ?_|refine blk_alloc ?_ _));exact BK1058.out) hb);have n1_ := Aside0.mk (below_step (by repeat (first|(with_reducible first|exact HB.out|apply below_alloc|apply pw_below_drewN|apply below_drew1|refine below_set ?_ GE1058.out)|exact HB.out)) hb);have n2_ := Aside0.mk (hbox);have n3_ := Aside0.mk ((by rw [hg];exact (below_size (by repeat (first|(with_reducible first|exact HB.out|apply below_alloc|apply pw_below_drewN|apply below_drew1|refine below_set ?_ GE1058.out)|exact HB.out))) : w.heap.size ≤ gb1059));have n4_ := Aside0.mk ((by rw [hg];exact (below_size (by repeat (first|(with_reducible first|exact HB.out|apply below_alloc|apply pw_below_drewN|apply below_drew1|refine below_set ?_ GE1058.out)|exact HB.out))) : w.heap.size ≤ gb1059));have n5_ := Aside0.mk ((by rw [hg];exact Nat.ne_of_lt (blk_lt (g := gb1058) (o := .cells #[.bool a0_0, .int .i64 a0_1, .int .i64 a0_2, .int .i64 a0_3] 137 (0, 0)) (by (with_reducible repeat (first|refine blk_drewN ?_ _|refine blk_drew ?_|refine blk_alloc ?_ _));exact BK1058.out)) : gb1058 ≠ gb1059));have n6_ := Aside0.mk ((by rw [hg];exact Nat.ne_of_gt (blk_lt (g := gb1058) (o := .cells #[.bool a0_0, .int .i64 a0_1, .int .i64 a0_2, .int .i64 a0_3] 137 (0, 0)) (by (with_reducible repeat (first|refine blk_drewN ?_ _|refine blk_drew ?_|refine blk_alloc ?_ _));exact BK1058.out)) : gb1059 ≠ gb1058));clear BK1058;clear HB;have BK1058 := n0_;have HB := n1_;have BK1059 := n2_;have GW1059 := n3_;have GE1059 := n4_;have NB1058_1059 := n5_;have NB1059_1058 := n6_;clear n0_ n1_ n2_ n3_ n4_ n5_ n6_;clear hb hbox hg;have hnb6 := NB1058_1059.out;have hnc6 := NB1059_1058.out;have hcz7_0 : w5.cell? ⟨gb1058, 0, none⟩ = some (.bool a0_0) := (blk_cell BK1058.out 0).trans rfl;have hcz7_1 : w5.cell? ⟨gb1058, 1, none⟩ = some (.int .i64 a0_1) := (blk_cell BK1058.out 1).trans rfl;have hcz7_2 : w5.cell? ⟨gb1058, 2, none⟩ = some (.int .i64 a0_2) := (blk_cell BK1058.out 2).trans rfl;have hcz7_3 : w5.cell? ⟨gb1058, 3, none⟩ = some (.int .i64 a0_3) := (blk_cell BK1058.out 3).trans rfl;have hfz7_0 := blk_frozen BK1058.out 0;have hfz7_1 := blk_frozen BK1058.out 1;have hfz7_2 := blk_frozen BK1058.out 2;have hfz7_3 := blk_frozen BK1058.out 3;have hcz8_0 : w5.cell? ⟨gb1059, 0, none⟩ = some (.bool a1_0) := (blk_cell BK1059.out 0).trans rfl;have hcz8_1 : w5.cell? ⟨gb1059, 1, none⟩ = some (.int .i64 a1_1) := (blk_cell BK1059.out 1).trans rfl;have hcz8_2 : w5.cell? ⟨gb1059, 2, none⟩ = some (.int .i64 a1_2) := (blk_cell BK1059.out 2).trans rfl;have hcz8_3 : w5.cell? ⟨gb1059, 3, none⟩ = some (.int .i64 a1_3) := (blk_cell BK1059.out 3).trans rfl;have hfz8_0 := blk_frozen BK1059.out 0;have hfz8_1 := blk_frozen BK1059.out 1;have hfz8_2 := blk_frozen BK1059.out 2;have hfz8_3 := blk_frozen BK1059.out 3))
  go_ret
  exact ⟨by first|rfl|(simp [errW_none, errW_some] <;> rfl)|(simp [*, errW_none, errW_some] <;> rfl), by repeat (first|(with_reducible first|exact HB.out|apply below_alloc|apply pw_below_drewN|apply below_drew1|refine below_set ?_ GE1058.out|refine below_set ?_ GE1059.out)|exact HB.out)⟩
 · rw [if_neg c3] at H
  have c3b0 : (a0_1 == a1_1) = false := beq_eq_false_iff_ne.mpr c3
  have c3b1 : (a0_1 != a1_1) = true := bne_iff_ne.mpr c3
  obtain rfl := Option.some.inj H
  go_enter Try.func104, Try.ntmps104
  go_wp2_with (first|((with_reducible refine gate_dst (N := 2) rfl ?_);refine box_event ?hg (N := 2) ?hd (cs := #[.bool a0_0, .int .i64 a0_1, .int .i64 a0_2, .int .i64 a0_3]) (t := 137) ?hr ?_;(case hd => rfl);(case hg => rfl);(case hr => first|(go_simp;done)|(go_simp;rfl));intro gb1058 hg w9 hbox hb;have n0_ := Aside0.mk (below_step (by repeat (first|(with_reducible first|exact HB.out|apply below_alloc|apply pw_below_drewN|apply below_drew1)|exact HB.out)) hb);have n1_ := Aside0.mk (hbox);have n2_ := Aside0.mk ((by rw [hg];exact (below_size (by repeat (first|(with_reducible first|exact HB.out|apply below_alloc|apply pw_below_drewN|apply below_drew1)|exact HB.out))) : w.heap.size ≤ gb1058));have n3_ := Aside0.mk ((by rw [hg];exact (below_size (by repeat (first|(with_reducible first|exact HB.out|apply below_alloc|apply pw_below_drewN|apply below_drew1)|exact HB.out))) : w.heap.size ≤ gb1058));clear HB;have HB := n0_;have BK1058 := n1_;have GW1058 := n2_;have GE1058 := n3_;clear n0_ n1_ n2_ n3_;clear hb hbox hg)|((with_reducible refine gate_dst (N := 3) rfl ?_);refine box_event ?hg (N := 3) ?hd (cs := #[.bool a1_0, .int .i64 a1_1, .int .i64 a1_2, .int .i64 a1_3]) (t := 137) ?hr ?_;(case hd => rfl);(case hg => rfl);(case hr => first|(go_simp;done)|(go_simp;rfl));intro gb1059 hg w10 hbox hb;have n0_ := Aside0.mk (blk_below (g := gb1058) (o := .cells #[.bool a0_0, .int .i64 a0_1, .int .i64 a0_2, .int .i64 a0_3] 137 (0, 0)) (by (with_reducible repeat (first|refine blk_drewN ?_ _|refine blk_drew ?_|refine blk_alloc ?_ _));exact BK1058.out) hb);have n1_ := Aside0.mk (below_step (by repeat (first|(with_reducible first|exact HB.out|apply below_alloc|apply pw_below_drewN|apply below_drew1|refine below_set ?_ GE1058.out)|exact HB.out)) hb);have n2_ := Aside0.mk (hbox);have n3_ := Aside0.mk ((by rw [hg];exact (below_size (by repeat (first|(with_reducible first|exact HB.out|apply below_alloc|apply pw_below_drewN|apply below_drew1|refine below_set ?_ GE1058.out)|exact HB.out))) : w.heap.size ≤ gb1059));have n4_ := Aside0.mk ((by rw [hg];exact (below_size (by repeat (first|(with_reducible first|exact HB.out|apply below_alloc|apply pw_below_drewN|apply below_drew1|refine below_set ?_ GE1058.out)|exact HB.out))) : w.heap.size ≤ gb1059));have n5_ := Aside0.mk ((by rw [hg];exact Nat.ne_of_lt (blk_lt (g := gb1058) (o := .cells #[.bool a0_0, .int .i64 a0_1, .int .i64 a0_2, .int .i64 a0_3] 137 (0, 0)) (by (with_reducible repeat (first|refine blk_drewN ?_ _|refine blk_drew ?_|refine blk_alloc ?_ _));exact BK1058.out)) : gb1058 ≠ gb1059));have n6_ := Aside0.mk ((by rw [hg];exact Nat.ne_of_gt (blk_lt (g := gb1058) (o := .cells #[.bool a0_0, .int .i64 a0_1, .int .i64 a0_2, .int .i64 a0_3] 137 (0, 0)) (by (with_reducible repeat (first|refine blk_drewN ?_ _|refine blk_drew ?_|refine blk_alloc ?_ _));exact BK1058.out)) : gb1059 ≠ gb1058));clear BK1058;clear HB;have BK1058 := n0_;have HB := n1_;have BK1059 := n2_;have GW1059 := n3_;have GE1059 := n4_;have NB1058_1059 := n5_;have NB1059_1058 := n6_;clear n0_ n1_ n2_ n3_ n4_ n5_ n6_;clear hb hbox hg;have hnb11 := NB1058_1059.out;have hnc11 := NB1059_1058.out;have hcz12_0 : w10.cell? ⟨gb1058, 0, none⟩ = some (.bool a0_0) := (blk_cell BK1058.out 0).trans rfl;have hcz12_1 : w10.cell? ⟨gb1058, 1, none⟩ = some (.int .i64 a0_1) := (blk_cell BK1058.out 1).trans rfl;have hcz12_2 : w10.cell? ⟨gb1058, 2, none⟩ = some (.int .i64 a0_2) := (blk_cell BK1058.out 2).trans rfl;have hcz12_3 : w10.cell? ⟨gb1058, 3, none⟩ = some (.int .i64 a0_3) := (blk_cell BK1058.out 3).trans rfl;have hfz12_0 := blk_frozen BK1058.out 0;have hfz12_1 := blk_frozen BK1058.out 1;have hfz12_2 := blk_frozen BK1058.out 2;have hfz12_3 := blk_frozen BK1058.out 3;have hcz13_0 : w10.cell? ⟨gb1059, 0, none⟩ = some (.bool a1_0) := (blk_cell BK1059.out 0).trans rfl;have hcz13_1 : w10.cell? ⟨gb1059, 1, none⟩ = some (.int .i64 a1_1) := (blk_cell BK1059.out 1).trans rfl;have hcz13_2 : w10.cell? ⟨gb1059, 2, none⟩ = some (.int .i64 a1_2) := (blk_cell BK1059.out 2).trans rfl;have hcz13_3 : w10.cell? ⟨gb1059, 3, none⟩ = some (.int .i64 a1_3) := (blk_cell BK1059.out 3).trans rfl;have hfz13_0 := blk_frozen BK1059.out 0;have hfz13_1 := blk_frozen BK1059.out 1;have hfz13_2 := blk_frozen BK1059.out 2;have hfz13_3 := blk_frozen BK1059.out 3))
  go_ret
  exact ⟨by first|rfl|(simp [errW_none, errW_some] <;> rfl)|(simp [*, errW_none, errW_some] <;> rfl), by repeat (first|(with_reducible first|exact HB.out|apply below_alloc|apply pw_below_drewN|apply below_drew1|refine below_set ?_ GE1058.out|refine below_set ?_ GE1059.out)|exact HB.out)⟩

end Go.Proofs.Ytflddpkmajoeaaa.PP
