-- Laid by a program of this session's (wip/xprint.py) over the kit's print. Nothing in it is trusted: Lean checks it.
import Derived.Test.YtflddpkmajoeaaaPPx0
namespace Go.Proofs.Ytflddpkmajoeaaa.PP
open Go.RowKit Go.Proofs.YtflddpkmajoeaaaW.PrintWords Go.Proofs.YtflddpkmajoeaaaW.PrintLast Go.Proofs.YtflddpkmajoeaaaW.PrintMore
set_option maxHeartbeats 8000000
set_option maxRecDepth 100000
attribute [local go_sem] max2_int min2_int max_two min_two max_three min_three max_four min_four   -- for this text's walks alone
set_option linter.unusedVariables false
set_option linter.unusedSimpArgs false

/-! ### spec_l4Leaf: function 166 -/
def spec_l4Leaf.f (xp0 : S55) (a1 : Int) (a2 : Int) : Option (Int) := if a1 < 0 then (some (-1)) else (if 0 ≤ a1 then (if a1 < (((rd_T55 [xp0] 0).f0).length : Int) then (if 0 ≤ (wrap64 (Int.tdiv a2 4)) then (if (wrap64 (Int.tdiv a2 4)) < (((rd_T105 ((rd_T55 [xp0] 0).f0) a1).f2).length : Int) then (some (rd ((rd_T105 ((rd_T55 [xp0] 0).f0) a1).f2) (wrap64 (Int.tdiv a2 4)))) else (none)) else (none)) else (none)) else (none))
theorem spec_l4Leaf.calls (adp0 : Addr) (xp0 : S55) (a1 : Int) (a2 : Int) (r : Int) (w : World) (hr0 : Kd.C k55 w (some adp0) 1 [xp0]) (h : spec_l4Leaf.f xp0 a1 a2 = some r) :
  Calls Try.prog 166 #[.pointer (some adp0), .int .i64 a1, .int .i64 a2] w fun e w' => e = .returned (.int .i64 r) ∧ Drawn0 w w' := by
 have HR0 := Aside0.mk hr0
 clear hr0
 have H : (if a1 < 0 then (some (-1)) else (if 0 ≤ a1 then (if a1 < (((rd_T55 [xp0] 0).f0).length : Int) then (if 0 ≤ (wrap64 (Int.tdiv a2 4)) then (if (wrap64 (Int.tdiv a2 4)) < (((rd_T105 ((rd_T55 [xp0] 0).f0) a1).f2).length : Int) then (some (rd ((rd_T105 ((rd_T55 [xp0] 0).f0) a1).f2) (wrap64 (Int.tdiv a2 4)))) else (none)) else (none)) else (none)) else (none))) = some r := h
 clear h
 by_cases c4 : a1 < 0
 · rw [if_pos c4] at H
  have c4b0 : decide (a1 < 0) = true := decide_eq_true c4
  clear c4
  obtain rfl := Option.some.inj H
  go_enter Try.func166, Try.ntmps166
  go_wp2
  go_ret
  exact ⟨by first|rfl|(simp;done)|(simp [*];done), by repeat (first|exact Drawn0.refl _|apply Drawn0.step)⟩
 · rw [if_neg c4] at H
  have c4b0 : decide (a1 < 0) = false := decide_eq_false c4
  clear c4
  by_cases c5 : 0 ≤ a1
  · rw [if_pos c5] at H
   have c5b0 : decide (0 ≤ a1) = true := decide_eq_true c5
   clear c5
   by_cases c6 : a1 < (((rd_T55 [xp0] 0).f0).length : Int)
   · rw [if_pos c6] at H
    have c6b0 : decide (a1 < (((rd_T55 [xp0] 0).f0).length : Int)) = true := decide_eq_true c6
    clear c6
    obtain ⟨ji7, hji7⟩ : ∃ j_ : Int, (wrap64 (Int.tdiv a2 4)) = j_ := ⟨_, rfl⟩
    replace H : (if 0 ≤ (ji7) then (if (ji7) < (((rd_T105 ((rd_T55 [xp0] 0).f0) a1).f2).length : Int) then (some (rd ((rd_T105 ((rd_T55 [xp0] 0).f0) a1).f2) (ji7))) else (none)) else (none)) = some r := by first|(rw [hji7] at H;exact H)|(simp only [hji7] at H ⊢;exact H)
    have hji7w : (IntKind.i64.wrap (Int.tdiv a2 4)) = ji7 := (i64_w _).trans hji7
    by_cases c8 : 0 ≤ (ji7)
    · rw [if_pos c8] at H
     have c8b0 : decide (0 ≤ (ji7)) = true := decide_eq_true c8
     clear c8
     by_cases c9 : (ji7) < (((rd_T105 ((rd_T55 [xp0] 0).f0) a1).f2).length : Int)
     · rw [if_pos c9] at H
      have c9b0 : decide ((ji7) < (((rd_T105 ((rd_T55 [xp0] 0).f0) a1).f2).length : Int)) = true := decide_eq_true c9
      clear c9
      obtain rfl := Option.some.inj H
      have p484 : 0 ≤ (0 : Int) := (by omega)
      have q484 : 0 < ([xp0].length : Int) := (by simp)
      obtain ⟨ad484, A484_0, c484_0, A484_1, c484_1, e484, hx484_0, hx484_1, hl484_0, hi484_0, hl484_1, hi484_1⟩ := at_T55 HR0.out 0 p484 q484
      obtain rfl : adp0 = ad484 := (by injection e484)
      (try rw [show ((0 : Int)).toNat = 0 from rfl] at hx484_0)
      (try rw [show 0 * 2 = 0 from rfl] at hx484_0)
      (try rw [Addr.add_zero'] at hx484_0)
      (try rw [show ((0 : Int)).toNat = 0 from rfl] at hx484_1)
      (try rw [show 0 * 2 = 0 from rfl] at hx484_1)
      (try rw [Addr.add_zero'] at hx484_1)
      have HR484_0 := Aside0.mk hi484_0
      have HC484_0 := Aside0.mk hl484_0
      clear hi484_0 hl484_0
      have HR484_1 := Aside0.mk hi484_1
      have HC484_1 := Aside0.mk hl484_1
      clear hi484_1 hl484_1
      replace p484 := eq_true p484
      replace q484 := eq_true q484
      have p485 : 0 ≤ (a1 : Int) := of_decide_eq_true (by first|(with_reducible assumption)|assumption)
      have q485 : a1 < (((rd_T55 [xp0] 0).f0).length : Int) := of_decide_eq_true (by first|(with_reducible assumption)|assumption)
      obtain ⟨ad485, A485_2, c485_2, e485, hx485_0, hx485_1, hx485_2, hl485_2, hi485_2⟩ := at_T105 HR484_0.out a1 p485 q485
      cases e485
      have HR485_2 := Aside0.mk hi485_2
      have HC485_2 := Aside0.mk hl485_2
      clear hi485_2 hl485_2
      replace p485 := eq_true p485
      replace q485 := eq_true q485
      have p486 : 0 ≤ ((ji7) : Int) := of_decide_eq_true (by first|(with_reducible assumption)|assumption)
      have q486 : (ji7) < (((rd_T105 ((rd_T55 [xp0] 0).f0) a1).f2).length : Int) := of_decide_eq_true (by first|(with_reducible assumption)|assumption)
      obtain ⟨ad486, e486, hx486_0⟩ := Kd.at_int HR485_2.out (ji7) p486 q486
      cases e486
      replace p486 := eq_true p486
      replace q486 := eq_true q486
      go_enter Try.func166, Try.ntmps166
      go_wp2
      go_ret
      exact ⟨by first|rfl|(simp;done)|(simp only [← hji7] <;> (first|rfl|simp))|(simp [*];done), by repeat (first|exact Drawn0.refl _|apply Drawn0.step)⟩
     · rw [if_neg c9] at H
      exact absurd H (by simp)
    · rw [if_neg c8] at H
     exact absurd H (by simp)
   · rw [if_neg c6] at H
    exact absurd H (by simp)
  · rw [if_neg c5] at H
   exact absurd H (by simp)

/-! ### spec_l4Block: function 159 -/
def spec_l4Block.f (xp0 : S55) (a1 : Int) (a2 : Int) : Option (Int) := (spec_l4Leaf.f xp0 a1 a2).bind fun t487 => (if t487 < 0 then (some (-1)) else (if 0 ≤ t487 then (if t487 < (((rd_T55 [xp0] 0).f0).length : Int) then (if 0 ≤ (Int.tmod a2 4) then (if (Int.tmod a2 4) < (((rd_T105 ((rd_T55 [xp0] 0).f0) t487).f2).length : Int) then (some (rd ((rd_T105 ((rd_T55 [xp0] 0).f0) t487).f2) (Int.tmod a2 4))) else (none)) else (none)) else (none)) else (none)))
theorem spec_l4Block.calls (adp0 : Addr) (xp0 : S55) (a1 : Int) (a2 : Int) (r : Int) (w : World) (hr0 : Kd.C k55 w (some adp0) 1 [xp0]) (h : spec_l4Block.f xp0 a1 a2 = some r) :
  Calls Try.prog 159 #[.pointer (some adp0), .int .i64 a1, .int .i64 a2] w fun e w' => e = .returned (.int .i64 r) ∧ Drawn0 w w' := by
 have HR0 := Aside0.mk hr0
 clear hr0
 have H : ((spec_l4Leaf.f xp0 a1 a2).bind fun t487 => (if t487 < 0 then (some (-1)) else (if 0 ≤ t487 then (if t487 < (((rd_T55 [xp0] 0).f0).length : Int) then (if 0 ≤ (Int.tmod a2 4) then (if (Int.tmod a2 4) < (((rd_T105 ((rd_T55 [xp0] 0).f0) t487).f2).length : Int) then (some (rd ((rd_T105 ((rd_T55 [xp0] 0).f0) t487).f2) (Int.tmod a2 4))) else (none)) else (none)) else (none)) else (none)))) = some r := h
 clear h
 replace H := Option.bind_eq_some_iff.mp H
 obtain ⟨t487, A40, H⟩ := H
 replace H : (if t487 < 0 then (some (-1)) else (if 0 ≤ t487 then (if t487 < (((rd_T55 [xp0] 0).f0).length : Int) then (if 0 ≤ (Int.tmod a2 4) then (if (Int.tmod a2 4) < (((rd_T105 ((rd_T55 [xp0] 0).f0) t487).f2).length : Int) then (some (rd ((rd_T105 ((rd_T55 [xp0] 0).f0) t487).f2) (Int.tmod a2 4))) else (none)) else (none)) else (none)) else (none))) = some r := H
 have A4 := Aside0.mk A40
 clear A40
 by_cases c5 : t487 < 0
 · rw [if_pos c5] at H
  have c5b0 : decide (t487 < 0) = true := decide_eq_true c5
  clear c5
  obtain rfl := Option.some.inj H
  go_enter Try.func159, Try.ntmps159
  go_wp2_with (first|((with_reducible refine gate_callee (f := 166) rfl ?_);refine goesL_ (some 11) rfl rfl Try.func166 (by kernel_rfl) rfl #[.pointer (some adp0), .int .i64 a1, .int .i64 a2] rfl (by (try simp only [List.map_toArray, List.map_cons, List.map_nil]);first|done|rfl|(simp only [List.length_drop, List.length_take];rfl)) ?_;(with_reducible refine (spec_l4Leaf.calls _ xp0 a1 a2 t487 _ ?side1 A4.out).mono ?_);(case side1 => repeat (first|exact HR0.out|(with_reducible refine Kd.C_alloc ?_ _)|(with_reducible refine Kd.C_drewN ?_ _)|(with_reducible refine Kd.C_drew ?_)));rintro e w' ⟨rfl, ⟨nd, rfl⟩⟩;refine ⟨_, rfl, ?_⟩))
  go_ret
  exact ⟨by first|rfl|(simp;done)|(simp [*];done), by repeat (first|exact Drawn0.refl _|apply Drawn0.step)⟩
 · rw [if_neg c5] at H
  have c5b0 : decide (t487 < 0) = false := decide_eq_false c5
  clear c5
  by_cases c6 : 0 ≤ t487
  · rw [if_pos c6] at H
   have c6b0 : decide (0 ≤ t487) = true := decide_eq_true c6
   clear c6
   by_cases c7 : t487 < (((rd_T55 [xp0] 0).f0).length : Int)
   · rw [if_pos c7] at H
    have c7b0 : decide (t487 < (((rd_T55 [xp0] 0).f0).length : Int)) = true := decide_eq_true c7
    clear c7
    obtain ⟨ji8, hji8⟩ : ∃ j_ : Int, (Int.tmod a2 4) = j_ := ⟨_, rfl⟩
    replace H : (if 0 ≤ (ji8) then (if (ji8) < (((rd_T105 ((rd_T55 [xp0] 0).f0) t487).f2).length : Int) then (some (rd ((rd_T105 ((rd_T55 [xp0] 0).f0) t487).f2) (ji8))) else (none)) else (none)) = some r := by first|(rw [hji8] at H;exact H)|(simp only [hji8] at H ⊢;exact H)
    (try rw [hji8] at A4)
    by_cases c9 : 0 ≤ (ji8)
    · rw [if_pos c9] at H
     have c9b0 : decide (0 ≤ (ji8)) = true := decide_eq_true c9
     clear c9
     by_cases c10 : (ji8) < (((rd_T105 ((rd_T55 [xp0] 0).f0) t487).f2).length : Int)
     · rw [if_pos c10] at H
      have c10b0 : decide ((ji8) < (((rd_T105 ((rd_T55 [xp0] 0).f0) t487).f2).length : Int)) = true := decide_eq_true c10
      clear c10
      obtain rfl := Option.some.inj H
      go_enter Try.func159, Try.ntmps159
      go_wp2_with (first|((with_reducible refine gate_callee (f := 166) rfl ?_);refine goesL_ (some 11) rfl rfl Try.func166 (by kernel_rfl) rfl #[.pointer (some adp0), .int .i64 a1, .int .i64 a2] rfl (by (try simp only [List.map_toArray, List.map_cons, List.map_nil]);first|done|rfl|(simp only [List.length_drop, List.length_take];rfl)) ?_;(with_reducible refine (spec_l4Leaf.calls _ xp0 a1 a2 t487 _ ?side1 A4.out).mono ?_);(case side1 => repeat (first|exact HR0.out|(with_reducible refine Kd.C_alloc ?_ _)|(with_reducible refine Kd.C_drewN ?_ _)|(with_reducible refine Kd.C_drew ?_)));rintro e w' ⟨rfl, ⟨nd, rfl⟩⟩;refine ⟨_, rfl, ?_⟩;have p488 : 0 ≤ (0 : Int) := (by omega);have q488 : 0 < ([xp0].length : Int) := (by simp);obtain ⟨ad488, A488_0, c488_0, A488_1, c488_1, e488, hx488_0, hx488_1, hl488_0, hi488_0, hl488_1, hi488_1⟩ := at_T55 HR0.out 0 p488 q488;obtain rfl : adp0 = ad488 := (by injection e488);(try rw [show ((0 : Int)).toNat = 0 from rfl] at hx488_0);(try rw [show 0 * 2 = 0 from rfl] at hx488_0);(try rw [Addr.add_zero'] at hx488_0);(try rw [show ((0 : Int)).toNat = 0 from rfl] at hx488_1);(try rw [show 0 * 2 = 0 from rfl] at hx488_1);(try rw [Addr.add_zero'] at hx488_1);have HR488_0 := Aside0.mk hi488_0;have HC488_0 := Aside0.mk hl488_0;clear hi488_0 hl488_0;have HR488_1 := Aside0.mk hi488_1;have HC488_1 := Aside0.mk hl488_1;clear hi488_1 hl488_1;replace p488 := eq_true p488;replace q488 := eq_true q488;have p489 : 0 ≤ (t487 : Int) := of_decide_eq_true (by first|(with_reducible assumption)|assumption);have q489 : t487 < (((rd_T55 [xp0] 0).f0).length : Int) := of_decide_eq_true (by first|(with_reducible assumption)|assumption);obtain ⟨ad489, A489_2, c489_2, e489, hx489_0, hx489_1, hx489_2, hl489_2, hi489_2⟩ := at_T105 HR488_0.out t487 p489 q489;cases e489;have HR489_2 := Aside0.mk hi489_2;have HC489_2 := Aside0.mk hl489_2;clear hi489_2 hl489_2;replace p489 := eq_true p489;replace q489 := eq_true q489;have p490 : 0 ≤ ((ji8) : Int) := of_decide_eq_true (by first|(with_reducible assumption)|assumption);have q490 : (ji8) < (((rd_T105 ((rd_T55 [xp0] 0).f0) t487).f2).length : Int) := of_decide_eq_true (by first|(with_reducible assumption)|assumption);obtain ⟨ad490, e490, hx490_0⟩ := Kd.at_int HR489_2.out (ji8) p490 q490;cases e490;replace p490 := eq_true p490;replace q490 := eq_true q490))
      go_ret
      exact ⟨by first|rfl|(simp;done)|(simp only [← hji8] <;> (first|rfl|simp))|(simp [*];done), by repeat (first|exact Drawn0.refl _|apply Drawn0.step)⟩
     · rw [if_neg c10] at H
      exact absurd H (by simp)
    · rw [if_neg c9] at H
     exact absurd H (by simp)
   · rw [if_neg c7] at H
    exact absurd H (by simp)
  · rw [if_neg c6] at H
   exact absurd H (by simp)

end Go.Proofs.Ytflddpkmajoeaaa.PP
