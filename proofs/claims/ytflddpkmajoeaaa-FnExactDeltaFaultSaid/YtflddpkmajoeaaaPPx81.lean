-- Laid by a program of this session's (wip/xprint.py) over the kit's print. Nothing in it is trusted: Lean checks it.
import Derived.Test.YtflddpkmajoeaaaPPx0
import Derived.Test.YtflddpkmajoeaaaPPx4
namespace Go.Proofs.Ytflddpkmajoeaaa.PP
open Go.RowKit Go.Proofs.YtflddpkmajoeaaaW.PrintWords Go.Proofs.YtflddpkmajoeaaaW.PrintLast Go.Proofs.YtflddpkmajoeaaaW.PrintMore
set_option maxHeartbeats 8000000
set_option maxRecDepth 100000
attribute [local go_sem] max2_int min2_int max_two min_two max_three min_three max_four min_four   -- for this text's walks alone
set_option linter.unusedVariables false
set_option linter.unusedSimpArgs false

/-! ### spec_l4Place: function 102 -/
def spec_l4Place.f (a0 : Int) : Option (Bool) := (spec_l1In.f a0 0 15).bind fun t907 => (some t907)
theorem spec_l4Place.calls (a0 : Int) (r : Bool) (w : World) (h : spec_l4Place.f a0 = some r) :
  Calls Try.prog 102 #[.int .i64 a0] w fun e w' => e = .returned (.bool r) ∧ Drawn0 w w' := by
 have H : ((spec_l1In.f a0 0 15).bind fun t907 => (some t907)) = some r := h
 clear h
 replace H := Option.bind_eq_some_iff.mp H
 obtain ⟨t907, A20, H⟩ := H
 replace H : (some t907) = some r := H
 have A2 := Aside0.mk A20
 clear A20
 obtain rfl := Option.some.inj H
 go_enter Try.func102, Try.ntmps102
 go_wp2_with (first|((with_reducible refine gate_callee (f := 53) rfl ?_);refine goesL_ (some 4) rfl rfl Try.func53 (by kernel_rfl) rfl #[.int .i64 a0, .int .i64 0, .int .i64 15] rfl (by (try simp only [List.map_toArray, List.map_cons, List.map_nil]);first|done|rfl|(simp only [List.length_drop, List.length_take];rfl)) ?_;(with_reducible refine (spec_l1In.calls a0 0 15 t907 _ A2.out).mono ?_);rintro e w' ⟨rfl, ⟨nd, rfl⟩⟩;refine ⟨_, rfl, ?_⟩))
 go_ret
 exact ⟨by first|rfl|(simp;done)|(simp [*];done), by repeat (first|exact Drawn0.refl _|apply Drawn0.step)⟩

/-! ### spec_l6Vol: function 160 -/
def spec_l6Vol.l0 : Nat → S41 → Int → Int → Option (Int)
 | 0, _, _, _ => none
 | k + 1, x0, x1, x5 => if x5 < (((rd_T41 [x0] 0).f1).length : Int) then (if 0 ≤ x5 then (if ((rd_T93 ((rd_T41 [x0] 0).f1) x5).f0) = x1 then (some x5) else (spec_l6Vol.l0 k x0 x1 (wrap64 (x5 + 1)))) else (none)) else (some (-1))
def spec_l6Vol.f (k : Nat) (xp0 : S41) (a1 : Int) : Option (Int) := spec_l6Vol.l0 k xp0 a1 0
theorem spec_l6Vol.mono_l : ∀ k, (∀ y0 y1 y2, LeO (spec_l6Vol.l0 k y0 y1 y2) (spec_l6Vol.l0 (k + 1) y0 y1 y2))
 | 0 => fun _ _ _ r h => by simp [spec_l6Vol.l0] at h
 | k + 1 => by
  have ih0 := spec_l6Vol.mono_l k
  · intro y0 y1 y2
   unfold spec_l6Vol.l0
   repeat' first
   | (with_reducible exact ih0 _ _ _)
   | (with_reducible exact LeO.refl _)
   | (with_reducible exact LeO.none _)
   | (with_reducible refine LeO.ite ?_ ?_)
   | (with_reducible refine LeO.bind ?_ (fun _ => ?_))
   | exact ih0 _ _ _
   | exact LeO.none _
   | refine LeO.ite ?_ ?_
   | refine LeO.bind ?_ (fun _ => ?_)
theorem spec_l6Vol.mono : ∀ a0 a1 k, LeO (spec_l6Vol.f k a0 a1) (spec_l6Vol.f (k + 1) a0 a1) := by
 intro a0 a1 k
 have ih0 := spec_l6Vol.mono_l k
 unfold spec_l6Vol.f
 repeat' first
   | (with_reducible exact ih0 _ _ _)
   | (with_reducible exact LeO.refl _)
   | (with_reducible exact LeO.none _)
   | (with_reducible refine LeO.ite ?_ ?_)
   | (with_reducible refine LeO.bind ?_ (fun _ => ?_))
   | exact ih0 _ _ _
   | exact LeO.none _
   | refine LeO.ite ?_ ?_
   | refine LeO.bind ?_ (fun _ => ?_)
theorem spec_l6Vol.calls (k : Nat) (adp0 : Addr) (xp0 : S41) (a1 : Int) (r : Int) (w : World) (hr0 : Kd.C k41 w (some adp0) 1 [xp0]) (h : spec_l6Vol.f k xp0 a1 = some r) :
  Calls Try.prog 160 #[.pointer (some adp0), .int .i64 a1] w fun e w' => e = .returned (.int .i64 r) ∧ Drawn0 w w' := by
 have HR0 := Aside0.mk hr0
 clear hr0
 have H : (spec_l6Vol.l0 k xp0 a1 0) = some r := h
 clear h
 have H' := Aside0.mk H
 clear H
 go_enter Try.func160, Try.ntmps160
 go_wp2
 go_loopg [5] k (fun kq v5 w' => ∃ (x5_1 : Int), v5 = .int .i64 x5_1 ∧ Aside0 (spec_l6Vol.l0 kq xp0 a1 x5_1 = some r) ∧ Aside0 (kq ≤ k) ∧ Drawn0 w w')
 case atStart => exact ⟨(0), (by first|rfl|(simp;done)|(simp [*];done)), H', ⟨Nat.le_refl _⟩, by repeat (first|exact Drawn0.refl _|apply Drawn0.step)⟩
 case round =>
  clear H'
  try clear c1
  try clear p2
  obtain ⟨x5_1, rfl, HA, HK1, ⟨m1, rfl⟩⟩ := hrel
  cases gk with
  | zero => exact absurd HA.out (by simp [spec_l6Vol.l0])
  | succ k1 =>
   have H := HA.out
   clear HA
   simp only [spec_l6Vol.l0] at H
   by_cases c3 : x5_1 < (((rd_T41 [xp0] 0).f1).length : Int)
   · rw [if_pos c3] at H
    have c3b0 : decide (x5_1 < (((rd_T41 [xp0] 0).f1).length : Int)) = true := decide_eq_true c3
    clear c3
    by_cases c4 : 0 ≤ x5_1
    · rw [if_pos c4] at H
     have c4b0 : decide (0 ≤ x5_1) = true := decide_eq_true c4
     clear c4
     by_cases c5 : ((rd_T93 ((rd_T41 [xp0] 0).f1) x5_1).f0) = a1
     · rw [if_pos c5] at H
      have c5b0 : (((rd_T93 ((rd_T41 [xp0] 0).f1) x5_1).f0) == a1) = true := beq_iff_eq.mpr c5
      have c5b1 : (((rd_T93 ((rd_T41 [xp0] 0).f1) x5_1).f0) != a1) = false := bne_eq_false_iff_eq.mpr c5
      clear c5
      obtain rfl := Option.some.inj H
      have p908 : 0 ≤ (0 : Int) := (by omega)
      have q908 : 0 < ([xp0].length : Int) := (by simp)
      obtain ⟨ad908, A908_1, c908_1, A908_2, c908_2, A908_3, c908_3, e908, hx908_0, hx908_1, hx908_2, hx908_3, hl908_1, hi908_1, hl908_2, hi908_2, hl908_3, hi908_3⟩ := at_T41 HR0.out 0 p908 q908
      obtain rfl : adp0 = ad908 := (by injection e908)
      (try rw [show ((0 : Int)).toNat = 0 from rfl] at hx908_0)
      (try rw [show 0 * 4 = 0 from rfl] at hx908_0)
      (try rw [Addr.add_zero'] at hx908_0)
      (try rw [show ((0 : Int)).toNat = 0 from rfl] at hx908_1)
      (try rw [show 0 * 4 = 0 from rfl] at hx908_1)
      (try rw [Addr.add_zero'] at hx908_1)
      (try rw [show ((0 : Int)).toNat = 0 from rfl] at hx908_2)
      (try rw [show 0 * 4 = 0 from rfl] at hx908_2)
      (try rw [Addr.add_zero'] at hx908_2)
      (try rw [show ((0 : Int)).toNat = 0 from rfl] at hx908_3)
      (try rw [show 0 * 4 = 0 from rfl] at hx908_3)
      (try rw [Addr.add_zero'] at hx908_3)
      have HR908_1 := Aside0.mk hi908_1
      have HC908_1 := Aside0.mk hl908_1
      clear hi908_1 hl908_1
      have HR908_2 := Aside0.mk hi908_2
      have HC908_2 := Aside0.mk hl908_2
      clear hi908_2 hl908_2
      have HR908_3 := Aside0.mk hi908_3
      have HC908_3 := Aside0.mk hl908_3
      clear hi908_3 hl908_3
      replace p908 := eq_true p908
      replace q908 := eq_true q908
      have p909 : 0 ≤ (x5_1 : Int) := of_decide_eq_true (by first|(with_reducible assumption)|assumption)
      have q909 : x5_1 < (((rd_T41 [xp0] 0).f1).length : Int) := of_decide_eq_true (by first|(with_reducible assumption)|assumption)
      obtain ⟨ad909, e909, hx909_0, hx909_1, hx909_2⟩ := at_T93 HR908_1.out x5_1 p909 q909
      cases e909
      replace p909 := eq_true p909
      replace q909 := eq_true q909
      go_wp2
      go_ret
      exact ⟨by first|rfl|(simp;done)|(simp [*];done), by repeat (first|exact Drawn0.refl _|apply Drawn0.step)⟩
     · rw [if_neg c5] at H
      have c5b0 : (((rd_T93 ((rd_T41 [xp0] 0).f1) x5_1).f0) == a1) = false := beq_eq_false_iff_ne.mpr c5
      have c5b1 : (((rd_T93 ((rd_T41 [xp0] 0).f1) x5_1).f0) != a1) = true := bne_iff_ne.mpr c5
      have H' := Aside0.mk H
      clear H
      have p908 : 0 ≤ (0 : Int) := (by omega)
      have q908 : 0 < ([xp0].length : Int) := (by simp)
      obtain ⟨ad908, A908_1, c908_1, A908_2, c908_2, A908_3, c908_3, e908, hx908_0, hx908_1, hx908_2, hx908_3, hl908_1, hi908_1, hl908_2, hi908_2, hl908_3, hi908_3⟩ := at_T41 HR0.out 0 p908 q908
      obtain rfl : adp0 = ad908 := (by injection e908)
      (try rw [show ((0 : Int)).toNat = 0 from rfl] at hx908_0)
      (try rw [show 0 * 4 = 0 from rfl] at hx908_0)
      (try rw [Addr.add_zero'] at hx908_0)
      (try rw [show ((0 : Int)).toNat = 0 from rfl] at hx908_1)
      (try rw [show 0 * 4 = 0 from rfl] at hx908_1)
      (try rw [Addr.add_zero'] at hx908_1)
      (try rw [show ((0 : Int)).toNat = 0 from rfl] at hx908_2)
      (try rw [show 0 * 4 = 0 from rfl] at hx908_2)
      (try rw [Addr.add_zero'] at hx908_2)
      (try rw [show ((0 : Int)).toNat = 0 from rfl] at hx908_3)
      (try rw [show 0 * 4 = 0 from rfl] at hx908_3)
      (try rw [Addr.add_zero'] at hx908_3)
      have HR908_1 := Aside0.mk hi908_1
      have HC908_1 := Aside0.mk hl908_1
      clear hi908_1 hl908_1
      have HR908_2 := Aside0.mk hi908_2
      have HC908_2 := Aside0.mk hl908_2
      clear hi908_2 hl908_2
      have HR908_3 := Aside0.mk hi908_3
      have HC908_3 := Aside0.mk hl908_3
      clear hi908_3 hl908_3
      replace p908 := eq_true p908
      replace q908 := eq_true q908
      have p909 : 0 ≤ (x5_1 : Int) := of_decide_eq_true (by first|(with_reducible assumption)|assumption)
      have q909 : x5_1 < (((rd_T41 [xp0] 0).f1).length : Int) := of_decide_eq_true (by first|(with_reducible assumption)|assumption)
      obtain ⟨ad909, e909, hx909_0, hx909_1, hx909_2⟩ := at_T93 HR908_1.out x5_1 p909 q909
      cases e909
      replace p909 := eq_true p909
      replace q909 := eq_true q909
      go_wp2
      go_roundg k1
      case measure => have := HK1.out;omega
      case rel => exact ⟨(wrap64 (x5_1 + 1)), (by first|rfl|(simp;done)|(simp [*];done)), H', ⟨by have := HK1.out;omega⟩, by repeat (first|exact Drawn0.refl _|apply Drawn0.step)⟩
    · rw [if_neg c4] at H
     exact absurd H (by simp)
   · rw [if_neg c3] at H
    have c3b0 : decide (x5_1 < (((rd_T41 [xp0] 0).f1).length : Int)) = false := decide_eq_false c3
    clear c3
    obtain rfl := Option.some.inj H
    have p908 : 0 ≤ (0 : Int) := (by omega)
    have q908 : 0 < ([xp0].length : Int) := (by simp)
    obtain ⟨ad908, A908_1, c908_1, A908_2, c908_2, A908_3, c908_3, e908, hx908_0, hx908_1, hx908_2, hx908_3, hl908_1, hi908_1, hl908_2, hi908_2, hl908_3, hi908_3⟩ := at_T41 HR0.out 0 p908 q908
    obtain rfl : adp0 = ad908 := (by injection e908)
    (try rw [show ((0 : Int)).toNat = 0 from rfl] at hx908_0)
    (try rw [show 0 * 4 = 0 from rfl] at hx908_0)
    (try rw [Addr.add_zero'] at hx908_0)
    (try rw [show ((0 : Int)).toNat = 0 from rfl] at hx908_1)
    (try rw [show 0 * 4 = 0 from rfl] at hx908_1)
    (try rw [Addr.add_zero'] at hx908_1)
    (try rw [show ((0 : Int)).toNat = 0 from rfl] at hx908_2)
    (try rw [show 0 * 4 = 0 from rfl] at hx908_2)
    (try rw [Addr.add_zero'] at hx908_2)
    (try rw [show ((0 : Int)).toNat = 0 from rfl] at hx908_3)
    (try rw [show 0 * 4 = 0 from rfl] at hx908_3)
    (try rw [Addr.add_zero'] at hx908_3)
    have HR908_1 := Aside0.mk hi908_1
    have HC908_1 := Aside0.mk hl908_1
    clear hi908_1 hl908_1
    have HR908_2 := Aside0.mk hi908_2
    have HC908_2 := Aside0.mk hl908_2
    clear hi908_2 hl908_2
    have HR908_3 := Aside0.mk hi908_3
    have HC908_3 := Aside0.mk hl908_3
    clear hi908_3 hl908_3
    replace p908 := eq_true p908
    replace q908 := eq_true q908
    go_wp2
    go_ret
    exact ⟨by first|rfl|(simp;done)|(simp [*];done), by repeat (first|exact Drawn0.refl _|apply Drawn0.step)⟩

end Go.Proofs.Ytflddpkmajoeaaa.PP
