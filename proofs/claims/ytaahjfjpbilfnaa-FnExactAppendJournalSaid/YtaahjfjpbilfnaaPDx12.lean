-- Laid by a program of this session's (wip/xprint.py) over the kit's print. Nothing in it is trusted: Lean checks it.
import Derived.Test.YtaahjfjpbilfnaaPDx0
import Derived.Test.YtaahjfjpbilfnaaPDx11
namespace Go.Proofs.Ytaahjfjpbilfnaa.PD
open Go.RowKit Go.Proofs.YtaahjfjpbilfnaaW.PrintWords Go.Proofs.YtaahjfjpbilfnaaW.PrintLast Go.Proofs.YtaahjfjpbilfnaaW.PrintMore
set_option maxHeartbeats 8000000
set_option maxRecDepth 100000
attribute [local go_sem] max2_int min2_int max_two min_two max_three min_three max_four min_four   -- for this text's walks alone
set_option linter.unusedVariables false
set_option linter.unusedSimpArgs false

/-! ### spec_l1Fault: function 68 -/
mutual
def spec_l1Fault.l0 : Nat → S30 → Int → Option (Int)
 | 0, _, _ => none
 | k + 1, x0, x3 => if x3 < (((rd_T30 [x0] 0).f0).length : Int) then (if 0 ≤ x3 then ((spec_l1Word.f (rd ((rd_T30 [x0] 0).f0) x3)).bind fun t167 => (if t167 = true then (spec_l1Fault.l0 k x0 (wrap64 (x3 + 1))) else (some 3))) else (none)) else (spec_l1Fault.l1 k x0 0)
def spec_l1Fault.l1 : Nat → S30 → Int → Option (Int)
 | 0, _, _ => none
 | k + 1, x0, x4 => if x4 < (((rd_T30 [x0] 0).f1).length : Int) then (if 0 ≤ x4 then ((spec_l1Place.f ((rd_T53 ((rd_T30 [x0] 0).f1) x4).f0)).bind fun t170 => (if t170 = true then ((spec_l1Word.f ((rd_T53 ((rd_T30 [x0] 0).f1) x4).f1)).bind fun t172 => (if t172 = true then (spec_l1Fault.l1 k x0 (wrap64 (x4 + 1))) else (some 3))) else (some 3))) else (none)) else (some 0)
end
def spec_l1Fault.f (k : Nat) (xp0 : S30) : Option (Int) := if (((rd_T30 [xp0] 0).f0).length : Int) = 64 then (if (((rd_T30 [xp0] 0).f1).length : Int) > 200 then (some 2) else (spec_l1Fault.l0 k xp0 0)) else (some 1)
theorem spec_l1Fault.mono_l : ∀ k, (∀ y0 y1, LeO (spec_l1Fault.l0 k y0 y1) (spec_l1Fault.l0 (k + 1) y0 y1)) ∧ (∀ y0 y1, LeO (spec_l1Fault.l1 k y0 y1) (spec_l1Fault.l1 (k + 1) y0 y1))
 | 0 => ⟨fun _ _ r h => by simp [spec_l1Fault.l0] at h, fun _ _ r h => by simp [spec_l1Fault.l1] at h⟩
 | k + 1 => by
  obtain ⟨ih0, ih1⟩ := spec_l1Fault.mono_l k
  refine ⟨?_, ?_⟩
  ·
   intro y0 y1
   unfold spec_l1Fault.l0
   repeat' first
   | (with_reducible exact ih0 _ _)
   | (with_reducible exact ih1 _ _)
   | (with_reducible exact LeO.refl _)
   | (with_reducible exact LeO.none _)
   | (with_reducible refine LeO.ite ?_ ?_)
   | (with_reducible refine LeO.bind ?_ (fun _ => ?_))
   | exact ih0 _ _
   | exact ih1 _ _
   | exact LeO.none _
   | refine LeO.ite ?_ ?_
   | refine LeO.bind ?_ (fun _ => ?_)
  ·
   intro y0 y1
   unfold spec_l1Fault.l1
   repeat' first
   | (with_reducible exact ih0 _ _)
   | (with_reducible exact ih1 _ _)
   | (with_reducible exact LeO.refl _)
   | (with_reducible exact LeO.none _)
   | (with_reducible refine LeO.ite ?_ ?_)
   | (with_reducible refine LeO.bind ?_ (fun _ => ?_))
   | exact ih0 _ _
   | exact ih1 _ _
   | exact LeO.none _
   | refine LeO.ite ?_ ?_
   | refine LeO.bind ?_ (fun _ => ?_)
theorem spec_l1Fault.mono : ∀ a0 k, LeO (spec_l1Fault.f k a0) (spec_l1Fault.f (k + 1) a0) := by
 intro a0 k
 obtain ⟨ih0, ih1⟩ := spec_l1Fault.mono_l k
 unfold spec_l1Fault.f
 repeat' first
   | (with_reducible exact ih0 _ _)
   | (with_reducible exact ih1 _ _)
   | (with_reducible exact LeO.refl _)
   | (with_reducible exact LeO.none _)
   | (with_reducible refine LeO.ite ?_ ?_)
   | (with_reducible refine LeO.bind ?_ (fun _ => ?_))
   | exact ih0 _ _
   | exact ih1 _ _
   | exact LeO.none _
   | refine LeO.ite ?_ ?_
   | refine LeO.bind ?_ (fun _ => ?_)
theorem spec_l1Fault.calls (k : Nat) (adp0 : Addr) (xp0 : S30) (r : Int) (w : World) (hr0 : Kd.C k30 w (some adp0) 1 [xp0]) (h : spec_l1Fault.f k xp0 = some r) :
  Calls Try.prog 68 #[.pointer (some adp0)] w fun e w' => e = .returned (.int .i64 r) ∧ Drawn0 w w' := by
 have HR0 := Aside0.mk hr0
 clear hr0
 have H : (if (((rd_T30 [xp0] 0).f0).length : Int) = 64 then (if (((rd_T30 [xp0] 0).f1).length : Int) > 200 then (some 2) else (spec_l1Fault.l0 k xp0 0)) else (some 1)) = some r := h
 clear h
 by_cases c2 : (((rd_T30 [xp0] 0).f0).length : Int) = 64
 ·
  rw [if_pos c2] at H
  have c2b0 : ((((rd_T30 [xp0] 0).f0).length : Int) == 64) = true := beq_iff_eq.mpr c2
  have c2b1 : ((((rd_T30 [xp0] 0).f0).length : Int) != 64) = false := bne_eq_false_iff_eq.mpr c2
  clear c2
  by_cases c3 : (((rd_T30 [xp0] 0).f1).length : Int) > 200
  ·
   rw [if_pos c3] at H
   have c3b0 : decide (200 < (((rd_T30 [xp0] 0).f1).length : Int)) = true := decide_eq_true c3
   have c3b1 : decide (200 < ((rd_T30 [xp0] 0).f1).length) = true := decide_eq_true (by omega)
   clear c3
   obtain rfl := Option.some.inj H
   have p164 : 0 ≤ (0 : Int) := (by omega)
   have q164 : 0 < ([xp0].length : Int) := (by simp)
   obtain ⟨ad164, A164_0, c164_0, A164_1, c164_1, e164, hx164_0, hx164_1, hl164_0, hi164_0, hl164_1, hi164_1⟩ := at_T30 HR0.out 0 p164 q164
   obtain rfl : adp0 = ad164 := (by injection e164)
   (try rw [show ((0 : Int)).toNat = 0 from rfl] at hx164_0)
   (try rw [show 0 * 2 = 0 from rfl] at hx164_0)
   (try rw [Addr.add_zero'] at hx164_0)
   (try rw [show ((0 : Int)).toNat = 0 from rfl] at hx164_1)
   (try rw [show 0 * 2 = 0 from rfl] at hx164_1)
   (try rw [Addr.add_zero'] at hx164_1)
   have HR164_0 := Aside0.mk hi164_0
   have HC164_0 := Aside0.mk hl164_0
   clear hi164_0 hl164_0
   have HR164_1 := Aside0.mk hi164_1
   have HC164_1 := Aside0.mk hl164_1
   clear hi164_1 hl164_1
   replace p164 := eq_true p164
   replace q164 := eq_true q164
   go_enter Try.func68, Try.ntmps68
   go_wp2
   go_ret
   exact ⟨by first|rfl|(simp;done)|(simp [*];done), by repeat (first|exact Drawn0.refl _|apply Drawn0.step)⟩
  ·
   rw [if_neg c3] at H
   have c3b0 : decide (200 < (((rd_T30 [xp0] 0).f1).length : Int)) = false := decide_eq_false c3
   have c3b1 : decide (200 < ((rd_T30 [xp0] 0).f1).length) = false := decide_eq_false (by omega)
   clear c3
   have H' := Aside0.mk H
   clear H
   have p164 : 0 ≤ (0 : Int) := (by omega)
   have q164 : 0 < ([xp0].length : Int) := (by simp)
   obtain ⟨ad164, A164_0, c164_0, A164_1, c164_1, e164, hx164_0, hx164_1, hl164_0, hi164_0, hl164_1, hi164_1⟩ := at_T30 HR0.out 0 p164 q164
   obtain rfl : adp0 = ad164 := (by injection e164)
   (try rw [show ((0 : Int)).toNat = 0 from rfl] at hx164_0)
   (try rw [show 0 * 2 = 0 from rfl] at hx164_0)
   (try rw [Addr.add_zero'] at hx164_0)
   (try rw [show ((0 : Int)).toNat = 0 from rfl] at hx164_1)
   (try rw [show 0 * 2 = 0 from rfl] at hx164_1)
   (try rw [Addr.add_zero'] at hx164_1)
   have HR164_0 := Aside0.mk hi164_0
   have HC164_0 := Aside0.mk hl164_0
   clear hi164_0 hl164_0
   have HR164_1 := Aside0.mk hi164_1
   have HC164_1 := Aside0.mk hl164_1
   clear hi164_1 hl164_1
   replace p164 := eq_true p164
   replace q164 := eq_true q164
   go_enter Try.func68, Try.ntmps68
   go_wp2
   go_loopg [3] k (fun kq v3 w' => ∃ (x3_1 : Int), v3 = .int .i64 x3_1 ∧ Aside0 (spec_l1Fault.l0 kq xp0 x3_1 = some r) ∧ Aside0 (kq ≤ k) ∧ Drawn0 w w')
   case atStart => exact ⟨(0), (by first|rfl|(simp;done)|(simp [*];done)), H', ⟨Nat.le_refl _⟩, by repeat (first|exact Drawn0.refl _|apply Drawn0.step)⟩
   case round =>
    clear H'
    try clear c1
    try clear p1
    try clear q1
    try clear hx1
    try clear c2
    try clear c2b0
    try clear c2b1
    try clear p2
    try clear c3
    try clear c3b0
    try clear c3b1
    try clear hx164_0
    try clear hx164_1
    try clear p164
    try clear q164
    obtain ⟨x3_1, rfl, HA, HK1, ⟨m1, rfl⟩⟩ := hrel
    cases gk with
    | zero => exact absurd HA.out (by simp [spec_l1Fault.l0])
    | succ k1 =>
     have H := HA.out
     clear HA
     simp only [spec_l1Fault.l0] at H
     by_cases c4 : x3_1 < (((rd_T30 [xp0] 0).f0).length : Int)
     ·
      rw [if_pos c4] at H
      have c4b0 : decide (x3_1 < (((rd_T30 [xp0] 0).f0).length : Int)) = true := decide_eq_true c4
      clear c4
      by_cases c5 : 0 ≤ x3_1
      ·
       rw [if_pos c5] at H
       have c5b0 : decide (0 ≤ x3_1) = true := decide_eq_true c5
       clear c5
       replace H := Option.bind_eq_some_iff.mp H
       obtain ⟨t167, A60, H⟩ := H
       replace H : (if t167 = true then (spec_l1Fault.l0 k1 xp0 (wrap64 (x3_1 + 1))) else (some 3)) = some r := H
       have A6 := Aside0.mk A60
       clear A60
       by_cases c7 : t167 = true
       ·
        subst c7
        have H1 : (spec_l1Fault.l0 k1 xp0 (wrap64 (x3_1 + 1))) = some r := by rw [if_pos rfl] at H;exact H
        clear H
        have H := H1
        clear H1
        have H' := Aside0.mk H
        clear H
        have p165 : 0 ≤ (0 : Int) := (by omega)
        have q165 : 0 < ([xp0].length : Int) := (by simp)
        obtain ⟨ad165, A165_0, c165_0, A165_1, c165_1, e165, hx165_0, hx165_1, hl165_0, hi165_0, hl165_1, hi165_1⟩ := at_T30 HR0.out 0 p165 q165
        obtain rfl : adp0 = ad165 := (by injection e165)
        (try rw [show ((0 : Int)).toNat = 0 from rfl] at hx165_0)
        (try rw [show 0 * 2 = 0 from rfl] at hx165_0)
        (try rw [Addr.add_zero'] at hx165_0)
        (try rw [show ((0 : Int)).toNat = 0 from rfl] at hx165_1)
        (try rw [show 0 * 2 = 0 from rfl] at hx165_1)
        (try rw [Addr.add_zero'] at hx165_1)
        have HR165_0 := Aside0.mk hi165_0
        have HC165_0 := Aside0.mk hl165_0
        clear hi165_0 hl165_0
        have HR165_1 := Aside0.mk hi165_1
        have HC165_1 := Aside0.mk hl165_1
        clear hi165_1 hl165_1
        replace p165 := eq_true p165
        replace q165 := eq_true q165
        have p166 : 0 ≤ (x3_1 : Int) := of_decide_eq_true (by first|(with_reducible assumption)|assumption)
        have q166 : x3_1 < (((rd_T30 [xp0] 0).f0).length : Int) := of_decide_eq_true (by first|(with_reducible assumption)|assumption)
        obtain ⟨ad166, e166, hx166_0⟩ := Kd.at_int HR165_0.out x3_1 p166 q166
        cases e166
        replace p166 := eq_true p166
        replace q166 := eq_true q166
        go_wp2_with (first|((with_reducible refine gate_callee (f := 90) rfl ?_);refine goesL_ (some 33) rfl rfl Try.func90 (by kernel_rfl) rfl #[.int .i64 (rd ((rd_T30 [xp0] 0).f0) x3_1)] rfl (by (try simp only [List.map_toArray, List.map_cons, List.map_nil]);first|done|rfl|(simp only [List.length_drop, List.length_take];rfl)) ?_;(with_reducible refine (spec_l1Word.calls (rd ((rd_T30 [xp0] 0).f0) x3_1) true _ A6.out).mono ?_);rintro e w' ⟨rfl, ⟨nd, rfl⟩⟩;refine ⟨_, rfl, ?_⟩))
        go_roundg k1
        case measure => have := HK1.out;omega
        case rel => exact ⟨(wrap64 (x3_1 + 1)), (by first|rfl|(simp;done)|(simp [*];done)), H', ⟨by have := HK1.out;omega⟩, by repeat (first|exact Drawn0.refl _|apply Drawn0.step)⟩
       ·
        replace c7 := Bool.eq_false_iff.mpr c7
        subst c7
        have H1 : (some 3) = some r := by rw [if_neg (show ¬ (false = true) by decide)] at H;exact H
        clear H
        have H := H1
        clear H1
        obtain rfl := Option.some.inj H
        have p165 : 0 ≤ (0 : Int) := (by omega)
        have q165 : 0 < ([xp0].length : Int) := (by simp)
        obtain ⟨ad165, A165_0, c165_0, A165_1, c165_1, e165, hx165_0, hx165_1, hl165_0, hi165_0, hl165_1, hi165_1⟩ := at_T30 HR0.out 0 p165 q165
        obtain rfl : adp0 = ad165 := (by injection e165)
        (try rw [show ((0 : Int)).toNat = 0 from rfl] at hx165_0)
        (try rw [show 0 * 2 = 0 from rfl] at hx165_0)
        (try rw [Addr.add_zero'] at hx165_0)
        (try rw [show ((0 : Int)).toNat = 0 from rfl] at hx165_1)
        (try rw [show 0 * 2 = 0 from rfl] at hx165_1)
        (try rw [Addr.add_zero'] at hx165_1)
        have HR165_0 := Aside0.mk hi165_0
        have HC165_0 := Aside0.mk hl165_0
        clear hi165_0 hl165_0
        have HR165_1 := Aside0.mk hi165_1
        have HC165_1 := Aside0.mk hl165_1
        clear hi165_1 hl165_1
        replace p165 := eq_true p165
        replace q165 := eq_true q165
        have p166 : 0 ≤ (x3_1 : Int) := of_decide_eq_true (by first|(with_reducible assumption)|assumption)
        have q166 : x3_1 < (((rd_T30 [xp0] 0).f0).length : Int) := of_decide_eq_true (by first|(with_reducible assumption)|assumption)
        obtain ⟨ad166, e166, hx166_0⟩ := Kd.at_int HR165_0.out x3_1 p166 q166
        cases e166
        replace p166 := eq_true p166
        replace q166 := eq_true q166
        go_wp2_with (first|((with_reducible refine gate_callee (f := 90) rfl ?_);refine goesL_ (some 33) rfl rfl Try.func90 (by kernel_rfl) rfl #[.int .i64 (rd ((rd_T30 [xp0] 0).f0) x3_1)] rfl (by (try simp only [List.map_toArray, List.map_cons, List.map_nil]);first|done|rfl|(simp only [List.length_drop, List.length_take];rfl)) ?_;(with_reducible refine (spec_l1Word.calls (rd ((rd_T30 [xp0] 0).f0) x3_1) false _ A6.out).mono ?_);rintro e w' ⟨rfl, ⟨nd, rfl⟩⟩;refine ⟨_, rfl, ?_⟩))
        go_ret
        exact ⟨by first|rfl|(simp;done)|(simp [*];done), by repeat (first|exact Drawn0.refl _|apply Drawn0.step)⟩
      ·
       rw [if_neg c5] at H
       exact absurd H (by simp)
     ·
      rw [if_neg c4] at H
      have c4b0 : decide (x3_1 < (((rd_T30 [xp0] 0).f0).length : Int)) = false := decide_eq_false c4
      clear c4
      have H' := Aside0.mk H
      clear H
      have p165 : 0 ≤ (0 : Int) := (by omega)
      have q165 : 0 < ([xp0].length : Int) := (by simp)
      obtain ⟨ad165, A165_0, c165_0, A165_1, c165_1, e165, hx165_0, hx165_1, hl165_0, hi165_0, hl165_1, hi165_1⟩ := at_T30 HR0.out 0 p165 q165
      obtain rfl : adp0 = ad165 := (by injection e165)
      (try rw [show ((0 : Int)).toNat = 0 from rfl] at hx165_0)
      (try rw [show 0 * 2 = 0 from rfl] at hx165_0)
      (try rw [Addr.add_zero'] at hx165_0)
      (try rw [show ((0 : Int)).toNat = 0 from rfl] at hx165_1)
      (try rw [show 0 * 2 = 0 from rfl] at hx165_1)
      (try rw [Addr.add_zero'] at hx165_1)
      have HR165_0 := Aside0.mk hi165_0
      have HC165_0 := Aside0.mk hl165_0
      clear hi165_0 hl165_0
      have HR165_1 := Aside0.mk hi165_1
      have HC165_1 := Aside0.mk hl165_1
      clear hi165_1 hl165_1
      replace p165 := eq_true p165
      replace q165 := eq_true q165
      go_wp2
      go_loopg [4] k1 (fun kq v4 w' => ∃ (x4_2 : Int), v4 = .int .i64 x4_2 ∧ Aside0 (spec_l1Fault.l1 kq xp0 x4_2 = some r) ∧ Aside0 (kq ≤ k1) ∧ Drawn0 w w')
      case atStart => exact ⟨(0), (by first|rfl|(simp;done)|(simp [*];done)), H', ⟨Nat.le_refl _⟩, by repeat (first|exact Drawn0.refl _|apply Drawn0.step)⟩
      case round =>
       clear H'
       try clear c1
       try clear p1
       try clear q1
       try clear hx1
       try clear c2
       try clear c2b0
       try clear c2b1
       try clear p2
       try clear c3
       try clear c3b0
       try clear c3b1
       try clear c4
       try clear c4b0
       try clear c5
       try clear c5b0
       try clear c6
       try clear p6
       try clear c7
       try clear hx164_0
       try clear hx164_1
       try clear hx165_0
       try clear hx165_1
       try clear hx166_0
       try clear p1
       try clear p164
       try clear p165
       try clear p166
       try clear p2
       try clear q1
       try clear q164
       try clear q165
       try clear q166
       obtain ⟨x4_2, rfl, HA, HK2, ⟨m2, rfl⟩⟩ := hrel
       cases gk with
       | zero => exact absurd HA.out (by simp [spec_l1Fault.l1])
       | succ k2 =>
        have H := HA.out
        clear HA
        simp only [spec_l1Fault.l1] at H
        by_cases c8 : x4_2 < (((rd_T30 [xp0] 0).f1).length : Int)
        ·
         rw [if_pos c8] at H
         have c8b0 : decide (x4_2 < (((rd_T30 [xp0] 0).f1).length : Int)) = true := decide_eq_true c8
         clear c8
         by_cases c9 : 0 ≤ x4_2
         ·
          rw [if_pos c9] at H
          have c9b0 : decide (0 ≤ x4_2) = true := decide_eq_true c9
          clear c9
          replace H := Option.bind_eq_some_iff.mp H
          obtain ⟨t170, A100, H⟩ := H
          replace H : (if t170 = true then ((spec_l1Word.f ((rd_T53 ((rd_T30 [xp0] 0).f1) x4_2).f1)).bind fun t172 => (if t172 = true then (spec_l1Fault.l1 k2 xp0 (wrap64 (x4_2 + 1))) else (some 3))) else (some 3)) = some r := H
          have A10 := Aside0.mk A100
          clear A100
          by_cases c11 : t170 = true
          ·
           subst c11
           have H1 : ((spec_l1Word.f ((rd_T53 ((rd_T30 [xp0] 0).f1) x4_2).f1)).bind fun t172 => (if t172 = true then (spec_l1Fault.l1 k2 xp0 (wrap64 (x4_2 + 1))) else (some 3))) = some r := by rw [if_pos rfl] at H;exact H
           clear H
           have H := H1
           clear H1
           replace H := Option.bind_eq_some_iff.mp H
           obtain ⟨t172, A120, H⟩ := H
           replace H : (if t172 = true then (spec_l1Fault.l1 k2 xp0 (wrap64 (x4_2 + 1))) else (some 3)) = some r := H
           have A12 := Aside0.mk A120
           clear A120
           by_cases c13 : t172 = true
           ·
            subst c13
            have H1 : (spec_l1Fault.l1 k2 xp0 (wrap64 (x4_2 + 1))) = some r := by rw [if_pos rfl] at H;exact H
            clear H
            have H := H1
            clear H1
            have H' := Aside0.mk H
            clear H
            have p168 : 0 ≤ (0 : Int) := (by omega)
            have q168 : 0 < ([xp0].length : Int) := (by simp)
            obtain ⟨ad168, A168_0, c168_0, A168_1, c168_1, e168, hx168_0, hx168_1, hl168_0, hi168_0, hl168_1, hi168_1⟩ := at_T30 HR0.out 0 p168 q168
            obtain rfl : adp0 = ad168 := (by injection e168)
            (try rw [show ((0 : Int)).toNat = 0 from rfl] at hx168_0)
            (try rw [show 0 * 2 = 0 from rfl] at hx168_0)
            (try rw [Addr.add_zero'] at hx168_0)
            (try rw [show ((0 : Int)).toNat = 0 from rfl] at hx168_1)
            (try rw [show 0 * 2 = 0 from rfl] at hx168_1)
            (try rw [Addr.add_zero'] at hx168_1)
            have HR168_0 := Aside0.mk hi168_0
            have HC168_0 := Aside0.mk hl168_0
            clear hi168_0 hl168_0
            have HR168_1 := Aside0.mk hi168_1
            have HC168_1 := Aside0.mk hl168_1
            clear hi168_1 hl168_1
            replace p168 := eq_true p168
            replace q168 := eq_true q168
            have p169 : 0 ≤ (x4_2 : Int) := of_decide_eq_true (by first|(with_reducible assumption)|assumption)
            have q169 : x4_2 < (((rd_T30 [xp0] 0).f1).length : Int) := of_decide_eq_true (by first|(with_reducible assumption)|assumption)
            obtain ⟨ad169, e169, hx169_0, hx169_1⟩ := at_T53 HR168_1.out x4_2 p169 q169
            cases e169
            replace p169 := eq_true p169
            replace q169 := eq_true q169
            go_wp2_with (first|((with_reducible refine gate_callee (f := 76) rfl ?_);refine goesL_ (some 52) rfl rfl Try.func76 (by kernel_rfl) rfl #[.int .i64 ((rd_T53 ((rd_T30 [xp0] 0).f1) x4_2).f0)] rfl (by (try simp only [List.map_toArray, List.map_cons, List.map_nil]);first|done|rfl|(simp only [List.length_drop, List.length_take];rfl)) ?_;(with_reducible refine (spec_l1Place.calls ((rd_T53 ((rd_T30 [xp0] 0).f1) x4_2).f0) true _ A10.out).mono ?_);rintro e w' ⟨rfl, ⟨nd, rfl⟩⟩;refine ⟨_, rfl, ?_⟩;have p171 : 0 ≤ (x4_2 : Int) := of_decide_eq_true (by first|(with_reducible assumption)|assumption);have q171 : x4_2 < (((rd_T30 [xp0] 0).f1).length : Int) := of_decide_eq_true (by first|(with_reducible assumption)|assumption);obtain ⟨ad171, e171, hx171_0, hx171_1⟩ := at_T53 HR168_1.out x4_2 p171 q171;obtain rfl : ad169 = ad171 := (by injection e171);replace p171 := eq_true p171;replace q171 := eq_true q171)|(go_at_call 90;(with_reducible refine (spec_l1Word.calls ((rd_T53 ((rd_T30 [xp0] 0).f1) x4_2).f1) true _ A12.out).mono ?_);rintro e w' ⟨rfl, ⟨nd, rfl⟩⟩))
            go_roundg k2
            case measure => have := HK1.out;have := HK2.out;omega
            case rel => exact ⟨(wrap64 (x4_2 + 1)), (by first|rfl|(simp;done)|(simp [*];done)), H', ⟨by have := HK1.out;have := HK2.out;omega⟩, by repeat (first|exact Drawn0.refl _|apply Drawn0.step)⟩
           ·
            replace c13 := Bool.eq_false_iff.mpr c13
            subst c13
            have H1 : (some 3) = some r := by rw [if_neg (show ¬ (false = true) by decide)] at H;exact H
            clear H
            have H := H1
            clear H1
            obtain rfl := Option.some.inj H
            have p168 : 0 ≤ (0 : Int) := (by omega)
            have q168 : 0 < ([xp0].length : Int) := (by simp)
            obtain ⟨ad168, A168_0, c168_0, A168_1, c168_1, e168, hx168_0, hx168_1, hl168_0, hi168_0, hl168_1, hi168_1⟩ := at_T30 HR0.out 0 p168 q168
            obtain rfl : adp0 = ad168 := (by injection e168)
            (try rw [show ((0 : Int)).toNat = 0 from rfl] at hx168_0)
            (try rw [show 0 * 2 = 0 from rfl] at hx168_0)
            (try rw [Addr.add_zero'] at hx168_0)
            (try rw [show ((0 : Int)).toNat = 0 from rfl] at hx168_1)
            (try rw [show 0 * 2 = 0 from rfl] at hx168_1)
            (try rw [Addr.add_zero'] at hx168_1)
            have HR168_0 := Aside0.mk hi168_0
            have HC168_0 := Aside0.mk hl168_0
            clear hi168_0 hl168_0
            have HR168_1 := Aside0.mk hi168_1
            have HC168_1 := Aside0.mk hl168_1
            clear hi168_1 hl168_1
            replace p168 := eq_true p168
            replace q168 := eq_true q168
            have p169 : 0 ≤ (x4_2 : Int) := of_decide_eq_true (by first|(with_reducible assumption)|assumption)
            have q169 : x4_2 < (((rd_T30 [xp0] 0).f1).length : Int) := of_decide_eq_true (by first|(with_reducible assumption)|assumption)
            obtain ⟨ad169, e169, hx169_0, hx169_1⟩ := at_T53 HR168_1.out x4_2 p169 q169
            cases e169
            replace p169 := eq_true p169
            replace q169 := eq_true q169
            go_wp2_with (first|((with_reducible refine gate_callee (f := 76) rfl ?_);refine goesL_ (some 52) rfl rfl Try.func76 (by kernel_rfl) rfl #[.int .i64 ((rd_T53 ((rd_T30 [xp0] 0).f1) x4_2).f0)] rfl (by (try simp only [List.map_toArray, List.map_cons, List.map_nil]);first|done|rfl|(simp only [List.length_drop, List.length_take];rfl)) ?_;(with_reducible refine (spec_l1Place.calls ((rd_T53 ((rd_T30 [xp0] 0).f1) x4_2).f0) true _ A10.out).mono ?_);rintro e w' ⟨rfl, ⟨nd, rfl⟩⟩;refine ⟨_, rfl, ?_⟩;have p171 : 0 ≤ (x4_2 : Int) := of_decide_eq_true (by first|(with_reducible assumption)|assumption);have q171 : x4_2 < (((rd_T30 [xp0] 0).f1).length : Int) := of_decide_eq_true (by first|(with_reducible assumption)|assumption);obtain ⟨ad171, e171, hx171_0, hx171_1⟩ := at_T53 HR168_1.out x4_2 p171 q171;obtain rfl : ad169 = ad171 := (by injection e171);replace p171 := eq_true p171;replace q171 := eq_true q171)|(go_at_call 90;(with_reducible refine (spec_l1Word.calls ((rd_T53 ((rd_T30 [xp0] 0).f1) x4_2).f1) false _ A12.out).mono ?_);rintro e w' ⟨rfl, ⟨nd, rfl⟩⟩))
            go_ret
            exact ⟨by first|rfl|(simp;done)|(simp [*];done), by repeat (first|exact Drawn0.refl _|apply Drawn0.step)⟩
          ·
           replace c11 := Bool.eq_false_iff.mpr c11
           subst c11
           have H1 : (some 3) = some r := by rw [if_neg (show ¬ (false = true) by decide)] at H;exact H
           clear H
           have H := H1
           clear H1
           obtain rfl := Option.some.inj H
           have p168 : 0 ≤ (0 : Int) := (by omega)
           have q168 : 0 < ([xp0].length : Int) := (by simp)
           obtain ⟨ad168, A168_0, c168_0, A168_1, c168_1, e168, hx168_0, hx168_1, hl168_0, hi168_0, hl168_1, hi168_1⟩ := at_T30 HR0.out 0 p168 q168
           obtain rfl : adp0 = ad168 := (by injection e168)
           (try rw [show ((0 : Int)).toNat = 0 from rfl] at hx168_0)
           (try rw [show 0 * 2 = 0 from rfl] at hx168_0)
           (try rw [Addr.add_zero'] at hx168_0)
           (try rw [show ((0 : Int)).toNat = 0 from rfl] at hx168_1)
           (try rw [show 0 * 2 = 0 from rfl] at hx168_1)
           (try rw [Addr.add_zero'] at hx168_1)
           have HR168_0 := Aside0.mk hi168_0
           have HC168_0 := Aside0.mk hl168_0
           clear hi168_0 hl168_0
           have HR168_1 := Aside0.mk hi168_1
           have HC168_1 := Aside0.mk hl168_1
           clear hi168_1 hl168_1
           replace p168 := eq_true p168
           replace q168 := eq_true q168
           have p169 : 0 ≤ (x4_2 : Int) := of_decide_eq_true (by first|(with_reducible assumption)|assumption)
           have q169 : x4_2 < (((rd_T30 [xp0] 0).f1).length : Int) := of_decide_eq_true (by first|(with_reducible assumption)|assumption)
           obtain ⟨ad169, e169, hx169_0, hx169_1⟩ := at_T53 HR168_1.out x4_2 p169 q169
           cases e169
           replace p169 := eq_true p169
           replace q169 := eq_true q169
           go_wp2_with (first|((with_reducible refine gate_callee (f := 76) rfl ?_);refine goesL_ (some 52) rfl rfl Try.func76 (by kernel_rfl) rfl #[.int .i64 ((rd_T53 ((rd_T30 [xp0] 0).f1) x4_2).f0)] rfl (by (try simp only [List.map_toArray, List.map_cons, List.map_nil]);first|done|rfl|(simp only [List.length_drop, List.length_take];rfl)) ?_;(with_reducible refine (spec_l1Place.calls ((rd_T53 ((rd_T30 [xp0] 0).f1) x4_2).f0) false _ A10.out).mono ?_);rintro e w' ⟨rfl, ⟨nd, rfl⟩⟩;refine ⟨_, rfl, ?_⟩))
           go_ret
           exact ⟨by first|rfl|(simp;done)|(simp [*];done), by repeat (first|exact Drawn0.refl _|apply Drawn0.step)⟩
         ·
          rw [if_neg c9] at H
          exact absurd H (by simp)
        ·
         rw [if_neg c8] at H
         have c8b0 : decide (x4_2 < (((rd_T30 [xp0] 0).f1).length : Int)) = false := decide_eq_false c8
         clear c8
         obtain rfl := Option.some.inj H
         have p168 : 0 ≤ (0 : Int) := (by omega)
         have q168 : 0 < ([xp0].length : Int) := (by simp)
         obtain ⟨ad168, A168_0, c168_0, A168_1, c168_1, e168, hx168_0, hx168_1, hl168_0, hi168_0, hl168_1, hi168_1⟩ := at_T30 HR0.out 0 p168 q168
         obtain rfl : adp0 = ad168 := (by injection e168)
         (try rw [show ((0 : Int)).toNat = 0 from rfl] at hx168_0)
         (try rw [show 0 * 2 = 0 from rfl] at hx168_0)
         (try rw [Addr.add_zero'] at hx168_0)
         (try rw [show ((0 : Int)).toNat = 0 from rfl] at hx168_1)
         (try rw [show 0 * 2 = 0 from rfl] at hx168_1)
         (try rw [Addr.add_zero'] at hx168_1)
         have HR168_0 := Aside0.mk hi168_0
         have HC168_0 := Aside0.mk hl168_0
         clear hi168_0 hl168_0
         have HR168_1 := Aside0.mk hi168_1
         have HC168_1 := Aside0.mk hl168_1
         clear hi168_1 hl168_1
         replace p168 := eq_true p168
         replace q168 := eq_true q168
         go_wp2
         go_ret
         exact ⟨by first|rfl|(simp;done)|(simp [*];done), by repeat (first|exact Drawn0.refl _|apply Drawn0.step)⟩
 ·
  rw [if_neg c2] at H
  have c2b0 : ((((rd_T30 [xp0] 0).f0).length : Int) == 64) = false := beq_eq_false_iff_ne.mpr c2
  have c2b1 : ((((rd_T30 [xp0] 0).f0).length : Int) != 64) = true := bne_iff_ne.mpr c2
  obtain rfl := Option.some.inj H
  have p164 : 0 ≤ (0 : Int) := (by omega)
  have q164 : 0 < ([xp0].length : Int) := (by simp)
  obtain ⟨ad164, A164_0, c164_0, A164_1, c164_1, e164, hx164_0, hx164_1, hl164_0, hi164_0, hl164_1, hi164_1⟩ := at_T30 HR0.out 0 p164 q164
  obtain rfl : adp0 = ad164 := (by injection e164)
  (try rw [show ((0 : Int)).toNat = 0 from rfl] at hx164_0)
  (try rw [show 0 * 2 = 0 from rfl] at hx164_0)
  (try rw [Addr.add_zero'] at hx164_0)
  (try rw [show ((0 : Int)).toNat = 0 from rfl] at hx164_1)
  (try rw [show 0 * 2 = 0 from rfl] at hx164_1)
  (try rw [Addr.add_zero'] at hx164_1)
  have HR164_0 := Aside0.mk hi164_0
  have HC164_0 := Aside0.mk hl164_0
  clear hi164_0 hl164_0
  have HR164_1 := Aside0.mk hi164_1
  have HC164_1 := Aside0.mk hl164_1
  clear hi164_1 hl164_1
  replace p164 := eq_true p164
  replace q164 := eq_true q164
  go_enter Try.func68, Try.ntmps68
  go_wp2
  go_ret
  exact ⟨by first|rfl|(simp;done)|(simp [*];done), by repeat (first|exact Drawn0.refl _|apply Drawn0.step)⟩

end Go.Proofs.Ytaahjfjpbilfnaa.PD
