-- Laid by a program of this session's (wip/xprint.py) over the kit's print. Nothing in it is trusted: Lean checks it.
import Derived.Test.YtaahjfjpbilfnaaPDx0
import Derived.Test.YtaahjfjpbilfnaaPDx1
namespace Go.Proofs.Ytaahjfjpbilfnaa.PD
open Go.RowKit Go.Proofs.YtaahjfjpbilfnaaW.PrintWords Go.Proofs.YtaahjfjpbilfnaaW.PrintLast Go.Proofs.YtaahjfjpbilfnaaW.PrintMore
attribute [local go_sem] max2_int min2_int max_two min_two max_three min_three max_four min_four   -- for this text's walks alone
set_option linter.unusedVariables false
set_option linter.unusedSimpArgs false

/-! ### spec_l1Fault: function 68 -/
mutual
def spec_l1Fault.l0 : Nat → S30 → Int → Option (Int)
  | 0, _, _ => none
  | k + 1, x0, x3 => if x3 < (((rd_T30 [x0] 0).f0).length : Int) then (if 0 ≤ x3 then ((spec_l1Word.f (rd ((rd_T30 [x0] 0).f0) x3)).bind fun t109 => (if t109 = true then (spec_l1Fault.l0 k x0 (wrap64 (x3 + 1))) else (some 3))) else (none)) else (spec_l1Fault.l1 k x0 0)
def spec_l1Fault.l1 : Nat → S30 → Int → Option (Int)
  | 0, _, _ => none
  | k + 1, x0, x4 => if x4 < (((rd_T30 [x0] 0).f1).length : Int) then (if 0 ≤ x4 then ((spec_l1Place.f ((rd_T53 ((rd_T30 [x0] 0).f1) x4).f0)).bind fun t112 => (if t112 = true then ((spec_l1Word.f ((rd_T53 ((rd_T30 [x0] 0).f1) x4).f1)).bind fun t114 => (if t114 = true then (spec_l1Fault.l1 k x0 (wrap64 (x4 + 1))) else (some 3))) else (some 3))) else (none)) else (some 0)
end
def spec_l1Fault.f (k : Nat) (xp0 : S30) : Option (Int) := if (((rd_T30 [xp0] 0).f0).length : Int) = 64 then (if (((rd_T30 [xp0] 0).f1).length : Int) > 200 then (some 2) else (spec_l1Fault.l0 k xp0 0)) else (some 1)
theorem spec_l1Fault.mono_l : ∀ k, (∀ y0 y1, LeO (spec_l1Fault.l0 k y0 y1) (spec_l1Fault.l0 (k + 1) y0 y1)) ∧ (∀ y0 y1, LeO (spec_l1Fault.l1 k y0 y1) (spec_l1Fault.l1 (k + 1) y0 y1))
  | 0 => ⟨fun _ _ r h => by simp [spec_l1Fault.l0] at h, fun _ _ r h => by simp [spec_l1Fault.l1] at h⟩
  | k + 1 => by
    obtain ⟨ih0, ih1⟩ := spec_l1Fault.mono_l k
    refine ⟨?_, ?_⟩
    · intro y0 y1
      unfold spec_l1Fault.l0
      repeat' first
      | (with_reducible exact ih0 _ _)
      | (with_reducible exact ih1 _ _)
      | (with_reducible exact LeO.refl _)
      | (with_reducible exact LeO.none _)
      | (with_reducible refine LeO.ite ?_ ?_)
      | (with_reducible refine LeO.bind ?_ (fun _ => ?_))
      | exact ih0 _ _
      | exact ih1 _ _
      | exact LeO.none _
      | refine LeO.ite ?_ ?_
      | refine LeO.bind ?_ (fun _ => ?_)
    · intro y0 y1
      unfold spec_l1Fault.l1
      repeat' first
      | (with_reducible exact ih0 _ _)
      | (with_reducible exact ih1 _ _)
      | (with_reducible exact LeO.refl _)
      | (with_reducible exact LeO.none _)
      | (with_reducible refine LeO.ite ?_ ?_)
      | (with_reducible refine LeO.bind ?_ (fun _ => ?_))
      | exact ih0 _ _
      | exact ih1 _ _
      | exact LeO.none _
      | refine LeO.ite ?_ ?_
      | refine LeO.bind ?_ (fun _ => ?_)
theorem spec_l1Fault.mono : ∀ a0 k, LeO (spec_l1Fault.f k a0) (spec_l1Fault.f (k + 1) a0) := by
  intro a0 k
  obtain ⟨ih0, ih1⟩ := spec_l1Fault.mono_l k
  unfold spec_l1Fault.f
  repeat' first
      | (with_reducible exact ih0 _ _)
      | (with_reducible exact ih1 _ _)
      | (with_reducible exact LeO.refl _)
      | (with_reducible exact LeO.none _)
      | (with_reducible refine LeO.ite ?_ ?_)
      | (with_reducible refine LeO.bind ?_ (fun _ => ?_))
      | exact ih0 _ _
      | exact ih1 _ _
      | exact LeO.none _
      | refine LeO.ite ?_ ?_
      | refine LeO.bind ?_ (fun _ => ?_)
set_option maxHeartbeats 8000000 in
set_option maxRecDepth 100000 in
theorem spec_l1Fault.calls (k : Nat) (adp0 : Addr) (xp0 : S30) (r : Int) (w : World) (hr0 : Kd.C k30 w (some adp0) 1 [xp0]) (h : spec_l1Fault.f k xp0 = some r) :
    Calls Try.prog 68 #[.pointer (some adp0)] w fun e w' => e = .returned (.int .i64 r) ∧ Drawn0 w w' := by
  have HR0 := Aside0.mk hr0
  clear hr0
  have H : (if (((rd_T30 [xp0] 0).f0).length : Int) = 64 then (if (((rd_T30 [xp0] 0).f1).length : Int) > 200 then (some 2) else (spec_l1Fault.l0 k xp0 0)) else (some 1)) = some r := h
  clear h
  by_cases c2 : (((rd_T30 [xp0] 0).f0).length : Int) = 64
  · rw [if_pos c2] at H
    have c2b0 : ((((rd_T30 [xp0] 0).f0).length : Int) == 64) = true := beq_iff_eq.mpr c2
    have c2b1 : ((((rd_T30 [xp0] 0).f0).length : Int) != 64) = false := bne_eq_false_iff_eq.mpr c2
    clear c2
    by_cases c3 : (((rd_T30 [xp0] 0).f1).length : Int) > 200
    · rw [if_pos c3] at H
      have c3b0 : decide (200 < (((rd_T30 [xp0] 0).f1).length : Int)) = true := decide_eq_true c3
      have c3b1 : decide (200 < ((rd_T30 [xp0] 0).f1).length) = true := decide_eq_true (by omega)
      clear c3
      obtain rfl := Option.some.inj H
      have p106 : 0 ≤ (0 : Int) := (by omega)
      have q106 : 0 < ([xp0].length : Int) := (by simp)
      obtain ⟨ad106, A106_0, c106_0, A106_1, c106_1, e106, hx106_0, hx106_1, hl106_0, hi106_0, hl106_1, hi106_1⟩ := at_T30 HR0.out 0 p106 q106
      obtain rfl : adp0 = ad106 := (by injection e106)
      (try rw [show ((0 : Int)).toNat = 0 from rfl] at hx106_0)
      (try rw [show 0 * 2 = 0 from rfl] at hx106_0)
      (try rw [Addr.add_zero'] at hx106_0)
      (try rw [show ((0 : Int)).toNat = 0 from rfl] at hx106_1)
      (try rw [show 0 * 2 = 0 from rfl] at hx106_1)
      (try rw [Addr.add_zero'] at hx106_1)
      have HR106_0 := Aside0.mk hi106_0
      have HC106_0 := Aside0.mk hl106_0
      clear hi106_0 hl106_0
      have HR106_1 := Aside0.mk hi106_1
      have HC106_1 := Aside0.mk hl106_1
      clear hi106_1 hl106_1
      replace p106 := eq_true p106
      replace q106 := eq_true q106
      go_enter Try.func68, Try.ntmps68
      go_wp2
      go_ret
      exact ⟨by first | rfl | (simp; done) | (simp [*]; done), by repeat (first | exact Drawn0.refl _ | apply Drawn0.step)⟩
    · rw [if_neg c3] at H
      have c3b0 : decide (200 < (((rd_T30 [xp0] 0).f1).length : Int)) = false := decide_eq_false c3
      have c3b1 : decide (200 < ((rd_T30 [xp0] 0).f1).length) = false := decide_eq_false (by omega)
      clear c3
      have H' := Aside0.mk H
      clear H
      have p106 : 0 ≤ (0 : Int) := (by omega)
      have q106 : 0 < ([xp0].length : Int) := (by simp)
      obtain ⟨ad106, A106_0, c106_0, A106_1, c106_1, e106, hx106_0, hx106_1, hl106_0, hi106_0, hl106_1, hi106_1⟩ := at_T30 HR0.out 0 p106 q106
      obtain rfl : adp0 = ad106 := (by injection e106)
      (try rw [show ((0 : Int)).toNat = 0 from rfl] at hx106_0)
      (try rw [show 0 * 2 = 0 from rfl] at hx106_0)
      (try rw [Addr.add_zero'] at hx106_0)
      (try rw [show ((0 : Int)).toNat = 0 from rfl] at hx106_1)
      (try rw [show 0 * 2 = 0 from rfl] at hx106_1)
      (try rw [Addr.add_zero'] at hx106_1)
      have HR106_0 := Aside0.mk hi106_0
      have HC106_0 := Aside0.mk hl106_0
      clear hi106_0 hl106_0
      have HR106_1 := Aside0.mk hi106_1
      have HC106_1 := Aside0.mk hl106_1
      clear hi106_1 hl106_1
      replace p106 := eq_true p106
      replace q106 := eq_true q106
      go_enter Try.func68, Try.ntmps68
      go_wp2
      go_loopg [3] k (fun kq v3 w' => ∃ (x3_1 : Int), v3 = .int .i64 x3_1 ∧ Aside0 (spec_l1Fault.l0 kq xp0 x3_1 = some r) ∧ Aside0 (kq ≤ k) ∧ Drawn0 w w')
      case atStart => exact ⟨(0), (by first | rfl | (simp; done) | (simp [*]; done)), H', ⟨Nat.le_refl _⟩, by repeat (first | exact Drawn0.refl _ | apply Drawn0.step)⟩
      case round =>
        clear H'
        try clear c1
        try clear p1
        try clear q1
        try clear hx1
        try clear c2
        try clear c2b0
        try clear c2b1
        try clear p2
        try clear c3
        try clear c3b0
        try clear c3b1
        try clear hx106_0
        try clear hx106_1
        try clear p106
        try clear q106
        obtain ⟨x3_1, rfl, HA, HK1, ⟨m1, rfl⟩⟩ := hrel
        cases gk with
        | zero => exact absurd HA.out (by simp [spec_l1Fault.l0])
        | succ k1 =>
          have H := HA.out
          clear HA
          simp only [spec_l1Fault.l0] at H
          by_cases c4 : x3_1 < (((rd_T30 [xp0] 0).f0).length : Int)
          · rw [if_pos c4] at H
            have c4b0 : decide (x3_1 < (((rd_T30 [xp0] 0).f0).length : Int)) = true := decide_eq_true c4
            clear c4
            by_cases c5 : 0 ≤ x3_1
            · rw [if_pos c5] at H
              have c5b0 : decide (0 ≤ x3_1) = true := decide_eq_true c5
              clear c5
              replace H := Option.bind_eq_some_iff.mp H
              obtain ⟨t109, A60, H⟩ := H
              replace H : (if t109 = true then (spec_l1Fault.l0 k1 xp0 (wrap64 (x3_1 + 1))) else (some 3)) = some r := H
              have A6 := Aside0.mk A60
              clear A60
              by_cases c7 : t109 = true
              · subst c7
                have H1 : (spec_l1Fault.l0 k1 xp0 (wrap64 (x3_1 + 1))) = some r := by rw [if_pos rfl] at H; exact H
                clear H
                have H := H1
                clear H1
                have H' := Aside0.mk H
                clear H
                have p107 : 0 ≤ (0 : Int) := (by omega)
                have q107 : 0 < ([xp0].length : Int) := (by simp)
                obtain ⟨ad107, A107_0, c107_0, A107_1, c107_1, e107, hx107_0, hx107_1, hl107_0, hi107_0, hl107_1, hi107_1⟩ := at_T30 HR0.out 0 p107 q107
                obtain rfl : adp0 = ad107 := (by injection e107)
                (try rw [show ((0 : Int)).toNat = 0 from rfl] at hx107_0)
                (try rw [show 0 * 2 = 0 from rfl] at hx107_0)
                (try rw [Addr.add_zero'] at hx107_0)
                (try rw [show ((0 : Int)).toNat = 0 from rfl] at hx107_1)
                (try rw [show 0 * 2 = 0 from rfl] at hx107_1)
                (try rw [Addr.add_zero'] at hx107_1)
                have HR107_0 := Aside0.mk hi107_0
                have HC107_0 := Aside0.mk hl107_0
                clear hi107_0 hl107_0
                have HR107_1 := Aside0.mk hi107_1
                have HC107_1 := Aside0.mk hl107_1
                clear hi107_1 hl107_1
                replace p107 := eq_true p107
                replace q107 := eq_true q107
                have p108 : 0 ≤ (x3_1 : Int) := of_decide_eq_true (by first | (with_reducible assumption) | assumption)
                have q108 : x3_1 < (((rd_T30 [xp0] 0).f0).length : Int) := of_decide_eq_true (by first | (with_reducible assumption) | assumption)
                obtain ⟨ad108, e108, hx108_0⟩ := Kd.at_int HR107_0.out x3_1 p108 q108
                cases e108
                replace p108 := eq_true p108
                replace q108 := eq_true q108
                go_wp2_with (first | ((with_reducible refine gate_callee (f := 90) rfl ?_); refine goesL_ (some 33) rfl rfl Try.func90 (by kernel_rfl) rfl #[.int .i64 (rd ((rd_T30 [xp0] 0).f0) x3_1)] rfl (by (try simp only [List.map_toArray, List.map_cons, List.map_nil]); first | done | rfl | (simp only [List.length_drop, List.length_take]; rfl)) ?_; (with_reducible refine (spec_l1Word.calls (rd ((rd_T30 [xp0] 0).f0) x3_1) true _ A6.out).mono ?_); rintro e w' ⟨rfl, ⟨nd, rfl⟩⟩; refine ⟨_, rfl, ?_⟩))
                go_roundg k1
                case measure => have := HK1.out; omega
                case rel => exact ⟨(wrap64 (x3_1 + 1)), (by first | rfl | (simp; done) | (simp [*]; done)), H', ⟨by have := HK1.out; omega⟩, by repeat (first | exact Drawn0.refl _ | apply Drawn0.step)⟩
              · replace c7 := Bool.eq_false_iff.mpr c7
                subst c7
                have H1 : (some 3) = some r := by rw [if_neg (show ¬ (false = true) by decide)] at H; exact H
                clear H
                have H := H1
                clear H1
                obtain rfl := Option.some.inj H
                have p107 : 0 ≤ (0 : Int) := (by omega)
                have q107 : 0 < ([xp0].length : Int) := (by simp)
                obtain ⟨ad107, A107_0, c107_0, A107_1, c107_1, e107, hx107_0, hx107_1, hl107_0, hi107_0, hl107_1, hi107_1⟩ := at_T30 HR0.out 0 p107 q107
                obtain rfl : adp0 = ad107 := (by injection e107)
                (try rw [show ((0 : Int)).toNat = 0 from rfl] at hx107_0)
                (try rw [show 0 * 2 = 0 from rfl] at hx107_0)
                (try rw [Addr.add_zero'] at hx107_0)
                (try rw [show ((0 : Int)).toNat = 0 from rfl] at hx107_1)
                (try rw [show 0 * 2 = 0 from rfl] at hx107_1)
                (try rw [Addr.add_zero'] at hx107_1)
                have HR107_0 := Aside0.mk hi107_0
                have HC107_0 := Aside0.mk hl107_0
                clear hi107_0 hl107_0
                have HR107_1 := Aside0.mk hi107_1
                have HC107_1 := Aside0.mk hl107_1
                clear hi107_1 hl107_1
                replace p107 := eq_true p107
                replace q107 := eq_true q107
                have p108 : 0 ≤ (x3_1 : Int) := of_decide_eq_true (by first | (with_reducible assumption) | assumption)
                have q108 : x3_1 < (((rd_T30 [xp0] 0).f0).length : Int) := of_decide_eq_true (by first | (with_reducible assumption) | assumption)
                obtain ⟨ad108, e108, hx108_0⟩ := Kd.at_int HR107_0.out x3_1 p108 q108
                cases e108
                replace p108 := eq_true p108
                replace q108 := eq_true q108
                go_wp2_with (first | ((with_reducible refine gate_callee (f := 90) rfl ?_); refine goesL_ (some 33) rfl rfl Try.func90 (by kernel_rfl) rfl #[.int .i64 (rd ((rd_T30 [xp0] 0).f0) x3_1)] rfl (by (try simp only [List.map_toArray, List.map_cons, List.map_nil]); first | done | rfl | (simp only [List.length_drop, List.length_take]; rfl)) ?_; (with_reducible refine (spec_l1Word.calls (rd ((rd_T30 [xp0] 0).f0) x3_1) false _ A6.out).mono ?_); rintro e w' ⟨rfl, ⟨nd, rfl⟩⟩; refine ⟨_, rfl, ?_⟩))
                go_ret
                exact ⟨by first | rfl | (simp; done) | (simp [*]; done), by repeat (first | exact Drawn0.refl _ | apply Drawn0.step)⟩
            · rw [if_neg c5] at H
              exact absurd H (by simp)
          · rw [if_neg c4] at H
            have c4b0 : decide (x3_1 < (((rd_T30 [xp0] 0).f0).length : Int)) = false := decide_eq_false c4
            clear c4
            have H' := Aside0.mk H
            clear H
            have p107 : 0 ≤ (0 : Int) := (by omega)
            have q107 : 0 < ([xp0].length : Int) := (by simp)
            obtain ⟨ad107, A107_0, c107_0, A107_1, c107_1, e107, hx107_0, hx107_1, hl107_0, hi107_0, hl107_1, hi107_1⟩ := at_T30 HR0.out 0 p107 q107
            obtain rfl : adp0 = ad107 := (by injection e107)
            (try rw [show ((0 : Int)).toNat = 0 from rfl] at hx107_0)
            (try rw [show 0 * 2 = 0 from rfl] at hx107_0)
            (try rw [Addr.add_zero'] at hx107_0)
            (try rw [show ((0 : Int)).toNat = 0 from rfl] at hx107_1)
            (try rw [show 0 * 2 = 0 from rfl] at hx107_1)
            (try rw [Addr.add_zero'] at hx107_1)
            have HR107_0 := Aside0.mk hi107_0
            have HC107_0 := Aside0.mk hl107_0
            clear hi107_0 hl107_0
            have HR107_1 := Aside0.mk hi107_1
            have HC107_1 := Aside0.mk hl107_1
            clear hi107_1 hl107_1
            replace p107 := eq_true p107
            replace q107 := eq_true q107
            go_wp2
            go_loopg [4] k1 (fun kq v4 w' => ∃ (x4_2 : Int), v4 = .int .i64 x4_2 ∧ Aside0 (spec_l1Fault.l1 kq xp0 x4_2 = some r) ∧ Aside0 (kq ≤ k1) ∧ Drawn0 w w')
            case atStart => exact ⟨(0), (by first | rfl | (simp; done) | (simp [*]; done)), H', ⟨Nat.le_refl _⟩, by repeat (first | exact Drawn0.refl _ | apply Drawn0.step)⟩
            case round =>
              clear H'
              try clear c1
              try clear p1
              try clear q1
              try clear hx1
              try clear c2
              try clear c2b0
              try clear c2b1
              try clear p2
              try clear c3
              try clear c3b0
              try clear c3b1
              try clear c4
              try clear c4b0
              try clear c5
              try clear c5b0
              try clear c6
              try clear p6
              try clear c7
              try clear hx106_0
              try clear hx106_1
              try clear hx107_0
              try clear hx107_1
              try clear hx108_0
              try clear p1
              try clear p106
              try clear p107
              try clear p108
              try clear p2
              try clear q1
              try clear q106
              try clear q107
              try clear q108
              obtain ⟨x4_2, rfl, HA, HK2, ⟨m2, rfl⟩⟩ := hrel
              cases gk with
              | zero => exact absurd HA.out (by simp [spec_l1Fault.l1])
              | succ k2 =>
                have H := HA.out
                clear HA
                simp only [spec_l1Fault.l1] at H
                by_cases c8 : x4_2 < (((rd_T30 [xp0] 0).f1).length : Int)
                · rw [if_pos c8] at H
                  have c8b0 : decide (x4_2 < (((rd_T30 [xp0] 0).f1).length : Int)) = true := decide_eq_true c8
                  clear c8
                  by_cases c9 : 0 ≤ x4_2
                  · rw [if_pos c9] at H
                    have c9b0 : decide (0 ≤ x4_2) = true := decide_eq_true c9
                    clear c9
                    replace H := Option.bind_eq_some_iff.mp H
                    obtain ⟨t112, A100, H⟩ := H
                    replace H : (if t112 = true then ((spec_l1Word.f ((rd_T53 ((rd_T30 [xp0] 0).f1) x4_2).f1)).bind fun t114 => (if t114 = true then (spec_l1Fault.l1 k2 xp0 (wrap64 (x4_2 + 1))) else (some 3))) else (some 3)) = some r := H
                    have A10 := Aside0.mk A100
                    clear A100
                    by_cases c11 : t112 = true
                    · subst c11
                      have H1 : ((spec_l1Word.f ((rd_T53 ((rd_T30 [xp0] 0).f1) x4_2).f1)).bind fun t114 => (if t114 = true then (spec_l1Fault.l1 k2 xp0 (wrap64 (x4_2 + 1))) else (some 3))) = some r := by rw [if_pos rfl] at H; exact H
                      clear H
                      have H := H1
                      clear H1
                      replace H := Option.bind_eq_some_iff.mp H
                      obtain ⟨t114, A120, H⟩ := H
                      replace H : (if t114 = true then (spec_l1Fault.l1 k2 xp0 (wrap64 (x4_2 + 1))) else (some 3)) = some r := H
                      have A12 := Aside0.mk A120
                      clear A120
                      by_cases c13 : t114 = true
                      · subst c13
                        have H1 : (spec_l1Fault.l1 k2 xp0 (wrap64 (x4_2 + 1))) = some r := by rw [if_pos rfl] at H; exact H
                        clear H
                        have H := H1
                        clear H1
                        have H' := Aside0.mk H
                        clear H
                        have p110 : 0 ≤ (0 : Int) := (by omega)
                        have q110 : 0 < ([xp0].length : Int) := (by simp)
                        obtain ⟨ad110, A110_0, c110_0, A110_1, c110_1, e110, hx110_0, hx110_1, hl110_0, hi110_0, hl110_1, hi110_1⟩ := at_T30 HR0.out 0 p110 q110
                        obtain rfl : adp0 = ad110 := (by injection e110)
                        (try rw [show ((0 : Int)).toNat = 0 from rfl] at hx110_0)
                        (try rw [show 0 * 2 = 0 from rfl] at hx110_0)
                        (try rw [Addr.add_zero'] at hx110_0)
                        (try rw [show ((0 : Int)).toNat = 0 from rfl] at hx110_1)
                        (try rw [show 0 * 2 = 0 from rfl] at hx110_1)
                        (try rw [Addr.add_zero'] at hx110_1)
                        have HR110_0 := Aside0.mk hi110_0
                        have HC110_0 := Aside0.mk hl110_0
                        clear hi110_0 hl110_0
                        have HR110_1 := Aside0.mk hi110_1
                        have HC110_1 := Aside0.mk hl110_1
                        clear hi110_1 hl110_1
                        replace p110 := eq_true p110
                        replace q110 := eq_true q110
                        have p111 : 0 ≤ (x4_2 : Int) := of_decide_eq_true (by first | (with_reducible assumption) | assumption)
                        have q111 : x4_2 < (((rd_T30 [xp0] 0).f1).length : Int) := of_decide_eq_true (by first | (with_reducible assumption) | assumption)
                        obtain ⟨ad111, e111, hx111_0, hx111_1⟩ := at_T53 HR110_1.out x4_2 p111 q111
                        cases e111
                        replace p111 := eq_true p111
                        replace q111 := eq_true q111
                        go_wp2_with (first | ((with_reducible refine gate_callee (f := 76) rfl ?_); refine goesL_ (some 52) rfl rfl Try.func76 (by kernel_rfl) rfl #[.int .i64 ((rd_T53 ((rd_T30 [xp0] 0).f1) x4_2).f0)] rfl (by (try simp only [List.map_toArray, List.map_cons, List.map_nil]); first | done | rfl | (simp only [List.length_drop, List.length_take]; rfl)) ?_; (with_reducible refine (spec_l1Place.calls ((rd_T53 ((rd_T30 [xp0] 0).f1) x4_2).f0) true _ A10.out).mono ?_); rintro e w' ⟨rfl, ⟨nd, rfl⟩⟩; refine ⟨_, rfl, ?_⟩; have p113 : 0 ≤ (x4_2 : Int) := of_decide_eq_true (by first | (with_reducible assumption) | assumption); have q113 : x4_2 < (((rd_T30 [xp0] 0).f1).length : Int) := of_decide_eq_true (by first | (with_reducible assumption) | assumption); obtain ⟨ad113, e113, hx113_0, hx113_1⟩ := at_T53 HR110_1.out x4_2 p113 q113; obtain rfl : ad111 = ad113 := (by injection e113); replace p113 := eq_true p113; replace q113 := eq_true q113) | (go_at_call 90; (with_reducible refine (spec_l1Word.calls ((rd_T53 ((rd_T30 [xp0] 0).f1) x4_2).f1) true _ A12.out).mono ?_); rintro e w' ⟨rfl, ⟨nd, rfl⟩⟩))
                        go_roundg k2
                        case measure => have := HK1.out; have := HK2.out; omega
                        case rel => exact ⟨(wrap64 (x4_2 + 1)), (by first | rfl | (simp; done) | (simp [*]; done)), H', ⟨by have := HK1.out; have := HK2.out; omega⟩, by repeat (first | exact Drawn0.refl _ | apply Drawn0.step)⟩
                      · replace c13 := Bool.eq_false_iff.mpr c13
                        subst c13
                        have H1 : (some 3) = some r := by rw [if_neg (show ¬ (false = true) by decide)] at H; exact H
                        clear H
                        have H := H1
                        clear H1
                        obtain rfl := Option.some.inj H
                        have p110 : 0 ≤ (0 : Int) := (by omega)
                        have q110 : 0 < ([xp0].length : Int) := (by simp)
                        obtain ⟨ad110, A110_0, c110_0, A110_1, c110_1, e110, hx110_0, hx110_1, hl110_0, hi110_0, hl110_1, hi110_1⟩ := at_T30 HR0.out 0 p110 q110
                        obtain rfl : adp0 = ad110 := (by injection e110)
                        (try rw [show ((0 : Int)).toNat = 0 from rfl] at hx110_0)
                        (try rw [show 0 * 2 = 0 from rfl] at hx110_0)
                        (try rw [Addr.add_zero'] at hx110_0)
                        (try rw [show ((0 : Int)).toNat = 0 from rfl] at hx110_1)
                        (try rw [show 0 * 2 = 0 from rfl] at hx110_1)
                        (try rw [Addr.add_zero'] at hx110_1)
                        have HR110_0 := Aside0.mk hi110_0
                        have HC110_0 := Aside0.mk hl110_0
                        clear hi110_0 hl110_0
                        have HR110_1 := Aside0.mk hi110_1
                        have HC110_1 := Aside0.mk hl110_1
                        clear hi110_1 hl110_1
                        replace p110 := eq_true p110
                        replace q110 := eq_true q110
                        have p111 : 0 ≤ (x4_2 : Int) := of_decide_eq_true (by first | (with_reducible assumption) | assumption)
                        have q111 : x4_2 < (((rd_T30 [xp0] 0).f1).length : Int) := of_decide_eq_true (by first | (with_reducible assumption) | assumption)
                        obtain ⟨ad111, e111, hx111_0, hx111_1⟩ := at_T53 HR110_1.out x4_2 p111 q111
                        cases e111
                        replace p111 := eq_true p111
                        replace q111 := eq_true q111
                        go_wp2_with (first | ((with_reducible refine gate_callee (f := 76) rfl ?_); refine goesL_ (some 52) rfl rfl Try.func76 (by kernel_rfl) rfl #[.int .i64 ((rd_T53 ((rd_T30 [xp0] 0).f1) x4_2).f0)] rfl (by (try simp only [List.map_toArray, List.map_cons, List.map_nil]); first | done | rfl | (simp only [List.length_drop, List.length_take]; rfl)) ?_; (with_reducible refine (spec_l1Place.calls ((rd_T53 ((rd_T30 [xp0] 0).f1) x4_2).f0) true _ A10.out).mono ?_); rintro e w' ⟨rfl, ⟨nd, rfl⟩⟩; refine ⟨_, rfl, ?_⟩; have p113 : 0 ≤ (x4_2 : Int) := of_decide_eq_true (by first | (with_reducible assumption) | assumption); have q113 : x4_2 < (((rd_T30 [xp0] 0).f1).length : Int) := of_decide_eq_true (by first | (with_reducible assumption) | assumption); obtain ⟨ad113, e113, hx113_0, hx113_1⟩ := at_T53 HR110_1.out x4_2 p113 q113; obtain rfl : ad111 = ad113 := (by injection e113); replace p113 := eq_true p113; replace q113 := eq_true q113) | (go_at_call 90; (with_reducible refine (spec_l1Word.calls ((rd_T53 ((rd_T30 [xp0] 0).f1) x4_2).f1) false _ A12.out).mono ?_); rintro e w' ⟨rfl, ⟨nd, rfl⟩⟩))
                        go_ret
                        exact ⟨by first | rfl | (simp; done) | (simp [*]; done), by repeat (first | exact Drawn0.refl _ | apply Drawn0.step)⟩
                    · replace c11 := Bool.eq_false_iff.mpr c11
                      subst c11
                      have H1 : (some 3) = some r := by rw [if_neg (show ¬ (false = true) by decide)] at H; exact H
                      clear H
                      have H := H1
                      clear H1
                      obtain rfl := Option.some.inj H
                      have p110 : 0 ≤ (0 : Int) := (by omega)
                      have q110 : 0 < ([xp0].length : Int) := (by simp)
                      obtain ⟨ad110, A110_0, c110_0, A110_1, c110_1, e110, hx110_0, hx110_1, hl110_0, hi110_0, hl110_1, hi110_1⟩ := at_T30 HR0.out 0 p110 q110
                      obtain rfl : adp0 = ad110 := (by injection e110)
                      (try rw [show ((0 : Int)).toNat = 0 from rfl] at hx110_0)
                      (try rw [show 0 * 2 = 0 from rfl] at hx110_0)
                      (try rw [Addr.add_zero'] at hx110_0)
                      (try rw [show ((0 : Int)).toNat = 0 from rfl] at hx110_1)
                      (try rw [show 0 * 2 = 0 from rfl] at hx110_1)
                      (try rw [Addr.add_zero'] at hx110_1)
                      have HR110_0 := Aside0.mk hi110_0
                      have HC110_0 := Aside0.mk hl110_0
                      clear hi110_0 hl110_0
                      have HR110_1 := Aside0.mk hi110_1
                      have HC110_1 := Aside0.mk hl110_1
                      clear hi110_1 hl110_1
                      replace p110 := eq_true p110
                      replace q110 := eq_true q110
                      have p111 : 0 ≤ (x4_2 : Int) := of_decide_eq_true (by first | (with_reducible assumption) | assumption)
                      have q111 : x4_2 < (((rd_T30 [xp0] 0).f1).length : Int) := of_decide_eq_true (by first | (with_reducible assumption) | assumption)
                      obtain ⟨ad111, e111, hx111_0, hx111_1⟩ := at_T53 HR110_1.out x4_2 p111 q111
                      cases e111
                      replace p111 := eq_true p111
                      replace q111 := eq_true q111
                      go_wp2_with (first | ((with_reducible refine gate_callee (f := 76) rfl ?_); refine goesL_ (some 52) rfl rfl Try.func76 (by kernel_rfl) rfl #[.int .i64 ((rd_T53 ((rd_T30 [xp0] 0).f1) x4_2).f0)] rfl (by (try simp only [List.map_toArray, List.map_cons, List.map_nil]); first | done | rfl | (simp only [List.length_drop, List.length_take]; rfl)) ?_; (with_reducible refine (spec_l1Place.calls ((rd_T53 ((rd_T30 [xp0] 0).f1) x4_2).f0) false _ A10.out).mono ?_); rintro e w' ⟨rfl, ⟨nd, rfl⟩⟩; refine ⟨_, rfl, ?_⟩))
                      go_ret
                      exact ⟨by first | rfl | (simp; done) | (simp [*]; done), by repeat (first | exact Drawn0.refl _ | apply Drawn0.step)⟩
                  · rw [if_neg c9] at H
                    exact absurd H (by simp)
                · rw [if_neg c8] at H
                  have c8b0 : decide (x4_2 < (((rd_T30 [xp0] 0).f1).length : Int)) = false := decide_eq_false c8
                  clear c8
                  obtain rfl := Option.some.inj H
                  have p110 : 0 ≤ (0 : Int) := (by omega)
                  have q110 : 0 < ([xp0].length : Int) := (by simp)
                  obtain ⟨ad110, A110_0, c110_0, A110_1, c110_1, e110, hx110_0, hx110_1, hl110_0, hi110_0, hl110_1, hi110_1⟩ := at_T30 HR0.out 0 p110 q110
                  obtain rfl : adp0 = ad110 := (by injection e110)
                  (try rw [show ((0 : Int)).toNat = 0 from rfl] at hx110_0)
                  (try rw [show 0 * 2 = 0 from rfl] at hx110_0)
                  (try rw [Addr.add_zero'] at hx110_0)
                  (try rw [show ((0 : Int)).toNat = 0 from rfl] at hx110_1)
                  (try rw [show 0 * 2 = 0 from rfl] at hx110_1)
                  (try rw [Addr.add_zero'] at hx110_1)
                  have HR110_0 := Aside0.mk hi110_0
                  have HC110_0 := Aside0.mk hl110_0
                  clear hi110_0 hl110_0
                  have HR110_1 := Aside0.mk hi110_1
                  have HC110_1 := Aside0.mk hl110_1
                  clear hi110_1 hl110_1
                  replace p110 := eq_true p110
                  replace q110 := eq_true q110
                  go_wp2
                  go_ret
                  exact ⟨by first | rfl | (simp; done) | (simp [*]; done), by repeat (first | exact Drawn0.refl _ | apply Drawn0.step)⟩
  · rw [if_neg c2] at H
    have c2b0 : ((((rd_T30 [xp0] 0).f0).length : Int) == 64) = false := beq_eq_false_iff_ne.mpr c2
    have c2b1 : ((((rd_T30 [xp0] 0).f0).length : Int) != 64) = true := bne_iff_ne.mpr c2
    obtain rfl := Option.some.inj H
    have p106 : 0 ≤ (0 : Int) := (by omega)
    have q106 : 0 < ([xp0].length : Int) := (by simp)
    obtain ⟨ad106, A106_0, c106_0, A106_1, c106_1, e106, hx106_0, hx106_1, hl106_0, hi106_0, hl106_1, hi106_1⟩ := at_T30 HR0.out 0 p106 q106
    obtain rfl : adp0 = ad106 := (by injection e106)
    (try rw [show ((0 : Int)).toNat = 0 from rfl] at hx106_0)
    (try rw [show 0 * 2 = 0 from rfl] at hx106_0)
    (try rw [Addr.add_zero'] at hx106_0)
    (try rw [show ((0 : Int)).toNat = 0 from rfl] at hx106_1)
    (try rw [show 0 * 2 = 0 from rfl] at hx106_1)
    (try rw [Addr.add_zero'] at hx106_1)
    have HR106_0 := Aside0.mk hi106_0
    have HC106_0 := Aside0.mk hl106_0
    clear hi106_0 hl106_0
    have HR106_1 := Aside0.mk hi106_1
    have HC106_1 := Aside0.mk hl106_1
    clear hi106_1 hl106_1
    replace p106 := eq_true p106
    replace q106 := eq_true q106
    go_enter Try.func68, Try.ntmps68
    go_wp2
    go_ret
    exact ⟨by first | rfl | (simp; done) | (simp [*]; done), by repeat (first | exact Drawn0.refl _ | apply Drawn0.step)⟩

end Go.Proofs.Ytaahjfjpbilfnaa.PD
