-- Laid by a program of this session's (wip/xprint.py) over the kit's print. Nothing in it is trusted: Lean checks it.
import Derived.Test.YtaahjfjpbilfnaaPDx0
namespace Go.Proofs.Ytaahjfjpbilfnaa.PD
open Go.RowKit Go.Proofs.YtaahjfjpbilfnaaW.PrintWords Go.Proofs.YtaahjfjpbilfnaaW.PrintLast Go.Proofs.YtaahjfjpbilfnaaW.PrintMore
attribute [local go_sem] max2_int min2_int max_two min_two max_three min_three max_four min_four   -- for this text's walks alone
set_option linter.unusedVariables false
set_option linter.unusedSimpArgs false

/-! ### spec_l1At: function 77 -/
def spec_l1At.l0 : Nat → S30 → Int → Int → Option (Int)
  | 0, _, _, _ => none
  | k + 1, x0, x1, x5 => if x5 ≥ 0 then (if 0 ≤ x5 then (if x5 < (((rd_T30 [x0] 0).f1).length : Int) then (if ((rd_T53 ((rd_T30 [x0] 0).f1) x5).f0) = x1 then (some ((rd_T53 ((rd_T30 [x0] 0).f1) x5).f1)) else (spec_l1At.l0 k x0 x1 (wrap64 (x5 - 1)))) else (none)) else (none)) else (if 0 ≤ x1 then (if x1 < (((rd_T30 [x0] 0).f0).length : Int) then (some (rd ((rd_T30 [x0] 0).f0) x1)) else (none)) else (none))
def spec_l1At.f (k : Nat) (xp0 : S30) (a1 : Int) : Option (Int) := spec_l1At.l0 k xp0 a1 (wrap64 ((((rd_T30 [xp0] 0).f1).length : Int) - 1))
theorem spec_l1At.mono_l : ∀ k, (∀ y0 y1 y2, LeO (spec_l1At.l0 k y0 y1 y2) (spec_l1At.l0 (k + 1) y0 y1 y2))
  | 0 => fun _ _ _ r h => by simp [spec_l1At.l0] at h
  | k + 1 => by
    have ih0 := spec_l1At.mono_l k
    · intro y0 y1 y2
      unfold spec_l1At.l0
      repeat' first
      | (with_reducible exact ih0 _ _ _)
      | (with_reducible exact LeO.refl _)
      | (with_reducible exact LeO.none _)
      | (with_reducible refine LeO.ite ?_ ?_)
      | (with_reducible refine LeO.bind ?_ (fun _ => ?_))
      | exact ih0 _ _ _
      | exact LeO.none _
      | refine LeO.ite ?_ ?_
      | refine LeO.bind ?_ (fun _ => ?_)
theorem spec_l1At.mono : ∀ a0 a1 k, LeO (spec_l1At.f k a0 a1) (spec_l1At.f (k + 1) a0 a1) := by
  intro a0 a1 k
  have ih0 := spec_l1At.mono_l k
  unfold spec_l1At.f
  repeat' first
      | (with_reducible exact ih0 _ _ _)
      | (with_reducible exact LeO.refl _)
      | (with_reducible exact LeO.none _)
      | (with_reducible refine LeO.ite ?_ ?_)
      | (with_reducible refine LeO.bind ?_ (fun _ => ?_))
      | exact ih0 _ _ _
      | exact LeO.none _
      | refine LeO.ite ?_ ?_
      | refine LeO.bind ?_ (fun _ => ?_)
set_option maxHeartbeats 8000000 in
set_option maxRecDepth 100000 in
theorem spec_l1At.calls (k : Nat) (adp0 : Addr) (xp0 : S30) (a1 : Int) (r : Int) (w : World) (hr0 : Kd.C k30 w (some adp0) 1 [xp0]) (h : spec_l1At.f k xp0 a1 = some r) :
    Calls Try.prog 77 #[.pointer (some adp0), .int .i64 a1] w fun e w' => e = .returned (.int .i64 r) ∧ Drawn0 w w' := by
  have HR0 := Aside0.mk hr0
  clear hr0
  have H : (spec_l1At.l0 k xp0 a1 (wrap64 ((((rd_T30 [xp0] 0).f1).length : Int) - 1))) = some r := h
  clear h
  have H' := Aside0.mk H
  clear H
  have p192 : 0 ≤ (0 : Int) := (by omega)
  have q192 : 0 < ([xp0].length : Int) := (by simp)
  obtain ⟨ad192, A192_0, c192_0, A192_1, c192_1, e192, hx192_0, hx192_1, hl192_0, hi192_0, hl192_1, hi192_1⟩ := at_T30 HR0.out 0 p192 q192
  obtain rfl : adp0 = ad192 := (by injection e192)
  (try rw [show ((0 : Int)).toNat = 0 from rfl] at hx192_0)
  (try rw [show 0 * 2 = 0 from rfl] at hx192_0)
  (try rw [Addr.add_zero'] at hx192_0)
  (try rw [show ((0 : Int)).toNat = 0 from rfl] at hx192_1)
  (try rw [show 0 * 2 = 0 from rfl] at hx192_1)
  (try rw [Addr.add_zero'] at hx192_1)
  have HR192_0 := Aside0.mk hi192_0
  have HC192_0 := Aside0.mk hl192_0
  clear hi192_0 hl192_0
  have HR192_1 := Aside0.mk hi192_1
  have HC192_1 := Aside0.mk hl192_1
  clear hi192_1 hl192_1
  replace p192 := eq_true p192
  replace q192 := eq_true q192
  go_enter Try.func77, Try.ntmps77
  go_wp2
  go_loopg [5] k (fun kq v5 w' => ∃ (x5_1 : Int), v5 = .int .i64 x5_1 ∧ Aside0 (spec_l1At.l0 kq xp0 a1 x5_1 = some r) ∧ Aside0 (kq ≤ k) ∧ Drawn0 w w')
  case atStart => exact ⟨(wrap64 ((((rd_T30 [xp0] 0).f1).length : Int) - 1)), (by first | rfl | (simp; done) | (simp [*]; done)), H', ⟨Nat.le_refl _⟩, by repeat (first | exact Drawn0.refl _ | apply Drawn0.step)⟩
  case round =>
    clear H'
    try clear c1
    try clear p1
    try clear q1
    try clear hx1
    try clear p2
    try clear hx192_0
    try clear hx192_1
    try clear p192
    try clear q192
    obtain ⟨x5_1, rfl, HA, HK1, ⟨m1, rfl⟩⟩ := hrel
    cases gk with
    | zero => exact absurd HA.out (by simp [spec_l1At.l0])
    | succ k1 =>
      have H := HA.out
      clear HA
      simp only [spec_l1At.l0] at H
      by_cases c3 : x5_1 ≥ 0
      · rw [if_pos c3] at H
        have c3b0 : decide (0 ≤ x5_1) = true := decide_eq_true c3
        clear c3
        by_cases c4 : 0 ≤ x5_1
        · rw [if_pos c4] at H
          have c4b0 : decide (0 ≤ x5_1) = true := decide_eq_true c4
          clear c4
          by_cases c5 : x5_1 < (((rd_T30 [xp0] 0).f1).length : Int)
          · rw [if_pos c5] at H
            have c5b0 : decide (x5_1 < (((rd_T30 [xp0] 0).f1).length : Int)) = true := decide_eq_true c5
            clear c5
            by_cases c6 : ((rd_T53 ((rd_T30 [xp0] 0).f1) x5_1).f0) = a1
            · rw [if_pos c6] at H
              have c6b0 : (((rd_T53 ((rd_T30 [xp0] 0).f1) x5_1).f0) == a1) = true := beq_iff_eq.mpr c6
              have c6b1 : (((rd_T53 ((rd_T30 [xp0] 0).f1) x5_1).f0) != a1) = false := bne_eq_false_iff_eq.mpr c6
              clear c6
              obtain rfl := Option.some.inj H
              have p193 : 0 ≤ (0 : Int) := (by omega)
              have q193 : 0 < ([xp0].length : Int) := (by simp)
              obtain ⟨ad193, A193_0, c193_0, A193_1, c193_1, e193, hx193_0, hx193_1, hl193_0, hi193_0, hl193_1, hi193_1⟩ := at_T30 HR0.out 0 p193 q193
              obtain rfl : adp0 = ad193 := (by injection e193)
              (try rw [show ((0 : Int)).toNat = 0 from rfl] at hx193_0)
              (try rw [show 0 * 2 = 0 from rfl] at hx193_0)
              (try rw [Addr.add_zero'] at hx193_0)
              (try rw [show ((0 : Int)).toNat = 0 from rfl] at hx193_1)
              (try rw [show 0 * 2 = 0 from rfl] at hx193_1)
              (try rw [Addr.add_zero'] at hx193_1)
              have HR193_0 := Aside0.mk hi193_0
              have HC193_0 := Aside0.mk hl193_0
              clear hi193_0 hl193_0
              have HR193_1 := Aside0.mk hi193_1
              have HC193_1 := Aside0.mk hl193_1
              clear hi193_1 hl193_1
              replace p193 := eq_true p193
              replace q193 := eq_true q193
              have p194 : 0 ≤ (x5_1 : Int) := of_decide_eq_true (by first | (with_reducible assumption) | assumption)
              have q194 : x5_1 < (((rd_T30 [xp0] 0).f1).length : Int) := of_decide_eq_true (by first | (with_reducible assumption) | assumption)
              obtain ⟨ad194, e194, hx194_0, hx194_1⟩ := at_T53 HR193_1.out x5_1 p194 q194
              cases e194
              replace p194 := eq_true p194
              replace q194 := eq_true q194
              have p195 : 0 ≤ (x5_1 : Int) := of_decide_eq_true (by first | (with_reducible assumption) | assumption)
              have q195 : x5_1 < (((rd_T30 [xp0] 0).f1).length : Int) := of_decide_eq_true (by first | (with_reducible assumption) | assumption)
              obtain ⟨ad195, e195, hx195_0, hx195_1⟩ := at_T53 HR193_1.out x5_1 p195 q195
              obtain rfl : ad194 = ad195 := (by injection e195)
              replace p195 := eq_true p195
              replace q195 := eq_true q195
              go_wp2
              go_ret
              exact ⟨by first | rfl | (simp; done) | (simp [*]; done), by repeat (first | exact Drawn0.refl _ | apply Drawn0.step)⟩
            · rw [if_neg c6] at H
              have c6b0 : (((rd_T53 ((rd_T30 [xp0] 0).f1) x5_1).f0) == a1) = false := beq_eq_false_iff_ne.mpr c6
              have c6b1 : (((rd_T53 ((rd_T30 [xp0] 0).f1) x5_1).f0) != a1) = true := bne_iff_ne.mpr c6
              have H' := Aside0.mk H
              clear H
              have p193 : 0 ≤ (0 : Int) := (by omega)
              have q193 : 0 < ([xp0].length : Int) := (by simp)
              obtain ⟨ad193, A193_0, c193_0, A193_1, c193_1, e193, hx193_0, hx193_1, hl193_0, hi193_0, hl193_1, hi193_1⟩ := at_T30 HR0.out 0 p193 q193
              obtain rfl : adp0 = ad193 := (by injection e193)
              (try rw [show ((0 : Int)).toNat = 0 from rfl] at hx193_0)
              (try rw [show 0 * 2 = 0 from rfl] at hx193_0)
              (try rw [Addr.add_zero'] at hx193_0)
              (try rw [show ((0 : Int)).toNat = 0 from rfl] at hx193_1)
              (try rw [show 0 * 2 = 0 from rfl] at hx193_1)
              (try rw [Addr.add_zero'] at hx193_1)
              have HR193_0 := Aside0.mk hi193_0
              have HC193_0 := Aside0.mk hl193_0
              clear hi193_0 hl193_0
              have HR193_1 := Aside0.mk hi193_1
              have HC193_1 := Aside0.mk hl193_1
              clear hi193_1 hl193_1
              replace p193 := eq_true p193
              replace q193 := eq_true q193
              have p194 : 0 ≤ (x5_1 : Int) := of_decide_eq_true (by first | (with_reducible assumption) | assumption)
              have q194 : x5_1 < (((rd_T30 [xp0] 0).f1).length : Int) := of_decide_eq_true (by first | (with_reducible assumption) | assumption)
              obtain ⟨ad194, e194, hx194_0, hx194_1⟩ := at_T53 HR193_1.out x5_1 p194 q194
              cases e194
              replace p194 := eq_true p194
              replace q194 := eq_true q194
              go_wp2
              go_roundg k1
              case measure => have := HK1.out; omega
              case rel => exact ⟨(wrap64 (x5_1 - 1)), (by first | rfl | (simp; done) | (simp [*]; done)), H', ⟨by have := HK1.out; omega⟩, by repeat (first | exact Drawn0.refl _ | apply Drawn0.step)⟩
          · rw [if_neg c5] at H
            exact absurd H (by simp)
        · rw [if_neg c4] at H
          exact absurd H (by simp)
      · rw [if_neg c3] at H
        have c3b0 : decide (0 ≤ x5_1) = false := decide_eq_false c3
        clear c3
        by_cases c7 : 0 ≤ a1
        · rw [if_pos c7] at H
          have c7b0 : decide (0 ≤ a1) = true := decide_eq_true c7
          clear c7
          by_cases c8 : a1 < (((rd_T30 [xp0] 0).f0).length : Int)
          · rw [if_pos c8] at H
            have c8b0 : decide (a1 < (((rd_T30 [xp0] 0).f0).length : Int)) = true := decide_eq_true c8
            clear c8
            obtain rfl := Option.some.inj H
            have p196 : 0 ≤ (0 : Int) := (by omega)
            have q196 : 0 < ([xp0].length : Int) := (by simp)
            obtain ⟨ad196, A196_0, c196_0, A196_1, c196_1, e196, hx196_0, hx196_1, hl196_0, hi196_0, hl196_1, hi196_1⟩ := at_T30 HR0.out 0 p196 q196
            obtain rfl : adp0 = ad196 := (by injection e196)
            (try rw [show ((0 : Int)).toNat = 0 from rfl] at hx196_0)
            (try rw [show 0 * 2 = 0 from rfl] at hx196_0)
            (try rw [Addr.add_zero'] at hx196_0)
            (try rw [show ((0 : Int)).toNat = 0 from rfl] at hx196_1)
            (try rw [show 0 * 2 = 0 from rfl] at hx196_1)
            (try rw [Addr.add_zero'] at hx196_1)
            have HR196_0 := Aside0.mk hi196_0
            have HC196_0 := Aside0.mk hl196_0
            clear hi196_0 hl196_0
            have HR196_1 := Aside0.mk hi196_1
            have HC196_1 := Aside0.mk hl196_1
            clear hi196_1 hl196_1
            replace p196 := eq_true p196
            replace q196 := eq_true q196
            have p197 : 0 ≤ (a1 : Int) := of_decide_eq_true (by first | (with_reducible assumption) | assumption)
            have q197 : a1 < (((rd_T30 [xp0] 0).f0).length : Int) := of_decide_eq_true (by first | (with_reducible assumption) | assumption)
            obtain ⟨ad197, e197, hx197_0⟩ := Kd.at_int HR196_0.out a1 p197 q197
            cases e197
            replace p197 := eq_true p197
            replace q197 := eq_true q197
            go_wp2
            go_ret
            exact ⟨by first | rfl | (simp; done) | (simp [*]; done), by repeat (first | exact Drawn0.refl _ | apply Drawn0.step)⟩
          · rw [if_neg c8] at H
            exact absurd H (by simp)
        · rw [if_neg c7] at H
          exact absurd H (by simp)

end Go.Proofs.Ytaahjfjpbilfnaa.PD
