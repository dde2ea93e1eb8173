-- Laid by a program of this session's (wip/xprint.py) over the kit's print. Nothing in it is trusted: Lean checks it.
import Derived.Test.YtaahjfjpbilfnaaPDx0
namespace Go.Proofs.Ytaahjfjpbilfnaa.PD
open Go.RowKit Go.Proofs.YtaahjfjpbilfnaaW.PrintWords Go.Proofs.YtaahjfjpbilfnaaW.PrintLast Go.Proofs.YtaahjfjpbilfnaaW.PrintMore
set_option maxHeartbeats 8000000
set_option maxRecDepth 100000
attribute [local go_sem] max2_int min2_int max_two min_two max_three min_three max_four min_four   -- for this text's walks alone
set_option linter.unusedVariables false
set_option linter.unusedSimpArgs false

/-! ### spec_l1At: function 77 -/
def spec_l1At.l0 : Nat → S30 → Int → Int → Option (Int)
 | 0, _, _, _ => none
 | k + 1, x0, x1, x5 => if x5 ≥ 0 then (if 0 ≤ x5 then (if x5 < (((rd_T30 [x0] 0).f1).length : Int) then (if ((rd_T53 ((rd_T30 [x0] 0).f1) x5).f0) = x1 then (some ((rd_T53 ((rd_T30 [x0] 0).f1) x5).f1)) else (spec_l1At.l0 k x0 x1 (wrap64 (x5 - 1)))) else (none)) else (none)) else (if 0 ≤ x1 then (if x1 < (((rd_T30 [x0] 0).f0).length : Int) then (some (rd ((rd_T30 [x0] 0).f0) x1)) else (none)) else (none))
def spec_l1At.f (k : Nat) (xp0 : S30) (a1 : Int) : Option (Int) := spec_l1At.l0 k xp0 a1 (wrap64 ((((rd_T30 [xp0] 0).f1).length : Int) - 1))
theorem spec_l1At.mono_l : ∀ k, (∀ y0 y1 y2, LeO (spec_l1At.l0 k y0 y1 y2) (spec_l1At.l0 (k + 1) y0 y1 y2))
 | 0 => fun _ _ _ r h => by simp [spec_l1At.l0] at h
 | k + 1 => by
  have ih0 := spec_l1At.mono_l k
  ·
   intro y0 y1 y2
   unfold spec_l1At.l0
   repeat' first
   | (with_reducible exact ih0 _ _ _)
   | (with_reducible exact LeO.refl _)
   | (with_reducible exact LeO.none _)
   | (with_reducible refine LeO.ite ?_ ?_)
   | (with_reducible refine LeO.bind ?_ (fun _ => ?_))
   | exact ih0 _ _ _
   | exact LeO.none _
   | refine LeO.ite ?_ ?_
   | refine LeO.bind ?_ (fun _ => ?_)
theorem spec_l1At.mono : ∀ a0 a1 k, LeO (spec_l1At.f k a0 a1) (spec_l1At.f (k + 1) a0 a1) := by
 intro a0 a1 k
 have ih0 := spec_l1At.mono_l k
 unfold spec_l1At.f
 repeat' first
   | (with_reducible exact ih0 _ _ _)
   | (with_reducible exact LeO.refl _)
   | (with_reducible exact LeO.none _)
   | (with_reducible refine LeO.ite ?_ ?_)
   | (with_reducible refine LeO.bind ?_ (fun _ => ?_))
   | exact ih0 _ _ _
   | exact LeO.none _
   | refine LeO.ite ?_ ?_
   | refine LeO.bind ?_ (fun _ => ?_)
theorem spec_l1At.calls (k : Nat) (adp0 : Addr) (xp0 : S30) (a1 : Int) (r : Int) (w : World) (hr0 : Kd.C k30 w (some adp0) 1 [xp0]) (h : spec_l1At.f k xp0 a1 = some r) :
  Calls Try.prog 77 #[.pointer (some adp0), .int .i64 a1] w fun e w' => e = .returned (.int .i64 r) ∧ Drawn0 w w' := by
 have HR0 := Aside0.mk hr0
 clear hr0
 have H : (spec_l1At.l0 k xp0 a1 (wrap64 ((((rd_T30 [xp0] 0).f1).length : Int) - 1))) = some r := h
 clear h
 have H' := Aside0.mk H
 clear H
 have p173 : 0 ≤ (0 : Int) := (by omega)
 have q173 : 0 < ([xp0].length : Int) := (by simp)
 obtain ⟨ad173, A173_0, c173_0, A173_1, c173_1, e173, hx173_0, hx173_1, hl173_0, hi173_0, hl173_1, hi173_1⟩ := at_T30 HR0.out 0 p173 q173
 obtain rfl : adp0 = ad173 := (by injection e173)
 (try rw [show ((0 : Int)).toNat = 0 from rfl] at hx173_0)
 (try rw [show 0 * 2 = 0 from rfl] at hx173_0)
 (try rw [Addr.add_zero'] at hx173_0)
 (try rw [show ((0 : Int)).toNat = 0 from rfl] at hx173_1)
 (try rw [show 0 * 2 = 0 from rfl] at hx173_1)
 (try rw [Addr.add_zero'] at hx173_1)
 have HR173_0 := Aside0.mk hi173_0
 have HC173_0 := Aside0.mk hl173_0
 clear hi173_0 hl173_0
 have HR173_1 := Aside0.mk hi173_1
 have HC173_1 := Aside0.mk hl173_1
 clear hi173_1 hl173_1
 replace p173 := eq_true p173
 replace q173 := eq_true q173
 go_enter Try.func77, Try.ntmps77
 go_wp2
 go_loopg [5] k (fun kq v5 w' => ∃ (x5_1 : Int), v5 = .int .i64 x5_1 ∧ Aside0 (spec_l1At.l0 kq xp0 a1 x5_1 = some r) ∧ Aside0 (kq ≤ k) ∧ Drawn0 w w')
 case atStart => exact ⟨(wrap64 ((((rd_T30 [xp0] 0).f1).length : Int) - 1)), (by first|rfl|(simp;done)|(simp [*];done)), H', ⟨Nat.le_refl _⟩, by repeat (first|exact Drawn0.refl _|apply Drawn0.step)⟩
 case round =>
  clear H'
  try clear c1
  try clear p1
  try clear q1
  try clear hx1
  try clear p2
  try clear hx173_0
  try clear hx173_1
  try clear p173
  try clear q173
  obtain ⟨x5_1, rfl, HA, HK1, ⟨m1, rfl⟩⟩ := hrel
  cases gk with
  | zero => exact absurd HA.out (by simp [spec_l1At.l0])
  | succ k1 =>
   have H := HA.out
   clear HA
   simp only [spec_l1At.l0] at H
   by_cases c3 : x5_1 ≥ 0
   ·
    rw [if_pos c3] at H
    have c3b0 : decide (0 ≤ x5_1) = true := decide_eq_true c3
    clear c3
    by_cases c4 : 0 ≤ x5_1
    ·
     rw [if_pos c4] at H
     have c4b0 : decide (0 ≤ x5_1) = true := decide_eq_true c4
     clear c4
     by_cases c5 : x5_1 < (((rd_T30 [xp0] 0).f1).length : Int)
     ·
      rw [if_pos c5] at H
      have c5b0 : decide (x5_1 < (((rd_T30 [xp0] 0).f1).length : Int)) = true := decide_eq_true c5
      clear c5
      by_cases c6 : ((rd_T53 ((rd_T30 [xp0] 0).f1) x5_1).f0) = a1
      ·
       rw [if_pos c6] at H
       have c6b0 : (((rd_T53 ((rd_T30 [xp0] 0).f1) x5_1).f0) == a1) = true := beq_iff_eq.mpr c6
       have c6b1 : (((rd_T53 ((rd_T30 [xp0] 0).f1) x5_1).f0) != a1) = false := bne_eq_false_iff_eq.mpr c6
       clear c6
       obtain rfl := Option.some.inj H
       have p174 : 0 ≤ (0 : Int) := (by omega)
       have q174 : 0 < ([xp0].length : Int) := (by simp)
       obtain ⟨ad174, A174_0, c174_0, A174_1, c174_1, e174, hx174_0, hx174_1, hl174_0, hi174_0, hl174_1, hi174_1⟩ := at_T30 HR0.out 0 p174 q174
       obtain rfl : adp0 = ad174 := (by injection e174)
       (try rw [show ((0 : Int)).toNat = 0 from rfl] at hx174_0)
       (try rw [show 0 * 2 = 0 from rfl] at hx174_0)
       (try rw [Addr.add_zero'] at hx174_0)
       (try rw [show ((0 : Int)).toNat = 0 from rfl] at hx174_1)
       (try rw [show 0 * 2 = 0 from rfl] at hx174_1)
       (try rw [Addr.add_zero'] at hx174_1)
       have HR174_0 := Aside0.mk hi174_0
       have HC174_0 := Aside0.mk hl174_0
       clear hi174_0 hl174_0
       have HR174_1 := Aside0.mk hi174_1
       have HC174_1 := Aside0.mk hl174_1
       clear hi174_1 hl174_1
       replace p174 := eq_true p174
       replace q174 := eq_true q174
       have p175 : 0 ≤ (x5_1 : Int) := of_decide_eq_true (by first|(with_reducible assumption)|assumption)
       have q175 : x5_1 < (((rd_T30 [xp0] 0).f1).length : Int) := of_decide_eq_true (by first|(with_reducible assumption)|assumption)
       obtain ⟨ad175, e175, hx175_0, hx175_1⟩ := at_T53 HR174_1.out x5_1 p175 q175
       cases e175
       replace p175 := eq_true p175
       replace q175 := eq_true q175
       have p176 : 0 ≤ (x5_1 : Int) := of_decide_eq_true (by first|(with_reducible assumption)|assumption)
       have q176 : x5_1 < (((rd_T30 [xp0] 0).f1).length : Int) := of_decide_eq_true (by first|(with_reducible assumption)|assumption)
       obtain ⟨ad176, e176, hx176_0, hx176_1⟩ := at_T53 HR174_1.out x5_1 p176 q176
       obtain rfl : ad175 = ad176 := (by injection e176)
       replace p176 := eq_true p176
       replace q176 := eq_true q176
       go_wp2
       go_ret
       exact ⟨by first|rfl|(simp;done)|(simp [*];done), by repeat (first|exact Drawn0.refl _|apply Drawn0.step)⟩
      ·
       rw [if_neg c6] at H
       have c6b0 : (((rd_T53 ((rd_T30 [xp0] 0).f1) x5_1).f0) == a1) = false := beq_eq_false_iff_ne.mpr c6
       have c6b1 : (((rd_T53 ((rd_T30 [xp0] 0).f1) x5_1).f0) != a1) = true := bne_iff_ne.mpr c6
       have H' := Aside0.mk H
       clear H
       have p174 : 0 ≤ (0 : Int) := (by omega)
       have q174 : 0 < ([xp0].length : Int) := (by simp)
       obtain ⟨ad174, A174_0, c174_0, A174_1, c174_1, e174, hx174_0, hx174_1, hl174_0, hi174_0, hl174_1, hi174_1⟩ := at_T30 HR0.out 0 p174 q174
       obtain rfl : adp0 = ad174 := (by injection e174)
       (try rw [show ((0 : Int)).toNat = 0 from rfl] at hx174_0)
       (try rw [show 0 * 2 = 0 from rfl] at hx174_0)
       (try rw [Addr.add_zero'] at hx174_0)
       (try rw [show ((0 : Int)).toNat = 0 from rfl] at hx174_1)
       (try rw [show 0 * 2 = 0 from rfl] at hx174_1)
       (try rw [Addr.add_zero'] at hx174_1)
       have HR174_0 := Aside0.mk hi174_0
       have HC174_0 := Aside0.mk hl174_0
       clear hi174_0 hl174_0
       have HR174_1 := Aside0.mk hi174_1
       have HC174_1 := Aside0.mk hl174_1
       clear hi174_1 hl174_1
       replace p174 := eq_true p174
       replace q174 := eq_true q174
       have p175 : 0 ≤ (x5_1 : Int) := of_decide_eq_true (by first|(with_reducible assumption)|assumption)
       have q175 : x5_1 < (((rd_T30 [xp0] 0).f1).length : Int) := of_decide_eq_true (by first|(with_reducible assumption)|assumption)
       obtain ⟨ad175, e175, hx175_0, hx175_1⟩ := at_T53 HR174_1.out x5_1 p175 q175
       cases e175
       replace p175 := eq_true p175
       replace q175 := eq_true q175
       go_wp2
       go_roundg k1
       case measure => have := HK1.out;omega
       case rel => exact ⟨(wrap64 (x5_1 - 1)), (by first|rfl|(simp;done)|(simp [*];done)), H', ⟨by have := HK1.out;omega⟩, by repeat (first|exact Drawn0.refl _|apply Drawn0.step)⟩
     ·
      rw [if_neg c5] at H
      exact absurd H (by simp)
    ·
     rw [if_neg c4] at H
     exact absurd H (by simp)
   ·
    rw [if_neg c3] at H
    have c3b0 : decide (0 ≤ x5_1) = false := decide_eq_false c3
    clear c3
    by_cases c7 : 0 ≤ a1
    ·
     rw [if_pos c7] at H
     have c7b0 : decide (0 ≤ a1) = true := decide_eq_true c7
     clear c7
     by_cases c8 : a1 < (((rd_T30 [xp0] 0).f0).length : Int)
     ·
      rw [if_pos c8] at H
      have c8b0 : decide (a1 < (((rd_T30 [xp0] 0).f0).length : Int)) = true := decide_eq_true c8
      clear c8
      obtain rfl := Option.some.inj H
      have p177 : 0 ≤ (0 : Int) := (by omega)
      have q177 : 0 < ([xp0].length : Int) := (by simp)
      obtain ⟨ad177, A177_0, c177_0, A177_1, c177_1, e177, hx177_0, hx177_1, hl177_0, hi177_0, hl177_1, hi177_1⟩ := at_T30 HR0.out 0 p177 q177
      obtain rfl : adp0 = ad177 := (by injection e177)
      (try rw [show ((0 : Int)).toNat = 0 from rfl] at hx177_0)
      (try rw [show 0 * 2 = 0 from rfl] at hx177_0)
      (try rw [Addr.add_zero'] at hx177_0)
      (try rw [show ((0 : Int)).toNat = 0 from rfl] at hx177_1)
      (try rw [show 0 * 2 = 0 from rfl] at hx177_1)
      (try rw [Addr.add_zero'] at hx177_1)
      have HR177_0 := Aside0.mk hi177_0
      have HC177_0 := Aside0.mk hl177_0
      clear hi177_0 hl177_0
      have HR177_1 := Aside0.mk hi177_1
      have HC177_1 := Aside0.mk hl177_1
      clear hi177_1 hl177_1
      replace p177 := eq_true p177
      replace q177 := eq_true q177
      have p178 : 0 ≤ (a1 : Int) := of_decide_eq_true (by first|(with_reducible assumption)|assumption)
      have q178 : a1 < (((rd_T30 [xp0] 0).f0).length : Int) := of_decide_eq_true (by first|(with_reducible assumption)|assumption)
      obtain ⟨ad178, e178, hx178_0⟩ := Kd.at_int HR177_0.out a1 p178 q178
      cases e178
      replace p178 := eq_true p178
      replace q178 := eq_true q178
      go_wp2
      go_ret
      exact ⟨by first|rfl|(simp;done)|(simp [*];done), by repeat (first|exact Drawn0.refl _|apply Drawn0.step)⟩
     ·
      rw [if_neg c8] at H
      exact absurd H (by simp)
    ·
     rw [if_neg c7] at H
     exact absurd H (by simp)

end Go.Proofs.Ytaahjfjpbilfnaa.PD
