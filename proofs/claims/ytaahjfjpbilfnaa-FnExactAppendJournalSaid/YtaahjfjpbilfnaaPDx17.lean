-- Laid by a program of this session's (wip/xprint.py) over the kit's print. Nothing in it is trusted: Lean checks it.
import Derived.Test.YtaahjfjpbilfnaaPDx0
import Derived.Test.YtaahjfjpbilfnaaPDx11
import Derived.Test.YtaahjfjpbilfnaaPDx16
namespace Go.Proofs.Ytaahjfjpbilfnaa.PD
open Go.RowKit Go.Proofs.YtaahjfjpbilfnaaW.PrintWords Go.Proofs.YtaahjfjpbilfnaaW.PrintLast Go.Proofs.YtaahjfjpbilfnaaW.PrintMore
set_option maxHeartbeats 8000000
set_option maxRecDepth 100000
attribute [local go_sem] max2_int min2_int max_two min_two max_three min_three max_four min_four   -- for this text's walks alone
set_option linter.unusedVariables false
set_option linter.unusedSimpArgs false

/-! ### spec_l2Scan: function 92 -/
mutual
def spec_l2Scan.l0 : Nat → List Int → List (List Int) → Int → Option ((List (List Int)) × Int)
 | 0, _, _, _ => none
 | k + 1, x0, x4, x5 => if (wrap64 (x5 + 2)) < (x0.length : Int) then (if 0 ≤ x5 then (if x5 < (x0.length : Int) then ((spec_l1In.f (rd x0 x5) 1 8).bind fun t212 => (if t212 = true then (spec_l2Scan.j1 k x0 x4 x5 (rd x0 x5) (decide ((wrap64 ((wrap64 (x5 + 2)) + (rd x0 x5))) > (x0.length : Int)))) else (spec_l2Scan.j1 k x0 x4 x5 (rd x0 x5) true))) else (none)) else (none)) else (some (x4, x5))
def spec_l2Scan.j1 : Nat → List Int → List (List Int) → Int → Int → Bool → Option ((List (List Int)) × Int)
 | 0, _, _, _, _, _ => none
 | k + 1, x0, x4, x5, x6, x29 => if x29 = true then (some (x4, x5)) else ((some (([] : List Int) : List Int)).bind fun y213 => (if 0 ≤ (wrap64 (x5 + 2)) then (if (wrap64 (x5 + 2)) ≤ (wrap64 ((wrap64 (x5 + 2)) + x6)) then (if (wrap64 ((wrap64 (x5 + 2)) + x6)) ≤ (x0.length : Int) then (if y213.length + ((x0.take ((wrap64 ((wrap64 (x5 + 2)) + x6)) : Int).toNat).drop ((wrap64 (x5 + 2)) : Int).toNat).length < 17592186044416 then ((some (y213 ++ ((x0.take ((wrap64 ((wrap64 (x5 + 2)) + x6)) : Int).toNat).drop ((wrap64 (x5 + 2)) : Int).toNat) : List Int)).bind fun y217 => (if 0 ≤ (wrap64 (x5 + 1)) then (if (wrap64 (x5 + 1)) < (x0.length : Int) then ((spec_l2Sum.f k (x4.length : Int) y217).bind fun t221 => (if (rd x0 (wrap64 (x5 + 1))) = t221 then (if x4.length < 5864062014805 then (spec_l2Scan.l0 k x0 (x4 ++ [y217]) (wrap64 ((wrap64 (x5 + 2)) + x6))) else (none)) else (some (x4, x5)))) else (none)) else (none))) else (none)) else (none)) else (none)) else (none)))
end
def spec_l2Scan.f (k : Nat) (l0 : List Int) : Option ((List (List Int)) × Int) := spec_l2Scan.l0 k l0 (([] : List (List Int))) 0
theorem spec_l2Scan.mono_l : ∀ k, (∀ y0 y1 y2, LeO (spec_l2Scan.l0 k y0 y1 y2) (spec_l2Scan.l0 (k + 1) y0 y1 y2)) ∧ (∀ y0 y1 y2 y3 y4, LeO (spec_l2Scan.j1 k y0 y1 y2 y3 y4) (spec_l2Scan.j1 (k + 1) y0 y1 y2 y3 y4))
 | 0 => ⟨fun _ _ _ r h => by simp [spec_l2Scan.l0] at h, fun _ _ _ _ _ r h => by simp [spec_l2Scan.j1] at h⟩
 | k + 1 => by
  obtain ⟨ih0, ih1⟩ := spec_l2Scan.mono_l k
  refine ⟨?_, ?_⟩
  ·
   intro y0 y1 y2
   unfold spec_l2Scan.l0
   repeat' first
   | (with_reducible exact ih0 _ _ _)
   | (with_reducible exact ih1 _ _ _ _ _)
   | (with_reducible exact spec_l2Sum.mono _ _ _)
   | (with_reducible exact LeO.refl _)
   | (with_reducible exact LeO.none _)
   | (with_reducible refine LeO.ite ?_ ?_)
   | (with_reducible refine LeO.bind ?_ (fun _ => ?_))
   | exact ih0 _ _ _
   | exact ih1 _ _ _ _ _
   | exact spec_l2Sum.mono _ _ _
   | exact LeO.none _
   | refine LeO.ite ?_ ?_
   | refine LeO.bind ?_ (fun _ => ?_)
  ·
   intro y0 y1 y2 y3 y4
   unfold spec_l2Scan.j1
   repeat' first
   | (with_reducible exact ih0 _ _ _)
   | (with_reducible exact ih1 _ _ _ _ _)
   | (with_reducible exact spec_l2Sum.mono _ _ _)
   | (with_reducible exact LeO.refl _)
   | (with_reducible exact LeO.none _)
   | (with_reducible refine LeO.ite ?_ ?_)
   | (with_reducible refine LeO.bind ?_ (fun _ => ?_))
   | exact ih0 _ _ _
   | exact ih1 _ _ _ _ _
   | exact spec_l2Sum.mono _ _ _
   | exact LeO.none _
   | refine LeO.ite ?_ ?_
   | refine LeO.bind ?_ (fun _ => ?_)
theorem spec_l2Scan.mono : ∀ a0 k, LeO (spec_l2Scan.f k a0) (spec_l2Scan.f (k + 1) a0) := by
 intro a0 k
 obtain ⟨ih0, ih1⟩ := spec_l2Scan.mono_l k
 unfold spec_l2Scan.f
 repeat' first
   | (with_reducible exact ih0 _ _ _)
   | (with_reducible exact ih1 _ _ _ _ _)
   | (with_reducible exact spec_l2Sum.mono _ _ _)
   | (with_reducible exact LeO.refl _)
   | (with_reducible exact LeO.none _)
   | (with_reducible refine LeO.ite ?_ ?_)
   | (with_reducible refine LeO.bind ?_ (fun _ => ?_))
   | exact ih0 _ _ _
   | exact ih1 _ _ _ _ _
   | exact spec_l2Sum.mono _ _ _
   | exact LeO.none _
   | refine LeO.ite ?_ ?_
   | refine LeO.bind ?_ (fun _ => ?_)
def spec_l2Scan.T8 : Bool × List (List Nat × List Nat) := (true, [([], []), ([], []), ([1], [1]), ([0, 2], [0, 2]), ([3], [3]), ([], []), ([5], [5]), ([], []), ([6, 7], [6, 7]), ([4, 8], [4, 8])])
def spec_l2Scan.B8 : List Nat := [0, 0, 2, 7, 15, 0, 32, 0, 224, 511]
theorem spec_l2Scan.tab8 : rtab .any (opsOf Try.f92 8) = spec_l2Scan.T8 := by kernel_rfl
theorem spec_l2Scan.bits8 : waitsOk spec_l2Scan.T8.2 spec_l2Scan.B8 = true := by kernel_rfl
theorem spec_l2Scan.calls (k : Nat) (A0 : Option Addr) (c0 : Nat) (l0 : List Int) (r1 : List (List Int)) (r2 : Int) (w : World) (hr0 : Kd.C (Kd.int .i64) w A0 l0.length l0) (hc0 : l0.length ≤ c0) (h : spec_l2Scan.f k l0 = some (r1, r2)) :
  Calls Try.prog 92 #[.slice A0 l0.length c0] w fun e w' => ∃ v0_ : Value, e = .returned (.tuple #[v0_, .int .i64 r2]) ∧ Kd.S (Kd.slice 2 (Kd.int .i64)) 22 w' w.heap.size (fun _ => True) v0_ r1 ∧ Below w.heap.size w w' := by
 have HR0 := Aside0.mk hr0
 have HC0 := Aside0.mk hc0
 clear hr0 hc0
 have HB := Aside0.mk (Below.refl w.heap.size w)
 have H : (spec_l2Scan.l0 k l0 (([] : List (List Int))) 0) = some (r1, r2) := h
 clear h
 obtain ⟨y208, hy208⟩ : ∃ y_ : List (List Int), y_ = (([] : List (List Int))) := ⟨_, rfl⟩
 replace H : (spec_l2Scan.l0 k l0 y208 0) = some (r1, r2) := by first|(rw [hy208];with_reducible exact H)|(have H2_ := (Option.bind_some _ _).symm.trans H;rw [hy208];with_reducible exact H2_)|(have H2_ := (Option.bind_some _ _).symm.trans H;with_reducible exact H2_)|with_reducible exact H|(rw [hy208];exact H)|exact H
 have Ny208 := Aside0.mk hy208
 clear hy208
 have H' := Aside0.mk H
 clear H
 go_enter Try.func92, Try.ntmps92
 go_wp2_with (first|((with_reducible refine gate_dst (N := 8) rfl ?_);(try (refine gate_guard (by rfl) ?_;dsimp only));refine Kd.S_lit (Kd.slice 2 (Kd.int .i64)) _ 22 ?hg (N := 8) ?hd (xs := ([] : List (List Int))) (inner := []) (ok := fun _ => True) (okp := fun _ => True) ?hr ?hp (fun _ hk => hk) trivial (Below.refl _ _) (Nat.le_refl _) (by simp) ?_;(case hd => rfl);(case hg => rfl);(case hr => first|(go_simp;done)|(go_simp;rfl));(case hp => exact (Reps.none _ _));intro v209 w2 ho3 hb hg_ hnew_;clear hg_ hnew_;(first|rw [← Ny208.out] at ho3|(simp only [Int.reduceToNat] at ho3;rw [← Ny208.out] at ho3));have n0_ := Aside0.mk (Kd.S_lower ho3 (below_size (by repeat (first|(with_reducible first|exact HB.out|apply below_alloc|apply pw_below_drewN|apply below_drew1)|exact HB.out))));have n1_ := Aside0.mk (below_step (by repeat (first|(with_reducible first|exact HB.out|apply below_alloc|apply pw_below_drewN|apply below_drew1)|exact HB.out)) hb);clear HB;have HO210 := n0_;have HB := n1_;clear n0_ n1_;clear hb ho3))
 go_loopg [4, 5] k (fun kq v4 v5 w' => ∃ (x4_1 : List (List Int)) (x5_1 : Int), v5 = .int .i64 x5_1 ∧ Aside0 (spec_l2Scan.l0 kq l0 x4_1 x5_1 = some (r1, r2)) ∧ Aside0 (kq ≤ k) ∧ Aside0 (Kd.S (Kd.slice 2 (Kd.int .i64)) 22 w' w.heap.size (fun _ => True) v4 x4_1) ∧ Aside0 (Below w.heap.size w w'))
 case atStart => exact ⟨(y208), (0), (by first|rfl|(simp;done)|(simp [*];done)), H', ⟨Nat.le_refl _⟩, ⟨by (with_reducible repeat (first|apply Kd.S_alloc|apply Kd.S_drewN|apply Kd.S_drew));exact HO210.out⟩, ⟨by repeat (first|(with_reducible first|exact HB.out|apply below_alloc|apply pw_below_drewN|apply below_drew1)|exact HB.out)⟩⟩
 case round =>
  clear H'
  try clear p2
  obtain ⟨x4_1, x5_1, rfl, HA, HK1, HO_4, HB⟩ := hrel
  cases gk with
  | zero => exact absurd HA.out (by simp [spec_l2Scan.l0])
  | succ k1 =>
   have H := HA.out
   clear HA
   simp only [spec_l2Scan.l0] at H
   by_cases c4 : (wrap64 (x5_1 + 2)) < (l0.length : Int)
   ·
    rw [if_pos c4] at H
    have c4b0 : decide ((wrap64 (x5_1 + 2)) < (l0.length : Int)) = true := decide_eq_true c4
    clear c4
    by_cases c5 : 0 ≤ x5_1
    ·
     rw [if_pos c5] at H
     have c5b0 : decide (0 ≤ x5_1) = true := decide_eq_true c5
     clear c5
     by_cases c6 : x5_1 < (l0.length : Int)
     ·
      rw [if_pos c6] at H
      have c6b0 : decide (x5_1 < (l0.length : Int)) = true := decide_eq_true c6
      clear c6
      have HC7 := Aside0.mk H
      clear H
      have p211 : 0 ≤ (x5_1 : Int) := of_decide_eq_true (by first|(with_reducible assumption)|assumption)
      have q211 : x5_1 < (l0.length : Int) := of_decide_eq_true (by first|(with_reducible assumption)|assumption)
      obtain ⟨ad211, e211, hx211_0⟩ := Kd.at_int HR0.out x5_1 p211 q211
      cases e211
      replace hx211_0 := (HB.out.cell (World.block_lt_of_cell? w _ hx211_0)).trans hx211_0
      replace p211 := eq_true p211
      replace q211 := eq_true q211
      go_upto_region 5 with (fail)
      go_cut [29] (fun v29 wc => ∃ (kq : Nat) (x29_6 : Bool), v29 = .bool x29_6 ∧ Aside0 (spec_l2Scan.j1 kq l0 x4_1 x5_1 (rd l0 x5_1) x29_6 = some (r1, r2)) ∧ Aside0 (kq ≤ k1) ∧ Aside0 (Kd.S (Kd.slice 2 (Kd.int .i64)) 22 wc w.heap.size (fun _ => True) u4 x4_1) ∧ Aside0 (Below w.heap.size w wc))
      case first =>
       have H := HC7.out
       clear HC7
       replace H := Option.bind_eq_some_iff.mp H
       obtain ⟨t212, A80, H⟩ := H
       replace H : (if t212 = true then (spec_l2Scan.j1 k1 l0 x4_1 x5_1 (rd l0 x5_1) (decide ((wrap64 ((wrap64 (x5_1 + 2)) + (rd l0 x5_1))) > (l0.length : Int)))) else (spec_l2Scan.j1 k1 l0 x4_1 x5_1 (rd l0 x5_1) true)) = some (r1, r2) := H
       have A8 := Aside0.mk A80
       clear A80
       by_cases c9 : t212 = true
       ·
        subst c9
        have H1 : (spec_l2Scan.j1 k1 l0 x4_1 x5_1 (rd l0 x5_1) (decide ((wrap64 ((wrap64 (x5_1 + 2)) + (rd l0 x5_1))) > (l0.length : Int)))) = some (r1, r2) := by rw [if_pos rfl] at H;exact H
        clear H
        have H := H1
        clear H1
        have H' := Aside0.mk H
        clear H
        go_wp2_with (first|((with_reducible refine gate_callee (f := 110) rfl ?_);refine goesL_ (some 19) rfl rfl Try.func110 (by kernel_rfl) rfl #[.int .i64 (rd l0 x5_1), .int .i64 1, .int .i64 8] rfl (by (try simp only [List.map_toArray, List.map_cons, List.map_nil]);first|done|rfl|(simp only [List.length_drop, List.length_take];rfl)) ?_;(with_reducible refine (spec_l1In.calls (rd l0 x5_1) 1 8 true _ A8.out).mono ?_);rintro e w' ⟨rfl, ⟨nd, rfl⟩⟩;refine ⟨_, rfl, ?_⟩))
        go_meet
        case rel => exact ⟨_, (decide ((wrap64 ((wrap64 (x5_1 + 2)) + (rd l0 x5_1))) > (l0.length : Int))), (by first|rfl|(simp;done)|(simp [*];done)), H', ⟨by have := HK1.out;first|omega|exact Nat.le_refl _⟩, ⟨by (with_reducible repeat (first|apply Kd.S_alloc|apply Kd.S_drewN|apply Kd.S_drew));exact HO_4.out⟩, ⟨by repeat (first|(with_reducible first|exact HB.out|apply below_alloc|apply pw_below_drewN|apply below_drew1)|exact HB.out)⟩⟩
       ·
        replace c9 := Bool.eq_false_iff.mpr c9
        subst c9
        have H1 : (spec_l2Scan.j1 k1 l0 x4_1 x5_1 (rd l0 x5_1) true) = some (r1, r2) := by rw [if_neg (show ¬ (false = true) by decide)] at H;exact H
        clear H
        have H := H1
        clear H1
        have H' := Aside0.mk H
        clear H
        go_wp2_with (first|((with_reducible refine gate_callee (f := 110) rfl ?_);refine goesL_ (some 19) rfl rfl Try.func110 (by kernel_rfl) rfl #[.int .i64 (rd l0 x5_1), .int .i64 1, .int .i64 8] rfl (by (try simp only [List.map_toArray, List.map_cons, List.map_nil]);first|done|rfl|(simp only [List.length_drop, List.length_take];rfl)) ?_;(with_reducible refine (spec_l1In.calls (rd l0 x5_1) 1 8 false _ A8.out).mono ?_);rintro e w' ⟨rfl, ⟨nd, rfl⟩⟩;refine ⟨_, rfl, ?_⟩))
        go_meet
        case rel => exact ⟨_, (true), (by first|rfl|(simp;done)|(simp [*];done)), H', ⟨by have := HK1.out;first|omega|exact Nat.le_refl _⟩, ⟨by (with_reducible repeat (first|apply Kd.S_alloc|apply Kd.S_drewN|apply Kd.S_drew));exact HO_4.out⟩, ⟨by repeat (first|(with_reducible first|exact HB.out|apply below_alloc|apply pw_below_drewN|apply below_drew1)|exact HB.out)⟩⟩
      case rest =>
       clear HC7
       try clear c1
       try clear p2
       try clear q2
       try clear hx2
       try clear c4
       try clear c4b0
       try clear c5
       try clear c5b0
       try clear c6
       try clear c6b0
       try clear p6
       try clear c9
       try clear hx211_0
       try clear p2
       try clear p211
       try clear q211
       obtain ⟨kq, x29_6, rfl, HA, HJ6, HO_4, HB⟩ := hcut
       cases kq with
       | zero => exact absurd HA.out (by simp [spec_l2Scan.j1])
       | succ kj6 =>
        have H := HA.out
        clear HA
        simp only [spec_l2Scan.j1] at H
        by_cases c10 : x29_6 = true
        ·
         subst c10
         have H1 : (some (x4_1, x5_1)) = some (r1, r2) := by rw [if_pos rfl] at H;exact H
         clear H
         have H := H1
         clear H1
         simp only [Option.some.injEq, Prod.mk.injEq] at H
         obtain ⟨rfl, rfl⟩ := H
         go_wp2
         go_ret2
         exact ⟨_, by first|rfl|(simp [errW_none, errW_some] <;> rfl)|(simp [*, errW_none, errW_some] <;> rfl), by (with_reducible repeat (first|apply Kd.S_alloc|apply Kd.S_drewN|apply Kd.S_drew));exact HO_4.out, by repeat (first|(with_reducible first|exact HB.out|apply below_alloc|apply pw_below_drewN|apply below_drew1)|exact HB.out)⟩
        ·
         replace c10 := Bool.eq_false_iff.mpr c10
         subst c10
         have H1 : ((some (([] : List Int) : List Int)).bind fun y213 => (if 0 ≤ (wrap64 (x5_1 + 2)) then (if (wrap64 (x5_1 + 2)) ≤ (wrap64 ((wrap64 (x5_1 + 2)) + (rd l0 x5_1))) then (if (wrap64 ((wrap64 (x5_1 + 2)) + (rd l0 x5_1))) ≤ (l0.length : Int) then (if y213.length + ((l0.take ((wrap64 ((wrap64 (x5_1 + 2)) + (rd l0 x5_1))) : Int).toNat).drop ((wrap64 (x5_1 + 2)) : Int).toNat).length < 17592186044416 then ((some (y213 ++ ((l0.take ((wrap64 ((wrap64 (x5_1 + 2)) + (rd l0 x5_1))) : Int).toNat).drop ((wrap64 (x5_1 + 2)) : Int).toNat) : List Int)).bind fun y217 => (if 0 ≤ (wrap64 (x5_1 + 1)) then (if (wrap64 (x5_1 + 1)) < (l0.length : Int) then ((spec_l2Sum.f kj6 (x4_1.length : Int) y217).bind fun t221 => (if (rd l0 (wrap64 (x5_1 + 1))) = t221 then (if x4_1.length < 5864062014805 then (spec_l2Scan.l0 kj6 l0 (x4_1 ++ [y217]) (wrap64 ((wrap64 (x5_1 + 2)) + (rd l0 x5_1)))) else (none)) else (some (x4_1, x5_1)))) else (none)) else (none))) else (none)) else (none)) else (none)) else (none))) = some (r1, r2) := by rw [if_neg (show ¬ (false = true) by decide)] at H;exact H
         clear H
         have H := H1
         clear H1
         obtain ⟨y213, hy213⟩ : ∃ y_ : List Int, y_ = (([] : List Int)) := ⟨_, rfl⟩
         replace H : (if 0 ≤ (wrap64 (x5_1 + 2)) then (if (wrap64 (x5_1 + 2)) ≤ (wrap64 ((wrap64 (x5_1 + 2)) + (rd l0 x5_1))) then (if (wrap64 ((wrap64 (x5_1 + 2)) + (rd l0 x5_1))) ≤ (l0.length : Int) then (if y213.length + ((l0.take ((wrap64 ((wrap64 (x5_1 + 2)) + (rd l0 x5_1))) : Int).toNat).drop ((wrap64 (x5_1 + 2)) : Int).toNat).length < 17592186044416 then ((some (y213 ++ ((l0.take ((wrap64 ((wrap64 (x5_1 + 2)) + (rd l0 x5_1))) : Int).toNat).drop ((wrap64 (x5_1 + 2)) : Int).toNat) : List Int)).bind fun y217 => (if 0 ≤ (wrap64 (x5_1 + 1)) then (if (wrap64 (x5_1 + 1)) < (l0.length : Int) then ((spec_l2Sum.f kj6 (x4_1.length : Int) y217).bind fun t221 => (if (rd l0 (wrap64 (x5_1 + 1))) = t221 then (if x4_1.length < 5864062014805 then (spec_l2Scan.l0 kj6 l0 (x4_1 ++ [y217]) (wrap64 ((wrap64 (x5_1 + 2)) + (rd l0 x5_1)))) else (none)) else (some (x4_1, x5_1)))) else (none)) else (none))) else (none)) else (none)) else (none)) else (none)) = some (r1, r2) := by first|(rw [hy213];with_reducible exact H)|(have H2_ := (Option.bind_some _ _).symm.trans H;rw [hy213];with_reducible exact H2_)|(have H2_ := (Option.bind_some _ _).symm.trans H;with_reducible exact H2_)|with_reducible exact H|(rw [hy213];exact H)|exact H
         have Ny213 := Aside0.mk hy213
         clear hy213
         obtain ⟨ji11, hji11⟩ : ∃ j_ : Int, (wrap64 (x5_1 + 2)) = j_ := ⟨_, rfl⟩
         replace H : (if 0 ≤ (ji11) then (if (ji11) ≤ (wrap64 ((ji11) + (rd l0 x5_1))) then (if (wrap64 ((ji11) + (rd l0 x5_1))) ≤ (l0.length : Int) then (if y213.length + ((l0.take ((wrap64 ((ji11) + (rd l0 x5_1))) : Int).toNat).drop ((ji11) : Int).toNat).length < 17592186044416 then ((some (y213 ++ ((l0.take ((wrap64 ((ji11) + (rd l0 x5_1))) : Int).toNat).drop ((ji11) : Int).toNat) : List Int)).bind fun y217 => (if 0 ≤ (wrap64 (x5_1 + 1)) then (if (wrap64 (x5_1 + 1)) < (l0.length : Int) then ((spec_l2Sum.f kj6 (x4_1.length : Int) y217).bind fun t221 => (if (rd l0 (wrap64 (x5_1 + 1))) = t221 then (if x4_1.length < 5864062014805 then (spec_l2Scan.l0 kj6 l0 (x4_1 ++ [y217]) (wrap64 ((ji11) + (rd l0 x5_1)))) else (none)) else (some (x4_1, x5_1)))) else (none)) else (none))) else (none)) else (none)) else (none)) else (none)) = some (r1, r2) := by first|(rw [hji11] at H;exact H)|(simp only [hji11] at H ⊢;exact H)
         (try rw [hji11] at c4b0)
         have hji11w : (IntKind.i64.wrap (x5_1 + 2)) = ji11 := (i64_w _).trans hji11
         by_cases c12 : 0 ≤ (ji11)
         ·
          rw [if_pos c12] at H
          have c12b0 := eq_true c12
          have c12b1 : decide (0 ≤ (ji11)) = true := decide_eq_true c12
          clear c12
          by_cases c13 : (ji11) ≤ (wrap64 ((ji11) + (rd l0 x5_1)))
          ·
           rw [if_pos c13] at H
           have c13b0 := eq_true c13
           have c13b1 : decide ((ji11) ≤ (wrap64 ((ji11) + (rd l0 x5_1)))) = true := decide_eq_true c13
           by_cases c14 : (wrap64 ((ji11) + (rd l0 x5_1))) ≤ (l0.length : Int)
           ·
            rw [if_pos c14] at H
            have c14b0 := eq_true c14
            have c14b1 : decide ((wrap64 ((ji11) + (rd l0 x5_1))) ≤ (l0.length : Int)) = true := decide_eq_true c14
            by_cases c15 : y213.length + ((l0.take ((wrap64 ((ji11) + (rd l0 x5_1))) : Int).toNat).drop ((ji11) : Int).toNat).length < 17592186044416
            ·
             rw [if_pos c15] at H
             have LMc15 := Aside0.mk c15
             clear c15
             obtain ⟨y217, hy217⟩ : ∃ y_ : List Int, y_ = (y213 ++ ((l0.take ((wrap64 ((ji11) + (rd l0 x5_1))) : Int).toNat).drop ((ji11) : Int).toNat)) := ⟨_, rfl⟩
             replace H : (if 0 ≤ (wrap64 (x5_1 + 1)) then (if (wrap64 (x5_1 + 1)) < (l0.length : Int) then ((spec_l2Sum.f kj6 (x4_1.length : Int) y217).bind fun t221 => (if (rd l0 (wrap64 (x5_1 + 1))) = t221 then (if x4_1.length < 5864062014805 then (spec_l2Scan.l0 kj6 l0 (x4_1 ++ [y217]) (wrap64 ((ji11) + (rd l0 x5_1)))) else (none)) else (some (x4_1, x5_1)))) else (none)) else (none)) = some (r1, r2) := by first|(rw [hy217];with_reducible exact H)|(have H2_ := (Option.bind_some _ _).symm.trans H;rw [hy217];with_reducible exact H2_)|(have H2_ := (Option.bind_some _ _).symm.trans H;with_reducible exact H2_)|with_reducible exact H|(rw [hy217];exact H)|exact H
             have Ny217 := Aside0.mk hy217
             clear hy217
             obtain ⟨ji16, hji16⟩ : ∃ j_ : Int, (wrap64 (x5_1 + 1)) = j_ := ⟨_, rfl⟩
             replace H : (if 0 ≤ (ji16) then (if (ji16) < (l0.length : Int) then ((spec_l2Sum.f kj6 (x4_1.length : Int) y217).bind fun t221 => (if (rd l0 (ji16)) = t221 then (if x4_1.length < 5864062014805 then (spec_l2Scan.l0 kj6 l0 (x4_1 ++ [y217]) (wrap64 ((ji11) + (rd l0 x5_1)))) else (none)) else (some (x4_1, x5_1)))) else (none)) else (none)) = some (r1, r2) := by first|(rw [hji16] at H;exact H)|(simp only [hji16] at H ⊢;exact H)
             have hji16w : (IntKind.i64.wrap (x5_1 + 1)) = ji16 := (i64_w _).trans hji16
             by_cases c17 : 0 ≤ (ji16)
             ·
              rw [if_pos c17] at H
              have c17b0 : decide (0 ≤ (ji16)) = true := decide_eq_true c17
              clear c17
              by_cases c18 : (ji16) < (l0.length : Int)
              ·
               rw [if_pos c18] at H
               have c18b0 : decide ((ji16) < (l0.length : Int)) = true := decide_eq_true c18
               clear c18
               replace H := Option.bind_eq_some_iff.mp H
               obtain ⟨t221, A190, H⟩ := H
               replace H : (if (rd l0 (ji16)) = t221 then (if x4_1.length < 5864062014805 then (spec_l2Scan.l0 kj6 l0 (x4_1 ++ [y217]) (wrap64 ((ji11) + (rd l0 x5_1)))) else (none)) else (some (x4_1, x5_1))) = some (r1, r2) := H
               have A19 := Aside0.mk A190
               clear A190
               by_cases c20 : (rd l0 (ji16)) = t221
               ·
                rw [if_pos c20] at H
                have c20b0 : ((rd l0 (ji16)) == t221) = true := beq_iff_eq.mpr c20
                have c20b1 : ((rd l0 (ji16)) != t221) = false := bne_eq_false_iff_eq.mpr c20
                clear c20
                by_cases c21 : x4_1.length < 5864062014805
                ·
                 rw [if_pos c21] at H
                 have LMc21 := Aside0.mk c21
                 clear c21
                 obtain ⟨y222, hy222⟩ : ∃ y_ : List (List Int), y_ = (x4_1 ++ [y217]) := ⟨_, rfl⟩
                 replace H : (spec_l2Scan.l0 kj6 l0 y222 (wrap64 ((ji11) + (rd l0 x5_1)))) = some (r1, r2) := by first|(rw [hy222];with_reducible exact H)|(have H2_ := (Option.bind_some _ _).symm.trans H;rw [hy222];with_reducible exact H2_)|(have H2_ := (Option.bind_some _ _).symm.trans H;with_reducible exact H2_)|with_reducible exact H|(rw [hy222];exact H)|exact H
                 have Ny222 := Aside0.mk hy222
                 clear hy222
                 have H' := Aside0.mk H
                 clear H
                 try go_wp2_with (first|((with_reducible refine gate_dst (N := 32) rfl ?_);(try (refine gate_guard (by rfl) ?_;dsimp only));refine Kd.R_lit (Kd.int .i64) _ 2 ?hg (N := 32) ?hd (xs := ([] : List Int)) (inner := []) (ok := fun _ => True) (okp := fun _ => True) ?hr ?hp (fun _ hk => hk) trivial (Below.refl _ _) (Nat.le_refl _) (by simp) ?_;(case hd => rfl);(case hg => rfl);(case hr => first|(go_simp;done)|(go_simp;rfl));(case hp => exact (Reps.none _ _));intro v214 w22 ho23 hb hg_ hnew_;clear hg_ hnew_;(first|rw [← Ny213.out] at ho23|(simp only [Int.reduceToNat] at ho23;rw [← Ny213.out] at ho23));have n0_ := Aside0.mk (Kd.S_elder' (by (with_reducible repeat (first|apply Kd.S_alloc|apply Kd.S_drewN|apply Kd.S_drew));exact HO_4.out) (Kd.R_base ho23) hb);have n1_ := Aside0.mk (Kd.R_lower ho23 (below_size (by repeat (first|(with_reducible first|exact HB.out|apply below_alloc|apply pw_below_drewN|apply below_drew1)|exact HB.out))));have n2_ := Aside0.mk (below_step (by repeat (first|(with_reducible first|exact HB.out|apply below_alloc|apply pw_below_drewN|apply below_drew1)|exact HB.out)) hb);clear HO_4;clear HB;have HO_4 := n0_;have HO215 := n1_;have HB := n2_;clear n0_ n1_ n2_;clear hb ho23;obtain ⟨i024, hi024, _, hsz24, _⟩ := info_parts info2;obtain ⟨A24, hcut24, hA24, hC24⟩ := print_mid_of (P := Try.prog) (Value.int .i64) 0 22 2 .i64 .i64 Try.underlying22 hi024 hsz24 (some ad211) c0 l0 (ji11) (wrap64 ((ji11) + (rd l0 x5_1))) (of_decide_eq_true (by first|(with_reducible assumption)|assumption)) (by first|omega|exact of_decide_eq_true (by first|(with_reducible assumption)|assumption)) (of_decide_eq_true (by first|(with_reducible assumption)|assumption)) HC0.out;have HR216 := Aside0.mk (Kd.C_of_reads (h1 := fun _ => rfl) (hA24 _ (Kd.reads_of_C HR0.out)));have HC216 := Aside0.mk hC24;clear hA24 hC24 hi024 hsz24)|((with_reducible refine gate_builtin (b := .append) (xs := #[.tmp 32, .tmp 40]) rfl ?_);(try (refine gate_guard (by rfl) ?_;dsimp only));at_builtin;refine Kd.R_append_rows (Kd.int .i64) (w0 := w) w.heap.size rfl (.tmp 32) (.tmp 40) 22 2 (.int .i64 0) 8 rfl Try.underlying22 info2 rfl (by decide) (by omega) v214 y213 ((l0.take ((wrap64 ((ji11) + (rd l0 x5_1))) : Int).toNat).drop ((ji11) : Int).toNat) _ _ _ (fun _ => True) (fun _ => False) rfl rfl ?aO ?aR (fun _ _ h => h) (fun _ h => h.elim) ?aF ?aB ?aS ?aL ?_;(case aR => first|(rw [← show ((l0.take ((wrap64 ((ji11) + (rd l0 x5_1))) : Int).toNat).drop ((ji11) : Int).toNat).length = ((wrap64 ((ji11) + (rd l0 x5_1))).toNat - (ji11).toNat) from (by rw [List.length_drop, List.length_take];have h_ : ((wrap64 ((ji11) + (rd l0 x5_1))) : Int) ≤ (l0.length : Int) := of_decide_eq_true (by first|(with_reducible assumption)|assumption);omega)];repeat (first|exact (Kd.C_below HR216.out HB.out)|(with_reducible refine Kd.C_alloc ?_ _)|(with_reducible refine Kd.C_drewN ?_ _)|(with_reducible refine Kd.C_drew ?_)))|(repeat (first|exact (Kd.C_below HR216.out HB.out)|(with_reducible refine Kd.C_alloc ?_ _)|(with_reducible refine Kd.C_drewN ?_ _)|(with_reducible refine Kd.C_drew ?_))));(case aB => exact (by repeat (first|(with_reducible first|exact HB.out|apply below_alloc|apply pw_below_drewN|apply below_drew1)|exact HB.out)));(case aF => exact (fun _ _ => trivial));(case aO => exact (by (with_reducible repeat (first|apply Kd.R_alloc|apply Kd.R_drewN|apply Kd.R_drew));exact HO215.out));(case aS => exact (below_size (by repeat (first|(with_reducible first|exact HB.out|apply below_alloc|apply pw_below_drewN|apply below_drew1)|exact HB.out))));(case aL => have := LMc15.out;have hlx_ := (show ((l0.take ((wrap64 ((ji11) + (rd l0 x5_1))) : Int).toNat).drop ((ji11) : Int).toNat).length = ((wrap64 ((ji11) + (rd l0 x5_1))).toNat - (ji11).toNat) from (by rw [List.length_drop, List.length_take];have h_ : ((wrap64 ((ji11) + (rd l0 x5_1))) : Int) ≤ (l0.length : Int) := of_decide_eq_true (by first|(with_reducible assumption)|assumption);omega));omega);intro v218 w25 ho hb hg hat;rw [← Ny217.out] at ho;have n0_ := Aside0.mk (Kd.S_after (ok := (fun _ => True)) (by (with_reducible repeat (first|apply Kd.S_alloc|apply Kd.S_drewN|apply Kd.S_drew));exact HO_4.out) hg hat);have n1_ := Aside0.mk (hb);have n2_ := Aside0.mk (ho);clear HO_4;clear HB;clear HO215;have HO_4 := n0_;have HB := n1_;have HO219 := n2_;clear n0_ n1_ n2_;clear ho hb hg hat))
                 have n0_ := Aside0.mk (Kd.S_drew HO_4.out)
                 have n1_ := Aside0.mk (Kd.R_drew HO219.out)
                 have n2_ := Aside0.mk (below_drew1 HB.out)
                 clear HO_4
                 clear HO219
                 clear HB
                 have HO_4 := n0_
                 have HO219 := n1_
                 have HB := n2_
                 clear n0_ n1_ n2_
                 have p220 : 0 ≤ ((ji16) : Int) := of_decide_eq_true (by first|(with_reducible assumption)|assumption)
                 have q220 : (ji16) < (l0.length : Int) := of_decide_eq_true (by first|(with_reducible assumption)|assumption)
                 obtain ⟨ad220, e220, hx220_0⟩ := Kd.at_int HR0.out (ji16) p220 q220
                 have hw220_0 := hx220_0
                 obtain rfl : ad211 = ad220 := (by injection e220)
                 replace hx220_0 := (HB.out.cell (World.block_lt_of_cell? w _ hx220_0)).trans hx220_0
                 replace p220 := eq_true p220
                 replace q220 := eq_true q220
                 obtain ⟨Ao27, co27, eo27⟩ := Kd.S_slice HO_4.out
                 (first|subst eo27|(injection eo27 with f1_ f2_ f3_;have f4_ := f1_.symm;have f5_ := f3_.symm;clear f1_ f2_ f3_;subst f4_;subst f5_))
                 obtain ⟨Ao28, co28, eo28⟩ := Kd.R_slice HO219.out
                 (first|subst eo28|(injection eo28 with f1_ f2_ f3_;have f4_ := f1_.symm;have f5_ := f3_.symm;clear f1_ f2_ f3_;subst f4_;subst f5_))
                 refine start_ (n := 10) (S := fun w' => w'.cell? (ad211.add ((ji16)).toNat) = some (.int .i64 (rd l0 (ji16)))) (ds := []) #[false, false, false, false, false, false, false, false, false, false] (by kernel_rfl) rfl rfl (((HB.out.cell (World.block_lt_of_cell? w _ hw220_0)).trans hw220_0)) (fun hHeld => ?_);refine with_tabW spec_l2Scan.tab8 spec_l2Scan.bits8 (fun HT_ HW_ => ?_)
                 generalize w25.drew = w26 at HO_4 HO219 HB hx220_0 hHeld ⊢
                 refine pure_ (i := 0) (N := some 42) (v := ?_) (a' := ?_) #[true, false, false, false, false, false, false, false, false, false] rfl rfl (any_of HT_.out (by kernel_rfl)) (fun _ _ _ h => h) (Or.inl ⟨by rfl, ?_⟩) ?_ ?_
                 rotate_left
                 ·
                  intro w'
                  go_simp
                  with_reducible rfl
                 rotate_left
                 ·
                  simp only [Act.put, List.setIfInBounds_toArray, List.set_cons_zero, List.set_cons_succ, i64_w, i32_w]
                  rfl
                 refine pure_ (i := 1) (N := some 43) (v := ?_) (a' := ?_) #[true, true, false, false, false, false, false, false, false, false] rfl rfl (any_of HT_.out (by kernel_rfl)) (fun _ _ _ h => h) (Or.inl ⟨by rfl, ?_⟩) ?_ ?_
                 rotate_left
                 ·
                  intro w'
                  go_simp
                  with_reducible rfl
                 rotate_left
                 ·
                  simp only [Act.put, List.setIfInBounds_toArray, List.set_cons_zero, List.set_cons_succ, i64_w, i32_w]
                  rfl
                 refine pure_ (i := 2) (N := some 44) (v := ?_) (a' := ?_) #[true, true, true, false, false, false, false, false, false, false] rfl rfl (any_of HT_.out (by kernel_rfl)) (fun _ _ _ h => h) (Or.inl ⟨by rfl, ?_⟩) ?_ ?_
                 rotate_left
                 ·
                  intro w'
                  go_simp
                  with_reducible rfl
                 rotate_left
                 ·
                  simp only [Act.put, List.setIfInBounds_toArray, List.set_cons_zero, List.set_cons_succ, i64_w, i32_w]
                  rfl
                 refine pure_ (i := 3) (N := some 45) (v := ?_) (a' := ?_) #[true, true, true, true, false, false, false, false, false, false] rfl rfl (any_of HT_.out (by kernel_rfl)) (fun _ _ _ h => h) (Or.inl ⟨by rfl, ?_⟩) ?_ ?_
                 rotate_left
                 ·
                  intro w'
                  go_simp
                  with_reducible rfl
                 rotate_left
                 ·
                  simp only [Act.put, List.setIfInBounds_toArray, List.set_cons_zero, List.set_cons_succ, i64_w, i32_w]
                  rfl
                 refine pure_ (i := 5) (N := some 47) (v := ?_) (a' := ?_) #[true, true, true, true, false, true, false, false, false, false] rfl rfl (any_of HT_.out (by kernel_rfl)) (fun _ _ _ h => h) (Or.inl ⟨by rfl, ?_⟩) ?_ ?_
                 rotate_left
                 ·
                  intro w'
                  go_simp
                  with_reducible rfl
                 rotate_left
                 ·
                  simp only [Act.put, List.setIfInBounds_toArray, List.set_cons_zero, List.set_cons_succ, i64_w, i32_w]
                  rfl
                 refine pure_ (i := 6) (N := some 48) (v := ?_) (a' := ?_) #[true, true, true, true, false, true, true, false, false, false] rfl rfl (any_of HT_.out (by kernel_rfl)) (fun _ _ _ h => h) (Or.inl ⟨by rfl, ?_⟩) ?_ ?_
                 rotate_left
                 ·
                  intro w'
                  go_simp
                  with_reducible rfl
                 rotate_left
                 ·
                  simp only [Act.put, List.setIfInBounds_toArray, List.set_cons_zero, List.set_cons_succ, i64_w, i32_w]
                  rfl
                 refine pure_ (i := 7) (N := some 49) (v := ?_) (a' := ?_) #[true, true, true, true, false, true, true, true, false, false] rfl rfl (any_of HT_.out (by kernel_rfl)) (fun _ _ _ h => h) (Or.inl ⟨by rfl, ?_⟩) ?_ ?_
                 rotate_left
                 ·
                  intro w'
                  go_simp
                  with_reducible rfl
                 rotate_left
                 ·
                  simp only [Act.put, List.setIfInBounds_toArray, List.set_cons_zero, List.set_cons_succ, i64_w, i32_w]
                  rfl
                 refine take_ (i := 4) (N := some 46) (v := ?_) (a' := ?_) #[true, true, true, true, true, true, true, true, false, false] rfl rfl (take_ofW HT_.out HW_.out (by kernel_rfl)) (fun _ _ _ h => h) (Or.inl ⟨by rfl, ?_⟩) hHeld ?_ ?_
                 rotate_left
                 ·
                  intro w' s0
                  go_simp
                  with_reducible rfl
                 rotate_left
                 ·
                  simp only [Act.put, List.setIfInBounds_toArray, List.set_cons_zero, List.set_cons_succ, i64_w, i32_w]
                  rfl
                 refine one_ (i := 8) (N := some 50) #[true, true, true, true, true, true, true, true, true, false] rfl rfl (one_of HT_.out (by kernel_rfl)) (by decide) (fun K hK => ?_)
                 refine goes_ Try.func99 (by kernel_rfl) rfl #[.int .i64 (x4_1.length : Int), .slice Ao28 y217.length co28] (by rfl) rfl rfl (by (try simp only [List.map_toArray, List.map_cons, List.map_nil]);first|done|rfl|(simp only [List.length_drop, List.length_take];rfl)|(simp [Act.eval, *];done)) ?_
                 with_reducible refine (spec_l2Sum.calls kj6 (x4_1.length : Int) _ _ y217 t221 _ ?side1 ?side2 A19.out).mono ?_
                 (case side1 => repeat (first|exact (Kd.R_reads' HO219.out).2.2|(with_reducible refine Kd.C_alloc ?_ _)|(with_reducible refine Kd.C_drewN ?_ _)|(with_reducible refine Kd.C_drew ?_)))
                 (case side2 => exact (Kd.R_reads' HO219.out).2.1)
                 rintro e w29 ⟨rfl, hb⟩
                 refine ⟨_, rfl, ?_⟩
                 have n0_ := Aside0.mk (Kd.S_below (by (with_reducible repeat (first|apply Kd.S_alloc|apply Kd.S_drewN|apply Kd.S_drew));exact HO_4.out) hb)
                 have n1_ := Aside0.mk (Kd.R_below (by (with_reducible repeat (first|apply Kd.R_alloc|apply Kd.R_drewN|apply Kd.R_drew));exact HO219.out) hb)
                 have n2_ := Aside0.mk (below_step (by repeat (first|(with_reducible first|exact HB.out|apply below_alloc|apply pw_below_drewN|apply below_drew1)|exact HB.out)) hb)
                 clear HO_4
                 clear HO219
                 clear HB
                 have HO_4 := n0_
                 have HO219 := n1_
                 have HB := n2_
                 clear n0_ n1_ n2_
                 (try clear hb)
                 (try clear hb2)
                 (try clear hk)
                 (try clear hi)
                 refine hK.out _ _ (((HB.out.cell (World.block_lt_of_cell? w _ hw220_0)).trans hw220_0)) (fun hHeld => ?_)
                 clear hK K
                 refine norm_ (a' := ?_) ?_ ?_
                 rotate_left
                 ·
                  show Act.put _ (some 50) _ = _
                  simp only [Act.put, List.setIfInBounds_toArray, List.set_cons_zero, List.set_cons_succ, i64_w, i32_w]
                  rfl
                 refine pure_ (i := 9) (N := some 51) (v := ?_) (a' := ?_) #[true, true, true, true, true, true, true, true, true, true] rfl rfl (any_of HT_.out (by kernel_rfl)) (fun _ _ _ h => h) (Or.inl ⟨by rfl, ?_⟩) ?_ ?_
                 rotate_left
                 ·
                  intro w'
                  go_simp
                  with_reducible rfl
                 rotate_left
                 ·
                  simp only [Act.put, List.setIfInBounds_toArray, List.set_cons_zero, List.set_cons_succ, i64_w, i32_w]
                  rfl
                 refine done_ (done_of HT_.out (by kernel_rfl)) ?_
                 try go_wp2_with (first|((with_reducible refine gate_builtin (b := .append) (xs := #[.tmp 54, .tmp 56]) rfl ?_);(try (refine gate_guard (by rfl) ?_;dsimp only));at_builtin;refine Kd.S_append (Kd.slice 2 (Kd.int .i64)) (w0 := w) w.heap.size rfl (.tmp 54) (.tmp 56) 70 22 (.slice none 0 0) 24 rfl Try.underlying70 info22 rfl (by decide) (by omega) (.slice Ao27 x4_1.length co27) x4_1 y217 [.slice Ao28 y217.length co28] (fun _ => True) (fun k_ => some k_ = (.slice Ao28 y217.length co28 : Value).ownBlock) rfl rfl ?aP (fun k_ hk_ => ((Kd.R_mono (ok' := fun k_ => ((fun _ => True)) k_ ∧ some k_ ≠ (.slice Ao27 x4_1.length co27 : Value).ownBlock) (Kd.R_apart' (HO219.out) (Kd.S_typed HO_4.out) (by decide)) (fun k_ hk => ⟨trivial, hk.2⟩))).1 k_ hk_.symm) ?aF ?aO ?aB ?aS ?aL ?_;(case aP => exact Kd.M_row (Kd.R_mono (Kd.R_tight rfl (Kd.R_mono (ok' := fun k_ => ((fun _ => True)) k_ ∧ some k_ ≠ (.slice Ao27 x4_1.length co27 : Value).ownBlock) (Kd.R_apart' (HO219.out) (Kd.S_typed HO_4.out) (by decide)) (fun k_ hk => ⟨trivial, hk.2⟩))) (fun _ h_ => h_)));(case aB => exact (by repeat (first|(with_reducible first|exact HB.out|apply below_alloc|apply pw_below_drewN|apply below_drew1)|exact HB.out)));(case aF => exact (fun _ _ => trivial));(case aO => exact (by (with_reducible repeat (first|apply Kd.S_alloc|apply Kd.S_drewN|apply Kd.S_drew));exact Kd.S_mono HO_4.out (fun k_ hk => ⟨trivial, fun e_ => hk.2 e_⟩)));(case aS => exact (below_size (by repeat (first|(with_reducible first|exact HB.out|apply below_alloc|apply pw_below_drewN|apply below_drew1)|exact HB.out))));(case aL => have := LMc21.out;omega);intro v223 w30 ho hb hg hat;rw [← Ny222.out] at ho;have n0_ := Aside0.mk (hb);have n1_ := Aside0.mk (ho);clear HB;clear HO_4;clear HO219;have HB := n0_;have HO224 := n1_;clear n0_ n1_;clear ho hb hg hat))
                 go_roundg kj6
                 case measure => have := HK1.out;have := HJ6.out;omega
                 case rel => exact ⟨(y222), (wrap64 ((ji11) + (rd l0 x5_1))), (by first|rfl|(simp;done)|(simp only [← hji11] <;> (first|rfl|simp))|(simp [*];done)), H', ⟨by have := HK1.out;have := HJ6.out;omega⟩, ⟨by (with_reducible repeat (first|apply Kd.S_alloc|apply Kd.S_drewN|apply Kd.S_drew));exact HO224.out⟩, ⟨by repeat (first|(with_reducible first|exact HB.out|apply below_alloc|apply pw_below_drewN|apply below_drew1)|exact HB.out)⟩⟩
                ·
                 rw [if_neg c21] at H
                 exact absurd H (by simp)
               ·
                rw [if_neg c20] at H
                have c20b0 : ((rd l0 (ji16)) == t221) = false := beq_eq_false_iff_ne.mpr c20
                have c20b1 : ((rd l0 (ji16)) != t221) = true := bne_iff_ne.mpr c20
                simp only [Option.some.injEq, Prod.mk.injEq] at H
                obtain ⟨rfl, rfl⟩ := H
                try go_wp2_with (first|((with_reducible refine gate_dst (N := 32) rfl ?_);(try (refine gate_guard (by rfl) ?_;dsimp only));refine Kd.R_lit (Kd.int .i64) _ 2 ?hg (N := 32) ?hd (xs := ([] : List Int)) (inner := []) (ok := fun _ => True) (okp := fun _ => True) ?hr ?hp (fun _ hk => hk) trivial (Below.refl _ _) (Nat.le_refl _) (by simp) ?_;(case hd => rfl);(case hg => rfl);(case hr => first|(go_simp;done)|(go_simp;rfl));(case hp => exact (Reps.none _ _));intro v214 w31 ho32 hb hg_ hnew_;clear hg_ hnew_;(first|rw [← Ny213.out] at ho32|(simp only [Int.reduceToNat] at ho32;rw [← Ny213.out] at ho32));have n0_ := Aside0.mk (Kd.S_elder' (by (with_reducible repeat (first|apply Kd.S_alloc|apply Kd.S_drewN|apply Kd.S_drew));exact HO_4.out) (Kd.R_base ho32) hb);have n1_ := Aside0.mk (Kd.R_lower ho32 (below_size (by repeat (first|(with_reducible first|exact HB.out|apply below_alloc|apply pw_below_drewN|apply below_drew1)|exact HB.out))));have n2_ := Aside0.mk (below_step (by repeat (first|(with_reducible first|exact HB.out|apply below_alloc|apply pw_below_drewN|apply below_drew1)|exact HB.out)) hb);clear HO_4;clear HB;have HO_4 := n0_;have HO215 := n1_;have HB := n2_;clear n0_ n1_ n2_;clear hb ho32;obtain ⟨i033, hi033, _, hsz33, _⟩ := info_parts info2;obtain ⟨A33, hcut33, hA33, hC33⟩ := print_mid_of (P := Try.prog) (Value.int .i64) 0 22 2 .i64 .i64 Try.underlying22 hi033 hsz33 (some ad211) c0 l0 (ji11) (wrap64 ((ji11) + (rd l0 x5_1))) (of_decide_eq_true (by first|(with_reducible assumption)|assumption)) (by first|omega|exact of_decide_eq_true (by first|(with_reducible assumption)|assumption)) (of_decide_eq_true (by first|(with_reducible assumption)|assumption)) HC0.out;have HR216 := Aside0.mk (Kd.C_of_reads (h1 := fun _ => rfl) (hA33 _ (Kd.reads_of_C HR0.out)));have HC216 := Aside0.mk hC33;clear hA33 hC33 hi033 hsz33)|((with_reducible refine gate_builtin (b := .append) (xs := #[.tmp 32, .tmp 40]) rfl ?_);(try (refine gate_guard (by rfl) ?_;dsimp only));at_builtin;refine Kd.R_append_rows (Kd.int .i64) (w0 := w) w.heap.size rfl (.tmp 32) (.tmp 40) 22 2 (.int .i64 0) 8 rfl Try.underlying22 info2 rfl (by decide) (by omega) v214 y213 ((l0.take ((wrap64 ((ji11) + (rd l0 x5_1))) : Int).toNat).drop ((ji11) : Int).toNat) _ _ _ (fun _ => True) (fun _ => False) rfl rfl ?aO ?aR (fun _ _ h => h) (fun _ h => h.elim) ?aF ?aB ?aS ?aL ?_;(case aR => first|(rw [← show ((l0.take ((wrap64 ((ji11) + (rd l0 x5_1))) : Int).toNat).drop ((ji11) : Int).toNat).length = ((wrap64 ((ji11) + (rd l0 x5_1))).toNat - (ji11).toNat) from (by rw [List.length_drop, List.length_take];have h_ : ((wrap64 ((ji11) + (rd l0 x5_1))) : Int) ≤ (l0.length : Int) := of_decide_eq_true (by first|(with_reducible assumption)|assumption);omega)];repeat (first|exact (Kd.C_below HR216.out HB.out)|(with_reducible refine Kd.C_alloc ?_ _)|(with_reducible refine Kd.C_drewN ?_ _)|(with_reducible refine Kd.C_drew ?_)))|(repeat (first|exact (Kd.C_below HR216.out HB.out)|(with_reducible refine Kd.C_alloc ?_ _)|(with_reducible refine Kd.C_drewN ?_ _)|(with_reducible refine Kd.C_drew ?_))));(case aB => exact (by repeat (first|(with_reducible first|exact HB.out|apply below_alloc|apply pw_below_drewN|apply below_drew1)|exact HB.out)));(case aF => exact (fun _ _ => trivial));(case aO => exact (by (with_reducible repeat (first|apply Kd.R_alloc|apply Kd.R_drewN|apply Kd.R_drew));exact HO215.out));(case aS => exact (below_size (by repeat (first|(with_reducible first|exact HB.out|apply below_alloc|apply pw_below_drewN|apply below_drew1)|exact HB.out))));(case aL => have := LMc15.out;have hlx_ := (show ((l0.take ((wrap64 ((ji11) + (rd l0 x5_1))) : Int).toNat).drop ((ji11) : Int).toNat).length = ((wrap64 ((ji11) + (rd l0 x5_1))).toNat - (ji11).toNat) from (by rw [List.length_drop, List.length_take];have h_ : ((wrap64 ((ji11) + (rd l0 x5_1))) : Int) ≤ (l0.length : Int) := of_decide_eq_true (by first|(with_reducible assumption)|assumption);omega));omega);intro v218 w34 ho hb hg hat;rw [← Ny217.out] at ho;have n0_ := Aside0.mk (Kd.S_after (ok := (fun _ => True)) (by (with_reducible repeat (first|apply Kd.S_alloc|apply Kd.S_drewN|apply Kd.S_drew));exact HO_4.out) hg hat);have n1_ := Aside0.mk (hb);have n2_ := Aside0.mk (ho);clear HO_4;clear HB;clear HO215;have HO_4 := n0_;have HB := n1_;have HO219 := n2_;clear n0_ n1_ n2_;clear ho hb hg hat))
                have n0_ := Aside0.mk (Kd.S_drew HO_4.out)
                have n1_ := Aside0.mk (Kd.R_drew HO219.out)
                have n2_ := Aside0.mk (below_drew1 HB.out)
                clear HO_4
                clear HO219
                clear HB
                have HO_4 := n0_
                have HO219 := n1_
                have HB := n2_
                clear n0_ n1_ n2_
                have p220 : 0 ≤ ((ji16) : Int) := of_decide_eq_true (by first|(with_reducible assumption)|assumption)
                have q220 : (ji16) < (l0.length : Int) := of_decide_eq_true (by first|(with_reducible assumption)|assumption)
                obtain ⟨ad220, e220, hx220_0⟩ := Kd.at_int HR0.out (ji16) p220 q220
                have hw220_0 := hx220_0
                obtain rfl : ad211 = ad220 := (by injection e220)
                replace hx220_0 := (HB.out.cell (World.block_lt_of_cell? w _ hx220_0)).trans hx220_0
                replace p220 := eq_true p220
                replace q220 := eq_true q220
                obtain ⟨Ao36, co36, eo36⟩ := Kd.S_slice HO_4.out
                (first|subst eo36|(injection eo36 with f1_ f2_ f3_;have f4_ := f1_.symm;have f5_ := f3_.symm;clear f1_ f2_ f3_;subst f4_;subst f5_))
                obtain ⟨Ao37, co37, eo37⟩ := Kd.R_slice HO219.out
                (first|subst eo37|(injection eo37 with f1_ f2_ f3_;have f4_ := f1_.symm;have f5_ := f3_.symm;clear f1_ f2_ f3_;subst f4_;subst f5_))
                refine start_ (n := 10) (S := fun w' => w'.cell? (ad211.add ((ji16)).toNat) = some (.int .i64 (rd l0 (ji16)))) (ds := []) #[false, false, false, false, false, false, false, false, false, false] (by kernel_rfl) rfl rfl (((HB.out.cell (World.block_lt_of_cell? w _ hw220_0)).trans hw220_0)) (fun hHeld => ?_);refine with_tabW spec_l2Scan.tab8 spec_l2Scan.bits8 (fun HT_ HW_ => ?_)
                generalize w34.drew = w35 at HO_4 HO219 HB hx220_0 hHeld ⊢
                refine pure_ (i := 0) (N := some 42) (v := ?_) (a' := ?_) #[true, false, false, false, false, false, false, false, false, false] rfl rfl (any_of HT_.out (by kernel_rfl)) (fun _ _ _ h => h) (Or.inl ⟨by rfl, ?_⟩) ?_ ?_
                rotate_left
                ·
                 intro w'
                 go_simp
                 with_reducible rfl
                rotate_left
                ·
                 simp only [Act.put, List.setIfInBounds_toArray, List.set_cons_zero, List.set_cons_succ, i64_w, i32_w]
                 rfl
                refine pure_ (i := 1) (N := some 43) (v := ?_) (a' := ?_) #[true, true, false, false, false, false, false, false, false, false] rfl rfl (any_of HT_.out (by kernel_rfl)) (fun _ _ _ h => h) (Or.inl ⟨by rfl, ?_⟩) ?_ ?_
                rotate_left
                ·
                 intro w'
                 go_simp
                 with_reducible rfl
                rotate_left
                ·
                 simp only [Act.put, List.setIfInBounds_toArray, List.set_cons_zero, List.set_cons_succ, i64_w, i32_w]
                 rfl
                refine pure_ (i := 2) (N := some 44) (v := ?_) (a' := ?_) #[true, true, true, false, false, false, false, false, false, false] rfl rfl (any_of HT_.out (by kernel_rfl)) (fun _ _ _ h => h) (Or.inl ⟨by rfl, ?_⟩) ?_ ?_
                rotate_left
                ·
                 intro w'
                 go_simp
                 with_reducible rfl
                rotate_left
                ·
                 simp only [Act.put, List.setIfInBounds_toArray, List.set_cons_zero, List.set_cons_succ, i64_w, i32_w]
                 rfl
                refine pure_ (i := 3) (N := some 45) (v := ?_) (a' := ?_) #[true, true, true, true, false, false, false, false, false, false] rfl rfl (any_of HT_.out (by kernel_rfl)) (fun _ _ _ h => h) (Or.inl ⟨by rfl, ?_⟩) ?_ ?_
                rotate_left
                ·
                 intro w'
                 go_simp
                 with_reducible rfl
                rotate_left
                ·
                 simp only [Act.put, List.setIfInBounds_toArray, List.set_cons_zero, List.set_cons_succ, i64_w, i32_w]
                 rfl
                refine pure_ (i := 5) (N := some 47) (v := ?_) (a' := ?_) #[true, true, true, true, false, true, false, false, false, false] rfl rfl (any_of HT_.out (by kernel_rfl)) (fun _ _ _ h => h) (Or.inl ⟨by rfl, ?_⟩) ?_ ?_
                rotate_left
                ·
                 intro w'
                 go_simp
                 with_reducible rfl
                rotate_left
                ·
                 simp only [Act.put, List.setIfInBounds_toArray, List.set_cons_zero, List.set_cons_succ, i64_w, i32_w]
                 rfl
                refine pure_ (i := 6) (N := some 48) (v := ?_) (a' := ?_) #[true, true, true, true, false, true, true, false, false, false] rfl rfl (any_of HT_.out (by kernel_rfl)) (fun _ _ _ h => h) (Or.inl ⟨by rfl, ?_⟩) ?_ ?_
                rotate_left
                ·
                 intro w'
                 go_simp
                 with_reducible rfl
                rotate_left
                ·
                 simp only [Act.put, List.setIfInBounds_toArray, List.set_cons_zero, List.set_cons_succ, i64_w, i32_w]
                 rfl
                refine pure_ (i := 7) (N := some 49) (v := ?_) (a' := ?_) #[true, true, true, true, false, true, true, true, false, false] rfl rfl (any_of HT_.out (by kernel_rfl)) (fun _ _ _ h => h) (Or.inl ⟨by rfl, ?_⟩) ?_ ?_
                rotate_left
                ·
                 intro w'
                 go_simp
                 with_reducible rfl
                rotate_left
                ·
                 simp only [Act.put, List.setIfInBounds_toArray, List.set_cons_zero, List.set_cons_succ, i64_w, i32_w]
                 rfl
                refine take_ (i := 4) (N := some 46) (v := ?_) (a' := ?_) #[true, true, true, true, true, true, true, true, false, false] rfl rfl (take_ofW HT_.out HW_.out (by kernel_rfl)) (fun _ _ _ h => h) (Or.inl ⟨by rfl, ?_⟩) hHeld ?_ ?_
                rotate_left
                ·
                 intro w' s0
                 go_simp
                 with_reducible rfl
                rotate_left
                ·
                 simp only [Act.put, List.setIfInBounds_toArray, List.set_cons_zero, List.set_cons_succ, i64_w, i32_w]
                 rfl
                refine one_ (i := 8) (N := some 50) #[true, true, true, true, true, true, true, true, true, false] rfl rfl (one_of HT_.out (by kernel_rfl)) (by decide) (fun K hK => ?_)
                refine goes_ Try.func99 (by kernel_rfl) rfl #[.int .i64 (x4_1.length : Int), .slice Ao37 y217.length co37] (by rfl) rfl rfl (by (try simp only [List.map_toArray, List.map_cons, List.map_nil]);first|done|rfl|(simp only [List.length_drop, List.length_take];rfl)|(simp [Act.eval, *];done)) ?_
                with_reducible refine (spec_l2Sum.calls kj6 (x4_1.length : Int) _ _ y217 t221 _ ?side1 ?side2 A19.out).mono ?_
                (case side1 => repeat (first|exact (Kd.R_reads' HO219.out).2.2|(with_reducible refine Kd.C_alloc ?_ _)|(with_reducible refine Kd.C_drewN ?_ _)|(with_reducible refine Kd.C_drew ?_)))
                (case side2 => exact (Kd.R_reads' HO219.out).2.1)
                rintro e w38 ⟨rfl, hb⟩
                refine ⟨_, rfl, ?_⟩
                have n0_ := Aside0.mk (Kd.S_below (by (with_reducible repeat (first|apply Kd.S_alloc|apply Kd.S_drewN|apply Kd.S_drew));exact HO_4.out) hb)
                have n1_ := Aside0.mk (Kd.R_below (by (with_reducible repeat (first|apply Kd.R_alloc|apply Kd.R_drewN|apply Kd.R_drew));exact HO219.out) hb)
                have n2_ := Aside0.mk (below_step (by repeat (first|(with_reducible first|exact HB.out|apply below_alloc|apply pw_below_drewN|apply below_drew1)|exact HB.out)) hb)
                clear HO_4
                clear HO219
                clear HB
                have HO_4 := n0_
                have HO219 := n1_
                have HB := n2_
                clear n0_ n1_ n2_
                (try clear hb)
                (try clear hb2)
                (try clear hk)
                (try clear hi)
                refine hK.out _ _ (((HB.out.cell (World.block_lt_of_cell? w _ hw220_0)).trans hw220_0)) (fun hHeld => ?_)
                clear hK K
                refine norm_ (a' := ?_) ?_ ?_
                rotate_left
                ·
                 show Act.put _ (some 50) _ = _
                 simp only [Act.put, List.setIfInBounds_toArray, List.set_cons_zero, List.set_cons_succ, i64_w, i32_w]
                 rfl
                refine pure_ (i := 9) (N := some 51) (v := ?_) (a' := ?_) #[true, true, true, true, true, true, true, true, true, true] rfl rfl (any_of HT_.out (by kernel_rfl)) (fun _ _ _ h => h) (Or.inl ⟨by rfl, ?_⟩) ?_ ?_
                rotate_left
                ·
                 intro w'
                 go_simp
                 with_reducible rfl
                rotate_left
                ·
                 simp only [Act.put, List.setIfInBounds_toArray, List.set_cons_zero, List.set_cons_succ, i64_w, i32_w]
                 rfl
                refine done_ (done_of HT_.out (by kernel_rfl)) ?_
                try go_wp2
                go_ret2
                exact ⟨_, by first|rfl|(simp [errW_none, errW_some] <;> rfl)|(simp only [← hji11, ← hji16];first|rfl|(simp [errW_none, errW_some] <;> rfl))|(simp [*, errW_none, errW_some] <;> rfl), by (with_reducible repeat (first|apply Kd.S_alloc|apply Kd.S_drewN|apply Kd.S_drew));exact Kd.S_mono HO_4.out (fun _ hk => trivial), by repeat (first|(with_reducible first|exact HB.out|apply below_alloc|apply pw_below_drewN|apply below_drew1)|exact HB.out)⟩
              ·
               rw [if_neg c18] at H
               exact absurd H (by simp)
             ·
              rw [if_neg c17] at H
              exact absurd H (by simp)
            ·
             rw [if_neg c15] at H
             exact absurd H (by simp)
           ·
            rw [if_neg c14] at H
            exact absurd H (by simp)
          ·
           rw [if_neg c13] at H
           exact absurd H (by simp)
         ·
          rw [if_neg c12] at H
          exact absurd H (by simp)
     ·
      rw [if_neg c6] at H
      exact absurd H (by simp)
    ·
     rw [if_neg c5] at H
     exact absurd H (by simp)
   ·
    rw [if_neg c4] at H
    have c4b0 : decide ((wrap64 (x5_1 + 2)) < (l0.length : Int)) = false := decide_eq_false c4
    clear c4
    simp only [Option.some.injEq, Prod.mk.injEq] at H
    obtain ⟨rfl, rfl⟩ := H
    go_wp2
    go_ret2
    exact ⟨_, by first|rfl|(simp [errW_none, errW_some] <;> rfl)|(simp [*, errW_none, errW_some] <;> rfl), by (with_reducible repeat (first|apply Kd.S_alloc|apply Kd.S_drewN|apply Kd.S_drew));exact HO_4.out, by repeat (first|(with_reducible first|exact HB.out|apply below_alloc|apply pw_below_drewN|apply below_drew1)|exact HB.out)⟩

end Go.Proofs.Ytaahjfjpbilfnaa.PD
