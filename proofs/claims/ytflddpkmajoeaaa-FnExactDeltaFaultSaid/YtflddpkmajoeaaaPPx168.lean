-- Laid by a program of this session's (wip/xprint.py) over the kit's print. Nothing in it is trusted: Lean checks it.
import Derived.Test.YtflddpkmajoeaaaPPx0
namespace Go.Proofs.Ytflddpkmajoeaaa.PP
open Go.RowKit Go.Proofs.YtflddpkmajoeaaaW.PrintWords Go.Proofs.YtflddpkmajoeaaaW.PrintLast Go.Proofs.YtflddpkmajoeaaaW.PrintMore
set_option maxHeartbeats 8000000
set_option maxRecDepth 100000
attribute [local go_sem] max2_int min2_int max_two min_two max_three min_three max_four min_four   -- for this text's walks alone
set_option linter.unusedVariables false
set_option linter.unusedSimpArgs false

/-! ### impl_Step_cell: function 146 -/
def impl_Step_cell.f (xp0 : S137) : Option (Int × Int × Int) := some ((rd_T137 [xp0] 0).f1, (rd_T137 [xp0] 0).f2, (rd_T137 [xp0] 0).f3)
def impl_Step_cell.T1 : Bool × List (List Nat × List Nat) := (true, [([], []), ([0], [0]), ([1], [1]), ([2], [2]), ([], []), ([4], [4]), ([5], [5]), ([6], [6]), ([], []), ([8], [8]), ([9], [9]), ([10], [10]), ([3, 7, 11], [3, 7, 11]), ([12, 0, 1, 2, 3, 4, 5, 6, 7, 8, 9, 10, 11, 12], [12])])
def impl_Step_cell.B1 : List Nat := [0, 1, 3, 7, 0, 16, 48, 112, 0, 256, 768, 1792, 4095, 8191]
theorem impl_Step_cell.tab1 : rtab .any (opsOf Try.f146 1) = impl_Step_cell.T1 := by kernel_rfl
theorem impl_Step_cell.bits1 : waitsOk impl_Step_cell.T1.2 impl_Step_cell.B1 = true := by kernel_rfl
theorem impl_Step_cell.calls (adp0 : Addr) (xp0 : S137) (r1 : Int) (r2 : Int) (r3 : Int) (w : World) (hr0 : Kd.C k137 w (some adp0) 1 [xp0]) (h : impl_Step_cell.f xp0 = some (r1, r2, r3)) :
  Calls Try.prog 146 #[.pointer (some adp0)] w fun e w' => e = .returned (.agg #[.int .i64 r1, .int .i64 r2, .int .i64 r3]) ∧ Below w.heap.size w w' := by
 have hu95 := Try.underlying95
 have HR0 := Aside0.mk hr0
 clear hr0
 have HB := Aside0.mk (Below.refl w.heap.size w)
 have H : (some ((rd_T137 [xp0] 0).f1, (rd_T137 [xp0] 0).f2, (rd_T137 [xp0] 0).f3)) = some (r1, r2, r3) := h
 clear h
 simp only [Option.some.injEq, Prod.mk.injEq] at H
 obtain ⟨rfl, rfl, rfl⟩ := H
 go_enter Try.func146, Try.ntmps146
 try go_wp2_with (first|((with_reducible refine gate_dst (N := 2) rfl ?_);refine box_event ?hg (N := 2) ?hd (cs := #[.int .i64 0, .int .i64 0, .int .i64 0]) (t := 95) ?hr ?_;(case hd => rfl);(case hg => rfl);(case hr => first|(go_simp;done)|(go_simp;rfl));intro gb1095 hg w2 hbox hb;have n0_ := Aside0.mk (below_step (by repeat (first|(with_reducible first|exact HB.out|apply below_alloc|apply pw_below_drewN|apply below_drew1)|exact HB.out)) hb);have n1_ := Aside0.mk (hbox);have n2_ := Aside0.mk ((by rw [hg];exact (below_size (by repeat (first|(with_reducible first|exact HB.out|apply below_alloc|apply pw_below_drewN|apply below_drew1)|exact HB.out))) : w.heap.size ≤ gb1095));have n3_ := Aside0.mk ((by rw [hg];exact (below_size (by repeat (first|(with_reducible first|exact HB.out|apply below_alloc|apply pw_below_drewN|apply below_drew1)|exact HB.out))) : w.heap.size ≤ gb1095));clear HB;have HB := n0_;have BK1095 := n1_;have GW1095 := n2_;have GE1095 := n3_;clear n0_ n1_ n2_ n3_;clear hb hbox hg))
 have n0_ := Aside0.mk (blk_drew BK1095.out)
 have n1_ := Aside0.mk (below_drew1 HB.out)
 clear BK1095
 clear HB
 have BK1095 := n0_
 have HB := n1_
 clear n0_ n1_
 have p1096 : 0 ≤ (0 : Int) := (by omega)
 have q1096 : 0 < ([xp0].length : Int) := (by simp)
 obtain ⟨ad1096, e1096, hx1096_0, hx1096_1, hx1096_2, hx1096_3⟩ := at_T137 HR0.out 0 p1096 q1096
 have hw1096_3 := hx1096_3
 (try rw [show ((0 : Int)).toNat = 0 from rfl] at hw1096_3)
 (try rw [show 0 * 4 = 0 from rfl] at hw1096_3)
 (try rw [Addr.add_zero'] at hw1096_3)
 have hw1096_2 := hx1096_2
 (try rw [show ((0 : Int)).toNat = 0 from rfl] at hw1096_2)
 (try rw [show 0 * 4 = 0 from rfl] at hw1096_2)
 (try rw [Addr.add_zero'] at hw1096_2)
 have hw1096_1 := hx1096_1
 (try rw [show ((0 : Int)).toNat = 0 from rfl] at hw1096_1)
 (try rw [show 0 * 4 = 0 from rfl] at hw1096_1)
 (try rw [Addr.add_zero'] at hw1096_1)
 have hw1096_0 := hx1096_0
 (try rw [show ((0 : Int)).toNat = 0 from rfl] at hw1096_0)
 (try rw [show 0 * 4 = 0 from rfl] at hw1096_0)
 (try rw [Addr.add_zero'] at hw1096_0)
 obtain rfl : adp0 = ad1096 := (by injection e1096)
 (try rw [show ((0 : Int)).toNat = 0 from rfl] at hx1096_0)
 (try rw [show 0 * 4 = 0 from rfl] at hx1096_0)
 (try rw [Addr.add_zero'] at hx1096_0)
 (try rw [show ((0 : Int)).toNat = 0 from rfl] at hx1096_1)
 (try rw [show 0 * 4 = 0 from rfl] at hx1096_1)
 (try rw [Addr.add_zero'] at hx1096_1)
 (try rw [show ((0 : Int)).toNat = 0 from rfl] at hx1096_2)
 (try rw [show 0 * 4 = 0 from rfl] at hx1096_2)
 (try rw [Addr.add_zero'] at hx1096_2)
 (try rw [show ((0 : Int)).toNat = 0 from rfl] at hx1096_3)
 (try rw [show 0 * 4 = 0 from rfl] at hx1096_3)
 (try rw [Addr.add_zero'] at hx1096_3)
 replace hx1096_0 := (HB.out.cell (World.block_lt_of_cell? w _ hx1096_0)).trans hx1096_0
 replace hx1096_1 := (HB.out.cell (World.block_lt_of_cell? w _ hx1096_1)).trans hx1096_1
 replace hx1096_2 := (HB.out.cell (World.block_lt_of_cell? w _ hx1096_2)).trans hx1096_2
 replace hx1096_3 := (HB.out.cell (World.block_lt_of_cell? w _ hx1096_3)).trans hx1096_3
 replace p1096 := eq_true p1096
 replace q1096 := eq_true q1096
 refine start_ (n := 14) (S := fun w' => w'.cell? adp0 = some (.bool ((rd_T137 [xp0] 0).f0)) ∧ w'.cell? ⟨adp0.block, adp0.off + 1, none⟩ = some (.int .i64 ((rd_T137 [xp0] 0).f1)) ∧ w'.cell? ⟨adp0.block, adp0.off + 2, none⟩ = some (.int .i64 ((rd_T137 [xp0] 0).f2)) ∧ w'.cell? ⟨adp0.block, adp0.off + 3, none⟩ = some (.int .i64 ((rd_T137 [xp0] 0).f3))) (ds := []) #[false, false, false, false, false, false, false, false, false, false, false, false, false, false] (by kernel_rfl) rfl rfl ⟨((HB.out.cell (World.block_lt_of_cell? w _ hw1096_0)).trans hw1096_0), ((HB.out.cell (World.block_lt_of_cell? w _ hw1096_1)).trans hw1096_1), ((HB.out.cell (World.block_lt_of_cell? w _ hw1096_2)).trans hw1096_2), ((HB.out.cell (World.block_lt_of_cell? w _ hw1096_3)).trans hw1096_3)⟩ (fun hHeld => ?_);refine with_tabW impl_Step_cell.tab1 impl_Step_cell.bits1 (fun HT_ HW_ => ?_)
 generalize w2.drew = w3 at BK1095 HB hx1096_0 hx1096_1 hx1096_2 hx1096_3 hHeld ⊢
 refine pure_ (i := 0) (N := some 3) (v := ?_) (a' := ?_) #[true, false, false, false, false, false, false, false, false, false, false, false, false, false] rfl rfl (any_of HT_.out (by kernel_rfl)) (fun _ _ _ h => h) (Or.inl ⟨by rfl, ?_⟩) ?_ ?_
 rotate_left
 ·
  intro w'
  go_simp
  with_reducible rfl
 rotate_left
 ·
  simp only [Act.put, List.setIfInBounds_toArray, List.set_cons_zero, List.set_cons_succ, i64_w, i32_w]
  rfl
 refine pure_ (i := 1) (N := some 4) (v := ?_) (a' := ?_) #[true, true, false, false, false, false, false, false, false, false, false, false, false, false] rfl rfl (any_of HT_.out (by kernel_rfl)) (fun _ _ _ h => h) (Or.inl ⟨by rfl, ?_⟩) ?_ ?_
 rotate_left
 ·
  intro w'
  go_simp
  with_reducible rfl
 rotate_left
 ·
  simp only [Act.put, List.setIfInBounds_toArray, List.set_cons_zero, List.set_cons_succ, i64_w, i32_w]
  rfl
 refine pure_ (i := 2) (N := some 5) (v := ?_) (a' := ?_) #[true, true, true, false, false, false, false, false, false, false, false, false, false, false] rfl rfl (any_of HT_.out (by kernel_rfl)) (fun _ _ _ h => h) (Or.inl ⟨by rfl, ?_⟩) ?_ ?_
 rotate_left
 ·
  intro w'
  go_simp
  with_reducible rfl
 rotate_left
 ·
  simp only [Act.put, List.setIfInBounds_toArray, List.set_cons_zero, List.set_cons_succ, i64_w, i32_w]
  rfl
 refine pure_ (i := 4) (N := some 7) (v := ?_) (a' := ?_) #[true, true, true, false, true, false, false, false, false, false, false, false, false, false] rfl rfl (any_of HT_.out (by kernel_rfl)) (fun _ _ _ h => h) (Or.inl ⟨by rfl, ?_⟩) ?_ ?_
 rotate_left
 ·
  intro w'
  go_simp
  with_reducible rfl
 rotate_left
 ·
  simp only [Act.put, List.setIfInBounds_toArray, List.set_cons_zero, List.set_cons_succ, i64_w, i32_w]
  rfl
 refine pure_ (i := 5) (N := some 8) (v := ?_) (a' := ?_) #[true, true, true, false, true, true, false, false, false, false, false, false, false, false] rfl rfl (any_of HT_.out (by kernel_rfl)) (fun _ _ _ h => h) (Or.inl ⟨by rfl, ?_⟩) ?_ ?_
 rotate_left
 ·
  intro w'
  go_simp
  with_reducible rfl
 rotate_left
 ·
  simp only [Act.put, List.setIfInBounds_toArray, List.set_cons_zero, List.set_cons_succ, i64_w, i32_w]
  rfl
 refine pure_ (i := 6) (N := some 9) (v := ?_) (a' := ?_) #[true, true, true, false, true, true, true, false, false, false, false, false, false, false] rfl rfl (any_of HT_.out (by kernel_rfl)) (fun _ _ _ h => h) (Or.inl ⟨by rfl, ?_⟩) ?_ ?_
 rotate_left
 ·
  intro w'
  go_simp
  with_reducible rfl
 rotate_left
 ·
  simp only [Act.put, List.setIfInBounds_toArray, List.set_cons_zero, List.set_cons_succ, i64_w, i32_w]
  rfl
 refine pure_ (i := 8) (N := some 11) (v := ?_) (a' := ?_) #[true, true, true, false, true, true, true, false, true, false, false, false, false, false] rfl rfl (any_of HT_.out (by kernel_rfl)) (fun _ _ _ h => h) (Or.inl ⟨by rfl, ?_⟩) ?_ ?_
 rotate_left
 ·
  intro w'
  go_simp
  with_reducible rfl
 rotate_left
 ·
  simp only [Act.put, List.setIfInBounds_toArray, List.set_cons_zero, List.set_cons_succ, i64_w, i32_w]
  rfl
 refine pure_ (i := 9) (N := some 12) (v := ?_) (a' := ?_) #[true, true, true, false, true, true, true, false, true, true, false, false, false, false] rfl rfl (any_of HT_.out (by kernel_rfl)) (fun _ _ _ h => h) (Or.inl ⟨by rfl, ?_⟩) ?_ ?_
 rotate_left
 ·
  intro w'
  go_simp
  with_reducible rfl
 rotate_left
 ·
  simp only [Act.put, List.setIfInBounds_toArray, List.set_cons_zero, List.set_cons_succ, i64_w, i32_w]
  rfl
 refine pure_ (i := 10) (N := some 13) (v := ?_) (a' := ?_) #[true, true, true, false, true, true, true, false, true, true, true, false, false, false] rfl rfl (any_of HT_.out (by kernel_rfl)) (fun _ _ _ h => h) (Or.inl ⟨by rfl, ?_⟩) ?_ ?_
 rotate_left
 ·
  intro w'
  go_simp
  with_reducible rfl
 rotate_left
 ·
  simp only [Act.put, List.setIfInBounds_toArray, List.set_cons_zero, List.set_cons_succ, i64_w, i32_w]
  rfl
 refine take_ (i := 3) (N := some 6) (v := ?_) (a' := ?_) #[true, true, true, true, true, true, true, false, true, true, true, false, false, false] rfl rfl (take_ofW HT_.out HW_.out (by kernel_rfl)) (fun _ _ _ h => h) (Or.inl ⟨by rfl, ?_⟩) hHeld ?_ ?_
 rotate_left
 ·
  rintro w' ⟨s0, s1, s2, s3⟩
  go_simp
  with_reducible rfl
 rotate_left
 ·
  simp only [Act.put, List.setIfInBounds_toArray, List.set_cons_zero, List.set_cons_succ, i64_w, i32_w]
  rfl
 refine take_ (i := 7) (N := some 10) (v := ?_) (a' := ?_) #[true, true, true, true, true, true, true, true, true, true, true, false, false, false] rfl rfl (take_ofW HT_.out HW_.out (by kernel_rfl)) (fun _ _ _ h => h) (Or.inl ⟨by rfl, ?_⟩) hHeld ?_ ?_
 rotate_left
 ·
  rintro w' ⟨s0, s1, s2, s3⟩
  go_simp
  with_reducible rfl
 rotate_left
 ·
  simp only [Act.put, List.setIfInBounds_toArray, List.set_cons_zero, List.set_cons_succ, i64_w, i32_w]
  rfl
 refine take_ (i := 11) (N := some 14) (v := ?_) (a' := ?_) #[true, true, true, true, true, true, true, true, true, true, true, true, false, false] rfl rfl (take_ofW HT_.out HW_.out (by kernel_rfl)) (fun _ _ _ h => h) (Or.inl ⟨by rfl, ?_⟩) hHeld ?_ ?_
 rotate_left
 ·
  rintro w' ⟨s0, s1, s2, s3⟩
  go_simp
  with_reducible rfl
 rotate_left
 ·
  simp only [Act.put, List.setIfInBounds_toArray, List.set_cons_zero, List.set_cons_succ, i64_w, i32_w]
  rfl
 refine pure_ (i := 12) (N := some 15) (v := ?_) (a' := ?_) #[true, true, true, true, true, true, true, true, true, true, true, true, true, false] rfl rfl (any_of HT_.out (by kernel_rfl)) (fun _ _ _ h => h) (Or.inl ⟨by rfl, ?_⟩) ?_ ?_
 rotate_left
 ·
  intro w'
  go_simp
  with_reducible rfl
 rotate_left
 ·
  simp only [Act.put, List.setIfInBounds_toArray, List.set_cons_zero, List.set_cons_succ, i64_w, i32_w]
  rfl
 refine one_ (i := 13) (N := none) #[true, true, true, true, true, true, true, true, true, true, true, true, true, true] rfl rfl (one_of HT_.out (by kernel_rfl)) (by decide) (fun K hK => ?_)
 have hs4 : w3.cell? ⟨gb1095, 0, none⟩ = some (.int .i64 0) := (blk_cell BK1095.out 0).trans rfl
 have hfs4 := blk_frozen BK1095.out 0
 have hs5 : w3.cell? ⟨gb1095, 1, none⟩ = some (.int .i64 0) := (blk_cell BK1095.out 1).trans rfl
 have hfs5 := blk_frozen BK1095.out 1
 have hs6 : w3.cell? ⟨gb1095, 2, none⟩ = some (.int .i64 0) := (blk_cell BK1095.out 2).trans rfl
 have hfs6 := blk_frozen BK1095.out 2
 refine skip_ (w1 := ?_) (by rfl) rfl ?_ ?_
 rotate_left
 ·
  go_simp
  rfl
 refine hK.out _ _ ⟨((cell_far (p := ⟨gb1095, _, none⟩) (by first|exact Nat.ne_of_lt (Nat.lt_of_lt_of_le (by have := World.block_lt_of_cell? _ _ hw1096_0;first|rwa [add_block] at this|exact this) GW1095.out)|(rw [add_block];exact Nat.ne_of_lt (Nat.lt_of_lt_of_le (by have := World.block_lt_of_cell? _ _ hw1096_0;first|rwa [add_block] at this|exact this) GW1095.out))|(show (Addr.add _ _).block ≠ _;rw [add_block];exact Nat.ne_of_lt (Nat.lt_of_lt_of_le (by have := World.block_lt_of_cell? _ _ hw1096_0;first|rwa [add_block] at this|exact this) GW1095.out))|(dsimp only;exact Nat.ne_of_lt (Nat.lt_of_lt_of_le (by have := World.block_lt_of_cell? _ _ hw1096_0;first|rwa [add_block] at this|exact this) GW1095.out))) _).trans (((cell_far (p := ⟨gb1095, _, none⟩) (by first|exact Nat.ne_of_lt (Nat.lt_of_lt_of_le (by have := World.block_lt_of_cell? _ _ hw1096_0;first|rwa [add_block] at this|exact this) GW1095.out)|(rw [add_block];exact Nat.ne_of_lt (Nat.lt_of_lt_of_le (by have := World.block_lt_of_cell? _ _ hw1096_0;first|rwa [add_block] at this|exact this) GW1095.out))|(show (Addr.add _ _).block ≠ _;rw [add_block];exact Nat.ne_of_lt (Nat.lt_of_lt_of_le (by have := World.block_lt_of_cell? _ _ hw1096_0;first|rwa [add_block] at this|exact this) GW1095.out))|(dsimp only;exact Nat.ne_of_lt (Nat.lt_of_lt_of_le (by have := World.block_lt_of_cell? _ _ hw1096_0;first|rwa [add_block] at this|exact this) GW1095.out))) _).trans (((cell_far (p := ⟨gb1095, _, none⟩) (by first|exact Nat.ne_of_lt (Nat.lt_of_lt_of_le (by have := World.block_lt_of_cell? _ _ hw1096_0;first|rwa [add_block] at this|exact this) GW1095.out)|(rw [add_block];exact Nat.ne_of_lt (Nat.lt_of_lt_of_le (by have := World.block_lt_of_cell? _ _ hw1096_0;first|rwa [add_block] at this|exact this) GW1095.out))|(show (Addr.add _ _).block ≠ _;rw [add_block];exact Nat.ne_of_lt (Nat.lt_of_lt_of_le (by have := World.block_lt_of_cell? _ _ hw1096_0;first|rwa [add_block] at this|exact this) GW1095.out))|(dsimp only;exact Nat.ne_of_lt (Nat.lt_of_lt_of_le (by have := World.block_lt_of_cell? _ _ hw1096_0;first|rwa [add_block] at this|exact this) GW1095.out))) _).trans (hHeld.1)))))), ((cell_far (p := ⟨gb1095, _, none⟩) (by first|exact Nat.ne_of_lt (Nat.lt_of_lt_of_le (by have := World.block_lt_of_cell? _ _ hw1096_1;first|rwa [add_block] at this|exact this) GW1095.out)|(rw [add_block];exact Nat.ne_of_lt (Nat.lt_of_lt_of_le (by have := World.block_lt_of_cell? _ _ hw1096_1;first|rwa [add_block] at this|exact this) GW1095.out))|(show (Addr.add _ _).block ≠ _;rw [add_block];exact Nat.ne_of_lt (Nat.lt_of_lt_of_le (by have := World.block_lt_of_cell? _ _ hw1096_1;first|rwa [add_block] at this|exact this) GW1095.out))|(dsimp only;exact Nat.ne_of_lt (Nat.lt_of_lt_of_le (by have := World.block_lt_of_cell? _ _ hw1096_1;first|rwa [add_block] at this|exact this) GW1095.out))) _).trans (((cell_far (p := ⟨gb1095, _, none⟩) (by first|exact Nat.ne_of_lt (Nat.lt_of_lt_of_le (by have := World.block_lt_of_cell? _ _ hw1096_1;first|rwa [add_block] at this|exact this) GW1095.out)|(rw [add_block];exact Nat.ne_of_lt (Nat.lt_of_lt_of_le (by have := World.block_lt_of_cell? _ _ hw1096_1;first|rwa [add_block] at this|exact this) GW1095.out))|(show (Addr.add _ _).block ≠ _;rw [add_block];exact Nat.ne_of_lt (Nat.lt_of_lt_of_le (by have := World.block_lt_of_cell? _ _ hw1096_1;first|rwa [add_block] at this|exact this) GW1095.out))|(dsimp only;exact Nat.ne_of_lt (Nat.lt_of_lt_of_le (by have := World.block_lt_of_cell? _ _ hw1096_1;first|rwa [add_block] at this|exact this) GW1095.out))) _).trans (((cell_far (p := ⟨gb1095, _, none⟩) (by first|exact Nat.ne_of_lt (Nat.lt_of_lt_of_le (by have := World.block_lt_of_cell? _ _ hw1096_1;first|rwa [add_block] at this|exact this) GW1095.out)|(rw [add_block];exact Nat.ne_of_lt (Nat.lt_of_lt_of_le (by have := World.block_lt_of_cell? _ _ hw1096_1;first|rwa [add_block] at this|exact this) GW1095.out))|(show (Addr.add _ _).block ≠ _;rw [add_block];exact Nat.ne_of_lt (Nat.lt_of_lt_of_le (by have := World.block_lt_of_cell? _ _ hw1096_1;first|rwa [add_block] at this|exact this) GW1095.out))|(dsimp only;exact Nat.ne_of_lt (Nat.lt_of_lt_of_le (by have := World.block_lt_of_cell? _ _ hw1096_1;first|rwa [add_block] at this|exact this) GW1095.out))) _).trans (hHeld.2.1)))))), ((cell_far (p := ⟨gb1095, _, none⟩) (by first|exact Nat.ne_of_lt (Nat.lt_of_lt_of_le (by have := World.block_lt_of_cell? _ _ hw1096_2;first|rwa [add_block] at this|exact this) GW1095.out)|(rw [add_block];exact Nat.ne_of_lt (Nat.lt_of_lt_of_le (by have := World.block_lt_of_cell? _ _ hw1096_2;first|rwa [add_block] at this|exact this) GW1095.out))|(show (Addr.add _ _).block ≠ _;rw [add_block];exact Nat.ne_of_lt (Nat.lt_of_lt_of_le (by have := World.block_lt_of_cell? _ _ hw1096_2;first|rwa [add_block] at this|exact this) GW1095.out))|(dsimp only;exact Nat.ne_of_lt (Nat.lt_of_lt_of_le (by have := World.block_lt_of_cell? _ _ hw1096_2;first|rwa [add_block] at this|exact this) GW1095.out))) _).trans (((cell_far (p := ⟨gb1095, _, none⟩) (by first|exact Nat.ne_of_lt (Nat.lt_of_lt_of_le (by have := World.block_lt_of_cell? _ _ hw1096_2;first|rwa [add_block] at this|exact this) GW1095.out)|(rw [add_block];exact Nat.ne_of_lt (Nat.lt_of_lt_of_le (by have := World.block_lt_of_cell? _ _ hw1096_2;first|rwa [add_block] at this|exact this) GW1095.out))|(show (Addr.add _ _).block ≠ _;rw [add_block];exact Nat.ne_of_lt (Nat.lt_of_lt_of_le (by have := World.block_lt_of_cell? _ _ hw1096_2;first|rwa [add_block] at this|exact this) GW1095.out))|(dsimp only;exact Nat.ne_of_lt (Nat.lt_of_lt_of_le (by have := World.block_lt_of_cell? _ _ hw1096_2;first|rwa [add_block] at this|exact this) GW1095.out))) _).trans (((cell_far (p := ⟨gb1095, _, none⟩) (by first|exact Nat.ne_of_lt (Nat.lt_of_lt_of_le (by have := World.block_lt_of_cell? _ _ hw1096_2;first|rwa [add_block] at this|exact this) GW1095.out)|(rw [add_block];exact Nat.ne_of_lt (Nat.lt_of_lt_of_le (by have := World.block_lt_of_cell? _ _ hw1096_2;first|rwa [add_block] at this|exact this) GW1095.out))|(show (Addr.add _ _).block ≠ _;rw [add_block];exact Nat.ne_of_lt (Nat.lt_of_lt_of_le (by have := World.block_lt_of_cell? _ _ hw1096_2;first|rwa [add_block] at this|exact this) GW1095.out))|(dsimp only;exact Nat.ne_of_lt (Nat.lt_of_lt_of_le (by have := World.block_lt_of_cell? _ _ hw1096_2;first|rwa [add_block] at this|exact this) GW1095.out))) _).trans (hHeld.2.2.1)))))), ((cell_far (p := ⟨gb1095, _, none⟩) (by first|exact Nat.ne_of_lt (Nat.lt_of_lt_of_le (by have := World.block_lt_of_cell? _ _ hw1096_3;first|rwa [add_block] at this|exact this) GW1095.out)|(rw [add_block];exact Nat.ne_of_lt (Nat.lt_of_lt_of_le (by have := World.block_lt_of_cell? _ _ hw1096_3;first|rwa [add_block] at this|exact this) GW1095.out))|(show (Addr.add _ _).block ≠ _;rw [add_block];exact Nat.ne_of_lt (Nat.lt_of_lt_of_le (by have := World.block_lt_of_cell? _ _ hw1096_3;first|rwa [add_block] at this|exact this) GW1095.out))|(dsimp only;exact Nat.ne_of_lt (Nat.lt_of_lt_of_le (by have := World.block_lt_of_cell? _ _ hw1096_3;first|rwa [add_block] at this|exact this) GW1095.out))) _).trans (((cell_far (p := ⟨gb1095, _, none⟩) (by first|exact Nat.ne_of_lt (Nat.lt_of_lt_of_le (by have := World.block_lt_of_cell? _ _ hw1096_3;first|rwa [add_block] at this|exact this) GW1095.out)|(rw [add_block];exact Nat.ne_of_lt (Nat.lt_of_lt_of_le (by have := World.block_lt_of_cell? _ _ hw1096_3;first|rwa [add_block] at this|exact this) GW1095.out))|(show (Addr.add _ _).block ≠ _;rw [add_block];exact Nat.ne_of_lt (Nat.lt_of_lt_of_le (by have := World.block_lt_of_cell? _ _ hw1096_3;first|rwa [add_block] at this|exact this) GW1095.out))|(dsimp only;exact Nat.ne_of_lt (Nat.lt_of_lt_of_le (by have := World.block_lt_of_cell? _ _ hw1096_3;first|rwa [add_block] at this|exact this) GW1095.out))) _).trans (((cell_far (p := ⟨gb1095, _, none⟩) (by first|exact Nat.ne_of_lt (Nat.lt_of_lt_of_le (by have := World.block_lt_of_cell? _ _ hw1096_3;first|rwa [add_block] at this|exact this) GW1095.out)|(rw [add_block];exact Nat.ne_of_lt (Nat.lt_of_lt_of_le (by have := World.block_lt_of_cell? _ _ hw1096_3;first|rwa [add_block] at this|exact this) GW1095.out))|(show (Addr.add _ _).block ≠ _;rw [add_block];exact Nat.ne_of_lt (Nat.lt_of_lt_of_le (by have := World.block_lt_of_cell? _ _ hw1096_3;first|rwa [add_block] at this|exact this) GW1095.out))|(dsimp only;exact Nat.ne_of_lt (Nat.lt_of_lt_of_le (by have := World.block_lt_of_cell? _ _ hw1096_3;first|rwa [add_block] at this|exact this) GW1095.out))) _).trans (hHeld.2.2.2))))))⟩ (fun hHeld => ?_)
 clear hK K
 refine done_ (done_of HT_.out (by kernel_rfl)) ?_
 try go_wp2
 refine bodyPost_ret (results_cell_row rfl _ _ gb1095 95 #[.int .i64 ((rd_T137 [xp0] 0).f1), .int .i64 ((rd_T137 [xp0] 0).f2), .int .i64 ((rd_T137 [xp0] 0).f3)] (0, 0) _ rfl (by (with_reducible repeat (first|refine blk_drewN ?_ _|refine blk_drew ?_|refine blk_alloc ?_ _));refine blk_put (cs := #[.int .i64 ((rd_T137 [xp0] 0).f1), .int .i64 ((rd_T137 [xp0] 0).f2), .int .i64 0]) ?_ 2 _ rfl;(with_reducible repeat (first|refine blk_drewN ?_ _|refine blk_drew ?_|refine blk_alloc ?_ _));refine blk_put (cs := #[.int .i64 ((rd_T137 [xp0] 0).f1), .int .i64 0, .int .i64 0]) ?_ 1 _ rfl;(with_reducible repeat (first|refine blk_drewN ?_ _|refine blk_drew ?_|refine blk_alloc ?_ _));refine blk_put (cs := #[.int .i64 0, .int .i64 0, .int .i64 0]) ?_ 0 _ rfl;(with_reducible repeat (first|refine blk_drewN ?_ _|refine blk_drew ?_|refine blk_alloc ?_ _));exact BK1095.out) Try.underlying95 rfl (by kernel_rfl)) rfl ?_
 exact ⟨by first|rfl|(simp [errW_none, errW_some] <;> rfl)|(simp [*, errW_none, errW_some] <;> rfl), by repeat (first|(with_reducible first|exact HB.out|apply below_alloc|apply pw_below_drewN|apply below_drew1|refine below_set ?_ GE1095.out)|exact HB.out)⟩

end Go.Proofs.Ytflddpkmajoeaaa.PP
