/- LookTree: the program's and the reference's, and the law. -/
import Derived.Test.YtmcljallamhccaaVCE
namespace Go.Proofs.Ytmcljallamhccaa.V
open Go
set_option linter.unusedVariables false
set_option linter.unusedSimpArgs false
set_option maxRecDepth 100000
theorem eqIntResult_c (d lo : Nat) (H : Hp) (a b a' b' : Int) : vcall env (d + 1) 29 [.agg #[.int .i64 a, .int .i64 b], .agg #[.int .i64 a', .int .i64 b']] lo H = some (.bool (decide (a = a' ∧ b = b')), H) := by
  rw [call_eq find29 _ _ _ rfl]
  simp -implicitDefEqProofs only [v29, sgn, sgs, vsk, vrt, vex, vos, vdr, vsq, vcd, vbl, xs, xg, xn, yn, yx, yg, VOp.still, vop, kO_, fO_, fA_, kG1, kG2, fG1, fG2, kN_, kS0, kS1, kS2, kD_, kC_, kB0, kB1, kB2, kL0, kL1, kL2, kt0, kt1, kT0, kT1, kF0, kF1, pt, pn, et, ec, lkc, lkn, evs, start, Option.bind_some, Option.bind_none, Nat.reduceEqDiff, if_true, if_false, ↓reduceIte, Nat.zero_add, Nat.add_zero, and_self, true_and, and_true, Bool.false_eq_true, asI, vbin, vcells, ntup, setAll, vfill, bite, vress, vres, tup, Nat.reduceAdd, Nat.reduceMul, Nat.zero_mul, Nat.reduceLeDiff, Nat.le_refl, Nat.le_add_right, List.append_assoc, List.cons_append, List.nil_append, List.append_nil, List.length_append, List.length_cons, List.length_nil, rdk, rd0, rdNk, rdN0, wrNl, wrN0, id_eq, getc0, getcs, setc0, setcs, List.drop_zero, List.drop_succ_cons, List.take_succ_cons, List.take_zero, List.take_nil, toL, reduceCtorEq, VE.exit.injEq, noRef, noRef1, isRef, List.all_cons, List.all_nil, Bool.not_false, Bool.not_true, Bool.and_true, Bool.true_and, Bool.and_false, Bool.false_and, Bool.and_self, List.toList_toArray, Option.isNone_none, Option.isNone_some, Bool.cond_true]
  by_cases h1 : a = a' <;> by_cases h2 : b = b' <;> simp [h1, h2]
def lookC (F : Fo) (root at_ : Int) : Int := if askF F root (decide (0 ≤ at_ ∧ at_ ≤ 15)) = 0 then (if blkOf F root at_.toNat = -1 then 4 else 0) else askF F root (decide (0 ≤ at_ ∧ at_ ≤ 15))
def lookV (F : Fo) (root at_ : Int) : Int := if askF F root (decide (0 ≤ at_ ∧ at_ ≤ 15)) = 0 then (if blkOf F root at_.toNat = -1 then 0 else ((F.b[(blkOf F root at_.toNat).toNat]?).map Bk.d).getD 0) else 0
theorem specLookTree_c (d lo : Nat) (H : Hp) {an nn ab nb F} (h : RF H an nn ab nb F) (hs : SF F) (root at_ : Int) :
    vcall env (d + 6) 56 [.agg #[.slice an nn (sg an 3), .slice ab nb (sg ab 2)], .int .i64 root, .int .i64 at_] lo H = some (.agg #[.int .i64 (lookC F root at_), .int .i64 (lookV F root at_)], H) := by
  have n2 := h.b.1
  have hp := fun l => (show PF (H ++ (some ⟨[.slice an nn (sg an 3), .slice ab nb (sg ab 2)], true, false⟩ :: l)) H.length 0 an nn ab nb F from ⟨by simp [rd0], by simp [rd0], h.app⟩)
  have c1 := fun l => l4Asked_c d H.length _ (hp l) hs root at_
  rw [call_eq find56 _ _ _ rfl]
  unfold lookC lookV
  by_cases h0 : askF F root (decide (0 ≤ at_ ∧ at_ ≤ 15)) = 0
  · obtain ⟨g, hr, hf, _⟩ := ask_zero h0
    obtain ⟨p, rfl⟩ : ∃ p : Nat, at_ = p := ⟨at_.toNat, by have := of_decide_eq_true hf; omega⟩
    have hp15 : p ≤ 15 := by have := of_decide_eq_true hf; omega
    have ht : ∀ d lo H, vcall env (d + 2) 115 [.int .i64 (p : Int)] lo H = some (.bool true, H) := fun d lo H => (isTreePlace_c d lo H (p : Int)).trans (by rw [hf])
    rw [hf] at c1 h0 ⊢
    have c2 := fun l => l4Block_c (d + 3) H.length _ (hp l) g root hr p hp15
    rw [h0] at c1
    rcases blk_at (blkOf_ok g hr hp15) with hb | ⟨j, hj, hb, _⟩
    · have hd : decide ((-1 : Int) < 0) = true := rfl
      rw [hb] at c2
      simp -implicitDefEqProofs only [v56, sgn, sgs, vsk, vrt, vex, vos, vdr, vsq, vcd, vbl, xs, xg, xn, yn, yx, yg, VOp.still, vop, kO_, fO_, fA_, kG1, kG2, fG1, fG2, kN_, kS0, kS1, kS2, kD_, kC_, kB0, kB1, kB2, kL0, kL1, kL2, kt0, kt1, kT0, kT1, kF0, kF1, pt, pn, et, ec, lkc, lkn, evs, start, Option.bind_some, Option.bind_none, Nat.reduceEqDiff, if_true, if_false, ↓reduceIte, Nat.zero_add, Nat.add_zero, and_self, true_and, and_true, Bool.false_eq_true, asI, vbin, vcells, ntup, setAll, vfill, bite, vress, vres, tup, Nat.reduceAdd, Nat.reduceMul, Nat.zero_mul, Nat.reduceLeDiff, Nat.le_refl, Nat.le_add_right, List.append_assoc, List.cons_append, List.nil_append, List.append_nil, List.length_append, List.length_cons, List.length_nil, rdk, rd0, rdNk, rdN0, wrNl, wrN0, id_eq, getc0, getcs, setc0, setcs, List.drop_zero, List.drop_succ_cons, List.take_succ_cons, List.take_zero, List.take_nil, toL, reduceCtorEq, VE.exit.injEq, noRef, noRef1, isRef, List.all_cons, List.all_nil, Bool.not_false, Bool.not_true, Bool.and_true, Bool.true_and, Bool.and_false, Bool.false_and, Bool.and_self, List.toList_toArray, Option.isNone_none, Option.isNone_some, Bool.cond_true, c1, h0, bne_self_eq_false, c2, hd, hb, Int.toNat_natCast]
    · have hd : decide ((j : Int) < 0) = false := decide_eq_false (by omega)
      have hne : ((j : Int) = -1) = False := eq_false (by omega)
      have hjn : j < nb := by omega
      obtain ⟨p0, po, rfl, e⟩ := h.b.at hj
      have e2 := fun l => (e.app (l := l)).2
      rw [hb] at c2
      simp only [sgs] at c1 c2
      simp -implicitDefEqProofs only [v56, sgn, sgs, vsk, vrt, vex, vos, vdr, vsq, vcd, vbl, xs, xg, xn, yn, yx, yg, VOp.still, vop, kO_, fO_, fA_, kG1, kG2, fG1, fG2, kN_, kS0, kS1, kS2, kD_, kC_, kB0, kB1, kB2, kL0, kL1, kL2, kt0, kt1, kT0, kT1, kF0, kF1, pt, pn, et, ec, lkc, lkn, evs, start, Option.bind_some, Option.bind_none, Nat.reduceEqDiff, if_true, if_false, ↓reduceIte, Nat.zero_add, Nat.add_zero, and_self, true_and, and_true, Bool.false_eq_true, asI, vbin, vcells, ntup, setAll, vfill, bite, vress, vres, tup, Nat.reduceAdd, Nat.reduceMul, Nat.zero_mul, Nat.reduceLeDiff, Nat.le_refl, Nat.le_add_right, List.append_assoc, List.cons_append, List.nil_append, List.append_nil, List.length_append, List.length_cons, List.length_nil, rdk, rd0, rdNk, rdN0, wrNl, wrN0, id_eq, getc0, getcs, setc0, setcs, List.drop_zero, List.drop_succ_cons, List.take_succ_cons, List.take_zero, List.take_nil, toL, reduceCtorEq, VE.exit.injEq, noRef, noRef1, isRef, List.all_cons, List.all_nil, Bool.not_false, Bool.not_true, Bool.and_true, Bool.true_and, Bool.and_false, Bool.false_and, Bool.and_self, List.toList_toArray, Option.isNone_none, Option.isNone_some, Bool.cond_true, c1, h0, bne_self_eq_false, c2, hd, hb, hne, Int.toNat_natCast, ltc hjn, ge0, e2, getE hj, Option.map_some, Option.getD_some]
  · have h0' : (askF F root (decide (0 ≤ at_ ∧ at_ ≤ 15)) != 0) = true := by simp only [bne_iff_ne]; exact h0
    simp -implicitDefEqProofs only [v56, sgn, sgs, vsk, vrt, vex, vos, vdr, vsq, vcd, vbl, xs, xg, xn, yn, yx, yg, VOp.still, vop, kO_, fO_, fA_, kG1, kG2, fG1, fG2, kN_, kS0, kS1, kS2, kD_, kC_, kB0, kB1, kB2, kL0, kL1, kL2, kt0, kt1, kT0, kT1, kF0, kF1, pt, pn, et, ec, lkc, lkn, evs, start, Option.bind_some, Option.bind_none, Nat.reduceEqDiff, if_true, if_false, ↓reduceIte, Nat.zero_add, Nat.add_zero, and_self, true_and, and_true, Bool.false_eq_true, asI, vbin, vcells, ntup, setAll, vfill, bite, vress, vres, tup, Nat.reduceAdd, Nat.reduceMul, Nat.zero_mul, Nat.reduceLeDiff, Nat.le_refl, Nat.le_add_right, List.append_assoc, List.cons_append, List.nil_append, List.append_nil, List.length_append, List.length_cons, List.length_nil, rdk, rd0, rdNk, rdN0, wrNl, wrN0, id_eq, getc0, getcs, setc0, setcs, List.drop_zero, List.drop_succ_cons, List.take_succ_cons, List.take_zero, List.take_nil, toL, reduceCtorEq, VE.exit.injEq, noRef, noRef1, isRef, List.all_cons, List.all_nil, Bool.not_false, Bool.not_true, Bool.and_true, Bool.true_and, Bool.and_false, Bool.false_and, Bool.and_self, List.toList_toArray, Option.isNone_none, Option.isNone_some, Bool.cond_true, c1, h0, h0']
theorem implLookTree_c (d lo : Nat) (H : Hp) {an nn ab nb F} (h : RF H an nn ab nb F) (hs : SF F) (root at_ : Int) :
    vcall env (d + 8) 57 [.agg #[.slice an nn (sg an 3), .slice ab nb (sg ab 2)], .int .i64 root, .int .i64 at_] lo H = some (.agg #[.int .i64 (lookC F root at_), .int .i64 (lookV F root at_)], H) := by
  have n2 := h.b.1
  have hp := fun l => (show PF (H ++ (some ⟨[.slice an nn (sg an 3), .slice ab nb (sg ab 2)], true, false⟩ :: l)) H.length 0 an nn ab nb F from ⟨by simp [rd0], by simp [rd0], h.app⟩)
  have c1 := fun l => forestCode_c d H.length (H ++ l) h.app hs root (decide (0 ≤ at_ ∧ at_ ≤ 15))
  have q1 := fun l => (hp l).rdN
  rw [call_eq find57 _ _ _ rfl]
  unfold lookC lookV
  by_cases h0 : askF F root (decide (0 ≤ at_ ∧ at_ ≤ 15)) = 0
  · obtain ⟨g, hr, hf, _⟩ := ask_zero h0
    obtain ⟨p, rfl⟩ : ∃ p : Nat, at_ = p := ⟨at_.toNat, by have := of_decide_eq_true hf; omega⟩
    have hp15 : p ≤ 15 := by have := of_decide_eq_true hf; omega
    have ht : ∀ d lo H, vcall env (d + 2) 115 [.int .i64 (p : Int)] lo H = some (.bool true, H) := fun d lo H => (isTreePlace_c d lo H (p : Int)).trans (by rw [hf])
    rw [hf] at c1 h0 ⊢
    have c2 := fun l => block_c (d + 5) H.length _ (hp l) g root hr p hp15
    rw [h0] at c1
    rcases blk_at (blkOf_ok g hr hp15) with hb | ⟨j, hj, hb, _⟩
    · rw [hb] at c2
      simp -implicitDefEqProofs only [v57, sgn, sgs, vsk, vrt, vex, vos, vdr, vsq, vcd, vbl, xs, xg, xn, yn, yx, yg, VOp.still, vop, kO_, fO_, fA_, kG1, kG2, fG1, fG2, kN_, kS0, kS1, kS2, kD_, kC_, kB0, kB1, kB2, kL0, kL1, kL2, kt0, kt1, kT0, kT1, kF0, kF1, pt, pn, et, ec, lkc, lkn, evs, start, Option.bind_some, Option.bind_none, Nat.reduceEqDiff, if_true, if_false, ↓reduceIte, Nat.zero_add, Nat.add_zero, and_self, true_and, and_true, Bool.false_eq_true, asI, vbin, vcells, ntup, setAll, vfill, bite, vress, vres, tup, Nat.reduceAdd, Nat.reduceMul, Nat.zero_mul, Nat.reduceLeDiff, Nat.le_refl, Nat.le_add_right, List.append_assoc, List.cons_append, List.nil_append, List.append_nil, List.length_append, List.length_cons, List.length_nil, rdk, rd0, rdNk, rdN0, wrNl, wrN0, id_eq, getc0, getcs, setc0, setcs, List.drop_zero, List.drop_succ_cons, List.take_succ_cons, List.take_zero, List.take_nil, toL, reduceCtorEq, VE.exit.injEq, noRef, noRef1, isRef, List.all_cons, List.all_nil, Bool.not_false, Bool.not_true, Bool.and_true, Bool.true_and, Bool.and_false, Bool.false_and, Bool.and_self, List.toList_toArray, Option.isNone_none, Option.isNone_some, Bool.cond_true, vdr, ht, q1, c1, h0, bne_self_eq_false, c2, beq_self_eq_true, hb, Int.toNat_natCast]
    · have hd : ((j : Int) == -1) = false := by rw [beq_eq_false_iff_ne]; omega
      have hne : ((j : Int) = -1) = False := eq_false (by omega)
      have hjn : j < nb := by omega
      obtain ⟨p0, po, rfl, e⟩ := h.b.at hj
      have e2 := fun l => (e.app (l := l)).2
      rw [hb] at c2
      simp only [sgs] at c1 c2 q1
      simp -implicitDefEqProofs only [v57, sgn, sgs, vsk, vrt, vex, vos, vdr, vsq, vcd, vbl, xs, xg, xn, yn, yx, yg, VOp.still, vop, kO_, fO_, fA_, kG1, kG2, fG1, fG2, kN_, kS0, kS1, kS2, kD_, kC_, kB0, kB1, kB2, kL0, kL1, kL2, kt0, kt1, kT0, kT1, kF0, kF1, pt, pn, et, ec, lkc, lkn, evs, start, Option.bind_some, Option.bind_none, Nat.reduceEqDiff, if_true, if_false, ↓reduceIte, Nat.zero_add, Nat.add_zero, and_self, true_and, and_true, Bool.false_eq_true, asI, vbin, vcells, ntup, setAll, vfill, bite, vress, vres, tup, Nat.reduceAdd, Nat.reduceMul, Nat.zero_mul, Nat.reduceLeDiff, Nat.le_refl, Nat.le_add_right, List.append_assoc, List.cons_append, List.nil_append, List.append_nil, List.length_append, List.length_cons, List.length_nil, rdk, rd0, rdNk, rdN0, wrNl, wrN0, id_eq, getc0, getcs, setc0, setcs, List.drop_zero, List.drop_succ_cons, List.take_succ_cons, List.take_zero, List.take_nil, toL, reduceCtorEq, VE.exit.injEq, noRef, noRef1, isRef, List.all_cons, List.all_nil, Bool.not_false, Bool.not_true, Bool.and_true, Bool.true_and, Bool.and_false, Bool.false_and, Bool.and_self, List.toList_toArray, Option.isNone_none, Option.isNone_some, Bool.cond_true, vdr, ht, q1, c1, h0, bne_self_eq_false, c2, hd, hb, hne, Int.toNat_natCast, ltc hjn, ge0, e2, getE hj, Option.map_some, Option.getD_some]
  · have h0' : (askF F root (decide (0 ≤ at_ ∧ at_ ≤ 15)) != 0) = true := by simp only [bne_iff_ne]; exact h0
    simp -implicitDefEqProofs only [v57, sgn, sgs, vsk, vrt, vex, vos, vdr, vsq, vcd, vbl, xs, xg, xn, yn, yx, yg, VOp.still, vop, kO_, fO_, fA_, kG1, kG2, fG1, fG2, kN_, kS0, kS1, kS2, kD_, kC_, kB0, kB1, kB2, kL0, kL1, kL2, kt0, kt1, kT0, kT1, kF0, kF1, pt, pn, et, ec, lkc, lkn, evs, start, Option.bind_some, Option.bind_none, Nat.reduceEqDiff, if_true, if_false, ↓reduceIte, Nat.zero_add, Nat.add_zero, and_self, true_and, and_true, Bool.false_eq_true, asI, vbin, vcells, ntup, setAll, vfill, bite, vress, vres, tup, Nat.reduceAdd, Nat.reduceMul, Nat.zero_mul, Nat.reduceLeDiff, Nat.le_refl, Nat.le_add_right, List.append_assoc, List.cons_append, List.nil_append, List.append_nil, List.length_append, List.length_cons, List.length_nil, rdk, rd0, rdNk, rdN0, wrNl, wrN0, id_eq, getc0, getcs, setc0, setcs, List.drop_zero, List.drop_succ_cons, List.take_succ_cons, List.take_zero, List.take_nil, toL, reduceCtorEq, VE.exit.injEq, noRef, noRef1, isRef, List.all_cons, List.all_nil, Bool.not_false, Bool.not_true, Bool.and_true, Bool.true_and, Bool.and_false, Bool.false_and, Bool.and_self, List.toList_toArray, Option.isNone_none, Option.isNone_some, Bool.cond_true, vdr, isTreePlace_c, q1, c1, h0, h0']
theorem FO.rf {lo : Nat} {H : Hp} {S T : Nat → Prop} {an nn ab nb F} (h : FO lo H S T an nn ab nb F) : RF H an nn ab nb F := h.rfs.rf
/-- The law. -/
theorem law_c (d lo : Nat) (H : Hp) {an nn ab nb F} (h : RF H an nn ab nb F) (hF : ArgF F) (root at_ : Int) (hw1 : (Lit.int .i64 root).wf = true) (hw2 : (Lit.int .i64 at_).wf = true) : vcall env (d + 9) 12 [.agg #[.slice an nn (sg an 3), .slice ab nb (sg ab 2)], .int .i64 root, .int .i64 at_] lo H = some (.bool true, H) := by
  have hs := hF.sf
  obtain ⟨HB, hHB⟩ : ∃ HB, HB = H ++ [some ⟨[.slice an nn (sg an 3), .slice ab nb (sg ab 2)], true, false⟩] := ⟨_, rfl⟩
  have hp : PF HB H.length 0 an nn ab nb F := by rw [hHB]; exact ⟨by simp [rd0], by simp [rd0], h.app⟩
  have hf0 : Fn H HB := by rw [hHB]; exact Fr.app
  obtain ⟨r, hsz, hr⟩ := szForest_c (d + 4) H.length HB hp.f hs 1048576 (by unfold Lf; omega) (by omega)
  rw [call_eq find12 _ _ _ rfl]
  by_cases hr0 : r < 0
  · subst hHB
    simp only [Nat.add_assoc, Nat.reduceAdd] at hsz
    simp -implicitDefEqProofs only [v12, sgn, sgs, vsk, vrt, vex, vos, vdr, vsq, vcd, vbl, xs, xg, xn, yn, yx, yg, VOp.still, vop, kO_, fO_, fA_, kG1, kG2, fG1, fG2, kN_, kS0, kS1, kS2, kD_, kC_, kB0, kB1, kB2, kL0, kL1, kL2, kt0, kt1, kT0, kT1, kF0, kF1, pt, pn, et, ec, lkc, lkn, evs, start, Option.bind_some, Option.bind_none, Nat.reduceEqDiff, if_true, if_false, ↓reduceIte, Nat.zero_add, Nat.add_zero, and_self, true_and, and_true, Bool.false_eq_true, asI, vbin, vcells, ntup, setAll, vfill, bite, vress, vres, tup, Nat.reduceAdd, Nat.reduceMul, Nat.zero_mul, Nat.reduceLeDiff, Nat.le_refl, Nat.le_add_right, List.append_assoc, List.cons_append, List.nil_append, List.append_nil, List.length_append, List.length_cons, List.length_nil, rdk, rd0, rdNk, rdN0, wrNl, wrN0, id_eq, getc0, getcs, setc0, setcs, List.drop_zero, List.drop_succ_cons, List.take_succ_cons, List.take_zero, List.take_nil, toL, reduceCtorEq, VE.exit.injEq, noRef, noRef1, isRef, List.all_cons, List.all_nil, Bool.not_false, Bool.not_true, Bool.and_true, Bool.true_and, Bool.and_false, Bool.false_and, Bool.and_self, List.toList_toArray, Option.isNone_none, Option.isNone_some, Bool.cond_true, hsz, hr0, decide_true]
  · obtain ⟨v1, H1, t1, S1, T1, an1, nn1, ab1, nb1, rfl, f1, g1, o1⟩ := toForest_c (d + 4) H.length HB hp.f hF
    let CW : Option Blk := some ⟨[.int .i64 (lookC F root at_), .int .i64 (lookV F root at_)], true, false⟩
    have p1 := (hp.fn f1).fn (Fr.app (l := [CW]))
    have hle1 : (H.length ≤ H1.length) = True := eq_true (Fr.len (hf0.trans f1))
    obtain ⟨v2, H2, t2, S2, T2, an2, nn2, ab2, nb2, rfl, f2, g2, o2⟩ := toForest_c (d + 4) H.length (H1 ++ [CW]) p1.f hF
    have hle2 : (H.length ≤ H2.length) = True := eq_true (Fr.len ((hf0.trans f1).trans (Fr.app.trans f2)))
    have hle3 : (H.length ≤ H2.length + 1) = True := eq_true (Nat.le_succ_of_le (of_eq_true hle2))
    have hl12 : H1.length < H2.length := by have := f2.len; simp at this; omega
    let CG : Option Blk := some ⟨[.slice an2 nn2 (sg an2 3), .slice ab2 nb2 (sg ab2 2)], true, false⟩
    have w0 : rdN (H1 ++ [CW]) ⟨H1.length, 0, none⟩ 2 = some [.int .i64 (lookC F root at_), .int .i64 (lookV F root at_)] := by simp [rdN0, CW]
    have x2 : ∀ l, rdN (H2 ++ l) ⟨H1.length, 0, none⟩ 2 = some [.int .i64 (lookC F root at_), .int .i64 (lookV F root at_)] := fun l => ((f2.trans (Fr.app (l := l))).rdN H1.length 0 2 (by simp) id).trans w0
    have p2 := fun l => (p1.fn f2).fn (Fr.app (l := l))
    have r2 := fun l => o2.rf.fn (Fr.app (l := l))
    obtain ⟨v3, H3, t3, S3, T3, an3, nn3, ab3, nb3, rfl, f3, g3, o3⟩ := toForest_c (d + 4) (List.length (α := Option Blk) (H2 ++ [CG, CW])) _ (p2 [CG, CW]).f hF
    have s1 := specLookTree_c (d + 2) H.length H1 o1.rf hs root at_
    have i2 := implLookTree_c d H.length _ (r2 [CG]) hs root at_
    have e3 := eqForest_c (d + 4) H.length H3 ((r2 [CG, CW]).fn f3) o3.rf hs
    have q1 := p1.rdN
    have q2 := fun l => (p2 l).rdN
    subst hHB
    simp only [Nat.add_assoc, Nat.reduceAdd, List.length_append, List.length_cons, List.length_nil, Nat.zero_add, CW, CG] at hsz t1 t2 t3 s1 i2 e3 q1
    simp -implicitDefEqProofs only [v12, sgn, sgs, vsk, vrt, vex, vos, vdr, vsq, vcd, vbl, xs, xg, xn, yn, yx, yg, VOp.still, vop, kO_, fO_, fA_, kG1, kG2, fG1, fG2, kN_, kS0, kS1, kS2, kD_, kC_, kB0, kB1, kB2, kL0, kL1, kL2, kt0, kt1, kT0, kT1, kF0, kF1, pt, pn, et, ec, lkc, lkn, evs, start, Option.bind_some, Option.bind_none, Nat.reduceEqDiff, if_true, if_false, ↓reduceIte, Nat.zero_add, Nat.add_zero, and_self, true_and, and_true, Bool.false_eq_true, asI, vbin, vcells, ntup, setAll, vfill, bite, vress, vres, tup, Nat.reduceAdd, Nat.reduceMul, Nat.zero_mul, Nat.reduceLeDiff, Nat.le_refl, Nat.le_add_right, List.append_assoc, List.cons_append, List.nil_append, List.append_nil, List.length_append, List.length_cons, List.length_nil, rdk, rd0, rdNk, rdN0, wrNl, wrN0, id_eq, getc0, getcs, setc0, setcs, List.drop_zero, List.drop_succ_cons, List.take_succ_cons, List.take_zero, List.take_nil, toL, reduceCtorEq, VE.exit.injEq, noRef, noRef1, isRef, List.all_cons, List.all_nil, Bool.not_false, Bool.not_true, Bool.and_true, Bool.true_and, Bool.and_false, Bool.false_and, Bool.and_self, List.toList_toArray, Option.isNone_none, Option.isNone_some, Bool.cond_true, hsz, hr0, decide_false, decide_true, t1, s1, hle1, q1, t2, hle2, hle3, i2, x2, eqIntResult_c, vdr, q2, t3, e3]
end Go.Proofs.Ytmcljallamhccaa.V
