/- UsedOf: the law. -/
import Derived.Test.YtflddpkmajoeaaaVPD
namespace Go.Proofs.Ytflddpkmajoeaaa.V
open Go
set_option linter.unusedVariables false
set_option linter.unusedSimpArgs false
set_option maxRecDepth 100000
theorem eqIntResult_c (d lo : Nat) (H : Hp) (a b a' b' : Int) : vcall env (d + 1) 35 [.agg #[.int .i64 a, .int .i64 b], .agg #[.int .i64 a', .int .i64 b']] lo H = some (.bool (decide (a = a' ∧ b = b')), H) := by
  rw [call_eq find35 _ _ _ rfl]
  simp -implicitDefEqProofs only [v35, sgn, sgs, vsk, vrt, vex, vos, vdr, vsq, vcd, vbl, xs, xg, xn, yn, yx, yg, VOp.still, vop, kO_, fO_, fA_, kG1, kG2, fG1, fG2, kN_, kS0, kS1, kS2, kD_, kC_, kB0, kB1, kB2, kL0, kL1, kL2, kt0, kt1, kT0, kT1, kF0, kF1, pt, pn, et, ec, lkc, lkn, evs, start, Option.bind_some, Option.bind_none, Nat.reduceEqDiff, if_true, if_false, ↓reduceIte, Nat.zero_add, Nat.add_zero, and_self, true_and, and_true, Bool.false_eq_true, asI, vbin, vcells, ntup, setAll, vfill, bite, vress, vres, tup, Nat.reduceAdd, Nat.reduceMul, Nat.zero_mul, Nat.reduceLeDiff, Nat.le_refl, Nat.le_add_right, List.append_assoc, List.cons_append, List.nil_append, List.append_nil, List.length_append, List.length_cons, List.length_nil, rdk, rd0, rdNk, rdN0, wrNl, wrN0, id_eq, getc0, getcs, setc0, setcs, List.drop_zero, List.drop_succ_cons, List.take_succ_cons, List.take_zero, List.take_nil, toL, reduceCtorEq, VE.exit.injEq, noRef, noRef1, isRef, List.all_cons, List.all_nil, Bool.not_false, Bool.not_true, Bool.and_true, Bool.true_and, Bool.and_false, Bool.false_and, Bool.and_self, List.toList_toArray, Option.isNone_none, Option.isNone_some, Bool.cond_true]
  by_cases h1 : a = a' <;> by_cases h2 : b = b' <;> simp [h1, h2]
/-- The law. -/
theorem law_c (d lo : Nat) (H : Hp) {an nn ab nb av nv p} (h : RP' H an nn ab nb av nv p) (hF : ArgP p) (id : Int) (hw1 : (Lit.int .i64 id).wf = true) : vcall env (d + 10) 8 [.agg #[.slice an nn (sg an 3), .slice ab nb (sg ab 2), .slice av nv (sg av 3)], .int .i64 id] lo H = some (.bool true, H) := by
  have hs := hF.sp
  obtain ⟨HB, hHB⟩ : ∃ HB, HB = H ++ [some ⟨[.slice an nn (sg an 3), .slice ab nb (sg ab 2), .slice av nv (sg av 3)], true, false⟩] := ⟨_, rfl⟩
  have hp : PP HB H.length an nn ab nb av nv p := by rw [hHB]; exact ⟨⟨by simp [rd0], by simp [rd0], h.f.app⟩, by simp [rd0], h.v.app fun _ _ _ => EV.app⟩
  have hf0 : Fn H HB := by rw [hHB]; exact Fr.app
  obtain ⟨r, hsz, hr⟩ := szPool_c (d + 4) H.length HB hp.rp hs 1048576 (by unfold Lf; omega) (by omega)
  rw [call_eq find8 _ _ _ rfl]
  by_cases hr0 : r < 0
  · subst hHB
    simp only [Nat.add_assoc, Nat.reduceAdd] at hsz
    simp -implicitDefEqProofs only [v8, sgn, sgs, vsk, vrt, vex, vos, vdr, vsq, vcd, vbl, xs, xg, xn, yn, yx, yg, VOp.still, vop, kO_, fO_, fA_, kG1, kG2, fG1, fG2, kN_, kS0, kS1, kS2, kD_, kC_, kB0, kB1, kB2, kL0, kL1, kL2, kt0, kt1, kT0, kT1, kF0, kF1, pt, pn, et, ec, lkc, lkn, evs, start, Option.bind_some, Option.bind_none, Nat.reduceEqDiff, if_true, if_false, ↓reduceIte, Nat.zero_add, Nat.add_zero, and_self, true_and, and_true, Bool.false_eq_true, asI, vbin, vcells, ntup, setAll, vfill, bite, vress, vres, tup, Nat.reduceAdd, Nat.reduceMul, Nat.zero_mul, Nat.reduceLeDiff, Nat.le_refl, Nat.le_add_right, List.append_assoc, List.cons_append, List.nil_append, List.append_nil, List.length_append, List.length_cons, List.length_nil, rdk, rd0, rdNk, rdN0, wrNl, wrN0, id_eq, getc0, getcs, setc0, setcs, List.drop_zero, List.drop_succ_cons, List.take_succ_cons, List.take_zero, List.take_nil, toL, reduceCtorEq, VE.exit.injEq, noRef, noRef1, isRef, List.all_cons, List.all_nil, Bool.not_false, Bool.not_true, Bool.and_true, Bool.true_and, Bool.and_false, Bool.false_and, Bool.and_self, List.toList_toArray, Option.isNone_none, Option.isNone_some, Bool.cond_true, hsz, hr0, decide_true]
  · obtain ⟨v1, H1, t1, S1, T1, U1, an1, nn1, ab1, nb1, av1, nv1, rfl, f1, g1, o1⟩ := toPool_c (d + 4) H.length HB hp.rp hF
    obtain ⟨CW, hCW⟩ : ∃ CW : Option Blk, CW = some ⟨[.int .i64 (vatC p id), .int .i64 (usV p id)], true, false⟩ := ⟨_, rfl⟩
    have p1 := (hp.fn f1).fn (Fr.app (l := [CW]))
    have hle1 : (H.length ≤ H1.length) = True := eq_true (Fr.len (hf0.trans f1))
    obtain ⟨v2, H2, t2, S2, T2, U2, an2, nn2, ab2, nb2, av2, nv2, rfl, f2, g2, o2⟩ := toPool_c (d + 4) H.length (H1 ++ [CW]) p1.rp hF
    have hle2 : (H.length ≤ H2.length) = True := eq_true (Fr.len ((hf0.trans f1).trans (Fr.app.trans f2)))
    have hle3 : (H.length ≤ H2.length + 1) = True := eq_true (Nat.le_succ_of_le (of_eq_true hle2))
    have hl12 : H1.length < H2.length := by have := f2.len; simp at this; omega
    obtain ⟨CG, hCG⟩ : ∃ CG : Option Blk, CG = some ⟨[.slice an2 nn2 (sg an2 3), .slice ab2 nb2 (sg ab2 2), .slice av2 nv2 (sg av2 3)], true, false⟩ := ⟨_, rfl⟩
    have w0 : rdN (H1 ++ [CW]) ⟨H1.length, 0, none⟩ 2 = some [.int .i64 (vatC p id), .int .i64 (usV p id)] := by simp [rdN0, hCW]
    have x2 : ∀ l, rdN (H2 ++ l) ⟨H1.length, 0, none⟩ 2 = some [.int .i64 (vatC p id), .int .i64 (usV p id)] := fun l => ((f2.trans (Fr.app (l := l))).rdN H1.length 0 2 (by simp) (fun hh => hh)).trans w0
    have p2 := fun l => (p1.fn f2).fn (Fr.app (l := l))
    have r2 := fun l => o2.rp.fn (Fr.app (l := l))
    obtain ⟨v3, H3, t3, S3, T3, U3, an3, nn3, ab3, nb3, av3, nv3, rfl, f3, g3, o3⟩ := toPool_c (d + 4) (List.length (α := Option Blk) (H2 ++ [CG, CW])) _ (p2 [CG, CW]).rp hF
    have s1 := specUsedOf_c (d + 2) H.length H1 o1.rp hs id
    have i2 := implUsedOf_c d H.length _ (r2 [CG]) hs id
    have e3 := eqPool_c (d + 4) H.length H3 ((r2 [CG, CW]).fn f3) o3.rp hs
    have q1 := p1.rdN
    have q2 := fun l => (p2 l).rdN
    subst hHB hCG hCW
    simp only [Nat.add_assoc, Nat.reduceAdd, List.length_append, List.length_cons, List.length_nil, Nat.zero_add] at hsz t1 t2 t3 s1 i2 e3 q1
    simp -implicitDefEqProofs only [v8, sgn, sgs, vsk, vrt, vex, vos, vdr, vsq, vcd, vbl, xs, xg, xn, yn, yx, yg, VOp.still, vop, kO_, fO_, fA_, kG1, kG2, fG1, fG2, kN_, kS0, kS1, kS2, kD_, kC_, kB0, kB1, kB2, kL0, kL1, kL2, kt0, kt1, kT0, kT1, kF0, kF1, pt, pn, et, ec, lkc, lkn, evs, start, Option.bind_some, Option.bind_none, Nat.reduceEqDiff, if_true, if_false, ↓reduceIte, Nat.zero_add, Nat.add_zero, and_self, true_and, and_true, Bool.false_eq_true, asI, vbin, vcells, ntup, setAll, vfill, bite, vress, vres, tup, Nat.reduceAdd, Nat.reduceMul, Nat.zero_mul, Nat.reduceLeDiff, Nat.le_refl, Nat.le_add_right, List.append_assoc, List.cons_append, List.nil_append, List.append_nil, List.length_append, List.length_cons, List.length_nil, rdk, rd0, rdNk, rdN0, wrNl, wrN0, id_eq, getc0, getcs, setc0, setcs, List.drop_zero, List.drop_succ_cons, List.take_succ_cons, List.take_zero, List.take_nil, toL, reduceCtorEq, VE.exit.injEq, noRef, noRef1, isRef, List.all_cons, List.all_nil, Bool.not_false, Bool.not_true, Bool.and_true, Bool.true_and, Bool.and_false, Bool.false_and, Bool.and_self, List.toList_toArray, Option.isNone_none, Option.isNone_some, Bool.cond_true, hsz, hr0, decide_false, decide_true, t1, s1, hle1, q1, t2, hle2, hle3, i2, x2, eqIntResult_c, vdr, q2, t3, e3]
end Go.Proofs.Ytflddpkmajoeaaa.V
