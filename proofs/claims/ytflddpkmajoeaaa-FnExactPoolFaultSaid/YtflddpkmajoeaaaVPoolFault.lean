/- PoolFault: the law. -/
import Derived.Test.YtflddpkmajoeaaaVPC
namespace Go.Proofs.Ytflddpkmajoeaaa.V
open Go
set_option linter.unusedVariables false
set_option linter.unusedSimpArgs false
set_option maxRecDepth 100000
/-- The law. -/
theorem law_c (d lo : Nat) (H : Hp) {an nn ab nb av nv p} (h : RP' H an nn ab nb av nv p) (hF : ArgP p) : vcall env (d + 8) 6 [.agg #[.slice an nn (sg an 3), .slice ab nb (sg ab 2), .slice av nv (sg av 3)]] lo H = some (.bool true, H) := by
  have hs := hF.sp
  obtain ⟨HB, hHB⟩ : ∃ HB, HB = H ++ [some ⟨[.slice an nn (sg an 3), .slice ab nb (sg ab 2), .slice av nv (sg av 3)], true, false⟩] := ⟨_, rfl⟩
  have hp : PP HB H.length an nn ab nb av nv p := by rw [hHB]; exact ⟨⟨by simp [rd0], by simp [rd0], h.f.app⟩, by simp [rd0], h.v.app fun _ _ _ => EV.app⟩
  obtain ⟨r, hsz, hr⟩ := szPool_c (d + 2) H.length HB hp.rp hs 1048576 (by unfold Lf; omega) (by omega)
  rw [call_eq find6 _ _ _ rfl]
  by_cases hr0 : r < 0
  · subst hHB
    simp only [Nat.add_assoc, Nat.reduceAdd] at hsz
    simp -implicitDefEqProofs only [v6, sgn, sgs, vsk, vrt, vex, vos, vdr, vsq, vcd, vbl, xs, xg, xn, yn, yx, yg, VOp.still, vop, kO_, fO_, fA_, kG1, kG2, fG1, fG2, kN_, kS0, kS1, kS2, kD_, kC_, kB0, kB1, kB2, kL0, kL1, kL2, kt0, kt1, kT0, kT1, kF0, kF1, pt, pn, et, ec, lkc, lkn, evs, start, Option.bind_some, Option.bind_none, Nat.reduceEqDiff, if_true, if_false, ↓reduceIte, Nat.zero_add, Nat.add_zero, and_self, true_and, and_true, Bool.false_eq_true, asI, vbin, vcells, ntup, setAll, vfill, bite, vress, vres, tup, Nat.reduceAdd, Nat.reduceMul, Nat.zero_mul, Nat.reduceLeDiff, Nat.le_refl, Nat.le_add_right, List.append_assoc, List.cons_append, List.nil_append, List.append_nil, List.length_append, List.length_cons, List.length_nil, rdk, rd0, rdNk, rdN0, wrNl, wrN0, id_eq, getc0, getcs, setc0, setcs, List.drop_zero, List.drop_succ_cons, List.take_succ_cons, List.take_zero, List.take_nil, toL, reduceCtorEq, VE.exit.injEq, noRef, noRef1, isRef, List.all_cons, List.all_nil, Bool.not_false, Bool.not_true, Bool.and_true, Bool.true_and, Bool.and_false, Bool.false_and, Bool.and_self, List.toList_toArray, Option.isNone_none, Option.isNone_some, Bool.cond_true, hsz, hr0, decide_true]
  · obtain ⟨v1, H1, t1, S1, T1, U1, an1, nn1, ab1, nb1, av1, nv1, rfl, f1, g1, o1⟩ := toPool_c (d + 2) H.length HB hp.rp hF
    have p1 := hp.fn f1
    obtain ⟨v2, H2, t2, S2, T2, U2, an2, nn2, ab2, nb2, av2, nv2, rfl, f2, g2, o2⟩ := toPool_c (d + 2) H.length H1 p1.rp hF
    have hle2 : (H.length ≤ H2.length) = True := eq_true (by have := f1.len; have := f2.len; rw [hHB] at *; simp at *; omega)
    obtain ⟨CG, hCG⟩ : ∃ CG : Option Blk, CG = some ⟨[.slice an2 nn2 (sg an2 3), .slice ab2 nb2 (sg ab2 2), .slice av2 nv2 (sg av2 3)], true, false⟩ := ⟨_, rfl⟩
    have fG : Fn H2 (H2 ++ [CG]) := Fr.app
    have p2 := (p1.fn f2).fn fG
    obtain ⟨v3, H3, t3, S3, T3, U3, an3, nn3, ab3, nb3, av3, nv3, rfl, f3, g3, o3⟩ := toPool_c (d + 2) (List.length (α := Option Blk) (H2 ++ [CG])) _ p2.rp hF
    have s1 := specPoolFault_c (d + 1) H.length H1 o1.rp hs
    have i2 := implPoolFault_c d H.length _ (o2.rp.fn fG) hs
    have e3 := eqPool_c (d + 2) H.length H3 ((o2.rp.fn fG).fn f3) o3.rp hs
    have q0 := hp.rdN
    have q1 := p1.rdN
    have q2 := p2.rdN
    subst hHB hCG
    simp only [Nat.add_assoc, Nat.reduceAdd, List.length_append, List.length_cons, List.length_nil, Nat.zero_add] at hsz t1 t2 t3 s1 i2 e3 q1
    simp -implicitDefEqProofs only [v6, sgn, sgs, vsk, vrt, vex, vos, vdr, vsq, vcd, vbl, xs, xg, xn, yn, yx, yg, VOp.still, vop, kO_, fO_, fA_, kG1, kG2, fG1, fG2, kN_, kS0, kS1, kS2, kD_, kC_, kB0, kB1, kB2, kL0, kL1, kL2, kt0, kt1, kT0, kT1, kF0, kF1, pt, pn, et, ec, lkc, lkn, evs, start, Option.bind_some, Option.bind_none, Nat.reduceEqDiff, if_true, if_false, ↓reduceIte, Nat.zero_add, Nat.add_zero, and_self, true_and, and_true, Bool.false_eq_true, asI, vbin, vcells, ntup, setAll, vfill, bite, vress, vres, tup, Nat.reduceAdd, Nat.reduceMul, Nat.zero_mul, Nat.reduceLeDiff, Nat.le_refl, Nat.le_add_right, List.append_assoc, List.cons_append, List.nil_append, List.append_nil, List.length_append, List.length_cons, List.length_nil, rdk, rd0, rdNk, rdN0, wrNl, wrN0, id_eq, getc0, getcs, setc0, setcs, List.drop_zero, List.drop_succ_cons, List.take_succ_cons, List.take_zero, List.take_nil, toL, reduceCtorEq, VE.exit.injEq, noRef, noRef1, isRef, List.all_cons, List.all_nil, Bool.not_false, Bool.not_true, Bool.and_true, Bool.true_and, Bool.and_false, Bool.false_and, Bool.and_self, List.toList_toArray, Option.isNone_none, Option.isNone_some, Bool.cond_true, hsz, hr0, decide_false, decide_true, t1, s1, q1, t2, hle2, i2, bne_self_eq_false, vdr, q2, t3, e3]
end Go.Proofs.Ytflddpkmajoeaaa.V
