/- NewPool: the program's and the reference's, and the law. -/
import Derived.Test.YtmcljallamhccaaVNewForestC
import Derived.Test.YtmcljallamhccaaVCVR
namespace Go.Proofs.Ytmcljallamhccaa.V
open Go
set_option linter.unusedVariables false
set_option linter.unusedSimpArgs false
set_option maxRecDepth 100000
/-- A pool result in new memory. -/
def NewP (H H' : Hp) (v : Value) (c r x : Int) (p : Po) : Prop := ∃ S T U an nn ab nb av nv, v = .agg #[.int .i64 c, .int .i64 r, .int .i64 x, .slice an nn (sg an 3), .slice ab nb (sg ab 2), .slice av nv (sg av 3)] ∧ Fr (fun _ => False) H H' ∧ (∀ i, S i ∨ T i ∨ U i → H.length ≤ i) ∧ PO H.length H' S T U an nn ab nb av nv p
def newP (n : Int) : Int × Po := ((newF n).1, ⟨(newF n).2.2, []⟩)
theorem NewP.done {H H2 : Hp} {v : Value} {c r x : Int} {p : Po} (h : NewP H H2 v c r x p) : NewP H (if noRef v = true then H else H2) v c r x p := by
  by_cases hn : noRef v = true
  · rw [if_pos hn]
    obtain ⟨S, T, U, an, nn, ab, nb, av, nv, rfl, f, g, o⟩ := h
    have hn' : an = none ∧ ab = none ∧ av = none := by cases an <;> cases ab <;> cases av <;> simp_all [noRef, noRef1, isRef]
    obtain ⟨rfl, rfl, rfl⟩ := hn'
    exact ⟨fun _ => False, fun _ => False, fun _ => False, _, _, _, _, _, _, rfl, Fr.refl, fun i hi => (by simp at hi), o.f.non, o.v.non, fun i hi => hi.no.elim, fun i hi => id, fun i hi => hi.elim⟩
  · rw [if_neg hn]; exact h
theorem specNewPool_c (d lo : Nat) (H : Hp) (n : Int) : ∃ v H', vcall env (d + 4) 46 [.int .i64 n] lo H = some (v, H') ∧ NewP H H' v (newP n).1 0 0 (newP n).2 := by
  obtain ⟨v, H1, c1, S, T, an, nn, ab, nb, rfl, f1, g1, o1⟩ := specNewForest_c d H.length (H ++ [some ⟨[.int .i64 0, .int .i64 0, .int .i64 0, .slice none 0 0, .slice none 0 0, .slice none 0 0], true, false⟩]) n
  have hl := f1.len
  simp only [List.length_append, List.length_cons, List.length_nil] at hl g1
  have l1 : (H.length ≤ H1.length) = True := by simp; omega
  have hb := fun l => (((f1.trans (Fr.app (l := l))).blk H.length (by simp) id).trans blk0).trans rfl
  have w1 := fun l vs hv => wr_setB (lo := H.length) (hb l) (Nat.le_refl _) vs hv
  have w2 := fun l vs hv => rdN_setB (hb l) 6 vs hv
  have fr := fun l vs => (Fr.app.trans ((f1.no.trans (Fr.app (l := l))).trans (Fr.setB (hb l) vs))).new fun i hi => by rw [hi]; exact Nat.le_refl _
  rw [call_eq find46 _ _ _ rfl]
  by_cases hc : (newF n).1 = 0
  · simp -implicitDefEqProofs only [v46, sgn, sgs, vsk, vrt, vex, vos, vdr, vsq, vcd, vbl, xs, xg, xn, yn, yx, yg, VOp.still, vop, kO_, fO_, fA_, kG1, kG2, fG1, fG2, kN_, kS0, kS1, kS2, kD_, kC_, kB0, kB1, kB2, kL0, kL1, kL2, kt0, kt1, kT0, kT1, kF0, kF1, pt, pn, et, ec, lkc, lkn, evs, start, Option.bind_some, Option.bind_none, Nat.reduceEqDiff, if_true, if_false, ↓reduceIte, Nat.zero_add, Nat.add_zero, and_self, true_and, and_true, Bool.false_eq_true, asI, vbin, vcells, ntup, setAll, vfill, bite, vress, vres, tup, Nat.reduceAdd, Nat.reduceMul, Nat.zero_mul, Nat.reduceLeDiff, Nat.le_refl, Nat.le_add_right, List.append_assoc, List.cons_append, List.nil_append, List.append_nil, List.length_append, List.length_cons, List.length_nil, rdk, rd0, rdNk, rdN0, wrNl, wrN0, id_eq, getc0, getcs, setc0, setcs, List.drop_zero, List.drop_succ_cons, List.take_succ_cons, List.take_zero, List.take_nil, toL, reduceCtorEq, VE.exit.injEq, Bool.not_false, Bool.not_true, Bool.and_true, Bool.true_and, Bool.and_false, Bool.false_and, Bool.and_self, List.toList_toArray, Option.isNone_none, Option.isNone_some, Bool.cond_true, c1, l1, hc, bne_self_eq_false, w1, w2, newP]
    refine ⟨_, _, rfl, NewP.done ⟨S, T, fun _ => False, an, nn, ab, nb, none, 0, rfl, fr _ _, fun i hi => ?_, ?_⟩⟩
    · have : S i ∨ T i := by rcases hi with hi | hi | hi; exact Or.inl hi; exact Or.inr hi; exact hi.elim
      have := g1 i this; omega
    · have o2 := fun l vs => (o1.fr (U := fun _ => False) (fun _ _ => id) (Fr.app (l := l))).fr (U := (· = H.length)) (fun i hi e => by have := g1 i hi; omega) (Fr.setB (hb l) vs)
      exact ⟨(o2 _ _).lo (by simp), Rep.nil, fun i hi => hi.no.elim, fun i hi => id, fun i hi => hi.elim⟩
  · have hF : (newF n).2.2 = ⟨[], []⟩ := by unfold newF at hc ⊢; split <;> simp_all
    have hc' : ((newF n).1 != 0) = true := by simp [hc]
    simp -implicitDefEqProofs only [v46, sgn, sgs, vsk, vrt, vex, vos, vdr, vsq, vcd, vbl, xs, xg, xn, yn, yx, yg, VOp.still, vop, kO_, fO_, fA_, kG1, kG2, fG1, fG2, kN_, kS0, kS1, kS2, kD_, kC_, kB0, kB1, kB2, kL0, kL1, kL2, kt0, kt1, kT0, kT1, kF0, kF1, pt, pn, et, ec, lkc, lkn, evs, start, Option.bind_some, Option.bind_none, Nat.reduceEqDiff, if_true, if_false, ↓reduceIte, Nat.zero_add, Nat.add_zero, and_self, true_and, and_true, Bool.false_eq_true, asI, vbin, vcells, ntup, setAll, vfill, bite, vress, vres, tup, Nat.reduceAdd, Nat.reduceMul, Nat.zero_mul, Nat.reduceLeDiff, Nat.le_refl, Nat.le_add_right, List.append_assoc, List.cons_append, List.nil_append, List.append_nil, List.length_append, List.length_cons, List.length_nil, rdk, rd0, rdNk, rdN0, wrNl, wrN0, id_eq, getc0, getcs, setc0, setcs, List.drop_zero, List.drop_succ_cons, List.take_succ_cons, List.take_zero, List.take_nil, toL, reduceCtorEq, VE.exit.injEq, Bool.not_false, Bool.not_true, Bool.and_true, Bool.true_and, Bool.and_false, Bool.false_and, Bool.and_self, List.toList_toArray, Option.isNone_none, Option.isNone_some, Bool.cond_true, c1, l1, hc', w1, w2, newP, hF]
    exact ⟨_, _, rfl, NewP.done ⟨fun _ => False, fun _ => False, fun _ => False, none, 0, none, 0, none, 0, rfl, fr _ _, fun i hi => (by simp at hi), ⟨ON.nil, Rep.nil, fun i hi => hi.no.elim, fun i hi => id, fun i hi => (by simp at hi)⟩, Rep.nil, fun i hi => hi.no.elim, fun i hi => id, fun i hi => hi.elim⟩⟩
theorem implNewPool_c (d lo : Nat) (H : Hp) (n : Int) : ∃ v H', vcall env (d + 4) 47 [.int .i64 n] lo H = some (v, H') ∧ NewP H H' v (newP n).1 0 0 (newP n).2 := by
  obtain ⟨v, H1, c1, S, T, an, nn, ab, nb, rfl, f1, g1, o1⟩ := implNewForest_c d H.length (H ++ [some ⟨[.int .i64 0, .int .i64 0, .int .i64 0, .slice none 0 0, .slice none 0 0, .slice none 0 0], true, false⟩]) n
  have hl := f1.len
  simp only [List.length_append, List.length_cons, List.length_nil] at hl g1
  have l1 : (H.length ≤ H1.length) = True := by simp; omega
  have hb := fun l => (((f1.trans (Fr.app (l := l))).blk H.length (by simp) id).trans blk0).trans rfl
  have w1 := fun l vs hv => wr_setB (lo := H.length) (hb l) (Nat.le_refl _) vs hv
  have w2 := fun l vs hv => rdN_setB (hb l) 6 vs hv
  have fr := fun l vs => (Fr.app.trans ((f1.no.trans (Fr.app (l := l))).trans (Fr.setB (hb l) vs))).new fun i hi => by rw [hi]; exact Nat.le_refl _
  rw [call_eq find47 _ _ _ rfl]
  by_cases hc : (newF n).1 = 0
  · simp -implicitDefEqProofs only [v47, sgn, sgs, vsk, vrt, vex, vos, vdr, vsq, vcd, vbl, xs, xg, xn, yn, yx, yg, VOp.still, vop, kO_, fO_, fA_, kG1, kG2, fG1, fG2, kN_, kS0, kS1, kS2, kD_, kC_, kB0, kB1, kB2, kL0, kL1, kL2, kt0, kt1, kT0, kT1, kF0, kF1, pt, pn, et, ec, lkc, lkn, evs, start, Option.bind_some, Option.bind_none, Nat.reduceEqDiff, if_true, if_false, ↓reduceIte, Nat.zero_add, Nat.add_zero, and_self, true_and, and_true, Bool.false_eq_true, asI, vbin, vcells, ntup, setAll, vfill, bite, vress, vres, tup, Nat.reduceAdd, Nat.reduceMul, Nat.zero_mul, Nat.reduceLeDiff, Nat.le_refl, Nat.le_add_right, List.append_assoc, List.cons_append, List.nil_append, List.append_nil, List.length_append, List.length_cons, List.length_nil, rdk, rd0, rdNk, rdN0, wrNl, wrN0, id_eq, getc0, getcs, setc0, setcs, List.drop_zero, List.drop_succ_cons, List.take_succ_cons, List.take_zero, List.take_nil, toL, reduceCtorEq, VE.exit.injEq, Bool.not_false, Bool.not_true, Bool.and_true, Bool.true_and, Bool.and_false, Bool.false_and, Bool.and_self, List.toList_toArray, Option.isNone_none, Option.isNone_some, Bool.cond_true, c1, l1, hc, bne_self_eq_false, w1, w2, newP]
    refine ⟨_, _, rfl, NewP.done ⟨S, T, fun _ => False, an, nn, ab, nb, none, 0, rfl, fr _ _, fun i hi => ?_, ?_⟩⟩
    · have : S i ∨ T i := by rcases hi with hi | hi | hi; exact Or.inl hi; exact Or.inr hi; exact hi.elim
      have := g1 i this; omega
    · have o2 := fun l vs => (o1.fr (U := fun _ => False) (fun _ _ => id) (Fr.app (l := l))).fr (U := (· = H.length)) (fun i hi e => by have := g1 i hi; omega) (Fr.setB (hb l) vs)
      exact ⟨(o2 _ _).lo (by simp), Rep.nil, fun i hi => hi.no.elim, fun i hi => id, fun i hi => hi.elim⟩
  · have hF : (newF n).2.2 = ⟨[], []⟩ := by unfold newF at hc ⊢; split <;> simp_all
    have hc' : ((newF n).1 != 0) = true := by simp [hc]
    simp -implicitDefEqProofs only [v47, sgn, sgs, vsk, vrt, vex, vos, vdr, vsq, vcd, vbl, xs, xg, xn, yn, yx, yg, VOp.still, vop, kO_, fO_, fA_, kG1, kG2, fG1, fG2, kN_, kS0, kS1, kS2, kD_, kC_, kB0, kB1, kB2, kL0, kL1, kL2, kt0, kt1, kT0, kT1, kF0, kF1, pt, pn, et, ec, lkc, lkn, evs, start, Option.bind_some, Option.bind_none, Nat.reduceEqDiff, if_true, if_false, ↓reduceIte, Nat.zero_add, Nat.add_zero, and_self, true_and, and_true, Bool.false_eq_true, asI, vbin, vcells, ntup, setAll, vfill, bite, vress, vres, tup, Nat.reduceAdd, Nat.reduceMul, Nat.zero_mul, Nat.reduceLeDiff, Nat.le_refl, Nat.le_add_right, List.append_assoc, List.cons_append, List.nil_append, List.append_nil, List.length_append, List.length_cons, List.length_nil, rdk, rd0, rdNk, rdN0, wrNl, wrN0, id_eq, getc0, getcs, setc0, setcs, List.drop_zero, List.drop_succ_cons, List.take_succ_cons, List.take_zero, List.take_nil, toL, reduceCtorEq, VE.exit.injEq, Bool.not_false, Bool.not_true, Bool.and_true, Bool.true_and, Bool.and_false, Bool.false_and, Bool.and_self, List.toList_toArray, Option.isNone_none, Option.isNone_some, Bool.cond_true, c1, l1, hc', w1, w2, newP, hF]
    exact ⟨_, _, rfl, NewP.done ⟨fun _ => False, fun _ => False, fun _ => False, none, 0, none, 0, none, 0, rfl, fr _ _, fun i hi => (by simp at hi), ⟨ON.nil, Rep.nil, fun i hi => hi.no.elim, fun i hi => id, fun i hi => (by simp at hi)⟩, Rep.nil, fun i hi => hi.no.elim, fun i hi => id, fun i hi => hi.elim⟩⟩
theorem newP_sm (n : Int) : SP (newP n).2 := ⟨newF_sm n, by simp [newP, Sm]⟩
theorem newP_km (n : Int) : Km (1 + sP (newP n).2) := by
  have := newF_km n
  simpa [newP, sP] using this
/-- The law. -/
theorem law_c (d lo : Nat) (H : Hp) (n : Int) : vcall env (d + 7) 10 [.int .i64 n] lo H = some (.bool true, H) := by
  have hsm := newP_sm n
  have hkm := newP_km n
  obtain ⟨W, H1, hw, S1, T1, U1, an1, nn1, ab1, nb1, av1, nv1, rfl, f1, g1, o1⟩ := specNewPool_c (d + 2) H.length H n
  obtain ⟨G, H2, hg, S2, T2, U2, an2, nn2, ab2, nb2, av2, nv2, rfl, f2, g2, o2⟩ := implNewPool_c (d + 2) H.length (H1 ++ [some ⟨[.int .i64 (newP n).1, .int .i64 0, .int .i64 0, .slice an1 nn1 (sg an1 3), .slice ab1 nb1 (sg ab1 2), .slice av1 nv1 (sg av1 3)], true, false⟩]) n
  generalize hc : (newP n).1 = c at *
  generalize hF : (newP n).2 = F at *
  have o2' := o2.fr (X := fun _ => False) (fun i _ => id) (Fr.app (l := [some ⟨[.int .i64 c, .int .i64 0, .int .i64 0, .slice an2 nn2 (sg an2 3), .slice ab2 nb2 (sg ab2 2), .slice av2 nv2 (sg av2 3)], true, false⟩]))
  have hl1 := f1.len
  have hl2 := f2.len
  simp only [List.length_append, List.length_cons, List.length_nil] at hl2
  obtain ⟨H3, hm, f3, r3⟩ := markPoolResult_c (d + 1) H.length _ S2 T2 U2 c 0 0 1 (o2'.lo (by simp; omega)) hsm (by omega) hkm
  obtain ⟨G', H4, hg', S4, T4, U4, an4, nn4, ab4, nb4, av4, nv4, rfl, f4, g4, o4⟩ := implNewPool_c (d + 2) H.length H3 n
  rw [hc, hF] at *
  have hl3 := f3.len
  simp only [List.length_append, List.length_cons, List.length_nil] at hl3
  have hl4 := f4.len
  -- the reference's answer, wherever it is read
  have u1 : ∀ i, S1 i ∨ T1 i ∨ U1 i → i < H1.length := fun i hi => by rcases hi with hi | hi | hi; exact o1.f.lt i (Or.inl hi); exact o1.f.lt i (Or.inr hi); exact o1.lt i hi
  have u2 : ∀ i, S2 i ∨ T2 i ∨ U2 i → H1.length + 1 ≤ i ∧ i < H2.length := fun i hi => ⟨by have := g2 i hi; simpa using this, (by rcases hi with hi | hi | hi; exact o2.f.lt i (Or.inl hi); exact o2.f.lt i (Or.inr hi); exact o2.lt i hi)⟩
  have w2 := fun l => ((o1.rps.fr (fun i _ => id) Fr.app).fr (fun i _ => id) f2).fr (T := fun _ => False) (fun i _ => id) (Fr.app (l := l))
  have w4 := fun l => (((w2 _).fr (fun i hi hj => by have := u1 i hi; have := u2 i hj; omega) f3).fr (fun i _ => id) f4).fr (T := fun _ => False) (fun i _ => id) (Fr.app (l := l))
  have x2 : ∀ l, rdN (H2 ++ l) ⟨H1.length, 0, none⟩ 6 = some [.int .i64 c, .int .i64 0, .int .i64 0, .slice an1 nn1 (sg an1 3), .slice ab1 nb1 (sg ab1 2), .slice av1 nv1 (sg av1 3)] := fun l => ((f2.trans (Fr.app (l := l))).rdN H1.length 0 6 (by simp) id).trans (by simp [rdN0])
  have x4 : ∀ l, rdN (H4 ++ l) ⟨H1.length, 0, none⟩ 6 = some [.int .i64 c, .int .i64 0, .int .i64 0, .slice an1 nn1 (sg an1 3), .slice ab1 nb1 (sg ab1 2), .slice av1 nv1 (sg av1 3)] := fun l => ((f4.trans (Fr.app (l := l))).rdN H1.length 0 6 (by omega) id).trans ((f3.rdN H1.length 0 6 (by simp; omega) (fun h => by have := u2 _ h; omega)).trans (x2 _))
  have y3 : rdN H3 ⟨H2.length, 0, none⟩ 6 = some [.int .i64 c, .int .i64 0, .int .i64 0, .slice an2 nn2 (sg an2 3), .slice ab2 nb2 (sg ab2 2), .slice av2 nv2 (sg av2 3)] := (f3.rdN H2.length 0 6 (by simp) (fun h => by have := u2 _ h; omega)).trans (by simp [rdN0])
  have y4 : ∀ l, rdN (H4 ++ l) ⟨H2.length, 0, none⟩ 6 = some [.int .i64 c, .int .i64 0, .int .i64 0, .slice an2 nn2 (sg an2 3), .slice ab2 nb2 (sg ab2 2), .slice av2 nv2 (sg av2 3)] := fun l => ((f4.trans (Fr.app (l := l))).rdN H2.length 0 6 (by omega) id).trans y3
  have e2 := fun l => eqPoolResult_c d H.length (H2 ++ l) (o2.rps.rp.app (l := l)) (w2 l).rp hsm c 0 0 c 0 0
  have e4 := fun l => eqPoolResult_c d H.length (H4 ++ l) (o4.rps.rp.app (l := l)) (w4 l).rp hsm c 0 0 c 0 0
  have k3 := heldPoolResult_c (d + 1) H.length H3 c 0 0 1 r3.rp hsm (by omega) hkm
  have k4 := fun l => heldPoolResult_c (d + 1) H.length (H4 ++ l) c 0 0 1 ((r3.fr (fun i _ => id) f4).rp.app (l := l)) hsm (by omega) hkm
  have z : decide (1 + sP F < 0) = false := decide_eq_false (by have := sP_nonneg F; omega)
  have c1 : (H.length ≤ H1.length) = True := by simp; omega
  have c2 : (H.length ≤ H2.length) = True := by simp; omega
  have c4 : (H.length ≤ H4.length) = True := by simp; omega
  simp only [Nat.add_assoc, Nat.reduceAdd] at hw hg hm hg' e2 e4 k3 k4
  rw [call_eq find10 _ _ _ rfl]
  simp -implicitDefEqProofs only [v10, sgn, sgs, vsk, vrt, vex, vos, vdr, vsq, vcd, vbl, xs, xg, xn, yn, yx, yg, VOp.still, vop, kO_, fO_, fA_, kG1, kG2, fG1, fG2, kN_, kS0, kS1, kS2, kD_, kC_, kB0, kB1, kB2, kL0, kL1, kL2, kt0, kt1, kT0, kT1, kF0, kF1, pt, pn, et, ec, lkc, lkn, evs, start, Option.bind_some, Option.bind_none, Nat.reduceEqDiff, if_true, if_false, ↓reduceIte, Nat.zero_add, Nat.add_zero, and_self, true_and, and_true, Bool.false_eq_true, asI, vbin, vcells, ntup, setAll, vfill, bite, vress, vres, tup, Nat.reduceAdd, Nat.reduceMul, Nat.zero_mul, Nat.reduceLeDiff, Nat.le_refl, Nat.le_add_right, List.append_assoc, List.cons_append, List.nil_append, List.append_nil, List.length_append, List.length_cons, List.length_nil, rdk, rd0, rdNk, rdN0, wrNl, wrN0, id_eq, getc0, getcs, setc0, setcs, List.drop_zero, List.drop_succ_cons, List.take_succ_cons, List.take_zero, List.take_nil, toL, reduceCtorEq, VE.exit.injEq, noRef, noRef1, isRef, List.all_cons, List.all_nil, Bool.not_false, Bool.not_true, Bool.and_true, Bool.true_and, Bool.and_false, Bool.false_and, Bool.and_self, List.toList_toArray, Option.isNone_none, Option.isNone_some, Bool.cond_true, hw, hg, hm, hg', x2, x4, y3, y4, e2, e4, k3, k4, z, c1, c2, c4, bne_self_eq_false, decide_true]
end Go.Proofs.Ytmcljallamhccaa.V
