/- NewForest: the program's and the reference's, and the law. -/
import Derived.Test.YtmcljallamhccaaVC4
namespace Go.Proofs.Ytmcljallamhccaa.V
open Go
set_option linter.unusedVariables false
set_option linter.unusedSimpArgs false
set_option maxRecDepth 100000
theorem zB_rd (H : Hp) (i : Nat) (n : Nat) (b : Blk) (hb : H.blk i = some b) (hc : b.cs = zB n) : Rep EB 2 H (some ⟨i, 0, none⟩) n (List.replicate n ⟨0, 0⟩) := by
  refine ⟨by simp, fun _ => ⟨i, 0, rfl, fun j x hx => ?_⟩⟩
  obtain ⟨hj, hx⟩ := List.getElem?_eq_some_iff.1 hx
  rw [List.getElem_replicate] at hx; subst hx
  rw [List.length_replicate] at hj
  have key : ∀ n j : Nat, j < n → (zB n)[j * 2]? = some (.int .i64 0) ∧ (zB n)[j * 2 + 1]? = some (.int .i64 0) := by
    intro n
    induction n with
    | zero => intro j hj; omega
    | succ n ih =>
      intro j hj
      have e : zB (n + 1) = .int .i64 0 :: .int .i64 0 :: zB n := by simp [zB, List.replicate_succ]
      rw [e]
      rcases j with _ | j
      · exact ⟨rfl, rfl⟩
      · have := ih j (by omega)
        rw [Nat.add_mul, Nat.one_mul]
        exact ⟨this.1, this.2⟩
  obtain ⟨h1, h2⟩ := key n j hj
  exact ⟨by simp only [rd, hb, Option.bind_some, hc, Nat.zero_add]; exact h1, by simp only [rd, hb, Option.bind_some, hc, Nat.zero_add]; exact h2⟩
def newF (n : Int) : Int × Int × Fo := if 0 ≤ n ∧ n ≤ 24 then (0, -1, ⟨[], List.replicate n.toNat ⟨0, 0⟩⟩) else (3, 0, ⟨[], []⟩)
theorem newF_sm (n : Int) : SF (newF n).2.2 := by
  unfold newF
  split
  · exact ⟨by simp [Sm], by simp [Sm]; omega, by simp⟩
  · exact ⟨by simp [Sm], by simp [Sm], by simp⟩
theorem newF_km (n : Int) : Km (1 + sF (newF n).2.2) := by
  unfold newF
  split
  · simp [sF, sN, Km]; omega
  · simp [sF, sN, Km]
/-- A forest result in new memory. -/
def NewR (H H' : Hp) (v : Value) (c r : Int) (F : Fo) : Prop := ∃ S T an nn ab nb, v = .agg #[.int .i64 c, .int .i64 r, .slice an nn (sg an 3), .slice ab nb (sg ab 2)] ∧ Fr (fun _ => False) H H' ∧ (∀ i, S i ∨ T i → H.length ≤ i) ∧ FO H.length H' S T an nn ab nb F
theorem ON.nil {S : Nat → Prop} {lo : Nat} {H : Hp} : ON S lo H none 0 [] := ⟨rfl, fun h => absurd rfl h⟩
theorem NewR.nil (H : Hp) (c r : Int) : NewR H H (.agg #[.int .i64 c, .int .i64 r, .slice none 0 0, .slice none 0 0]) c r ⟨[], []⟩ :=
  ⟨fun _ => False, fun _ => False, none, 0, none, 0, rfl, Fr.refl, fun i h => (or_self_iff.1 h).elim, ON.nil, Rep.nil, fun i ⟨o, h⟩ => (by cases h), fun i h => h.elim, fun i h => (or_self_iff.1 h).elim⟩
theorem NewR.zB {H H' : Hp} (c r : Int) (n i : Nat) (k0 : Bool) (hf : Fr (fun _ => False) H H') (hi : H.length ≤ i) (hb : H'.blk i = some ⟨zB n, true, k0⟩) : NewR H H' (.agg #[.int .i64 c, .int .i64 r, .slice none 0 0, .slice (some ⟨i, 0, none⟩) n 2]) c r ⟨[], List.replicate n ⟨0, 0⟩⟩ :=
  ⟨fun _ => False, fun j => j = i, none, 0, some ⟨i, 0, none⟩, n, rfl, hf, fun j h => by rcases h with h | h; exact h.elim; rw [h]; exact hi, ON.nil, zB_rd _ _ _ _ hb rfl, fun j ⟨o, h⟩ => (by cases h; exact ⟨⟨hi, _, hb, rfl⟩, rfl⟩), fun j h => h.elim, fun j h => by rcases h with h | h; exact h.elim; rw [h]; exact blk_lt hb⟩
theorem specNewForest_c (d lo : Nat) (H : Hp) (n : Int) : ∃ v H', vcall env (d + 3) 41 [.int .i64 n] lo H = some (v, H') ∧ NewR H H' v (newF n).1 (newF n).2.1 (newF n).2.2 := by
  by_cases h : 0 ≤ n ∧ n ≤ 24
  · simp only [newF, if_pos h]
    obtain ⟨x, c1⟩ := specNewBlocks_ok d H.length (H ++ [some ⟨[.int .i64 0, .int .i64 0, .slice none 0 0, .slice none 0 0], true, false⟩]) n h
    rw [call_eq find41 _ _ _ rfl]
    simp only [List.append_assoc, List.length_append, List.cons_append, List.nil_append, List.length_cons, List.length_nil] at c1
    simp -implicitDefEqProofs only [v41, sgn, sgs, vsk, vrt, vex, vos, vdr, vsq, vcd, vbl, xs, xg, xn, yn, yx, yg, VOp.still, vop, kO_, fO_, fA_, kG1, kG2, fG1, fG2, kN_, kS0, kS1, kS2, kD_, kC_, kB0, kB1, kB2, kL0, kL1, kL2, kt0, kt1, kT0, kT1, kF0, kF1, pt, pn, et, ec, lkc, lkn, evs, start, Option.bind_some, Option.bind_none, Nat.reduceEqDiff, if_true, if_false, ↓reduceIte, Nat.zero_add, Nat.add_zero, and_self, true_and, and_true, Bool.false_eq_true, asI, vbin, vcells, ntup, setAll, vfill, bite, vress, vres, tup, Nat.reduceAdd, Nat.reduceMul, Nat.zero_mul, Nat.reduceLeDiff, Nat.le_refl, Nat.le_add_right, List.append_assoc, List.cons_append, List.nil_append, List.append_nil, List.length_append, List.length_cons, List.length_nil, rdk, rd0, rdNk, rdN0, wrNl, wrN0, id_eq, getc0, getcs, setc0, setcs, List.drop_zero, List.drop_succ_cons, List.take_succ_cons, List.take_zero, List.take_nil, toL, reduceCtorEq, VE.exit.injEq, noRef, noRef1, isRef, List.all_cons, List.all_nil, Bool.not_false, Bool.not_true, Bool.and_true, Bool.true_and, Bool.and_false, Bool.false_and, Bool.and_self, List.toList_toArray, Option.isNone_none, Option.isNone_some, Bool.cond_true, c1, bne_self_eq_false]
    exact ⟨_, _, rfl, NewR.zB _ _ _ _ _ Fr.app (by omega) (by rw [Nat.add_assoc, blkn]; rfl)⟩
  · simp only [newF, if_neg h]
    have c1 := fun l => specNewBlocks_bad d H.length (H ++ l) n h
    rw [call_eq find41 _ _ _ rfl]
    simp -implicitDefEqProofs only [v41, sgn, sgs, vsk, vrt, vex, vos, vdr, vsq, vcd, vbl, xs, xg, xn, yn, yx, yg, VOp.still, vop, kO_, fO_, fA_, kG1, kG2, fG1, fG2, kN_, kS0, kS1, kS2, kD_, kC_, kB0, kB1, kB2, kL0, kL1, kL2, kt0, kt1, kT0, kT1, kF0, kF1, pt, pn, et, ec, lkc, lkn, evs, start, Option.bind_some, Option.bind_none, Nat.reduceEqDiff, if_true, if_false, ↓reduceIte, Nat.zero_add, Nat.add_zero, and_self, true_and, and_true, Bool.false_eq_true, asI, vbin, vcells, ntup, setAll, vfill, bite, vress, vres, tup, Nat.reduceAdd, Nat.reduceMul, Nat.zero_mul, Nat.reduceLeDiff, Nat.le_refl, Nat.le_add_right, List.append_assoc, List.cons_append, List.nil_append, List.append_nil, List.length_append, List.length_cons, List.length_nil, rdk, rd0, rdNk, rdN0, wrNl, wrN0, id_eq, getc0, getcs, setc0, setcs, List.drop_zero, List.drop_succ_cons, List.take_succ_cons, List.take_zero, List.take_nil, toL, reduceCtorEq, VE.exit.injEq, noRef, noRef1, isRef, List.all_cons, List.all_nil, Bool.not_false, Bool.not_true, Bool.and_true, Bool.true_and, Bool.and_false, Bool.false_and, Bool.and_self, List.toList_toArray, Option.isNone_none, Option.isNone_some, Bool.cond_true, c1, l4Bad_c, bne, Int.reduceBEq]
    exact ⟨_, _, rfl, NewR.nil _ _ _⟩
theorem implNewForest_c (d lo : Nat) (H : Hp) (n : Int) : ∃ v H', vcall env (d + 3) 42 [.int .i64 n] lo H = some (v, H') ∧ NewR H H' v (newF n).1 (newF n).2.1 (newF n).2.2 := by
  by_cases h : 0 ≤ n ∧ n ≤ 24
  · simp only [newF, if_pos h]
    obtain ⟨x, c1⟩ := implNewBlocks_ok d H.length (H ++ [some ⟨[.int .i64 0, .int .i64 0, .slice none 0 0, .slice none 0 0], true, false⟩]) n h
    rw [call_eq find42 _ _ _ rfl]
    simp only [List.append_assoc, List.length_append, List.cons_append, List.nil_append, List.length_cons, List.length_nil] at c1
    simp -implicitDefEqProofs only [v42, sgn, sgs, vsk, vrt, vex, vos, vdr, vsq, vcd, vbl, xs, xg, xn, yn, yx, yg, VOp.still, vop, kO_, fO_, fA_, kG1, kG2, fG1, fG2, kN_, kS0, kS1, kS2, kD_, kC_, kB0, kB1, kB2, kL0, kL1, kL2, kt0, kt1, kT0, kT1, kF0, kF1, pt, pn, et, ec, lkc, lkn, evs, start, Option.bind_some, Option.bind_none, Nat.reduceEqDiff, if_true, if_false, ↓reduceIte, Nat.zero_add, Nat.add_zero, and_self, true_and, and_true, Bool.false_eq_true, asI, vbin, vcells, ntup, setAll, vfill, bite, vress, vres, tup, Nat.reduceAdd, Nat.reduceMul, Nat.zero_mul, Nat.reduceLeDiff, Nat.le_refl, Nat.le_add_right, List.append_assoc, List.cons_append, List.nil_append, List.append_nil, List.length_append, List.length_cons, List.length_nil, rdk, rd0, rdNk, rdN0, wrNl, wrN0, id_eq, getc0, getcs, setc0, setcs, List.drop_zero, List.drop_succ_cons, List.take_succ_cons, List.take_zero, List.take_nil, toL, reduceCtorEq, VE.exit.injEq, noRef, noRef1, isRef, List.all_cons, List.all_nil, Bool.not_false, Bool.not_true, Bool.and_true, Bool.true_and, Bool.and_false, Bool.false_and, Bool.and_self, List.toList_toArray, Option.isNone_none, Option.isNone_some, Bool.cond_true, c1, bne_self_eq_false]
    exact ⟨_, _, rfl, NewR.zB _ _ _ _ _ Fr.app (by omega) (by rw [Nat.add_assoc, blkn]; rfl)⟩
  · simp only [newF, if_neg h]
    have c1 := fun l => implNewBlocks_bad d H.length (H ++ l) n h
    rw [call_eq find42 _ _ _ rfl]
    simp -implicitDefEqProofs only [v42, sgn, sgs, vsk, vrt, vex, vos, vdr, vsq, vcd, vbl, xs, xg, xn, yn, yx, yg, VOp.still, vop, kO_, fO_, fA_, kG1, kG2, fG1, fG2, kN_, kS0, kS1, kS2, kD_, kC_, kB0, kB1, kB2, kL0, kL1, kL2, kt0, kt1, kT0, kT1, kF0, kF1, pt, pn, et, ec, lkc, lkn, evs, start, Option.bind_some, Option.bind_none, Nat.reduceEqDiff, if_true, if_false, ↓reduceIte, Nat.zero_add, Nat.add_zero, and_self, true_and, and_true, Bool.false_eq_true, asI, vbin, vcells, ntup, setAll, vfill, bite, vress, vres, tup, Nat.reduceAdd, Nat.reduceMul, Nat.zero_mul, Nat.reduceLeDiff, Nat.le_refl, Nat.le_add_right, List.append_assoc, List.cons_append, List.nil_append, List.append_nil, List.length_append, List.length_cons, List.length_nil, rdk, rd0, rdNk, rdN0, wrNl, wrN0, id_eq, getc0, getcs, setc0, setcs, List.drop_zero, List.drop_succ_cons, List.take_succ_cons, List.take_zero, List.take_nil, toL, reduceCtorEq, VE.exit.injEq, noRef, noRef1, isRef, List.all_cons, List.all_nil, Bool.not_false, Bool.not_true, Bool.and_true, Bool.true_and, Bool.and_false, Bool.false_and, Bool.and_self, List.toList_toArray, Option.isNone_none, Option.isNone_some, Bool.cond_true, c1, bne, Int.reduceBEq]
    exact ⟨_, _, rfl, NewR.nil _ _ _⟩
theorem Fr.no {S : Nat → Prop} {H H' : Hp} (h : Fr (fun _ => False) H H') : Fr S H H' := h.mono fun _ e => e.elim
/-- The law. -/
theorem law_c (d lo : Nat) (H : Hp) (n : Int) : vcall env (d + 6) 9 [.int .i64 n] lo H = some (.bool true, H) := by
  have hsm := newF_sm n
  have hkm := newF_km n
  obtain ⟨W, H1, hw, S1, T1, an1, nn1, ab1, nb1, rfl, f1, g1, o1⟩ := specNewForest_c (d + 2) H.length H n
  obtain ⟨G, H2, hg, S2, T2, an2, nn2, ab2, nb2, rfl, f2, g2, o2⟩ := implNewForest_c (d + 2) H.length (H1 ++ [some ⟨[.int .i64 (newF n).1, .int .i64 (newF n).2.1, .slice an1 nn1 (sg an1 3), .slice ab1 nb1 (sg ab1 2)], true, false⟩]) n
  generalize hc : (newF n).1 = c at *
  generalize hr : (newF n).2.1 = r at *
  generalize hF : (newF n).2.2 = F at *
  have o2' := o2.fr (U := fun _ => False) (fun i _ => id) (Fr.app (l := [some ⟨[.int .i64 c, .int .i64 r, .slice an2 nn2 (sg an2 3), .slice ab2 nb2 (sg ab2 2)], true, false⟩]))
  have hl1 := f1.len
  have hl2 := f2.len
  simp only [List.length_append, List.length_cons, List.length_nil] at hl2
  obtain ⟨H3, hm, f3, r3⟩ := markForestResult_c (d + 1) H.length _ S2 T2 c r 1 (o2'.lo (by simp; omega)) hsm (by omega) hkm
  obtain ⟨G', H4, hg', S4, T4, an4, nn4, ab4, nb4, rfl, f4, g4, o4⟩ := implNewForest_c (d + 2) H.length H3 n
  rw [hc, hr, hF] at *
  have hl3 := f3.len
  simp only [List.length_append, List.length_cons, List.length_nil] at hl3
  have hl4 := f4.len
  -- the reference's answer, wherever it is read
  have u1 : ∀ i, S1 i ∨ T1 i → i < H1.length := o1.lt
  have u2 : ∀ i, S2 i ∨ T2 i → H1.length + 1 ≤ i ∧ i < H2.length := fun i hi => ⟨by have := g2 i hi; simpa using this, o2.lt i hi⟩
  have w2 := fun l => ((o1.rfs.fr (fun i _ => id) Fr.app).fr (fun i _ => id) f2).fr (T := fun _ => False) (fun i _ => id) (Fr.app (l := l))
  have w4 := fun l => (((w2 _).fr (fun i hi hj => by have := u1 i hi; have := u2 i hj; omega) f3).fr (fun i _ => id) f4).fr (T := fun _ => False) (fun i _ => id) (Fr.app (l := l))
  have x2 : ∀ l, rdN (H2 ++ l) ⟨H1.length, 0, none⟩ 4 = some [.int .i64 c, .int .i64 r, .slice an1 nn1 (sg an1 3), .slice ab1 nb1 (sg ab1 2)] := fun l => ((f2.trans (Fr.app (l := l))).rdN H1.length 0 4 (by simp) id).trans (by simp [rdN0])
  have x4 : ∀ l, rdN (H4 ++ l) ⟨H1.length, 0, none⟩ 4 = some [.int .i64 c, .int .i64 r, .slice an1 nn1 (sg an1 3), .slice ab1 nb1 (sg ab1 2)] := fun l => ((f4.trans (Fr.app (l := l))).rdN H1.length 0 4 (by omega) id).trans ((f3.rdN H1.length 0 4 (by simp; omega) (fun h => by have := u2 _ h; omega)).trans (x2 _))
  have y3 : rdN H3 ⟨H2.length, 0, none⟩ 4 = some [.int .i64 c, .int .i64 r, .slice an2 nn2 (sg an2 3), .slice ab2 nb2 (sg ab2 2)] := (f3.rdN H2.length 0 4 (by simp) (fun h => by have := u2 _ h; omega)).trans (by simp [rdN0])
  have y4 : ∀ l, rdN (H4 ++ l) ⟨H2.length, 0, none⟩ 4 = some [.int .i64 c, .int .i64 r, .slice an2 nn2 (sg an2 3), .slice ab2 nb2 (sg ab2 2)] := fun l => ((f4.trans (Fr.app (l := l))).rdN H2.length 0 4 (by omega) id).trans y3
  have e2 := fun l => eqForestResult_c d H.length (H2 ++ l) (o2.rfs.rf.app (l := l)) (w2 l).rf hsm c r c r
  have e4 := fun l => eqForestResult_c d H.length (H4 ++ l) (o4.rfs.rf.app (l := l)) (w4 l).rf hsm c r c r
  have k3 := heldForestResult_c (d + 1) H.length H3 c r 1 r3.rf hsm (by omega) hkm
  have k4 := fun l => heldForestResult_c (d + 1) H.length (H4 ++ l) c r 1 ((r3.fr (fun i _ => id) f4).rf.app (l := l)) hsm (by omega) hkm
  have z : decide (1 + sF F < 0) = false := decide_eq_false (by have := sF_nonneg F; omega)
  have c1 : (H.length ≤ H1.length) = True := by simp; omega
  have c2 : (H.length ≤ H2.length) = True := by simp; omega
  have c4 : (H.length ≤ H4.length) = True := by simp; omega
  simp only [Nat.add_assoc, Nat.reduceAdd] at hw hg hm hg' e2 e4 k3 k4
  rw [call_eq find9 _ _ _ rfl]
  simp -implicitDefEqProofs only [v9, sgn, sgs, vsk, vrt, vex, vos, vdr, vsq, vcd, vbl, xs, xg, xn, yn, yx, yg, VOp.still, vop, kO_, fO_, fA_, kG1, kG2, fG1, fG2, kN_, kS0, kS1, kS2, kD_, kC_, kB0, kB1, kB2, kL0, kL1, kL2, kt0, kt1, kT0, kT1, kF0, kF1, pt, pn, et, ec, lkc, lkn, evs, start, Option.bind_some, Option.bind_none, Nat.reduceEqDiff, if_true, if_false, ↓reduceIte, Nat.zero_add, Nat.add_zero, and_self, true_and, and_true, Bool.false_eq_true, asI, vbin, vcells, ntup, setAll, vfill, bite, vress, vres, tup, Nat.reduceAdd, Nat.reduceMul, Nat.zero_mul, Nat.reduceLeDiff, Nat.le_refl, Nat.le_add_right, List.append_assoc, List.cons_append, List.nil_append, List.append_nil, List.length_append, List.length_cons, List.length_nil, rdk, rd0, rdNk, rdN0, wrNl, wrN0, id_eq, getc0, getcs, setc0, setcs, List.drop_zero, List.drop_succ_cons, List.take_succ_cons, List.take_zero, List.take_nil, toL, reduceCtorEq, VE.exit.injEq, noRef, noRef1, isRef, List.all_cons, List.all_nil, Bool.not_false, Bool.not_true, Bool.and_true, Bool.true_and, Bool.and_false, Bool.false_and, Bool.and_self, List.toList_toArray, Option.isNone_none, Option.isNone_some, Bool.cond_true, hw, hg, hm, hg', x2, x4, y3, y4, e2, e4, k3, k4, z, c1, c2, c4, bne_self_eq_false, decide_true]
end Go.Proofs.Ytmcljallamhccaa.V
