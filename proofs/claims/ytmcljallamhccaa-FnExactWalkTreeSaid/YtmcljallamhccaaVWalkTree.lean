/- WalkTree: the law. -/
import Derived.Test.YtmcljallamhccaaVWalkTreeC
import Derived.Test.YtmcljallamhccaaVCIR
namespace Go.Proofs.Ytmcljallamhccaa.V
open Go
set_option linter.unusedVariables false
set_option linter.unusedSimpArgs false
set_option maxRecDepth 100000
theorem FO.rf {lo : Nat} {H : Hp} {S T : Nat → Prop} {an nn ab nb F} (h : FO lo H S T an nn ab nb F) : RF H an nn ab nb F := h.rfs.rf
theorem walkR_len (F : Fo) (root : Int) : (walkR F root).length ≤ 32 := by
  unfold walkR
  split
  · exact walkL_len F root 16
  · simp
theorem cell0 {H H' : Hp} {cs : List Value} {S : Nat → Prop} (hf : Fr S (H ++ [some ⟨cs, true, false⟩]) H') (hS : ¬ S H.length) (l : List (Option Blk)) (n : Nat) (hn : n = cs.length) : rdN (H' ++ l) ⟨H.length, 0, none⟩ n = some cs := by
  subst hn
  have h1 := hf.rdN H.length 0 cs.length (by simp) hS
  have h2 : rdN (H ++ [some ⟨cs, true, false⟩]) ⟨H.length, 0, none⟩ cs.length = some cs := by simp [rdN0]
  rw [h2] at h1
  have hlt : H.length < H'.length := by have := hf.len; simp at this; omega
  rw [rdNo hlt]; exact h1
theorem sF_km {F : Fo} {r : Int} (hr : 0 ≤ r) (h : r = 1048576 - (F.n.length : Int) - kN' F.n - (F.b.length : Int)) : Km (1 + sF F) := by
  have key : ∀ l : List Nd, sN l = 2 * (l.length : Int) + kN' l ∧ 0 ≤ kN' l := by
    intro l
    induction l with
    | nil => simp [sN, kN']
    | cons x r ih => simp only [sN, kN', List.map_cons, List.sum_cons, List.length_cons] at ih ⊢; omega
  obtain ⟨h1, h2⟩ := key F.n
  unfold Km sF
  omega
/-- The law. -/
theorem law_c (d lo : Nat) (H : Hp) {an nn ab nb F} (h : RF H an nn ab nb F) (hF : ArgF F) (root : Int) (hw1 : (Lit.int .i64 root).wf = true) : vcall env (d + 9) 13 [.agg #[.slice an nn (sg an 3), .slice ab nb (sg ab 2)], .int .i64 root] lo H = some (.bool true, H) := by
  have hs := hF.sf
  have hlen := walkR_len F root
  have hsl : Sm (walkR F root).length := by unfold Sm; omega
  have hkl : Km (1 + ((walkR F root).length : Int)) := by unfold Km; omega
  obtain ⟨HB, hHB⟩ : ∃ HB, HB = H ++ [some ⟨[.slice an nn (sg an 3), .slice ab nb (sg ab 2)], true, false⟩] := ⟨_, rfl⟩
  have hp : PF HB H.length 0 an nn ab nb F := by rw [hHB]; exact ⟨by simp [rd0], by simp [rd0], h.app⟩
  have hf0 : Fn H HB := by rw [hHB]; exact Fr.app
  have hl0 : HB.length = H.length + 1 := by rw [hHB]; simp
  obtain ⟨r, hsz, hr⟩ := szForest_c (d + 4) H.length HB hp.f hs 1048576 (by unfold Lf; omega) (by omega)
  rw [call_eq find13 _ _ _ rfl]
  by_cases hr0 : r < 0
  · subst hHB
    simp only [Nat.add_assoc, Nat.reduceAdd] at hsz
    simp -implicitDefEqProofs only [v13, sgn, sgs, vsk, vrt, vex, vos, vdr, vsq, vcd, vbl, xs, xg, xn, yn, yx, yg, VOp.still, vop, kO_, fO_, fA_, kG1, kG2, fG1, fG2, kN_, kS0, kS1, kS2, kD_, kC_, kB0, kB1, kB2, kL0, kL1, kL2, kt0, kt1, kT0, kT1, kF0, kF1, pt, pn, et, ec, lkc, lkn, evs, start, Option.bind_some, Option.bind_none, Nat.reduceEqDiff, if_true, if_false, ↓reduceIte, Nat.zero_add, Nat.add_zero, and_self, true_and, and_true, Bool.false_eq_true, asI, vbin, vcells, ntup, setAll, vfill, bite, vress, vres, tup, Nat.reduceAdd, Nat.reduceMul, Nat.zero_mul, Nat.reduceLeDiff, Nat.le_refl, Nat.le_add_right, List.append_assoc, List.cons_append, List.nil_append, List.append_nil, List.length_append, List.length_cons, List.length_nil, rdk, rd0, rdNk, rdN0, wrNl, wrN0, id_eq, getc0, getcs, setc0, setcs, List.drop_zero, List.drop_succ_cons, List.take_succ_cons, List.take_zero, List.take_nil, toL, reduceCtorEq, VE.exit.injEq, noRef, noRef1, isRef, List.all_cons, List.all_nil, Bool.not_false, Bool.not_true, Bool.and_true, Bool.true_and, Bool.and_false, Bool.false_and, Bool.and_self, List.toList_toArray, Option.isNone_none, Option.isNone_some, Bool.cond_true, hsz, hr0, decide_true]
  have hkm := sF_km (by omega) (hr (by omega))
  obtain ⟨v1, H1, t1, S1, T1, an1, nn1, ab1, nb1, rfl, f1, g1, o1⟩ := toForest_c (d + 4) H.length HB hp.f hF
  obtain ⟨w, H2, s1, aw, rfl, f2, rw2, ow⟩ := specWalkTree_c (d + 2) H.length H1 o1.rf hs root
  have p2 := (hp.fn f1).fn f2
  have p2' := p2.fn (Fr.app (l := [some ⟨[.int .i64 (walkC F root), .slice aw (walkR F root).length (sg aw 1)], true, false⟩]))
  obtain ⟨v2, H3, t2, S2, T2, an2, nn2, ab2, nb2, rfl, f3, g3, o2⟩ := toForest_c (d + 4) H.length _ p2'.f hF
  have r3' := o2.rf.fn (Fr.app (l := [some ⟨[.slice an2 nn2 (sg an2 3), .slice ab2 nb2 (sg ab2 2)], true, false⟩]))
  obtain ⟨gv, H4, i1, ag, rfl, f4, rg4, og⟩ := implWalkTree_c d H.length _ r3' hs root
  -- lengths
  have L1 := f1.len
  have L2 := f2.len
  have L3 := f3.len
  have L4 := f4.len
  simp only [List.length_append, List.length_cons, List.length_nil] at L3 L4
  -- the program's forest behind the cell of its answer
  obtain ⟨H4c, hH4c⟩ : ∃ H4c, H4c = H4 ++ [some ⟨[.int .i64 (walkC F root), .slice ag (walkR F root).length (sg ag 1)], true, false⟩] := ⟨_, rfl⟩
  have f44 : Fn H4 H4c := by rw [hH4c]; exact Fr.app
  have p4 := ((p2'.fn f3).fn (Fr.app (l := [some ⟨[.slice an2 nn2 (sg an2 3), .slice ab2 nb2 (sg ab2 2)], true, false⟩]))).fn (f4.trans f44)
  obtain ⟨v3, H5, t3, S3, T3, an3, nn3, ab3, nb3, rfl, f5, g5, o3⟩ := toForest_c (d + 4) H4c.length H4c p4.f hF
  have L5 := f5.len
  have hl4c : H4c.length = H4.length + 1 := by rw [hH4c]; simp
  have fo5 := (o2.fr (U := fun _ => False) (fun _ _ => id) (Fr.app (l := [some ⟨[.slice an2 nn2 (sg an2 3), .slice ab2 nb2 (sg ab2 2)], true, false⟩]))).fr (U := fun _ => False) (fun _ _ => id) ((f4.trans f44).trans f5)
  have hb2 : ∀ i, S2 i ∨ T2 i → H2.length + 1 ≤ i ∧ i < H3.length := fun i hi => ⟨by have := g3 i hi; simpa using this, o2.lt i hi⟩
  obtain ⟨H6, m6, f6, r6⟩ := markForest_c (d + 5) H.length H5 S2 T2 1 (fo5.lo (by simp; omega)) hs (by omega) hkm
  have L6 := f6.len
  -- the answers, wherever they are read
  have f45 : Fn H4 H5 := f44.trans f5
  have hG6 : ∀ i, Ad ag i → H3.length + 1 ≤ i := fun i hi => by have := (og i hi).1; simpa using this
  have fr46 : Fr (fun i => S2 i ∨ T2 i) H4c H6 := f5.no.trans f6
  have f2a : Fn (H2 ++ [some ⟨[.int .i64 (walkC F root), .slice aw (walkR F root).length (sg aw 1)], true, false⟩]) H5 := f3.trans (Fr.app.trans (f4.trans f45))
  have f26 : Fn (H2 ++ [some ⟨[.int .i64 (walkC F root), .slice aw (walkR F root).length (sg aw 1)], true, false⟩]) H6 := (f2a.no.trans f6).new fun i hi => by have := (hb2 i hi).1; simpa using this
  have rG6 : Rep EI 1 H6 ag (walkR F root).length (walkR F root) := (rg4.fnI f44).fr (fun i hi hs => by have := hG6 i hi; have := (hb2 i hs).2; omega) fr46
  have oG6 : ∀ i, Ad ag i → WB H.length H6 i ∧ Ad ag i := fun i hi => ⟨(fr46.wb _ _ (f44.wb _ _ (og i hi).2)).lo (by simp; omega), hi⟩
  obtain ⟨H7, m7, f7, r7⟩ := markIntsResult_c (d + 6) H.length H6 (Ad ag) (walkC F root) 1 rG6 oG6 hsl (by omega) hkl
  have L7 := f7.len
  have f27 : Fn (H2 ++ [some ⟨[.int .i64 (walkC F root), .slice aw (walkR F root).length (sg aw 1)], true, false⟩]) H7 := (f26.no.trans f7).new fun i hi => by have := hG6 i hi; simp; omega
  have f17 : Fn HB H7 := (f1.trans (f2.trans Fr.app)).trans f27
  have p7 := hp.fn f17
  obtain ⟨v4, H8, t4, S4, T4, an4, nn4, ab4, nb4, rfl, f8, g8, o4⟩ := toForest_c (d + 4) H.length H7 p7.f hF
  obtain ⟨gv', H9, i9, ah, rfl, f9, rh9, oh⟩ := implWalkTree_c d H.length H8 o4.rf hs root
  have L8 := f8.len
  have L9 := f9.len
  have f79 : Fn H7 H9 := f8.trans f9
  have w2c := rw2.fnI (Fr.app (l := [some ⟨[.int .i64 (walkC F root), .slice aw (walkR F root).length (sg aw 1)], true, false⟩]))
  have e4 := eqIntsResult_c (d + 6) H.length H4c (rg4.fnI f44) (w2c.fnI (f3.trans (Fr.app.trans (f4.trans f44)))) hsl (walkC F root) (walkC F root)
  have e6 := eqIntsResult_c (d + 6) H.length H6 rG6 (w2c.fnI f26) hsl (walkC F root) (walkC F root)
  have e9 := fun l => eqIntsResult_c (d + 6) H.length (H9 ++ l) (rh9.fnI Fr.app) (w2c.fnI ((f27.trans f79).trans (Fr.app (l := l)))) hsl (walkC F root) (walkC F root)
  have e5 := eqForest_c (d + 4) H.length H5 fo5.rf o3.rf hs
  have k7 := heldIntsResult_c (d + 6) H.length H7 (walkC F root) 1 r7 hsl (by omega) hkl
  have k9 := fun l => heldIntsResult_c (d + 6) H.length (H9 ++ l) (walkC F root) 1 (r7.fnI (f79.trans (Fr.app (l := l)))) hsl (by omega) hkl
  have cw4 := fun l => cell0 (f3.trans (Fr.app.trans f4)) id l 2 rfl
  have cw6 := cell0 f26 id [] 2 rfl
  have cw9 := fun l => cell0 (f27.trans f79) id l 2 rfl
  have cx4 := fun l => cell0 f4 id l 2 rfl
  have cx5 := cell0 (f4.trans f45) id [] 2 rfl
  have fG7 : Fr (fun i => (S2 i ∨ T2 i) ∨ Ad ag i) H4c H7 := (fr46.mono fun _ => Or.inl).trans (f7.mono fun _ => Or.inr)
  have nG : ¬ ((S2 H4.length ∨ T2 H4.length) ∨ Ad ag H4.length) := fun hh => by
    rcases hh with hh | hh
    · have := (hb2 _ hh).2; omega
    · obtain ⟨_, b, hb, _⟩ := (og _ hh).2
      have := blk_lt hb; omega
  rw [hH4c] at fr46 fG7
  have cg6 := cell0 fr46 (fun hh => nG (Or.inl hh)) [] 2 rfl
  have cg7 := cell0 fG7 nG [] 2 rfl
  have cg9 := fun l => cell0 (fG7.trans f79.no) nG l 2 rfl
  have q2 := p2'.rdN
  have q4 := p4.rdN
  have q7 := p7.rdN
  have z : decide (1 + sF F < 0) = false := decide_eq_false (by have := sF_nonneg F; omega)
  have z2 : decide (1 + ((walkR F root).length : Int) < 0) = false := decide_eq_false (by omega)
  have le2 : (H.length ≤ H2.length) = True := eq_true (by omega)
  have le3 : (H.length ≤ H3.length) = True := eq_true (by omega)
  have le4 : (H.length ≤ H4.length) = True := eq_true (by omega)
  have le9 : (H.length ≤ H9.length) = True := eq_true (by omega)
  subst hH4c
  subst hHB
  simp only [Nat.add_assoc, Nat.reduceAdd, List.length_append, List.length_cons, List.length_nil, Nat.zero_add, List.append_nil] at hsz t1 s1 t2 i1 t3 m6 m7 t4 i9 e4 e6 e9 e5 k7 k9 cw4 cw6 cw9 cx4 cx5 cg6 cg7 cg9 q2 q4 q7
  simp -implicitDefEqProofs only [v13, sgn, sgs, vsk, vrt, vex, vos, vdr, vsq, vcd, vbl, xs, xg, xn, yn, yx, yg, VOp.still, vop, kO_, fO_, fA_, kG1, kG2, fG1, fG2, kN_, kS0, kS1, kS2, kD_, kC_, kB0, kB1, kB2, kL0, kL1, kL2, kt0, kt1, kT0, kT1, kF0, kF1, pt, pn, et, ec, lkc, lkn, evs, start, Option.bind_some, Option.bind_none, Nat.reduceEqDiff, if_true, if_false, ↓reduceIte, Nat.zero_add, Nat.add_zero, and_self, true_and, and_true, Bool.false_eq_true, asI, vbin, vcells, ntup, setAll, vfill, bite, vress, vres, tup, Nat.reduceAdd, Nat.reduceMul, Nat.zero_mul, Nat.reduceLeDiff, Nat.le_refl, Nat.le_add_right, List.append_assoc, List.cons_append, List.nil_append, List.append_nil, List.length_append, List.length_cons, List.length_nil, rdk, rd0, rdNk, rdN0, wrNl, wrN0, id_eq, getc0, getcs, setc0, setcs, List.drop_zero, List.drop_succ_cons, List.take_succ_cons, List.take_zero, List.take_nil, toL, reduceCtorEq, VE.exit.injEq, noRef, noRef1, isRef, List.all_cons, List.all_nil, Bool.not_false, Bool.not_true, Bool.and_true, Bool.true_and, Bool.and_false, Bool.false_and, Bool.and_self, List.toList_toArray, Option.isNone_none, Option.isNone_some, Bool.cond_true, hsz, hr0, decide_false, decide_true, t1, s1, t2, i1, t3, m6, m7, t4, i9, e4, e6, e9, e5, k7, k9, cw4, cw6, cw9, cx4, cx5, cg6, cg7, cg9, q2, q4, q7, z, z2, le2, le3, le4, le9, vdr, bne_self_eq_false]
end Go.Proofs.Ytmcljallamhccaa.V
