/- SamePools: the law. -/
import Derived.Test.YtflddpkmajoeaaaVSB
namespace Go.Proofs.Ytflddpkmajoeaaa.V
open Go
set_option linter.unusedVariables false
set_option linter.unusedSimpArgs false
set_option maxRecDepth 100000
theorem law_c (d lo : Nat) (H : Hp) {an nn ab nb av nv an' nn' ab' nb' av' nv'} {p q : Po} (h : RP' H an nn ab nb av nv p) (hF : ArgP p) (h' : RP' H an' nn' ab' nb' av' nv' q) (hF' : ArgP q) : vcall env (d + 6) 5 [.agg #[.slice an nn (sg an 3), .slice ab nb (sg ab 2), .slice av nv (sg av 3)], .agg #[.slice an' nn' (sg an' 3), .slice ab' nb' (sg ab' 2), .slice av' nv' (sg av' 3)]] lo H = some (.bool true, H) := by
  have hs := hF.sp
  have hs' := hF'.sp
  obtain ⟨HB, hHB⟩ : ∃ HB : Hp, HB = H ++ [some ⟨[.slice an nn (sg an 3), .slice ab nb (sg ab 2), .slice av nv (sg av 3)], true, false⟩, some ⟨[.slice an' nn' (sg an' 3), .slice ab' nb' (sg ab' 2), .slice av' nv' (sg av' 3)], true, false⟩] := ⟨_, rfl⟩
  have fB : Fn H HB := hHB ▸ Fr.app
  have hlB : HB.length = H.length + 2 := by rw [hHB]; simp
  have hp := h.fn fB
  have hq := h'.fn fB
  have bp : rdN HB ⟨H.length, 0, none⟩ 3 = some [.slice an nn (sg an 3), .slice ab nb (sg ab 2), .slice av nv (sg av 3)] := by rw [hHB]; simp [rdN0]
  have bq : rdN HB ⟨H.length + 1, 0, none⟩ 3 = some [.slice an' nn' (sg an' 3), .slice ab' nb' (sg ab' 2), .slice av' nv' (sg av' 3)] := by rw [hHB]; simp [rdNk]
  obtain ⟨r, hsz, hr⟩ := szPool_c d H.length HB hp hs 1048576 (by unfold Lf; omega) (by omega)
  rw [call_eq find5 _ _ _ rfl]
  by_cases hr0 : r < 0
  · subst hHB
    simp -implicitDefEqProofs only [v5, VMs, noRef, noRef1, isRef, List.all_cons, List.all_nil, vop, VOp.still, VOp.app, VOp.plain, allP, lof, evs, start, asI, vbin, vcells, ntup, setAll, vfill, vress, vres, tup, Nat.reduceEqDiff, ↓reduceIte, Nat.reduceAdd, Nat.reduceMul, Nat.reduceLeDiff, reduceCtorEq, hsz, hr0, decide_true]
  have hkn : ∀ l : List Nd, 0 ≤ kN' l := by
    intro l
    induction l with
    | nil => simp [kN']
    | cons x r ih => simp only [kN', List.map_cons, List.sum_cons] at ih ⊢; omega
  have hrr := hr (by omega)
  have hk1 := hkn p.f.n
  obtain ⟨r2, hsz2, _⟩ := szPool_c d H.length HB hq hs' r (by unfold Lf; omega) (by omega)
  by_cases hr2 : r2 < 0
  · subst hHB
    simp -implicitDefEqProofs only [v5, VMs, noRef, noRef1, isRef, List.all_cons, List.all_nil, vop, VOp.still, VOp.app, VOp.plain, allP, lof, evs, start, asI, vbin, vcells, ntup, setAll, vfill, vress, vres, tup, Nat.reduceEqDiff, ↓reduceIte, Nat.reduceAdd, Nat.reduceMul, Nat.reduceLeDiff, reduceCtorEq, hsz, hr0, decide_false, bq, hsz2, hr2, decide_true]
  obtain ⟨v1, H1, t1, S1, T1, U1, an1, nn1, ab1, nb1, av1, nv1, rfl, f1, g1, o1⟩ := toPool_c d HB.length HB hp hF
  obtain ⟨v2, H2, t2, S2, T2, U2, an2, nn2, ab2, nb2, av2, nv2, rfl, f2, g2, o2⟩ := toPool_c d H.length H1 (hq.fn f1) hF'
  have s1 := specSamePools_c (d + 3) H.length H2 (o1.rp.fn f2) o2.rp hs
  have f12 := f1.trans f2
  obtain ⟨v3, H3, t3, S3, T3, U3, an3, nn3, ab3, nb3, av3, nv3, rfl, f3, g3, o3⟩ := toPool_c d H.length H2 (hp.fn f12) hF
  obtain ⟨G1, hG1⟩ : ∃ G1 : Option Blk, G1 = some ⟨[.slice an3 nn3 (sg an3 3), .slice ab3 nb3 (sg ab3 2), .slice av3 nv3 (sg av3 3)], true, false⟩ := ⟨_, rfl⟩
  have f13 := (f12.trans f3).trans (Fr.app (l := [G1]))
  obtain ⟨v4, H4, t4, S4, T4, U4, an4, nn4, ab4, nb4, av4, nv4, rfl, f4, g4, o4⟩ := toPool_c d H.length (H3 ++ [G1]) (hq.fn f13) hF'
  obtain ⟨G2, hG2⟩ : ∃ G2 : Option Blk, G2 = some ⟨[.slice an4 nn4 (sg an4 3), .slice ab4 nb4 (sg ab4 2), .slice av4 nv4 (sg av4 3)], true, false⟩ := ⟨_, rfl⟩
  have f44 : Fn H4 (H4 ++ [G2]) := Fr.app
  have rp3 := (o3.rp.fn (Fr.app (l := [G1]))).fn (f4.trans f44)
  have rp4 := o4.rp.fn f44
  have i1 := implSamePools_c (d + 1) H.length (H4 ++ [G2]) rp3 rp4 hs
  have f14 := f13.trans (f4.trans f44)
  obtain ⟨v5, H5, t5, S5, T5, U5, an5, nn5, ab5, nb5, av5, nv5, rfl, f5, g5, o5⟩ := toPool_c d (List.length (α := Option Blk) (H4 ++ [G2])) (H4 ++ [G2]) (hp.fn f14) hF
  have e5 := eqPool_c d H.length H5 (rp3.fn f5) o5.rp hs
  obtain ⟨v6, H6, t6, S6, T6, U6, an6, nn6, ab6, nb6, av6, nv6, rfl, f6, g6, o6⟩ := toPool_c d H5.length H5 (hq.fn (f14.trans f5)) hF'
  have e6 := eqPool_c d H.length H6 ((rp4.fn f5).fn f6) o6.rp hs'
  have rq : ∀ {X : Hp}, Fn HB X → rdN X ⟨H.length + 1, 0, none⟩ 3 = some [.slice an' nn' (sg an' 3), .slice ab' nb' (sg ab' 2), .slice av' nv' (sg av' 3)] := fun hf => (hf.rdN _ _ _ (by omega) id).trans bq
  have rp_ : ∀ {X : Hp}, Fn HB X → rdN X ⟨H.length, 0, none⟩ 3 = some [.slice an nn (sg an 3), .slice ab nb (sg ab 2), .slice av nv (sg av 3)] := fun hf => (hf.rdN _ _ _ (by omega) id).trans bp
  have L1 := f1.len
  have L2 := f2.len
  have L3 := f3.len
  have L4 := f4.len
  have L5 := f5.len
  simp only [List.length_append, List.length_cons, List.length_nil] at L4 L5
  have x3 : rdN (H3 ++ [G1]) ⟨H3.length, 0, none⟩ 3 = some [.slice an3 nn3 (sg an3 3), .slice ab3 nb3 (sg ab3 2), .slice av3 nv3 (sg av3 3)] := by simp [rdN0, hG1]
  have y3 : ∀ {X : Hp}, Fn (H3 ++ [G1]) X → rdN X ⟨H3.length, 0, none⟩ 3 = some [.slice an3 nn3 (sg an3 3), .slice ab3 nb3 (sg ab3 2), .slice av3 nv3 (sg av3 3)] := fun hf => (hf.rdN _ _ _ (by simp) id).trans x3
  have x4 : rdN (H4 ++ [G2]) ⟨H4.length, 0, none⟩ 3 = some [.slice an4 nn4 (sg an4 3), .slice ab4 nb4 (sg ab4 2), .slice av4 nv4 (sg av4 3)] := by simp [rdN0, hG2]
  have y4 := (f5.rdN H4.length 0 3 (by simp) id).trans x4
  have q2 := rp_ f12
  have q3 := rq f13
  have q4 := rp_ f14
  have q5 := rq (f14.trans f5)
  have z3 := y3 (f4.trans f44)
  have hle3 : (H.length ≤ H3.length) = True := eq_true (by omega)
  have hle4 : (H.length ≤ H4.length) = True := eq_true (by omega)
  subst hHB hG1 hG2
  simp only [List.length_append, List.length_cons, List.length_nil, Nat.zero_add] at t1 t5
  simp -implicitDefEqProofs only [v5, VMs, noRef, noRef1, isRef, List.all_cons, List.all_nil, vop, VOp.still, VOp.app, VOp.plain, allP, lof, evs, start, asI, vbin, vcells, ntup, setAll, vfill, vress, vres, tup, Nat.reduceEqDiff, ↓reduceIte, Nat.reduceAdd, Nat.reduceMul, Nat.reduceLeDiff, reduceCtorEq, hsz, hr0, decide_false, bq, hsz2, hr2, vdr, t1, t2, s1, q2, t3, hle3, q3, t4, hle4, z3, x4, i1, beq_self_eq_true, bne_self_eq_false, q4, t5, e5, y4, q5, t6, e6, decide_true]
end Go.Proofs.Ytflddpkmajoeaaa.V
