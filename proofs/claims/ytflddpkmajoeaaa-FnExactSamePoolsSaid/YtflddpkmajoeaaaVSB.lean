/- SamePools: the reference's. -/
import Derived.Test.YtflddpkmajoeaaaVSA
namespace Go.Proofs.Ytflddpkmajoeaaa.V
open Go
set_option linter.unusedVariables false
set_option linter.unusedSimpArgs false
set_option maxRecDepth 100000
theorem l5Nums_c (d lo : Nat) (H : Hp) (a b : Option Addr) (n m : Nat) (la lb : List Int) (ha : Rep EI 1 H a n la) (hb : Rep EI 1 H b m lb) (hn : Sm n) :
    vcall env (d + 1) 68 [.slice a n (sg a 1), .slice b m (sg b 1)] lo H = some (.bool (decide (la = lb)), H) := by
  rw [call_eq find68 _ _ _ rfl]
  by_cases hnm : n = m
  · subst hnm
    have hl := lim_all (f := rnd (vcall env d) H.length [0, 1, 5] [4] l68_0) (R := (.exit 0, [], H)) (E := (.ret, [(4, .bool false)], H)) (by simp) (by simp) (fun i => [(0, .slice a n (sg a 1)), (1, .slice b n (sg b 1)), (5, .int .i64 (i : Nat))]) H n (fun i => la[i]? = lb[i]?)
      (by simp -implicitDefEqProofs only [rnd, l68_0, VMs, noRef, noRef1, isRef, List.all_cons, List.all_nil, vop, VOp.still, VOp.app, VOp.plain, allP, lof, evs, start, asI, vbin, vcells, ntup, setAll, vfill, vress, vres, tup, Nat.reduceEqDiff, ↓reduceIte, Nat.reduceAdd, Nat.reduceMul, Nat.reduceLeDiff, reduceCtorEq, slen, Int.lt_irrefl, decide_false])
      (fun i hi => by
        have hla : i < la.length := by rw [← ha.1]; exact hi
        have hlb : i < lb.length := by rw [← hb.1]; exact hi
        obtain ⟨i1, o1, rfl, e1⟩ := ha.at hla
        obtain ⟨i2, o2, rfl, e2⟩ := hb.at hlb
        simp only [EI, Nat.mul_one] at e1 e2
        by_cases h : la[i] = lb[i]
        · simp -implicitDefEqProofs only [rnd, l68_0, VMs, noRef, noRef1, isRef, List.all_cons, List.all_nil, vop, VOp.still, VOp.app, VOp.plain, allP, lof, evs, start, asI, vbin, vcells, ntup, setAll, vfill, vress, vres, tup, Nat.reduceEqDiff, ↓reduceIte, Nat.reduceAdd, Nat.reduceMul, Nat.reduceLeDiff, reduceCtorEq, slen, ltc hi, ge0, decide_true, vdr, Int.toNat_natCast, Nat.mul_one, e1, e2, bne_self_eq_false, h, hn.w hi, getE hla, getE hlb]
        · have hv : (la[i] != lb[i]) = true := bne_iff_ne.2 h
          simp -implicitDefEqProofs only [rnd, l68_0, VMs, noRef, noRef1, isRef, List.all_cons, List.all_nil, vop, VOp.still, VOp.app, VOp.plain, allP, lof, evs, start, asI, vbin, vcells, ntup, setAll, vfill, vress, vres, tup, Nat.reduceEqDiff, ↓reduceIte, Nat.reduceAdd, Nat.reduceMul, Nat.reduceLeDiff, reduceCtorEq, slen, ltc hi, ge0, decide_true, vdr, Int.toNat_natCast, Nat.mul_one, e1, e2, hv, h, getE hla, getE hlb, Option.some.injEq])
      (all_eq ha.1 hb.1)
    simp only [Int.natCast_zero] at hl
    simp -implicitDefEqProofs only [v68, VMs, noRef, noRef1, isRef, List.all_cons, List.all_nil, vop, VOp.still, VOp.app, VOp.plain, allP, lof, evs, start, asI, vbin, vcells, ntup, setAll, vfill, vress, vres, tup, Nat.reduceEqDiff, ↓reduceIte, Nat.reduceAdd, Nat.reduceMul, Nat.reduceLeDiff, reduceCtorEq, slen, bne_self_eq_false, vlp, hl]
    by_cases h : la = lb <;> simp -implicitDefEqProofs only [h, decide_true, decide_false, VMs, noRef, noRef1, isRef, List.all_cons, List.all_nil, vop, VOp.still, VOp.app, VOp.plain, allP, lof, evs, start, asI, vbin, vcells, ntup, setAll, vfill, vress, vres, tup, Nat.reduceEqDiff, ↓reduceIte, Nat.reduceAdd, Nat.reduceMul, Nat.reduceLeDiff, reduceCtorEq]
  · have hne : la ≠ lb := by intro e; subst e; exact hnm (ha.1.trans hb.1.symm)
    have h1 : ((n : Int) != (m : Int)) = true := by simp; omega
    simp -implicitDefEqProofs only [v68, VMs, noRef, noRef1, isRef, List.all_cons, List.all_nil, vop, VOp.still, VOp.app, VOp.plain, allP, lof, evs, start, asI, vbin, vcells, ntup, setAll, vfill, vress, vres, tup, Nat.reduceEqDiff, ↓reduceIte, Nat.reduceAdd, Nat.reduceMul, Nat.reduceLeDiff, reduceCtorEq, slen, h1, hne, decide_false]
set_option maxHeartbeats 4000000 in
theorem specSamePools_c (d lo : Nat) (H : Hp) {an nn ab nb av nv an' nn' ab' nb' av' nv'} {p q : Po} (hp : RP' H an nn ab nb av nv p) (hq : RP' H an' nn' ab' nb' av' nv' q) (hs : SP p) :
    vcall env (d + 2) 27 [.agg #[.slice an nn (sg an 3), .slice ab nb (sg ab 2), .slice av nv (sg av 3)], .agg #[.slice an' nn' (sg an' 3), .slice ab' nb' (sg ab' 2), .slice av' nv' (sg av' 3)]] lo H = some (.bool (decide (p = q)), H) := by
  obtain ⟨HA, hHA⟩ : ∃ HA : Hp, HA = H ++ [some ⟨[.slice an nn (sg an 3), .slice ab nb (sg ab 2), .slice av nv (sg av 3)], true, false⟩, some ⟨[.slice an' nn' (sg an' 3), .slice ab' nb' (sg ab' 2), .slice av' nv' (sg av' 3)], true, false⟩] := ⟨_, rfl⟩
  have hpA : RP' HA an nn ab nb av nv p := by rw [hHA]; exact hp.app
  have hqA : RP' HA an' nn' ab' nb' av' nv' q := by rw [hHA]; exact hq.app
  have a0 : rd HA ⟨H.length, 0, none⟩ = some (.slice an nn (sg an 3)) := by rw [hHA]; simp [rd0]
  have a1 : rd HA ⟨H.length, 1, none⟩ = some (.slice ab nb (sg ab 2)) := by rw [hHA]; simp [rd0]
  have a2 : rd HA ⟨H.length, 2, none⟩ = some (.slice av nv (sg av 3)) := by rw [hHA]; simp [rd0]
  have b0 : rd HA ⟨H.length + 1, 0, none⟩ = some (.slice an' nn' (sg an' 3)) := by rw [hHA]; simp [rdk]
  have b1 : rd HA ⟨H.length + 1, 1, none⟩ = some (.slice ab' nb' (sg ab' 2)) := by rw [hHA]; simp [rdk]
  have b2 : rd HA ⟨H.length + 1, 2, none⟩ = some (.slice av' nv' (sg av' 3)) := by rw [hHA]; simp [rdk]
  rw [call_eq find27 _ _ _ rfl]
  have key : ∀ {x y : Po}, x = y ↔ x.v = y.v ∧ x.f.b = y.f.b ∧ x.f.n = y.f.n := fun {x y} => by
    obtain ⟨⟨n, b⟩, v⟩ := x
    obtain ⟨⟨n', b'⟩, v'⟩ := y
    simp only [Po.mk.injEq, Fo.mk.injEq]
    constructor
    · rintro ⟨⟨h1, h2⟩, h3⟩; exact ⟨h3, h2, h1⟩
    · rintro ⟨h3, h2, h1⟩; exact ⟨⟨h1, h2⟩, h3⟩
  by_cases hv' : ¬ nv = nv'
  · have hne : ¬ p = q := fun e => hv' (by rw [hp.v.1, hq.v.1, e])
    have h1 : ((nv : Int) != (nv' : Int)) = true := by simp; omega
    rw [decide_eq_false hne]
    subst hHA
    simp -implicitDefEqProofs only [v27, VMs, noRef, noRef1, isRef, List.all_cons, List.all_nil, vop, VOp.still, VOp.app, VOp.plain, allP, lof, evs, start, asI, vbin, vcells, ntup, setAll, vfill, vress, vres, tup, Nat.reduceEqDiff, ↓reduceIte, Nat.reduceAdd, Nat.reduceMul, Nat.reduceLeDiff, reduceCtorEq, slen, h1]
  have hv : nv = nv' := Decidable.byContradiction hv'
  have e1 : ((nv : Int) != (nv' : Int)) = false := by rw [hv]; exact bne_self_eq_false _
  by_cases hn' : ¬ nn = nn'
  · have hne : ¬ p = q := fun e => hn' (by rw [hp.f.n.1, hq.f.n.1, e])
    have h1 : ((nn : Int) != (nn' : Int)) = true := by simp; omega
    rw [decide_eq_false hne]
    subst hHA
    simp -implicitDefEqProofs only [v27, VMs, noRef, noRef1, isRef, List.all_cons, List.all_nil, vop, VOp.still, VOp.app, VOp.plain, allP, lof, evs, start, asI, vbin, vcells, ntup, setAll, vfill, vress, vres, tup, Nat.reduceEqDiff, ↓reduceIte, Nat.reduceAdd, Nat.reduceMul, Nat.reduceLeDiff, reduceCtorEq, slen, e1, h1]
  have hn : nn = nn' := Decidable.byContradiction hn'
  have e2 : ((nn : Int) != (nn' : Int)) = false := by rw [hn]; exact bne_self_eq_false _
  by_cases hb' : ¬ nb = nb'
  · have hne : ¬ p = q := fun e => hb' (by rw [hp.f.b.1, hq.f.b.1, e])
    have h1 : ((nb : Int) != (nb' : Int)) = true := by simp; omega
    rw [decide_eq_false hne]
    subst hHA
    simp -implicitDefEqProofs only [v27, VMs, noRef, noRef1, isRef, List.all_cons, List.all_nil, vop, VOp.still, VOp.app, VOp.plain, allP, lof, evs, start, asI, vbin, vcells, ntup, setAll, vfill, vress, vres, tup, Nat.reduceEqDiff, ↓reduceIte, Nat.reduceAdd, Nat.reduceMul, Nat.reduceLeDiff, reduceCtorEq, slen, e1, e2, h1]
  have hb : nb = nb' := Decidable.byContradiction hb'
  have e3 : ((nb : Int) != (nb' : Int)) = false := by rw [hb]; exact bne_self_eq_false _
  subst hv hn hb
  have sv : Sm nv := hp.v.1 ▸ hs.v
  have sn : Sm nn := hp.f.n.1 ▸ hs.f.n
  have sb : Sm nb := hp.f.b.1 ▸ hs.f.b
  have hl0 := lim_all (f := rnd (vcall env (d + 1)) H.length [2, 3, 5] [2, 3, 4] l27_0) (R := (.exit 0, [(2, .pointer (some ⟨H.length, 0, none⟩)), (3, .pointer (some ⟨H.length + 1, 0, none⟩))], HA)) (E := (.ret, [(2, .pointer (some ⟨H.length, 0, none⟩)), (3, .pointer (some ⟨H.length + 1, 0, none⟩)), (4, .bool false)], HA)) (by simp) (by simp) (fun i => [(2, .pointer (some ⟨H.length, 0, none⟩)), (3, .pointer (some ⟨H.length + 1, 0, none⟩)), (5, .int .i64 (i : Nat))]) HA nv (fun i => p.v[i]? = q.v[i]?)
    (by simp -implicitDefEqProofs only [rnd, l27_0, VMs, noRef, noRef1, isRef, List.all_cons, List.all_nil, vop, VOp.still, VOp.app, VOp.plain, allP, lof, evs, start, asI, vbin, vcells, ntup, setAll, vfill, vress, vres, tup, Nat.reduceEqDiff, ↓reduceIte, Nat.reduceAdd, Nat.reduceMul, Nat.reduceLeDiff, reduceCtorEq, a2, slen, Int.lt_irrefl, decide_false])
    (fun i hi => by
      have hla : i < p.v.length := by rw [← hp.v.1]; exact hi
      have hlb : i < q.v.length := by rw [← hq.v.1]; exact hi
      obtain ⟨i1, o1, rfl, x1⟩ := hpA.v.at hla
      obtain ⟨i2, o2, rfl, x2⟩ := hqA.v.at hlb
      have v1 := x1.val
      have v2 := x2.val
      have hv := ieqsV p.v[i] q.v[i]
      simp only [sgs] at a2 b2
      by_cases h : p.v[i] = q.v[i]
      · rw [h] at hv v1; rw [decide_eq_true rfl] at hv
        simp -implicitDefEqProofs only [rnd, l27_0, VMs, noRef, noRef1, isRef, List.all_cons, List.all_nil, vop, VOp.still, VOp.app, VOp.plain, allP, lof, evs, start, asI, vbin, vcells, ntup, setAll, vfill, vress, vres, tup, Nat.reduceEqDiff, ↓reduceIte, Nat.reduceAdd, Nat.reduceMul, Nat.reduceLeDiff, reduceCtorEq, a2, b2, slen, ltc hi, ge0, decide_true, vdr, Int.toNat_natCast, v1, v2, List.size_toArray, hv, h, sv.w hi, getE hla, getE hlb]
      · rw [decide_eq_false h] at hv
        simp -implicitDefEqProofs only [rnd, l27_0, VMs, noRef, noRef1, isRef, List.all_cons, List.all_nil, vop, VOp.still, VOp.app, VOp.plain, allP, lof, evs, start, asI, vbin, vcells, ntup, setAll, vfill, vress, vres, tup, Nat.reduceEqDiff, ↓reduceIte, Nat.reduceAdd, Nat.reduceMul, Nat.reduceLeDiff, reduceCtorEq, a2, b2, slen, ltc hi, ge0, decide_true, vdr, Int.toNat_natCast, v1, v2, List.size_toArray, hv, h, decide_false, getE hla, getE hlb, Option.some.injEq])
    (all_eq hp.v.1 hq.v.1)
  have hl1 := lim_all (f := rnd (vcall env (d + 1)) H.length [2, 3, 6] [2, 3, 4] l27_1) (R := (.exit 2, [(2, .pointer (some ⟨H.length, 0, none⟩)), (3, .pointer (some ⟨H.length + 1, 0, none⟩))], HA)) (E := (.ret, [(2, .pointer (some ⟨H.length, 0, none⟩)), (3, .pointer (some ⟨H.length + 1, 0, none⟩)), (4, .bool false)], HA)) (by simp) (by simp) (fun i => [(2, .pointer (some ⟨H.length, 0, none⟩)), (3, .pointer (some ⟨H.length + 1, 0, none⟩)), (6, .int .i64 (i : Nat))]) HA nb (fun i => p.f.b[i]? = q.f.b[i]?)
    (by simp -implicitDefEqProofs only [rnd, l27_1, VMs, noRef, noRef1, isRef, List.all_cons, List.all_nil, vop, VOp.still, VOp.app, VOp.plain, allP, lof, evs, start, asI, vbin, vcells, ntup, setAll, vfill, vress, vres, tup, Nat.reduceEqDiff, ↓reduceIte, Nat.reduceAdd, Nat.reduceMul, Nat.reduceLeDiff, reduceCtorEq, a1, slen, Int.lt_irrefl, decide_false])
    (fun i hi => by
      have hla : i < p.f.b.length := by rw [← hp.f.b.1]; exact hi
      have hlb : i < q.f.b.length := by rw [← hq.f.b.1]; exact hi
      obtain ⟨i1, o1, rfl, x1⟩ := hpA.f.b.at hla
      obtain ⟨i2, o2, rfl, x2⟩ := hqA.f.b.at hlb
      have v1 := x1.val
      have v2 := x2.val
      have hv := ieqsB p.f.b[i] q.f.b[i]
      simp only [sgs] at a1 b1
      by_cases h : p.f.b[i] = q.f.b[i]
      · rw [h] at hv v1; rw [decide_eq_true rfl] at hv
        simp -implicitDefEqProofs only [rnd, l27_1, VMs, noRef, noRef1, isRef, List.all_cons, List.all_nil, vop, VOp.still, VOp.app, VOp.plain, allP, lof, evs, start, asI, vbin, vcells, ntup, setAll, vfill, vress, vres, tup, Nat.reduceEqDiff, ↓reduceIte, Nat.reduceAdd, Nat.reduceMul, Nat.reduceLeDiff, reduceCtorEq, a1, b1, slen, ltc hi, ge0, decide_true, vdr, Int.toNat_natCast, v1, v2, List.size_toArray, hv, h, sb.w hi, getE hla, getE hlb]
      · rw [decide_eq_false h] at hv
        simp -implicitDefEqProofs only [rnd, l27_1, VMs, noRef, noRef1, isRef, List.all_cons, List.all_nil, vop, VOp.still, VOp.app, VOp.plain, allP, lof, evs, start, asI, vbin, vcells, ntup, setAll, vfill, vress, vres, tup, Nat.reduceEqDiff, ↓reduceIte, Nat.reduceAdd, Nat.reduceMul, Nat.reduceLeDiff, reduceCtorEq, a1, b1, slen, ltc hi, ge0, decide_true, vdr, Int.toNat_natCast, v1, v2, List.size_toArray, hv, h, decide_false, getE hla, getE hlb, Option.some.injEq])
    (all_eq hp.f.b.1 hq.f.b.1)
  have hl2 := lim_all (f := rnd (vcall env (d + 1)) H.length [2, 3, 7] [4] l27_2) (R := (.exit 4, [], HA)) (E := (.ret, [(4, .bool false)], HA)) (by simp) (by simp) (fun i => [(2, .pointer (some ⟨H.length, 0, none⟩)), (3, .pointer (some ⟨H.length + 1, 0, none⟩)), (7, .int .i64 (i : Nat))]) HA nn (fun i => p.f.n[i]? = q.f.n[i]?)
    (by simp -implicitDefEqProofs only [rnd, l27_2, VMs, noRef, noRef1, isRef, List.all_cons, List.all_nil, vop, VOp.still, VOp.app, VOp.plain, allP, lof, evs, start, asI, vbin, vcells, ntup, setAll, vfill, vress, vres, tup, Nat.reduceEqDiff, ↓reduceIte, Nat.reduceAdd, Nat.reduceMul, Nat.reduceLeDiff, reduceCtorEq, a0, slen, Int.lt_irrefl, decide_false])
    (fun i hi => by
      have hla : i < p.f.n.length := by rw [← hp.f.n.1]; exact hi
      have hlb : i < q.f.n.length := by rw [← hq.f.n.1]; exact hi
      obtain ⟨i1, o1, rfl, r1, g1, x1, n1, k1, w1⟩ := hpA.f.n.at hla
      obtain ⟨i2, o2, rfl, r2, g2, x2, n2, k2, w2⟩ := hqA.f.n.at hlb
      have hc := fun lo => l5Nums_c d lo HA x1 x2 n1 n2 _ _ w1 w2 (w1.1 ▸ hs.f.k _ (List.getElem_mem hla))
      simp only [sgs] at a0 b0
      generalize hX : p.f.n[i] = X at *
      generalize hY : q.f.n[i] = Y at *
      obtain ⟨xr, xf, xk⟩ := X
      obtain ⟨yr, yf, yk⟩ := Y
      simp only at r1 g1 k1 r2 g2 k2 hc
      rw [getE hla, getE hlb, hX, hY]
      by_cases h1 : xr = yr
      · subst h1
        have tt : (true == true) = true := rfl
        have tf : (true == false) = false := rfl
        have ft : (false == true) = false := rfl
        have ff0 : (false == false) = true := rfl
        by_cases h3 : xk = yk
        · subst h3
          rw [decide_eq_true rfl] at hc
          cases xf <;> cases yf <;> simp -implicitDefEqProofs only [rnd, l27_2, VMs, noRef, noRef1, isRef, List.all_cons, List.all_nil, vop, VOp.still, VOp.app, VOp.plain, allP, lof, evs, start, asI, vbin, vcells, ntup, setAll, vfill, vress, vres, tup, Nat.reduceEqDiff, ↓reduceIte, Nat.reduceAdd, Nat.reduceMul, Nat.reduceLeDiff, reduceCtorEq, a0, b0, slen, ltc hi, ge0, decide_true, vdr, Int.toNat_natCast, r1, r2, bne_self_eq_false, g1, g2, k1, k2, hc, eq_self, sn.w hi, eq_self, false_and, and_false, Option.some.injEq, Nd.mk.injEq, tt, tf, ft, ff0, Bool.true_eq_false, Bool.false_eq_true, Bool.not_true, Bool.not_false]
        · rw [decide_eq_false h3] at hc
          cases xf <;> cases yf <;> simp -implicitDefEqProofs only [rnd, l27_2, VMs, noRef, noRef1, isRef, List.all_cons, List.all_nil, vop, VOp.still, VOp.app, VOp.plain, allP, lof, evs, start, asI, vbin, vcells, ntup, setAll, vfill, vress, vres, tup, Nat.reduceEqDiff, ↓reduceIte, Nat.reduceAdd, Nat.reduceMul, Nat.reduceLeDiff, reduceCtorEq, a0, b0, slen, ltc hi, ge0, decide_true, vdr, Int.toNat_natCast, r1, r2, bne_self_eq_false, g1, g2, k1, k2, hc, h3, sn.w hi, eq_self, false_and, and_false, Option.some.injEq, Nd.mk.injEq, tt, tf, ft, ff0, Bool.true_eq_false, Bool.false_eq_true, Bool.not_true, Bool.not_false]
      · have q1 : (xr != yr) = true := bne_iff_ne.2 h1
        simp -implicitDefEqProofs only [rnd, l27_2, VMs, noRef, noRef1, isRef, List.all_cons, List.all_nil, vop, VOp.still, VOp.app, VOp.plain, allP, lof, evs, start, asI, vbin, vcells, ntup, setAll, vfill, vress, vres, tup, Nat.reduceEqDiff, ↓reduceIte, Nat.reduceAdd, Nat.reduceMul, Nat.reduceLeDiff, reduceCtorEq, a0, b0, slen, ltc hi, ge0, decide_true, vdr, Int.toNat_natCast, r1, r2, q1, h1, Option.some.injEq, Nd.mk.injEq, false_and])
    (all_eq hp.f.n.1 hq.f.n.1)
  simp only [Int.natCast_zero] at hl0 hl1 hl2
  subst hHA
  by_cases h0 : p.v = q.v
  · rw [if_pos h0] at hl0
    by_cases h1 : p.f.b = q.f.b
    · rw [if_pos h1] at hl1
      by_cases h2 : p.f.n = q.f.n
      · rw [if_pos h2] at hl2
        rw [decide_eq_true (key.2 ⟨h0, h1, h2⟩)]
        simp -implicitDefEqProofs only [v27, VMs, noRef, noRef1, isRef, List.all_cons, List.all_nil, vop, VOp.still, VOp.app, VOp.plain, allP, lof, evs, start, asI, vbin, vcells, ntup, setAll, vfill, vress, vres, tup, Nat.reduceEqDiff, ↓reduceIte, Nat.reduceAdd, Nat.reduceMul, Nat.reduceLeDiff, reduceCtorEq, slen, e1, e2, e3, vlp, hl0, hl1, hl2]
      · rw [if_neg h2] at hl2
        rw [decide_eq_false (fun e => h2 (key.1 e).2.2)]
        simp -implicitDefEqProofs only [v27, VMs, noRef, noRef1, isRef, List.all_cons, List.all_nil, vop, VOp.still, VOp.app, VOp.plain, allP, lof, evs, start, asI, vbin, vcells, ntup, setAll, vfill, vress, vres, tup, Nat.reduceEqDiff, ↓reduceIte, Nat.reduceAdd, Nat.reduceMul, Nat.reduceLeDiff, reduceCtorEq, slen, e1, e2, e3, vlp, hl0, hl1, hl2]
    · rw [if_neg h1] at hl1
      rw [decide_eq_false (fun e => h1 (key.1 e).2.1)]
      simp -implicitDefEqProofs only [v27, VMs, noRef, noRef1, isRef, List.all_cons, List.all_nil, vop, VOp.still, VOp.app, VOp.plain, allP, lof, evs, start, asI, vbin, vcells, ntup, setAll, vfill, vress, vres, tup, Nat.reduceEqDiff, ↓reduceIte, Nat.reduceAdd, Nat.reduceMul, Nat.reduceLeDiff, reduceCtorEq, slen, e1, e2, e3, vlp, hl0, hl1]
  · rw [if_neg h0] at hl0
    rw [decide_eq_false (fun e => h0 (key.1 e).1)]
    simp -implicitDefEqProofs only [v27, VMs, noRef, noRef1, isRef, List.all_cons, List.all_nil, vop, VOp.still, VOp.app, VOp.plain, allP, lof, evs, start, asI, vbin, vcells, ntup, setAll, vfill, vress, vres, tup, Nat.reduceEqDiff, ↓reduceIte, Nat.reduceAdd, Nat.reduceMul, Nat.reduceLeDiff, reduceCtorEq, slen, e1, e2, e3, vlp, hl0]
end Go.Proofs.Ytflddpkmajoeaaa.V
