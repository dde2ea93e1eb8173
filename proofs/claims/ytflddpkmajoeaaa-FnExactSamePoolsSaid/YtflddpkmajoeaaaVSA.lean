/- SamePools: the program's and the reference's. -/
import Derived.Test.YtflddpkmajoeaaaVPA
namespace Go.Proofs.Ytflddpkmajoeaaa.V
open Go
set_option linter.unusedVariables false
set_option linter.unusedSimpArgs false
set_option maxRecDepth 100000
theorem ieqsV (x y : Vo) : ieqs [.int .i64 x.i, .int .i64 x.q, .int .i64 x.r] [.int .i64 y.i, .int .i64 y.q, .int .i64 y.r] = some (decide (x = y)) := by
  obtain ⟨a, b, c⟩ := x
  obtain ⟨a', b', c'⟩ := y
  by_cases h1 : a = a' <;> by_cases h2 : b = b' <;> by_cases h3 : c = c' <;> simp [ieqs, h1, h2, h3]
theorem ieqsB (x y : Bk) : ieqs [.int .i64 x.r, .int .i64 x.d] [.int .i64 y.r, .int .i64 y.d] = some (decide (x = y)) := by
  obtain ⟨a, b⟩ := x
  obtain ⟨a', b'⟩ := y
  by_cases h1 : a = a' <;> by_cases h2 : b = b' <;> simp [ieqs, h1, h2]
theorem equalV_c (d lo : Nat) (H : Hp) (a b : Option Addr) (n m : Nat) (la lb : List Vo) (ha : Rep EV 3 H a n la) (hb : Rep EV 3 H b m lb) (hn : Sm n) :
    vcall env (d + 1) 63 [.slice a n (sg a 3), .slice b m (sg b 3)] lo H = some (.bool (decide (la = lb)), H) := by
  rw [call_eq find63 _ _ _ rfl]
  by_cases hnm : n = m
  · subst hnm
    have hl := lim_all (f := rnd (vcall env d) H.length [0, 1, 12, 13] [4] l63_0) (R := (.exit 0, [], H)) (E := (.ret, [(4, .bool false)], H)) (by simp) (by simp) (fun i => [(0, .slice a n (sg a 3)), (1, .slice b n (sg b 3)), (12, .int .i64 (n : Nat)), (13, .int .i64 (i : Nat))]) H n (fun i => la[i]? = lb[i]?)
      (by simp -implicitDefEqProofs only [rnd, l63_0, VMs, noRef, noRef1, isRef, List.all_cons, List.all_nil, vop, VOp.still, VOp.app, VOp.plain, allP, lof, evs, start, asI, vbin, vcells, ntup, setAll, vfill, vress, vres, tup, Nat.reduceEqDiff, ↓reduceIte, Nat.reduceAdd, Nat.reduceMul, Nat.reduceLeDiff, reduceCtorEq, slen, Int.lt_irrefl, decide_false])
      (fun i hi => by
        have hla : i < la.length := by rw [← ha.1]; exact hi
        have hlb : i < lb.length := by rw [← hb.1]; exact hi
        obtain ⟨i1, o1, rfl, e1⟩ := ha.at hla
        obtain ⟨i2, o2, rfl, e2⟩ := hb.at hlb
        have v1 := e1.val
        have v2 := e2.val
        have hv := ieqsV la[i] lb[i]
        by_cases h : la[i] = lb[i]
        · rw [h] at hv v1; rw [decide_eq_true rfl] at hv
          simp -implicitDefEqProofs only [rnd, l63_0, VMs, noRef, noRef1, isRef, List.all_cons, List.all_nil, vop, VOp.still, VOp.app, VOp.plain, allP, lof, evs, start, asI, vbin, vcells, ntup, setAll, vfill, vress, vres, tup, Nat.reduceEqDiff, ↓reduceIte, Nat.reduceAdd, Nat.reduceMul, Nat.reduceLeDiff, reduceCtorEq, slen, ltc hi, ge0, decide_true, vdr, Int.toNat_natCast, Nat.mul_one, v1, v2, List.size_toArray, hv, h, hn.w hi, getE hla, getE hlb]
        · rw [decide_eq_false h] at hv
          simp -implicitDefEqProofs only [rnd, l63_0, VMs, noRef, noRef1, isRef, List.all_cons, List.all_nil, vop, VOp.still, VOp.app, VOp.plain, allP, lof, evs, start, asI, vbin, vcells, ntup, setAll, vfill, vress, vres, tup, Nat.reduceEqDiff, ↓reduceIte, Nat.reduceAdd, Nat.reduceMul, Nat.reduceLeDiff, reduceCtorEq, slen, ltc hi, ge0, decide_true, vdr, Int.toNat_natCast, Nat.mul_one, v1, v2, List.size_toArray, hv, h, decide_false, getE hla, getE hlb, Option.some.injEq])
      (all_eq ha.1 hb.1)
    simp only [Int.natCast_zero] at hl
    simp -implicitDefEqProofs only [v63, VMs, noRef, noRef1, isRef, List.all_cons, List.all_nil, vop, VOp.still, VOp.app, VOp.plain, allP, lof, evs, start, asI, vbin, vcells, ntup, setAll, vfill, vress, vres, tup, Nat.reduceEqDiff, ↓reduceIte, Nat.reduceAdd, Nat.reduceMul, Nat.reduceLeDiff, reduceCtorEq, slen, bne_self_eq_false, vlp, hl]
    by_cases h : la = lb <;> simp -implicitDefEqProofs only [h, decide_true, decide_false, VMs, noRef, noRef1, isRef, List.all_cons, List.all_nil, vop, VOp.still, VOp.app, VOp.plain, allP, lof, evs, start, asI, vbin, vcells, ntup, setAll, vfill, vress, vres, tup, Nat.reduceEqDiff, ↓reduceIte, Nat.reduceAdd, Nat.reduceMul, Nat.reduceLeDiff, reduceCtorEq]
  · have hne : la ≠ lb := by intro e; subst e; exact hnm (ha.1.trans hb.1.symm)
    have h1 : ((n : Int) != (m : Int)) = true := by simp; omega
    simp -implicitDefEqProofs only [v63, VMs, noRef, noRef1, isRef, List.all_cons, List.all_nil, vop, VOp.still, VOp.app, VOp.plain, allP, lof, evs, start, asI, vbin, vcells, ntup, setAll, vfill, vress, vres, tup, Nat.reduceEqDiff, ↓reduceIte, Nat.reduceAdd, Nat.reduceMul, Nat.reduceLeDiff, reduceCtorEq, slen, h1, hne, decide_false]
theorem equalB_c (d lo : Nat) (H : Hp) (a b : Option Addr) (n m : Nat) (la lb : List Bk) (ha : Rep EB 2 H a n la) (hb : Rep EB 2 H b m lb) (hn : Sm n) :
    vcall env (d + 1) 70 [.slice a n (sg a 2), .slice b m (sg b 2)] lo H = some (.bool (decide (la = lb)), H) := by
  rw [call_eq find70 _ _ _ rfl]
  by_cases hnm : n = m
  · subst hnm
    have hl := lim_all (f := rnd (vcall env d) H.length [0, 1, 12, 13] [4] l70_0) (R := (.exit 0, [], H)) (E := (.ret, [(4, .bool false)], H)) (by simp) (by simp) (fun i => [(0, .slice a n (sg a 2)), (1, .slice b n (sg b 2)), (12, .int .i64 (n : Nat)), (13, .int .i64 (i : Nat))]) H n (fun i => la[i]? = lb[i]?)
      (by simp -implicitDefEqProofs only [rnd, l70_0, VMs, noRef, noRef1, isRef, List.all_cons, List.all_nil, vop, VOp.still, VOp.app, VOp.plain, allP, lof, evs, start, asI, vbin, vcells, ntup, setAll, vfill, vress, vres, tup, Nat.reduceEqDiff, ↓reduceIte, Nat.reduceAdd, Nat.reduceMul, Nat.reduceLeDiff, reduceCtorEq, slen, Int.lt_irrefl, decide_false])
      (fun i hi => by
        have hla : i < la.length := by rw [← ha.1]; exact hi
        have hlb : i < lb.length := by rw [← hb.1]; exact hi
        obtain ⟨i1, o1, rfl, e1⟩ := ha.at hla
        obtain ⟨i2, o2, rfl, e2⟩ := hb.at hlb
        have v1 := e1.val
        have v2 := e2.val
        have hv := ieqsB la[i] lb[i]
        by_cases h : la[i] = lb[i]
        · rw [h] at hv v1; rw [decide_eq_true rfl] at hv
          simp -implicitDefEqProofs only [rnd, l70_0, VMs, noRef, noRef1, isRef, List.all_cons, List.all_nil, vop, VOp.still, VOp.app, VOp.plain, allP, lof, evs, start, asI, vbin, vcells, ntup, setAll, vfill, vress, vres, tup, Nat.reduceEqDiff, ↓reduceIte, Nat.reduceAdd, Nat.reduceMul, Nat.reduceLeDiff, reduceCtorEq, slen, ltc hi, ge0, decide_true, vdr, Int.toNat_natCast, Nat.mul_one, v1, v2, List.size_toArray, hv, h, hn.w hi, getE hla, getE hlb]
        · rw [decide_eq_false h] at hv
          simp -implicitDefEqProofs only [rnd, l70_0, VMs, noRef, noRef1, isRef, List.all_cons, List.all_nil, vop, VOp.still, VOp.app, VOp.plain, allP, lof, evs, start, asI, vbin, vcells, ntup, setAll, vfill, vress, vres, tup, Nat.reduceEqDiff, ↓reduceIte, Nat.reduceAdd, Nat.reduceMul, Nat.reduceLeDiff, reduceCtorEq, slen, ltc hi, ge0, decide_true, vdr, Int.toNat_natCast, Nat.mul_one, v1, v2, List.size_toArray, hv, h, decide_false, getE hla, getE hlb, Option.some.injEq])
      (all_eq ha.1 hb.1)
    simp only [Int.natCast_zero] at hl
    simp -implicitDefEqProofs only [v70, VMs, noRef, noRef1, isRef, List.all_cons, List.all_nil, vop, VOp.still, VOp.app, VOp.plain, allP, lof, evs, start, asI, vbin, vcells, ntup, setAll, vfill, vress, vres, tup, Nat.reduceEqDiff, ↓reduceIte, Nat.reduceAdd, Nat.reduceMul, Nat.reduceLeDiff, reduceCtorEq, slen, bne_self_eq_false, vlp, hl]
    by_cases h : la = lb <;> simp -implicitDefEqProofs only [h, decide_true, decide_false, VMs, noRef, noRef1, isRef, List.all_cons, List.all_nil, vop, VOp.still, VOp.app, VOp.plain, allP, lof, evs, start, asI, vbin, vcells, ntup, setAll, vfill, vress, vres, tup, Nat.reduceEqDiff, ↓reduceIte, Nat.reduceAdd, Nat.reduceMul, Nat.reduceLeDiff, reduceCtorEq]
  · have hne : la ≠ lb := by intro e; subst e; exact hnm (ha.1.trans hb.1.symm)
    have h1 : ((n : Int) != (m : Int)) = true := by simp; omega
    simp -implicitDefEqProofs only [v70, VMs, noRef, noRef1, isRef, List.all_cons, List.all_nil, vop, VOp.still, VOp.app, VOp.plain, allP, lof, evs, start, asI, vbin, vcells, ntup, setAll, vfill, vress, vres, tup, Nat.reduceEqDiff, ↓reduceIte, Nat.reduceAdd, Nat.reduceMul, Nat.reduceLeDiff, reduceCtorEq, slen, h1, hne, decide_false]
theorem equalI_c (d lo : Nat) (H : Hp) (a b : Option Addr) (n m : Nat) (la lb : List Int) (ha : Rep EI 1 H a n la) (hb : Rep EI 1 H b m lb) (hn : Sm n) :
    vcall env (d + 1) 73 [.slice a n (sg a 1), .slice b m (sg b 1)] lo H = some (.bool (decide (la = lb)), H) := by
  rw [call_eq find73 _ _ _ rfl]
  by_cases hnm : n = m
  · subst hnm
    have hl := lim_all (f := rnd (vcall env d) H.length [0, 1, 12, 13] [4] l73_0) (R := (.exit 0, [], H)) (E := (.ret, [(4, .bool false)], H)) (by simp) (by simp) (fun i => [(0, .slice a n (sg a 1)), (1, .slice b n (sg b 1)), (12, .int .i64 (n : Nat)), (13, .int .i64 (i : Nat))]) H n (fun i => la[i]? = lb[i]?)
      (by simp -implicitDefEqProofs only [rnd, l73_0, VMs, noRef, noRef1, isRef, List.all_cons, List.all_nil, vop, VOp.still, VOp.app, VOp.plain, allP, lof, evs, start, asI, vbin, vcells, ntup, setAll, vfill, vress, vres, tup, Nat.reduceEqDiff, ↓reduceIte, Nat.reduceAdd, Nat.reduceMul, Nat.reduceLeDiff, reduceCtorEq, slen, Int.lt_irrefl, decide_false])
      (fun i hi => by
        have hla : i < la.length := by rw [← ha.1]; exact hi
        have hlb : i < lb.length := by rw [← hb.1]; exact hi
        obtain ⟨i1, o1, rfl, e1⟩ := ha.at hla
        obtain ⟨i2, o2, rfl, e2⟩ := hb.at hlb
        have v1 := e1
        have v2 := e2
        simp only [EI, Nat.mul_one] at v1 v2
        by_cases h : la[i] = lb[i]
        · have hv : (la[i] != lb[i]) = false := by rw [h]; exact bne_self_eq_false _
          simp -implicitDefEqProofs only [rnd, l73_0, VMs, noRef, noRef1, isRef, List.all_cons, List.all_nil, vop, VOp.still, VOp.app, VOp.plain, allP, lof, evs, start, asI, vbin, vcells, ntup, setAll, vfill, vress, vres, tup, Nat.reduceEqDiff, ↓reduceIte, Nat.reduceAdd, Nat.reduceMul, Nat.reduceLeDiff, reduceCtorEq, slen, ltc hi, ge0, decide_true, vdr, Int.toNat_natCast, Nat.mul_one, v1, v2, List.size_toArray, hv, bne_self_eq_false, h, hn.w hi, getE hla, getE hlb]
        · have hv : (la[i] != lb[i]) = true := bne_iff_ne.2 h
          simp -implicitDefEqProofs only [rnd, l73_0, VMs, noRef, noRef1, isRef, List.all_cons, List.all_nil, vop, VOp.still, VOp.app, VOp.plain, allP, lof, evs, start, asI, vbin, vcells, ntup, setAll, vfill, vress, vres, tup, Nat.reduceEqDiff, ↓reduceIte, Nat.reduceAdd, Nat.reduceMul, Nat.reduceLeDiff, reduceCtorEq, slen, ltc hi, ge0, decide_true, vdr, Int.toNat_natCast, Nat.mul_one, v1, v2, List.size_toArray, hv, h, decide_false, getE hla, getE hlb, Option.some.injEq])
      (all_eq ha.1 hb.1)
    simp only [Int.natCast_zero] at hl
    simp -implicitDefEqProofs only [v73, VMs, noRef, noRef1, isRef, List.all_cons, List.all_nil, vop, VOp.still, VOp.app, VOp.plain, allP, lof, evs, start, asI, vbin, vcells, ntup, setAll, vfill, vress, vres, tup, Nat.reduceEqDiff, ↓reduceIte, Nat.reduceAdd, Nat.reduceMul, Nat.reduceLeDiff, reduceCtorEq, slen, bne_self_eq_false, vlp, hl]
    by_cases h : la = lb <;> simp -implicitDefEqProofs only [h, decide_true, decide_false, VMs, noRef, noRef1, isRef, List.all_cons, List.all_nil, vop, VOp.still, VOp.app, VOp.plain, allP, lof, evs, start, asI, vbin, vcells, ntup, setAll, vfill, vress, vres, tup, Nat.reduceEqDiff, ↓reduceIte, Nat.reduceAdd, Nat.reduceMul, Nat.reduceLeDiff, reduceCtorEq]
  · have hne : la ≠ lb := by intro e; subst e; exact hnm (ha.1.trans hb.1.symm)
    have h1 : ((n : Int) != (m : Int)) = true := by simp; omega
    simp -implicitDefEqProofs only [v73, VMs, noRef, noRef1, isRef, List.all_cons, List.all_nil, vop, VOp.still, VOp.app, VOp.plain, allP, lof, evs, start, asI, vbin, vcells, ntup, setAll, vfill, vress, vres, tup, Nat.reduceEqDiff, ↓reduceIte, Nat.reduceAdd, Nat.reduceMul, Nat.reduceLeDiff, reduceCtorEq, slen, h1, hne, decide_false]
/-- Two nodes: the program's. -/
theorem same1_c (d lo : Nat) (H : Hp) (a b : Option Addr) (n m : Nat) (x y : Nd) (ha : Rep EI 1 H a n x.k) (hb : Rep EI 1 H b m y.k) (hn : Sm n) :
    vcall env (d + 2) 72 [NV a n x, NV b m y] lo H = some (.bool (decide (x = y)), H) := by
  have c1 := fun l => equalI_c d H.length (H ++ l) a b n m x.k y.k (ha.app fun _ _ _ => EI.app) (hb.app fun _ _ _ => EI.app) hn
  rw [call_eq find72 _ _ _ rfl]
  obtain ⟨r, f, k⟩ := x
  obtain ⟨r', f', k'⟩ := y
  simp only at c1
  by_cases h1 : r = r'
  · have e1 : (r == r') = true := beq_iff_eq.2 h1
    cases f <;> cases f' <;> by_cases h3 : k = k' <;> simp [h1, h3, NV, v72, VMs, noRef, noRef1, isRef, List.all_cons, List.all_nil, vop, VOp.still, VOp.app, VOp.plain, allP, lof, evs, start, asI, vbin, vcells, ntup, setAll, vfill, vress, vres, tup, Nat.reduceEqDiff, ↓reduceIte, Nat.reduceAdd, Nat.reduceMul, Nat.reduceLeDiff, reduceCtorEq, ntup, vcells, e1, c1]
  · have e1 : (r == r') = false := beq_eq_false_iff_ne.2 h1
    simp [h1, NV, v72, VMs, noRef, noRef1, isRef, List.all_cons, List.all_nil, vop, VOp.still, VOp.app, VOp.plain, allP, lof, evs, start, asI, vbin, vcells, ntup, setAll, vfill, vress, vres, tup, Nat.reduceEqDiff, ↓reduceIte, Nat.reduceAdd, Nat.reduceMul, Nat.reduceLeDiff, reduceCtorEq, ntup, vcells, e1]
theorem equalN_c (d lo : Nat) (H : Hp) (a b : Option Addr) (n m : Nat) (la lb : List Nd) (ha : Rep EN 3 H a n la) (hb : Rep EN 3 H b m lb) (hn : Sm n) (hk : ∀ x ∈ la, Sm x.k.length) :
    vcall env (d + 3) 71 [.slice a n (sg a 3), .slice b m (sg b 3), .func (.func 72) #[] #[]] lo H = some (.bool (decide (la = lb)), H) := by
  rw [call_eq find71 _ _ _ rfl]
  by_cases hnm : n = m
  · subst hnm
    have hloop : ∃ r, lim (rnd (vcall env (d + 2)) H.length [1, 2, 15, 16, 17] [6] l71_0) [(1, .slice b n (sg b 3)), (2, .func (.func 72) #[] #[]), (15, .slice a n (sg a 3)), (16, .int .i64 (n : Nat)), (17, .int .i64 0)] H = some r ∧
        ∃ H', ((la = lb ∧ r = (.exit 0, [], H')) ∨ (la ≠ lb ∧ r = (.ret, [(6, .bool false)], H'))) := by
      refine lim_inv2 (fun i ts H1 => ts = [(1, .slice b n (sg b 3)), (2, .func (.func 72) #[] #[]), (15, .slice a n (sg a 3)), (16, .int .i64 (n : Nat)), (17, .int .i64 (i : Nat))] ∧ Fn H H1 ∧ ∀ j, j < i → la[j]? = lb[j]?) n ?_ ?_ ?_
      · rintro i ts H1 hi ⟨rfl, f1, hp⟩
        have hla : i < la.length := by rw [← ha.1]; exact hi
        have hlb : i < lb.length := by rw [← hb.1]; exact hi
        obtain ⟨i1, o1, rfl, ea⟩ := ha.at hla
        obtain ⟨i2, o2, rfl, eb⟩ := hb.at hlb
        obtain ⟨e1, g1, a1, n1, k1, r1⟩ := ea.fn f1
        obtain ⟨H2, hH2⟩ : ∃ H2 : Hp, H2 = H1 ++ [some ⟨[.int .i64 la[i].r, .bool la[i].f, .slice a1 n1 (sg a1 1)], true, false⟩] := ⟨_, rfl⟩
        have f2 : Fn H1 H2 := hH2 ▸ Fr.app
        obtain ⟨e2, g2, a2, n2, k2, r2⟩ := eb.fn (f1.trans f2)
        obtain ⟨H3, hH3⟩ : ∃ H3 : Hp, H3 = H2 ++ [some ⟨[.int .i64 lb[i].r, .bool lb[i].f, .slice a2 n2 (sg a2 1)], true, false⟩] := ⟨_, rfl⟩
        have f3 : Fn H2 H3 := hH3 ▸ Fr.app
        have v1 := rdN3 e1 g1 k1
        have v2 := rdN3 e2 g2 k2
        have hc := same1_c d H.length H3 a1 a2 n1 n2 la[i] lb[i] (r1.fnI (f2.trans f3)) (r2.fnI f3) (r1.1 ▸ hk _ (List.getElem_mem hla))
        have l1 := f1.len
        have hle1 : (H.length ≤ H1.length) = True := eq_true l1
        have hle2 : (H.length ≤ H1.length + 1) = True := eq_true (by omega)
        simp only [NV] at hc
        by_cases h : la[i] = lb[i]
        · rw [decide_eq_true h] at hc
          refine Or.inl ⟨[(1, .slice (some ⟨i2, o2, none⟩) n 3), (2, .func (.func 72) #[] #[]), (15, .slice (some ⟨i1, o1, none⟩) n 3), (16, .int .i64 (n : Nat)), (17, .int .i64 ((i + 1 : Nat) : Int))], H3, ?_, rfl, (f1.trans f2).trans f3, fun j hj => ?_⟩
          · subst hH3 hH2
            simp only [List.length_append, List.length_cons, List.length_nil, Nat.zero_add, List.append_assoc, List.cons_append, List.nil_append] at hc v2
            simp -implicitDefEqProofs only [rnd, l71_0, VMs, noRef, noRef1, isRef, List.all_cons, List.all_nil, vop, VOp.still, VOp.app, VOp.plain, allP, lof, evs, start, asI, vbin, vcells, ntup, setAll, vfill, vress, vres, tup, Nat.reduceEqDiff, ↓reduceIte, Nat.reduceAdd, Nat.reduceMul, Nat.reduceLeDiff, reduceCtorEq, slen, ltc hi, ge0, decide_true, Int.toNat_natCast, v1, v2, ntup, vcells, hle1, hle2, List.size_toArray, hc, hn.w hi]
          · rcases Nat.lt_succ_iff_lt_or_eq.1 hj with h' | h'
            · exact hp j h'
            · subst h'; rw [getE hla, getE hlb, h]
        · rw [decide_eq_false h] at hc
          refine Or.inr ⟨(.ret, [(6, .bool false)], H3), ?_, by simp, H3, Or.inr ⟨fun e => h (by subst e; rfl), rfl⟩⟩
          subst hH3 hH2
          simp only [List.length_append, List.length_cons, List.length_nil, Nat.zero_add, List.append_assoc, List.cons_append, List.nil_append] at hc v2
          simp -implicitDefEqProofs only [rnd, l71_0, VMs, noRef, noRef1, isRef, List.all_cons, List.all_nil, vop, VOp.still, VOp.app, VOp.plain, allP, lof, evs, start, asI, vbin, vcells, ntup, setAll, vfill, vress, vres, tup, Nat.reduceEqDiff, ↓reduceIte, Nat.reduceAdd, Nat.reduceMul, Nat.reduceLeDiff, reduceCtorEq, slen, ltc hi, ge0, decide_true, Int.toNat_natCast, v1, v2, ntup, vcells, hle1, hle2, List.size_toArray, hc]
      · rintro ts H1 ⟨rfl, f1, hp⟩
        exact ⟨(.exit 0, [], H1), by simp -implicitDefEqProofs only [rnd, l71_0, VMs, noRef, noRef1, isRef, List.all_cons, List.all_nil, vop, VOp.still, VOp.app, VOp.plain, allP, lof, evs, start, asI, vbin, vcells, ntup, setAll, vfill, vress, vres, tup, Nat.reduceEqDiff, ↓reduceIte, Nat.reduceAdd, Nat.reduceMul, Nat.reduceLeDiff, reduceCtorEq, slen, Int.lt_irrefl, decide_false], by simp, H1, Or.inl ⟨(all_eq ha.1 hb.1).1 hp, rfl⟩⟩
      · exact ⟨rfl, Fr.refl, fun j hj => by omega⟩
    obtain ⟨r, hl, H', ⟨h1, rfl⟩ | ⟨h1, rfl⟩⟩ := hloop
    · simp -implicitDefEqProofs only [v71, VMs, noRef, noRef1, isRef, List.all_cons, List.all_nil, vop, VOp.still, VOp.app, VOp.plain, allP, lof, evs, start, asI, vbin, vcells, ntup, setAll, vfill, vress, vres, tup, Nat.reduceEqDiff, ↓reduceIte, Nat.reduceAdd, Nat.reduceMul, Nat.reduceLeDiff, reduceCtorEq, slen, bne_self_eq_false, vlp, hl, h1, decide_true]
    · simp -implicitDefEqProofs only [v71, VMs, noRef, noRef1, isRef, List.all_cons, List.all_nil, vop, VOp.still, VOp.app, VOp.plain, allP, lof, evs, start, asI, vbin, vcells, ntup, setAll, vfill, vress, vres, tup, Nat.reduceEqDiff, ↓reduceIte, Nat.reduceAdd, Nat.reduceMul, Nat.reduceLeDiff, reduceCtorEq, slen, bne_self_eq_false, vlp, hl, h1, decide_false]
  · have hne : la ≠ lb := by intro e; subst e; exact hnm (ha.1.trans hb.1.symm)
    have h1 : ((n : Int) != (m : Int)) = true := by simp; omega
    simp -implicitDefEqProofs only [v71, VMs, noRef, noRef1, isRef, List.all_cons, List.all_nil, vop, VOp.still, VOp.app, VOp.plain, allP, lof, evs, start, asI, vbin, vcells, ntup, setAll, vfill, vress, vres, tup, Nat.reduceEqDiff, ↓reduceIte, Nat.reduceAdd, Nat.reduceMul, Nat.reduceLeDiff, reduceCtorEq, slen, h1, hne, decide_false]
theorem implSamePools_c (d lo : Nat) (H : Hp) {an nn ab nb av nv an' nn' ab' nb' av' nv'} {p q : Po} (hp : RP' H an nn ab nb av nv p) (hq : RP' H an' nn' ab' nb' av' nv' q) (hs : SP p) :
    vcall env (d + 4) 29 [.agg #[.slice an nn (sg an 3), .slice ab nb (sg ab 2), .slice av nv (sg av 3)], .agg #[.slice an' nn' (sg an' 3), .slice ab' nb' (sg ab' 2), .slice av' nv' (sg av' 3)]] lo H = some (.bool (decide (p = q)), H) := by
  rw [call_eq find29 _ _ _ rfl]
  have c1 := fun l => equalV_c (d + 2) H.length (H ++ l) av av' nv nv' p.v q.v hp.app.v hq.app.v (hp.v.1 ▸ hs.v)
  have c2 := fun l => equalB_c (d + 2) H.length (H ++ l) ab ab' nb nb' p.f.b q.f.b hp.app.f.b hq.app.f.b (hp.f.b.1 ▸ hs.f.b)
  have c3 := fun l => equalN_c d H.length (H ++ l) an an' nn nn' p.f.n q.f.n hp.app.f.n hq.app.f.n (hp.f.n.1 ▸ hs.f.n) hs.f.k
  obtain ⟨⟨n, b⟩, v⟩ := p
  obtain ⟨⟨n', b'⟩, v'⟩ := q
  simp only at c1 c2 c3
  by_cases h1 : v = v' <;> by_cases h2 : b = b' <;> by_cases h3 : n = n' <;> simp -implicitDefEqProofs only [h1, h2, h3, decide_true, decide_false] at c1 c2 c3 <;> simp -implicitDefEqProofs only [v29, VMs, noRef, noRef1, isRef, List.all_cons, List.all_nil, vop, VOp.still, VOp.app, VOp.plain, allP, lof, evs, start, asI, vbin, vcells, ntup, setAll, vfill, vress, vres, tup, Nat.reduceEqDiff, ↓reduceIte, Nat.reduceAdd, Nat.reduceMul, Nat.reduceLeDiff, reduceCtorEq, c1, c2, c3, h1, h2, h3, Po.mk.injEq, Fo.mk.injEq, decide_true, decide_false]
end Go.Proofs.Ytflddpkmajoeaaa.V
