/- What is wrong with a disk: the program's and the reference's answer. -/
import Derived.Test.YtaahjfjpbilfnaaVGP
namespace Go.Proofs.Ytaahjfjpbilfnaa.V
open Go
set_option linter.unusedVariables false
set_option linter.unusedSimpArgs false
set_option maxRecDepth 100000
theorem indexI_c (d lo : Nat) (H : Hp) (a : Option Addr) (n : Nat) (l : List Int) (h : Rep EI 1 H a n l) (hn : Sm n) (g : Nat) (cap : Array Value) (pred : Int → Bool) (hg : ∀ y ∈ l, ∀ lo, vcall env d g (.int .i64 y :: cap.toList) lo H = some (.bool (pred y), H)) :
    ∃ r : Int, vcall env (d + 1) 118 [.slice a n (sg a 1), .func (.func g) #[] cap] lo H = some (.int .i64 r, H) ∧ ((∃ (i : Nat) (x : Int), r = (i : Int) ∧ l[i]? = some x ∧ pred x = true ∧ ∀ (j : Nat) (y : Int), j < i → l[j]? = some y → pred y = false) ∨ (r = -1 ∧ ∀ y ∈ l, pred y = false)) := by
  have hloop : ∃ r, lim (rnd (vcall env d) H.length [0, 1, 7, 8] [4] l118_0) [(0, .slice a n (sg a 1)), (1, .func (.func g) #[] cap), (7, .int .i64 (n : Nat)), (8, .int .i64 0)] H = some r ∧
      ((∃ (i : Nat) (x : Int), r = (.ret, [(4, .int .i64 (i : Nat))], H) ∧ l[i]? = some x ∧ pred x = true ∧ ∀ (j : Nat) (y : Int), j < i → l[j]? = some y → pred y = false) ∨ (r = (.exit 0, [], H) ∧ ∀ y ∈ l, pred y = false)) := by
    refine lim_inv2 (fun i ts H1 => ts = [(0, .slice a n (sg a 1)), (1, .func (.func g) #[] cap), (7, .int .i64 (n : Nat)), (8, .int .i64 (i : Nat))] ∧ H1 = H ∧ ∀ (j : Nat) (y : Int), j < i → l[j]? = some y → pred y = false) n ?_ ?_ ?_
    · rintro i ts H1 hi ⟨rfl, rfl, hp⟩
      have hil : i < l.length := by rw [← h.1]; exact hi
      obtain ⟨p, o, rfl, e⟩ := h.at hil
      simp only [EI, Nat.mul_one] at e
      have hc := hg l[i] (List.getElem_mem hil) H1.length
      cases hpi : pred l[i] with
      | true =>
        rw [hpi] at hc
        exact Or.inr ⟨(.ret, [(4, .int .i64 (i : Nat))], H1), by simp -implicitDefEqProofs only [rnd, l118_0, VMs, noRef, noRef1, isRef, List.all_cons, List.all_nil, vop, VOp.still, VOp.app, VOp.plain, allP, lof, evs, start, asI, vbin, vcells, ntup, setAll, vfill, vress, vres, tup, Nat.reduceEqDiff, ↓reduceIte, Nat.reduceAdd, Nat.reduceMul, Nat.reduceLeDiff, reduceCtorEq, slen, ltc hi, ge0, decide_true, Int.toNat_natCast, Nat.mul_one, e, List.size_toArray, hc], by simp, Or.inl ⟨i, _, rfl, getE hil, hpi, hp⟩⟩
      | false =>
        rw [hpi] at hc
        refine Or.inl ⟨[(0, .slice (some ⟨p, o, none⟩) n 1), (1, .func (.func g) #[] cap), (7, .int .i64 (n : Nat)), (8, .int .i64 ((i + 1 : Nat) : Int))], H1, by simp -implicitDefEqProofs only [rnd, l118_0, VMs, noRef, noRef1, isRef, List.all_cons, List.all_nil, vop, VOp.still, VOp.app, VOp.plain, allP, lof, evs, start, asI, vbin, vcells, ntup, setAll, vfill, vress, vres, tup, Nat.reduceEqDiff, ↓reduceIte, Nat.reduceAdd, Nat.reduceMul, Nat.reduceLeDiff, reduceCtorEq, slen, ltc hi, ge0, decide_true, Int.toNat_natCast, Nat.mul_one, e, List.size_toArray, hc, hn.w hi], rfl, rfl, ?_⟩
        intro j y hj hy
        rcases Nat.lt_succ_iff_lt_or_eq.1 hj with h' | h'
        · exact hp j y h' hy
        · subst h'; rw [getE hil] at hy; cases hy; exact hpi
    · rintro ts H1 ⟨rfl, rfl, hp⟩
      refine ⟨(.exit 0, [], H1), by simp -implicitDefEqProofs only [rnd, l118_0, VMs, noRef, noRef1, isRef, List.all_cons, List.all_nil, vop, VOp.still, VOp.app, VOp.plain, allP, lof, evs, start, asI, vbin, vcells, ntup, setAll, vfill, vress, vres, tup, Nat.reduceEqDiff, ↓reduceIte, Nat.reduceAdd, Nat.reduceMul, Nat.reduceLeDiff, reduceCtorEq, slen, Int.lt_irrefl, decide_false], by simp, Or.inr ⟨rfl, fun y hy => ?_⟩⟩
      obtain ⟨j, hj, rfl⟩ := List.getElem_of_mem hy
      exact hp j _ (by rw [h.1]; exact hj) (getE hj)
    · exact ⟨rfl, rfl, fun j y hj => by omega⟩
  rw [call_eq find118 _ _ _ rfl]
  obtain ⟨r, hl, ⟨i, x, rfl, h1, h2, h3⟩ | ⟨rfl, h1⟩⟩ := hloop
  · exact ⟨i, by simp -implicitDefEqProofs only [v118, VMs, noRef, noRef1, isRef, List.all_cons, List.all_nil, vop, VOp.still, VOp.app, VOp.plain, allP, lof, evs, start, asI, vbin, vcells, ntup, setAll, vfill, vress, vres, tup, Nat.reduceEqDiff, ↓reduceIte, Nat.reduceAdd, Nat.reduceMul, Nat.reduceLeDiff, reduceCtorEq, slen, vlp, hl], Or.inl ⟨i, x, rfl, h1, h2, h3⟩⟩
  · exact ⟨-1, by simp -implicitDefEqProofs only [v118, VMs, noRef, noRef1, isRef, List.all_cons, List.all_nil, vop, VOp.still, VOp.app, VOp.plain, allP, lof, evs, start, asI, vbin, vcells, ntup, setAll, vfill, vress, vres, tup, Nat.reduceEqDiff, ↓reduceIte, Nat.reduceAdd, Nat.reduceMul, Nat.reduceLeDiff, reduceCtorEq, slen, vlp, hl], Or.inr ⟨rfl, h1⟩⟩
theorem containsI_c (d lo : Nat) (H : Hp) (a : Option Addr) (n : Nat) (l : List Int) (h : Rep EI 1 H a n l) (hn : Sm n) (g : Nat) (cap : Array Value) (pred : Int → Bool) (hg : ∀ y ∈ l, ∀ lo, vcall env d g (.int .i64 y :: cap.toList) lo H = some (.bool (pred y), H)) :
    vcall env (d + 2) 106 [.slice a n (sg a 1), .func (.func g) #[] cap] lo H = some (.bool (l.any pred), H) := by
  obtain ⟨r, hc, hr⟩ := indexI_c d H.length H a n l h hn g cap pred hg
  rw [call_eq find106 _ _ _ rfl]
  rcases hr with ⟨i, x, rfl, h1, h2, h3⟩ | ⟨rfl, h1⟩
  · have ha : l.any pred = true := List.any_eq_true.2 ⟨x, List.mem_of_getElem? h1, h2⟩
    simp -implicitDefEqProofs only [v106, VMs, noRef, noRef1, isRef, List.all_cons, List.all_nil, vop, VOp.still, VOp.app, VOp.plain, allP, lof, evs, start, asI, vbin, vcells, ntup, setAll, vfill, vress, vres, tup, Nat.reduceEqDiff, ↓reduceIte, Nat.reduceAdd, Nat.reduceMul, Nat.reduceLeDiff, reduceCtorEq, hc, ha, ge_iff_le, ge0, decide_true]
  · have ha : l.any pred = false := by rw [List.any_eq_false]; intro y hy; simp [h1 y hy]
    have hd : decide ((-1 : Int) ≥ 0) = false := rfl
    simp -implicitDefEqProofs only [v106, VMs, noRef, noRef1, isRef, List.all_cons, List.all_nil, vop, VOp.still, VOp.app, VOp.plain, allP, lof, evs, start, asI, vbin, vcells, ntup, setAll, vfill, vress, vres, tup, Nat.reduceEqDiff, ↓reduceIte, Nat.reduceAdd, Nat.reduceMul, Nat.reduceLeDiff, reduceCtorEq, hc, ha, hd]
theorem indexP_c (d lo : Nat) (H : Hp) (a : Option Addr) (n : Nat) (l : List Bk) (h : Rep EB 2 H a n l) (hn : Sm n) (g : Nat) (cap : Array Value) (pred : Bk → Bool) (hg : ∀ y ∈ l, ∀ lo, vcall env d g (BV y :: cap.toList) lo H = some (.bool (pred y), H)) :
    ∃ r : Int, vcall env (d + 1) 108 [.slice a n (sg a 2), .func (.func g) #[] cap] lo H = some (.int .i64 r, H) ∧ ((∃ (i : Nat) (x : Bk), r = (i : Int) ∧ l[i]? = some x ∧ pred x = true ∧ ∀ (j : Nat) (y : Bk), j < i → l[j]? = some y → pred y = false) ∨ (r = -1 ∧ ∀ y ∈ l, pred y = false)) := by
  have hloop : ∃ r, lim (rnd (vcall env d) H.length [0, 1, 7, 8] [4] l108_0) [(0, .slice a n (sg a 2)), (1, .func (.func g) #[] cap), (7, .int .i64 (n : Nat)), (8, .int .i64 0)] H = some r ∧
      ((∃ (i : Nat) (x : Bk), r = (.ret, [(4, .int .i64 (i : Nat))], H) ∧ l[i]? = some x ∧ pred x = true ∧ ∀ (j : Nat) (y : Bk), j < i → l[j]? = some y → pred y = false) ∨ (r = (.exit 0, [], H) ∧ ∀ y ∈ l, pred y = false)) := by
    refine lim_inv2 (fun i ts H1 => ts = [(0, .slice a n (sg a 2)), (1, .func (.func g) #[] cap), (7, .int .i64 (n : Nat)), (8, .int .i64 (i : Nat))] ∧ H1 = H ∧ ∀ (j : Nat) (y : Bk), j < i → l[j]? = some y → pred y = false) n ?_ ?_ ?_
    · rintro i ts H1 hi ⟨rfl, rfl, hp⟩
      have hil : i < l.length := by rw [← h.1]; exact hi
      obtain ⟨p, o, rfl, e⟩ := h.at hil
      have e' := e.val
      have hc := hg l[i] (List.getElem_mem hil) H1.length
      simp only [BV] at hc
      cases hpi : pred l[i] with
      | true =>
        rw [hpi] at hc
        exact Or.inr ⟨(.ret, [(4, .int .i64 (i : Nat))], H1), by simp -implicitDefEqProofs only [rnd, l108_0, VMs, noRef, noRef1, isRef, List.all_cons, List.all_nil, vop, VOp.still, VOp.app, VOp.plain, allP, lof, evs, start, asI, vbin, vcells, ntup, setAll, vfill, vress, vres, tup, Nat.reduceEqDiff, ↓reduceIte, Nat.reduceAdd, Nat.reduceMul, Nat.reduceLeDiff, reduceCtorEq, slen, ltc hi, ge0, decide_true, Int.toNat_natCast, e', List.size_toArray, hc], by simp, Or.inl ⟨i, _, rfl, getE hil, hpi, hp⟩⟩
      | false =>
        rw [hpi] at hc
        refine Or.inl ⟨[(0, .slice (some ⟨p, o, none⟩) n 2), (1, .func (.func g) #[] cap), (7, .int .i64 (n : Nat)), (8, .int .i64 ((i + 1 : Nat) : Int))], H1, by simp -implicitDefEqProofs only [rnd, l108_0, VMs, noRef, noRef1, isRef, List.all_cons, List.all_nil, vop, VOp.still, VOp.app, VOp.plain, allP, lof, evs, start, asI, vbin, vcells, ntup, setAll, vfill, vress, vres, tup, Nat.reduceEqDiff, ↓reduceIte, Nat.reduceAdd, Nat.reduceMul, Nat.reduceLeDiff, reduceCtorEq, slen, ltc hi, ge0, decide_true, Int.toNat_natCast, e', List.size_toArray, hc, hn.w hi], rfl, rfl, ?_⟩
        intro j y hj hy
        rcases Nat.lt_succ_iff_lt_or_eq.1 hj with h' | h'
        · exact hp j y h' hy
        · subst h'; rw [getE hil] at hy; cases hy; exact hpi
    · rintro ts H1 ⟨rfl, rfl, hp⟩
      refine ⟨(.exit 0, [], H1), by simp -implicitDefEqProofs only [rnd, l108_0, VMs, noRef, noRef1, isRef, List.all_cons, List.all_nil, vop, VOp.still, VOp.app, VOp.plain, allP, lof, evs, start, asI, vbin, vcells, ntup, setAll, vfill, vress, vres, tup, Nat.reduceEqDiff, ↓reduceIte, Nat.reduceAdd, Nat.reduceMul, Nat.reduceLeDiff, reduceCtorEq, slen, Int.lt_irrefl, decide_false], by simp, Or.inr ⟨rfl, fun y hy => ?_⟩⟩
      obtain ⟨j, hj, rfl⟩ := List.getElem_of_mem hy
      exact hp j _ (by rw [h.1]; exact hj) (getE hj)
    · exact ⟨rfl, rfl, fun j y hj => by omega⟩
  rw [call_eq find108 _ _ _ rfl]
  obtain ⟨r, hl, ⟨i, x, rfl, h1, h2, h3⟩ | ⟨rfl, h1⟩⟩ := hloop
  · exact ⟨i, by simp -implicitDefEqProofs only [v108, VMs, noRef, noRef1, isRef, List.all_cons, List.all_nil, vop, VOp.still, VOp.app, VOp.plain, allP, lof, evs, start, asI, vbin, vcells, ntup, setAll, vfill, vress, vres, tup, Nat.reduceEqDiff, ↓reduceIte, Nat.reduceAdd, Nat.reduceMul, Nat.reduceLeDiff, reduceCtorEq, slen, vlp, hl], Or.inl ⟨i, x, rfl, h1, h2, h3⟩⟩
  · exact ⟨-1, by simp -implicitDefEqProofs only [v108, VMs, noRef, noRef1, isRef, List.all_cons, List.all_nil, vop, VOp.still, VOp.app, VOp.plain, allP, lof, evs, start, asI, vbin, vcells, ntup, setAll, vfill, vress, vres, tup, Nat.reduceEqDiff, ↓reduceIte, Nat.reduceAdd, Nat.reduceMul, Nat.reduceLeDiff, reduceCtorEq, slen, vlp, hl], Or.inr ⟨rfl, h1⟩⟩
theorem containsP_c (d lo : Nat) (H : Hp) (a : Option Addr) (n : Nat) (l : List Bk) (h : Rep EB 2 H a n l) (hn : Sm n) (g : Nat) (cap : Array Value) (pred : Bk → Bool) (hg : ∀ y ∈ l, ∀ lo, vcall env d g (BV y :: cap.toList) lo H = some (.bool (pred y), H)) :
    vcall env (d + 2) 71 [.slice a n (sg a 2), .func (.func g) #[] cap] lo H = some (.bool (l.any pred), H) := by
  obtain ⟨r, hc, hr⟩ := indexP_c d H.length H a n l h hn g cap pred hg
  rw [call_eq find71 _ _ _ rfl]
  rcases hr with ⟨i, x, rfl, h1, h2, h3⟩ | ⟨rfl, h1⟩
  · have ha : l.any pred = true := List.any_eq_true.2 ⟨x, List.mem_of_getElem? h1, h2⟩
    simp -implicitDefEqProofs only [v71, VMs, noRef, noRef1, isRef, List.all_cons, List.all_nil, vop, VOp.still, VOp.app, VOp.plain, allP, lof, evs, start, asI, vbin, vcells, ntup, setAll, vfill, vress, vres, tup, Nat.reduceEqDiff, ↓reduceIte, Nat.reduceAdd, Nat.reduceMul, Nat.reduceLeDiff, reduceCtorEq, hc, ha, ge_iff_le, ge0, decide_true]
  · have ha : l.any pred = false := by rw [List.any_eq_false]; intro y hy; simp [h1 y hy]
    have hd : decide ((-1 : Int) ≥ 0) = false := rfl
    simp -implicitDefEqProofs only [v71, VMs, noRef, noRef1, isRef, List.all_cons, List.all_nil, vop, VOp.still, VOp.app, VOp.plain, allP, lof, evs, start, asI, vbin, vcells, ntup, setAll, vfill, vress, vres, tup, Nat.reduceEqDiff, ↓reduceIte, Nat.reduceAdd, Nat.reduceMul, Nat.reduceLeDiff, reduceCtorEq, hc, ha, hd]
theorem equalI_c (d lo : Nat) (H : Hp) (a b : Option Addr) (n m : Nat) (la lb : List Int) (ha : Rep EI 1 H a n la) (hb : Rep EI 1 H b m lb) (hn : Sm n) :
    vcall env (d + 1) 117 [.slice a n (sg a 1), .slice b m (sg b 1)] lo H = some (.bool (decide (la = lb)), H) := by
  rw [call_eq find117 _ _ _ rfl]
  by_cases hnm : n = m
  · subst hnm
    have hl := lim_all (f := rnd (vcall env d) H.length [0, 1, 12, 13] [4] l117_0) (R := (.exit 0, [], H)) (E := (.ret, [(4, .bool false)], H)) (by simp) (by simp) (fun i => [(0, .slice a n (sg a 1)), (1, .slice b n (sg b 1)), (12, .int .i64 (n : Nat)), (13, .int .i64 (i : Nat))]) H n (fun i => la[i]? = lb[i]?)
      (by simp -implicitDefEqProofs only [rnd, l117_0, VMs, noRef, noRef1, isRef, List.all_cons, List.all_nil, vop, VOp.still, VOp.app, VOp.plain, allP, lof, evs, start, asI, vbin, vcells, ntup, setAll, vfill, vress, vres, tup, Nat.reduceEqDiff, ↓reduceIte, Nat.reduceAdd, Nat.reduceMul, Nat.reduceLeDiff, reduceCtorEq, slen, Int.lt_irrefl, decide_false])
      (fun i hi => by
        have hla : i < la.length := by rw [← ha.1]; exact hi
        have hlb : i < lb.length := by rw [← hb.1]; exact hi
        obtain ⟨i1, o1, rfl, e1⟩ := ha.at hla
        obtain ⟨i2, o2, rfl, e2⟩ := hb.at hlb
        have v1 := e1
        have v2 := e2
        simp only [EI, Nat.mul_one] at v1 v2
        by_cases h : la[i] = lb[i]
        · have hv : (la[i] != lb[i]) = false := by rw [h]; exact bne_self_eq_false _
          simp -implicitDefEqProofs only [rnd, l117_0, VMs, noRef, noRef1, isRef, List.all_cons, List.all_nil, vop, VOp.still, VOp.app, VOp.plain, allP, lof, evs, start, asI, vbin, vcells, ntup, setAll, vfill, vress, vres, tup, Nat.reduceEqDiff, ↓reduceIte, Nat.reduceAdd, Nat.reduceMul, Nat.reduceLeDiff, reduceCtorEq, slen, ltc hi, ge0, decide_true, vdr, Int.toNat_natCast, Nat.mul_one, v1, v2, List.size_toArray, hv, bne_self_eq_false, h, hn.w hi, getE hla, getE hlb]
        · have hv : (la[i] != lb[i]) = true := bne_iff_ne.2 h
          simp -implicitDefEqProofs only [rnd, l117_0, VMs, noRef, noRef1, isRef, List.all_cons, List.all_nil, vop, VOp.still, VOp.app, VOp.plain, allP, lof, evs, start, asI, vbin, vcells, ntup, setAll, vfill, vress, vres, tup, Nat.reduceEqDiff, ↓reduceIte, Nat.reduceAdd, Nat.reduceMul, Nat.reduceLeDiff, reduceCtorEq, slen, ltc hi, ge0, decide_true, vdr, Int.toNat_natCast, Nat.mul_one, v1, v2, List.size_toArray, hv, h, decide_false, getE hla, getE hlb, Option.some.injEq])
      (all_eq ha.1 hb.1)
    simp only [Int.natCast_zero] at hl
    simp -implicitDefEqProofs only [v117, VMs, noRef, noRef1, isRef, List.all_cons, List.all_nil, vop, VOp.still, VOp.app, VOp.plain, allP, lof, evs, start, asI, vbin, vcells, ntup, setAll, vfill, vress, vres, tup, Nat.reduceEqDiff, ↓reduceIte, Nat.reduceAdd, Nat.reduceMul, Nat.reduceLeDiff, reduceCtorEq, slen, bne_self_eq_false, vlp, hl]
    by_cases h : la = lb <;> simp -implicitDefEqProofs only [h, decide_true, decide_false, VMs, noRef, noRef1, isRef, List.all_cons, List.all_nil, vop, VOp.still, VOp.app, VOp.plain, allP, lof, evs, start, asI, vbin, vcells, ntup, setAll, vfill, vress, vres, tup, Nat.reduceEqDiff, ↓reduceIte, Nat.reduceAdd, Nat.reduceMul, Nat.reduceLeDiff, reduceCtorEq]
  · have hne : la ≠ lb := by intro e; subst e; exact hnm (ha.1.trans hb.1.symm)
    have h1 : ((n : Int) != (m : Int)) = true := by simp; omega
    simp -implicitDefEqProofs only [v117, VMs, noRef, noRef1, isRef, List.all_cons, List.all_nil, vop, VOp.still, VOp.app, VOp.plain, allP, lof, evs, start, asI, vbin, vcells, ntup, setAll, vfill, vress, vres, tup, Nat.reduceEqDiff, ↓reduceIte, Nat.reduceAdd, Nat.reduceMul, Nat.reduceLeDiff, reduceCtorEq, slen, h1, hne, decide_false]
theorem isWord_c (d lo : Nat) (H : Hp) (v : Int) : vcall env (d + 2) 74 [.int .i64 v] lo H = some (.bool (wOK v), H) := by
  rw [call_eq find74 _ _ _ rfl]
  simp -implicitDefEqProofs only [v74, VMs, noRef, noRef1, isRef, List.all_cons, List.all_nil, vop, VOp.still, VOp.app, VOp.plain, allP, lof, evs, start, asI, vbin, vcells, ntup, setAll, vfill, vress, vres, tup, Nat.reduceEqDiff, ↓reduceIte, Nat.reduceAdd, Nat.reduceMul, Nat.reduceLeDiff, reduceCtorEq, within_c, wOK]
theorem isPlace_c (d lo : Nat) (H : Hp) (v : Int) : vcall env (d + 2) 73 [.int .i64 v] lo H = some (.bool (decide (0 ≤ v ∧ v ≤ 63)), H) := by
  rw [call_eq find73 _ _ _ rfl]
  simp -implicitDefEqProofs only [v73, VMs, noRef, noRef1, isRef, List.all_cons, List.all_nil, vop, VOp.still, VOp.app, VOp.plain, allP, lof, evs, start, asI, vbin, vcells, ntup, setAll, vfill, vress, vres, tup, Nat.reduceEqDiff, ↓reduceIte, Nat.reduceAdd, Nat.reduceMul, Nat.reduceLeDiff, reduceCtorEq, within_c]
theorem l1Word_c (d lo : Nat) (H : Hp) (v : Int) : vcall env (d + 2) 90 [.int .i64 v] lo H = some (.bool (wOK v), H) := by
  rw [call_eq find90 _ _ _ rfl]
  simp -implicitDefEqProofs only [v90, VMs, noRef, noRef1, isRef, List.all_cons, List.all_nil, vop, VOp.still, VOp.app, VOp.plain, allP, lof, evs, start, asI, vbin, vcells, ntup, setAll, vfill, vress, vres, tup, Nat.reduceEqDiff, ↓reduceIte, Nat.reduceAdd, Nat.reduceMul, Nat.reduceLeDiff, reduceCtorEq, l1In_c, wOK]
theorem l1Place_c (d lo : Nat) (H : Hp) (v : Int) : vcall env (d + 2) 76 [.int .i64 v] lo H = some (.bool (decide (0 ≤ v ∧ v ≤ 63)), H) := by
  rw [call_eq find76 _ _ _ rfl]
  simp -implicitDefEqProofs only [v76, VMs, noRef, noRef1, isRef, List.all_cons, List.all_nil, vop, VOp.still, VOp.app, VOp.plain, allP, lof, evs, start, asI, vbin, vcells, ntup, setAll, vfill, vress, vres, tup, Nat.reduceEqDiff, ↓reduceIte, Nat.reduceAdd, Nat.reduceMul, Nat.reduceLeDiff, reduceCtorEq, l1In_c]
theorem areWords1_c (d lo : Nat) (H : Hp) (v : Int) : vcall env (d + 3) 107 [.int .i64 v] lo H = some (.bool (!wOK v), H) := by
  rw [call_eq find107 _ _ _ rfl]
  simp -implicitDefEqProofs only [v107, VMs, noRef, noRef1, isRef, List.all_cons, List.all_nil, vop, VOp.still, VOp.app, VOp.plain, allP, lof, evs, start, asI, vbin, vcells, ntup, setAll, vfill, vress, vres, tup, Nat.reduceEqDiff, ↓reduceIte, Nat.reduceAdd, Nat.reduceMul, Nat.reduceLeDiff, reduceCtorEq, isWord_c]
theorem any_not {α : Type} (l : List α) (p : α → Bool) : (l.any fun x => !p x) = !l.all p := by
  induction l with
  | nil => rfl
  | cons x r ih => simp only [List.any_cons, List.all_cons, ih, Bool.not_and]
theorem areWords_c (d lo : Nat) (H : Hp) (a : Option Addr) (n : Nat) (l : List Int) (h : Rep EI 1 H a n l) (hn : Sm n) : vcall env (d + 6) 70 [.slice a n (sg a 1)] lo H = some (.bool (l.all wOK), H) := by
  have hc := containsI_c (d + 3) H.length H a n l h hn 107 #[] (fun k => !wOK k) (fun y _ lo => areWords1_c d lo H y)
  rw [any_not] at hc
  rw [call_eq find70 _ _ _ rfl]
  cases ha : l.all wOK <;> rw [ha] at hc <;> simp -implicitDefEqProofs only [v70, VMs, noRef, noRef1, isRef, List.all_cons, List.all_nil, vop, VOp.still, VOp.app, VOp.plain, allP, lof, evs, start, asI, vbin, vcells, ntup, setAll, vfill, vress, vres, tup, Nat.reduceEqDiff, ↓reduceIte, Nat.reduceAdd, Nat.reduceMul, Nat.reduceLeDiff, reduceCtorEq, hc]
theorem diskFault1_c (d lo : Nat) (H : Hp) (x : Bk) : vcall env (d + 3) 72 [BV x] lo H = some (.bool (!pOK x), H) := by
  rw [call_eq find72 _ _ _ rfl]
  unfold pOK
  by_cases h1 : 0 ≤ x.r ∧ x.r ≤ 63
  · cases h2 : wOK x.d <;> simp -implicitDefEqProofs only [BV, v72, VMs, noRef, noRef1, isRef, List.all_cons, List.all_nil, vop, VOp.still, VOp.app, VOp.plain, allP, lof, evs, start, asI, vbin, vcells, ntup, setAll, vfill, vress, vres, tup, Nat.reduceEqDiff, ↓reduceIte, Nat.reduceAdd, Nat.reduceMul, Nat.reduceLeDiff, reduceCtorEq, isPlace_c, isWord_c, h1, h2, decide_true]
  · simp -implicitDefEqProofs only [BV, v72, VMs, noRef, noRef1, isRef, List.all_cons, List.all_nil, vop, VOp.still, VOp.app, VOp.plain, allP, lof, evs, start, asI, vbin, vcells, ntup, setAll, vfill, vress, vres, tup, Nat.reduceEqDiff, ↓reduceIte, Nat.reduceAdd, Nat.reduceMul, Nat.reduceLeDiff, reduceCtorEq, isPlace_c, isWord_c, h1, decide_false]
theorem implDiskFault_c (d lo : Nat) (H : Hp) {aw nw ap np D} (h : RD H aw nw ap np D) (hs : SD D) : vcall env (d + 7) 19 [.agg #[.slice aw nw (sg aw 1), .slice ap np (sg ap 2)]] lo H = some (.int .i64 (dF D), H) := by
  have n1 := h.w.1
  have n2 := h.p.1
  rw [call_eq find19 _ _ _ rfl]
  unfold dF
  by_cases h1 : D.w.length = 64
  · have e1 : ((nw : Int) != 64) = false := by simp; omega
    by_cases h2 : 200 < D.p.length
    · have e2 : ((np : Int) > 200) = True := eq_true (by omega)
      simp -implicitDefEqProofs only [v19, VMs, noRef, noRef1, isRef, List.all_cons, List.all_nil, vop, VOp.still, VOp.app, VOp.plain, allP, lof, evs, start, asI, vbin, vcells, ntup, setAll, vfill, vress, vres, tup, Nat.reduceEqDiff, ↓reduceIte, Nat.reduceAdd, Nat.reduceMul, Nat.reduceLeDiff, reduceCtorEq, slen, e1, e2, h1, h2, decide_true]
    · have e2 : ((np : Int) > 200) = False := eq_false (by omega)
      have c1 := fun l => areWords_c d H.length (H ++ l) aw nw D.w (h.w.app fun _ _ _ => EI.app) (n1 ▸ hs.w)
      have c2 := fun l => containsP_c (d + 4) H.length (H ++ l) ap np D.p (h.p.app fun _ _ _ => EB.app) (n2 ▸ hs.p) 72 #[] (fun k => !pOK k) (fun y _ lo => diskFault1_c (d + 1) lo (H ++ l) y)
      simp only [any_not] at c2
      cases h3 : D.w.all wOK <;> rw [h3] at c1
      · simp -implicitDefEqProofs only [v19, VMs, noRef, noRef1, isRef, List.all_cons, List.all_nil, vop, VOp.still, VOp.app, VOp.plain, allP, lof, evs, start, asI, vbin, vcells, ntup, setAll, vfill, vress, vres, tup, Nat.reduceEqDiff, ↓reduceIte, Nat.reduceAdd, Nat.reduceMul, Nat.reduceLeDiff, reduceCtorEq, slen, e1, e2, h1, h2, decide_false, c1]
      · cases h4 : D.p.all pOK <;> rw [h4] at c2 <;> simp -implicitDefEqProofs only [v19, VMs, noRef, noRef1, isRef, List.all_cons, List.all_nil, vop, VOp.still, VOp.app, VOp.plain, allP, lof, evs, start, asI, vbin, vcells, ntup, setAll, vfill, vress, vres, tup, Nat.reduceEqDiff, ↓reduceIte, Nat.reduceAdd, Nat.reduceMul, Nat.reduceLeDiff, reduceCtorEq, slen, e1, e2, h1, h2, decide_false, c1, c2]
  · have e1 : ((nw : Int) != 64) = true := by simp; omega
    simp -implicitDefEqProofs only [v19, VMs, noRef, noRef1, isRef, List.all_cons, List.all_nil, vop, VOp.still, VOp.app, VOp.plain, allP, lof, evs, start, asI, vbin, vcells, ntup, setAll, vfill, vress, vres, tup, Nat.reduceEqDiff, ↓reduceIte, Nat.reduceAdd, Nat.reduceMul, Nat.reduceLeDiff, reduceCtorEq, slen, e1, h1]
theorem l1Fault_c (d lo : Nat) (H : Hp) {q aw nw ap np D} (h : PD H q aw nw ap np D) (hs : SD D) : vcall env (d + 3) 68 [.pointer (some ⟨q, 0, none⟩)] lo H = some (.int .i64 (dF D), H) := by
  have n1 := h.d.w.1
  have n2 := h.d.p.1
  have g1 := h.a
  have g2 := h.b
  have hwn := n1 ▸ hs.w
  have hpn := n2 ▸ hs.p
  rw [call_eq find68 _ _ _ rfl]
  unfold dF
  by_cases h1 : D.w.length = 64
  · have e1 : ((nw : Int) != 64) = false := by simp; omega
    by_cases h2 : 200 < D.p.length
    · have e2 : ((np : Int) > 200) = True := eq_true (by omega)
      simp -implicitDefEqProofs only [v68, VMs, noRef, noRef1, isRef, List.all_cons, List.all_nil, vop, VOp.still, VOp.app, VOp.plain, allP, lof, evs, start, asI, vbin, vcells, ntup, setAll, vfill, vress, vres, tup, Nat.reduceEqDiff, ↓reduceIte, Nat.reduceAdd, Nat.reduceMul, Nat.reduceLeDiff, reduceCtorEq, g1, g2, slen, e1, e2, h1, h2, decide_true]
    · have e2 : ((np : Int) > 200) = False := eq_false (by omega)
      have k1 := lim_all (f := rnd (vcall env (d + 2)) H.length [0, 3] [0, 2] l68_0) (R := (.exit 0, [(0, .pointer (some ⟨q, 0, none⟩))], H)) (E := (.ret, [(0, .pointer (some ⟨q, 0, none⟩)), (2, .int .i64 3)], H)) (by simp) (by simp) (fun i => [(0, .pointer (some ⟨q, 0, none⟩)), (3, .int .i64 (i : Nat))]) H nw (fun i => ∀ x, D.w[i]? = some x → wOK x = true)
        (by simp -implicitDefEqProofs only [rnd, l68_0, VMs, noRef, noRef1, isRef, List.all_cons, List.all_nil, vop, VOp.still, VOp.app, VOp.plain, allP, lof, evs, start, asI, vbin, vcells, ntup, setAll, vfill, vress, vres, tup, Nat.reduceEqDiff, ↓reduceIte, Nat.reduceAdd, Nat.reduceMul, Nat.reduceLeDiff, reduceCtorEq, g1, slen, Int.lt_irrefl, decide_false])
        (fun i hi => by
          have hil : i < D.w.length := by omega
          obtain ⟨i1, o1, rfl, ex⟩ := h.d.w.at hil
          simp only [EI, Nat.mul_one] at ex
          simp -implicitDefEqProofs only [rnd, l68_0, VMs, noRef, noRef1, isRef, List.all_cons, List.all_nil, vop, VOp.still, VOp.app, VOp.plain, allP, lof, evs, start, asI, vbin, vcells, ntup, setAll, vfill, vress, vres, tup, Nat.reduceEqDiff, ↓reduceIte, Nat.reduceAdd, Nat.reduceMul, Nat.reduceLeDiff, reduceCtorEq, g1, slen, ltc hi, ge0, decide_true, Int.toNat_natCast, Nat.mul_one, ex, l1Word_c, hwn.w hi, getE hil, Option.some.injEq, forall_eq']
          cases hw : wOK D.w[i] <;> simp [hw])
        (q := D.w.all wOK = true) (by
          rw [List.all_eq_true]
          exact ⟨fun hh x hx => by
            obtain ⟨j, hj, rfl⟩ := List.getElem_of_mem hx
            exact hh j (by omega) _ (getE hj), fun hh i _ x hx => hh x (List.mem_of_getElem? hx)⟩)
      have k2 := lim_all (f := rnd (vcall env (d + 2)) H.length [0, 4] [2] l68_1) (R := (.exit 2, [], H)) (E := (.ret, [(2, .int .i64 3)], H)) (by simp) (by simp) (fun i => [(0, .pointer (some ⟨q, 0, none⟩)), (4, .int .i64 (i : Nat))]) H np (fun i => ∀ x, D.p[i]? = some x → pOK x = true)
        (by simp -implicitDefEqProofs only [rnd, l68_1, VMs, noRef, noRef1, isRef, List.all_cons, List.all_nil, vop, VOp.still, VOp.app, VOp.plain, allP, lof, evs, start, asI, vbin, vcells, ntup, setAll, vfill, vress, vres, tup, Nat.reduceEqDiff, ↓reduceIte, Nat.reduceAdd, Nat.reduceMul, Nat.reduceLeDiff, reduceCtorEq, g2, slen, Int.lt_irrefl, decide_false])
        (fun i hi => by
          have hil : i < D.p.length := by omega
          obtain ⟨i1, o1, rfl, ex⟩ := h.d.p.at hil
          have x1 := ex.1
          have x2 := ex.2
          unfold pOK
          simp only [getE hil, Option.some.injEq, forall_eq']
          by_cases hp : 0 ≤ D.p[i].r ∧ D.p[i].r ≤ 63
          · cases hw : wOK D.p[i].d <;> simp -implicitDefEqProofs only [rnd, l68_1, VMs, noRef, noRef1, isRef, List.all_cons, List.all_nil, vop, VOp.still, VOp.app, VOp.plain, allP, lof, evs, start, asI, vbin, vcells, ntup, setAll, vfill, vress, vres, tup, Nat.reduceEqDiff, ↓reduceIte, Nat.reduceAdd, Nat.reduceMul, Nat.reduceLeDiff, reduceCtorEq, g2, slen, ltc hi, ge0, decide_true, Int.toNat_natCast, x1, x2, l1Place_c, l1Word_c, hpn.w hi, hp, hw]
          · simp -implicitDefEqProofs only [rnd, l68_1, VMs, noRef, noRef1, isRef, List.all_cons, List.all_nil, vop, VOp.still, VOp.app, VOp.plain, allP, lof, evs, start, asI, vbin, vcells, ntup, setAll, vfill, vress, vres, tup, Nat.reduceEqDiff, ↓reduceIte, Nat.reduceAdd, Nat.reduceMul, Nat.reduceLeDiff, reduceCtorEq, g2, slen, ltc hi, ge0, decide_true, decide_false, Int.toNat_natCast, x1, x2, l1Place_c, l1Word_c, hpn.w hi, hp])
        (q := D.p.all pOK = true) (by
          rw [List.all_eq_true]
          exact ⟨fun hh x hx => by
            obtain ⟨j, hj, rfl⟩ := List.getElem_of_mem hx
            exact hh j (by omega) _ (getE hj), fun hh i _ x hx => hh x (List.mem_of_getElem? hx)⟩)
      simp only [Int.natCast_zero] at k1 k2
      by_cases h3 : D.w.all wOK = true
      · rw [if_pos h3] at k1
        by_cases h4 : D.p.all pOK = true
        · rw [if_pos h4] at k2
          simp -implicitDefEqProofs only [v68, VMs, noRef, noRef1, isRef, List.all_cons, List.all_nil, vop, VOp.still, VOp.app, VOp.plain, allP, lof, evs, start, asI, vbin, vcells, ntup, setAll, vfill, vress, vres, tup, Nat.reduceEqDiff, ↓reduceIte, Nat.reduceAdd, Nat.reduceMul, Nat.reduceLeDiff, reduceCtorEq, g1, g2, slen, e1, e2, h1, h2, decide_false, vlp, k1, k2, h3, h4]
        · rw [if_neg h4] at k2
          simp -implicitDefEqProofs only [v68, VMs, noRef, noRef1, isRef, List.all_cons, List.all_nil, vop, VOp.still, VOp.app, VOp.plain, allP, lof, evs, start, asI, vbin, vcells, ntup, setAll, vfill, vress, vres, tup, Nat.reduceEqDiff, ↓reduceIte, Nat.reduceAdd, Nat.reduceMul, Nat.reduceLeDiff, reduceCtorEq, g1, g2, slen, e1, e2, h1, h2, decide_false, vlp, k1, k2, h3, h4]
      · rw [if_neg h3] at k1
        simp -implicitDefEqProofs only [v68, VMs, noRef, noRef1, isRef, List.all_cons, List.all_nil, vop, VOp.still, VOp.app, VOp.plain, allP, lof, evs, start, asI, vbin, vcells, ntup, setAll, vfill, vress, vres, tup, Nat.reduceEqDiff, ↓reduceIte, Nat.reduceAdd, Nat.reduceMul, Nat.reduceLeDiff, reduceCtorEq, g1, g2, slen, e1, e2, h1, h2, decide_false, vlp, k1, h3]
  · have e1 : ((nw : Int) != 64) = true := by simp; omega
    simp -implicitDefEqProofs only [v68, VMs, noRef, noRef1, isRef, List.all_cons, List.all_nil, vop, VOp.still, VOp.app, VOp.plain, allP, lof, evs, start, asI, vbin, vcells, ntup, setAll, vfill, vress, vres, tup, Nat.reduceEqDiff, ↓reduceIte, Nat.reduceAdd, Nat.reduceMul, Nat.reduceLeDiff, reduceCtorEq, g1, slen, e1, h1]
end Go.Proofs.Ytaahjfjpbilfnaa.V
