/- FnBlocks: the law. -/
import Derived.Test.YtmcljallamhccaaVTD
namespace Go.Proofs.Ytmcljallamhccaa.V
open Go
set_option linter.unusedVariables false
set_option linter.unusedSimpArgs false
set_option maxRecDepth 100000
theorem lwBig_c (d lo : Nat) (H : Hp) (a : Option Addr) (n s : Nat) : vcall env (d + 1) 38 [.slice a n s] lo H = some (.bool (decide (1048576 < n)), H) := by
  have e : decide ((n : Int) > 1048576) = decide (1048576 < n) := by
    by_cases h : 1048576 < n
    · rw [decide_eq_true h]; exact decide_eq_true (by omega)
    · rw [decide_eq_false h]; exact decide_eq_false (by omega)
  rw [call_eq find38 _ _ _ rfl]
  simp -implicitDefEqProofs only [v38, VMs, noRef, noRef1, isRef, List.all_cons, List.all_nil, vop, VOp.still, VOp.app, VOp.plain, allP, lof, evs, start, asI, vbin, vcells, ntup, setAll, vfill, vress, vres, tup, Nat.reduceEqDiff, ↓reduceIte, Nat.reduceAdd, Nat.reduceMul, Nat.reduceLeDiff, reduceCtorEq, slen, e]
theorem fB_set {l : List Bk} (h : fB l = 0) (j : Nat) (y : Bk) (hy : (0 ≤ y.r ∧ y.r ≤ 200) ∧ (0 ≤ y.d ∧ y.d ≤ 255) ∧ (y.r = 0 → y.d = 0)) : fB (l.set j y) = 0 := by
  obtain ⟨h1, h2⟩ := fB_ok.1 h
  refine fB_ok.2 ⟨by simpa using h1, fun b hb => ?_⟩
  rcases List.mem_or_eq_of_mem_set hb with e | e
  · exact h2 b e
  · rw [e]; exact hy
theorem freeN_set : ∀ (l : List Bk) (j : Nat) (hj : j < l.length) (y : Bk), freeN (l.set j y) + (if l[j].r = 0 then 1 else 0) = freeN l + (if y.r = 0 then 1 else 0)
  | x :: r, 0, _, y => by
    simp only [freeN, List.set_cons_zero, List.countP_cons, List.getElem_cons_zero, beq_iff_eq]; omega
  | x :: r, j + 1, hj, y => by
    have := freeN_set r j (by simpa using hj) y
    simp only [freeN, List.set_cons_succ, List.countP_cons, List.getElem_cons_succ] at this ⊢; omega
theorem ieqsB (x y : Bk) : ieqs [.int .i64 x.r, .int .i64 x.d] [.int .i64 y.r, .int .i64 y.d] = some (decide (x = y)) := by
  obtain ⟨a, b⟩ := x
  obtain ⟨a', b'⟩ := y
  by_cases h1 : a = a' <;> by_cases h2 : b = b' <;> simp [ieqs, h1, h2]
theorem Fr.cell {H H' : Hp} {cs : List Value} (hf : Fn (H ++ [some ⟨cs, true, false⟩]) H') (k : Nat) : V.rd H' ⟨H.length, k, none⟩ = cs[k]? := by
  rw [hf.rd H.length k (by simp) id]; simp [rd0]
set_option maxHeartbeats 4000000 in
/-- The law. -/
theorem law_c (d lo : Nat) (H : Hp) {ac : Option Addr} {code : List Int} (hc : Rep EY 1 H ac code.length code) (hy : ∀ x ∈ code, 0 ≤ x ∧ x ≤ 255) : vcall env (d + 6) 8 [.slice ac code.length (sg ac 1)] lo H = some (.bool true, H) := by
  rw [call_eq find8 _ _ _ rfl]
  by_cases hbig : 1048576 < code.length
  · simp -implicitDefEqProofs only [v8, VMs, noRef, noRef1, isRef, List.all_cons, List.all_nil, vop, VOp.still, VOp.app, VOp.plain, allP, lof, evs, start, asI, vbin, vcells, ntup, setAll, vfill, vress, vres, tup, Nat.reduceEqDiff, ↓reduceIte, Nat.reduceAdd, Nat.reduceMul, Nat.reduceLeDiff, reduceCtorEq, lwBig_c, hbig, decide_true]
  have hn : code.length ≤ 1048576 := by omega
  obtain ⟨a0, L0, w, H1, c1, f1, r0, x0, n0⟩ := drawTake_c (d + 1) H.length H hc hy hn
  have hs0 : Sm L0.length := by unfold Sm; omega
  obtain ⟨v, H2, c2, a1, rfl, f2, d1⟩ := implTakeBlock_c (d + 1) H.length H1 r0 x0 w hs0
  have hlH1 := f1.len
  have hlH2 := f2.len
  have hle2 : (H.length ≤ H2.length) = True := eq_true (by omega)
  by_cases hne : (resTake L0 w).1 ≠ 0
  · have c3 := fun lo => specTakeBlock_c (d + 1) lo _ ((r0.fnB f2).fnB (Fr.app (l := [some ⟨[.int .i64 (resTake L0 w).1, .int .i64 (resTake L0 w).2.1, .slice a1 (resTake L0 w).2.2.length (sg a1 2)], true, false⟩]))) ((x0.fn f2).fn Fr.app) w hs0 hne
    have hb : ((resTake L0 w).1 != 0) = true := bne_iff_ne.2 hne
    generalize resTake L0 w = R at *
    simp -implicitDefEqProofs only [v8, VMs, noRef, noRef1, isRef, List.all_cons, List.all_nil, vop, VOp.still, VOp.app, VOp.plain, allP, lof, evs, start, asI, vbin, vcells, ntup, setAll, vfill, vress, vres, tup, Nat.reduceEqDiff, ↓reduceIte, Nat.reduceAdd, Nat.reduceMul, Nat.reduceLeDiff, reduceCtorEq, lwBig_c, hbig, decide_false, List.getElem?_toArray, c1, c2, hle2, hb, vdr, c3, beq_self_eq_true]
  replace hne : (resTake L0 w).1 = 0 := Classical.byContradiction hne
  obtain ⟨h0, hw, hj, hres⟩ : fB L0 = 0 ∧ (0 ≤ w ∧ w ≤ 255) ∧ slotB L0 < L0.length ∧ resTake L0 w = (0, ((slotB L0 : Nat) : Int), L0.set (slotB L0) ⟨1, w⟩) := by
    unfold resTake at hne ⊢
    by_cases h0 : fB L0 = 0
    · rw [if_pos h0] at hne ⊢
      by_cases hw : 0 ≤ w ∧ w ≤ 255
      · rw [if_pos hw] at hne ⊢
        by_cases hj : slotB L0 < L0.length
        · rw [if_pos hj]; exact ⟨h0, hw, hj, rfl⟩
        · rw [if_neg hj] at hne; cases hne
      · rw [if_neg hw] at hne; cases hne
    · rw [if_neg h0] at hne; exact absurd hne h0
  rw [hres] at c2 d1
  simp only at c2 d1
  have hdead := slotB_dead hj
  have hdd := ((fB_ok.1 h0).2 _ (List.getElem_mem hj)).2.2 hdead
  have hx0 : L0[slotB L0] = ⟨0, 0⟩ := by
    generalize L0[slotB L0] = x at *
    cases x; simp_all
  generalize slotB L0 = j at *
  have lset : (L0.set j ⟨1, w⟩).length = L0.length := by simp
  have hj1 : (L0.set j ⟨1, w⟩)[j]? = some ⟨1, w⟩ := by simp [hj]
  have hB1 := fB_set h0 j ⟨1, w⟩ ⟨by simp, hw, fun e => by simp at e⟩
  have hfree := freeN_set L0 j hj ⟨1, w⟩
  rw [hx0] at hfree
  simp only [if_true, Int.reduceEq, if_false] at hfree
  have hset4 : (L0.set j ⟨1, w⟩).set j ⟨0, 0⟩ = L0 := by rw [List.set_set, ← hx0, List.set_getElem_self]
  have hB2 := fB_set hB1 j ⟨2, w⟩ ⟨by simp, hw, fun e => by simp at e⟩
  have hj2 : ((L0.set j ⟨1, w⟩).set j ⟨2, w⟩)[j]? = some ⟨2, w⟩ := by simp [hj]
  have hset3 : ((L0.set j ⟨1, w⟩).set j ⟨2, w⟩).set j ⟨1, w⟩ = L0.set j ⟨1, w⟩ := by rw [List.set_set, List.set_set]
  generalize hL1 : L0.set j ⟨1, w⟩ = L1 at *
  -- the cell of what was taken
  obtain ⟨CR, hCR⟩ : ∃ CR : List Value, CR = [.int .i64 0, .int .i64 (j : Nat), .slice a1 L1.length (sg a1 2)] := ⟨_, rfl⟩
  obtain ⟨H3, hH3⟩ : ∃ H3 : Hp, H3 = H2 ++ [some ⟨CR, true, false⟩, some ⟨[.int .i64 0, .int .i64 (freeN L0 : Nat)], true, false⟩] := ⟨_, rfl⟩
  have f3 : Fn H2 H3 := hH3 ▸ Fr.app
  have l3 : H3.length = H2.length + 2 := by rw [hH3]; simp
  have fr3 : Fn (H2 ++ [some ⟨CR, true, false⟩]) H3 := by
    rw [hH3, show H2 ++ [some ⟨CR, true, false⟩, some ⟨[.int .i64 0, .int .i64 (freeN L0 : Nat)], true, false⟩] = (H2 ++ [some ⟨CR, true, false⟩]) ++ [some ⟨[.int .i64 0, .int .i64 (freeN L0 : Nat)], true, false⟩] by simp]
    exact Fr.app
  have cf := fun lo => implFreeOf_c (d + 1) lo (H2 ++ [some ⟨CR, true, false⟩]) ((r0.fnB f2).fnB Fr.app) h0
  have d13 := d1.fw f3.w (fun _ _ => id)
  obtain ⟨v4, H4, c4, a2, rfl, f4, d2⟩ := implShareBlock_c d H.length H3 d13.rep d13.ex hB1 hj1 (by simp)
  have l4 := f4.len
  simp only [Int.reduceAdd] at c4 d2
  obtain ⟨CS, hCS⟩ : ∃ CS : List Value, CS = [.int .i64 0, .int .i64 (j : Nat), .slice a2 (L1.set j ⟨2, w⟩).length (sg a2 2)] := ⟨_, rfl⟩
  obtain ⟨H5, hH5⟩ : ∃ H5 : Hp, H5 = H4 ++ [some ⟨CS, true, false⟩] := ⟨_, rfl⟩
  have f5 : Fn H4 H5 := hH5 ▸ Fr.app
  have l5 : H5.length = H4.length + 1 := by rw [hH5]; simp
  have d25 := d2.fw f5.w (fun _ _ => id)
  obtain ⟨v6, H6, c6, a3, rfl, f6, d3⟩ := implDropBlock_c d H.length H5 d25.rep d25.ex hB2 hj2 (by simp)
  have l6 := f6.len
  have hdec2 : decB ⟨2, w⟩ = ⟨1, w⟩ := by simp [decB]
  rw [hdec2, hset3] at c6 d3
  obtain ⟨CD, hCD⟩ : ∃ CD : List Value, CD = [.int .i64 0, .int .i64 (j : Nat), .slice a3 L1.length (sg a3 2)] := ⟨_, rfl⟩
  obtain ⟨H7, hH7⟩ : ∃ H7 : Hp, H7 = H6 ++ [some ⟨CD, true, false⟩] := ⟨_, rfl⟩
  have f7 : Fn H6 H7 := hH7 ▸ Fr.app
  have l7 : H7.length = H6.length + 1 := by rw [hH7]; simp
  have d37 := d3.fw f7.w (fun _ _ => id)
  obtain ⟨v8, H8, c8, a4, rfl, f8, d4⟩ := implDropBlock_c d H.length H7 d37.rep d37.ex hB1 hj1 (by simp)
  have l8 := f8.len
  have hdec1 : decB ⟨1, w⟩ = ⟨0, 0⟩ := by simp [decB]
  rw [hdec1, hset4] at c8 d4
  obtain ⟨CE, hCE⟩ : ∃ CE : List Value, CE = [.int .i64 0, .int .i64 (j : Nat), .slice a4 L0.length (sg a4 2)] := ⟨_, rfl⟩
  obtain ⟨H9, hH9⟩ : ∃ H9 : Hp, H9 = H8 ++ [some ⟨CE, true, false⟩] := ⟨_, rfl⟩
  have f9 : Fn H8 H9 := hH9 ▸ Fr.app
  have l9 : H9.length = H8.length + 1 := by rw [hH9]; simp
  -- lists at the end
  have f39 : Fn H3 H9 := f4.trans (f5.trans (f6.trans (f7.trans (f8.trans f9))))
  have rL := ((r0.fnB f2).fnB f3).fnB f39
  have rR := d13.rep.fnB f39
  have rD := d3.rep.fnB (f7.trans (f8.trans f9))
  have rE := d4.rep.fnB f9
  have cR := fun lo => implFreeOf_c (d + 1) lo H9 rR hB1
  have cD := fun lo => implFreeOf_c (d + 1) lo H9 rD hB1
  -- cells
  have kR3 := fr3.cell
  have kR5 := (fr3.trans (f4.trans f5)).cell
  have kR7 := (fr3.trans (f4.trans (f5.trans (f6.trans f7)))).cell
  have kR9 := (fr3.trans f39).cell
  have kF9 : ∀ k, rd H9 ⟨H2.length + 1, k, none⟩ = ([.int .i64 0, .int .i64 (freeN L0 : Nat)] : List Value)[k]? := fun k => by
    rw [f39.rd _ k (by omega) id, hH3]; simp only [rdk, getcs, getc0, Option.bind_some, id_eq]
  have kS5 : ∀ k, rd H5 ⟨H4.length, k, none⟩ = CS[k]? := fun k => by rw [hH5]; simp [rd0]
  have kS9 : ∀ k, rd H9 ⟨H4.length, k, none⟩ = CS[k]? := fun k => by rw [(f6.trans (f7.trans (f8.trans f9))).rd _ k (by omega) id]; exact kS5 k
  have kD7 : ∀ k, rd H7 ⟨H6.length, k, none⟩ = CD[k]? := fun k => by rw [hH7]; simp [rd0]
  have kD9 : ∀ k, rd H9 ⟨H6.length, k, none⟩ = CD[k]? := fun k => by rw [(f8.trans f9).rd _ k (by omega) id]; exact kD7 k
  have kE9 : ∀ k, rd H9 ⟨H8.length, k, none⟩ = CE[k]? := fun k => by rw [hH9]; simp [rd0]
  have hfl := freeN_le L0
  have hfw : IntKind.i64.wrap (((freeN L0 : Nat) : Int) - 1) = ((freeN L1 : Nat) : Int) := by rw [wr (by omega) (by omega)]; omega
  have hloop := lim_up (f := rnd (vcall env (d + 5)) H.length [3, 4, 5, 8, 9, 10] [2, 3, 4, 5] l8_0) (r := (.exit 0, [(3, .slice a0 L0.length (sg a0 2)), (4, .int .i64 w), (5, .pointer (some ⟨H2.length, 0, none⟩))], H9)) (by simp)
    (fun i => [(3, .slice a0 L0.length (sg a0 2)), (4, .int .i64 w), (5, .pointer (some ⟨H2.length, 0, none⟩)), (8, .pointer (some ⟨H6.length, 0, none⟩)), (9, .pointer (some ⟨H8.length, 0, none⟩)), (10, .int .i64 (i : Nat))]) (fun _ => H9) L0.length
    (by simp -implicitDefEqProofs only [rnd, l8_0, VMs, noRef, noRef1, isRef, List.all_cons, List.all_nil, vop, VOp.still, VOp.app, VOp.plain, allP, lof, evs, start, asI, vbin, vcells, ntup, setAll, vfill, vress, vres, tup, Nat.reduceEqDiff, ↓reduceIte, Nat.reduceAdd, Nat.reduceMul, Nat.reduceLeDiff, reduceCtorEq, slen, Int.lt_irrefl, decide_false])
    (fun i hi => by
      have hi1 : i < L1.length := by omega
      obtain ⟨p1, o1, e1, q1⟩ := rL.at hi
      obtain ⟨p2, o2, e2, q2⟩ := rE.at hi
      obtain ⟨p3, o3, e3, q3⟩ := rR.at hi1
      obtain ⟨p4, o4, e4, q4⟩ := rD.at hi1
      subst e1 e2 e3 e4
      subst hCR hCS hCD hCE
      have v1 := q1.val
      have v2 := q2.val
      have v3 := q3.val
      have v4 := q4.val
      have ie1 := ieqsB L0[i] L0[i]
      have ie2 := ieqsB L1[i] L1[i]
      rw [decide_eq_true rfl] at ie1 ie2
      have hi1' : ((i : Int) < (L1.length : Int)) = True := ltc hi1
      simp only [getcs, getc0, sgs] at kR9 kD9 kE9
      have kE := kE9 2
      have kD := kD9 2
      have kR := kR9 2
      simp only [getcs, getc0] at kE kD kR
      simp -implicitDefEqProofs only [rnd, l8_0, VMs, noRef, noRef1, isRef, List.all_cons, List.all_nil, vop, VOp.still, VOp.app, VOp.plain, allP, lof, evs, start, asI, vbin, vcells, ntup, setAll, vfill, vress, vres, tup, Nat.reduceEqDiff, ↓reduceIte, Nat.reduceAdd, Nat.reduceMul, Nat.reduceLeDiff, reduceCtorEq, vdr, slen, ltc hi, hi1', ge0, decide_true, Int.toNat_natCast, kE, kD, kR, v1, v2, v3, v4, List.size_toArray, ie1, ie2, hs0.w hi, sgs])
  simp only [Int.natCast_zero] at hloop
  have hl24 := fB_len h0
  obtain ⟨xb, c10⟩ := implNewBlocks_ok (d + 3) H.length H9 (L0.length : Int) (by omega)
  rw [Int.toNat_natCast] at c10
  have cB := fun lo l => implBlocksFault_c (d + 2) lo (H9 ++ l) _ _ _ (rR.fnB (Fr.app (l := l)))
  simp only [hB1] at cB
  have jl0 : ((j : Int) < (L0.length : Int)) = True := ltc hj
  have hj1' : j < L1.length := by omega
  have jl1 : ((j : Int) < (L1.length : Int)) = True := ltc hj1'
  obtain ⟨hjl, hj1e⟩ := List.getElem?_eq_some_iff.1 hj1
  have ga : ∃ i o, a1 = some ⟨i, o, none⟩ ∧ ∀ l, rd (H9 ++ l) ⟨i, o + j * 2 + 1, none⟩ = some (.int .i64 w) := by
    obtain ⟨i, o, e, q⟩ := rR.at hj1'
    refine ⟨i, o, e, fun l => ?_⟩
    have := (q.app (l := l)).2
    rw [hj1e] at this
    exact this
  have gb : ∃ i o, a0 = some ⟨i, o, none⟩ ∧ ∀ l, rd (H9 ++ l) ⟨i, o + j * 2, none⟩ = some (.int .i64 0) := by
    obtain ⟨i, o, e, q⟩ := rL.at hj
    refine ⟨i, o, e, fun l => ?_⟩
    have := (q.app (l := l)).1
    rw [hx0] at this
    exact this
  have kRl : ∀ l k, rd (H9 ++ l) ⟨H2.length, k, none⟩ = CR[k]? := fun l k => (((fr3.trans f39).trans (Fr.app (l := l))).cell k)
  obtain ⟨i1, o1, rfl, ga⟩ := ga
  obtain ⟨i0, o0, rfl, gb⟩ := gb
  have hle21 : (H.length ≤ H2.length + 1) = True := eq_true (by omega)
  have hle4 : (H.length ≤ H4.length) = True := eq_true (by omega)
  have hle6 : (H.length ≤ H6.length) = True := eq_true (by omega)
  have hle8 : (H.length ≤ H8.length) = True := eq_true (by omega)
  have hle9 : (H.length ≤ H8.length + 3) = True := eq_true (by omega)
  have kR31 := kR3 1
  have kR32 := kR3 2
  have kR51 := kR5 1
  have kR71 := kR7 1
  have kS52 := kS5 2
  have kD72 := kD7 2
  have kF90 := kF9 0
  have kF91 := kF9 1
  have kS90 := kS9 0
  have kD90 := kD9 0
  have kD92 := kD9 2
  have kE90 := kE9 0
  have kR90 := kR9 0
  have kR92 := kR9 2
  have kRl1 := fun l => kRl l 1
  have kRl2 := fun l => kRl l 2
  have ls : (L1.set j ⟨2, w⟩).length = L1.length := by simp
  subst hCR hCS hCD hCE
  simp only [getcs, getc0, sgs, ls, lset] at kR31 kR32 kR51 kR71 kS52 kD72 kF90 kF91 kS90 kD90 kD92 kE90 kR90 kR92 kRl1 kRl2 c4 c6 c8 hloop cR cD cf c10 cB c1 c2
  subst hH9
  subst hH7
  subst hH5
  subst hH3
  simp only [sgs, ls, lset, List.append_assoc, List.cons_append, List.nil_append, List.length_append, List.length_cons, List.length_nil, Nat.zero_add, Nat.add_assoc, Nat.reduceAdd] at kR31 kR32 kR51 kR71 kS52 kD72 kF90 kF91 kS90 kD90 kD92 kE90 kR90 kR92 kRl1 kRl2 c4 c6 c8 hloop cR cD cf c10 cB
  simp only [List.append_assoc, List.cons_append, List.nil_append] at ga gb
  simp -implicitDefEqProofs only [v8, VMs, noRef, noRef1, isRef, List.all_cons, List.all_nil, vop, VOp.still, VOp.app, VOp.plain, allP, lof, evs, start, asI, vbin, vcells, ntup, setAll, vfill, vress, vres, tup, Nat.reduceEqDiff, ↓reduceIte, Nat.reduceAdd, Nat.reduceMul, Nat.reduceLeDiff, reduceCtorEq, lwBig_c, hbig, decide_false, decide_true, List.getElem?_toArray, c1, c2, hle2, hle21, bne_self_eq_false, cf, kR31, kR32, c4, hle4, kS52, kR51, c6, hle6, kD72, kR71, c8, hle8, vdr, kF90, kS90, kD90, kE90, kR92, slen, lset, cR, kF91, hfw, kD92, cD, vlp, hloop, c10, hle9, kRl1, kRl2, jl1, ge0, Int.toNat_natCast, ga, beq_self_eq_true, jl0, gb, cB]
end Go.Proofs.Ytmcljallamhccaa.V
