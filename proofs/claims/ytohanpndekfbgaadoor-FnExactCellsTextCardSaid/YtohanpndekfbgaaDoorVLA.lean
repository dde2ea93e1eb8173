/- Cells of a plain pool: three numbers each, as a volume. Are they the same, copied, measured, marked, held? (Printed out of the texts on volumes.) -/
import Derived.Test.YtohanpndekfbgaaDoorVPA
namespace Go.Proofs.YtohanpndekfbgaaDoor.V
open Go
set_option linter.unusedVariables false
set_option linter.unusedSimpArgs false
set_option maxRecDepth 100000
theorem eqCell_c (d lo : Nat) (H : Hp) (a b : Vo) : vcall env (d + 1) 40 [VV a, VV b] lo H = some (.bool (decide (a = b)), H) := by
  rw [call_eq find40 _ _ _ rfl]
  obtain ⟨r, x, y⟩ := a
  obtain ⟨r', x', y'⟩ := b
  simp -implicitDefEqProofs only [VV, v40, VMs, noRef, noRef1, isRef, List.all_cons, List.all_nil, vop, VOp.still, VOp.app, VOp.plain, allP, lof, evs, start, asI, vbin, vcells, ntup, setAll, vfill, vress, vres, tup, Nat.reduceEqDiff, ↓reduceIte, Nat.reduceAdd, Nat.reduceMul, Nat.reduceLeDiff, reduceCtorEq]
  by_cases h1 : r = r' <;> by_cases h2 : x = x' <;> by_cases h3 : y = y' <;> simp [h1, h2, h3]
theorem eqCellS_c (d lo : Nat) (H : Hp) (a b : Option Addr) (n m : Nat) (la lb : List Vo) (ha : Rep EV 3 H a n la) (hb : Rep EV 3 H b m lb) (hn : Sm n) :
    vcall env (d + 2) 21 [.slice a n (sg a 3), .slice b m (sg b 3)] lo H = some (.bool (decide (la = lb)), H) := by
  rw [call_eq find21 _ _ _ rfl]
  by_cases hnm : n = m
  · subst hnm
    have hl := lim_all (f := rnd (vcall env (d + 1)) H.length [0, 1, 5] [4] l21_0) (R := (.exit 0, [], H)) (E := (.ret, [(4, .bool false)], H)) (by simp) (by simp) (fun i => [(0, .slice a n (sg a 3)), (1, .slice b n (sg b 3)), (5, .int .i64 (i : Nat))]) H n (fun i => la[i]? = lb[i]?)
      (by simp -implicitDefEqProofs only [rnd, l21_0, VMs, noRef, noRef1, isRef, List.all_cons, List.all_nil, vop, VOp.still, VOp.app, VOp.plain, allP, lof, evs, start, asI, vbin, vcells, ntup, setAll, vfill, vress, vres, tup, Nat.reduceEqDiff, ↓reduceIte, Nat.reduceAdd, Nat.reduceMul, Nat.reduceLeDiff, reduceCtorEq, slen, Int.lt_irrefl, decide_false])
      (fun i hi => by
        have hla : i < la.length := by rw [← ha.1]; exact hi
        have hlb : i < lb.length := by rw [← hb.1]; exact hi
        obtain ⟨i1, o1, rfl, e1⟩ := ha.at hla
        obtain ⟨i2, o2, rfl, e2⟩ := hb.at hlb
        have hc := eqCell_c d H.length H la[i] lb[i]
        simp only [VV] at hc
        simp -implicitDefEqProofs only [rnd, l21_0, VMs, noRef, noRef1, isRef, List.all_cons, List.all_nil, vop, VOp.still, VOp.app, VOp.plain, allP, lof, evs, start, asI, vbin, vcells, ntup, setAll, vfill, vress, vres, tup, Nat.reduceEqDiff, ↓reduceIte, Nat.reduceAdd, Nat.reduceMul, Nat.reduceLeDiff, reduceCtorEq, slen, ltc hi, ge0, decide_true, e1.val, e2.val, Int.toNat_natCast, hc, hn.w hi, getE hla, getE hlb, Option.some.injEq]
        by_cases h : la[i] = lb[i] <;> simp [h])
      (all_eq ha.1 hb.1)
    simp only [Int.natCast_zero] at hl
    simp -implicitDefEqProofs only [v21, VMs, noRef, noRef1, isRef, List.all_cons, List.all_nil, vop, VOp.still, VOp.app, VOp.plain, allP, lof, evs, start, asI, vbin, vcells, ntup, setAll, vfill, vress, vres, tup, Nat.reduceEqDiff, ↓reduceIte, Nat.reduceAdd, Nat.reduceMul, Nat.reduceLeDiff, reduceCtorEq, slen, bne_self_eq_false, vlp, hl]
    by_cases h : la = lb <;> simp -implicitDefEqProofs only [h, decide_true, decide_false, VMs, noRef, noRef1, isRef, List.all_cons, List.all_nil, vop, VOp.still, VOp.app, VOp.plain, allP, lof, evs, start, asI, vbin, vcells, ntup, setAll, vfill, vress, vres, tup, Nat.reduceEqDiff, ↓reduceIte, Nat.reduceAdd, Nat.reduceMul, Nat.reduceLeDiff, reduceCtorEq]
  · have hne : la ≠ lb := by intro e; subst e; exact hnm (ha.1.trans hb.1.symm)
    have h1 : ((n : Int) != (m : Int)) = true := by simp; omega
    simp -implicitDefEqProofs only [v21, VMs, noRef, noRef1, isRef, List.all_cons, List.all_nil, vop, VOp.still, VOp.app, VOp.plain, allP, lof, evs, start, asI, vbin, vcells, ntup, setAll, vfill, vress, vres, tup, Nat.reduceEqDiff, ↓reduceIte, Nat.reduceAdd, Nat.reduceMul, Nat.reduceLeDiff, reduceCtorEq, slen, h1, hne, decide_false]

theorem toCell_c (d lo : Nat) (H : Hp) (x : Vo) : vcall env (d + 1) 29 [VV x] lo H = some (VV x, H) := by
  rw [call_eq find29 _ _ _ rfl]
  simp -implicitDefEqProofs only [VV, v29, VMs, noRef, noRef1, isRef, List.all_cons, List.all_nil, vop, VOp.still, VOp.app, VOp.plain, allP, lof, evs, start, asI, vbin, vcells, ntup, setAll, vfill, vress, vres, tup, Nat.reduceEqDiff, ↓reduceIte, Nat.reduceAdd, Nat.reduceMul, Nat.reduceLeDiff, reduceCtorEq]
theorem toCellS_c (d lo : Nat) (H : Hp) (a : Option Addr) (n : Nat) (l : List Vo) (h : Rep EV 3 H a n l) (hn : Sm n) (hb : n * 24 ≤ 140737488351232) :
    ∃ H', vcall env (d + 2) 16 [.slice a n (sg a 3)] lo H = some (.slice (some ⟨H.length, 0, none⟩) n 3, H') ∧ Fn H H' ∧ H'.length = H.length + 1 ∧ WB H.length H' H.length ∧ Rep EV 3 H' (some ⟨H.length, 0, none⟩) n l := by
  have m1 : (((24 : Nat) : Int) * (n : Int) ≤ 281474976710656) = True := eq_true (by omega)
  have hloop : ∃ r, lim (rnd (vcall env (d + 1)) H.length [0, 3, 4] [2, 3] l16_0) [(0, .slice a n (sg a 3)), (3, .slice (some ⟨H.length, 0, none⟩) n 3), (4, .int .i64 0)] (H ++ [some ⟨(List.replicate n [Value.int .i64 0, Value.int .i64 0, Value.int .i64 0]).flatten, true, (n : Int) == 0⟩]) = some r ∧ ∃ H', r = (.exit 0, [(3, .slice (some ⟨H.length, 0, none⟩) n 3)], H') ∧ Fn H H' ∧ H'.length = H.length + 1 ∧ WB H.length H' H.length ∧ Rep EV 3 H' (some ⟨H.length, 0, none⟩) n l := by
    refine lim_inv (fun i ts H1 => ts = [(0, .slice a n (sg a 3)), (3, .slice (some ⟨H.length, 0, none⟩) n 3), (4, .int .i64 (i : Int))] ∧ Fn H H1 ∧ H1.length = H.length + 1 ∧ WB H.length H1 H.length ∧ Sz H1 H.length (n * 3) ∧ ∀ j x, j < i → l[j]? = some x → EV H1 H.length (j * 3) x) n ?_ ?_ ?_
    · rintro i ts H1 hi ⟨rfl, hf, hlen, hwb, hsz, hcs⟩
      have hil : i < l.length := by rw [← h.1]; exact hi
      obtain ⟨p, o, rfl, e⟩ := (h.fnV hf).at hil
      obtain ⟨H2, hu, u, hsz2⟩ := upN (o := i * 3) [.int .i64 l[i].i, .int .i64 l[i].q, .int .i64 l[i].r] hwb hsz (by simp; omega)
      have hc := toCell_c d H.length H1 l[i]
      simp only [VV] at hc
      refine ⟨_, H2, by simp -implicitDefEqProofs only [rnd, l16_0, VMs, noRef, noRef1, isRef, List.all_cons, List.all_nil, vop, VOp.still, VOp.app, VOp.plain, allP, lof, evs, start, asI, vbin, vcells, ntup, setAll, vfill, vress, vres, tup, Nat.reduceEqDiff, ↓reduceIte, Nat.reduceAdd, Nat.reduceMul, Nat.reduceLeDiff, reduceCtorEq, slen, ltc hi, ge0, decide_true, Int.toNat_natCast, Nat.zero_add, e.val, hc, hu, hn.w hi], rfl, (hf.no.trans u.fr).new fun i e => Nat.le_of_eq e.symm, by rw [u.len, hlen], u.wb _ _ hwb, hsz2, ?_⟩
      intro j x hj hx
      rcases Nat.lt_succ_iff_lt_or_eq.1 hj with h' | h'
      · obtain ⟨g1, g2, g3⟩ := hcs j x h' hx
        exact ⟨(u.oth _ _ (by simp; omega)).trans g1, (u.oth _ _ (by simp; omega)).trans g2, (u.oth _ _ (by simp; omega)).trans g3⟩
      · subst h'
        rw [getE hil] at hx; cases hx
        exact ⟨u.at_ 0 (by simp), u.at_ 1 (by simp), u.at_ 2 (by simp)⟩
    · rintro ts H1 ⟨rfl, hf, hlen, hwb, hsz, hcs⟩
      refine ⟨_, by simp -implicitDefEqProofs only [rnd, l16_0, VMs, noRef, noRef1, isRef, List.all_cons, List.all_nil, vop, VOp.still, VOp.app, VOp.plain, allP, lof, evs, start, asI, vbin, vcells, ntup, setAll, vfill, vress, vres, tup, Nat.reduceEqDiff, ↓reduceIte, Nat.reduceAdd, Nat.reduceMul, Nat.reduceLeDiff, reduceCtorEq, slen, Int.lt_irrefl, decide_false], by simp, H1, rfl, hf, hlen, hwb, h.1, fun _ => ⟨H.length, 0, rfl, fun j x hx => ?_⟩⟩
      rw [Nat.zero_add]
      exact hcs j x (by rw [h.1]; exact (List.getElem?_eq_some_iff.1 hx).1) hx
    · exact ⟨rfl, Fr.app, by simp, wb_new rfl, sz_new (zI_len n 3 _ rfl), fun j x hj => by omega⟩
  obtain ⟨_, hl, H', rfl, h1, h2, h3, h4⟩ := hloop
  refine ⟨H', ?_, h1, h2, h3, h4⟩
  rw [call_eq find16 _ _ _ rfl]
  simp -implicitDefEqProofs only [v16, VMs, noRef, noRef1, isRef, List.all_cons, List.all_nil, vop, VOp.still, VOp.app, VOp.plain, allP, lof, evs, start, asI, vbin, vcells, ntup, setAll, vfill, vress, vres, tup, Nat.reduceEqDiff, ↓reduceIte, Nat.reduceAdd, Nat.reduceMul, Nat.reduceLeDiff, reduceCtorEq, slen, ge0, m1, hn.le, Int.toNat_natCast, vlp, hl]
theorem szCellS_c (d lo : Nat) (H : Hp) (a : Option Addr) (n s : Nat) (k : Int) (hn : Sm n) (hk : Lf k) (h0 : 0 ≤ k) : vcall env (d + 1) 11 [.slice a n s, .int .i64 k] lo H = some (.int .i64 (if k - (n : Int) < 0 then -1 else k - (n : Int)), H) := by
  rw [call_eq find11 _ _ _ rfl]
  by_cases h : k - (n : Int) < 0
  · simp -implicitDefEqProofs only [v11, VMs, noRef, noRef1, isRef, List.all_cons, List.all_nil, vop, VOp.still, VOp.app, VOp.plain, allP, lof, evs, start, asI, vbin, vcells, ntup, setAll, vfill, vress, vres, tup, Nat.reduceEqDiff, ↓reduceIte, Nat.reduceAdd, Nat.reduceMul, Nat.reduceLeDiff, reduceCtorEq, slen, hk.w h0 hn, h, decide_true]
  · simp -implicitDefEqProofs only [v11, VMs, noRef, noRef1, isRef, List.all_cons, List.all_nil, vop, VOp.still, VOp.app, VOp.plain, allP, lof, evs, start, asI, vbin, vcells, ntup, setAll, vfill, vress, vres, tup, Nat.reduceEqDiff, ↓reduceIte, Nat.reduceAdd, Nat.reduceMul, Nat.reduceLeDiff, reduceCtorEq, slen, hk.w h0 hn, h, decide_false]
end Go.Proofs.YtohanpndekfbgaaDoor.V
