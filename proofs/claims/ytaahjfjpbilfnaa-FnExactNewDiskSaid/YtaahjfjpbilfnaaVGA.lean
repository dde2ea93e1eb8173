/- The laws' helpers on what was put, turned from those on blocks. -/
import Derived.Test.YtaahjfjpbilfnaaVC6
namespace Go.Proofs.Ytaahjfjpbilfnaa.V
open Go
set_option linter.unusedVariables false
set_option linter.unusedSimpArgs false
set_option maxRecDepth 100000
theorem eqPut_c (d lo : Nat) (H : Hp) (a b : Bk) : vcall env (d + 1) 109 [BV a, BV b] lo H = some (.bool (decide (a = b)), H) := by
  rw [call_eq find109 _ _ _ rfl]
  obtain ⟨r, x⟩ := a
  obtain ⟨r', x'⟩ := b
  simp -implicitDefEqProofs only [BV, v109, VMs, noRef, noRef1, isRef, List.all_cons, List.all_nil, vop, VOp.still, VOp.app, VOp.plain, allP, lof, evs, start, asI, vbin, vcells, ntup, setAll, vfill, vress, vres, tup, Nat.reduceEqDiff, ↓reduceIte, Nat.reduceAdd, Nat.reduceMul, Nat.reduceLeDiff, reduceCtorEq]
  by_cases h1 : r = r' <;> by_cases h2 : x = x' <;> simp [h1, h2]
theorem eqPutS_c (d lo : Nat) (H : Hp) (a b : Option Addr) (n m : Nat) (la lb : List Bk) (ha : Rep EB 2 H a n la) (hb : Rep EB 2 H b m lb) (hn : Sm n) :
    vcall env (d + 2) 75 [.slice a n (sg a 2), .slice b m (sg b 2)] lo H = some (.bool (decide (la = lb)), H) := by
  rw [call_eq find75 _ _ _ rfl]
  by_cases hnm : n = m
  · subst hnm
    have hl := lim_all (f := rnd (vcall env (d + 1)) H.length [0, 1, 5] [4] l75_0) (R := (.exit 0, [], H)) (E := (.ret, [(4, .bool false)], H)) (by simp) (by simp) (fun i => [(0, .slice a n (sg a 2)), (1, .slice b n (sg b 2)), (5, .int .i64 (i : Nat))]) H n (fun i => la[i]? = lb[i]?)
      (by simp -implicitDefEqProofs only [rnd, l75_0, VMs, noRef, noRef1, isRef, List.all_cons, List.all_nil, vop, VOp.still, VOp.app, VOp.plain, allP, lof, evs, start, asI, vbin, vcells, ntup, setAll, vfill, vress, vres, tup, Nat.reduceEqDiff, ↓reduceIte, Nat.reduceAdd, Nat.reduceMul, Nat.reduceLeDiff, reduceCtorEq, slen, Int.lt_irrefl, decide_false])
      (fun i hi => by
        have hla : i < la.length := by rw [← ha.1]; exact hi
        have hlb : i < lb.length := by rw [← hb.1]; exact hi
        obtain ⟨i1, o1, rfl, e1⟩ := ha.at hla
        obtain ⟨i2, o2, rfl, e2⟩ := hb.at hlb
        have hc := eqPut_c d H.length H la[i] lb[i]
        simp only [BV] at hc
        simp -implicitDefEqProofs only [rnd, l75_0, VMs, noRef, noRef1, isRef, List.all_cons, List.all_nil, vop, VOp.still, VOp.app, VOp.plain, allP, lof, evs, start, asI, vbin, vcells, ntup, setAll, vfill, vress, vres, tup, Nat.reduceEqDiff, ↓reduceIte, Nat.reduceAdd, Nat.reduceMul, Nat.reduceLeDiff, reduceCtorEq, slen, ltc hi, ge0, decide_true, e1.val, e2.val, Int.toNat_natCast, hc, hn.w hi, getE hla, getE hlb, Option.some.injEq]
        by_cases h : la[i] = lb[i] <;> simp [h])
      (all_eq ha.1 hb.1)
    simp only [Int.natCast_zero] at hl
    simp -implicitDefEqProofs only [v75, VMs, noRef, noRef1, isRef, List.all_cons, List.all_nil, vop, VOp.still, VOp.app, VOp.plain, allP, lof, evs, start, asI, vbin, vcells, ntup, setAll, vfill, vress, vres, tup, Nat.reduceEqDiff, ↓reduceIte, Nat.reduceAdd, Nat.reduceMul, Nat.reduceLeDiff, reduceCtorEq, slen, bne_self_eq_false, vlp, hl]
    by_cases h : la = lb <;> simp -implicitDefEqProofs only [h, decide_true, decide_false, VMs, noRef, noRef1, isRef, List.all_cons, List.all_nil, vop, VOp.still, VOp.app, VOp.plain, allP, lof, evs, start, asI, vbin, vcells, ntup, setAll, vfill, vress, vres, tup, Nat.reduceEqDiff, ↓reduceIte, Nat.reduceAdd, Nat.reduceMul, Nat.reduceLeDiff, reduceCtorEq]
  · have hne : la ≠ lb := by intro e; subst e; exact hnm (ha.1.trans hb.1.symm)
    have h1 : ((n : Int) != (m : Int)) = true := by simp; omega
    simp -implicitDefEqProofs only [v75, VMs, noRef, noRef1, isRef, List.all_cons, List.all_nil, vop, VOp.still, VOp.app, VOp.plain, allP, lof, evs, start, asI, vbin, vcells, ntup, setAll, vfill, vress, vres, tup, Nat.reduceEqDiff, ↓reduceIte, Nat.reduceAdd, Nat.reduceMul, Nat.reduceLeDiff, reduceCtorEq, slen, h1, hne, decide_false]
theorem markPutS_c (d lo : Nat) (H : Hp) (S : Nat → Prop) (a : Option Addr) (n : Nat) (l : List Bk) (k : Int) (hr : Rep EB 2 H a n l) (hw : Own S lo H a n) (hn : Sm n) (hk : 0 ≤ k) (hk' : Km (k + 2 * (n : Int))) :
    ∃ H', vcall env (d + 1) 88 [.slice a n (sg a 2), .int .i64 k] lo H = some (.int .i64 (k + 2 * (n : Int)), H') ∧ H'.length = H.length ∧ Fr S H H' ∧ Rep EB 2 H' a n (mB n k) := by
  have hloop : ∃ r, lim (rnd (vcall env d) lo [0, 1, 5] [1, 4] l88_0) [(0, .slice a n (sg a 2)), (1, .int .i64 k), (5, .int .i64 0)] H = some r ∧ ∃ H', r = (.exit 0, [(1, .int .i64 (k + 2 * (n : Int)))], H') ∧ H'.length = H.length ∧ Fr S H H' ∧ Rep EB 2 H' a n (mB n k) := by
    refine lim_inv (fun j ts H' => ts = [(0, .slice a n (sg a 2)), (1, .int .i64 (k + 2 * (j : Int))), (5, .int .i64 (j : Int))] ∧ H'.length = H.length ∧ Fr S H H' ∧ ∀ p o, a = some ⟨p, o, none⟩ → (∀ j', j' < j → EB H' p (o + j' * 2) ⟨k + 2 * (j' : Int), k + 2 * (j' : Int) + 1⟩) ∧ ∀ j' x, j ≤ j' → l[j']? = some x → EB H' p (o + j' * 2) x) n ?_ ?_ ?_
    · rintro j ts H1 hj ⟨rfl, hlen, hfr, hcs⟩
      have hjl : j < l.length := by rw [← hr.1]; exact hj
      obtain ⟨p, o, rfl, e0⟩ := hr.at hjl
      obtain ⟨hwb, hsp⟩ := hw (by omega) p o rfl
      obtain ⟨hc1, hc2⟩ := hcs p o rfl
      have ej := hc2 j _ (Nat.le_refl _) (getE hjl)
      obtain ⟨H2, hu1, u1⟩ := up1 (v := .int .i64 (k + 2 * (j : Int))) (hfr.wb _ _ hwb) ej.1
      obtain ⟨H3, hu2, u2⟩ := up1 (v := .int .i64 (k + 2 * (j : Int) + 1)) (u1.wb _ _ (hfr.wb _ _ hwb)) ((u1.oth p (o + j * 2 + 1) (by omega)).trans ej.2)
      have k1 : IntKind.i64.wrap (k + 2 * (j : Int) + 1) = k + 2 * (j : Int) + 1 := Km.w (hk'.lt (by omega) (by omega))
      have k2 : IntKind.i64.wrap (k + 2 * (j : Int) + 1 + 1) = k + 2 * ((j + 1 : Nat) : Int) := by rw [Km.w (hk'.lt (by omega) (by omega))]; omega
      refine ⟨_, H3, by simp -implicitDefEqProofs only [rnd, l88_0, VMs, noRef, noRef1, isRef, List.all_cons, List.all_nil, vop, VOp.still, VOp.app, VOp.plain, allP, lof, evs, start, asI, vbin, vcells, ntup, setAll, vfill, vress, vres, tup, Nat.reduceEqDiff, ↓reduceIte, Nat.reduceAdd, Nat.reduceMul, Nat.reduceLeDiff, reduceCtorEq, slen, ltc hj, ge0, decide_true, Int.toNat_natCast, hu1, hu2, k1, k2, hn.w hj], rfl, by rw [u2.len, u1.len, hlen], hfr.trans ((u1.fr.trans u2.fr).mono fun i e => by rw [e]; exact hsp), ?_⟩
      intro p' o' he
      cases he
      refine ⟨fun j' hj' => ?_, fun j' x hj' hx => ?_⟩
      · rcases Nat.lt_succ_iff_lt_or_eq.1 hj' with h | h
        · obtain ⟨g1, g2⟩ := hc1 j' h
          exact ⟨((u2.oth _ _ (by omega)).trans (u1.oth _ _ (by omega))).trans g1, ((u2.oth _ _ (by omega)).trans (u1.oth _ _ (by omega))).trans g2⟩
        · subst h
          exact ⟨(u2.oth _ _ (by omega)).trans u1.at_, u2.at_⟩
      · obtain ⟨g1, g2⟩ := hc2 j' x (by omega) hx
        exact ⟨((u2.oth _ _ (by omega)).trans (u1.oth _ _ (by omega))).trans g1, ((u2.oth _ _ (by omega)).trans (u1.oth _ _ (by omega))).trans g2⟩
    · rintro ts H1 ⟨rfl, hlen, hfr, hcs⟩
      refine ⟨_, by simp -implicitDefEqProofs only [rnd, l88_0, VMs, noRef, noRef1, isRef, List.all_cons, List.all_nil, vop, VOp.still, VOp.app, VOp.plain, allP, lof, evs, start, asI, vbin, vcells, ntup, setAll, vfill, vress, vres, tup, Nat.reduceEqDiff, ↓reduceIte, Nat.reduceAdd, Nat.reduceMul, Nat.reduceLeDiff, reduceCtorEq, slen, Int.lt_irrefl, decide_false], by simp, H1, rfl, hlen, hfr, by rw [mB_len], fun hne => ?_⟩
      have h0 : 0 < n := by rcases Nat.eq_zero_or_pos n with h | h; subst h; exact absurd rfl hne; exact h
      obtain ⟨p, o, rfl, e0⟩ := hr.at (j := 0) (by rw [← hr.1]; exact h0)
      refine ⟨p, o, rfl, fun j x hx => ?_⟩
      have hj : j < n := by have := (List.getElem?_eq_some_iff.1 hx).1; rw [mB_len] at this; exact this
      rw [mB_at hj] at hx; cases hx
      exact (hcs p o rfl).1 j hj
    · exact ⟨by simp, rfl, Fr.refl, fun p o he => ⟨fun j' h => by omega, fun j' x _ hx => by
        obtain ⟨p', o', he', h2⟩ := hr.2 (by intro e; rw [e] at hx; simp at hx)
        rw [he] at he'; cases he'
        exact h2 j' x hx⟩⟩
  obtain ⟨_, hl, H', rfl, h1, h2, h3⟩ := hloop
  refine ⟨H', ?_, h1, h2, h3⟩
  rw [call_eq find88 _ _ _ rfl]
  simp -implicitDefEqProofs only [v88, VMs, noRef, noRef1, isRef, List.all_cons, List.all_nil, vop, VOp.still, VOp.app, VOp.plain, allP, lof, evs, start, asI, vbin, vcells, ntup, setAll, vfill, vress, vres, tup, Nat.reduceEqDiff, ↓reduceIte, Nat.reduceAdd, Nat.reduceMul, Nat.reduceLeDiff, reduceCtorEq, vlp, hl]
theorem heldPutS_c (d lo : Nat) (H : Hp) (a : Option Addr) (n : Nat) (k : Int) (hr : Rep EB 2 H a n (mB n k)) (hn : Sm n) (hk : 0 ≤ k) (hk' : Km (k + 2 * (n : Int))) :
    vcall env (d + 1) 116 [.slice a n (sg a 2), .int .i64 k] lo H = some (.int .i64 (k + 2 * (n : Int)), H) := by
  have hl := lim_up (f := rnd (vcall env d) H.length [0, 1, 5] [1, 4] l116_0) (r := (.exit 0, [(1, .int .i64 (k + 2 * (n : Int)))], H)) (by simp) (fun j => [(0, .slice a n (sg a 2)), (1, .int .i64 (k + 2 * (j : Int))), (5, .int .i64 (j : Nat))]) (fun _ => H) n
    (by simp -implicitDefEqProofs only [rnd, l116_0, VMs, noRef, noRef1, isRef, List.all_cons, List.all_nil, vop, VOp.still, VOp.app, VOp.plain, allP, lof, evs, start, asI, vbin, vcells, ntup, setAll, vfill, vress, vres, tup, Nat.reduceEqDiff, ↓reduceIte, Nat.reduceAdd, Nat.reduceMul, Nat.reduceLeDiff, reduceCtorEq, slen, Int.lt_irrefl, decide_false])
    (fun j hj => by
      have hjl : j < (mB n k).length := by rw [mB_len]; exact hj
      obtain ⟨p, o, rfl, e0⟩ := hr.at hjl
      have e1 : (mB n k)[j] = ⟨k + 2 * (j : Int), k + 2 * (j : Int) + 1⟩ := by have := mB_at (k := k) hj; rw [getE hjl] at this; exact Option.some.inj this
      rw [e1] at e0
      obtain ⟨g1, g2⟩ := e0
      simp only at g1 g2
      have k1 : IntKind.i64.wrap (k + 2 * (j : Int) + 1) = k + 2 * (j : Int) + 1 := Km.w (hk'.lt (by omega) (by omega))
      have k2 : IntKind.i64.wrap (k + 2 * (j : Int) + 1 + 1) = k + 2 * ((j + 1 : Nat) : Int) := by rw [Km.w (hk'.lt (by omega) (by omega))]; omega
      simp -implicitDefEqProofs only [rnd, l116_0, VMs, noRef, noRef1, isRef, List.all_cons, List.all_nil, vop, VOp.still, VOp.app, VOp.plain, allP, lof, evs, start, asI, vbin, vcells, ntup, setAll, vfill, vress, vres, tup, Nat.reduceEqDiff, ↓reduceIte, Nat.reduceAdd, Nat.reduceMul, Nat.reduceLeDiff, reduceCtorEq, slen, ltc hj, ge0, decide_true, Int.toNat_natCast, g1, g2, bne_self_eq_false, k1, k2, hn.w hj])
  simp only [Int.natCast_zero, Int.mul_zero, Int.add_zero] at hl
  rw [call_eq find116 _ _ _ rfl]
  simp -implicitDefEqProofs only [v116, VMs, noRef, noRef1, isRef, List.all_cons, List.all_nil, vop, VOp.still, VOp.app, VOp.plain, allP, lof, evs, start, asI, vbin, vcells, ntup, setAll, vfill, vress, vres, tup, Nat.reduceEqDiff, ↓reduceIte, Nat.reduceAdd, Nat.reduceMul, Nat.reduceLeDiff, reduceCtorEq, vlp, hl]
end Go.Proofs.Ytaahjfjpbilfnaa.V
