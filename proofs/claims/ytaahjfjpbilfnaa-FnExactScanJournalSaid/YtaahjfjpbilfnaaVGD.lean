/- Rows of numbers: are two the same, marks, and whether they are held. -/
import Derived.Test.YtaahjfjpbilfnaaVGC
namespace Go.Proofs.Ytaahjfjpbilfnaa.V
open Go
set_option linter.unusedVariables false
set_option linter.unusedSimpArgs false
set_option maxRecDepth 100000
/-- A row. -/
def ER (H : Hp) (i o : Nat) (x : List Int) : Prop := ∃ a, rd H ⟨i, o, none⟩ = some (.slice a x.length (sg a 1)) ∧ Rep EI 1 H a x.length x
theorem ER.app {H : Hp} {l : List (Option Blk)} {i o : Nat} {x : List Int} (h : ER H i o x) : ER (H ++ l) i o x := by
  obtain ⟨a, h1, h2⟩ := h
  exact ⟨a, rd_app h1, h2.app fun _ _ _ => EI.app⟩
theorem ER.fn {H H' : Hp} (hf : Fn H H') {i o : Nat} {x : List Int} (h : ER H i o x) : ER H' i o x := by
  obtain ⟨a, h1, h2⟩ := h
  exact ⟨a, (hf.rd _ _ (rd_lt h1) id).trans h1, h2.fnI hf⟩
theorem Rep.fnR {H H' : Hp} {a : Option Addr} {n : Nat} {l : List (List Int)} (h : Rep ER 1 H a n l) (hf : Fn H H') : Rep ER 1 H' a n l := h.mono fun _ _ _ => ER.fn hf
theorem eqInt64SS_c (d lo : Nat) (H : Hp) (a b : Option Addr) (n m : Nat) (la lb : List (List Int)) (ha : Rep ER 1 H a n la) (hb : Rep ER 1 H b m lb) (hn : Sm n) (hk : ∀ x ∈ la, Sm x.length) :
    vcall env (d + 2) 95 [.slice a n (sg a 1), .slice b m (sg b 1)] lo H = some (.bool (decide (la = lb)), H) := by
  rw [call_eq find95 _ _ _ rfl]
  by_cases hnm : n = m
  · subst hnm
    have hl := lim_all (f := rnd (vcall env (d + 1)) H.length [0, 1, 5] [4] l95_0) (R := (.exit 0, [], H)) (E := (.ret, [(4, .bool false)], H)) (by simp) (by simp) (fun i => [(0, .slice a n (sg a 1)), (1, .slice b n (sg b 1)), (5, .int .i64 (i : Nat))]) H n (fun i => la[i]? = lb[i]?)
      (by simp -implicitDefEqProofs only [rnd, l95_0, VMs, noRef, noRef1, isRef, List.all_cons, List.all_nil, vop, VOp.still, VOp.app, VOp.plain, allP, lof, evs, start, asI, vbin, vcells, ntup, setAll, vfill, vress, vres, tup, Nat.reduceEqDiff, ↓reduceIte, Nat.reduceAdd, Nat.reduceMul, Nat.reduceLeDiff, reduceCtorEq, slen, Int.lt_irrefl, decide_false])
      (fun i hi => by
        have hla : i < la.length := by rw [← ha.1]; exact hi
        have hlb : i < lb.length := by rw [← hb.1]; exact hi
        obtain ⟨i1, o1, rfl, a1, g1, r1⟩ := ha.at hla
        obtain ⟨i2, o2, rfl, a2, g2, r2⟩ := hb.at hlb
        simp only [Nat.mul_one] at g1 g2
        have hc := eqInt64S_c d H.length H a1 a2 _ _ la[i] lb[i] r1 r2 (hk _ (List.getElem_mem hla))
        simp -implicitDefEqProofs only [rnd, l95_0, VMs, noRef, noRef1, isRef, List.all_cons, List.all_nil, vop, VOp.still, VOp.app, VOp.plain, allP, lof, evs, start, asI, vbin, vcells, ntup, setAll, vfill, vress, vres, tup, Nat.reduceEqDiff, ↓reduceIte, Nat.reduceAdd, Nat.reduceMul, Nat.reduceLeDiff, reduceCtorEq, slen, ltc hi, ge0, decide_true, Nat.mul_one, g1, g2, Int.toNat_natCast, hc, hn.w hi, getE hla, getE hlb, Option.some.injEq]
        by_cases h : la[i] = lb[i] <;> simp [h])
      (all_eq ha.1 hb.1)
    simp only [Int.natCast_zero] at hl
    simp -implicitDefEqProofs only [v95, VMs, noRef, noRef1, isRef, List.all_cons, List.all_nil, vop, VOp.still, VOp.app, VOp.plain, allP, lof, evs, start, asI, vbin, vcells, ntup, setAll, vfill, vress, vres, tup, Nat.reduceEqDiff, ↓reduceIte, Nat.reduceAdd, Nat.reduceMul, Nat.reduceLeDiff, reduceCtorEq, slen, bne_self_eq_false, vlp, hl]
    by_cases h : la = lb <;> simp -implicitDefEqProofs only [h, decide_true, decide_false, VMs, noRef, noRef1, isRef, List.all_cons, List.all_nil, vop, VOp.still, VOp.app, VOp.plain, allP, lof, evs, start, asI, vbin, vcells, ntup, setAll, vfill, vress, vres, tup, Nat.reduceEqDiff, ↓reduceIte, Nat.reduceAdd, Nat.reduceMul, Nat.reduceLeDiff, reduceCtorEq]
  · have hne : la ≠ lb := by intro e; subst e; exact hnm (ha.1.trans hb.1.symm)
    have h1 : ((n : Int) != (m : Int)) = true := by simp; omega
    simp -implicitDefEqProofs only [v95, VMs, noRef, noRef1, isRef, List.all_cons, List.all_nil, vop, VOp.still, VOp.app, VOp.plain, allP, lof, evs, start, asI, vbin, vcells, ntup, setAll, vfill, vress, vres, tup, Nat.reduceEqDiff, ↓reduceIte, Nat.reduceAdd, Nat.reduceMul, Nat.reduceLeDiff, reduceCtorEq, slen, h1, hne, decide_false]
theorem eqRecordsResult_c (d lo : Nat) (H : Hp) (a b : Option Addr) (n m : Nat) (la lb : List (List Int)) (ha : Rep ER 1 H a n la) (hb : Rep ER 1 H b m lb) (hn : Sm n) (hk : ∀ x ∈ la, Sm x.length) (c u c' u' : Int) :
    vcall env (d + 3) 56 [.agg #[.int .i64 c, .int .i64 u, .slice a n (sg a 1)], .agg #[.int .i64 c', .int .i64 u', .slice b m (sg b 1)]] lo H = some (.bool (decide (c = c' ∧ u = u' ∧ la = lb)), H) := by
  rw [call_eq find56 _ _ _ rfl]
  have c1 := fun l => eqInt64SS_c d H.length (H ++ l) a b n m la lb (ha.app fun _ _ _ => ER.app) (hb.app fun _ _ _ => ER.app) hn hk
  simp -implicitDefEqProofs only [v56, VMs, noRef, noRef1, isRef, List.all_cons, List.all_nil, vop, VOp.still, VOp.app, VOp.plain, allP, lof, evs, start, asI, vbin, vcells, ntup, setAll, vfill, vress, vres, tup, Nat.reduceEqDiff, ↓reduceIte, Nat.reduceAdd, Nat.reduceMul, Nat.reduceLeDiff, reduceCtorEq, c1]
  by_cases h1 : c = c' <;> by_cases h2 : u = u' <;> by_cases h3 : la = lb <;> simp [h1, h2, h3]
/-! ### Marks -/
/-- Rows in own memory: K j are the numbers of the j-th. -/
structure OKR (S : Nat → Prop) (lo : Nat) (H : Hp) (p o : Nat) (K : Nat → Option Addr) (l : List (List Int)) : Prop where
  s : S p ∧ p < H.length
  e : ∀ j x, l[j]? = some x → rd H ⟨p, o + j, none⟩ = some (.slice (K j) x.length (sg (K j) 1)) ∧ Rep EI 1 H (K j) x.length x
  own : ∀ j x, l[j]? = some x → ∀ i, Ad (K j) i → WB lo H i ∧ S i ∧ i ≠ p
  ne : ∀ j j' x x', l[j]? = some x → l[j']? = some x' → j ≠ j' → ∀ i, Ad (K j) i → ¬ Ad (K j') i
def OR (S : Nat → Prop) (lo : Nat) (H : Hp) (a : Option Addr) (n : Nat) (l : List (List Int)) : Prop := n = l.length ∧ (l ≠ [] → ∃ p o K, a = some ⟨p, o, none⟩ ∧ OKR S lo H p o K l)
theorem OKR.fr {S T : Nat → Prop} {lo : Nat} {H H' : Hp} {p o : Nat} {K : Nat → Option Addr} {l : List (List Int)} (h : OKR S lo H p o K l) (hT : ∀ i, S i → ¬ T i) (hf : Fr T H H') : OKR S lo H' p o K l :=
  ⟨⟨h.s.1, Nat.lt_of_lt_of_le h.s.2 hf.len⟩, fun j x hx => ⟨(hf.rd _ _ (rd_lt (h.e j x hx).1) (hT _ h.s.1)).trans (h.e j x hx).1, (h.e j x hx).2.fr (fun i hi => hT _ (h.own j x hx i hi).2.1) hf⟩, fun j x hx i hi => ⟨hf.wb _ _ (h.own j x hx i hi).1, (h.own j x hx i hi).2⟩, h.ne⟩
theorem OR.fr {S T : Nat → Prop} {lo : Nat} {H H' : Hp} {a : Option Addr} {n : Nat} {l : List (List Int)} (h : OR S lo H a n l) (hT : ∀ i, S i → ¬ T i) (hf : Fr T H H') : OR S lo H' a n l :=
  ⟨h.1, fun hl => let ⟨p, o, K, ha, ok⟩ := h.2 hl; ⟨p, o, K, ha, ok.fr hT hf⟩⟩
theorem OR.lo {S : Nat → Prop} {lo lo' : Nat} {H : Hp} {a : Option Addr} {n : Nat} {l : List (List Int)} (h : OR S lo H a n l) (hl : lo' ≤ lo) : OR S lo' H a n l :=
  ⟨h.1, fun hn => let ⟨p, o, K, ha, ok⟩ := h.2 hn; ⟨p, o, K, ha, ok.s, ok.e, fun j x hx i hi => ⟨(ok.own j x hx i hi).1.lo hl, (ok.own j x hx i hi).2⟩, ok.ne⟩⟩
theorem OR.rep {S : Nat → Prop} {lo : Nat} {H : Hp} {a : Option Addr} {n : Nat} {l : List (List Int)} (h : OR S lo H a n l) : Rep ER 1 H a n l :=
  ⟨h.1, fun hl => let ⟨p, o, K, ha, ok⟩ := h.2 hl; ⟨p, o, ha, fun j x hx => ⟨K j, by rw [Nat.mul_one]; exact (ok.e j x hx).1, (ok.e j x hx).2⟩⟩⟩
def sR (l : List (List Int)) : Int := (l.map fun x => (x.length : Int)).sum
def mR : List (List Int) → Int → List (List Int)
  | [], _ => []
  | x :: r, k => mI x.length k :: mR r (k + (x.length : Int))
theorem mR_len : ∀ (l : List (List Int)) (k : Int), (mR l k).length = l.length
  | [], _ => rfl
  | x :: r, k => by simp [mR, mR_len r]
theorem sR_cons (x : List Int) (r : List (List Int)) : sR (x :: r) = (x.length : Int) + sR r := by simp [sR]
theorem sR_nonneg : ∀ l : List (List Int), 0 ≤ sR l
  | [] => by simp [sR]
  | x :: r => by have := sR_nonneg r; rw [sR_cons]; omega
theorem sR_take : ∀ (l : List (List Int)) (j : Nat) (x : List Int), l[j]? = some x → sR (l.take (j + 1)) = sR (l.take j) + (x.length : Int) ∧ sR (l.take (j + 1)) ≤ sR l
  | [], j, x, h => by simp at h
  | y :: r, 0, x, h => by simp at h; subst h; simp only [List.take_succ_cons, List.take_zero, sR_cons]; have := sR_nonneg r; have e : sR [] = 0 := rfl; omega
  | y :: r, j + 1, x, h => by
    have ⟨h1, h2⟩ := sR_take r j x (by simpa using h)
    simp only [List.take_succ_cons, sR_cons] at h1 h2 ⊢; omega
theorem mR_at : ∀ (l : List (List Int)) (k : Int) (j : Nat) (x : List Int), l[j]? = some x → (mR l k)[j]? = some (mI x.length (k + sR (l.take j)))
  | [], k, j, x, h => by simp at h
  | y :: r, k, 0, x, h => by simp at h; subst h; simp [mR, sR]
  | y :: r, k, j + 1, x, h => by
    have := mR_at r (k + (y.length : Int)) j x (by simpa using h)
    simp only [mR, List.getElem?_cons_succ, List.take_succ_cons, sR_cons, this, Int.add_assoc]
theorem markInt64SS_c (d lo : Nat) (H : Hp) (S : Nat → Prop) (a : Option Addr) (n : Nat) (l : List (List Int)) (k : Int) (hr : OR S lo H a n l) (hn : Sm n) (hs : ∀ x ∈ l, Sm x.length) (hk : 0 ≤ k) (hk' : Km (k + sR l)) :
    ∃ H', vcall env (d + 2) 96 [.slice a n (sg a 1), .int .i64 k] lo H = some (.int .i64 (k + sR l), H') ∧ H'.length = H.length ∧ Fr S H H' ∧ Rep ER 1 H' a n (mR l k) := by
  have htk : k + sR (l.take n) = k + sR l := by rw [hr.1, List.take_length]
  have hloop : ∃ r, lim (rnd (vcall env (d + 1)) lo [0, 1, 5] [1, 4] l96_0) [(0, .slice a n (sg a 1)), (1, .int .i64 k), (5, .int .i64 0)] H = some r ∧ ∃ H', r = (.exit 0, [(1, .int .i64 (k + sR l))], H') ∧ H'.length = H.length ∧ Fr S H H' ∧ Rep ER 1 H' a n (mR l k) := by
    rcases Nat.eq_zero_or_pos n with h0 | h0
    · subst h0
      have : l = [] := List.length_eq_zero_iff.1 hr.1.symm
      subst this
      exact ⟨_, lim_end (by simp -implicitDefEqProofs only [rnd, l96_0, VMs, noRef, noRef1, isRef, List.all_cons, List.all_nil, vop, VOp.still, VOp.app, VOp.plain, allP, lof, evs, start, asI, vbin, vcells, ntup, setAll, vfill, vress, vres, tup, Nat.reduceEqDiff, ↓reduceIte, Nat.reduceAdd, Nat.reduceMul, Nat.reduceLeDiff, reduceCtorEq, slen, Int.natCast_zero, Int.lt_irrefl, decide_false]; rfl) (by simp), H, by simp -implicitDefEqProofs only [sR, List.map_nil, List.sum_nil, Int.add_zero], rfl, Fr.refl, Rep.nil⟩
    obtain ⟨p, o, K, rfl, ok⟩ := hr.2 (by intro e; rw [e] at hr; have := hr.1; simp at this; omega)
    refine lim_inv (fun j ts H' => ts = [(0, .slice (some ⟨p, o, none⟩) n (sg (some ⟨p, o, none⟩) 1)), (1, .int .i64 (k + sR (l.take j))), (5, .int .i64 (j : Int))] ∧ H'.length = H.length ∧ Fr (fun i => S i ∧ i ≠ p) H H' ∧ (∀ j' x, j' < j → l[j']? = some x → Rep EI 1 H' (K j') x.length (mI x.length (k + sR (l.take j')))) ∧ ∀ j' x, j ≤ j' → l[j']? = some x → Rep EI 1 H' (K j') x.length x) n ?_ ?_ ?_
    · rintro j ts H1 hj ⟨rfl, hlen, hfr, hc1, hc2⟩
      have hjl : j < l.length := by rw [← hr.1]; exact hj
      have hx := getE hjl
      have ej := hc2 j _ (Nat.le_refl _) hx
      obtain ⟨st1, st2⟩ := sR_take l j _ hx
      have st0 := sR_nonneg (l.take j)
      have es : rd H1 ⟨p, o + j, none⟩ = some (.slice (K j) l[j].length (sg (K j) 1)) := (hfr.rd _ _ ok.s.2 (fun h => h.2 rfl)).trans (ok.e j _ hx).1
      generalize hkj : k + sR (l.take j) = kj at *
      obtain ⟨H4, hc, hlen4, f4, r4⟩ := markInt64S_c d lo H1 (Ad (K j)) (K j) l[j].length l[j] kj ej
        (fun _ i o he => ⟨hfr.wb _ _ (ok.own j _ hx i ⟨o, he⟩).1, o, he⟩) (hs _ (List.getElem_mem hjl)) (by omega) (hk'.lt (by omega) (by omega))
      have hknext : kj + (l[j].length : Int) = k + sR (l.take (j + 1)) := by omega
      have oth : ∀ j' x y, l[j']? = some x → j' ≠ j → y.length = x.length → Rep EI 1 H1 (K j') x.length y → Rep EI 1 H4 (K j') x.length y := fun j' x y hx' hne _ hy => hy.fr (fun i hi => ok.ne j' j x _ hx' hx hne i hi) f4
      refine ⟨_, H4, by simp -implicitDefEqProofs only [rnd, l96_0, VMs, noRef, noRef1, isRef, List.all_cons, List.all_nil, vop, VOp.still, VOp.app, VOp.plain, allP, lof, evs, start, asI, vbin, vcells, ntup, setAll, vfill, vress, vres, tup, Nat.reduceEqDiff, ↓reduceIte, Nat.reduceAdd, Nat.reduceMul, Nat.reduceLeDiff, reduceCtorEq, slen, ltc hj, ge0, decide_true, Int.toNat_natCast, Nat.mul_one, es, hc, hn.w hj, hknext], rfl, by rw [hlen4, hlen], hfr.trans (f4.mono fun i hi => (ok.own j _ hx i hi).2), ?_, ?_⟩
      · intro j' x hj' hx'
        rcases Nat.lt_succ_iff_lt_or_eq.1 hj' with h | h
        · exact oth j' x _ hx' (by omega) (mI_len _ _) (hc1 j' x h hx')
        · subst h
          rw [hx] at hx'; cases hx'
          rw [hkj]; exact r4
      · intro j' x hj' hx'
        exact oth j' x _ hx' (by omega) rfl (hc2 j' x (by omega) hx')
    · rintro ts H1 ⟨rfl, hlen, hfr, hc1, hc2⟩
      refine ⟨(.exit 0, [(1, .int .i64 (k + sR (l.take n)))], H1), by simp -implicitDefEqProofs only [rnd, l96_0, VMs, noRef, noRef1, isRef, List.all_cons, List.all_nil, vop, VOp.still, VOp.app, VOp.plain, allP, lof, evs, start, asI, vbin, vcells, ntup, setAll, vfill, vress, vres, tup, Nat.reduceEqDiff, ↓reduceIte, Nat.reduceAdd, Nat.reduceMul, Nat.reduceLeDiff, reduceCtorEq, slen, Int.lt_irrefl, decide_false], by simp, H1, by rw [htk], hlen, hfr.mono fun i hi => hi.1, by rw [mR_len]; exact hr.1, fun hne => ⟨p, o, rfl, fun j x hx => ?_⟩⟩
      have hj : j < l.length := by have := (List.getElem?_eq_some_iff.1 hx).1; rw [mR_len] at this; exact this
      rw [mR_at l k j _ (getE hj)] at hx; cases hx
      refine ⟨K j, ?_, ?_⟩
      · rw [mI_len, Nat.mul_one]
        exact (hfr.rd _ _ ok.s.2 (fun h => h.2 rfl)).trans (ok.e j _ (getE hj)).1
      · rw [mI_len]; exact hc1 j _ (by rw [hr.1]; exact hj) (getE hj)
    · exact ⟨by simp [sR], rfl, Fr.refl, fun j' x h => by omega, fun j' x _ hx => (ok.e j' x hx).2⟩
  obtain ⟨_, hl, H', rfl, h1, h2, h3⟩ := hloop
  refine ⟨H', ?_, h1, h2, h3⟩
  rw [call_eq find96 _ _ _ rfl]
  simp -implicitDefEqProofs only [v96, VMs, noRef, noRef1, isRef, List.all_cons, List.all_nil, vop, VOp.still, VOp.app, VOp.plain, allP, lof, evs, start, asI, vbin, vcells, ntup, setAll, vfill, vress, vres, tup, Nat.reduceEqDiff, ↓reduceIte, Nat.reduceAdd, Nat.reduceMul, Nat.reduceLeDiff, reduceCtorEq, vlp, hl]
theorem markRecordsResult_c (d lo : Nat) (H : Hp) (S : Nat → Prop) (a : Option Addr) (n : Nat) (l : List (List Int)) (c u k : Int) (hr : OR S lo H a n l) (hl : ∀ i, S i → i < H.length) (hn : Sm n) (hs : ∀ x ∈ l, Sm x.length) (hk : 0 ≤ k) (hk' : Km (k + sR l)) :
    ∃ H', vcall env (d + 3) 57 [.agg #[.int .i64 c, .int .i64 u, .slice a n (sg a 1)], .int .i64 k] lo H = some (.int .i64 (k + sR l), H') ∧ Fr S H H' ∧ Rep ER 1 H' a n (mR l k) := by
  obtain ⟨H1, c1, l1, f1, r1⟩ := markInt64SS_c d lo (H ++ [some ⟨[.int .i64 c, .int .i64 u, .slice a n (sg a 1)], true, false⟩]) S a n l k (hr.fr (T := fun _ => False) (fun _ _ => id) Fr.app) hn hs hk hk'
  refine ⟨H1, ?_, Fr.trans Fr.app f1, r1⟩
  rw [call_eq find57 _ _ _ rfl]
  simp -implicitDefEqProofs only [v57, VMs, noRef, noRef1, isRef, List.all_cons, List.all_nil, vop, VOp.still, VOp.app, VOp.plain, allP, lof, evs, start, asI, vbin, vcells, ntup, setAll, vfill, vress, vres, tup, Nat.reduceEqDiff, ↓reduceIte, Nat.reduceAdd, Nat.reduceMul, Nat.reduceLeDiff, reduceCtorEq, c1]
theorem heldInt64SS_c (d lo : Nat) (H : Hp) (a : Option Addr) (n : Nat) (l : List (List Int)) (k : Int) (hr : Rep ER 1 H a n (mR l k)) (hn : Sm n) (hs : ∀ x ∈ l, Sm x.length) (hk : 0 ≤ k) (hk' : Km (k + sR l)) :
    vcall env (d + 2) 97 [.slice a n (sg a 1), .int .i64 k] lo H = some (.int .i64 (k + sR l), H) := by
  have hnl : n = l.length := by rw [hr.1, mR_len]
  have htk : k + sR (l.take n) = k + sR l := by rw [hnl, List.take_length]
  have hl := lim_up (f := rnd (vcall env (d + 1)) H.length [0, 1, 5] [1, 4] l97_0) (r := (.exit 0, [(1, .int .i64 (k + sR (l.take n)))], H)) (by simp) (fun j => [(0, .slice a n (sg a 1)), (1, .int .i64 (k + sR (l.take j))), (5, .int .i64 (j : Nat))]) (fun _ => H) n
    (by simp -implicitDefEqProofs only [rnd, l97_0, VMs, noRef, noRef1, isRef, List.all_cons, List.all_nil, vop, VOp.still, VOp.app, VOp.plain, allP, lof, evs, start, asI, vbin, vcells, ntup, setAll, vfill, vress, vres, tup, Nat.reduceEqDiff, ↓reduceIte, Nat.reduceAdd, Nat.reduceMul, Nat.reduceLeDiff, reduceCtorEq, slen, Int.lt_irrefl, decide_false])
    (fun j hj => by
      have hjl : j < l.length := by rw [← hnl]; exact hj
      have hx := getE hjl
      obtain ⟨p, o, rfl, e0⟩ := hr.at (j := j) (by rw [mR_len]; exact hjl)
      have e1 := mR_at l k j _ hx
      rw [getE (by rw [mR_len]; exact hjl)] at e1
      rw [Option.some.inj e1] at e0
      obtain ⟨st1, st2⟩ := sR_take l j _ hx
      have st0 := sR_nonneg (l.take j)
      have hknext : k + sR (l.take j) + (l[j].length : Int) = k + sR (l.take (j + 1)) := by omega
      generalize hkj : k + sR (l.take j) = kj at *
      obtain ⟨a', g3, g4⟩ := e0
      simp only [mI_len, Nat.mul_one] at g3 g4
      have hc := heldInt64S_c d H.length H a' l[j].length kj g4 (hs _ (List.getElem_mem hjl)) (by omega) (hk'.lt (by omega) (by omega))
      have hneg : decide (k + sR (l.take (j + 1)) < 0) = false := decide_eq_false (by omega)
      simp -implicitDefEqProofs only [rnd, l97_0, VMs, noRef, noRef1, isRef, List.all_cons, List.all_nil, vop, VOp.still, VOp.app, VOp.plain, allP, lof, evs, start, asI, vbin, vcells, ntup, setAll, vfill, vress, vres, tup, Nat.reduceEqDiff, ↓reduceIte, Nat.reduceAdd, Nat.reduceMul, Nat.reduceLeDiff, reduceCtorEq, slen, ltc hj, ge0, decide_true, Int.toNat_natCast, Nat.mul_one, g3, hc, hn.w hj, hknext, hneg])
  have hz : sR (l.take 0) = 0 := by simp [sR]
  simp only [Int.natCast_zero, hz, Int.add_zero, htk] at hl
  rw [call_eq find97 _ _ _ rfl]
  simp -implicitDefEqProofs only [v97, VMs, noRef, noRef1, isRef, List.all_cons, List.all_nil, vop, VOp.still, VOp.app, VOp.plain, allP, lof, evs, start, asI, vbin, vcells, ntup, setAll, vfill, vress, vres, tup, Nat.reduceEqDiff, ↓reduceIte, Nat.reduceAdd, Nat.reduceMul, Nat.reduceLeDiff, reduceCtorEq, vlp, hl]
theorem heldRecordsResult_c (d lo : Nat) (H : Hp) (a : Option Addr) (n : Nat) (l : List (List Int)) (c u k : Int) (hr : Rep ER 1 H a n (mR l k)) (hn : Sm n) (hs : ∀ x ∈ l, Sm x.length) (hk : 0 ≤ k) (hk' : Km (k + sR l)) :
    vcall env (d + 3) 58 [.agg #[.int .i64 c, .int .i64 u, .slice a n (sg a 1)], .int .i64 k] lo H = some (.int .i64 (k + sR l), H) := by
  have sn := sR_nonneg l
  have c1 := fun L => heldInt64SS_c d H.length (H ++ L) a n l k (hr.app fun _ _ _ => ER.app) hn hs hk hk'
  have e1 : decide (k + sR l < 0) = false := decide_eq_false (by omega)
  rw [call_eq find58 _ _ _ rfl]
  simp -implicitDefEqProofs only [v58, VMs, noRef, noRef1, isRef, List.all_cons, List.all_nil, vop, VOp.still, VOp.app, VOp.plain, allP, lof, evs, start, asI, vbin, vcells, ntup, setAll, vfill, vress, vres, tup, Nat.reduceEqDiff, ↓reduceIte, Nat.reduceAdd, Nat.reduceMul, Nat.reduceLeDiff, reduceCtorEq, c1, e1]
end Go.Proofs.Ytaahjfjpbilfnaa.V
