/- What is wrong with a plain pool? The program's answer. -/
import Derived.Test.YtohanpndekfbgaaDoorVLD
namespace Go.Proofs.YtohanpndekfbgaaDoor.V
open Go
set_option linter.unusedVariables false
set_option linter.unusedSimpArgs false
set_option maxRecDepth 100000
theorem isNaN_c (d lo : Nat) (H : Hp) (x : Int) : vcall env (d + 1) 59 [.int .i64 x] lo H = some (.bool false, H) := by
  rw [call_eq find59 _ _ _ rfl]
  simp -implicitDefEqProofs only [v59, VMs, noRef, noRef1, isRef, List.all_cons, List.all_nil, vop, VOp.still, VOp.app, VOp.plain, allP, lof, evs, start, asI, vbin, vcells, ntup, setAll, vfill, vress, vres, tup, Nat.reduceEqDiff, ↓reduceIte, Nat.reduceAdd, Nat.reduceMul, Nat.reduceLeDiff, reduceCtorEq, bne_self_eq_false]
def cmpI (a b : Int) : Int := if a < b then -1 else if a > b then 1 else 0
theorem compare_c (d lo : Nat) (H : Hp) (a b : Int) : vcall env (d + 2) 51 [.int .i64 a, .int .i64 b] lo H = some (.int .i64 (cmpI a b), H) := by
  rw [call_eq find51 _ _ _ rfl]
  unfold cmpI
  by_cases h1 : a < b
  · rw [if_pos h1]
    simp -implicitDefEqProofs only [v51, VMs, noRef, noRef1, isRef, List.all_cons, List.all_nil, vop, VOp.still, VOp.app, VOp.plain, allP, lof, evs, start, asI, vbin, vcells, ntup, setAll, vfill, vress, vres, tup, Nat.reduceEqDiff, ↓reduceIte, Nat.reduceAdd, Nat.reduceMul, Nat.reduceLeDiff, reduceCtorEq, isNaN_c, h1, decide_true]
  · rw [if_neg h1]
    by_cases h2 : a > b
    · rw [if_pos h2]
      simp -implicitDefEqProofs only [v51, VMs, noRef, noRef1, isRef, List.all_cons, List.all_nil, vop, VOp.still, VOp.app, VOp.plain, allP, lof, evs, start, asI, vbin, vcells, ntup, setAll, vfill, vress, vres, tup, Nat.reduceEqDiff, ↓reduceIte, Nat.reduceAdd, Nat.reduceMul, Nat.reduceLeDiff, reduceCtorEq, isNaN_c, h1, h2, decide_true, decide_false]
    · rw [if_neg h2]
      simp -implicitDefEqProofs only [v51, VMs, noRef, noRef1, isRef, List.all_cons, List.all_nil, vop, VOp.still, VOp.app, VOp.plain, allP, lof, evs, start, asI, vbin, vcells, ntup, setAll, vfill, vress, vres, tup, Nat.reduceEqDiff, ↓reduceIte, Nat.reduceAdd, Nat.reduceMul, Nat.reduceLeDiff, reduceCtorEq, isNaN_c, h1, h2, decide_true, decide_false]
theorem cmpOr_c (d lo : Nat) (H : Hp) (i : Nat) (x y : Int) (h0 : rd H ⟨i, 0, none⟩ = some (.int .i64 x)) (h1 : rd H ⟨i, 1, none⟩ = some (.int .i64 y)) : vcall env (d + 1) 50 [.slice (some ⟨i, 0, none⟩) 2 1] lo H = some (.int .i64 (ff [x, y]), H) := by
  have l0 := lim_firstC (f := rnd (vcall env d) H.length [3, 6, 7, 8] [2, 3] l50_0) (H := H) (R := (.exit 0, [(3, .int .i64 0)], H)) (E := fun x => (.ret, [(2, .int .i64 x), (3, .int .i64 0)], H)) (by simp) (by simp) (fun j => [(3, .int .i64 0), (6, .slice (some ⟨i, 0, none⟩) 2 1), (7, .int .i64 2), (8, .int .i64 (j : Nat))]) [x, y]
    (fun j z hj _ => by
      have hj2 : j < 2 := by have := (List.getElem?_eq_some_iff.1 hj).1; simpa using this
      have hl : ((j : Int) < 2) = True := eq_true (by omega)
      have hl' : ((j : Int) < ((2 : Nat) : Int)) = True := eq_true (by omega)
      have hw : IntKind.i64.wrap ((j : Int) + 1) = ((j + 1 : Nat) : Int) := by rw [wr (by omega) (by omega)]; rfl
      have hr : rd H ⟨i, j, none⟩ = some (.int .i64 z) := by
        rcases (by omega : j = 0 ∨ j = 1) with rfl | rfl
        · simp only [List.getElem?_cons_zero, Option.some.injEq] at hj; rw [← hj]; exact h0
        · simp only [List.getElem?_cons_succ, List.getElem?_cons_zero, Option.some.injEq] at hj; rw [← hj]; exact h1
      by_cases hz : z = 0
      · rw [if_pos hz]
        have hb : (z != 0) = false := by simp [hz]
        simp -implicitDefEqProofs only [rnd, l50_0, VMs, noRef, noRef1, isRef, List.all_cons, List.all_nil, vop, VOp.still, VOp.app, VOp.plain, allP, lof, evs, start, asI, vbin, vcells, ntup, setAll, vfill, vress, vres, tup, Nat.reduceEqDiff, ↓reduceIte, Nat.reduceAdd, Nat.reduceMul, Nat.reduceLeDiff, reduceCtorEq, slen, hl, hl', ge0, decide_true, Int.toNat_natCast, Nat.mul_one, hr, hb, hw]
      · rw [if_neg hz]
        have hb : (z != 0) = true := by simp [hz]
        simp -implicitDefEqProofs only [rnd, l50_0, VMs, noRef, noRef1, isRef, List.all_cons, List.all_nil, vop, VOp.still, VOp.app, VOp.plain, allP, lof, evs, start, asI, vbin, vcells, ntup, setAll, vfill, vress, vres, tup, Nat.reduceEqDiff, ↓reduceIte, Nat.reduceAdd, Nat.reduceMul, Nat.reduceLeDiff, reduceCtorEq, slen, hl, hl', ge0, decide_true, Int.toNat_natCast, Nat.mul_one, hr, hb, hw])
    (fun _ => by
      have hl : (((2 : Nat) : Int) < 2) = False := eq_false (by omega)
      simp -implicitDefEqProofs only [List.length_cons, List.length_nil, Nat.zero_add, Nat.reduceAdd, rnd, l50_0, VMs, noRef, noRef1, isRef, List.all_cons, List.all_nil, vop, VOp.still, VOp.app, VOp.plain, allP, lof, evs, start, asI, vbin, vcells, ntup, setAll, vfill, vress, vres, tup, Nat.reduceEqDiff, ↓reduceIte, Nat.reduceAdd, Nat.reduceMul, Nat.reduceLeDiff, reduceCtorEq, slen, hl, decide_false])
  simp only [Int.natCast_zero] at l0
  have h2 : ((2 : Nat) : Int) = 2 := rfl
  rw [call_eq find50 _ _ _ rfl]
  by_cases hz : ff [x, y] = 0
  · rw [if_pos hz] at l0
    simp -implicitDefEqProofs only [v50, VMs, noRef, noRef1, isRef, List.all_cons, List.all_nil, vop, VOp.still, VOp.app, VOp.plain, allP, lof, evs, start, asI, vbin, vcells, ntup, setAll, vfill, vress, vres, tup, Nat.reduceEqDiff, ↓reduceIte, Nat.reduceAdd, Nat.reduceMul, Nat.reduceLeDiff, reduceCtorEq, slen, h2, vlp, l0, hz]
  · rw [if_neg hz] at l0
    simp -implicitDefEqProofs only [v50, VMs, noRef, noRef1, isRef, List.all_cons, List.all_nil, vop, VOp.still, VOp.app, VOp.plain, allP, lof, evs, start, asI, vbin, vcells, ntup, setAll, vfill, vress, vres, tup, Nat.reduceEqDiff, ↓reduceIte, Nat.reduceAdd, Nat.reduceMul, Nat.reduceLeDiff, reduceCtorEq, slen, h2, vlp, l0]
def ordC (a b : Vo) : Int := ff [cmpI a.i b.i, cmpI a.q b.q]
theorem cellOrder_c (d lo : Nat) (H : Hp) (a b : Vo) : vcall env (d + 3) 35 [VV a, VV b] lo H = some (.int .i64 (ordC a b), H) := by
  have hor := fun (l : List (Option Blk)) lo => cmpOr_c (d + 1) lo (H ++ (some ⟨[.int .i64 a.i, .int .i64 a.q, .int .i64 a.r], true, false⟩ :: some ⟨[.int .i64 b.i, .int .i64 b.q, .int .i64 b.r], true, false⟩ :: some ⟨[.int .i64 (cmpI a.i b.i), .int .i64 (cmpI a.q b.q)], true, false⟩ :: l)) (H.length + 2) (cmpI a.i b.i) (cmpI a.q b.q) (by simp [rdk]) (by simp [rdk])
  have h20 : (2 == 0) = false := rfl
  rw [call_eq find35 _ _ _ rfl]
  simp -implicitDefEqProofs only [VV, v35, VMs, noRef, noRef1, isRef, List.all_cons, List.all_nil, vop, VOp.still, VOp.app, VOp.plain, allP, lof, evs, start, asI, vbin, vcells, ntup, setAll, vfill, vress, vres, tup, Nat.reduceEqDiff, ↓reduceIte, Nat.reduceAdd, Nat.reduceMul, Nat.reduceLeDiff, reduceCtorEq, vdr, compare_c, h20, hor, ordC]
theorem ordC_ahead (a b : Vo) : ordC a b ≥ 0 ↔ ahead a b = false := by
  unfold ordC ahead cmpI ff
  by_cases h1 : a.i < b.i
  · have hne : a.i ≠ b.i := by omega
    simp [h1, hne, ff]
  · by_cases h2 : a.i > b.i
    · have hne : a.i ≠ b.i := by omega
      simp [h1, h2, hne, ff]
    · have he : a.i = b.i := by omega
      by_cases h3 : a.q < b.q
      · simp [he, h3, ff]
      · by_cases h4 : a.q > b.q <;> simp [he, h3, h4, ff]
theorem volsFault_c (d lo : Nat) (H : Hp) (a : Option Addr) (n : Nat) (l : List Vo) (h : Rep EV 3 H a n l) (hs : Sm l.length) :
    vcall env (d + 3) 31 [.slice a n (sg a 3)] lo H = some (.int .i64 (ff (wCs l)), H) := by
  have n2 := h.1
  have hsv : Sm n := n2 ▸ hs
  obtain ⟨H2, l0, f2⟩ := lim_first (f := rnd (vcall env (d + 2)) H.length [0, 5, 6, 7] [2] l31_0) (H := H) (R := fun H => (.exit 0, [], H)) (E := fun x H => (.ret, [(2, .int .i64 x)], H)) (by simp) (by simp) (fun i => [(0, .slice a n (sg a 3)), (5, .slice a n (sg a 3)), (6, .int .i64 (n : Nat)), (7, .int .i64 (i : Nat))]) (wCs l)
    (fun i x H' hx hf h0 => by
      obtain ⟨hi, rfl⟩ := rmap_at hx
      have hin : i < n := by omega
      have h' := h.fnV hf
      have hle : (H.length ≤ H'.length) = True := eq_true hf.len
      obtain ⟨pv, ov, rfl, e⟩ := h'.at hi
      have hev := e.val
      have hprev : 0 < i → ∃ y : Vo, l[i - 1]? = some y ∧ ∀ z, rd (H' ++ z) ⟨pv, ov + (i - 1) * 3, none⟩ = some (.int .i64 y.i) := fun h0 => by
        have hi1 : i - 1 < l.length := by omega
        obtain ⟨pv', ov', he, e'⟩ := h'.at hi1
        cases he
        exact ⟨_, getE hi1, fun z => rd_app e'.1⟩
      unfold wC
      rw [getE hi]
      simp only
      generalize l[i] = v at *
      refine ⟨H' ++ [some ⟨[.int .i64 v.i, .int .i64 v.q, .int .i64 v.r], true, false⟩], ?_, hf.trans Fr.app⟩
      by_cases h1 : ¬ (1 ≤ v.i ∧ v.i ≤ 99)
      · rw [if_neg (fun hh => h1 hh.1 : ¬ ((1 ≤ v.i ∧ v.i ≤ 99) ∧ (1 ≤ v.q ∧ v.q ≤ 16) ∧ v.r = -1))]
        simp -implicitDefEqProofs only [rnd, l31_0, VMs, noRef, noRef1, isRef, List.all_cons, List.all_nil, vop, VOp.still, VOp.app, VOp.plain, allP, lof, evs, start, asI, vbin, vcells, ntup, setAll, vfill, vress, vres, tup, Nat.reduceEqDiff, ↓reduceIte, Nat.reduceAdd, Nat.reduceMul, Nat.reduceLeDiff, reduceCtorEq, slen, ltc hin, ge0, hle, decide_true, decide_false, Int.toNat_natCast, hev, isId_c, h1, Int.reduceEq]
      replace h1 := Decidable.not_not.1 h1
      by_cases h2 : ¬ (1 ≤ v.q ∧ v.q ≤ 16)
      · rw [if_neg (fun hh => h2 hh.2.1 : ¬ ((1 ≤ v.i ∧ v.i ≤ 99) ∧ (1 ≤ v.q ∧ v.q ≤ 16) ∧ v.r = -1))]
        simp -implicitDefEqProofs only [rnd, l31_0, VMs, noRef, noRef1, isRef, List.all_cons, List.all_nil, vop, VOp.still, VOp.app, VOp.plain, allP, lof, evs, start, asI, vbin, vcells, ntup, setAll, vfill, vress, vres, tup, Nat.reduceEqDiff, ↓reduceIte, Nat.reduceAdd, Nat.reduceMul, Nat.reduceLeDiff, reduceCtorEq, slen, ltc hin, ge0, hle, decide_true, decide_false, Int.toNat_natCast, hev, isId_c, isQuota_c, h1, h2, Int.reduceEq]
      replace h2 := Decidable.not_not.1 h2
      by_cases h3 : v.r = -1
      · have h3' : (v.r != -1) = false := by simp [h3]
        rw [if_pos (⟨h1, h2, h3⟩ : (1 ≤ v.i ∧ v.i ≤ 99) ∧ (1 ≤ v.q ∧ v.q ≤ 16) ∧ v.r = -1)]
        by_cases h0 : 0 < i
        · obtain ⟨y, hy, hry⟩ := hprev h0
          have h0' : ((i : Int) > 0) = True := eq_true (by omega)
          have hw : IntKind.i64.wrap ((i : Int) - 1) = ((i - 1 : Nat) : Int) := by unfold Sm at hsv; rw [wr (by omega) (by omega)]; omega
          have hi1 : i - 1 < n := by omega
          rw [hy, Option.getD_some]
          by_cases h4 : v.i ≤ y.i
          · rw [if_pos (⟨h0, h4⟩ : 0 < i ∧ v.i ≤ y.i)]
            simp -implicitDefEqProofs only [rnd, l31_0, VMs, noRef, noRef1, isRef, List.all_cons, List.all_nil, vop, VOp.still, VOp.app, VOp.plain, allP, lof, evs, start, asI, vbin, vcells, ntup, setAll, vfill, vress, vres, tup, Nat.reduceEqDiff, ↓reduceIte, Nat.reduceAdd, Nat.reduceMul, Nat.reduceLeDiff, reduceCtorEq, vdr, slen, ltc hin, ltc hi1, ge0, hle, decide_true, decide_false, Int.toNat_natCast, hev, isId_c, isQuota_c, h1, h2, h3', h0', hw, hry, h4, Int.reduceEq]
          · rw [if_neg (fun hh => h4 hh.2 : ¬ (0 < i ∧ v.i ≤ y.i))]
            simp -implicitDefEqProofs only [rnd, l31_0, VMs, noRef, noRef1, isRef, List.all_cons, List.all_nil, vop, VOp.still, VOp.app, VOp.plain, allP, lof, evs, start, asI, vbin, vcells, ntup, setAll, vfill, vress, vres, tup, Nat.reduceEqDiff, ↓reduceIte, Nat.reduceAdd, Nat.reduceMul, Nat.reduceLeDiff, reduceCtorEq, vdr, slen, ltc hin, ltc hi1, ge0, hle, decide_true, decide_false, Int.toNat_natCast, hev, isId_c, isQuota_c, h1, h2, h3', h0', hw, hry, h4, Int.reduceEq, hsv.w hin]
        · have h0' : ((i : Int) > 0) = False := eq_false (by omega)
          rw [if_neg (fun hh => h0 hh.1 : ¬ (0 < i ∧ v.i ≤ ((l[i - 1]?).getD ⟨0, 0, 0⟩).i))]
          simp -implicitDefEqProofs only [rnd, l31_0, VMs, noRef, noRef1, isRef, List.all_cons, List.all_nil, vop, VOp.still, VOp.app, VOp.plain, allP, lof, evs, start, asI, vbin, vcells, ntup, setAll, vfill, vress, vres, tup, Nat.reduceEqDiff, ↓reduceIte, Nat.reduceAdd, Nat.reduceMul, Nat.reduceLeDiff, reduceCtorEq, vdr, slen, ltc hin, ge0, hle, decide_true, decide_false, Int.toNat_natCast, hev, isId_c, isQuota_c, h1, h2, h3', h0', Int.reduceEq, hsv.w hin]
      · have h3' : (v.r != -1) = true := by simp [h3]
        rw [if_neg (fun hh => h3 hh.2.2 : ¬ ((1 ≤ v.i ∧ v.i ≤ 99) ∧ (1 ≤ v.q ∧ v.q ≤ 16) ∧ v.r = -1))]
        simp -implicitDefEqProofs only [rnd, l31_0, VMs, noRef, noRef1, isRef, List.all_cons, List.all_nil, vop, VOp.still, VOp.app, VOp.plain, allP, lof, evs, start, asI, vbin, vcells, ntup, setAll, vfill, vress, vres, tup, Nat.reduceEqDiff, ↓reduceIte, Nat.reduceAdd, Nat.reduceMul, Nat.reduceLeDiff, reduceCtorEq, slen, ltc hin, ge0, hle, decide_true, decide_false, Int.toNat_natCast, hev, isId_c, isQuota_c, h1, h2, h3', Int.reduceEq])
    (fun H' hf h0 => by
      rw [wCs_len, ← n2]
      simp -implicitDefEqProofs only [rnd, l31_0, VMs, noRef, noRef1, isRef, List.all_cons, List.all_nil, vop, VOp.still, VOp.app, VOp.plain, allP, lof, evs, start, asI, vbin, vcells, ntup, setAll, vfill, vress, vres, tup, Nat.reduceEqDiff, ↓reduceIte, Nat.reduceAdd, Nat.reduceMul, Nat.reduceLeDiff, reduceCtorEq, slen, Int.lt_irrefl, decide_false]) Fr.refl
  simp only [Int.natCast_zero] at l0
  rw [call_eq find31 _ _ _ rfl]
  by_cases hz : ff (wCs l) = 0
  · rw [if_pos hz] at l0
    simp -implicitDefEqProofs only [v31, VMs, noRef, noRef1, isRef, List.all_cons, List.all_nil, vop, VOp.still, VOp.app, VOp.plain, allP, lof, evs, start, asI, vbin, vcells, ntup, setAll, vfill, vress, vres, tup, Nat.reduceEqDiff, ↓reduceIte, Nat.reduceAdd, Nat.reduceMul, Nat.reduceLeDiff, reduceCtorEq, slen, vlp, l0, hz]
  · rw [if_neg hz] at l0
    simp -implicitDefEqProofs only [v31, VMs, noRef, noRef1, isRef, List.all_cons, List.all_nil, vop, VOp.still, VOp.app, VOp.plain, allP, lof, evs, start, asI, vbin, vcells, ntup, setAll, vfill, vress, vres, tup, Nat.reduceEqDiff, ↓reduceIte, Nat.reduceAdd, Nat.reduceMul, Nat.reduceLeDiff, reduceCtorEq, slen, vlp, l0]
theorem cellsOf1_c (d lo : Nat) (H : Hp) (v : Vo) (c : Nat) (id : Int) (hc : rd H ⟨c, 0, none⟩ = some (.int .i64 id)) : vcall env (d + 1) 54 [VV v, .pointer (some ⟨c, 0, none⟩)] lo H = some (.bool (v.i != id), H) := by
  have hc' := fun l => rd_app (l := l) hc
  rw [call_eq find54 _ _ _ rfl]
  simp -implicitDefEqProofs only [VV, v54, VMs, noRef, noRef1, isRef, List.all_cons, List.all_nil, vop, VOp.still, VOp.app, VOp.plain, allP, lof, evs, start, asI, vbin, vcells, ntup, setAll, vfill, vress, vres, tup, Nat.reduceEqDiff, ↓reduceIte, Nat.reduceAdd, Nat.reduceMul, Nat.reduceLeDiff, reduceCtorEq, hc']
def own (cs : List Vo) (id : Int) : List Vo := cs.filter fun c => c.i == id
theorem own_len (cs : List Vo) (id : Int) : ((own cs id).length : Int) = cnt cs id := by unfold own cnt; rw [List.countP_eq_length_filter]
theorem cellsOf_c (d lo : Nat) (H : Hp) {a : Option Addr} {n : Nat} {l : List Vo} (h : Rep EV 3 H a n l) (hx : Ex H a) (hn : n ≤ 1000) (id : Int) :
    ∃ b H', vcall env (d + 4) 36 [.slice a n (sg a 3), .int .i64 id] lo H = some (.slice b (own l id).length (sg b 3), H') ∧ Fn H H' ∧ Rep EV 3 H' b (own l id).length (own l id) := by
  have hnl := h.1
  have hown : ∀ l : List Vo, (l.filter fun y => !(y.i != id)) = own l id := fun l => by
    unfold own; congr 1; funext y; show (!(y.i != id)) = (y.i == id); unfold bne; rw [Bool.not_not]
  rw [call_eq find36 _ _ _ rfl]
  cases a with
  | none =>
    have hl : l = [] := by
      cases l with
      | nil => rfl
      | cons x r => obtain ⟨i, o, e, _⟩ := h.2 (by simp); cases e
    subst hl
    have hn0 : n = 0 := hnl
    subst hn0
    have c1 : ∀ d lo H, vcall env (d + 1) 53 [.slice none 0 0] lo H = some (.slice none 0 0, H) := fun d lo H => by
      rw [call_eq find53 _ _ _ rfl]
      simp -implicitDefEqProofs only [v53, VMs, noRef, noRef1, isRef, List.all_cons, List.all_nil, vop, VOp.still, VOp.app, VOp.plain, allP, lof, evs, start, asI, vbin, vcells, ntup, setAll, vfill, vress, vres, tup, Nat.reduceEqDiff, ↓reduceIte, Nat.reduceAdd, Nat.reduceMul, Nat.reduceLeDiff, reduceCtorEq]
    have c2 : ∀ lo H g cap, vcall env (d + 3) 52 [.slice none 0 0, .func (.func g) #[] cap] lo H = some (.slice none 0 0, H) := fun lo H g cap => by
      obtain ⟨r, hc, hr⟩ := indexC_c (d + 1) lo H none 0 [] Rep.nil (by simp [Sm]) g cap (fun _ => false) (fun y hy => by simp at hy)
      have hr1 : r = -1 := by
        rcases hr with ⟨i, x, _, h1, _⟩ | ⟨h1, _⟩
        · simp at h1
        · exact h1
      subst hr1
      simp only [sgn] at hc
      rw [call_eq find52 _ _ _ rfl]
      simp -implicitDefEqProofs only [v52, VMs, noRef, noRef1, isRef, List.all_cons, List.all_nil, vop, VOp.still, VOp.app, VOp.plain, allP, lof, evs, start, asI, vbin, vcells, ntup, setAll, vfill, vress, vres, tup, Nat.reduceEqDiff, ↓reduceIte, Nat.reduceAdd, Nat.reduceMul, Nat.reduceLeDiff, reduceCtorEq, hc, beq_self_eq_true]
    refine ⟨none, H, ?_, Fr.refl, Rep.nil⟩
    simp -implicitDefEqProofs only [v36, VMs, noRef, noRef1, isRef, List.all_cons, List.all_nil, vop, VOp.still, VOp.app, VOp.plain, allP, lof, evs, start, asI, vbin, vcells, ntup, setAll, vfill, vress, vres, tup, Nat.reduceEqDiff, ↓reduceIte, Nat.reduceAdd, Nat.reduceMul, Nat.reduceLeDiff, reduceCtorEq, c1, isPtr, c2, own, List.filter_nil]
  | some A =>
    obtain ⟨C, hC⟩ : ∃ C : Option Blk, C = some ⟨[.int .i64 id], true, false⟩ := ⟨_, rfl⟩
    have fC : Fn H (H ++ [C]) := Fr.app
    obtain ⟨i, H2, ha, hf, hni⟩ := cloneC (lo := (H ++ [C] : Hp).length) (h.fnV fC) (hx.fn fC) (Nat.le_refl _) hn
    have hcl : ∀ d lo, vcall env (d + 1) 53 [.slice (some A) n 3] lo (H ++ [C]) = some (.slice (some ⟨i, 0, none⟩) n 3, H2) := fun d lo => by
      simp only [sgs] at ha
      rw [call_eq find53 _ _ _ rfl]
      simp only [List.length_append, List.length_cons, List.length_nil, Nat.zero_add, List.append_assoc, List.cons_append, List.nil_append] at ha
      simp -implicitDefEqProofs only [v53, VMs, noRef, noRef1, isRef, List.all_cons, List.all_nil, vop, VOp.still, VOp.app, VOp.plain, allP, lof, evs, start, asI, vbin, vcells, ntup, setAll, vfill, vress, vres, tup, Nat.reduceEqDiff, ↓reduceIte, Nat.reduceAdd, Nat.reduceMul, Nat.reduceLeDiff, reduceCtorEq, beq_self_eq_true, ha]
    have hcap : rd H2 ⟨H.length, 0, none⟩ = some (.int .i64 id) := (hf.rd _ _ (by simp) (fun hh => hh)).trans (by simp [rd0, hC])
    have hi1 : H.length + 1 ≤ i := by have := hni.lo; simpa using this
    obtain ⟨H3, hd, f3, r3⟩ := deleteC_c d H.length H2 i l (⟨hni.b, by omega⟩ : NC H.length H2 i l) (hnl ▸ hn) 54 #[.pointer (some ⟨H.length, 0, none⟩)] (fun v => v.i != id) (fun e y H' lo hfr => cellsOf1_c e lo H' y H.length id ((hfr.rd _ _ (rd_lt hcap) (by omega)).trans hcap))
    rw [hown l, ← hnl] at hd
    rw [hown l] at r3
    refine ⟨some ⟨i, 0, none⟩, H3, ?_, ((fC.trans hf).no.trans f3).new (fun j e => by omega), r3⟩
    subst hC
    simp -implicitDefEqProofs only [v36, VMs, vop, VOp.still, VOp.app, VOp.plain, allP, lof, evs, start, asI, vbin, vcells, ntup, setAll, vfill, vress, vres, tup, Nat.reduceEqDiff, ↓reduceIte, Nat.reduceAdd, Nat.reduceMul, Nat.reduceLeDiff, reduceCtorEq, hcl, isPtr, List.all_cons, List.all_nil, hd, noRef, noRef1, isRef, Bool.not_true, Bool.and_false, if_false, Bool.false_eq_true]
end Go.Proofs.YtohanpndekfbgaaDoor.V
