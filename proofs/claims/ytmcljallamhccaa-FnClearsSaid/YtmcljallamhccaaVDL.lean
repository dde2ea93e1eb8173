/- What is free; a node more: the reference's and the program's. -/
import Derived.Test.YtmcljallamhccaaVDK
namespace Go.Proofs.Ytmcljallamhccaa.V
open Go
set_option linter.unusedVariables false
set_option linter.unusedSimpArgs false
set_option maxRecDepth 100000
def slotB (l : List Bk) : Nat := l.findIdx fun x => x.r == 0
theorem slotB_le (l : List Bk) : slotB l ≤ l.length := List.findIdx_le_length
theorem slotB_dead {l : List Bk} (h : slotB l < l.length) : l[slotB l].r = 0 := by
  have := List.findIdx_getElem (xs := l) (p := fun x : Bk => x.r == 0) (w := h)
  exact beq_iff_eq.1 this
theorem slotB_eq {l : List Bk} {i : Nat} (hi : i < l.length) (h : l[i].r = 0) (hl : ∀ (j : Nat) (hj : j < i), (l[j]'(by omega)).r ≠ 0) : slotB l = i := by
  unfold slotB
  rw [List.findIdx_eq hi]
  exact ⟨by simp [h], fun j hj => by have := hl j hj; simpa using this⟩
theorem slotB_none {l : List Bk} (h : ∀ x ∈ l, x.r ≠ 0) : slotB l = l.length := by
  unfold slotB
  rw [List.findIdx_eq_length]
  intro x hx; simpa using h x hx
def FQ (q : Nat) (a b : Option Addr) (i : Nat) : Prop := i = q ∨ Ad a i ∨ Ad b i
/-! ### A block -/
theorem MF.reblk {lo : Nat} {H : Hp} {q : Nat} {a b : Option Addr} {ps : List (Nd × Option Addr)} {B : List Bk} (h : MF lo H q a b ps B) {j : Nat} {x : Bk} (hx : B[j]? = some x) (r v : Int) :
    ∃ t H', b = some ⟨t, 0, none⟩ ∧ wrN lo H ⟨t, j * 2, none⟩ [.int .i64 r, .int .i64 v] = some H' ∧ MF lo H' q a b ps (B.set j ⟨r, v⟩) ∧ Fr (Ad b) H H' ∧ H'.length = H.length := by
  obtain ⟨t, H', hb, w, m, f, l⟩ := h.block hx (o := 0) (vs := [.int .i64 r, .int .i64 v]) (by simp) ⟨r, v⟩ (by simp [vb, setAll])
  exact ⟨t, H', hb, w, m, f, l⟩
theorem l3Free_c (d lo : Nat) (H : Hp) {a : Option Addr} {n : Nat} {l : List Bk} (hr : Rep EB 2 H a n l) (hn : Sm n) :
    vcall env (d + 1) 89 [.slice a n (sg a 2)] lo H = some (.int .i64 (if slotB l < l.length then (slotB l : Int) else -1), H) := by
  have hloop : ∃ r, lim (rnd (vcall env d) H.length [0, 3] [2] l89_0) [(0, .slice a n (sg a 2)), (3, .int .i64 0)] H = some r ∧
      ((slotB l < l.length ∧ r = (.ret, [(2, .int .i64 (slotB l : Nat))], H)) ∨ (slotB l = l.length ∧ r = (.exit 0, [], H))) := by
    refine lim_inv2 (fun i ts H1 => ts = [(0, .slice a n (sg a 2)), (3, .int .i64 (i : Nat))] ∧ H1 = H ∧ ∀ (j : Nat) (hj : j < i) (hl : j < l.length), l[j].r ≠ 0) n ?_ ?_ ?_
    · rintro i ts H1 hi ⟨rfl, rfl, hp⟩
      have hil : i < l.length := by rw [← hr.1]; exact hi
      obtain ⟨p, o, rfl, e1, e2⟩ := hr.at hil
      by_cases h0 : l[i].r = 0
      · have hs := slotB_eq hil h0 (fun j hj => hp j hj (by omega))
        have hb : (l[i].r == 0) = true := by rw [h0]; rfl
        exact Or.inr ⟨(.ret, [(2, .int .i64 (i : Nat))], H1), by simp -implicitDefEqProofs only [rnd, l89_0, VMs, noRef, noRef1, isRef, List.all_cons, List.all_nil, vop, VOp.still, VOp.app, VOp.plain, allP, lof, evs, start, asI, vbin, vcells, ntup, setAll, vfill, vress, vres, tup, Nat.reduceEqDiff, ↓reduceIte, Nat.reduceAdd, Nat.reduceMul, Nat.reduceLeDiff, reduceCtorEq, slen, ltc hi, ge0, decide_true, Int.toNat_natCast, e1, hb], by simp, Or.inl ⟨by omega, by rw [hs]⟩⟩
      · have hb : (l[i].r == 0) = false := beq_eq_false_iff_ne.2 h0
        refine Or.inl ⟨[(0, .slice (some ⟨p, o, none⟩) n 2), (3, .int .i64 ((i + 1 : Nat) : Int))], H1, by simp -implicitDefEqProofs only [rnd, l89_0, VMs, noRef, noRef1, isRef, List.all_cons, List.all_nil, vop, VOp.still, VOp.app, VOp.plain, allP, lof, evs, start, asI, vbin, vcells, ntup, setAll, vfill, vress, vres, tup, Nat.reduceEqDiff, ↓reduceIte, Nat.reduceAdd, Nat.reduceMul, Nat.reduceLeDiff, reduceCtorEq, slen, ltc hi, ge0, decide_true, Int.toNat_natCast, e1, hb, hn.w hi], rfl, rfl, fun j hj hl => ?_⟩
        rcases Nat.lt_succ_iff_lt_or_eq.1 hj with h' | h'
        · exact hp j h' hl
        · subst h'; exact h0
    · rintro ts H1 ⟨rfl, rfl, hp⟩
      refine ⟨(.exit 0, [], H1), by simp -implicitDefEqProofs only [rnd, l89_0, VMs, noRef, noRef1, isRef, List.all_cons, List.all_nil, vop, VOp.still, VOp.app, VOp.plain, allP, lof, evs, start, asI, vbin, vcells, ntup, setAll, vfill, vress, vres, tup, Nat.reduceEqDiff, ↓reduceIte, Nat.reduceAdd, Nat.reduceMul, Nat.reduceLeDiff, reduceCtorEq, slen, Int.lt_irrefl, decide_false], by simp, Or.inr ⟨slotB_none fun x hx => ?_, rfl⟩⟩
      obtain ⟨j, hj, rfl⟩ := List.getElem_of_mem hx
      exact hp j (by rw [hr.1]; exact hj) hj
    · exact ⟨rfl, rfl, fun j hj => by omega⟩
  rw [call_eq find89 _ _ _ rfl]
  obtain ⟨r, hl, ⟨h1, rfl⟩ | ⟨h1, rfl⟩⟩ := hloop
  · rw [if_pos h1]
    simp -implicitDefEqProofs only [v89, VMs, noRef, noRef1, isRef, List.all_cons, List.all_nil, vop, VOp.still, VOp.app, VOp.plain, allP, lof, evs, start, asI, vbin, vcells, ntup, setAll, vfill, vress, vres, tup, Nat.reduceEqDiff, ↓reduceIte, Nat.reduceAdd, Nat.reduceMul, Nat.reduceLeDiff, reduceCtorEq, slen, vlp, hl]
  · rw [if_neg (by omega : ¬ slotB l < l.length)]
    simp -implicitDefEqProofs only [v89, VMs, noRef, noRef1, isRef, List.all_cons, List.all_nil, vop, VOp.still, VOp.app, VOp.plain, allP, lof, evs, start, asI, vbin, vcells, ntup, setAll, vfill, vress, vres, tup, Nat.reduceEqDiff, ↓reduceIte, Nat.reduceAdd, Nat.reduceMul, Nat.reduceLeDiff, reduceCtorEq, slen, vlp, hl]
theorem indexB_c (d lo : Nat) (H : Hp) (a : Option Addr) (n : Nat) (l : List Bk) (h : Rep EB 2 H a n l) (hn : Sm n) (g : Nat) (cap : Array Value) (pred : Bk → Bool) (hg : ∀ y ∈ l, ∀ lo, vcall env d g (BV y :: cap.toList) lo H = some (.bool (pred y), H)) :
    ∃ r : Int, vcall env (d + 1) 131 [.slice a n (sg a 2), .func (.func g) #[] cap] lo H = some (.int .i64 r, H) ∧ ((∃ (i : Nat) (x : Bk), r = (i : Int) ∧ l[i]? = some x ∧ pred x = true ∧ ∀ (j : Nat) (y : Bk), j < i → l[j]? = some y → pred y = false) ∨ (r = -1 ∧ ∀ y ∈ l, pred y = false)) := by
  have hloop : ∃ r, lim (rnd (vcall env d) H.length [0, 1, 7, 8] [4] l131_0) [(0, .slice a n (sg a 2)), (1, .func (.func g) #[] cap), (7, .int .i64 (n : Nat)), (8, .int .i64 0)] H = some r ∧
      ((∃ (i : Nat) (x : Bk), r = (.ret, [(4, .int .i64 (i : Nat))], H) ∧ l[i]? = some x ∧ pred x = true ∧ ∀ (j : Nat) (y : Bk), j < i → l[j]? = some y → pred y = false) ∨ (r = (.exit 0, [], H) ∧ ∀ y ∈ l, pred y = false)) := by
    refine lim_inv2 (fun i ts H1 => ts = [(0, .slice a n (sg a 2)), (1, .func (.func g) #[] cap), (7, .int .i64 (n : Nat)), (8, .int .i64 (i : Nat))] ∧ H1 = H ∧ ∀ (j : Nat) (y : Bk), j < i → l[j]? = some y → pred y = false) n ?_ ?_ ?_
    · rintro i ts H1 hi ⟨rfl, rfl, hp⟩
      have hil : i < l.length := by rw [← h.1]; exact hi
      obtain ⟨p, o, rfl, e⟩ := h.at hil
      have e' := e.val
      have hc := hg l[i] (List.getElem_mem hil) H1.length
      simp only [BV] at hc
      cases hpi : pred l[i] with
      | true =>
        rw [hpi] at hc
        exact Or.inr ⟨(.ret, [(4, .int .i64 (i : Nat))], H1), by simp -implicitDefEqProofs only [rnd, l131_0, VMs, noRef, noRef1, isRef, List.all_cons, List.all_nil, vop, VOp.still, VOp.app, VOp.plain, allP, lof, evs, start, asI, vbin, vcells, ntup, setAll, vfill, vress, vres, tup, Nat.reduceEqDiff, ↓reduceIte, Nat.reduceAdd, Nat.reduceMul, Nat.reduceLeDiff, reduceCtorEq, slen, ltc hi, ge0, decide_true, Int.toNat_natCast, e', List.size_toArray, hc], by simp, Or.inl ⟨i, _, rfl, getE hil, hpi, hp⟩⟩
      | false =>
        rw [hpi] at hc
        refine Or.inl ⟨[(0, .slice (some ⟨p, o, none⟩) n 2), (1, .func (.func g) #[] cap), (7, .int .i64 (n : Nat)), (8, .int .i64 ((i + 1 : Nat) : Int))], H1, by simp -implicitDefEqProofs only [rnd, l131_0, VMs, noRef, noRef1, isRef, List.all_cons, List.all_nil, vop, VOp.still, VOp.app, VOp.plain, allP, lof, evs, start, asI, vbin, vcells, ntup, setAll, vfill, vress, vres, tup, Nat.reduceEqDiff, ↓reduceIte, Nat.reduceAdd, Nat.reduceMul, Nat.reduceLeDiff, reduceCtorEq, slen, ltc hi, ge0, decide_true, Int.toNat_natCast, e', List.size_toArray, hc, hn.w hi], rfl, rfl, ?_⟩
        intro j y hj hy
        rcases Nat.lt_succ_iff_lt_or_eq.1 hj with h' | h'
        · exact hp j y h' hy
        · subst h'; rw [getE hil] at hy; cases hy; exact hpi
    · rintro ts H1 ⟨rfl, rfl, hp⟩
      refine ⟨(.exit 0, [], H1), by simp -implicitDefEqProofs only [rnd, l131_0, VMs, noRef, noRef1, isRef, List.all_cons, List.all_nil, vop, VOp.still, VOp.app, VOp.plain, allP, lof, evs, start, asI, vbin, vcells, ntup, setAll, vfill, vress, vres, tup, Nat.reduceEqDiff, ↓reduceIte, Nat.reduceAdd, Nat.reduceMul, Nat.reduceLeDiff, reduceCtorEq, slen, Int.lt_irrefl, decide_false], by simp, Or.inr ⟨rfl, fun y hy => ?_⟩⟩
      obtain ⟨j, hj, rfl⟩ := List.getElem_of_mem hy
      exact hp j _ (by rw [h.1]; exact hj) (getE hj)
    · exact ⟨rfl, rfl, fun j y hj => by omega⟩
  rw [call_eq find131 _ _ _ rfl]
  obtain ⟨r, hl, ⟨i, x, rfl, h1, h2, h3⟩ | ⟨rfl, h1⟩⟩ := hloop
  · exact ⟨i, by simp -implicitDefEqProofs only [v131, VMs, noRef, noRef1, isRef, List.all_cons, List.all_nil, vop, VOp.still, VOp.app, VOp.plain, allP, lof, evs, start, asI, vbin, vcells, ntup, setAll, vfill, vress, vres, tup, Nat.reduceEqDiff, ↓reduceIte, Nat.reduceAdd, Nat.reduceMul, Nat.reduceLeDiff, reduceCtorEq, slen, vlp, hl], Or.inl ⟨i, x, rfl, h1, h2, h3⟩⟩
  · exact ⟨-1, by simp -implicitDefEqProofs only [v131, VMs, noRef, noRef1, isRef, List.all_cons, List.all_nil, vop, VOp.still, VOp.app, VOp.plain, allP, lof, evs, start, asI, vbin, vcells, ntup, setAll, vfill, vress, vres, tup, Nat.reduceEqDiff, ↓reduceIte, Nat.reduceAdd, Nat.reduceMul, Nat.reduceLeDiff, reduceCtorEq, slen, vlp, hl], Or.inr ⟨rfl, h1⟩⟩
theorem take1_c (d lo : Nat) (H : Hp) (x : Bk) : vcall env (d + 1) 132 [BV x] lo H = some (.bool (x.r == 0), H) := by
  rw [call_eq find132 _ _ _ rfl]
  simp -implicitDefEqProofs only [v132, BV, VMs, noRef, noRef1, isRef, List.all_cons, List.all_nil, vop, VOp.still, VOp.app, VOp.plain, allP, lof, evs, start, asI, vbin, vcells, ntup, setAll, vfill, vress, vres, tup, Nat.reduceEqDiff, ↓reduceIte, Nat.reduceAdd, Nat.reduceMul, Nat.reduceLeDiff, reduceCtorEq, ntup, vcells]
theorem take_c (d lo L : Nat) (H : Hp) {q : Nat} {a b : Option Addr} {ps : List (Nd × Option Addr)} {B : List Bk} (h : MF L H q a b ps B) (hL : lo ≤ L) (hs : Sm B.length) (v : Int) :
    (slotB B = B.length → vcall env (d + 3) 92 [.slice b B.length (sg b 2), .int .i64 v] lo H = some (.tuple #[.int .i64 0, .int .i64 8], H)) ∧
    (slotB B < B.length → ∃ H', vcall env (d + 3) 92 [.slice b B.length (sg b 2), .int .i64 v] lo H = some (.tuple #[.int .i64 (slotB B : Nat), .int .i64 0], H') ∧ MF L H' q a b ps (B.set (slotB B) ⟨1, v⟩) ∧ Fr (Ad b) H H' ∧ H'.length = H.length) := by
  obtain ⟨r, hc, hr⟩ := indexB_c (d + 1) lo H b B.length B h.bl.rep hs 132 #[] (fun x => x.r == 0) (fun y _ lo => take1_c d lo H y)
  rw [call_eq find92 _ _ _ rfl]
  rcases hr with ⟨i, x, rfl, h1, h2, h3⟩ | ⟨rfl, h1⟩
  · obtain ⟨hi, rfl⟩ := List.getElem?_eq_some_iff.1 h1
    have hsl : slotB B = i := slotB_eq hi (beq_iff_eq.1 h2) (fun j hj => by
      have := h3 j _ hj (getE (by omega))
      exact beq_eq_false_iff_ne.1 this)
    refine ⟨fun e => by omega, fun _ => ?_⟩
    obtain ⟨t, H', rfl, w, m, f, l⟩ := h.reblk h1 1 v
    have w' := wr_lo w hL
    have hd : decide ((i : Int) < 0) = false := decide_eq_false (by omega)
    rw [hsl]
    refine ⟨H', ?_, m, f, l⟩
    simp only [sgs] at hc
    simp -implicitDefEqProofs only [v92, VMs, noRef, noRef1, isRef, List.all_cons, List.all_nil, vop, VOp.still, VOp.app, VOp.plain, allP, lof, evs, start, asI, vbin, vcells, ntup, setAll, vfill, vress, vres, tup, Nat.reduceEqDiff, ↓reduceIte, Nat.reduceAdd, Nat.reduceMul, Nat.reduceLeDiff, reduceCtorEq, sgs, hc, hd, slen, ltc hi, ge0, decide_true, Int.toNat_natCast, vfill, ev, lk, setAll, ntup, vcells, w']
  · have hsl : slotB B = B.length := slotB_none fun x hx => beq_eq_false_iff_ne.1 (h1 x hx)
    have hd : decide ((-1 : Int) < 0) = true := rfl
    exact ⟨fun _ => by simp -implicitDefEqProofs only [v92, VMs, noRef, noRef1, isRef, List.all_cons, List.all_nil, vop, VOp.still, VOp.app, VOp.plain, allP, lof, evs, start, asI, vbin, vcells, ntup, setAll, vfill, vress, vres, tup, Nat.reduceEqDiff, ↓reduceIte, Nat.reduceAdd, Nat.reduceMul, Nat.reduceLeDiff, reduceCtorEq, hc, hd], fun e => by omega⟩
/-! ### A node -/
theorem indexN_c (d lo : Nat) (H : Hp) (a : Option Addr) (n : Nat) (l : List Nd) (h : Rep EN 3 H a n l) (hn : Sm n) (g : Nat) (cap : Array Value) (pred : Nd → Bool) (hg : ∀ y ∈ l, ∀ a n lo, vcall env d g (NV a n y :: cap.toList) lo H = some (.bool (pred y), H)) :
    ∃ r : Int, vcall env (d + 1) 164 [.slice a n (sg a 3), .func (.func g) #[] cap] lo H = some (.int .i64 r, H) ∧ ((∃ (i : Nat) (x : Nd), r = (i : Int) ∧ l[i]? = some x ∧ pred x = true ∧ ∀ (j : Nat) (y : Nd), j < i → l[j]? = some y → pred y = false) ∨ (r = -1 ∧ ∀ y ∈ l, pred y = false)) := by
  have hloop : ∃ r, lim (rnd (vcall env d) H.length [0, 1, 7, 8] [4] l164_0) [(0, .slice a n (sg a 3)), (1, .func (.func g) #[] cap), (7, .int .i64 (n : Nat)), (8, .int .i64 0)] H = some r ∧
      ((∃ (i : Nat) (x : Nd), r = (.ret, [(4, .int .i64 (i : Nat))], H) ∧ l[i]? = some x ∧ pred x = true ∧ ∀ (j : Nat) (y : Nd), j < i → l[j]? = some y → pred y = false) ∨ (r = (.exit 0, [], H) ∧ ∀ y ∈ l, pred y = false)) := by
    refine lim_inv2 (fun i ts H1 => ts = [(0, .slice a n (sg a 3)), (1, .func (.func g) #[] cap), (7, .int .i64 (n : Nat)), (8, .int .i64 (i : Nat))] ∧ H1 = H ∧ ∀ (j : Nat) (y : Nd), j < i → l[j]? = some y → pred y = false) n ?_ ?_ ?_
    · rintro i ts H1 hi ⟨rfl, rfl, hp⟩
      have hil : i < l.length := by rw [← h.1]; exact hi
      obtain ⟨p, o, rfl, e1, e2, a3, n3, e3, e4⟩ := h.at hil
      have e' := rdN3 e1 e2 e3
      have hc := hg l[i] (List.getElem_mem hil) a3 n3 H1.length
      simp only [NV] at hc
      cases hpi : pred l[i] with
      | true =>
        rw [hpi] at hc
        exact Or.inr ⟨(.ret, [(4, .int .i64 (i : Nat))], H1), by simp -implicitDefEqProofs only [rnd, l164_0, VMs, noRef, noRef1, isRef, List.all_cons, List.all_nil, vop, VOp.still, VOp.app, VOp.plain, allP, lof, evs, start, asI, vbin, vcells, ntup, setAll, vfill, vress, vres, tup, Nat.reduceEqDiff, ↓reduceIte, Nat.reduceAdd, Nat.reduceMul, Nat.reduceLeDiff, reduceCtorEq, slen, ltc hi, ge0, decide_true, Int.toNat_natCast, e', List.size_toArray, hc], by simp, Or.inl ⟨i, _, rfl, getE hil, hpi, hp⟩⟩
      | false =>
        rw [hpi] at hc
        refine Or.inl ⟨[(0, .slice (some ⟨p, o, none⟩) n 3), (1, .func (.func g) #[] cap), (7, .int .i64 (n : Nat)), (8, .int .i64 ((i + 1 : Nat) : Int))], H1, by simp -implicitDefEqProofs only [rnd, l164_0, VMs, noRef, noRef1, isRef, List.all_cons, List.all_nil, vop, VOp.still, VOp.app, VOp.plain, allP, lof, evs, start, asI, vbin, vcells, ntup, setAll, vfill, vress, vres, tup, Nat.reduceEqDiff, ↓reduceIte, Nat.reduceAdd, Nat.reduceMul, Nat.reduceLeDiff, reduceCtorEq, slen, ltc hi, ge0, decide_true, Int.toNat_natCast, e', List.size_toArray, hc, hn.w hi], rfl, rfl, ?_⟩
        intro j y hj hy
        rcases Nat.lt_succ_iff_lt_or_eq.1 hj with h' | h'
        · exact hp j y h' hy
        · subst h'; rw [getE hil] at hy; cases hy; exact hpi
    · rintro ts H1 ⟨rfl, rfl, hp⟩
      refine ⟨(.exit 0, [], H1), by simp -implicitDefEqProofs only [rnd, l164_0, VMs, noRef, noRef1, isRef, List.all_cons, List.all_nil, vop, VOp.still, VOp.app, VOp.plain, allP, lof, evs, start, asI, vbin, vcells, ntup, setAll, vfill, vress, vres, tup, Nat.reduceEqDiff, ↓reduceIte, Nat.reduceAdd, Nat.reduceMul, Nat.reduceLeDiff, reduceCtorEq, slen, Int.lt_irrefl, decide_false], by simp, Or.inr ⟨rfl, fun y hy => ?_⟩⟩
      obtain ⟨j, hj, rfl⟩ := List.getElem_of_mem hy
      exact hp j _ (by rw [h.1]; exact hj) (getE hj)
    · exact ⟨rfl, rfl, fun j y hj => by omega⟩
  rw [call_eq find164 _ _ _ rfl]
  obtain ⟨r, hl, ⟨i, x, rfl, h1, h2, h3⟩ | ⟨rfl, h1⟩⟩ := hloop
  · exact ⟨i, by simp -implicitDefEqProofs only [v164, VMs, noRef, noRef1, isRef, List.all_cons, List.all_nil, vop, VOp.still, VOp.app, VOp.plain, allP, lof, evs, start, asI, vbin, vcells, ntup, setAll, vfill, vress, vres, tup, Nat.reduceEqDiff, ↓reduceIte, Nat.reduceAdd, Nat.reduceMul, Nat.reduceLeDiff, reduceCtorEq, slen, vlp, hl], Or.inl ⟨i, x, rfl, h1, h2, h3⟩⟩
  · exact ⟨-1, by simp -implicitDefEqProofs only [v164, VMs, noRef, noRef1, isRef, List.all_cons, List.all_nil, vop, VOp.still, VOp.app, VOp.plain, allP, lof, evs, start, asI, vbin, vcells, ntup, setAll, vfill, vress, vres, tup, Nat.reduceEqDiff, ↓reduceIte, Nat.reduceAdd, Nat.reduceMul, Nat.reduceLeDiff, reduceCtorEq, slen, vlp, hl], Or.inr ⟨rfl, h1⟩⟩
theorem fresh1_c (d lo : Nat) (H : Hp) (a : Option Addr) (n : Nat) (x : Nd) : vcall env (d + 1) 165 [NV a n x] lo H = some (.bool (x.r == 0), H) := by
  rw [call_eq find165 _ _ _ rfl]
  simp -implicitDefEqProofs only [v165, NV, VMs, noRef, noRef1, isRef, List.all_cons, List.all_nil, vop, VOp.still, VOp.app, VOp.plain, allP, lof, evs, start, asI, vbin, vcells, ntup, setAll, vfill, vress, vres, tup, Nat.reduceEqDiff, ↓reduceIte, Nat.reduceAdd, Nat.reduceMul, Nat.reduceLeDiff, reduceCtorEq, ntup, vcells]
/-- The kids' block, handed to a node. -/
theorem KB.free {lo : Nat} {H : Hp} {q : Nat} {a b : Option Addr} {ps : List (Nd × Option Addr)} {N : Nat} {ks : List Int} (h : KB lo H q a b ps N ks) : ∀ A, (some ⟨N, 0, none⟩ : Option Addr) = some A → A.spot = none ∧ A.off = 0 ∧ WB lo H A.block ∧ ¬ Ad a A.block ∧ ¬ Ad b A.block ∧ A.block ≠ q ∧ ∀ (j : Nat) p, ps[j]? = some p → ¬ Ad p.2 A.block := fun A e => by
  cases e
  exact ⟨rfl, rfl, h.wb, h.na, h.nb, h.nq, h.nk⟩
theorem foP_len (ps : List (Nd × Option Addr)) (B : List Bk) : (foP ps B).n.length = ps.length := by simp [foP]
theorem foP_app (ps : List (Nd × Option Addr)) (B : List Bk) (x : Nd × Option Addr) : foP (ps ++ [x]) B = ⟨(foP ps B).n ++ [x.1], (foP ps B).b⟩ := by simp [foP]
theorem h10 : ((1 : Nat) == 0) = false := rfl
theorem l4New_c (d lo L : Nat) (H : Hp) {q : Nat} {a b : Option Addr} {ps : List (Nd × Option Addr)} {B : List Bk} (h : MF L H q a b ps B) (hL : lo ≤ L) {N : Nat} {ks : List Int} (hk : KB L H q a b ps N ks) (h4 : ks.length = 4) (leaf : Bool) (hl60 : ps.length ≤ 60) :
    (slotOf (foP ps B).n < 60 → ∃ H' a' ps', vcall env (d + 1) 162 [.pointer (some ⟨q, 0, none⟩), .agg #[.int .i64 1, .bool leaf, .slice (some ⟨N, 0, none⟩) 4 1]] lo H = some (.int .i64 (slotOf (foP ps B).n : Nat), H') ∧ MF L H' q a' b ps' B ∧ foP ps' B = ⟨putN (foP ps B).n (slotOf (foP ps B).n) ⟨1, leaf, ks⟩, (foP ps B).b⟩ ∧ Fw (fun i => i = q ∨ Ad a i) H H' ∧ (∀ i, Ad a' i → Ad a i ∨ H.length ≤ i)) ∧
    (¬ slotOf (foP ps B).n < 60 → ∃ H', vcall env (d + 1) 162 [.pointer (some ⟨q, 0, none⟩), .agg #[.int .i64 1, .bool leaf, .slice (some ⟨N, 0, none⟩) 4 1]] lo H = some (.int .i64 (-1), H') ∧ Fn H H') := by
  obtain ⟨H1, hH1⟩ : ∃ H1 : Hp, H1 = H ++ [some ⟨[.int .i64 1, .bool leaf, .slice (some ⟨N, 0, none⟩) 4 1], true, false⟩] := ⟨_, rfl⟩
  have f1 : Fn H H1 := hH1 ▸ Fr.app
  have h1 := h.new f1
  have k1 := hk.fw f1.w id
  have b1 : rdN H1 ⟨H.length, 0, none⟩ 3 = some [.int .i64 1, .bool leaf, .slice (some ⟨N, 0, none⟩) 4 1] := by rw [hH1]; simp [rdN0]
  have l1 : H1.length = H.length + 1 := by rw [hH1]; simp
  have hpl := foP_len ps B
  have hsm : Sm ps.length := by unfold Sm; omega
  have gq := h1.pf.n
  have hloop : ∃ r, lim (rnd (vcall env d) lo [0, 3, 5] [0, 3, 4] l162_0) [(0, .pointer (some ⟨q, 0, none⟩)), (3, .pointer (some ⟨H.length, 0, none⟩)), (5, .int .i64 0)] H1 = some r ∧
      ((slotOf (foP ps B).n < ps.length ∧ ∃ H' ps', r = (.ret, [(0, .pointer (some ⟨q, 0, none⟩)), (3, .pointer (some ⟨H.length, 0, none⟩)), (4, .int .i64 (slotOf (foP ps B).n : Nat))], H') ∧ MF L H' q a b ps' B ∧ foP ps' B = ⟨(foP ps B).n.set (slotOf (foP ps B).n) ⟨1, leaf, ks⟩, (foP ps B).b⟩ ∧ Fr (Ad a) H1 H') ∨ (slotOf (foP ps B).n = ps.length ∧ r = (.exit 0, [(0, .pointer (some ⟨q, 0, none⟩)), (3, .pointer (some ⟨H.length, 0, none⟩))], H1))) := by
    refine lim_inv2 (fun i ts H2 => ts = [(0, .pointer (some ⟨q, 0, none⟩)), (3, .pointer (some ⟨H.length, 0, none⟩)), (5, .int .i64 (i : Nat))] ∧ H2 = H1 ∧ ∀ (j : Nat) (hj : j < i) (hl : j < (foP ps B).n.length), (foP ps B).n[j].r ≠ 0) ps.length ?_ ?_ ?_
    · rintro i ts H2 hi ⟨rfl, rfl, hp⟩
      have hil : i < (foP ps B).n.length := by omega
      obtain ⟨ad, hpi⟩ := foP_at hil
      obtain ⟨p, rfl, e1, e2, e3, e4, e5⟩ := h1.at hpi
      simp only [sgs] at gq
      by_cases h0 : (foP ps B).n[i].r = 0
      · have hs := slot_eq hil h0 (fun j hj => hp j hj (by omega))
        have hb : ((foP ps B).n[i].r == 0) = true := by rw [h0]; rfl
        obtain ⟨p', H', e', w, m, f, l⟩ := h1.renode k1 hpi 1 leaf
        cases e'
        have w' := wr_lo w hL
        rw [h4] at w'
        refine Or.inr ⟨(.ret, [(0, .pointer (some ⟨q, 0, none⟩)), (3, .pointer (some ⟨H.length, 0, none⟩)), (4, .int .i64 (i : Nat))], H'), ?_, by simp, Or.inl ⟨by omega, H', _, by rw [hs], m, by rw [foP_set1, hs], f⟩⟩
        simp -implicitDefEqProofs only [rnd, l162_0, VMs, noRef, noRef1, isRef, List.all_cons, List.all_nil, vop, VOp.still, VOp.app, VOp.plain, allP, lof, evs, start, asI, vbin, vcells, ntup, setAll, vfill, vress, vres, tup, Nat.reduceEqDiff, ↓reduceIte, Nat.reduceAdd, Nat.reduceMul, Nat.reduceLeDiff, reduceCtorEq, gq, slen, ltc hi, ge0, decide_true, Int.toNat_natCast, e1, hb, vdr, b1, ntup, vcells, w']
      · have hb : ((foP ps B).n[i].r == 0) = false := beq_eq_false_iff_ne.2 h0
        refine Or.inl ⟨[(0, .pointer (some ⟨q, 0, none⟩)), (3, .pointer (some ⟨H.length, 0, none⟩)), (5, .int .i64 ((i + 1 : Nat) : Int))], H2, by simp -implicitDefEqProofs only [rnd, l162_0, VMs, noRef, noRef1, isRef, List.all_cons, List.all_nil, vop, VOp.still, VOp.app, VOp.plain, allP, lof, evs, start, asI, vbin, vcells, ntup, setAll, vfill, vress, vres, tup, Nat.reduceEqDiff, ↓reduceIte, Nat.reduceAdd, Nat.reduceMul, Nat.reduceLeDiff, reduceCtorEq, gq, slen, ltc hi, ge0, decide_true, Int.toNat_natCast, e1, hb, hsm.w hi], rfl, rfl, fun j hj hl => ?_⟩
        rcases Nat.lt_succ_iff_lt_or_eq.1 hj with h' | h'
        · exact hp j h' hl
        · subst h'; exact h0
    · rintro ts H2 ⟨rfl, rfl, hp⟩
      refine ⟨(.exit 0, [(0, .pointer (some ⟨q, 0, none⟩)), (3, .pointer (some ⟨H.length, 0, none⟩))], H2), by simp -implicitDefEqProofs only [rnd, l162_0, VMs, noRef, noRef1, isRef, List.all_cons, List.all_nil, vop, VOp.still, VOp.app, VOp.plain, allP, lof, evs, start, asI, vbin, vcells, ntup, setAll, vfill, vress, vres, tup, Nat.reduceEqDiff, ↓reduceIte, Nat.reduceAdd, Nat.reduceMul, Nat.reduceLeDiff, reduceCtorEq, gq, slen, Int.lt_irrefl, decide_false], by simp, Or.inr ⟨(slot_none fun x hx => ?_).trans hpl, rfl⟩⟩
      obtain ⟨j, hj, rfl⟩ := List.getElem_of_mem hx
      exact hp j (by omega) hj
    · exact ⟨rfl, rfl, fun j hj => by omega⟩
  rw [call_eq find162 _ _ _ rfl]
  obtain ⟨r, hl, ⟨hs, H', ps', rfl, m, e, f⟩ | ⟨hs, rfl⟩⟩ := hloop
  · refine ⟨fun _ => ⟨H', a, ps', ?_, m, ?_, (f1.no.trans f).w.mono fun i e => Or.inr e, fun i e => Or.inl e⟩, fun hh => by omega⟩
    · subst hH1
      simp -implicitDefEqProofs only [v162, VMs, noRef, noRef1, isRef, List.all_cons, List.all_nil, vop, VOp.still, VOp.app, VOp.plain, allP, lof, evs, start, asI, vbin, vcells, ntup, setAll, vfill, vress, vres, tup, Nat.reduceEqDiff, ↓reduceIte, Nat.reduceAdd, Nat.reduceMul, Nat.reduceLeDiff, reduceCtorEq, ntup, vcells, vlp, hl]
    · rw [e]; unfold putN; rw [if_pos (by omega)]
  · by_cases h60 : 60 ≤ ps.length
    · refine ⟨fun hh => by omega, fun _ => ⟨H1, ?_, f1⟩⟩
      have hd : decide ((ps.length : Int) ≥ 60) = true := decide_eq_true (by omega)
      subst hH1
      simp -implicitDefEqProofs only [v162, VMs, noRef, noRef1, isRef, List.all_cons, List.all_nil, vop, VOp.still, VOp.app, VOp.plain, allP, lof, evs, start, asI, vbin, vcells, ntup, setAll, vfill, vress, vres, tup, Nat.reduceEqDiff, ↓reduceIte, Nat.reduceAdd, Nat.reduceMul, Nat.reduceLeDiff, reduceCtorEq, ntup, vcells, vlp, hl, gq, slen, hd]
    · refine ⟨fun _ => ?_, fun hh => by omega⟩
      have hd : decide ((ps.length : Int) ≥ 60) = false := decide_eq_false (by omega)
      obtain ⟨H2, hH2⟩ : ∃ H2 : Hp, H2 = H1 ++ [some ⟨[.int .i64 1, .bool leaf, .slice (some ⟨N, 0, none⟩) 4 1], true, false⟩] := ⟨_, rfl⟩
      have f2 : Fn H1 H2 := hH2 ▸ Fr.app
      have l2 : H2.length = H1.length + 1 := by rw [hH2]; simp
      have k2 := k1.fw f2.w id
      obtain ⟨H3, H4, ha, w, m, fw, l4⟩ := (h1.new f2).push (x := ⟨1, leaf, ks⟩) (c := some ⟨N, 0, none⟩) (y := .slice (some ⟨H1.length, 0, none⟩) 1 3) k2.rep k2.free rfl (by rw [hH2]; simp [scells, rdN0, nV, h4, sg]) (by omega)
      have ha' := vappend_lo hL ha
      have w' := wr_lo w hL
      have gq4 := m.pf.n
      simp only [List.length_append, List.length_cons, List.length_nil, Nat.zero_add, sgs] at gq4
      have hw : IntKind.i64.wrap (((ps.length + 1 : Nat) : Int) - 1) = (ps.length : Int) := by rw [wr (by omega) (by omega)]; omega
      refine ⟨H4, _, _, ?_, m, ?_, ?_, fun i ⟨o, e⟩ => ?_⟩
      · rw [hs]
        subst hH2
        subst hH1
        simp only [List.length_append, List.length_cons, List.length_nil, Nat.zero_add, List.append_assoc, List.cons_append, List.nil_append, Nat.add_assoc, Nat.reduceAdd] at ha' w' gq4
        simp -implicitDefEqProofs only [v162, VMs, noRef, noRef1, isRef, List.all_cons, List.all_nil, vop, VOp.still, VOp.app, VOp.plain, allP, lof, evs, start, asI, vbin, vcells, ntup, setAll, vfill, vress, vres, tup, Nat.reduceEqDiff, ↓reduceIte, Nat.reduceAdd, Nat.reduceMul, Nat.reduceLeDiff, reduceCtorEq, ntup, vcells, vlp, hl, gq, slen, hd, vdr, b1, vfill, ev, lk, setAll, h10, ha', w', gq4, hw]
      · rw [foP_app]; unfold putN; rw [if_neg (by omega)]
      · exact ((f1.trans f2).w.mono (fun _ => False.elim)).then fw (fun i hi _ => hi)
      · cases e; exact Or.inr (by omega)
end Go.Proofs.Ytmcljallamhccaa.V
