/- What is wrong with a node? Searches in lists of numbers. -/
import Derived.Test.YtmcljallamhccaaVC8
import Derived.Test.YtmcljallamhccaaVC6
namespace Go.Proofs.Ytmcljallamhccaa.V
open Go
set_option linter.unusedVariables false
set_option linter.unusedSimpArgs false
set_option maxRecDepth 100000
def nodeF (F : Fo) (x : Nd) : Int := if 0 ≤ x.r ∧ x.r ≤ 200 then (if x.r = 0 then (if x.f = true ∨ 0 < x.k.length then 1 else 0) else if x.k.length = 4 then (if x.k.all (kidB F x.f) = true ∧ x.k.any (fun k => decide (0 ≤ k)) = true then 0 else 1) else 1) else 3
theorem indexI_c (d lo : Nat) (H : Hp) (a : Option Addr) (n : Nat) (l : List Int) (h : Rep EI 1 H a n l) (hn : Sm n) (g : Nat) (cap : Array Value) (pred : Int → Bool) (hg : ∀ y ∈ l, ∀ lo, vcall env d g (.int .i64 y :: cap.toList) lo H = some (.bool (pred y), H)) :
    ∃ r : Int, vcall env (d + 1) 143 [.slice a n (sg a 1), .func (.func g) #[] cap] lo H = some (.int .i64 r, H) ∧ ((∃ (i : Nat) (x : Int), r = (i : Int) ∧ l[i]? = some x ∧ pred x = true ∧ ∀ (j : Nat) (y : Int), j < i → l[j]? = some y → pred y = false) ∨ (r = -1 ∧ ∀ y ∈ l, pred y = false)) := by
  have hloop : ∃ r, lim (rnd (vcall env d) H.length [0, 1, 7, 8] [4] l143_0) [(0, .slice a n (sg a 1)), (1, .func (.func g) #[] cap), (7, .int .i64 (n : Nat)), (8, .int .i64 0)] H = some r ∧
      ((∃ (i : Nat) (x : Int), r = (.ret, [(4, .int .i64 (i : Nat))], H) ∧ l[i]? = some x ∧ pred x = true ∧ ∀ (j : Nat) (y : Int), j < i → l[j]? = some y → pred y = false) ∨ (r = (.exit 0, [], H) ∧ ∀ y ∈ l, pred y = false)) := by
    refine lim_inv2 (fun i ts H1 => ts = [(0, .slice a n (sg a 1)), (1, .func (.func g) #[] cap), (7, .int .i64 (n : Nat)), (8, .int .i64 (i : Nat))] ∧ H1 = H ∧ ∀ (j : Nat) (y : Int), j < i → l[j]? = some y → pred y = false) n ?_ ?_ ?_
    · rintro i ts H1 hi ⟨rfl, rfl, hp⟩
      have hil : i < l.length := by rw [← h.1]; exact hi
      obtain ⟨p, o, rfl, e⟩ := h.at hil
      simp only [EI, Nat.mul_one] at e
      have hc := hg l[i] (List.getElem_mem hil) H1.length
      cases hpi : pred l[i] with
      | true =>
        rw [hpi] at hc
        exact Or.inr ⟨(.ret, [(4, .int .i64 (i : Nat))], H1), by simp -implicitDefEqProofs only [rnd, l143_0, VMs, noRef, noRef1, isRef, List.all_cons, List.all_nil, vop, VOp.still, VOp.app, VOp.plain, allP, lof, evs, start, asI, vbin, vcells, ntup, setAll, vfill, vress, vres, tup, Nat.reduceEqDiff, ↓reduceIte, Nat.reduceAdd, Nat.reduceMul, Nat.reduceLeDiff, reduceCtorEq, slen, ltc hi, ge0, decide_true, Int.toNat_natCast, Nat.mul_one, e, List.size_toArray, hc], by simp, Or.inl ⟨i, _, rfl, getE hil, hpi, hp⟩⟩
      | false =>
        rw [hpi] at hc
        refine Or.inl ⟨[(0, .slice (some ⟨p, o, none⟩) n 1), (1, .func (.func g) #[] cap), (7, .int .i64 (n : Nat)), (8, .int .i64 ((i + 1 : Nat) : Int))], H1, by simp -implicitDefEqProofs only [rnd, l143_0, VMs, noRef, noRef1, isRef, List.all_cons, List.all_nil, vop, VOp.still, VOp.app, VOp.plain, allP, lof, evs, start, asI, vbin, vcells, ntup, setAll, vfill, vress, vres, tup, Nat.reduceEqDiff, ↓reduceIte, Nat.reduceAdd, Nat.reduceMul, Nat.reduceLeDiff, reduceCtorEq, slen, ltc hi, ge0, decide_true, Int.toNat_natCast, Nat.mul_one, e, List.size_toArray, hc, hn.w hi], rfl, rfl, ?_⟩
        intro j y hj hy
        rcases Nat.lt_succ_iff_lt_or_eq.1 hj with h' | h'
        · exact hp j y h' hy
        · subst h'; rw [getE hil] at hy; cases hy; exact hpi
    · rintro ts H1 ⟨rfl, rfl, hp⟩
      refine ⟨(.exit 0, [], H1), by simp -implicitDefEqProofs only [rnd, l143_0, VMs, noRef, noRef1, isRef, List.all_cons, List.all_nil, vop, VOp.still, VOp.app, VOp.plain, allP, lof, evs, start, asI, vbin, vcells, ntup, setAll, vfill, vress, vres, tup, Nat.reduceEqDiff, ↓reduceIte, Nat.reduceAdd, Nat.reduceMul, Nat.reduceLeDiff, reduceCtorEq, slen, Int.lt_irrefl, decide_false], by simp, Or.inr ⟨rfl, fun y hy => ?_⟩⟩
      obtain ⟨j, hj, rfl⟩ := List.getElem_of_mem hy
      exact hp j _ (by rw [h.1]; exact hj) (getE hj)
    · exact ⟨rfl, rfl, fun j y hj => by omega⟩
  rw [call_eq find143 _ _ _ rfl]
  obtain ⟨r, hl, ⟨i, x, rfl, h1, h2, h3⟩ | ⟨rfl, h1⟩⟩ := hloop
  · exact ⟨i, by simp -implicitDefEqProofs only [v143, VMs, noRef, noRef1, isRef, List.all_cons, List.all_nil, vop, VOp.still, VOp.app, VOp.plain, allP, lof, evs, start, asI, vbin, vcells, ntup, setAll, vfill, vress, vres, tup, Nat.reduceEqDiff, ↓reduceIte, Nat.reduceAdd, Nat.reduceMul, Nat.reduceLeDiff, reduceCtorEq, slen, vlp, hl], Or.inl ⟨i, x, rfl, h1, h2, h3⟩⟩
  · exact ⟨-1, by simp -implicitDefEqProofs only [v143, VMs, noRef, noRef1, isRef, List.all_cons, List.all_nil, vop, VOp.still, VOp.app, VOp.plain, allP, lof, evs, start, asI, vbin, vcells, ntup, setAll, vfill, vress, vres, tup, Nat.reduceEqDiff, ↓reduceIte, Nat.reduceAdd, Nat.reduceMul, Nat.reduceLeDiff, reduceCtorEq, slen, vlp, hl], Or.inr ⟨rfl, h1⟩⟩
theorem containsI_c (d lo : Nat) (H : Hp) (a : Option Addr) (n : Nat) (l : List Int) (h : Rep EI 1 H a n l) (hn : Sm n) (g : Nat) (cap : Array Value) (pred : Int → Bool) (hg : ∀ y ∈ l, ∀ lo, vcall env d g (.int .i64 y :: cap.toList) lo H = some (.bool (pred y), H)) :
    vcall env (d + 2) 107 [.slice a n (sg a 1), .func (.func g) #[] cap] lo H = some (.bool (l.any pred), H) := by
  obtain ⟨r, hc, hr⟩ := indexI_c d H.length H a n l h hn g cap pred hg
  rw [call_eq find107 _ _ _ rfl]
  rcases hr with ⟨i, x, rfl, h1, h2, h3⟩ | ⟨rfl, h1⟩
  · have ha : l.any pred = true := List.any_eq_true.2 ⟨x, List.mem_of_getElem? h1, h2⟩
    simp -implicitDefEqProofs only [v107, VMs, noRef, noRef1, isRef, List.all_cons, List.all_nil, vop, VOp.still, VOp.app, VOp.plain, allP, lof, evs, start, asI, vbin, vcells, ntup, setAll, vfill, vress, vres, tup, Nat.reduceEqDiff, ↓reduceIte, Nat.reduceAdd, Nat.reduceMul, Nat.reduceLeDiff, reduceCtorEq, hc, ha, ge_iff_le, ge0, decide_true]
  · have ha : l.any pred = false := by rw [List.any_eq_false]; intro y hy; simp [h1 y hy]
    have hd : decide ((-1 : Int) ≥ 0) = false := rfl
    simp -implicitDefEqProofs only [v107, VMs, noRef, noRef1, isRef, List.all_cons, List.all_nil, vop, VOp.still, VOp.app, VOp.plain, allP, lof, evs, start, asI, vbin, vcells, ntup, setAll, vfill, vress, vres, tup, Nat.reduceEqDiff, ↓reduceIte, Nat.reduceAdd, Nat.reduceMul, Nat.reduceLeDiff, reduceCtorEq, hc, ha, hd]
theorem isEmpty1_c (d lo : Nat) (H : Hp) (k : Int) : vcall env (d + 1) 142 [.int .i64 k] lo H = some (.bool (k != -1), H) := by
  rw [call_eq find142 _ _ _ rfl]
  simp -implicitDefEqProofs only [v142, VMs, noRef, noRef1, isRef, List.all_cons, List.all_nil, vop, VOp.still, VOp.app, VOp.plain, allP, lof, evs, start, asI, vbin, vcells, ntup, setAll, vfill, vress, vres, tup, Nat.reduceEqDiff, ↓reduceIte, Nat.reduceAdd, Nat.reduceMul, Nat.reduceLeDiff, reduceCtorEq]
theorem isEmpty_c (d lo : Nat) (H : Hp) (a : Option Addr) (n : Nat) (l : List Int) (h : Rep EI 1 H a n l) (hn : Sm n) :
    vcall env (d + 4) 106 [.slice a n (sg a 1)] lo H = some (.bool (!(l.any fun k => k != -1)), H) := by
  have hc := containsI_c (d + 1) H.length H a n l h hn 142 #[] (fun k => k != -1) (fun y _ lo => isEmpty1_c d lo H y)
  rw [call_eq find106 _ _ _ rfl]
  simp -implicitDefEqProofs only [v106, VMs, noRef, noRef1, isRef, List.all_cons, List.all_nil, vop, VOp.still, VOp.app, VOp.plain, allP, lof, evs, start, asI, vbin, vcells, ntup, setAll, vfill, vress, vres, tup, Nat.reduceEqDiff, ↓reduceIte, Nat.reduceAdd, Nat.reduceMul, Nat.reduceLeDiff, reduceCtorEq, hc]
theorem l4Node_c (d lo : Nat) (H : Hp) {q o an nn ab nb F} (h : PF H q o an nn ab nb F) (hs : SF F) {p po : Nat} {x : Nd} (hx : EN H p po x) (hxs : Sm x.k.length) :
    vcall env (d + 3) 139 [.pointer (some ⟨q, o, none⟩), .pointer (some ⟨p, po, none⟩)] lo H = some (.int .i64 (nodeF F x), H) := by
  obtain ⟨e1, e2, a, n, e3, e4⟩ := hx
  have hn := e4.1
  rw [call_eq find139 _ _ _ rfl]
  unfold nodeF
  by_cases h1 : ¬ (0 ≤ x.r ∧ x.r ≤ 200)
  · simp -implicitDefEqProofs only [v139, VMs, noRef, noRef1, isRef, List.all_cons, List.all_nil, vop, VOp.still, VOp.app, VOp.plain, allP, lof, evs, start, asI, vbin, vcells, ntup, setAll, vfill, vress, vres, tup, Nat.reduceEqDiff, ↓reduceIte, Nat.reduceAdd, Nat.reduceMul, Nat.reduceLeDiff, reduceCtorEq, e1, l1In_c, h1, decide_false]
  replace h1 := Decidable.not_not.1 h1
  by_cases h2 : x.r = 0
  · have h2' : (x.r == 0) = true := by simp [h2]
    cases hf : x.f with
    | true =>
      rw [hf] at e2
      simp -implicitDefEqProofs only [v139, VMs, noRef, noRef1, isRef, List.all_cons, List.all_nil, vop, VOp.still, VOp.app, VOp.plain, allP, lof, evs, start, asI, vbin, vcells, ntup, setAll, vfill, vress, vres, tup, Nat.reduceEqDiff, ↓reduceIte, Nat.reduceAdd, Nat.reduceMul, Nat.reduceLeDiff, reduceCtorEq, e1, e2, e3, l1In_c, h1, h2, decide_true, beq_self_eq_true, slen, Int.reduceLE, true_or]
    | false =>
      rw [hf] at e2
      by_cases h3 : 0 < x.k.length
      · have h3' : ((n : Int) > 0) = True := eq_true (by omega)
        simp -implicitDefEqProofs only [v139, VMs, noRef, noRef1, isRef, List.all_cons, List.all_nil, vop, VOp.still, VOp.app, VOp.plain, allP, lof, evs, start, asI, vbin, vcells, ntup, setAll, vfill, vress, vres, tup, Nat.reduceEqDiff, ↓reduceIte, Nat.reduceAdd, Nat.reduceMul, Nat.reduceLeDiff, reduceCtorEq, e1, e2, e3, l1In_c, h1, h2, decide_true, beq_self_eq_true, slen, h3, h3', Int.reduceLE, false_or]
      · have h3' : ((n : Int) > 0) = False := eq_false (by omega)
        simp -implicitDefEqProofs only [v139, VMs, noRef, noRef1, isRef, List.all_cons, List.all_nil, vop, VOp.still, VOp.app, VOp.plain, allP, lof, evs, start, asI, vbin, vcells, ntup, setAll, vfill, vress, vres, tup, Nat.reduceEqDiff, ↓reduceIte, Nat.reduceAdd, Nat.reduceMul, Nat.reduceLeDiff, reduceCtorEq, e1, e2, e3, l1In_c, h1, h2, decide_true, decide_false, beq_self_eq_true, slen, h3, h3', Int.reduceLE, false_or]
  have h2' : (x.r == 0) = false := by simp [h2]
  by_cases h4 : ¬ x.k.length = 4
  · have h4' : ((n : Int) != 4) = true := by simp; omega
    simp -implicitDefEqProofs only [v139, VMs, noRef, noRef1, isRef, List.all_cons, List.all_nil, vop, VOp.still, VOp.app, VOp.plain, allP, lof, evs, start, asI, vbin, vcells, ntup, setAll, vfill, vress, vres, tup, Nat.reduceEqDiff, ↓reduceIte, Nat.reduceAdd, Nat.reduceMul, Nat.reduceLeDiff, reduceCtorEq, e1, e3, l1In_c, h1, h2, h2', decide_true, slen, h4, h4']
  replace h4 := Decidable.not_not.1 h4
  have h4' : ((n : Int) != 4) = false := by simp; omega
  have hloop : ∃ r, lim (rnd (vcall env (d + 2)) H.length [0, 1, 5, 6] [4, 5] l139_0) [(0, .pointer (some ⟨q, o, none⟩)), (1, .pointer (some ⟨p, po, none⟩)), (5, .bool false), (6, .int .i64 0)] H = some r ∧
      ((∃ b, r = (.ret, [(4, .int .i64 1), (5, .bool b)], H) ∧ x.k.all (kidB F x.f) = false) ∨ (r = (.exit 0, [(5, .bool (x.k.any fun k => decide (0 ≤ k)))], H) ∧ x.k.all (kidB F x.f) = true)) := by
    refine lim_inv2 (fun j ts H1 => ts = [(0, .pointer (some ⟨q, o, none⟩)), (1, .pointer (some ⟨p, po, none⟩)), (5, .bool ((x.k.take j).any fun k => decide (0 ≤ k))), (6, .int .i64 (j : Nat))] ∧ H1 = H ∧ (x.k.take j).all (kidB F x.f) = true) 4 ?_ ?_ ?_
    · rintro j ts H1 hj ⟨rfl, rfl, hp⟩
      have hjl : j < x.k.length := by omega
      have hjn : j < n := by omega
      have hj4 : ((j : Int) < 4) = True := eq_true (by omega)
      obtain ⟨p', o', rfl, e⟩ := e4.at hjl
      simp only [EI, Nat.mul_one] at e
      have hc := l4Kid_c d H1.length H1 h hs e2 x.k[j]
      have hw : IntKind.i64.wrap ((j : Int) + 1) = ((j + 1 : Nat) : Int) := by rw [wr (by omega) (by omega)]; rfl
      have hany : (x.k.take (j + 1)).any (fun k => decide (0 ≤ k)) = ((x.k.take j).any (fun k => decide (0 ≤ k)) || decide (0 ≤ x.k[j])) := by
        rw [List.take_succ_eq_append_getElem hjl, List.any_append]; simp only [List.any_cons, List.any_nil, Bool.or_false]
      have hall : (x.k.take (j + 1)).all (kidB F x.f) = ((x.k.take j).all (kidB F x.f) && kidB F x.f x.k[j]) := by
        rw [List.take_succ_eq_append_getElem hjl, List.all_append]; simp only [List.all_cons, List.all_nil, Bool.and_true]
      cases hkj : kidB F x.f x.k[j] with
      | false =>
        rw [hkj] at hc
        refine Or.inr ⟨(.ret, [(4, .int .i64 1), (5, .bool ((x.k.take j).any fun k => decide (0 ≤ k)))], H1), by simp -implicitDefEqProofs only [rnd, l139_0, VMs, noRef, noRef1, isRef, List.all_cons, List.all_nil, vop, VOp.still, VOp.app, VOp.plain, allP, lof, evs, start, asI, vbin, vcells, ntup, setAll, vfill, vress, vres, tup, Nat.reduceEqDiff, ↓reduceIte, Nat.reduceAdd, Nat.reduceMul, Nat.reduceLeDiff, reduceCtorEq, hj4, decide_true, e3, slen, ltc hjn, ge0, Int.toNat_natCast, Nat.mul_one, e, hc], by simp, Or.inl ⟨_, rfl, ?_⟩⟩
        rw [List.all_eq_false]
        exact ⟨_, List.getElem_mem hjl, by simp [hkj]⟩
      | true =>
        rw [hkj] at hc
        refine Or.inl ⟨[(0, .pointer (some ⟨q, o, none⟩)), (1, .pointer (some ⟨p, po, none⟩)), (5, .bool ((x.k.take (j + 1)).any fun k => decide (0 ≤ k))), (6, .int .i64 ((j + 1 : Nat) : Int))], H1, ?_, rfl, rfl, by rw [hall, hp, hkj]; rfl⟩
        cases hb : (x.k.take j).any fun k => decide (0 ≤ k) with
        | true => simp -implicitDefEqProofs only [hany, hb, rnd, l139_0, VMs, noRef, noRef1, isRef, List.all_cons, List.all_nil, vop, VOp.still, VOp.app, VOp.plain, allP, lof, evs, start, asI, vbin, vcells, ntup, setAll, vfill, vress, vres, tup, Nat.reduceEqDiff, ↓reduceIte, Nat.reduceAdd, Nat.reduceMul, Nat.reduceLeDiff, reduceCtorEq, hj4, decide_true, e3, slen, ltc hjn, ge0, Int.toNat_natCast, Nat.mul_one, e, hc, hw, Bool.true_or]
        | false => simp -implicitDefEqProofs only [hany, hb, rnd, l139_0, VMs, noRef, noRef1, isRef, List.all_cons, List.all_nil, vop, VOp.still, VOp.app, VOp.plain, allP, lof, evs, start, asI, vbin, vcells, ntup, setAll, vfill, vress, vres, tup, Nat.reduceEqDiff, ↓reduceIte, Nat.reduceAdd, Nat.reduceMul, Nat.reduceLeDiff, reduceCtorEq, hj4, decide_true, e3, slen, ltc hjn, ge0, Int.toNat_natCast, Nat.mul_one, e, hc, hw, Bool.false_or, ge_iff_le]
    · rintro ts H1 ⟨rfl, rfl, hp⟩
      have h44 : (((4 : Nat) : Int) < 4) = False := eq_false (by omega)
      have ht : x.k.take 4 = x.k := by rw [← h4, List.take_length]
      rw [ht] at hp ⊢
      exact ⟨(.exit 0, [(5, .bool (x.k.any fun k => decide (0 ≤ k)))], H1), by simp -implicitDefEqProofs only [rnd, l139_0, VMs, noRef, noRef1, isRef, List.all_cons, List.all_nil, vop, VOp.still, VOp.app, VOp.plain, allP, lof, evs, start, asI, vbin, vcells, ntup, setAll, vfill, vress, vres, tup, Nat.reduceEqDiff, ↓reduceIte, Nat.reduceAdd, Nat.reduceMul, Nat.reduceLeDiff, reduceCtorEq, decide_false, h44], by simp, Or.inr ⟨rfl, hp⟩⟩
    · exact ⟨rfl, rfl, rfl⟩
  obtain ⟨r, hl, ⟨b, rfl, ha⟩ | ⟨rfl, ha⟩⟩ := hloop
  · simp -implicitDefEqProofs only [v139, VMs, noRef, noRef1, isRef, List.all_cons, List.all_nil, vop, VOp.still, VOp.app, VOp.plain, allP, lof, evs, start, asI, vbin, vcells, ntup, setAll, vfill, vress, vres, tup, Nat.reduceEqDiff, ↓reduceIte, Nat.reduceAdd, Nat.reduceMul, Nat.reduceLeDiff, reduceCtorEq, e1, e3, l1In_c, h1, h2, h2', decide_true, slen, h4, h4', vlp, hl, ha, false_and]
  · cases hb : x.k.any fun k => decide (0 ≤ k) with
    | true =>
      rw [hb] at hl
      simp -implicitDefEqProofs only [v139, VMs, noRef, noRef1, isRef, List.all_cons, List.all_nil, vop, VOp.still, VOp.app, VOp.plain, allP, lof, evs, start, asI, vbin, vcells, ntup, setAll, vfill, vress, vres, tup, Nat.reduceEqDiff, ↓reduceIte, Nat.reduceAdd, Nat.reduceMul, Nat.reduceLeDiff, reduceCtorEq, e1, e3, l1In_c, h1, h2, h2', decide_true, slen, h4, h4', vlp, hl, ha, hb, and_false]
    | false =>
      rw [hb] at hl
      simp -implicitDefEqProofs only [v139, VMs, noRef, noRef1, isRef, List.all_cons, List.all_nil, vop, VOp.still, VOp.app, VOp.plain, allP, lof, evs, start, asI, vbin, vcells, ntup, setAll, vfill, vress, vres, tup, Nat.reduceEqDiff, ↓reduceIte, Nat.reduceAdd, Nat.reduceMul, Nat.reduceLeDiff, reduceCtorEq, e1, e3, l1In_c, h1, h2, h2', decide_true, slen, h4, h4', vlp, hl, ha, hb, and_false]
end Go.Proofs.Ytmcljallamhccaa.V
