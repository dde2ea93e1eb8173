/- The place of a volume; how much it has. -/
import Derived.Test.YtohanpndekfbgaaDoorVPC
namespace Go.Proofs.YtohanpndekfbgaaDoor.V
open Go
set_option linter.unusedVariables false
set_option linter.unusedSimpArgs false
set_option maxRecDepth 100000
theorem indexV_c (d lo : Nat) (H : Hp) (a : Option Addr) (n : Nat) (l : List Vo) (h : Rep EV 3 H a n l) (hn : Sm n) (g : Nat) (cap : Array Value) (pred : Vo → Bool) (hg : ∀ y ∈ l, ∀ lo, vcall env d g (VV y :: cap.toList) lo H = some (.bool (pred y), H)) :
    ∃ r : Int, vcall env (d + 1) 48 [.slice a n (sg a 3), .func (.func g) #[] cap] lo H = some (.int .i64 r, H) ∧ ((∃ (i : Nat) (x : Vo), r = (i : Int) ∧ l[i]? = some x ∧ pred x = true ∧ ∀ (j : Nat) (y : Vo), j < i → l[j]? = some y → pred y = false) ∨ (r = -1 ∧ ∀ y ∈ l, pred y = false)) := by
  have hloop : ∃ r, lim (rnd (vcall env d) H.length [0, 1, 7, 8] [4] l48_0) [(0, .slice a n (sg a 3)), (1, .func (.func g) #[] cap), (7, .int .i64 (n : Nat)), (8, .int .i64 0)] H = some r ∧
      ((∃ (i : Nat) (x : Vo), r = (.ret, [(4, .int .i64 (i : Nat))], H) ∧ l[i]? = some x ∧ pred x = true ∧ ∀ (j : Nat) (y : Vo), j < i → l[j]? = some y → pred y = false) ∨ (r = (.exit 0, [], H) ∧ ∀ y ∈ l, pred y = false)) := by
    refine lim_inv2 (fun i ts H1 => ts = [(0, .slice a n (sg a 3)), (1, .func (.func g) #[] cap), (7, .int .i64 (n : Nat)), (8, .int .i64 (i : Nat))] ∧ H1 = H ∧ ∀ (j : Nat) (y : Vo), j < i → l[j]? = some y → pred y = false) n ?_ ?_ ?_
    · rintro i ts H1 hi ⟨rfl, rfl, hp⟩
      have hil : i < l.length := by rw [← h.1]; exact hi
      obtain ⟨p, o, rfl, e⟩ := h.at hil
      have e' := e.val
      have hc := hg l[i] (List.getElem_mem hil) H1.length
      simp only [VV] at hc
      cases hpi : pred l[i] with
      | true =>
        rw [hpi] at hc
        exact Or.inr ⟨(.ret, [(4, .int .i64 (i : Nat))], H1), by simp -implicitDefEqProofs only [rnd, l48_0, VMs, noRef, noRef1, isRef, List.all_cons, List.all_nil, vop, VOp.still, VOp.app, VOp.plain, allP, lof, evs, start, asI, vbin, vcells, ntup, setAll, vfill, vress, vres, tup, Nat.reduceEqDiff, ↓reduceIte, Nat.reduceAdd, Nat.reduceMul, Nat.reduceLeDiff, reduceCtorEq, slen, ltc hi, ge0, decide_true, Int.toNat_natCast, e', List.size_toArray, hc], by simp, Or.inl ⟨i, _, rfl, getE hil, hpi, hp⟩⟩
      | false =>
        rw [hpi] at hc
        refine Or.inl ⟨[(0, .slice (some ⟨p, o, none⟩) n 3), (1, .func (.func g) #[] cap), (7, .int .i64 (n : Nat)), (8, .int .i64 ((i + 1 : Nat) : Int))], H1, by simp -implicitDefEqProofs only [rnd, l48_0, VMs, noRef, noRef1, isRef, List.all_cons, List.all_nil, vop, VOp.still, VOp.app, VOp.plain, allP, lof, evs, start, asI, vbin, vcells, ntup, setAll, vfill, vress, vres, tup, Nat.reduceEqDiff, ↓reduceIte, Nat.reduceAdd, Nat.reduceMul, Nat.reduceLeDiff, reduceCtorEq, slen, ltc hi, ge0, decide_true, Int.toNat_natCast, e', List.size_toArray, hc, hn.w hi], rfl, rfl, ?_⟩
        intro j y hj hy
        rcases Nat.lt_succ_iff_lt_or_eq.1 hj with h' | h'
        · exact hp j y h' hy
        · subst h'; rw [getE hil] at hy; cases hy; exact hpi
    · rintro ts H1 ⟨rfl, rfl, hp⟩
      refine ⟨(.exit 0, [], H1), by simp -implicitDefEqProofs only [rnd, l48_0, VMs, noRef, noRef1, isRef, List.all_cons, List.all_nil, vop, VOp.still, VOp.app, VOp.plain, allP, lof, evs, start, asI, vbin, vcells, ntup, setAll, vfill, vress, vres, tup, Nat.reduceEqDiff, ↓reduceIte, Nat.reduceAdd, Nat.reduceMul, Nat.reduceLeDiff, reduceCtorEq, slen, Int.lt_irrefl, decide_false], by simp, Or.inr ⟨rfl, fun y hy => ?_⟩⟩
      obtain ⟨j, hj, rfl⟩ := List.getElem_of_mem hy
      exact hp j _ (by rw [h.1]; exact hj) (getE hj)
    · exact ⟨rfl, rfl, fun j y hj => by omega⟩
  rw [call_eq find48 _ _ _ rfl]
  obtain ⟨r, hl, ⟨i, x, rfl, h1, h2, h3⟩ | ⟨rfl, h1⟩⟩ := hloop
  · exact ⟨i, by simp -implicitDefEqProofs only [v48, VMs, noRef, noRef1, isRef, List.all_cons, List.all_nil, vop, VOp.still, VOp.app, VOp.plain, allP, lof, evs, start, asI, vbin, vcells, ntup, setAll, vfill, vress, vres, tup, Nat.reduceEqDiff, ↓reduceIte, Nat.reduceAdd, Nat.reduceMul, Nat.reduceLeDiff, reduceCtorEq, slen, vlp, hl], Or.inl ⟨i, x, rfl, h1, h2, h3⟩⟩
  · exact ⟨-1, by simp -implicitDefEqProofs only [v48, VMs, noRef, noRef1, isRef, List.all_cons, List.all_nil, vop, VOp.still, VOp.app, VOp.plain, allP, lof, evs, start, asI, vbin, vcells, ntup, setAll, vfill, vress, vres, tup, Nat.reduceEqDiff, ↓reduceIte, Nat.reduceAdd, Nat.reduceMul, Nat.reduceLeDiff, reduceCtorEq, slen, vlp, hl], Or.inr ⟨rfl, h1⟩⟩
/-- The first place with an id; -1: there is none. -/
def atV (l : List Vo) (id : Int) : Int := match l.findIdx? (fun v => v.i == id) with
  | some i => (i : Int)
  | none => -1
theorem atV_some {l : List Vo} {id : Int} {i : Nat} {x : Vo} (h1 : l[i]? = some x) (h2 : x.i = id) (h3 : ∀ (j : Nat) (y : Vo), j < i → l[j]? = some y → y.i ≠ id) : atV l id = (i : Int) := by
  obtain ⟨hi, e⟩ := List.getElem?_eq_some_iff.1 h1
  have : l.findIdx? (fun v => v.i == id) = some i := by
    rw [List.findIdx?_eq_some_iff_getElem]
    exact ⟨hi, by rw [e]; simp [h2], fun j hj => by simpa using h3 j _ hj (getE (by omega))⟩
  unfold atV; rw [this]
theorem atV_none {l : List Vo} {id : Int} (h : ∀ y ∈ l, y.i ≠ id) : atV l id = -1 := by
  have : l.findIdx? (fun v => v.i == id) = none := by
    rw [List.findIdx?_eq_none_iff]
    exact fun y hy => by simpa using h y hy
  unfold atV; rw [this]
theorem atV_cases (l : List Vo) (id : Int) : atV l id = -1 ∨ ∃ (i : Nat) (hi : i < l.length), atV l id = (i : Int) := by
  unfold atV
  cases h : l.findIdx? (fun v => v.i == id) with
  | none => exact Or.inl rfl
  | some i =>
    rw [List.findIdx?_eq_some_iff_getElem] at h
    exact Or.inr ⟨i, h.1, rfl⟩
theorem volAt1_c (d lo : Nat) (H : Hp) (v : Vo) (c : Nat) (id : Int) (hc : rd H ⟨c, 0, none⟩ = some (.int .i64 id)) : vcall env (d + 1) 49 [VV v, .pointer (some ⟨c, 0, none⟩)] lo H = some (.bool (v.i == id), H) := by
  have hc' := fun l => rd_app (l := l) hc
  rw [call_eq find49 _ _ _ rfl]
  simp -implicitDefEqProofs only [VV, v49, VMs, noRef, noRef1, isRef, List.all_cons, List.all_nil, vop, VOp.still, VOp.app, VOp.plain, allP, lof, evs, start, asI, vbin, vcells, ntup, setAll, vfill, vress, vres, tup, Nat.reduceEqDiff, ↓reduceIte, Nat.reduceAdd, Nat.reduceMul, Nat.reduceLeDiff, reduceCtorEq, hc']
theorem volAt_c (d lo : Nat) (H : Hp) (a : Option Addr) (n : Nat) (l : List Vo) (h : Rep EV 3 H a n l) (hn : Sm n) (id : Int) :
    vcall env (d + 3) 34 [.slice a n (sg a 3), .int .i64 id] lo H = some (.int .i64 (atV l id), H) := by
  have fC : Fn H (H ++ [some ⟨[.int .i64 id], true, false⟩]) := Fr.app
  obtain ⟨r, c, hr⟩ := indexV_c (d + 1) H.length (H ++ [some ⟨[.int .i64 id], true, false⟩]) a n l (h.fnV fC) hn 49 #[.pointer (some ⟨H.length, 0, none⟩)] (fun v => v.i == id) (fun y _ lo => volAt1_c d lo _ y H.length id (by simp [rd0]))
  have hra : r = atV l id := by
    rcases hr with ⟨i, x, rfl, h1, h2, h3⟩ | ⟨rfl, h1⟩
    · exact (atV_some h1 (by simpa using h2) fun j y hj hy => by simpa using h3 j y hj hy).symm
    · exact (atV_none fun y hy => by simpa using h1 y hy).symm
  subst hra
  rw [call_eq find34 _ _ _ rfl]
  simp -implicitDefEqProofs only [v34, VMs, noRef, noRef1, isRef, List.all_cons, List.all_nil, vop, VOp.still, VOp.app, VOp.plain, allP, lof, evs, start, asI, vbin, vcells, ntup, setAll, vfill, vress, vres, tup, Nat.reduceEqDiff, ↓reduceIte, Nat.reduceAdd, Nat.reduceMul, Nat.reduceLeDiff, reduceCtorEq, isPtr, c]
/-! ### VolAt -/
def vatC (p : Po) (id : Int) : Int := if pF p = 0 then (if atV p.v id = -1 then 4 else 0) else pF p
def vatV (p : Po) (id : Int) : Int := if pF p = 0 then (if atV p.v id = -1 then 0 else atV p.v id) else 0
/-! ### UsedOf -/
theorem pF_ok {p : Po} (h : pF p = 0) : Good p.f ∧ ∀ v ∈ p.v, rootB p.f v.r = true := by
  unfold pF at h
  by_cases h0 : fF p.f = 0
  · rw [if_pos h0] at h
    by_cases h6 : 6 < p.v.length
    · rw [if_pos h6] at h; omega
    · rw [if_neg h6] at h
      by_cases h1 : ff (cV p.f p.v) = 0
      · exact ⟨good_of h0, cV_root (ff_zero h1)⟩
      · rw [if_neg h1] at h; exact absurd h h1
  · rw [if_neg h0] at h; exact absurd h h0
def usV (p : Po) (id : Int) : Int := if vatC p id = 0 then usedF p.f (((p.v[(vatV p id).toNat]?).map Vo.r).getD 0) else vatV p id
theorem vatC_zero {p : Po} {id : Int} (h : vatC p id = 0) : pF p = 0 ∧ ∃ (i : Nat) (hi : i < p.v.length), vatV p id = (i : Int) := by
  unfold vatC at h
  by_cases h0 : pF p = 0
  · rw [if_pos h0] at h
    rcases atV_cases p.v id with hm | ⟨i, hi, hm⟩
    · rw [if_pos hm] at h; omega
    · refine ⟨h0, i, hi, ?_⟩
      unfold vatV
      rw [if_pos h0, if_neg (by omega), hm]
  · rw [if_neg h0] at h; exact absurd h h0
end Go.Proofs.YtohanpndekfbgaaDoor.V
