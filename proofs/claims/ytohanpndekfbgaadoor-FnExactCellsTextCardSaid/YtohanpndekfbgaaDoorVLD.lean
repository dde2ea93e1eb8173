/- What is wrong with a plain pool? The reference's answer. -/
import Derived.Test.YtohanpndekfbgaaDoorVLC
namespace Go.Proofs.YtohanpndekfbgaaDoor.V
open Go
set_option linter.unusedVariables false
set_option linter.unusedSimpArgs false
set_option maxRecDepth 100000
def wC (l : List Vo) (i : Nat) : Int := match l[i]? with
  | some v => if (1 ≤ v.i ∧ v.i ≤ 99) ∧ (1 ≤ v.q ∧ v.q ≤ 16) ∧ v.r = -1 then (if 0 < i ∧ v.i ≤ ((l[i - 1]?).getD ⟨0, 0, 0⟩).i then 1 else 0) else 3
  | none => 0
def wCs (l : List Vo) : List Int := (List.range l.length).map (wC l)
def ahead (a b : Vo) : Bool := if a.i ≠ b.i then decide (a.i < b.i) else decide (a.q < b.q)
def dC (vs cs : List Vo) (i : Nat) : Int := match cs[i]? with
  | some c => if (0 ≤ c.q ∧ c.q ≤ 15) ∧ (0 ≤ c.r ∧ c.r ≤ 255) then (if atV vs c.i = -1 then 4 else if 0 < i ∧ ahead ((cs[i - 1]?).getD ⟨0, 0, 0⟩) c = false then 1 else 0) else 3
  | none => 0
def dCs (vs cs : List Vo) : List Int := (List.range cs.length).map (dC vs cs)
def cnt (cs : List Vo) (id : Int) : Int := (cs.countP (fun c => c.i == id) : Int)
def qC (vs cs : List Vo) (i : Nat) : Int := match vs[i]? with
  | some v => if cnt cs v.i > v.q then 9 else 0
  | none => 0
def qCs (vs cs : List Vo) : List Int := (List.range vs.length).map (qC vs cs)
def s0 (p : Pl) : Int := (p.s[0]?).getD 0
def zC (p : Pl) : Int := if 1 < p.s.length ∨ (p.s.length = 1 ∧ ¬ (1 ≤ s0 p ∧ s0 p ≤ p.b)) then 1 else 0
/-- What is wrong with a plain pool. -/
def lF (p : Pl) : Int := if 0 ≤ p.b ∧ p.b ≤ 24 then (if 6 < p.v.length then 2 else if ff (wCs p.v) = 0 then (if 96 < p.c.length then 2 else if ff (dCs p.v p.c) = 0 then (if ff (qCs p.v p.c) = 0 then zC p else ff (qCs p.v p.c)) else ff (dCs p.v p.c)) else ff (wCs p.v)) else 3
theorem wCs_len (l : List Vo) : (wCs l).length = l.length := by simp [wCs]
theorem dCs_len (vs cs : List Vo) : (dCs vs cs).length = cs.length := by simp [dCs]
theorem qCs_len (vs cs : List Vo) : (qCs vs cs).length = vs.length := by simp [qCs]
theorem rmap_at {n : Nat} {f : Nat → Int} {i : Nat} {x : Int} (h : ((List.range n).map f)[i]? = some x) : i < n ∧ x = f i := by
  have hi : i < n := by have := (List.getElem?_eq_some_iff.1 h).1; simpa using this
  refine ⟨hi, ?_⟩
  simp only [List.getElem?_map, List.getElem?_range hi, Option.map_some, Option.some.injEq] at h
  exact h.symm
theorem cnt_take (l : List Vo) (id : Int) (j : Nat) (h : j < l.length) : cnt (l.take (j + 1)) id = cnt (l.take j) id + if l[j].i = id then 1 else 0 := by
  unfold cnt
  rw [List.take_succ_eq_append_getElem h, List.countP_append]
  by_cases hv : l[j].i = id <;> simp [hv]
theorem cnt_le (l : List Vo) (i : Int) : 0 ≤ cnt l i ∧ cnt l i ≤ l.length := by
  unfold cnt
  have := List.countP_le_length (p := fun v : Vo => v.i == i) (l := l)
  omega
theorem l6Ahead_c (d lo : Nat) (H : Hp) (a b : Vo) : vcall env (d + 1) 45 [VV a, VV b] lo H = some (.bool (ahead a b), H) := by
  rw [call_eq find45 _ _ _ rfl]
  unfold ahead
  by_cases h : a.i = b.i
  · have hb : (a.i != b.i) = false := by simp [h]
    rw [if_neg (by simp [h] : ¬ a.i ≠ b.i)]
    simp -implicitDefEqProofs only [VV, v45, VMs, noRef, noRef1, isRef, List.all_cons, List.all_nil, vop, VOp.still, VOp.app, VOp.plain, allP, lof, evs, start, asI, vbin, vcells, ntup, setAll, vfill, vress, vres, tup, Nat.reduceEqDiff, ↓reduceIte, Nat.reduceAdd, Nat.reduceMul, Nat.reduceLeDiff, reduceCtorEq, hb]
  · have hb : (a.i != b.i) = true := by simp [h]
    rw [if_pos (h : a.i ≠ b.i)]
    simp -implicitDefEqProofs only [VV, v45, VMs, noRef, noRef1, isRef, List.all_cons, List.all_nil, vop, VOp.still, VOp.app, VOp.plain, allP, lof, evs, start, asI, vbin, vcells, ntup, setAll, vfill, vress, vres, tup, Nat.reduceEqDiff, ↓reduceIte, Nat.reduceAdd, Nat.reduceMul, Nat.reduceLeDiff, reduceCtorEq, hb]
theorem l6Vol_c (d lo : Nat) (H : Hp) {q av nv ac nc az nz p} (h : PL H q av nv ac nc az nz p) (hs : SL p) (id : Int) :
    vcall env (d + 1) 44 [.pointer (some ⟨q, 0, none⟩), .int .i64 id] lo H = some (.int .i64 (atV p.v id), H) := by
  have n2 := h.r.v.1
  have hn : Sm nv := n2 ▸ hs.v
  have hv := h.v
  have hloop : ∃ r, lim (rnd (vcall env d) H.length [0, 1, 5] [4] l44_0) [(0, .pointer (some ⟨q, 0, none⟩)), (1, .int .i64 id), (5, .int .i64 0)] H = some r ∧
      ((∃ (i : Nat) (x : Vo), r = (.ret, [(4, .int .i64 (i : Nat))], H) ∧ p.v[i]? = some x ∧ x.i = id ∧ ∀ (j : Nat) (y : Vo), j < i → p.v[j]? = some y → y.i ≠ id) ∨ (r = (.exit 0, [], H) ∧ ∀ y ∈ p.v, y.i ≠ id)) := by
    refine lim_inv2 (fun i ts H1 => ts = [(0, .pointer (some ⟨q, 0, none⟩)), (1, .int .i64 id), (5, .int .i64 (i : Nat))] ∧ H1 = H ∧ ∀ (j : Nat) (y : Vo), j < i → p.v[j]? = some y → y.i ≠ id) nv ?_ ?_ ?_
    · rintro i ts H1 hi ⟨rfl, rfl, hp⟩
      have hil : i < p.v.length := by omega
      obtain ⟨pp, o, rfl, e1, e2, e3⟩ := h.r.v.at hil
      simp only [sgs] at hv
      by_cases hpi : p.v[i].i = id
      · have hb : (p.v[i].i == id) = true := by simp [hpi]
        exact Or.inr ⟨(.ret, [(4, .int .i64 (i : Nat))], H1), by simp -implicitDefEqProofs only [rnd, l44_0, VMs, noRef, noRef1, isRef, List.all_cons, List.all_nil, vop, VOp.still, VOp.app, VOp.plain, allP, lof, evs, start, asI, vbin, vcells, ntup, setAll, vfill, vress, vres, tup, Nat.reduceEqDiff, ↓reduceIte, Nat.reduceAdd, Nat.reduceMul, Nat.reduceLeDiff, reduceCtorEq, hv, slen, ltc hi, ge0, decide_true, Int.toNat_natCast, e1, hb], by simp, Or.inl ⟨i, _, rfl, getE hil, hpi, hp⟩⟩
      · have hb : (p.v[i].i == id) = false := by simp [hpi]
        refine Or.inl ⟨[(0, .pointer (some ⟨q, 0, none⟩)), (1, .int .i64 id), (5, .int .i64 ((i + 1 : Nat) : Int))], H1, by simp -implicitDefEqProofs only [rnd, l44_0, VMs, noRef, noRef1, isRef, List.all_cons, List.all_nil, vop, VOp.still, VOp.app, VOp.plain, allP, lof, evs, start, asI, vbin, vcells, ntup, setAll, vfill, vress, vres, tup, Nat.reduceEqDiff, ↓reduceIte, Nat.reduceAdd, Nat.reduceMul, Nat.reduceLeDiff, reduceCtorEq, hv, slen, ltc hi, ge0, decide_true, Int.toNat_natCast, e1, hb, hn.w hi], rfl, rfl, ?_⟩
        intro j y hj hy
        rcases Nat.lt_succ_iff_lt_or_eq.1 hj with h' | h'
        · exact hp j y h' hy
        · subst h'; rw [getE hil] at hy; cases hy; exact hpi
    · rintro ts H1 ⟨rfl, rfl, hp⟩
      refine ⟨(.exit 0, [], H1), by simp -implicitDefEqProofs only [rnd, l44_0, VMs, noRef, noRef1, isRef, List.all_cons, List.all_nil, vop, VOp.still, VOp.app, VOp.plain, allP, lof, evs, start, asI, vbin, vcells, ntup, setAll, vfill, vress, vres, tup, Nat.reduceEqDiff, ↓reduceIte, Nat.reduceAdd, Nat.reduceMul, Nat.reduceLeDiff, reduceCtorEq, hv, slen, Int.lt_irrefl, decide_false], by simp, Or.inr ⟨rfl, fun y hy => ?_⟩⟩
      obtain ⟨j, hj, rfl⟩ := List.getElem_of_mem hy
      exact hp j _ (by rw [n2]; exact hj) (getE hj)
    · exact ⟨rfl, rfl, fun j y hj => by omega⟩
  rw [call_eq find44 _ _ _ rfl]
  obtain ⟨r, hl, ⟨i, x, rfl, h1, h2, h3⟩ | ⟨rfl, h1⟩⟩ := hloop
  · rw [atV_some h1 h2 h3]; simp -implicitDefEqProofs only [v44, VMs, noRef, noRef1, isRef, List.all_cons, List.all_nil, vop, VOp.still, VOp.app, VOp.plain, allP, lof, evs, start, asI, vbin, vcells, ntup, setAll, vfill, vress, vres, tup, Nat.reduceEqDiff, ↓reduceIte, Nat.reduceAdd, Nat.reduceMul, Nat.reduceLeDiff, reduceCtorEq, vlp, hl]
  · rw [atV_none h1]; simp -implicitDefEqProofs only [v44, VMs, noRef, noRef1, isRef, List.all_cons, List.all_nil, vop, VOp.still, VOp.app, VOp.plain, allP, lof, evs, start, asI, vbin, vcells, ntup, setAll, vfill, vress, vres, tup, Nat.reduceEqDiff, ↓reduceIte, Nat.reduceAdd, Nat.reduceMul, Nat.reduceLeDiff, reduceCtorEq, vlp, hl]
theorem l6Count_c (d lo : Nat) (H : Hp) {q av nv ac nc az nz p} (h : PL H q av nv ac nc az nz p) (hs : SL p) (id : Int) :
    vcall env (d + 1) 26 [.pointer (some ⟨q, 0, none⟩), .int .i64 id] lo H = some (.int .i64 (cnt p.c id), H) := by
  have n2 := h.r.c.1
  have hn : Sm nc := n2 ▸ hs.c
  have hc := h.c
  have hl := lim_up (f := rnd (vcall env d) H.length [0, 1, 5, 6] [4, 5] l26_0) (r := (.exit 0, [(5, .int .i64 (cnt p.c id))], H)) (by simp) (fun j => [(0, .pointer (some ⟨q, 0, none⟩)), (1, .int .i64 id), (5, .int .i64 (cnt (p.c.take j) id)), (6, .int .i64 (j : Nat))]) (fun _ => H) nc
    (by
      have : p.c.take nc = p.c := by rw [n2, List.take_length]
      simp -implicitDefEqProofs only [this, rnd, l26_0, VMs, noRef, noRef1, isRef, List.all_cons, List.all_nil, vop, VOp.still, VOp.app, VOp.plain, allP, lof, evs, start, asI, vbin, vcells, ntup, setAll, vfill, vress, vres, tup, Nat.reduceEqDiff, ↓reduceIte, Nat.reduceAdd, Nat.reduceMul, Nat.reduceLeDiff, reduceCtorEq, hc, slen, Int.lt_irrefl, decide_false])
    (fun j hj => by
      have hjl : j < p.c.length := by omega
      obtain ⟨pv, ov, rfl, g1, g2, g3⟩ := h.r.c.at hjl
      have hct := cnt_take p.c id j hjl
      have hcl := cnt_le (p.c.take j) id
      rw [List.length_take] at hcl
      simp only [sgs] at hc
      generalize hcj : cnt (p.c.take j) id = cj at *
      by_cases hv : p.c[j].i = id
      · rw [if_pos hv] at hct
        have hv' : (p.c[j].i == id) = true := by simp [hv]
        have hw2 : IntKind.i64.wrap (cj + 1) = cj + 1 := by unfold Sm at hn; exact wr (by omega) (by omega)
        simp -implicitDefEqProofs only [rnd, l26_0, VMs, noRef, noRef1, isRef, List.all_cons, List.all_nil, vop, VOp.still, VOp.app, VOp.plain, allP, lof, evs, start, asI, vbin, vcells, ntup, setAll, vfill, vress, vres, tup, Nat.reduceEqDiff, ↓reduceIte, Nat.reduceAdd, Nat.reduceMul, Nat.reduceLeDiff, reduceCtorEq, hc, slen, ltc hj, decide_true, ge0, Int.toNat_natCast, g1, hv', hw2, hn.w hj, hct]
      · rw [if_neg hv, Int.add_zero] at hct
        have hv' : (p.c[j].i == id) = false := by simp [hv]
        simp -implicitDefEqProofs only [rnd, l26_0, VMs, noRef, noRef1, isRef, List.all_cons, List.all_nil, vop, VOp.still, VOp.app, VOp.plain, allP, lof, evs, start, asI, vbin, vcells, ntup, setAll, vfill, vress, vres, tup, Nat.reduceEqDiff, ↓reduceIte, Nat.reduceAdd, Nat.reduceMul, Nat.reduceLeDiff, reduceCtorEq, hc, slen, ltc hj, decide_true, ge0, Int.toNat_natCast, g1, hv', hn.w hj, hct])
  have h00 : cnt (p.c.take 0) id = 0 := by simp [cnt]
  simp only [h00, Int.natCast_zero] at hl
  rw [call_eq find26 _ _ _ rfl]
  simp -implicitDefEqProofs only [v26, VMs, noRef, noRef1, isRef, List.all_cons, List.all_nil, vop, VOp.still, VOp.app, VOp.plain, allP, lof, evs, start, asI, vbin, vcells, ntup, setAll, vfill, vress, vres, tup, Nat.reduceEqDiff, ↓reduceIte, Nat.reduceAdd, Nat.reduceMul, Nat.reduceLeDiff, reduceCtorEq, vlp, hl]
theorem l6Vols_c (d lo : Nat) (H : Hp) {q av nv ac nc az nz p} (h : PL H q av nv ac nc az nz p) (hs : SL p) :
    vcall env (d + 3) 24 [.pointer (some ⟨q, 0, none⟩)] lo H = some (.int .i64 (ff (wCs p.v)), H) := by
  have n2 := h.r.v.1
  have hsv : Sm nv := n2 ▸ hs.v
  obtain ⟨H2, l0, f2⟩ := lim_first (f := rnd (vcall env (d + 2)) H.length [0, 3] [2] l24_0) (H := H) (R := fun H => (.exit 0, [], H)) (E := fun x H => (.ret, [(2, .int .i64 x)], H)) (by simp) (by simp) (fun i => [(0, .pointer (some ⟨q, 0, none⟩)), (3, .int .i64 (i : Nat))]) (wCs p.v)
    (fun i x H' hx hf h0 => by
      obtain ⟨hi, rfl⟩ := rmap_at hx
      have hin : i < nv := by omega
      have h' := h.fn hf
      have hv := h'.v
      have hle : (H.length ≤ H'.length) = True := eq_true hf.len
      obtain ⟨pv, ov, rfl, e⟩ := h'.r.v.at hi
      have hev := e.val
      have hv1 := fun l => rd_app (l := l) hv
      have hprev : 0 < i → ∃ y : Vo, p.v[i - 1]? = some y ∧ ∀ l, rd (H' ++ l) ⟨pv, ov + (i - 1) * 3, none⟩ = some (.int .i64 y.i) := fun h0 => by
        have hi1 : i - 1 < p.v.length := by omega
        obtain ⟨pv', ov', he, e'⟩ := h'.r.v.at hi1
        cases he
        exact ⟨_, getE hi1, fun l => rd_app e'.1⟩
      unfold wC
      rw [getE hi]
      simp only
      generalize p.v[i] = v at *
      simp only [sgs] at hv hv1
      refine ⟨H' ++ [some ⟨[.int .i64 v.i, .int .i64 v.q, .int .i64 v.r], true, false⟩], ?_, hf.trans Fr.app⟩
      by_cases h1 : ¬ (1 ≤ v.i ∧ v.i ≤ 99)
      · rw [if_neg (fun hh => h1 hh.1 : ¬ ((1 ≤ v.i ∧ v.i ≤ 99) ∧ (1 ≤ v.q ∧ v.q ≤ 16) ∧ v.r = -1))]
        simp -implicitDefEqProofs only [rnd, l24_0, VMs, noRef, noRef1, isRef, List.all_cons, List.all_nil, vop, VOp.still, VOp.app, VOp.plain, allP, lof, evs, start, asI, vbin, vcells, ntup, setAll, vfill, vress, vres, tup, Nat.reduceEqDiff, ↓reduceIte, Nat.reduceAdd, Nat.reduceMul, Nat.reduceLeDiff, reduceCtorEq, hv, slen, ltc hin, ge0, hle, decide_true, decide_false, Int.toNat_natCast, hev, l5Id_c, h1, Int.reduceEq]
      replace h1 := Decidable.not_not.1 h1
      by_cases h2 : ¬ (1 ≤ v.q ∧ v.q ≤ 16)
      · rw [if_neg (fun hh => h2 hh.2.1 : ¬ ((1 ≤ v.i ∧ v.i ≤ 99) ∧ (1 ≤ v.q ∧ v.q ≤ 16) ∧ v.r = -1))]
        simp -implicitDefEqProofs only [rnd, l24_0, VMs, noRef, noRef1, isRef, List.all_cons, List.all_nil, vop, VOp.still, VOp.app, VOp.plain, allP, lof, evs, start, asI, vbin, vcells, ntup, setAll, vfill, vress, vres, tup, Nat.reduceEqDiff, ↓reduceIte, Nat.reduceAdd, Nat.reduceMul, Nat.reduceLeDiff, reduceCtorEq, hv, slen, ltc hin, ge0, hle, decide_true, decide_false, Int.toNat_natCast, hev, l5Id_c, l1In_c, h1, h2, Int.reduceEq]
      replace h2 := Decidable.not_not.1 h2
      by_cases h3 : v.r = -1
      · have h3' : (v.r != -1) = false := by simp [h3]
        rw [if_pos (⟨h1, h2, h3⟩ : (1 ≤ v.i ∧ v.i ≤ 99) ∧ (1 ≤ v.q ∧ v.q ≤ 16) ∧ v.r = -1)]
        by_cases h0 : 0 < i
        · obtain ⟨y, hy, hry⟩ := hprev h0
          have h0' : ((i : Int) > 0) = True := eq_true (by omega)
          have hw : IntKind.i64.wrap ((i : Int) - 1) = ((i - 1 : Nat) : Int) := by unfold Sm at hsv; rw [wr (by omega) (by omega)]; omega
          have hi1 : i - 1 < nv := by omega
          rw [hy, Option.getD_some]
          by_cases h4 : v.i ≤ y.i
          · rw [if_pos (⟨h0, h4⟩ : 0 < i ∧ v.i ≤ y.i)]
            simp -implicitDefEqProofs only [rnd, l24_0, VMs, noRef, noRef1, isRef, List.all_cons, List.all_nil, vop, VOp.still, VOp.app, VOp.plain, allP, lof, evs, start, asI, vbin, vcells, ntup, setAll, vfill, vress, vres, tup, Nat.reduceEqDiff, ↓reduceIte, Nat.reduceAdd, Nat.reduceMul, Nat.reduceLeDiff, reduceCtorEq, hv, hv1, slen, ltc hin, ltc hi1, ge0, hle, decide_true, decide_false, Int.toNat_natCast, hev, l5Id_c, l1In_c, h1, h2, h3', h0', hw, hry, h4, Int.reduceEq]
          · rw [if_neg (fun hh => h4 hh.2 : ¬ (0 < i ∧ v.i ≤ y.i))]
            simp -implicitDefEqProofs only [rnd, l24_0, VMs, noRef, noRef1, isRef, List.all_cons, List.all_nil, vop, VOp.still, VOp.app, VOp.plain, allP, lof, evs, start, asI, vbin, vcells, ntup, setAll, vfill, vress, vres, tup, Nat.reduceEqDiff, ↓reduceIte, Nat.reduceAdd, Nat.reduceMul, Nat.reduceLeDiff, reduceCtorEq, hv, hv1, slen, ltc hin, ltc hi1, ge0, hle, decide_true, decide_false, Int.toNat_natCast, hev, l5Id_c, l1In_c, h1, h2, h3', h0', hw, hry, h4, Int.reduceEq, hsv.w hin]
        · have h0' : ((i : Int) > 0) = False := eq_false (by omega)
          rw [if_neg (fun hh => h0 hh.1 : ¬ (0 < i ∧ v.i ≤ ((p.v[i - 1]?).getD ⟨0, 0, 0⟩).i))]
          simp -implicitDefEqProofs only [rnd, l24_0, VMs, noRef, noRef1, isRef, List.all_cons, List.all_nil, vop, VOp.still, VOp.app, VOp.plain, allP, lof, evs, start, asI, vbin, vcells, ntup, setAll, vfill, vress, vres, tup, Nat.reduceEqDiff, ↓reduceIte, Nat.reduceAdd, Nat.reduceMul, Nat.reduceLeDiff, reduceCtorEq, hv, hv1, slen, ltc hin, ge0, hle, decide_true, decide_false, Int.toNat_natCast, hev, l5Id_c, l1In_c, h1, h2, h3', h0', Int.reduceEq, hsv.w hin]
      · have h3' : (v.r != -1) = true := by simp [h3]
        rw [if_neg (fun hh => h3 hh.2.2 : ¬ ((1 ≤ v.i ∧ v.i ≤ 99) ∧ (1 ≤ v.q ∧ v.q ≤ 16) ∧ v.r = -1))]
        simp -implicitDefEqProofs only [rnd, l24_0, VMs, noRef, noRef1, isRef, List.all_cons, List.all_nil, vop, VOp.still, VOp.app, VOp.plain, allP, lof, evs, start, asI, vbin, vcells, ntup, setAll, vfill, vress, vres, tup, Nat.reduceEqDiff, ↓reduceIte, Nat.reduceAdd, Nat.reduceMul, Nat.reduceLeDiff, reduceCtorEq, hv, slen, ltc hin, ge0, hle, decide_true, decide_false, Int.toNat_natCast, hev, l5Id_c, l1In_c, h1, h2, h3', Int.reduceEq])
    (fun H' hf h0 => by
      have hv := (h.fn hf).v
      rw [wCs_len, ← n2]
      simp -implicitDefEqProofs only [rnd, l24_0, VMs, noRef, noRef1, isRef, List.all_cons, List.all_nil, vop, VOp.still, VOp.app, VOp.plain, allP, lof, evs, start, asI, vbin, vcells, ntup, setAll, vfill, vress, vres, tup, Nat.reduceEqDiff, ↓reduceIte, Nat.reduceAdd, Nat.reduceMul, Nat.reduceLeDiff, reduceCtorEq, hv, slen, Int.lt_irrefl, decide_false]) Fr.refl
  simp only [Int.natCast_zero] at l0
  rw [call_eq find24 _ _ _ rfl]
  by_cases hz : ff (wCs p.v) = 0
  · rw [if_pos hz] at l0
    simp -implicitDefEqProofs only [v24, VMs, noRef, noRef1, isRef, List.all_cons, List.all_nil, vop, VOp.still, VOp.app, VOp.plain, allP, lof, evs, start, asI, vbin, vcells, ntup, setAll, vfill, vress, vres, tup, Nat.reduceEqDiff, ↓reduceIte, Nat.reduceAdd, Nat.reduceMul, Nat.reduceLeDiff, reduceCtorEq, vlp, l0, hz]
  · rw [if_neg hz] at l0
    simp -implicitDefEqProofs only [v24, VMs, noRef, noRef1, isRef, List.all_cons, List.all_nil, vop, VOp.still, VOp.app, VOp.plain, allP, lof, evs, start, asI, vbin, vcells, ntup, setAll, vfill, vress, vres, tup, Nat.reduceEqDiff, ↓reduceIte, Nat.reduceAdd, Nat.reduceMul, Nat.reduceLeDiff, reduceCtorEq, vlp, l0]
theorem l6Cells_c (d lo : Nat) (H : Hp) {q av nv ac nc az nz p} (h : PL H q av nv ac nc az nz p) (hs : SL p) :
    vcall env (d + 3) 25 [.pointer (some ⟨q, 0, none⟩)] lo H = some (.int .i64 (ff (dCs p.v p.c)), H) := by
  have n2 := h.r.c.1
  have hsv : Sm nc := n2 ▸ hs.c
  obtain ⟨H2, l0, f2⟩ := lim_first (f := rnd (vcall env (d + 2)) H.length [0, 3] [2] l25_0) (H := H) (R := fun H => (.exit 0, [], H)) (E := fun x H => (.ret, [(2, .int .i64 x)], H)) (by simp) (by simp) (fun i => [(0, .pointer (some ⟨q, 0, none⟩)), (3, .int .i64 (i : Nat))]) (dCs p.v p.c)
    (fun i x H' hx hf h0 => by
      obtain ⟨hi, rfl⟩ := rmap_at hx
      have hin : i < nc := by omega
      have h' := h.fn hf
      have hv := h'.c
      have hle : (H.length ≤ H'.length) = True := eq_true hf.len
      have hat := fun l lo => l6Vol_c (d + 1) lo (H' ++ l) (h'.fn Fr.app) hs p.c[i].i
      obtain ⟨pv, ov, rfl, e⟩ := h'.r.c.at hi
      have hev := e.val
      have hv1 := fun l => rd_app (l := l) hv
      have hprev : 0 < i → ∃ y : Vo, p.c[i - 1]? = some y ∧ ∀ l, rdN (H' ++ l) ⟨pv, ov + (i - 1) * 3, none⟩ 3 = some [.int .i64 y.i, .int .i64 y.q, .int .i64 y.r] := fun h0 => by
        have hi1 : i - 1 < p.c.length := by omega
        obtain ⟨pv', ov', he, e'⟩ := h'.r.c.at hi1
        cases he
        exact ⟨_, getE hi1, fun l => e'.app.val⟩
      unfold dC
      rw [getE hi]
      simp only
      generalize p.c[i] = v at *
      simp only [sgs] at hv hv1
      refine ⟨H' ++ [some ⟨[.int .i64 v.i, .int .i64 v.q, .int .i64 v.r], true, false⟩], ?_, hf.trans Fr.app⟩
      by_cases h1 : ¬ (0 ≤ v.q ∧ v.q ≤ 15)
      · rw [if_neg (fun hh => h1 hh.1 : ¬ ((0 ≤ v.q ∧ v.q ≤ 15) ∧ (0 ≤ v.r ∧ v.r ≤ 255)))]
        simp -implicitDefEqProofs only [rnd, l25_0, VMs, noRef, noRef1, isRef, List.all_cons, List.all_nil, vop, VOp.still, VOp.app, VOp.plain, allP, lof, evs, start, asI, vbin, vcells, ntup, setAll, vfill, vress, vres, tup, Nat.reduceEqDiff, ↓reduceIte, Nat.reduceAdd, Nat.reduceMul, Nat.reduceLeDiff, reduceCtorEq, hv, slen, ltc hin, ge0, hle, decide_true, decide_false, Int.toNat_natCast, hev, l4Place_c, h1, Int.reduceEq]
      replace h1 := Decidable.not_not.1 h1
      by_cases h2 : ¬ (0 ≤ v.r ∧ v.r ≤ 255)
      · rw [if_neg (fun hh => h2 hh.2 : ¬ ((0 ≤ v.q ∧ v.q ≤ 15) ∧ (0 ≤ v.r ∧ v.r ≤ 255)))]
        simp -implicitDefEqProofs only [rnd, l25_0, VMs, noRef, noRef1, isRef, List.all_cons, List.all_nil, vop, VOp.still, VOp.app, VOp.plain, allP, lof, evs, start, asI, vbin, vcells, ntup, setAll, vfill, vress, vres, tup, Nat.reduceEqDiff, ↓reduceIte, Nat.reduceAdd, Nat.reduceMul, Nat.reduceLeDiff, reduceCtorEq, hv, slen, ltc hin, ge0, hle, decide_true, decide_false, Int.toNat_natCast, hev, l4Place_c, l3Data_c, h1, h2, Int.reduceEq]
      replace h2 := Decidable.not_not.1 h2
      rw [if_pos (⟨h1, h2⟩ : (0 ≤ v.q ∧ v.q ≤ 15) ∧ (0 ≤ v.r ∧ v.r ≤ 255))]
      rcases atV_cases p.v v.i with hm | ⟨j, hj, hm⟩
      · have hd : decide ((-1 : Int) < 0) = true := rfl
        rw [if_pos hm]
        rw [hm] at hat
        simp -implicitDefEqProofs only [rnd, l25_0, VMs, noRef, noRef1, isRef, List.all_cons, List.all_nil, vop, VOp.still, VOp.app, VOp.plain, allP, lof, evs, start, asI, vbin, vcells, ntup, setAll, vfill, vress, vres, tup, Nat.reduceEqDiff, ↓reduceIte, Nat.reduceAdd, Nat.reduceMul, Nat.reduceLeDiff, reduceCtorEq, hv, slen, ltc hin, ge0, hle, decide_true, decide_false, Int.toNat_natCast, hev, l4Place_c, l3Data_c, h1, h2, hat, hd, Int.reduceEq]
      have hd : decide ((j : Int) < 0) = false := decide_eq_false (by omega)
      rw [if_neg (by omega : ¬ atV p.v v.i = -1)]
      rw [hm] at hat
      by_cases h0 : 0 < i
      · obtain ⟨y, hy, hry⟩ := hprev h0
        have h0' : ((i : Int) > 0) = True := eq_true (by omega)
        have hw : IntKind.i64.wrap ((i : Int) - 1) = ((i - 1 : Nat) : Int) := by unfold Sm at hsv; rw [wr (by omega) (by omega)]; omega
        have hi1 : i - 1 < nc := by omega
        have hah := fun lo H => l6Ahead_c (d + 1) lo H y v
        simp only [VV] at hah
        rw [hy, Option.getD_some]
        cases h4 : ahead y v with
        | false =>
          rw [if_pos (⟨h0, rfl⟩ : 0 < i ∧ false = false)]
          simp -implicitDefEqProofs only [rnd, l25_0, VMs, noRef, noRef1, isRef, List.all_cons, List.all_nil, vop, VOp.still, VOp.app, VOp.plain, allP, lof, evs, start, asI, vbin, vcells, ntup, setAll, vfill, vress, vres, tup, Nat.reduceEqDiff, ↓reduceIte, Nat.reduceAdd, Nat.reduceMul, Nat.reduceLeDiff, reduceCtorEq, hv, hv1, slen, ltc hin, ltc hi1, ge0, hle, decide_true, decide_false, Int.toNat_natCast, hev, l4Place_c, l3Data_c, h1, h2, hat, hd, h0', hw, hry, hah, h4, Int.reduceEq]
        | true =>
          rw [if_neg (fun hh => by cases hh.2 : ¬ (0 < i ∧ true = false))]
          simp -implicitDefEqProofs only [rnd, l25_0, VMs, noRef, noRef1, isRef, List.all_cons, List.all_nil, vop, VOp.still, VOp.app, VOp.plain, allP, lof, evs, start, asI, vbin, vcells, ntup, setAll, vfill, vress, vres, tup, Nat.reduceEqDiff, ↓reduceIte, Nat.reduceAdd, Nat.reduceMul, Nat.reduceLeDiff, reduceCtorEq, hv, hv1, slen, ltc hin, ltc hi1, ge0, hle, decide_true, decide_false, Int.toNat_natCast, hev, l4Place_c, l3Data_c, h1, h2, hat, hd, h0', hw, hry, hah, h4, Int.reduceEq, hsv.w hin]
      · have h0' : ((i : Int) > 0) = False := eq_false (by omega)
        rw [if_neg (fun hh => h0 hh.1 : ¬ (0 < i ∧ ahead ((p.c[i - 1]?).getD ⟨0, 0, 0⟩) v = false))]
        simp -implicitDefEqProofs only [rnd, l25_0, VMs, noRef, noRef1, isRef, List.all_cons, List.all_nil, vop, VOp.still, VOp.app, VOp.plain, allP, lof, evs, start, asI, vbin, vcells, ntup, setAll, vfill, vress, vres, tup, Nat.reduceEqDiff, ↓reduceIte, Nat.reduceAdd, Nat.reduceMul, Nat.reduceLeDiff, reduceCtorEq, hv, hv1, slen, ltc hin, ge0, hle, decide_true, decide_false, Int.toNat_natCast, hev, l4Place_c, l3Data_c, h1, h2, hat, hd, h0', Int.reduceEq, hsv.w hin])
    (fun H' hf h0 => by
      have hv := (h.fn hf).c
      rw [dCs_len, ← n2]
      simp -implicitDefEqProofs only [rnd, l25_0, VMs, noRef, noRef1, isRef, List.all_cons, List.all_nil, vop, VOp.still, VOp.app, VOp.plain, allP, lof, evs, start, asI, vbin, vcells, ntup, setAll, vfill, vress, vres, tup, Nat.reduceEqDiff, ↓reduceIte, Nat.reduceAdd, Nat.reduceMul, Nat.reduceLeDiff, reduceCtorEq, hv, slen, Int.lt_irrefl, decide_false]) Fr.refl
  simp only [Int.natCast_zero] at l0
  rw [call_eq find25 _ _ _ rfl]
  by_cases hz : ff (dCs p.v p.c) = 0
  · rw [if_pos hz] at l0
    simp -implicitDefEqProofs only [v25, VMs, noRef, noRef1, isRef, List.all_cons, List.all_nil, vop, VOp.still, VOp.app, VOp.plain, allP, lof, evs, start, asI, vbin, vcells, ntup, setAll, vfill, vress, vres, tup, Nat.reduceEqDiff, ↓reduceIte, Nat.reduceAdd, Nat.reduceMul, Nat.reduceLeDiff, reduceCtorEq, vlp, l0, hz]
  · rw [if_neg hz] at l0
    simp -implicitDefEqProofs only [v25, VMs, noRef, noRef1, isRef, List.all_cons, List.all_nil, vop, VOp.still, VOp.app, VOp.plain, allP, lof, evs, start, asI, vbin, vcells, ntup, setAll, vfill, vress, vres, tup, Nat.reduceEqDiff, ↓reduceIte, Nat.reduceAdd, Nat.reduceMul, Nat.reduceLeDiff, reduceCtorEq, vlp, l0]
theorem zC_cases (p : Pl) : (1 < p.s.length ∧ zC p = 1) ∨ (p.s.length = 0 ∧ zC p = 0) ∨ ∃ s, p.s = [s] ∧ zC p = if 1 ≤ s ∧ s ≤ p.b then 0 else 1 := by
  unfold zC s0
  rcases hs : p.s with _ | ⟨s, _ | ⟨t, r⟩⟩
  · exact Or.inr (Or.inl ⟨rfl, rfl⟩)
  · refine Or.inr (Or.inr ⟨s, rfl, ?_⟩)
    by_cases h : 1 ≤ s ∧ s ≤ p.b
    · rw [if_pos h, if_neg]; simp; omega
    · rw [if_neg h, if_pos]; exact Or.inr ⟨rfl, by simpa using h⟩
  · exact Or.inl ⟨by simp, by rw [if_pos (Or.inl (by simp))]⟩
theorem l6Fault_c (d lo : Nat) (H : Hp) {q av nv ac nc az nz p} (h : PL H q av nv ac nc az nz p) (hs : SL p) :
    vcall env (d + 4) 13 [.pointer (some ⟨q, 0, none⟩)] lo H = some (.int .i64 (lF p), H) := by
  have n1 := h.r.v.1
  have n2 := h.r.c.1
  have n3 := h.r.s.1
  have hb := h.b
  have hv := h.v
  have hc := h.c
  have hz := h.s
  have hsn : Sm nv := n1 ▸ hs.v
  have c1 := fun lo => l6Vols_c d lo H h hs
  have c2 := fun lo => l6Cells_c d lo H h hs
  have c3 := fun lo id => l6Count_c (d + 2) lo H h hs id
  rw [call_eq find13 _ _ _ rfl]
  unfold lF
  by_cases hB : 0 ≤ p.b ∧ p.b ≤ 24
  · rw [if_pos hB]
    by_cases h6 : 6 < p.v.length
    · have h6' : ((nv : Int) > 6) = True := eq_true (by omega)
      rw [if_pos h6]
      simp -implicitDefEqProofs only [v13, VMs, noRef, noRef1, isRef, List.all_cons, List.all_nil, vop, VOp.still, VOp.app, VOp.plain, allP, lof, evs, start, asI, vbin, vcells, ntup, setAll, vfill, vress, vres, tup, Nat.reduceEqDiff, ↓reduceIte, Nat.reduceAdd, Nat.reduceMul, Nat.reduceLeDiff, reduceCtorEq, hb, l1In_c, hB, hv, slen, h6', decide_true]
    have h6' : ((nv : Int) > 6) = False := eq_false (by omega)
    rw [if_neg h6]
    by_cases hz0 : ff (wCs p.v) = 0
    · rw [if_pos hz0]
      by_cases h96 : 96 < p.c.length
      · have h96' : ((nc : Int) > 96) = True := eq_true (by omega)
        rw [if_pos h96]
        simp -implicitDefEqProofs only [v13, VMs, noRef, noRef1, isRef, List.all_cons, List.all_nil, vop, VOp.still, VOp.app, VOp.plain, allP, lof, evs, start, asI, vbin, vcells, ntup, setAll, vfill, vress, vres, tup, Nat.reduceEqDiff, ↓reduceIte, Nat.reduceAdd, Nat.reduceMul, Nat.reduceLeDiff, reduceCtorEq, hb, l1In_c, hB, hv, slen, h6', decide_true, decide_false, c1, hz0, bne_self_eq_false, hc, h96']
      have h96' : ((nc : Int) > 96) = False := eq_false (by omega)
      rw [if_neg h96]
      by_cases hz1 : ff (dCs p.v p.c) = 0
      · rw [if_pos hz1]
        have l0 := lim_firstC (f := rnd (vcall env (d + 3)) H.length [0, 5] [0, 2] l13_0) (H := H) (R := (.exit 0, [(0, .pointer (some ⟨q, 0, none⟩))], H)) (E := fun x => (.ret, [(0, .pointer (some ⟨q, 0, none⟩)), (2, .int .i64 x)], H)) (by simp) (by simp) (fun i => [(0, .pointer (some ⟨q, 0, none⟩)), (5, .int .i64 (i : Nat))]) (qCs p.v p.c)
          (fun i x hx h0 => by
            obtain ⟨hi, rfl⟩ := rmap_at hx
            have hin : i < nv := by omega
            obtain ⟨pv, ov, rfl, e1, e2, e3⟩ := h.r.v.at hi
            simp only [sgs] at hv
            unfold qC
            rw [getE hi]
            simp only
            by_cases hg : cnt p.c p.v[i].i > p.v[i].q
            · rw [if_pos hg]
              simp -implicitDefEqProofs only [rnd, l13_0, VMs, noRef, noRef1, isRef, List.all_cons, List.all_nil, vop, VOp.still, VOp.app, VOp.plain, allP, lof, evs, start, asI, vbin, vcells, ntup, setAll, vfill, vress, vres, tup, Nat.reduceEqDiff, ↓reduceIte, Nat.reduceAdd, Nat.reduceMul, Nat.reduceLeDiff, reduceCtorEq, hv, slen, ltc hin, ge0, decide_true, decide_false, Int.toNat_natCast, e1, e2, c3, hg, Int.reduceEq]
            · rw [if_neg hg]
              simp -implicitDefEqProofs only [rnd, l13_0, VMs, noRef, noRef1, isRef, List.all_cons, List.all_nil, vop, VOp.still, VOp.app, VOp.plain, allP, lof, evs, start, asI, vbin, vcells, ntup, setAll, vfill, vress, vres, tup, Nat.reduceEqDiff, ↓reduceIte, Nat.reduceAdd, Nat.reduceMul, Nat.reduceLeDiff, reduceCtorEq, hv, slen, ltc hin, ge0, decide_true, decide_false, Int.toNat_natCast, e1, e2, c3, hg, Int.reduceEq, hsn.w hin])
          (fun h0 => by
            rw [qCs_len, ← n1]
            simp -implicitDefEqProofs only [rnd, l13_0, VMs, noRef, noRef1, isRef, List.all_cons, List.all_nil, vop, VOp.still, VOp.app, VOp.plain, allP, lof, evs, start, asI, vbin, vcells, ntup, setAll, vfill, vress, vres, tup, Nat.reduceEqDiff, ↓reduceIte, Nat.reduceAdd, Nat.reduceMul, Nat.reduceLeDiff, reduceCtorEq, hv, slen, Int.lt_irrefl, decide_false])
        simp only [Int.natCast_zero] at l0
        by_cases hz2 : ff (qCs p.v p.c) = 0
        · rw [if_pos hz2] at l0 ⊢
          rcases zC_cases p with ⟨g1, g2⟩ | ⟨g1, g2⟩ | ⟨s, g1, g2⟩
          · have g1' : ((nz : Int) > 1) = True := eq_true (by omega)
            rw [g2]
            simp -implicitDefEqProofs only [v13, VMs, noRef, noRef1, isRef, List.all_cons, List.all_nil, vop, VOp.still, VOp.app, VOp.plain, allP, lof, evs, start, asI, vbin, vcells, ntup, setAll, vfill, vress, vres, tup, Nat.reduceEqDiff, ↓reduceIte, Nat.reduceAdd, Nat.reduceMul, Nat.reduceLeDiff, reduceCtorEq, hb, l1In_c, hB, hv, slen, h6', decide_true, decide_false, c1, hz0, bne_self_eq_false, hc, h96', c2, hz1, vlp, l0, hz2, vdr, hz, g1']
          · have g1' : ((nz : Int) > 1) = False := eq_false (by omega)
            have g3 : ((nz : Int) == 1) = false := by rw [beq_eq_false_iff_ne]; omega
            rw [g2]
            simp -implicitDefEqProofs only [v13, VMs, noRef, noRef1, isRef, List.all_cons, List.all_nil, vop, VOp.still, VOp.app, VOp.plain, allP, lof, evs, start, asI, vbin, vcells, ntup, setAll, vfill, vress, vres, tup, Nat.reduceEqDiff, ↓reduceIte, Nat.reduceAdd, Nat.reduceMul, Nat.reduceLeDiff, reduceCtorEq, hb, l1In_c, hB, hv, slen, h6', decide_true, decide_false, c1, hz0, bne_self_eq_false, hc, h96', c2, hz1, vlp, l0, hz2, vdr, hz, g1', g3]
          · have hn1 : nz = 1 := by rw [n3, g1]; rfl
            subst hn1
            have g1' : (((1 : Nat) : Int) > 1) = False := eq_false (by omega)
            have g3 : (((1 : Nat) : Int) == 1) = true := rfl
            have g4 : ((0 : Int) < ((1 : Nat) : Int)) = True := eq_true (by omega)
            obtain ⟨pz, oz, rfl, e⟩ := h.r.s.at (j := 0) (by rw [g1]; simp)
            simp only [g1, List.getElem_cons_zero, EI, Nat.zero_mul, Nat.add_zero] at e
            simp only [sgs] at hz
            rw [g2]
            by_cases g5 : 1 ≤ s ∧ s ≤ p.b
            · rw [if_pos g5]
              simp -implicitDefEqProofs only [v13, VMs, noRef, noRef1, isRef, List.all_cons, List.all_nil, vop, VOp.still, VOp.app, VOp.plain, allP, lof, evs, start, asI, vbin, vcells, ntup, setAll, vfill, vress, vres, tup, Nat.reduceEqDiff, ↓reduceIte, Nat.reduceAdd, Nat.reduceMul, Nat.reduceLeDiff, reduceCtorEq, hb, l1In_c, hB, hv, slen, h6', decide_true, decide_false, c1, hz0, bne_self_eq_false, hc, h96', c2, hz1, vlp, l0, hz2, vdr, hz, g1', g3, g4, Int.le_refl, Int.toNat_zero, e, g5]
            · rw [if_neg g5]
              simp -implicitDefEqProofs only [v13, VMs, noRef, noRef1, isRef, List.all_cons, List.all_nil, vop, VOp.still, VOp.app, VOp.plain, allP, lof, evs, start, asI, vbin, vcells, ntup, setAll, vfill, vress, vres, tup, Nat.reduceEqDiff, ↓reduceIte, Nat.reduceAdd, Nat.reduceMul, Nat.reduceLeDiff, reduceCtorEq, hb, l1In_c, hB, hv, slen, h6', decide_true, decide_false, c1, hz0, bne_self_eq_false, hc, h96', c2, hz1, vlp, l0, hz2, vdr, hz, g1', g3, g4, Int.le_refl, Int.toNat_zero, e, g5]
        · rw [if_neg hz2] at l0 ⊢
          simp -implicitDefEqProofs only [v13, VMs, noRef, noRef1, isRef, List.all_cons, List.all_nil, vop, VOp.still, VOp.app, VOp.plain, allP, lof, evs, start, asI, vbin, vcells, ntup, setAll, vfill, vress, vres, tup, Nat.reduceEqDiff, ↓reduceIte, Nat.reduceAdd, Nat.reduceMul, Nat.reduceLeDiff, reduceCtorEq, hb, l1In_c, hB, hv, slen, h6', decide_true, decide_false, c1, hz0, bne_self_eq_false, hc, h96', c2, hz1, vlp, l0]
      · have hz1' : (ff (dCs p.v p.c) != 0) = true := by simp [hz1]
        rw [if_neg hz1]
        simp -implicitDefEqProofs only [v13, VMs, noRef, noRef1, isRef, List.all_cons, List.all_nil, vop, VOp.still, VOp.app, VOp.plain, allP, lof, evs, start, asI, vbin, vcells, ntup, setAll, vfill, vress, vres, tup, Nat.reduceEqDiff, ↓reduceIte, Nat.reduceAdd, Nat.reduceMul, Nat.reduceLeDiff, reduceCtorEq, hb, l1In_c, hB, hv, slen, h6', decide_true, decide_false, c1, hz0, bne_self_eq_false, hc, h96', c2, hz1']
    · have hz0' : (ff (wCs p.v) != 0) = true := by simp [hz0]
      rw [if_neg hz0]
      simp -implicitDefEqProofs only [v13, VMs, noRef, noRef1, isRef, List.all_cons, List.all_nil, vop, VOp.still, VOp.app, VOp.plain, allP, lof, evs, start, asI, vbin, vcells, ntup, setAll, vfill, vress, vres, tup, Nat.reduceEqDiff, ↓reduceIte, Nat.reduceAdd, Nat.reduceMul, Nat.reduceLeDiff, reduceCtorEq, hb, l1In_c, hB, hv, slen, h6', decide_true, decide_false, c1, hz0']
  · rw [if_neg hB]
    simp -implicitDefEqProofs only [v13, VMs, noRef, noRef1, isRef, List.all_cons, List.all_nil, vop, VOp.still, VOp.app, VOp.plain, allP, lof, evs, start, asI, vbin, vcells, ntup, setAll, vfill, vress, vres, tup, Nat.reduceEqDiff, ↓reduceIte, Nat.reduceAdd, Nat.reduceMul, Nat.reduceLeDiff, reduceCtorEq, hb, l1In_c, hB, decide_false]
end Go.Proofs.YtohanpndekfbgaaDoor.V
