/- What is wrong with a pool? The reference's answer. -/
import Derived.Test.YtflddpkmajoeaaaVCF
import Derived.Test.YtflddpkmajoeaaaVPA
namespace Go.Proofs.Ytflddpkmajoeaaa.V
open Go
set_option linter.unusedVariables false
set_option linter.unusedSimpArgs false
set_option maxRecDepth 100000
/-- A pointer to a pool. -/
structure PP (H : Hp) (q : Nat) (an : Option Addr) (nn : Nat) (ab : Option Addr) (nb : Nat) (av : Option Addr) (nv : Nat) (p : Po) : Prop where
  f : PF H q 0 an nn ab nb p.f
  s : rd H ⟨q, 2, none⟩ = some (.slice av nv (sg av 3))
  v : Rep EV 3 H av nv p.v
theorem PP.fn {H H' : Hp} {q an nn ab nb av nv p} (h : PP H q an nn ab nb av nv p) (hf : Fn H H') : PP H' q an nn ab nb av nv p := ⟨h.f.fn hf, (hf.rd _ _ (rd_lt h.s) id).trans h.s, h.v.fnV hf⟩
theorem PP.rdN {H : Hp} {q an nn ab nb av nv p} (h : PP H q an nn ab nb av nv p) : V.rdN H ⟨q, 0, none⟩ 3 = some [.slice an nn (sg an 3), .slice ab nb (sg ab 2), .slice av nv (sg av 3)] := rdN3 h.f.n h.f.b h.s
theorem PP.rp {H : Hp} {q an nn ab nb av nv p} (h : PP H q an nn ab nb av nv p) : RP' H an nn ab nb av nv p := ⟨h.f.f, h.v⟩
theorem l5Id_c (d lo : Nat) (H : Hp) (v : Int) : vcall env (d + 2) 101 [.int .i64 v] lo H = some (.bool (decide (1 ≤ v ∧ v ≤ 99)), H) := by
  rw [call_eq find101 _ _ _ rfl]
  simp -implicitDefEqProofs only [v101, VMs, noRef, noRef1, isRef, List.all_cons, List.all_nil, vop, VOp.still, VOp.app, VOp.plain, allP, lof, evs, start, asI, vbin, vcells, ntup, setAll, vfill, vress, vres, tup, Nat.reduceEqDiff, ↓reduceIte, Nat.reduceAdd, Nat.reduceMul, Nat.reduceLeDiff, reduceCtorEq, l1In_c]
theorem isId_c (d lo : Nat) (H : Hp) (v : Int) : vcall env (d + 2) 77 [.int .i64 v] lo H = some (.bool (decide (1 ≤ v ∧ v ≤ 99)), H) := by
  rw [call_eq find77 _ _ _ rfl]
  simp -implicitDefEqProofs only [v77, VMs, noRef, noRef1, isRef, List.all_cons, List.all_nil, vop, VOp.still, VOp.app, VOp.plain, allP, lof, evs, start, asI, vbin, vcells, ntup, setAll, vfill, vress, vres, tup, Nat.reduceEqDiff, ↓reduceIte, Nat.reduceAdd, Nat.reduceMul, Nat.reduceLeDiff, reduceCtorEq, within_c]
theorem isQuota_c (d lo : Nat) (H : Hp) (v : Int) : vcall env (d + 2) 78 [.int .i64 v] lo H = some (.bool (decide (1 ≤ v ∧ v ≤ 16)), H) := by
  rw [call_eq find78 _ _ _ rfl]
  simp -implicitDefEqProofs only [v78, VMs, noRef, noRef1, isRef, List.all_cons, List.all_nil, vop, VOp.still, VOp.app, VOp.plain, allP, lof, evs, start, asI, vbin, vcells, ntup, setAll, vfill, vress, vres, tup, Nat.reduceEqDiff, ↓reduceIte, Nat.reduceAdd, Nat.reduceMul, Nat.reduceLeDiff, reduceCtorEq, within_c]
/-- How many blocks a tree has. -/
def usedF (F : Fo) (root : Int) : Int := (((walkL F root 16).length / 2 : Nat) : Int)
theorem quo2 {n : Nat} (h : n ≤ 1000) : IntKind.i64.wrap ((n : Int).tdiv 2) = ((n / 2 : Nat) : Int) := by
  have : (n : Int).tdiv 2 = ((n / 2 : Nat) : Int) := rfl
  rw [this, wr (by omega) (by omega)]
theorem l5Used_c (d lo : Nat) (H : Hp) {q o an nn ab nb F} (h : PF H q o an nn ab nb F) (g : Good F) (root : Int) (hr : rootB F root = true) :
    vcall env (d + 4) 84 [.pointer (some ⟨q, o, none⟩), .int .i64 root] lo H = some (.int .i64 (usedF F root), H) := by
  obtain ⟨i, H', c, _, _⟩ := l4Walk_c d H.length H h g root hr
  have hl := walkL_len F root 16
  have hq := quo2 (n := (walkL F root 16).length) (by omega)
  rw [call_eq find84 _ _ _ rfl]
  simp -implicitDefEqProofs only [v84, VMs, noRef, noRef1, isRef, List.all_cons, List.all_nil, vop, VOp.still, VOp.app, VOp.plain, allP, lof, evs, start, asI, vbin, vcells, ntup, setAll, vfill, vress, vres, tup, Nat.reduceEqDiff, ↓reduceIte, Nat.reduceAdd, Nat.reduceMul, Nat.reduceLeDiff, reduceCtorEq, c, slen, hq, usedF, Int.reduceEq]
theorem used_c (d lo : Nat) (H : Hp) {q an nn ab nb av nv p} (h : PP H q an nn ab nb av nv p) (g : Good p.f) (v : Vo) (hr : rootB p.f v.r = true) :
    vcall env (d + 4) 80 [.pointer (some ⟨q, 0, none⟩), VV v] lo H = some (.int .i64 (usedF p.f v.r), H) := by
  have hl := walkL_len p.f v.r 16
  have hq := quo2 (n := (walkL p.f v.r 16).length) (by omega)
  obtain ⟨i, H', c, _, _⟩ := walk_c d H.length (H ++ [some ⟨[.int .i64 v.i, .int .i64 v.q, .int .i64 v.r], true, false⟩]) (h.f.fn Fr.app) g v.r hr
  rw [call_eq find80 _ _ _ rfl]
  simp -implicitDefEqProofs only [VV, v80, VMs, noRef, noRef1, isRef, List.all_cons, List.all_nil, vop, VOp.still, VOp.app, VOp.plain, allP, lof, evs, start, asI, vbin, vcells, ntup, setAll, vfill, vress, vres, tup, Nat.reduceEqDiff, ↓reduceIte, Nat.reduceAdd, Nat.reduceMul, Nat.reduceLeDiff, reduceCtorEq, c, slen, hq, usedF, Int.reduceEq]
/-- How many volumes have a root. -/
def rcV (l : List Vo) (i : Int) : Int := (l.countP (fun v => v.r == i) : Int)
def vC (F : Fo) (l : List Vo) (i : Nat) : Int := match l[i]? with
  | some v => if (1 ≤ v.i ∧ v.i ≤ 99) ∧ (1 ≤ v.q ∧ v.q ≤ 16) ∧ rootB F v.r = true then (if 0 < i ∧ v.i ≤ ((l[i - 1]?).map Vo.i).getD 0 then 1 else if usedF F v.r > v.q then 9 else 0) else 3
  | none => 0
def cV (F : Fo) (l : List Vo) : List Int := (List.range l.length).map (vC F l)
def xC (p : Po) (i : Nat) : Int := match p.f.n[i]? with
  | some x => if x.r = 0 ∨ x.r = (if x.f = true then nmS p.f.n false (i : Int) else rcV p.v (i : Int)) then 0 else 1
  | none => 0
def cX (p : Po) : List Int := (List.range p.f.n.length).map (xC p)
/-- What is wrong with a pool. -/
def pF (p : Po) : Int := if fF p.f = 0 then (if 6 < p.v.length then 2 else if ff (cV p.f p.v) = 0 then ff (cX p) else ff (cV p.f p.v)) else fF p.f
theorem cV_len (F : Fo) (l : List Vo) : (cV F l).length = l.length := by simp [cV]
theorem cX_len (p : Po) : (cX p).length = p.f.n.length := by simp [cX]
theorem cV_at {F : Fo} {l : List Vo} {i : Nat} {x : Int} (h : (cV F l)[i]? = some x) : ∃ hi : i < l.length, x = vC F l i := by
  have hi : i < l.length := by have := (List.getElem?_eq_some_iff.1 h).1; rw [cV_len] at this; exact this
  refine ⟨hi, ?_⟩
  simp only [cV, List.getElem?_map, List.getElem?_range hi, Option.map_some, Option.some.injEq] at h
  exact h.symm
theorem cX_at {p : Po} {i : Nat} {x : Int} (h : (cX p)[i]? = some x) : ∃ hi : i < p.f.n.length, x = xC p i := by
  have hi : i < p.f.n.length := by have := (List.getElem?_eq_some_iff.1 h).1; rw [cX_len] at this; exact this
  refine ⟨hi, ?_⟩
  simp only [cX, List.getElem?_map, List.getElem?_range hi, Option.map_some, Option.some.injEq] at h
  exact h.symm
theorem rcV_take (l : List Vo) (i : Int) (j : Nat) (h : j < l.length) : rcV (l.take (j + 1)) i = rcV (l.take j) i + if l[j].r = i then 1 else 0 := by
  unfold rcV
  rw [List.take_succ_eq_append_getElem h, List.countP_append]
  by_cases hv : l[j].r = i <;> simp [hv]
theorem rcV_le (l : List Vo) (i : Int) : 0 ≤ rcV l i ∧ rcV l i ≤ l.length := by
  unfold rcV
  have := List.countP_le_length (p := fun v : Vo => v.r == i) (l := l)
  omega
theorem l5Exact_c (d lo : Nat) (H : Hp) {q an nn ab nb av nv p} (h : PP H q an nn ab nb av nv p) (h4 : Four p.f) (hv6 : p.v.length ≤ 6) :
    vcall env (d + 2) 120 [.pointer (some ⟨q, 0, none⟩)] lo H = some (.bool (decide (ff (cX p) = 0)), H) := by
  have n1 := h.f.f.n.1
  have n2 := h.v.1
  have hnn : nn ≤ 60 := by have := h4.n; omega
  have hsm : Sm nn := by unfold Sm; omega
  have hsv : Sm nv := by unfold Sm; omega
  have hn := h.f.n
  have hs := h.s
  have hc := fun leaf at_ => l4Named_c d H.length H h.f h4 leaf at_
  have l1 : lim (rnd (vcall env (d + 1)) H.length [0, 3] [2] l120_1) [(0, .pointer (some ⟨q, 0, none⟩)), (3, .int .i64 0)] H = some (if ff (cX p) = 0 then (.exit 0, [], H) else (.ret, [(2, .bool false)], H)) := by
    have := lim_firstC (f := rnd (vcall env (d + 1)) H.length [0, 3] [2] l120_1) (H := H) (R := (.exit 0, [], H)) (E := fun _ => (.ret, [(2, .bool false)], H)) (by simp) (by simp) (fun i => [(0, .pointer (some ⟨q, 0, none⟩)), (3, .int .i64 (i : Nat))]) (cX p)
      (fun i x hx h0 => by
        obtain ⟨hi, rfl⟩ := cX_at hx
        have hin : i < nn := by omega
        obtain ⟨p', po, rfl, e1, e2, a3, n3, e3, e4⟩ := h.f.f.n.at hi
        unfold xC
        rw [getE hi]
        simp only
        generalize p.f.n[i] = x at *
        by_cases hr : x.r = 0
        · have hr' : (x.r == 0) = true := by simp [hr]
          simp -implicitDefEqProofs only [rnd, l120_1, VMs, noRef, noRef1, isRef, List.all_cons, List.all_nil, vop, VOp.still, VOp.app, VOp.plain, allP, lof, evs, start, asI, vbin, vcells, ntup, setAll, vfill, vress, vres, tup, Nat.reduceEqDiff, ↓reduceIte, Nat.reduceAdd, Nat.reduceMul, Nat.reduceLeDiff, reduceCtorEq, hn, slen, ltc hin, ge0, decide_true, Int.toNat_natCast, e1, hr, hr', hsm.w hin, true_or, beq_self_eq_true]
        have hr' : (x.r == 0) = false := by simp [hr]
        by_cases hf : x.f = true
        · rw [hf] at e2
          by_cases hw : x.r = nmS p.f.n false (i : Int)
          · have hw' : (x.r != nmS p.f.n false (i : Int)) = false := by simp [hw]
            have hor : (x.r = 0 ∨ x.r = nmS p.f.n false (i : Int)) = True := eq_true (Or.inr hw)
            simp -implicitDefEqProofs only [rnd, l120_1, VMs, noRef, noRef1, isRef, List.all_cons, List.all_nil, vop, VOp.still, VOp.app, VOp.plain, allP, lof, evs, start, asI, vbin, vcells, ntup, setAll, vfill, vress, vres, tup, Nat.reduceEqDiff, ↓reduceIte, Nat.reduceAdd, Nat.reduceMul, Nat.reduceLeDiff, reduceCtorEq, hn, slen, ltc hin, ge0, decide_true, Int.toNat_natCast, e1, e2, hr', hf, hc, hw', hsm.w hin, hor]
          · have hw' : (x.r != nmS p.f.n false (i : Int)) = true := by simp [hw]
            have hor : ¬ (x.r = 0 ∨ x.r = nmS p.f.n false (i : Int)) := fun hh => hh.elim hr hw
            simp -implicitDefEqProofs only [rnd, l120_1, VMs, noRef, noRef1, isRef, List.all_cons, List.all_nil, vop, VOp.still, VOp.app, VOp.plain, allP, lof, evs, start, asI, vbin, vcells, ntup, setAll, vfill, vress, vres, tup, Nat.reduceEqDiff, ↓reduceIte, Nat.reduceAdd, Nat.reduceMul, Nat.reduceLeDiff, reduceCtorEq, hn, slen, ltc hin, ge0, decide_true, Int.toNat_natCast, e1, e2, hr', hf, hc, hw', hor, Int.reduceEq]
        · replace hf : x.f = false := eq_false_of_ne_true hf
          rw [hf] at e2
          have hin2 := lim_up (f := rnd (vcall env (d + 1)) H.length [0, 3, 4, 5, 6] [0, 2, 3, 4, 5] l120_0) (r := (.exit 2, [(0, .pointer (some ⟨q, 0, none⟩)), (3, .int .i64 (i : Nat)), (4, .pointer (some ⟨p', po + i * 3, none⟩)), (5, .int .i64 (rcV p.v (i : Int)))], H)) (by simp) (fun j => [(0, .pointer (some ⟨q, 0, none⟩)), (3, .int .i64 (i : Nat)), (4, .pointer (some ⟨p', po + i * 3, none⟩)), (5, .int .i64 (rcV (p.v.take j) (i : Int))), (6, .int .i64 (j : Nat))]) (fun _ => H) nv
            (by
              have : p.v.take nv = p.v := by rw [n2, List.take_length]
              simp -implicitDefEqProofs only [this, rnd, l120_0, VMs, noRef, noRef1, isRef, List.all_cons, List.all_nil, vop, VOp.still, VOp.app, VOp.plain, allP, lof, evs, start, asI, vbin, vcells, ntup, setAll, vfill, vress, vres, tup, Nat.reduceEqDiff, ↓reduceIte, Nat.reduceAdd, Nat.reduceMul, Nat.reduceLeDiff, reduceCtorEq, hs, slen, Int.lt_irrefl, decide_false])
            (fun j hj => by
              have hjl : j < p.v.length := by omega
              obtain ⟨pv, ov, rfl, g1, g2, g3⟩ := h.v.at hjl
              have hct := rcV_take p.v (i : Int) j hjl
              have hcl := rcV_le (p.v.take j) (i : Int)
              rw [List.length_take] at hcl
              generalize hcj : rcV (p.v.take j) (i : Int) = cj at *
              by_cases hv : p.v[j].r = (i : Int)
              · rw [if_pos hv] at hct
                have hv' : (p.v[j].r == (i : Int)) = true := by simp [hv]
                have hw2 : IntKind.i64.wrap (cj + 1) = cj + 1 := wr (by omega) (by omega)
                simp -implicitDefEqProofs only [rnd, l120_0, VMs, noRef, noRef1, isRef, List.all_cons, List.all_nil, vop, VOp.still, VOp.app, VOp.plain, allP, lof, evs, start, asI, vbin, vcells, ntup, setAll, vfill, vress, vres, tup, Nat.reduceEqDiff, ↓reduceIte, Nat.reduceAdd, Nat.reduceMul, Nat.reduceLeDiff, reduceCtorEq, hs, slen, ltc hj, decide_true, ge0, Int.toNat_natCast, g3, hv', hw2, hsv.w hj, hct]
              · rw [if_neg hv, Int.add_zero] at hct
                have hv' : (p.v[j].r == (i : Int)) = false := by simp [hv]
                simp -implicitDefEqProofs only [rnd, l120_0, VMs, noRef, noRef1, isRef, List.all_cons, List.all_nil, vop, VOp.still, VOp.app, VOp.plain, allP, lof, evs, start, asI, vbin, vcells, ntup, setAll, vfill, vress, vres, tup, Nat.reduceEqDiff, ↓reduceIte, Nat.reduceAdd, Nat.reduceMul, Nat.reduceLeDiff, reduceCtorEq, hs, slen, ltc hj, decide_true, ge0, Int.toNat_natCast, g3, hv', hsv.w hj, hct])
          have h00 : rcV (p.v.take 0) (i : Int) = 0 := by simp [rcV]
          simp only [h00, Int.natCast_zero] at hin2
          by_cases hw : x.r = rcV p.v (i : Int)
          · have hw' : (x.r != rcV p.v (i : Int)) = false := by simp [hw]
            have hor : (x.r = 0 ∨ x.r = rcV p.v (i : Int)) = True := eq_true (Or.inr hw)
            simp -implicitDefEqProofs only [rnd, l120_1, VMs, noRef, noRef1, isRef, List.all_cons, List.all_nil, vop, VOp.still, VOp.app, VOp.plain, allP, lof, evs, start, asI, vbin, vcells, ntup, setAll, vfill, vress, vres, tup, Nat.reduceEqDiff, ↓reduceIte, Nat.reduceAdd, Nat.reduceMul, Nat.reduceLeDiff, reduceCtorEq, hn, slen, ltc hin, ge0, decide_true, Int.toNat_natCast, e1, e2, hr', hf, hc, vlp, hin2, hw', hsm.w hin, hor]
          · have hw' : (x.r != rcV p.v (i : Int)) = true := by simp [hw]
            have hor : ¬ (x.r = 0 ∨ x.r = rcV p.v (i : Int)) := fun hh => hh.elim hr hw
            simp -implicitDefEqProofs only [rnd, l120_1, VMs, noRef, noRef1, isRef, List.all_cons, List.all_nil, vop, VOp.still, VOp.app, VOp.plain, allP, lof, evs, start, asI, vbin, vcells, ntup, setAll, vfill, vress, vres, tup, Nat.reduceEqDiff, ↓reduceIte, Nat.reduceAdd, Nat.reduceMul, Nat.reduceLeDiff, reduceCtorEq, hn, slen, ltc hin, ge0, decide_true, Int.toNat_natCast, e1, e2, hr', hf, hc, vlp, hin2, hw', hor, Int.reduceEq])
      (fun h0 => by
        rw [cX_len, ← n1]
        simp -implicitDefEqProofs only [rnd, l120_1, VMs, noRef, noRef1, isRef, List.all_cons, List.all_nil, vop, VOp.still, VOp.app, VOp.plain, allP, lof, evs, start, asI, vbin, vcells, ntup, setAll, vfill, vress, vres, tup, Nat.reduceEqDiff, ↓reduceIte, Nat.reduceAdd, Nat.reduceMul, Nat.reduceLeDiff, reduceCtorEq, hn, slen, Int.lt_irrefl, decide_false])
    exact this
  rw [call_eq find120 _ _ _ rfl]
  by_cases hz : ff (cX p) = 0
  · rw [if_pos hz] at l1
    simp -implicitDefEqProofs only [v120, VMs, noRef, noRef1, isRef, List.all_cons, List.all_nil, vop, VOp.still, VOp.app, VOp.plain, allP, lof, evs, start, asI, vbin, vcells, ntup, setAll, vfill, vress, vres, tup, Nat.reduceEqDiff, ↓reduceIte, Nat.reduceAdd, Nat.reduceMul, Nat.reduceLeDiff, reduceCtorEq, vlp, l1, hz, decide_true]
  · rw [if_neg hz] at l1
    simp -implicitDefEqProofs only [v120, VMs, noRef, noRef1, isRef, List.all_cons, List.all_nil, vop, VOp.still, VOp.app, VOp.plain, allP, lof, evs, start, asI, vbin, vcells, ntup, setAll, vfill, vress, vres, tup, Nat.reduceEqDiff, ↓reduceIte, Nat.reduceAdd, Nat.reduceMul, Nat.reduceLeDiff, reduceCtorEq, vlp, l1, hz, decide_false]
theorem ff01 {c : List Int} (h : ∀ y ∈ c, y = 0 ∨ y = 1) : ff c = 0 ∨ ff c = 1 := by
  induction c with
  | nil => exact Or.inl rfl
  | cons x r ih =>
    simp only [ff]
    by_cases hx : x = 0
    · rw [if_pos hx]; exact ih fun y hy => h y (by simp [hy])
    · rw [if_neg hx]; exact h x (by simp)
theorem ite01 (c : Prop) [Decidable c] : (if c then (0 : Int) else 1) = 0 ∨ (if c then (0 : Int) else 1) = 1 := by split <;> simp
theorem xC01 (p : Po) (i : Nat) : xC p i = 0 ∨ xC p i = 1 := by
  unfold xC
  cases p.f.n[i]? with
  | none => exact Or.inl rfl
  | some x => exact ite01 _
theorem cX01 (p : Po) : ff (cX p) = 0 ∨ ff (cX p) = 1 := ff01 fun y hy => by
  obtain ⟨i, hi, rfl⟩ := List.getElem_of_mem hy
  obtain ⟨_, e⟩ := cX_at (getE hi)
  rw [e]; exact xC01 p i
/-- A round of the reference's walk over the volumes. -/
theorem l5Fault0_c (d LO : Nat) (H : Hp) {q an nn ab nb av nv p} (h : PP H q an nn ab nb av nv p) (hs : SP p) (g : Good p.f) (hlo : LO ≤ H.length) (i : Nat) (hi : i < p.v.length) :
    ∃ H'', rnd (vcall env (d + 4)) LO [0, 4] [0, 2] l75_0 [(0, .pointer (some ⟨q, 0, none⟩)), (4, .int .i64 (i : Nat))] H = some (if vC p.f p.v i = 0 then (.normal, [(0, .pointer (some ⟨q, 0, none⟩)), (4, .int .i64 ((i + 1 : Nat) : Int))], H'') else (.ret, [(0, .pointer (some ⟨q, 0, none⟩)), (2, .int .i64 (vC p.f p.v i))], H'')) ∧ Fn H H'' := by
  have n2 := h.v.1
  have hin : i < nv := by omega
  have hsv : Sm nv := n2 ▸ hs.v
  have hv := h.s
  obtain ⟨C, hC⟩ : ∃ C : Option Blk, C = some ⟨[.int .i64 p.v[i].i, .int .i64 p.v[i].q, .int .i64 p.v[i].r], true, false⟩ := ⟨_, rfl⟩
  have hp := h.fn (Fr.app (l := [C]))
  have hrt := fun lo => l4Root_c (d + 2) lo (H ++ [C]) hp.f hs.f p.v[i].r
  obtain ⟨pv, ov, rfl, e⟩ := h.v.at hi
  have hle : (LO ≤ H.length) = True := eq_true hlo
  have hv1 := hp.s
  have hprev : 0 < i → ∃ y : Vo, p.v[i - 1]? = some y ∧ rd (H ++ [C]) ⟨pv, ov + (i - 1) * 3, none⟩ = some (.int .i64 y.i) := fun h0 => by
    have hi1 : i - 1 < p.v.length := by omega
    obtain ⟨pv', ov', he, e'⟩ := hp.v.at hi1
    cases he
    exact ⟨_, getE hi1, e'.1⟩
  refine ⟨H ++ [C], ?_, Fr.app⟩
  unfold vC
  rw [getE hi]
  simp only
  have hev := e.val
  have hus := fun (hr : rootB p.f p.v[i].r = true) lo => l5Used_c d lo (H ++ [C]) hp.f g p.v[i].r hr
  generalize p.v[i] = v at *
  subst hC
  simp only [sgs] at hv hv1
  by_cases h1 : ¬ (1 ≤ v.i ∧ v.i ≤ 99)
  · rw [if_neg (fun hh => h1 hh.1 : ¬ ((1 ≤ v.i ∧ v.i ≤ 99) ∧ (1 ≤ v.q ∧ v.q ≤ 16) ∧ rootB p.f v.r = true))]
    simp -implicitDefEqProofs only [rnd, l75_0, VMs, noRef, noRef1, isRef, List.all_cons, List.all_nil, vop, VOp.still, VOp.app, VOp.plain, allP, lof, evs, start, asI, vbin, vcells, ntup, setAll, vfill, vress, vres, tup, Nat.reduceEqDiff, ↓reduceIte, Nat.reduceAdd, Nat.reduceMul, Nat.reduceLeDiff, reduceCtorEq, hv, slen, ltc hin, ge0, hle, decide_true, decide_false, Int.toNat_natCast, hev, l5Id_c, h1, Int.reduceEq]
  replace h1 := Decidable.not_not.1 h1
  by_cases h2 : ¬ (1 ≤ v.q ∧ v.q ≤ 16)
  · rw [if_neg (fun hh => h2 hh.2.1 : ¬ ((1 ≤ v.i ∧ v.i ≤ 99) ∧ (1 ≤ v.q ∧ v.q ≤ 16) ∧ rootB p.f v.r = true))]
    simp -implicitDefEqProofs only [rnd, l75_0, VMs, noRef, noRef1, isRef, List.all_cons, List.all_nil, vop, VOp.still, VOp.app, VOp.plain, allP, lof, evs, start, asI, vbin, vcells, ntup, setAll, vfill, vress, vres, tup, Nat.reduceEqDiff, ↓reduceIte, Nat.reduceAdd, Nat.reduceMul, Nat.reduceLeDiff, reduceCtorEq, hv, slen, ltc hin, ge0, hle, decide_true, decide_false, Int.toNat_natCast, hev, l5Id_c, l1In_c, h1, h2, Int.reduceEq]
  replace h2 := Decidable.not_not.1 h2
  by_cases h3 : ¬ rootB p.f v.r = true
  · rw [if_neg (fun hh => h3 hh.2.2 : ¬ ((1 ≤ v.i ∧ v.i ≤ 99) ∧ (1 ≤ v.q ∧ v.q ≤ 16) ∧ rootB p.f v.r = true))]
    simp only [eq_false_of_ne_true h3] at hrt
    simp -implicitDefEqProofs only [rnd, l75_0, VMs, noRef, noRef1, isRef, List.all_cons, List.all_nil, vop, VOp.still, VOp.app, VOp.plain, allP, lof, evs, start, asI, vbin, vcells, ntup, setAll, vfill, vress, vres, tup, Nat.reduceEqDiff, ↓reduceIte, Nat.reduceAdd, Nat.reduceMul, Nat.reduceLeDiff, reduceCtorEq, hv, slen, ltc hin, ge0, hle, decide_true, decide_false, Int.toNat_natCast, hev, l5Id_c, l1In_c, h1, h2, hrt, Int.reduceEq]
  replace h3 := Decidable.not_not.1 h3
  rw [if_pos (⟨h1, h2, h3⟩ : (1 ≤ v.i ∧ v.i ≤ 99) ∧ (1 ≤ v.q ∧ v.q ≤ 16) ∧ rootB p.f v.r = true)]
  have hus' := hus h3
  simp only [h3] at hrt
  by_cases h0 : 0 < i
  · obtain ⟨y, hy, hry⟩ := hprev h0
    have h0' : ((i : Int) > 0) = True := eq_true (by omega)
    have hw : IntKind.i64.wrap ((i : Int) - 1) = ((i - 1 : Nat) : Int) := by have := hs.v; unfold Sm at this; rw [wr (by omega) (by omega)]; omega
    have hi1 : i - 1 < nv := by omega
    rw [hy, Option.map_some, Option.getD_some]
    by_cases h4 : v.i ≤ y.i
    · rw [if_pos (⟨h0, h4⟩ : 0 < i ∧ v.i ≤ y.i)]
      simp -implicitDefEqProofs only [rnd, l75_0, VMs, noRef, noRef1, isRef, List.all_cons, List.all_nil, vop, VOp.still, VOp.app, VOp.plain, allP, lof, evs, start, asI, vbin, vcells, ntup, setAll, vfill, vress, vres, tup, Nat.reduceEqDiff, ↓reduceIte, Nat.reduceAdd, Nat.reduceMul, Nat.reduceLeDiff, reduceCtorEq, hv, hv1, slen, ltc hin, ltc hi1, ge0, hle, decide_true, decide_false, Int.toNat_natCast, hev, l5Id_c, l1In_c, h1, h2, hrt, h0', hw, hry, h4, Int.reduceEq]
    · rw [if_neg (fun hh => h4 hh.2 : ¬ (0 < i ∧ v.i ≤ y.i))]
      by_cases h5 : usedF p.f v.r > v.q
      · rw [if_pos h5]
        simp -implicitDefEqProofs only [rnd, l75_0, VMs, noRef, noRef1, isRef, List.all_cons, List.all_nil, vop, VOp.still, VOp.app, VOp.plain, allP, lof, evs, start, asI, vbin, vcells, ntup, setAll, vfill, vress, vres, tup, Nat.reduceEqDiff, ↓reduceIte, Nat.reduceAdd, Nat.reduceMul, Nat.reduceLeDiff, reduceCtorEq, hv, hv1, slen, ltc hin, ltc hi1, ge0, hle, decide_true, decide_false, Int.toNat_natCast, hev, l5Id_c, l1In_c, h1, h2, hrt, h0', hw, hry, h4, hus', h5, Int.reduceEq]
      · rw [if_neg h5]
        simp -implicitDefEqProofs only [rnd, l75_0, VMs, noRef, noRef1, isRef, List.all_cons, List.all_nil, vop, VOp.still, VOp.app, VOp.plain, allP, lof, evs, start, asI, vbin, vcells, ntup, setAll, vfill, vress, vres, tup, Nat.reduceEqDiff, ↓reduceIte, Nat.reduceAdd, Nat.reduceMul, Nat.reduceLeDiff, reduceCtorEq, hv, hv1, slen, ltc hin, ltc hi1, ge0, hle, decide_true, decide_false, Int.toNat_natCast, hev, l5Id_c, l1In_c, h1, h2, hrt, h0', hw, hry, h4, hus', h5, Int.reduceEq, hsv.w hin]
  · have h0' : ((i : Int) > 0) = False := eq_false (by omega)
    rw [if_neg (fun hh => h0 hh.1 : ¬ (0 < i ∧ v.i ≤ ((p.v[i - 1]?).map Vo.i).getD 0))]
    by_cases h5 : usedF p.f v.r > v.q
    · rw [if_pos h5]
      simp -implicitDefEqProofs only [rnd, l75_0, VMs, noRef, noRef1, isRef, List.all_cons, List.all_nil, vop, VOp.still, VOp.app, VOp.plain, allP, lof, evs, start, asI, vbin, vcells, ntup, setAll, vfill, vress, vres, tup, Nat.reduceEqDiff, ↓reduceIte, Nat.reduceAdd, Nat.reduceMul, Nat.reduceLeDiff, reduceCtorEq, hv, hv1, slen, ltc hin, ge0, hle, decide_true, decide_false, Int.toNat_natCast, hev, l5Id_c, l1In_c, h1, h2, hrt, h0', hus', h5, Int.reduceEq]
    · rw [if_neg h5]
      simp -implicitDefEqProofs only [rnd, l75_0, VMs, noRef, noRef1, isRef, List.all_cons, List.all_nil, vop, VOp.still, VOp.app, VOp.plain, allP, lof, evs, start, asI, vbin, vcells, ntup, setAll, vfill, vress, vres, tup, Nat.reduceEqDiff, ↓reduceIte, Nat.reduceAdd, Nat.reduceMul, Nat.reduceLeDiff, reduceCtorEq, hv, hv1, slen, ltc hin, ge0, hle, decide_true, decide_false, Int.toNat_natCast, hev, l5Id_c, l1In_c, h1, h2, hrt, h0', hus', h5, Int.reduceEq, hsv.w hin]
theorem Good.four {F : Fo} (g : Good F) : Four F := ⟨g.l, fun x hx hr => (nodeF_four (g.n x hx) hr).1⟩
theorem l5Fault_c (d lo : Nat) (H : Hp) {q an nn ab nb av nv p} (h : PP H q an nn ab nb av nv p) (hs : SP p) :
    vcall env (d + 5) 75 [.pointer (some ⟨q, 0, none⟩)] lo H = some (.int .i64 (pF p), H) := by
  have n2 := h.v.1
  have hc := l4Fault_c d H.length H h.f hs.f
  have hv := h.s
  rw [call_eq find75 _ _ _ rfl]
  unfold pF
  by_cases hz : fF p.f = 0
  · have g := good_of hz
    by_cases h6 : 6 < p.v.length
    · have h6' : ((nv : Int) > 6) = True := eq_true (by omega)
      simp -implicitDefEqProofs only [v75, VMs, noRef, noRef1, isRef, List.all_cons, List.all_nil, vop, VOp.still, VOp.app, VOp.plain, allP, lof, evs, start, asI, vbin, vcells, ntup, setAll, vfill, vress, vres, tup, Nat.reduceEqDiff, ↓reduceIte, Nat.reduceAdd, Nat.reduceMul, Nat.reduceLeDiff, reduceCtorEq, hc, hz, hv, slen, bne_self_eq_false, h6, h6', decide_true]
    · have h6' : ((nv : Int) > 6) = False := eq_false (by omega)
      obtain ⟨H2, l0, f2⟩ := lim_first (f := rnd (vcall env (d + 4)) H.length [0, 4] [0, 2] l75_0) (H := H) (R := fun H => (.exit 0, [(0, .pointer (some ⟨q, 0, none⟩))], H)) (E := fun x H => (.ret, [(0, .pointer (some ⟨q, 0, none⟩)), (2, .int .i64 x)], H)) (by simp) (by simp) (fun i => [(0, .pointer (some ⟨q, 0, none⟩)), (4, .int .i64 (i : Nat))]) (cV p.f p.v)
        (fun i x H' hx hf h0 => by
          obtain ⟨hi, rfl⟩ := cV_at hx
          obtain ⟨H'', hr, hf'⟩ := l5Fault0_c d H.length H' (h.fn hf) hs g hf.len i hi
          exact ⟨H'', hr, hf.trans hf'⟩)
        (fun H' hf h0 => by
          have hv' := (h.fn hf).s
          rw [cV_len, ← n2]
          simp -implicitDefEqProofs only [rnd, l75_0, VMs, noRef, noRef1, isRef, List.all_cons, List.all_nil, vop, VOp.still, VOp.app, VOp.plain, allP, lof, evs, start, asI, vbin, vcells, ntup, setAll, vfill, vress, vres, tup, Nat.reduceEqDiff, ↓reduceIte, Nat.reduceAdd, Nat.reduceMul, Nat.reduceLeDiff, reduceCtorEq, hv', slen, Int.lt_irrefl, decide_false]) Fr.refl
      simp only [Int.natCast_zero] at l0
      by_cases hz0 : ff (cV p.f p.v) = 0
      · rw [if_pos hz0] at l0
        have hx := l5Exact_c (d + 2) H.length H2 (h.fn f2) g.four (by omega)
        rcases cX01 p with h01 | h01
        · rw [h01] at hx
          simp -implicitDefEqProofs only [v75, VMs, noRef, noRef1, isRef, List.all_cons, List.all_nil, vop, VOp.still, VOp.app, VOp.plain, allP, lof, evs, start, asI, vbin, vcells, ntup, setAll, vfill, vress, vres, tup, Nat.reduceEqDiff, ↓reduceIte, Nat.reduceAdd, Nat.reduceMul, Nat.reduceLeDiff, reduceCtorEq, hc, hz, hv, slen, bne_self_eq_false, h6, h6', decide_false, vlp, l0, hz0, hx, h01, decide_true]
        · rw [h01] at hx
          have hd : decide ((1 : Int) = 0) = false := rfl
          simp -implicitDefEqProofs only [v75, VMs, noRef, noRef1, isRef, List.all_cons, List.all_nil, vop, VOp.still, VOp.app, VOp.plain, allP, lof, evs, start, asI, vbin, vcells, ntup, setAll, vfill, vress, vres, tup, Nat.reduceEqDiff, ↓reduceIte, Nat.reduceAdd, Nat.reduceMul, Nat.reduceLeDiff, reduceCtorEq, hc, hz, hv, slen, bne_self_eq_false, h6, h6', decide_false, vlp, l0, hz0, hx, h01, hd]
      · rw [if_neg hz0] at l0
        simp -implicitDefEqProofs only [v75, VMs, noRef, noRef1, isRef, List.all_cons, List.all_nil, vop, VOp.still, VOp.app, VOp.plain, allP, lof, evs, start, asI, vbin, vcells, ntup, setAll, vfill, vress, vres, tup, Nat.reduceEqDiff, ↓reduceIte, Nat.reduceAdd, Nat.reduceMul, Nat.reduceLeDiff, reduceCtorEq, hc, hz, hv, slen, bne_self_eq_false, h6, h6', decide_false, vlp, l0, hz0]
  · have hz' : (fF p.f != 0) = true := by simp [hz]
    simp -implicitDefEqProofs only [v75, VMs, noRef, noRef1, isRef, List.all_cons, List.all_nil, vop, VOp.still, VOp.app, VOp.plain, allP, lof, evs, start, asI, vbin, vcells, ntup, setAll, vfill, vress, vres, tup, Nat.reduceEqDiff, ↓reduceIte, Nat.reduceAdd, Nat.reduceMul, Nat.reduceLeDiff, reduceCtorEq, hc, hz, hz']
theorem specPoolFault_c (d lo : Nat) (H : Hp) {an nn ab nb av nv p} (h : RP' H an nn ab nb av nv p) (hs : SP p) :
    vcall env (d + 6) 31 [.agg #[.slice an nn (sg an 3), .slice ab nb (sg ab 2), .slice av nv (sg av 3)]] lo H = some (.int .i64 (pF p), H) := by
  have hp : PP (H ++ [some ⟨[.slice an nn (sg an 3), .slice ab nb (sg ab 2), .slice av nv (sg av 3)], true, false⟩]) H.length an nn ab nb av nv p := ⟨⟨by simp [rd0], by simp [rd0], h.f.app⟩, by simp [rd0], h.v.app fun _ _ _ => EV.app⟩
  have hc := l5Fault_c d H.length _ hp hs
  rw [call_eq find31 _ _ _ rfl]
  simp -implicitDefEqProofs only [v31, VMs, noRef, noRef1, isRef, List.all_cons, List.all_nil, vop, VOp.still, VOp.app, VOp.plain, allP, lof, evs, start, asI, vbin, vcells, ntup, setAll, vfill, vress, vres, tup, Nat.reduceEqDiff, ↓reduceIte, Nat.reduceAdd, Nat.reduceMul, Nat.reduceLeDiff, reduceCtorEq, hc]
end Go.Proofs.Ytflddpkmajoeaaa.V
