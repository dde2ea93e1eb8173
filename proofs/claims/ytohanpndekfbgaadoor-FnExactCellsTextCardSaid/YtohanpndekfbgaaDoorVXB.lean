/- The text of a plain pool: as it is told, the reference's. -/
import Derived.Test.YtohanpndekfbgaaDoorVXA
namespace Go.Proofs.YtohanpndekfbgaaDoor.V
open Go
set_option linter.unusedVariables false
set_option linter.unusedSimpArgs false
set_option maxRecDepth 100000
def dgB (n : Int) : List UInt8 := Lib.decDigits n.toNat
def wordB (c : Vo) : List UInt8 := (dgB c.q ++ [58]) ++ dgB c.r
def cellsB (cs : List Vo) : List UInt8 := (cs.map fun c => 32 :: wordB c).flatten
def headB (v : Vo) : List UInt8 := (([118, 111, 108, 32] ++ dgB v.i) ++ [32]) ++ dgB v.q
def lineB (v : Vo) (cs : List Vo) : List UInt8 := (headB v ++ cellsB (own cs v.i)) ++ [10]
def textB (vs cs : List Vo) : List UInt8 := (vs.map fun v => lineB v cs).flatten
/-- What is right in a plain pool. -/
structure LG (p : Pl) : Prop where
  v : p.v.length ≤ 6
  c : p.c.length ≤ 96
  vi : ∀ x ∈ p.v, (1 ≤ x.i ∧ x.i ≤ 99) ∧ (1 ≤ x.q ∧ x.q ≤ 16)
  ci : ∀ x ∈ p.c, (0 ≤ x.q ∧ x.q ≤ 15) ∧ (0 ≤ x.r ∧ x.r ≤ 255)
theorem lF_good {p : Pl} (h : lF p = 0) : LG p := by
  unfold lF at h
  split at h
  · split at h
    · cases h
    · rename_i _ h6
      split at h
      · rename_i hw
        split at h
        · cases h
        · rename_i h96
          split at h
          · rename_i hd
            refine ⟨by omega, by omega, fun x hx => ?_, fun x hx => ?_⟩
            · obtain ⟨i, hi, rfl⟩ := List.getElem_of_mem hx
              have := ff_zero hw (wC p.v i) (by unfold wCs; exact List.mem_map.2 ⟨i, List.mem_range.2 hi, rfl⟩)
              unfold wC at this
              rw [getE hi] at this
              simp only at this
              split at this
              · rename_i hh; exact ⟨hh.1, hh.2.1⟩
              · cases this
            · obtain ⟨i, hi, rfl⟩ := List.getElem_of_mem hx
              have := ff_zero hd (dC p.v p.c i) (by unfold dCs; exact List.mem_map.2 ⟨i, List.mem_range.2 hi, rfl⟩)
              unfold dC at this
              rw [getE hi] at this
              simp only at this
              split at this
              · rename_i hh; exact hh
              · cases this
          · rename_i hd; exact absurd h hd
      · rename_i hw; exact absurd h hw
  · cases h
theorem dgB_len {n : Int} (h0 : 0 ≤ n) (h1 : n ≤ 1000) : (dgB n).length ≤ 21 := by
  unfold dgB
  rw [← Lib.itoa_nonneg]
  exact Lib.itoa_length_le _ (by omega) (by omega)
theorem dig_c (d lo : Nat) (H : Hp) {n : Int} (h0 : 0 ≤ n) (h1 : n ≤ 255) : vcall env (d + 3) 27 [.int .i64 n] lo H = some (str (dgB n), H) := by
  have := digits_c 2 d lo H n.toNat (by simp; omega) (by omega)
  rw [Int.toNat_of_nonneg h0] at this
  exact this
theorem dec_c (d lo : Nat) (H : Hp) {n : Int} (h0 : 0 ≤ n) (h1 : n ≤ 255) : vcall env (d + 2) 37 [.int .i64 n] lo H = some (str (dgB n), H) := by
  have := decimal_c d lo H n.toNat (by omega)
  rw [Int.toNat_of_nonneg h0] at this
  exact this
theorem own_take (l : List Vo) (id : Int) (j : Nat) (h : j < l.length) : own (l.take (j + 1)) id = own (l.take j) id ++ if l[j].i = id then [l[j]] else [] := by
  unfold own
  rw [List.take_succ_eq_append_getElem h, List.filter_append]
  by_cases hv : l[j].i = id <;> simp [hv]
theorem cellsB_app (a b : List Vo) : cellsB (a ++ b) = cellsB a ++ cellsB b := by simp [cellsB]
theorem cellsB_one (c : Vo) : cellsB [c] = 32 :: wordB c := by simp [cellsB]
theorem wordB_len {c : Vo} (h : (0 ≤ c.q ∧ c.q ≤ 15) ∧ (0 ≤ c.r ∧ c.r ≤ 255)) : (wordB c).length ≤ 43 := by
  have h1 := dgB_len h.1.1 (by omega)
  have h2 := dgB_len h.2.1 (by omega)
  unfold wordB
  simp only [List.length_append, List.length_cons, List.length_nil]
  omega
theorem cellsB_len : ∀ (cs : List Vo), (∀ x ∈ cs, (0 ≤ x.q ∧ x.q ≤ 15) ∧ (0 ≤ x.r ∧ x.r ≤ 255)) → (cellsB cs).length ≤ 44 * cs.length
  | [], _ => by simp [cellsB]
  | c :: cs, h => by
    have := cellsB_len cs (fun x hx => h x (by simp [hx]))
    have h1 := wordB_len (h c (by simp))
    rw [show c :: cs = [c] ++ cs from rfl, cellsB_app, cellsB_one]
    simp only [List.length_append, List.length_cons, List.length_nil]
    omega
theorem own_le (cs : List Vo) (id : Int) : (own cs id).length ≤ cs.length := List.length_filter_le _ _
theorem own_mem {cs : List Vo} {id : Int} {x : Vo} (h : x ∈ own cs id) : x ∈ cs := (List.mem_filter.1 h).1
theorem headB_len {v : Vo} (h : (1 ≤ v.i ∧ v.i ≤ 99) ∧ (1 ≤ v.q ∧ v.q ≤ 16)) : (headB v).length ≤ 47 := by
  have h1 := dgB_len (n := v.i) (by omega) (by omega)
  have h2 := dgB_len (n := v.q) (by omega) (by omega)
  unfold headB
  simp only [List.length_append, List.length_cons, List.length_nil]
  omega
theorem lineB_len {p : Pl} (g : LG p) {v : Vo} (hv : v ∈ p.v) : (lineB v p.c).length ≤ 5000 := by
  have h1 := headB_len (g.vi v hv)
  have h2 := cellsB_len (own p.c v.i) (fun x hx => g.ci x (own_mem hx))
  have h3 := own_le p.c v.i
  have h4 := g.c
  unfold lineB
  simp only [List.length_append, List.length_cons, List.length_nil]
  omega
theorem textB_len {p : Pl} (g : LG p) : ∀ (vs : List Vo), (∀ x ∈ vs, x ∈ p.v) → (textB vs p.c).length ≤ 5000 * vs.length
  | [], _ => by simp [textB]
  | v :: vs, h => by
    have := textB_len g vs (fun x hx => h x (by simp [hx]))
    have h1 := lineB_len g (h v (by simp))
    have e : textB (v :: vs) p.c = lineB v p.c ++ textB vs p.c := by simp [textB]
    rw [e]
    simp only [List.length_append, List.length_cons]
    omega
theorem textB_take {vs cs : List Vo} {i : Nat} (hi : i < vs.length) : textB (vs.take (i + 1)) cs = textB (vs.take i) cs ++ lineB vs[i] cs := by
  unfold textB
  rw [List.take_succ_eq_append_getElem hi, List.map_append, List.flatten_append]; simp
set_option maxHeartbeats 4000000 in
theorem l6Text_c (d lo : Nat) (H : Hp) {q av nv ac nc az nz p} (h : PL H q av nv ac nc az nz p) (g : LG p) : vcall env (d + 4) 14 [.pointer (some ⟨q, 0, none⟩)] lo H = some (str (textB p.v p.c), H) := by
  have n1 := h.r.v.1
  have n2 := h.r.c.1
  have gv := g.v
  have gc := g.c
  have pv := h.v
  have pc := h.c
  have hinner : ∀ (i : Nat) (hi : i < p.v.length) (A : List UInt8), A.length ≤ 40000 → lim (rnd (vcall env (d + 3)) H.length [0, 3, 4, 5] [0, 2, 3, 4] l14_0) [(0, .pointer (some ⟨q, 0, none⟩)), (3, .string ⟨A.toArray⟩), (4, .int .i64 (i : Nat)), (5, .int .i64 0)] H = some (.exit 2, [(0, .pointer (some ⟨q, 0, none⟩)), (3, .string ⟨(A ++ cellsB (own p.c p.v[i].i)).toArray⟩), (4, .int .i64 (i : Nat))], H) := by
    intro i hi A hA
    have hini : (A ++ cellsB (own (p.c.take 0) p.v[i].i)) = A := by simp [own, cellsB]
    have hfin : own (p.c.take nc) p.v[i].i = own p.c p.v[i].i := by rw [n2, List.take_length]
    have key := lim_up (f := rnd (vcall env (d + 3)) H.length [0, 3, 4, 5] [0, 2, 3, 4] l14_0) (r := (.exit 2, [(0, .pointer (some ⟨q, 0, none⟩)), (3, .string ⟨(A ++ cellsB (own (p.c.take nc) p.v[i].i)).toArray⟩), (4, .int .i64 (i : Nat))], H)) (by simp)
      (fun j => [(0, .pointer (some ⟨q, 0, none⟩)), (3, .string ⟨(A ++ cellsB (own (p.c.take j) p.v[i].i)).toArray⟩), (4, .int .i64 (i : Nat)), (5, .int .i64 (j : Nat))]) (fun _ => H) nc
      (by simp -implicitDefEqProofs only [rnd, l14_0, VMs, noRef, noRef1, isRef, List.all_cons, List.all_nil, vop, VOp.still, VOp.app, VOp.plain, allP, lof, evs, start, asI, vbin, vcells, ntup, setAll, vfill, vress, vres, tup, Nat.reduceEqDiff, ↓reduceIte, Nat.reduceAdd, Nat.reduceMul, Nat.reduceLeDiff, reduceCtorEq, pc, slen, Int.lt_irrefl, decide_false])
      (fun j hj => by
        have hjl : j < p.c.length := by omega
        have hjw : IntKind.i64.wrap ((j : Int) + 1) = ((j + 1 : Nat) : Int) := by rw [wr (by omega) (by omega)]; rfl
        obtain ⟨c1, c2, rfl, ec⟩ := h.r.c.at hjl
        obtain ⟨v1, v2, rfl, ev⟩ := h.r.v.at hi
        have hiv : i < nv := by omega
        have hot := own_take p.c p.v[i].i j hjl
        have gcj := g.ci _ (List.getElem_mem hjl)
        have hlen := cellsB_len (own (p.c.take j) p.v[i].i) (fun x hx => g.ci x (List.mem_of_mem_take (own_mem hx)))
        have hle := own_le (p.c.take j) p.v[i].i
        rw [List.length_take] at hle
        generalize p.c[j] = c at *
        generalize p.v[i] = v at *
        have ev0 := ev.1
        have ec0 := ec.1
        have ec1 := ec.2.1
        have ec2 := ec.2.2
        simp only [sgs] at pv pc
        by_cases hc : c.i = v.i
        · rw [if_pos hc] at hot
          have hb : (c.i == v.i) = true := beq_iff_eq.2 hc
          rw [hot, cellsB_app, cellsB_one]
          have d1 := dig_c d 0 [] gcj.1.1 (by omega)
          have d2 := dig_c d 0 [] gcj.2.1 gcj.2.2
          have l1 := dgB_len gcj.1.1 (by omega)
          have l2 := dgB_len gcj.2.1 (by omega)
          have hw : (32 :: wordB c : List UInt8) = (([32] ++ dgB c.q) ++ [58]) ++ dgB c.r := by simp [wordB]
          rw [hw]
          generalize cellsB (own (p.c.take j) v.i) = Y at *
          generalize dgB c.q = D1 at *
          generalize dgB c.r = D2 at *
          have hfinX : A ++ (Y ++ (([32] ++ D1) ++ [58] ++ D2)) = ((((A ++ Y) ++ [32]) ++ D1) ++ [58]) ++ D2 := by simp
          rw [hfinX]
          obtain ⟨X, hX⟩ : ∃ X, X = A ++ Y := ⟨_, rfl⟩
          have lX : X.length ≤ 50000 := by rw [hX, List.length_append]; omega
          rw [← hX]
          obtain ⟨X1, e1⟩ : ∃ X1, X1 = X ++ [32] := ⟨_, rfl⟩
          have m1 : X1.length = X.length + 1 := by rw [e1]; simp
          obtain ⟨X2, e2⟩ : ∃ X2, X2 = X1 ++ D1 := ⟨_, rfl⟩
          have m2 : X2.length = X1.length + D1.length := by rw [e2]; simp
          obtain ⟨X3, e3⟩ : ∃ X3, X3 = X2 ++ [58] := ⟨_, rfl⟩
          have m3 : X3.length = X2.length + 1 := by rw [e3]; simp
          rw [← e1, ← e2, ← e3]
          have k1 : (X.length ≤ 999999) = True := eq_true (by omega)
          have k2 : (X1.length + D1.length ≤ 1000000) = True := eq_true (by omega)
          have k3 : (X2.length ≤ 999999) = True := eq_true (by omega)
          have k4 : (X3.length + D2.length ≤ 1000000) = True := eq_true (by omega)
          replace e1 := e1.symm
          replace e2 := e2.symm
          replace e3 := e3.symm
          simp only [str] at d1 d2
          clear hX hfinX
          simp -implicitDefEqProofs only [rnd, l14_0, VMs, noRef, noRef1, isRef, List.all_cons, List.all_nil, vop, VOp.still, VOp.app, VOp.plain, allP, lof, evs, start, asI, vbin, vcells, ntup, setAll, vfill, vress, vres, tup, Nat.reduceEqDiff, ↓reduceIte, Nat.reduceAdd, Nat.reduceMul, Nat.reduceLeDiff, reduceCtorEq, vdr, pc, pv, slen, ltc hj, ltc hiv, ge0, decide_true, Int.toNat_natCast, ec0, ev0, ec1, ec2, hb, scal, d1, d2, szB, apB, e1, e2, e3, k1, k2, k3, k4, hjw]
        · rw [if_neg hc, List.append_nil] at hot
          have hb : (c.i == v.i) = false := beq_eq_false_iff_ne.2 hc
          rw [hot]
          generalize A ++ cellsB (own (p.c.take j) v.i) = X at *
          simp -implicitDefEqProofs only [rnd, l14_0, VMs, noRef, noRef1, isRef, List.all_cons, List.all_nil, vop, VOp.still, VOp.app, VOp.plain, allP, lof, evs, start, asI, vbin, vcells, ntup, setAll, vfill, vress, vres, tup, Nat.reduceEqDiff, ↓reduceIte, Nat.reduceAdd, Nat.reduceMul, Nat.reduceLeDiff, reduceCtorEq, vdr, pc, pv, slen, ltc hj, ltc hiv, ge0, decide_true, Int.toNat_natCast, ec0, ev0, hb, hjw])
    rw [hfin] at key
    simp only [hini, Int.natCast_zero] at key
    exact key
  have houter := lim_up (f := rnd (vcall env (d + 3)) H.length [0, 3, 4] [2, 3] l14_1) (r := (.exit 0, [(3, .string ⟨(textB (p.v.take nv) p.c).toArray⟩)], H)) (by simp)
    (fun i => [(0, .pointer (some ⟨q, 0, none⟩)), (3, .string ⟨(textB (p.v.take i) p.c).toArray⟩), (4, .int .i64 (i : Nat))]) (fun _ => H) nv
    (by simp -implicitDefEqProofs only [rnd, l14_1, VMs, noRef, noRef1, isRef, List.all_cons, List.all_nil, vop, VOp.still, VOp.app, VOp.plain, allP, lof, evs, start, asI, vbin, vcells, ntup, setAll, vfill, vress, vres, tup, Nat.reduceEqDiff, ↓reduceIte, Nat.reduceAdd, Nat.reduceMul, Nat.reduceLeDiff, reduceCtorEq, pv, slen, Int.lt_irrefl, decide_false])
    (fun i hi => by
      have hil : i < p.v.length := by omega
      have hiw : IntKind.i64.wrap ((i : Int) + 1) = ((i + 1 : Nat) : Int) := by rw [wr (by omega) (by omega)]; rfl
      have hin := hinner i hil
      obtain ⟨v1, v2, rfl, ev⟩ := h.r.v.at hil
      have gvi := g.vi _ (List.getElem_mem hil)
      have htl := textB_len g (p.v.take i) (fun x hx => List.mem_of_mem_take hx)
      rw [List.length_take] at htl
      have hll := cellsB_len (own p.c p.v[i].i) (fun x hx => g.ci x (own_mem hx))
      have hol := own_le p.c p.v[i].i
      rw [textB_take hil]
      generalize p.v[i] = v at *
      have ev0 := ev.1
      have ev1 := ev.2.1
      simp only [sgs] at pv
      have d1 := dig_c d 0 [] (n := v.i) (by omega) (by omega)
      have d2 := dig_c d 0 [] (n := v.q) (by omega) (by omega)
      have l1 := dgB_len (n := v.i) (by omega) (by omega)
      have l2 := dgB_len (n := v.q) (by omega) (by omega)
      have hlb : lineB v p.c = ((((([118, 111, 108, 32] ++ dgB v.i) ++ [32]) ++ dgB v.q)) ++ cellsB (own p.c v.i)) ++ [10] := rfl
      rw [hlb]
      generalize textB (p.v.take i) p.c = X at *
      generalize cellsB (own p.c v.i) = Y at *
      generalize dgB v.i = D1 at *
      generalize dgB v.q = D2 at *
      have hfinX : X ++ (((((([118, 111, 108, 32] ++ D1) ++ [32]) ++ D2)) ++ Y) ++ [10]) = (((((X ++ [118, 111, 108, 32]) ++ D1) ++ [32]) ++ D2) ++ Y) ++ [10] := by simp
      rw [hfinX]
      obtain ⟨X1, e1⟩ : ∃ X1, X1 = X ++ [118, 111, 108, 32] := ⟨_, rfl⟩
      have m1 : X1.length = X.length + 4 := by rw [e1]; simp
      obtain ⟨X2, e2⟩ : ∃ X2, X2 = X1 ++ D1 := ⟨_, rfl⟩
      have m2 : X2.length = X1.length + D1.length := by rw [e2]; simp
      obtain ⟨X3, e3⟩ : ∃ X3, X3 = X2 ++ [32] := ⟨_, rfl⟩
      have m3 : X3.length = X2.length + 1 := by rw [e3]; simp
      obtain ⟨X4, e4⟩ : ∃ X4, X4 = X3 ++ D2 := ⟨_, rfl⟩
      have m4 : X4.length = X3.length + D2.length := by rw [e4]; simp
      have hin4 := hin X4 (by omega)
      obtain ⟨X5, e5⟩ : ∃ X5, X5 = X4 ++ Y := ⟨_, rfl⟩
      have m5 : X5.length = X4.length + Y.length := by rw [e5]; simp
      rw [← e1, ← e2, ← e3, ← e4, ← e5]
      rw [← e5] at hin4
      have k1 : (X.length ≤ 999996) = True := eq_true (by omega)
      have k2 : (X1.length + D1.length ≤ 1000000) = True := eq_true (by omega)
      have k3 : (X2.length ≤ 999999) = True := eq_true (by omega)
      have k4 : (X3.length + D2.length ≤ 1000000) = True := eq_true (by omega)
      have k5 : (X5.length ≤ 999999) = True := eq_true (by omega)
      replace e1 := e1.symm
      replace e2 := e2.symm
      replace e3 := e3.symm
      replace e4 := e4.symm
      simp only [str] at d1 d2
      clear hfinX hin
      simp -implicitDefEqProofs only [rnd, l14_1, VMs, noRef, noRef1, isRef, List.all_cons, List.all_nil, vop, VOp.still, VOp.app, VOp.plain, allP, lof, evs, start, asI, vbin, vcells, ntup, setAll, vfill, vress, vres, tup, Nat.reduceEqDiff, ↓reduceIte, Nat.reduceAdd, Nat.reduceMul, Nat.reduceLeDiff, reduceCtorEq, vdr, pv, slen, ltc hi, ge0, decide_true, Int.toNat_natCast, ev0, ev1, scal, d1, d2, szB, apB, e1, e2, e3, e4, k1, k2, k3, k4, k5, vlp, hin4, hiw])
  rw [n1, List.take_length] at houter
  have hz : textB (p.v.take 0) p.c = [] := by simp [textB]
  simp only [hz, Int.natCast_zero] at houter
  rw [call_eq find14 _ _ _ rfl]
  simp -implicitDefEqProofs only [v14, VMs, noRef, noRef1, isRef, List.all_cons, List.all_nil, vop, VOp.still, VOp.app, VOp.plain, allP, lof, evs, start, asI, vbin, vcells, ntup, setAll, vfill, vress, vres, tup, Nat.reduceEqDiff, ↓reduceIte, Nat.reduceAdd, Nat.reduceMul, Nat.reduceLeDiff, reduceCtorEq, vlp, houter, str]
end Go.Proofs.YtohanpndekfbgaaDoor.V
