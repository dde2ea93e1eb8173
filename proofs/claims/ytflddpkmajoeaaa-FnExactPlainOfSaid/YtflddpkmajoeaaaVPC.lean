/- What is wrong with a pool? The program's answer. -/
import Derived.Test.YtflddpkmajoeaaaVPB
namespace Go.Proofs.Ytflddpkmajoeaaa.V
open Go
set_option linter.unusedVariables false
set_option linter.unusedSimpArgs false
set_option maxRecDepth 100000
/-- Numbers that count, in a block of their own. -/
structure RT (lo : Nat) (H : Hp) (R n : Nat) (f : Nat → Int) : Prop where
  w : WB lo H R
  s : Sz H R n
  c : ∀ j, j < n → rd H ⟨R, j, none⟩ = some (.int .i64 (f j))
theorem RT.fn {lo : Nat} {H H' : Hp} {R n : Nat} {f : Nat → Int} (h : RT lo H R n f) (hf : Fn H H') : RT lo H' R n f :=
  ⟨h.w.fn _ hf, h.s.fr hf id, fun j hj => (hf.rd _ _ (rd_lt (h.c j hj)) id).trans (h.c j hj)⟩
theorem RT.up {lo : Nat} {H : Hp} {R n : Nat} {f : Nat → Int} (h : RT lo H R n f) {j : Nat} (hj : j < n) (x : Int) : ∃ H', wrN lo H ⟨R, j, none⟩ [.int .i64 x] = some H' ∧ Fr (· = R) H H' ∧ H'.length = H.length ∧ RT lo H' R n (fun k => if k = j then x else f k) := by
  obtain ⟨H', hu, u, hs⟩ := upN (o := j) [.int .i64 x] h.w h.s (by simp; omega)
  refine ⟨H', hu, u.fr, u.len, u.wb _ _ h.w, hs, fun k hk => ?_⟩
  by_cases hkj : k = j
  · subst hkj
    rw [if_pos rfl]
    have := u.at_ 0 (by simp)
    simpa using this
  · rw [if_neg hkj]
    exact (u.oth _ _ (by simp; omega)).trans (h.c k hk)
/-- A round of the program's walk over the volumes. -/
theorem poolFault0_c (d LO : Nat) (H0 H : Hp) {q an nn ab nb av nv p} (h : PP H0 q an nn ab nb av nv p) (hs : SP p) (g : Good p.f) (hf : Fn H0 H) (hlo : LO ≤ H.length) (hv6 : p.v.length ≤ 6) (R : Nat) (hR : H0.length ≤ R) (i : Nat) (hi : i < p.v.length) (hrt : RT LO H R nn fun j => rcV (p.v.take i) (j : Int)) :
    ∃ H'', rnd (vcall env (d + 4)) LO [1, 4, 26, 27, 28] [1, 2, 4] l32_0 [(1, .pointer (some ⟨q, 0, none⟩)), (4, .slice (some ⟨R, 0, none⟩) nn 1), (26, .slice av nv (sg av 3)), (27, .int .i64 (nv : Nat)), (28, .int .i64 (i : Nat))] H = some (if vC p.f p.v i = 0 then (.normal, [(1, .pointer (some ⟨q, 0, none⟩)), (4, .slice (some ⟨R, 0, none⟩) nn 1), (26, .slice av nv (sg av 3)), (27, .int .i64 (nv : Nat)), (28, .int .i64 ((i + 1 : Nat) : Int))], H'') else (.ret, [(1, .pointer (some ⟨q, 0, none⟩)), (2, .int .i64 (vC p.f p.v i)), (4, .slice (some ⟨R, 0, none⟩) nn 1)], H'')) ∧ Fn H0 H'' ∧ (vC p.f p.v i = 0 → RT LO H'' R nn fun j => rcV (p.v.take (i + 1)) (j : Int)) := by
  have n1 := h.f.f.n.1
  have n2 := h.v.1
  have hin : i < nv := by omega
  have hsv : Sm nv := n2 ▸ hs.v
  have h' := h.fn hf
  obtain ⟨C, hC⟩ : ∃ C : Option Blk, C = some ⟨[.int .i64 p.v[i].i, .int .i64 p.v[i].q, .int .i64 p.v[i].r], true, false⟩ := ⟨_, rfl⟩
  have fC : Fn H (H ++ [C]) := Fr.app
  have hp := h'.fn fC
  have hrC := hrt.fn fC
  have hroot := fun lo => isRoot_c (d + 2) lo (H ++ [C]) hp.f.f hs.f p.v[i].r
  have hus := fun (hr : rootB p.f p.v[i].r = true) lo => used_c d lo (H ++ [C]) hp g p.v[i] hr
  obtain ⟨pv, ov, rfl, e⟩ := h'.v.at hi
  have hle : (LO ≤ H.length) = True := eq_true hlo
  have hv1 := hp.s
  have hprev : 0 < i → ∃ y : Vo, p.v[i - 1]? = some y ∧ rd (H ++ [C]) ⟨pv, ov + (i - 1) * 3, none⟩ = some (.int .i64 y.i) := fun h0 => by
    have hi1 : i - 1 < p.v.length := by omega
    obtain ⟨pv', ov', he, e'⟩ := hp.v.at hi1
    cases he
    exact ⟨_, getE hi1, e'.1⟩
  have hfr := hp.f.rdN
  have hrc := fun k => rcV_take p.v k i hi
  have hcl := fun k => rcV_le (p.v.take i) k
  unfold vC
  rw [getE hi]
  simp only
  have hev := e.val
  simp only [VV] at hus
  have hrl : i ≤ 6 := by omega
  have hlt : (p.v.take i).length ≤ 6 := by rw [List.length_take]; omega
  generalize p.v[i] = v at *
  simp only [sgs] at hv1
  have f0C : Fn H0 (H ++ [C]) := hf.trans fC
  by_cases h1 : ¬ (1 ≤ v.i ∧ v.i ≤ 99)
  · refine ⟨H ++ [C], ?_, f0C, fun e => ?_⟩ <;> rw [if_neg (fun hh => h1 hh.1 : ¬ ((1 ≤ v.i ∧ v.i ≤ 99) ∧ (1 ≤ v.q ∧ v.q ≤ 16) ∧ rootB p.f v.r = true))] at *
    · subst hC; simp -implicitDefEqProofs only [rnd, l32_0, VMs, noRef, noRef1, isRef, List.all_cons, List.all_nil, vop, VOp.still, VOp.app, VOp.plain, allP, lof, evs, start, asI, vbin, vcells, ntup, setAll, vfill, vress, vres, tup, Nat.reduceEqDiff, ↓reduceIte, Nat.reduceAdd, Nat.reduceMul, Nat.reduceLeDiff, reduceCtorEq, slen, ltc hin, ge0, hle, decide_true, decide_false, Int.toNat_natCast, hev, isId_c, h1, Int.reduceEq]
    · omega
  replace h1 := Decidable.not_not.1 h1
  by_cases h2 : ¬ (1 ≤ v.q ∧ v.q ≤ 16)
  · refine ⟨H ++ [C], ?_, f0C, fun e => ?_⟩ <;> rw [if_neg (fun hh => h2 hh.2.1 : ¬ ((1 ≤ v.i ∧ v.i ≤ 99) ∧ (1 ≤ v.q ∧ v.q ≤ 16) ∧ rootB p.f v.r = true))] at *
    · subst hC; simp -implicitDefEqProofs only [rnd, l32_0, VMs, noRef, noRef1, isRef, List.all_cons, List.all_nil, vop, VOp.still, VOp.app, VOp.plain, allP, lof, evs, start, asI, vbin, vcells, ntup, setAll, vfill, vress, vres, tup, Nat.reduceEqDiff, ↓reduceIte, Nat.reduceAdd, Nat.reduceMul, Nat.reduceLeDiff, reduceCtorEq, slen, ltc hin, ge0, hle, decide_true, decide_false, Int.toNat_natCast, hev, isId_c, isQuota_c, h1, h2, Int.reduceEq]
    · omega
  replace h2 := Decidable.not_not.1 h2
  by_cases h3 : ¬ rootB p.f v.r = true
  · simp only [eq_false_of_ne_true h3] at hroot
    refine ⟨H ++ [C], ?_, f0C, fun e => ?_⟩ <;> rw [if_neg (fun hh => h3 hh.2.2 : ¬ ((1 ≤ v.i ∧ v.i ≤ 99) ∧ (1 ≤ v.q ∧ v.q ≤ 16) ∧ rootB p.f v.r = true))] at *
    · subst hC; simp -implicitDefEqProofs only [rnd, l32_0, VMs, noRef, noRef1, isRef, List.all_cons, List.all_nil, vop, VOp.still, VOp.app, VOp.plain, allP, lof, evs, start, asI, vbin, vcells, ntup, setAll, vfill, vress, vres, tup, Nat.reduceEqDiff, ↓reduceIte, Nat.reduceAdd, Nat.reduceMul, Nat.reduceLeDiff, reduceCtorEq, slen, ltc hin, ge0, hle, decide_true, decide_false, Int.toNat_natCast, hev, isId_c, isQuota_c, h1, h2, hfr, hroot, Int.reduceEq]
    · omega
  replace h3 := Decidable.not_not.1 h3
  rw [if_pos (⟨h1, h2, h3⟩ : (1 ≤ v.i ∧ v.i ≤ 99) ∧ (1 ≤ v.q ∧ v.q ≤ 16) ∧ rootB p.f v.r = true)]
  have hus' := hus h3
  simp only [h3] at hroot
  -- what is counted behind the round
  have hcount : ∃ H'', (∀ (ts : Ts) (K : Ts × Hp → Option (VE × Ts × Hp)), True) ∧ Fn H0 H'' ∧ RT LO H'' R nn (fun j => rcV (p.v.take (i + 1)) (j : Int)) ∧ ((v.r = -1 ∧ H'' = H ++ [C]) ∨ ∃ j : Nat, v.r = (j : Int) ∧ j < nn ∧ rd (H ++ [C]) ⟨R, j, none⟩ = some (.int .i64 (rcV (p.v.take i) (j : Int))) ∧ wrN LO (H ++ [C]) ⟨R, j, none⟩ [.int .i64 (rcV (p.v.take i) (j : Int) + 1)] = some H'') := by
    rcases root_at h3 with hm | ⟨j, hj, hjr, _, _⟩
    · refine ⟨H ++ [C], fun _ _ => trivial, f0C, ⟨hrC.w, hrC.s, fun k hk => ?_⟩, Or.inl ⟨hm, rfl⟩⟩
      rw [hrc, if_neg (by omega), Int.add_zero]; exact hrC.c k hk
    · have hjn : j < nn := by omega
      obtain ⟨H'', hu, fu, _, ru⟩ := hrC.up hjn (rcV (p.v.take i) (j : Int) + 1)
      refine ⟨H'', fun _ _ => trivial, (f0C.no.trans fu).new (fun k e => by rw [e]; exact hR), ⟨ru.w, ru.s, fun k hk => ?_⟩, Or.inr ⟨j, hjr, hjn, hrC.c j hjn, hu⟩⟩
      rw [ru.c k hk, hrc]
      by_cases hkj : k = j
      · subst hkj; rw [if_pos rfl, if_pos hjr]
      · rw [if_neg hkj, if_neg (by omega), Int.add_zero]
  obtain ⟨H'', _, fH, rH, hcase⟩ := hcount
  by_cases h0 : 0 < i
  · obtain ⟨y, hy, hry⟩ := hprev h0
    have h0' : ((i : Int) > 0) = True := eq_true (by omega)
    have hw : IntKind.i64.wrap ((i : Int) - 1) = ((i - 1 : Nat) : Int) := by have := hs.v; unfold Sm at this; rw [wr (by omega) (by omega)]; omega
    have hi1 : i - 1 < nv := by omega
    rw [hy, Option.map_some, Option.getD_some]
    by_cases h4 : v.i ≤ y.i
    · refine ⟨H ++ [C], ?_, f0C, fun e => ?_⟩ <;> rw [if_pos (⟨h0, h4⟩ : 0 < i ∧ v.i ≤ y.i)] at *
      · subst hC; simp -implicitDefEqProofs only [rnd, l32_0, VMs, noRef, noRef1, isRef, List.all_cons, List.all_nil, vop, VOp.still, VOp.app, VOp.plain, allP, lof, evs, start, asI, vbin, vcells, ntup, setAll, vfill, vress, vres, tup, Nat.reduceEqDiff, ↓reduceIte, Nat.reduceAdd, Nat.reduceMul, Nat.reduceLeDiff, reduceCtorEq, vdr, hv1, slen, ltc hin, ltc hi1, ge0, hle, decide_true, decide_false, Int.toNat_natCast, hev, isId_c, isQuota_c, h1, h2, hfr, hroot, h0', hw, hry, h4, Int.reduceEq]
      · omega
    · rw [if_neg (fun hh => h4 hh.2 : ¬ (0 < i ∧ v.i ≤ y.i))]
      by_cases h5 : usedF p.f v.r > v.q
      · refine ⟨H ++ [C], ?_, f0C, fun e => ?_⟩ <;> rw [if_pos h5] at *
        · subst hC; simp -implicitDefEqProofs only [rnd, l32_0, VMs, noRef, noRef1, isRef, List.all_cons, List.all_nil, vop, VOp.still, VOp.app, VOp.plain, allP, lof, evs, start, asI, vbin, vcells, ntup, setAll, vfill, vress, vres, tup, Nat.reduceEqDiff, ↓reduceIte, Nat.reduceAdd, Nat.reduceMul, Nat.reduceLeDiff, reduceCtorEq, vdr, hv1, slen, ltc hin, ltc hi1, ge0, hle, decide_true, decide_false, Int.toNat_natCast, hev, isId_c, isQuota_c, h1, h2, hfr, hroot, h0', hw, hry, h4, hus', h5, Int.reduceEq]
        · omega
      · rw [if_neg h5]
        refine ⟨H'', ?_, fH, fun _ => rH⟩
        subst hC
        rcases hcase with ⟨hm, rfl⟩ | ⟨j, hjr, hjn, hrd, hu⟩
        · have hb : (v.r != -1) = false := by simp [hm]
          simp -implicitDefEqProofs only [rnd, l32_0, VMs, noRef, noRef1, isRef, List.all_cons, List.all_nil, vop, VOp.still, VOp.app, VOp.plain, allP, lof, evs, start, asI, vbin, vcells, ntup, setAll, vfill, vress, vres, tup, Nat.reduceEqDiff, ↓reduceIte, Nat.reduceAdd, Nat.reduceMul, Nat.reduceLeDiff, reduceCtorEq, vdr, hv1, slen, ltc hin, ltc hi1, ge0, hle, decide_true, decide_false, Int.toNat_natCast, hev, isId_c, isQuota_c, h1, h2, hfr, hroot, h0', hw, hry, h4, hus', h5, hb, hsv.w hin]
        · have hb : (v.r != -1) = true := bne_iff_ne.2 (by omega)
          have z1 : (0 ≤ v.r) = True := eq_true (by omega)
          have z2 : (v.r < (nn : Int)) = True := eq_true (by omega)
          have z3 : v.r.toNat = j := by omega
          have hcj := hcl (j : Int)
          have hwr : IntKind.i64.wrap (rcV (p.v.take i) (j : Int) + 1) = rcV (p.v.take i) (j : Int) + 1 := wr (by omega) (by omega)
          simp -implicitDefEqProofs only [rnd, l32_0, VMs, noRef, noRef1, isRef, List.all_cons, List.all_nil, vop, VOp.still, VOp.app, VOp.plain, allP, lof, evs, start, asI, vbin, vcells, ntup, setAll, vfill, vress, vres, tup, Nat.reduceEqDiff, ↓reduceIte, Nat.reduceAdd, Nat.reduceMul, Nat.reduceLeDiff, reduceCtorEq, vdr, hv1, slen, ltc hin, ltc hi1, z1, z2, z3, ge0, hle, decide_true, decide_false, Int.toNat_natCast, hev, isId_c, isQuota_c, h1, h2, hfr, hroot, h0', hw, hry, h4, hus', h5, hb, hrd, hwr, hu, Nat.mul_one, hsv.w hin]
  · have h0' : ((i : Int) > 0) = False := eq_false (by omega)
    rw [if_neg (fun hh => h0 hh.1 : ¬ (0 < i ∧ v.i ≤ ((p.v[i - 1]?).map Vo.i).getD 0))]
    by_cases h5 : usedF p.f v.r > v.q
    · refine ⟨H ++ [C], ?_, f0C, fun e => ?_⟩ <;> rw [if_pos h5] at *
      · subst hC; simp -implicitDefEqProofs only [rnd, l32_0, VMs, noRef, noRef1, isRef, List.all_cons, List.all_nil, vop, VOp.still, VOp.app, VOp.plain, allP, lof, evs, start, asI, vbin, vcells, ntup, setAll, vfill, vress, vres, tup, Nat.reduceEqDiff, ↓reduceIte, Nat.reduceAdd, Nat.reduceMul, Nat.reduceLeDiff, reduceCtorEq, vdr, hv1, slen, ltc hin, ge0, hle, decide_true, decide_false, Int.toNat_natCast, hev, isId_c, isQuota_c, h1, h2, hfr, hroot, h0', hus', h5, Int.reduceEq]
      · omega
    · rw [if_neg h5]
      refine ⟨H'', ?_, fH, fun _ => rH⟩
      subst hC
      rcases hcase with ⟨hm, rfl⟩ | ⟨j, hjr, hjn, hrd, hu⟩
      · have hb : (v.r != -1) = false := by simp [hm]
        simp -implicitDefEqProofs only [rnd, l32_0, VMs, noRef, noRef1, isRef, List.all_cons, List.all_nil, vop, VOp.still, VOp.app, VOp.plain, allP, lof, evs, start, asI, vbin, vcells, ntup, setAll, vfill, vress, vres, tup, Nat.reduceEqDiff, ↓reduceIte, Nat.reduceAdd, Nat.reduceMul, Nat.reduceLeDiff, reduceCtorEq, vdr, hv1, slen, ltc hin, ge0, hle, decide_true, decide_false, Int.toNat_natCast, hev, isId_c, isQuota_c, h1, h2, hfr, hroot, h0', hus', h5, hb, hsv.w hin]
      · have hb : (v.r != -1) = true := bne_iff_ne.2 (by omega)
        have z1 : (0 ≤ v.r) = True := eq_true (by omega)
        have z2 : (v.r < (nn : Int)) = True := eq_true (by omega)
        have z3 : v.r.toNat = j := by omega
        have hcj := hcl (j : Int)
        have hwr : IntKind.i64.wrap (rcV (p.v.take i) (j : Int) + 1) = rcV (p.v.take i) (j : Int) + 1 := wr (by omega) (by omega)
        simp -implicitDefEqProofs only [rnd, l32_0, VMs, noRef, noRef1, isRef, List.all_cons, List.all_nil, vop, VOp.still, VOp.app, VOp.plain, allP, lof, evs, start, asI, vbin, vcells, ntup, setAll, vfill, vress, vres, tup, Nat.reduceEqDiff, ↓reduceIte, Nat.reduceAdd, Nat.reduceMul, Nat.reduceLeDiff, reduceCtorEq, vdr, hv1, slen, ltc hin, z1, z2, z3, ge0, hle, decide_true, decide_false, Int.toNat_natCast, hev, isId_c, isQuota_c, h1, h2, hfr, hroot, h0', hus', h5, hb, hrd, hwr, hu, Nat.mul_one, hsv.w hin]
theorem rcV_zero {F : Fo} {l : List Vo} (h : ∀ v ∈ l, rootB F v.r = true) {i : Nat} (hi : i < F.n.length) (hr : F.n[i].r = 0) : rcV l (i : Int) = 0 := by
  unfold rcV
  rw [List.countP_eq_zero.2]
  · rfl
  · intro v hv e
    have e' : v.r = (i : Int) := by simpa using e
    have := h v hv
    rw [e', rootB_n hi, hr] at this
    simp at this
theorem cV_root {F : Fo} {l : List Vo} (h : ∀ y ∈ cV F l, y = 0) : ∀ v ∈ l, rootB F v.r = true := by
  intro v hv
  obtain ⟨i, hi, rfl⟩ := List.getElem_of_mem hv
  have h1 : vC F l i = 0 := h _ (List.mem_map.2 ⟨i, List.mem_range.2 hi, rfl⟩)
  unfold vC at h1
  rw [getE hi] at h1
  simp only at h1
  by_cases hc : (1 ≤ l[i].i ∧ l[i].i ≤ 99) ∧ (1 ≤ l[i].q ∧ l[i].q ≤ 16) ∧ rootB F l[i].r = true
  · exact hc.2.2
  · rw [if_neg hc] at h1; omega
theorem noLeaf {F : Fo} (g : Good F) {x : Nd} (hx : x ∈ F.n) (hr : x.r = 0) : x.f = false := by
  have := g.n x hx
  unfold nodeF at this
  rw [if_pos (by omega), if_pos hr] at this
  by_cases hf : x.f = true
  · rw [if_pos (Or.inl hf)] at this; omega
  · exact eq_false_of_ne_true hf
/-- A round of the program's last walk. -/
theorem poolFault1_c (d LO : Nat) (H : Hp) {q an nn ab nb av nv p} (h : PP H q an nn ab nb av nv p) (hs : SP p) (g : Good p.f) (hlo : LO ≤ H.length) (hroots : ∀ v ∈ p.v, rootB p.f v.r = true) (R M : Nat) (i : Nat) (hi : i < p.f.n.length)
    (hR : rd H ⟨R, i, none⟩ = some (.int .i64 (rcV p.v (i : Int)))) (hM : rd H ⟨M, i, none⟩ = some (.int .i64 (nmS p.f.n false (i : Int)))) :
    ∃ H'', rnd (vcall env d) LO [1, 4, 90, 91, 92] [2] l32_1 [(1, .pointer (some ⟨q, 0, none⟩)), (4, .slice (some ⟨R, 0, none⟩) nn 1), (90, .slice (some ⟨M, 0, none⟩) nn 1), (91, .int .i64 (nn : Nat)), (92, .int .i64 (i : Nat))] H = some (if xC p i = 0 then (.normal, [(1, .pointer (some ⟨q, 0, none⟩)), (4, .slice (some ⟨R, 0, none⟩) nn 1), (90, .slice (some ⟨M, 0, none⟩) nn 1), (91, .int .i64 (nn : Nat)), (92, .int .i64 ((i + 1 : Nat) : Int))], H'') else (.ret, [(2, .int .i64 (xC p i))], H'')) ∧ Fn H H'' := by
  have n1 := h.f.f.n.1
  have hin : i < nn := by omega
  have hsn : Sm nn := n1 ▸ hs.f.n
  have hn := h.f.n
  have hle : (LO ≤ H.length) = True := eq_true hlo
  have hz := fun hr : p.f.n[i].r = 0 => rcV_zero hroots hi hr
  have hnl := fun hr : p.f.n[i].r = 0 => noLeaf g (List.getElem_mem hi) hr
  have hM' := fun l => rd_app (l := l) hM
  have hR' := fun l => rd_app (l := l) hR
  obtain ⟨p0, po, rfl, e1, e2, a3, n3, e3, e4⟩ := h.f.f.n.at hi
  have he := rdN3 e1 e2 e3
  unfold xC
  rw [getE hi]
  simp only
  generalize p.f.n[i] = x at *
  refine ⟨H ++ [some ⟨[.int .i64 x.r, .bool x.f, .slice a3 n3 (sg a3 1)], true, false⟩], ?_, Fr.app⟩
  simp only [sgs] at hn
  by_cases hf : x.f = true
  · have hr : ¬ x.r = 0 := fun e => by rw [hnl e] at hf; cases hf
    rw [hf] at he ⊢
    simp only [if_true]
    by_cases hw : x.r = nmS p.f.n false (i : Int)
    · rw [if_pos (Or.inr hw : x.r = 0 ∨ x.r = nmS p.f.n false (i : Int))]
      have hw' : (x.r != nmS p.f.n false (i : Int)) = false := by simp [hw]
      simp -implicitDefEqProofs only [rnd, l32_1, VMs, noRef, noRef1, isRef, List.all_cons, List.all_nil, vop, VOp.still, VOp.app, VOp.plain, allP, lof, evs, start, asI, vbin, vcells, ntup, setAll, vfill, vress, vres, tup, Nat.reduceEqDiff, ↓reduceIte, Nat.reduceAdd, Nat.reduceMul, Nat.reduceLeDiff, reduceCtorEq, vdr, slen, ltc hin, ge0, hle, decide_true, Int.toNat_natCast, Nat.mul_one, hM, hn, he, hw', hsn.w hin]
    · rw [if_neg (fun hh => hh.elim hr hw : ¬ (x.r = 0 ∨ x.r = nmS p.f.n false (i : Int)))]
      have hw' : (x.r != nmS p.f.n false (i : Int)) = true := by simp [hw]
      simp -implicitDefEqProofs only [rnd, l32_1, VMs, noRef, noRef1, isRef, List.all_cons, List.all_nil, vop, VOp.still, VOp.app, VOp.plain, allP, lof, evs, start, asI, vbin, vcells, ntup, setAll, vfill, vress, vres, tup, Nat.reduceEqDiff, ↓reduceIte, Nat.reduceAdd, Nat.reduceMul, Nat.reduceLeDiff, reduceCtorEq, vdr, slen, ltc hin, ge0, hle, decide_true, Int.toNat_natCast, Nat.mul_one, hM, hn, he, hw', Int.reduceEq]
  · replace hf := eq_false_of_ne_true hf
    rw [hf] at he ⊢
    have hiff : (x.r = 0 ∨ x.r = rcV p.v (i : Int)) ↔ x.r = rcV p.v (i : Int) := ⟨fun hh => hh.elim (fun e => by rw [e, hz e]) id, Or.inr⟩
    simp only [Bool.false_eq_true, if_false]
    by_cases hw : x.r = rcV p.v (i : Int)
    · rw [if_pos (Or.inr hw : x.r = 0 ∨ x.r = rcV p.v (i : Int))]
      have hw' : (x.r != rcV p.v (i : Int)) = false := by simp [hw]
      simp -implicitDefEqProofs only [rnd, l32_1, VMs, noRef, noRef1, isRef, List.all_cons, List.all_nil, vop, VOp.still, VOp.app, VOp.plain, allP, lof, evs, start, asI, vbin, vcells, ntup, setAll, vfill, vress, vres, tup, Nat.reduceEqDiff, ↓reduceIte, Nat.reduceAdd, Nat.reduceMul, Nat.reduceLeDiff, reduceCtorEq, vdr, slen, ltc hin, ge0, hle, decide_true, Int.toNat_natCast, Nat.mul_one, hM, hR', hn, he, hw', hsn.w hin]
    · rw [if_neg (fun hh => hw (hiff.1 hh) : ¬ (x.r = 0 ∨ x.r = rcV p.v (i : Int)))]
      have hw' : (x.r != rcV p.v (i : Int)) = true := by simp [hw]
      simp -implicitDefEqProofs only [rnd, l32_1, VMs, noRef, noRef1, isRef, List.all_cons, List.all_nil, vop, VOp.still, VOp.app, VOp.plain, allP, lof, evs, start, asI, vbin, vcells, ntup, setAll, vfill, vress, vres, tup, Nat.reduceEqDiff, ↓reduceIte, Nat.reduceAdd, Nat.reduceMul, Nat.reduceLeDiff, reduceCtorEq, vdr, slen, ltc hin, ge0, hle, decide_true, Int.toNat_natCast, Nat.mul_one, hM, hR', hn, he, hw', Int.reduceEq]
theorem implPoolFault_c (d lo : Nat) (H : Hp) {an nn ab nb av nv p} (h : RP' H an nn ab nb av nv p) (hs : SP p) :
    vcall env (d + 7) 32 [.agg #[.slice an nn (sg an 3), .slice ab nb (sg ab 2), .slice av nv (sg av 3)]] lo H = some (.int .i64 (pF p), H) := by
  have n1 := h.f.n.1
  have n2 := h.v.1
  obtain ⟨P, hP⟩ : ∃ P : Option Blk, P = some ⟨[.slice an nn (sg an 3), .slice ab nb (sg ab 2), .slice av nv (sg av 3)], true, false⟩ := ⟨_, rfl⟩
  have hp : PP (H ++ [P]) H.length an nn ab nb av nv p := by rw [hP]; exact ⟨⟨by simp [rd0], by simp [rd0], h.f.app⟩, by simp [rd0], h.v.app fun _ _ _ => EV.app⟩
  have hc := fun lo => implForestFault_c d lo (H ++ [P]) hp.f.f hs.f
  rw [call_eq find32 _ _ _ rfl]
  unfold pF
  by_cases hz : fF p.f = 0
  · have g := good_of hz
    by_cases h6 : 6 < p.v.length
    · have h6' : ((nv : Int) > 6) = True := eq_true (by omega)
      subst hP
      simp -implicitDefEqProofs only [v32, VMs, noRef, noRef1, isRef, List.all_cons, List.all_nil, vop, VOp.still, VOp.app, VOp.plain, allP, lof, evs, start, asI, vbin, vcells, ntup, setAll, vfill, vress, vres, tup, Nat.reduceEqDiff, ↓reduceIte, Nat.reduceAdd, Nat.reduceMul, Nat.reduceLeDiff, reduceCtorEq, hc, hz, slen, bne_self_eq_false, h6, h6', decide_true]
    · have h6' : ((nv : Int) > 6) = False := eq_false (by omega)
      have hnn : nn ≤ 60 := by have := g.l; omega
      have hsn : Sm nn := by unfold Sm; omega
      have m1 : (((8 : Nat) : Int) * (nn : Int) ≤ 281474976710656) = True := eq_true (by omega)
      obtain ⟨Q, hQ⟩ : ∃ Q : Option Blk, Q = some ⟨(List.replicate nn [Value.int .i64 0]).flatten, true, (nn : Int) == 0⟩ := ⟨_, rfl⟩
      have hRT : RT H.length (H ++ [P] ++ [Q]) (H.length + 1) nn fun j => rcV (p.v.take 0) (j : Int) := by
        subst hQ
        refine ⟨⟨by omega, _, by rw [List.append_assoc]; exact blkn 1, rfl⟩, ⟨_, by rw [List.append_assoc]; exact blkn 1, by rw [zI_len nn 1 _ rfl, Nat.mul_one]⟩, fun j hj => ?_⟩
        have : rcV (p.v.take 0) (j : Int) = 0 := by simp [rcV]
        rw [this, List.append_assoc, List.cons_append, List.nil_append, rdk]
        simp [flat1, hj]
      have hR1 : (H ++ [P]).length = H.length + 1 := by simp
      obtain ⟨r, l0, hr0⟩ : ∃ r, lim (rnd (vcall env (d + 6)) H.length [1, 4, 26, 27, 28] [1, 2, 4] l32_0) [(1, .pointer (some ⟨H.length, 0, none⟩)), (4, .slice (some ⟨H.length + 1, 0, none⟩) nn 1), (26, .slice av nv (sg av 3)), (27, .int .i64 (nv : Nat)), (28, .int .i64 0)] (H ++ [P] ++ [Q]) = some r ∧
          ∃ H', Fn (H ++ [P]) H' ∧ ((ff (cV p.f p.v) = 0 ∧ (∀ y ∈ cV p.f p.v, y = 0) ∧ r = (.exit 0, [(1, .pointer (some ⟨H.length, 0, none⟩)), (4, .slice (some ⟨H.length + 1, 0, none⟩) nn 1)], H') ∧ RT H.length H' (H.length + 1) nn fun j => rcV p.v (j : Int)) ∨ (ff (cV p.f p.v) ≠ 0 ∧ r = (.ret, [(1, .pointer (some ⟨H.length, 0, none⟩)), (2, .int .i64 (ff (cV p.f p.v))), (4, .slice (some ⟨H.length + 1, 0, none⟩) nn 1)], H'))) := by
        refine lim_inv2 (fun i ts H1 => ts = [(1, .pointer (some ⟨H.length, 0, none⟩)), (4, .slice (some ⟨H.length + 1, 0, none⟩) nn 1), (26, .slice av nv (sg av 3)), (27, .int .i64 (nv : Nat)), (28, .int .i64 (i : Nat))] ∧ Fn (H ++ [P]) H1 ∧ RT H.length H1 (H.length + 1) nn (fun j => rcV (p.v.take i) (j : Int)) ∧ ∀ y ∈ (cV p.f p.v).take i, y = 0) nv ?_ ?_ ?_
        · rintro i ts H1 hi ⟨rfl, hf, hrt, h0⟩
          have hil : i < p.v.length := by omega
          obtain ⟨H'', hr, hf', hrt'⟩ := poolFault0_c (d + 2) H.length (H ++ [P]) H1 hp hs g hf (by have := hf.len; rw [hR1] at this; omega) (by omega) (H.length + 1) (by rw [hR1]; exact Nat.le_refl _) i hil hrt
          have hil' : i < (cV p.f p.v).length := by rw [cV_len]; exact hil
          have hci : (cV p.f p.v)[i] = vC p.f p.v i := by obtain ⟨_, e⟩ := cV_at (getE hil'); exact e
          by_cases hx : vC p.f p.v i = 0
          · rw [if_pos hx] at hr
            refine Or.inl ⟨_, H'', hr, rfl, hf', hrt' hx, fun y hy => ?_⟩
            rw [List.take_succ_eq_append_getElem hil'] at hy
            rcases List.mem_append.1 hy with e | e
            · exact h0 y e
            · simp at e; rw [e, hci, hx]
          · rw [if_neg hx] at hr
            refine Or.inr ⟨_, hr, by simp, H'', hf', Or.inr ?_⟩
            have hsplit : cV p.f p.v = (cV p.f p.v).take i ++ (cV p.f p.v)[i] :: (cV p.f p.v).drop (i + 1) := by rw [← List.drop_eq_getElem_cons hil', List.take_append_drop]
            have hff := ff_app ((cV p.f p.v).take i) (cV p.f p.v)[i] h0 ((cV p.f p.v).drop (i + 1))
            rw [← hsplit, hci, if_neg hx] at hff
            exact ⟨by rw [hff]; exact hx, by rw [hff]⟩
        · rintro ts H1 ⟨rfl, hf, hrt, h0⟩
          have hall : ∀ y ∈ cV p.f p.v, y = 0 := by
            have : (cV p.f p.v).take nv = cV p.f p.v := by rw [n2, ← cV_len p.f p.v, List.take_length]
            rw [this] at h0; exact h0
          refine ⟨(.exit 0, [(1, .pointer (some ⟨H.length, 0, none⟩)), (4, .slice (some ⟨H.length + 1, 0, none⟩) nn 1)], H1), by simp -implicitDefEqProofs only [rnd, l32_0, VMs, noRef, noRef1, isRef, List.all_cons, List.all_nil, vop, VOp.still, VOp.app, VOp.plain, allP, lof, evs, start, asI, vbin, vcells, ntup, setAll, vfill, vress, vres, tup, Nat.reduceEqDiff, ↓reduceIte, Nat.reduceAdd, Nat.reduceMul, Nat.reduceLeDiff, reduceCtorEq, slen, Int.lt_irrefl, decide_false], by simp, H1, hf, Or.inl ⟨ff_all hall, hall, rfl, ?_⟩⟩
          have : p.v.take nv = p.v := by rw [n2, List.take_length]
          rw [this] at hrt; exact hrt
        · exact ⟨rfl, Fr.app, hRT, fun y hy => by simp at hy⟩
      obtain ⟨H2, f2, ⟨hz0, hall, rfl, hrt⟩ | ⟨hz0, rfl⟩⟩ := hr0
      · have hroots := cV_root hall
        have p2 := hp.fn f2
        have hkid : ∀ x ∈ p.f.n, x.r ≠ 0 → x.f = false → ∀ k ∈ x.k, k < (nn : Int) := fun x hx hr hl k hk => by
          have := (nodeF_four (g.n _ hx) hr).2
          rw [List.all_eq_true] at this
          have := kidB_lt (this k hk)
          rw [hl] at this
          simp only [Bool.false_eq_true, if_false] at this
          rw [n1]; exact this
        obtain ⟨M, H3, cn, f3, oM, rM⟩ := named_c (d + 5) H.length H2 p2.f.f g.four false nn hnn hkid
        have p3 := p2.fn f3
        have hrt3 := hrt.fn f3
        have g2 := p2.f.rdN
        have g2n := p2.f.n
        have hl2 : H.length ≤ H2.length := by have := f2.len; rw [hR1] at this; omega
        obtain ⟨H4, l1, f4⟩ := lim_first (f := rnd (vcall env (d + 6)) H.length [1, 4, 90, 91, 92] [2] l32_1) (H := H3) (R := fun H' => (.exit 3, [], H')) (E := fun x H' => (.ret, [(2, .int .i64 x)], H')) (by simp) (by simp) (fun i => [(1, .pointer (some ⟨H.length, 0, none⟩)), (4, .slice (some ⟨H.length + 1, 0, none⟩) nn 1), (90, .slice (some ⟨M, 0, none⟩) nn 1), (91, .int .i64 (nn : Nat)), (92, .int .i64 (i : Nat))]) (cX p)
          (fun i x H' hx hf h0 => by
            obtain ⟨hi, rfl⟩ := cX_at hx
            have hin : i < nn := by omega
            obtain ⟨H'', hr, hf'⟩ := poolFault1_c (d + 6) H.length H' (p3.fn hf) hs g (Nat.le_trans (Nat.le_trans hl2 f3.len) hf.len) hroots (H.length + 1) M i hi ((hrt3.fn hf).c i hin) ((hf.rd _ _ (rd_lt (rM i hin)) id).trans (rM i hin))
            exact ⟨H'', hr, hf.trans hf'⟩)
          (fun H' hf h0 => by
            rw [cX_len, ← n1]
            simp -implicitDefEqProofs only [rnd, l32_1, VMs, noRef, noRef1, isRef, List.all_cons, List.all_nil, vop, VOp.still, VOp.app, VOp.plain, allP, lof, evs, start, asI, vbin, vcells, ntup, setAll, vfill, vress, vres, tup, Nat.reduceEqDiff, ↓reduceIte, Nat.reduceAdd, Nat.reduceMul, Nat.reduceLeDiff, reduceCtorEq, slen, Int.lt_irrefl, decide_false]) Fr.refl
        simp only [Int.natCast_zero] at l1
        subst hP hQ
        simp only [List.append_assoc, List.cons_append, List.nil_append] at l0
        rcases cX01 p with h01 | h01
        · rw [if_pos h01] at l1
          simp -implicitDefEqProofs only [v32, VMs, noRef, noRef1, isRef, List.all_cons, List.all_nil, vop, VOp.still, VOp.app, VOp.plain, allP, lof, evs, start, asI, vbin, vcells, ntup, setAll, vfill, vress, vres, tup, Nat.reduceEqDiff, ↓reduceIte, Nat.reduceAdd, Nat.reduceMul, Nat.reduceLeDiff, reduceCtorEq, hc, hz, slen, bne_self_eq_false, h6, h6', decide_false, decide_true, ge0, m1, hsn.le, Int.toNat_natCast, vlp, l0, hz0, g2, g2n, cn, l1, h01]
        · rw [if_neg (by omega), h01] at l1
          simp -implicitDefEqProofs only [v32, VMs, noRef, noRef1, isRef, List.all_cons, List.all_nil, vop, VOp.still, VOp.app, VOp.plain, allP, lof, evs, start, asI, vbin, vcells, ntup, setAll, vfill, vress, vres, tup, Nat.reduceEqDiff, ↓reduceIte, Nat.reduceAdd, Nat.reduceMul, Nat.reduceLeDiff, reduceCtorEq, hc, hz, slen, bne_self_eq_false, h6, h6', decide_false, decide_true, ge0, m1, hsn.le, Int.toNat_natCast, vlp, l0, hz0, g2, g2n, cn, l1, h01]
      · subst hP hQ
        simp only [List.append_assoc, List.cons_append, List.nil_append] at l0
        simp -implicitDefEqProofs only [v32, VMs, noRef, noRef1, isRef, List.all_cons, List.all_nil, vop, VOp.still, VOp.app, VOp.plain, allP, lof, evs, start, asI, vbin, vcells, ntup, setAll, vfill, vress, vres, tup, Nat.reduceEqDiff, ↓reduceIte, Nat.reduceAdd, Nat.reduceMul, Nat.reduceLeDiff, reduceCtorEq, hc, hz, slen, bne_self_eq_false, h6, h6', decide_false, decide_true, ge0, m1, hsn.le, Int.toNat_natCast, vlp, l0, hz0]
  · have hz' : (fF p.f != 0) = true := by simp [hz]
    subst hP
    simp -implicitDefEqProofs only [v32, VMs, noRef, noRef1, isRef, List.all_cons, List.all_nil, vop, VOp.still, VOp.app, VOp.plain, allP, lof, evs, start, asI, vbin, vcells, ntup, setAll, vfill, vress, vres, tup, Nat.reduceEqDiff, ↓reduceIte, Nat.reduceAdd, Nat.reduceMul, Nat.reduceLeDiff, reduceCtorEq, hc, hz, hz']
end Go.Proofs.Ytflddpkmajoeaaa.V
