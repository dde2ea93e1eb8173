/- What is wrong with a plain pool? The program's answer, whole. -/
import Derived.Test.YtohanpndekfbgaaDoorVLE
namespace Go.Proofs.YtohanpndekfbgaaDoor.V
open Go
set_option linter.unusedVariables false
set_option linter.unusedSimpArgs false
set_option maxRecDepth 100000
/-- A round of the program's walk over the cells. -/
theorem plainFault0_c (d LO : Nat) (H : Hp) {q av nv ac nc az nz p} (h : PL H q av nv ac nc az nz p) (hs : SL p) (hlo : LO ≤ H.length) (i : Nat) (hi : i < p.c.length) :
    ∃ H'', rnd (vcall env (d + 4)) LO [1, 29, 30, 31] [1, 2] l18_0 [(1, .pointer (some ⟨q, 0, none⟩)), (29, .slice ac nc (sg ac 3)), (30, .int .i64 (nc : Nat)), (31, .int .i64 (i : Nat))] H = some (if dC p.v p.c i = 0 then (.normal, [(1, .pointer (some ⟨q, 0, none⟩)), (29, .slice ac nc (sg ac 3)), (30, .int .i64 (nc : Nat)), (31, .int .i64 ((i + 1 : Nat) : Int))], H'') else (.ret, [(1, .pointer (some ⟨q, 0, none⟩)), (2, .int .i64 (dC p.v p.c i))], H'')) ∧ Fn H H'' := by
  have n2 := h.r.c.1
  have hin : i < nc := by omega
  have hsv : Sm nc := n2 ▸ hs.c
  have hle : (LO ≤ H.length) = True := eq_true hlo
  have hsn : Sm nv := h.r.v.1 ▸ hs.v
  have hv := fun l => rd_app (l := l) h.v
  have hv1 := fun l => rd_app (l := l) h.c
  have hat := fun l lo => volAt_c (d + 1) lo (H ++ l) av nv p.v (h.r.app (l := l)).v hsn p.c[i].i
  obtain ⟨pv, ov, rfl, e⟩ := h.r.c.at hi
  have hev := e.val
  have hprev : 0 < i → ∃ y : Vo, p.c[i - 1]? = some y ∧ ∀ l, rdN (H ++ l) ⟨pv, ov + (i - 1) * 3, none⟩ 3 = some [.int .i64 y.i, .int .i64 y.q, .int .i64 y.r] := fun h0 => by
    have hi1 : i - 1 < p.c.length := by omega
    obtain ⟨pv', ov', he, e'⟩ := h.r.c.at hi1
    cases he
    exact ⟨_, getE hi1, fun l => e'.app.val⟩
  unfold dC
  rw [getE hi]
  simp only
  generalize p.c[i] = v at *
  simp only [sgs] at hv1
  refine ⟨H ++ [some ⟨[.int .i64 v.i, .int .i64 v.q, .int .i64 v.r], true, false⟩], ?_, Fr.app⟩
  by_cases h1 : ¬ (0 ≤ v.q ∧ v.q ≤ 15)
  · rw [if_neg (fun hh => h1 hh.1 : ¬ ((0 ≤ v.q ∧ v.q ≤ 15) ∧ (0 ≤ v.r ∧ v.r ≤ 255)))]
    simp -implicitDefEqProofs only [rnd, l18_0, VMs, noRef, noRef1, isRef, List.all_cons, List.all_nil, vop, VOp.still, VOp.app, VOp.plain, allP, lof, evs, start, asI, vbin, vcells, ntup, setAll, vfill, vress, vres, tup, Nat.reduceEqDiff, ↓reduceIte, Nat.reduceAdd, Nat.reduceMul, Nat.reduceLeDiff, reduceCtorEq, slen, ltc hin, ge0, hle, decide_true, decide_false, Int.toNat_natCast, hev, isTreePlace_c, h1, Int.reduceEq]
  replace h1 := Decidable.not_not.1 h1
  by_cases h2 : ¬ (0 ≤ v.r ∧ v.r ≤ 255)
  · rw [if_neg (fun hh => h2 hh.2 : ¬ ((0 ≤ v.q ∧ v.q ≤ 15) ∧ (0 ≤ v.r ∧ v.r ≤ 255)))]
    simp -implicitDefEqProofs only [rnd, l18_0, VMs, noRef, noRef1, isRef, List.all_cons, List.all_nil, vop, VOp.still, VOp.app, VOp.plain, allP, lof, evs, start, asI, vbin, vcells, ntup, setAll, vfill, vress, vres, tup, Nat.reduceEqDiff, ↓reduceIte, Nat.reduceAdd, Nat.reduceMul, Nat.reduceLeDiff, reduceCtorEq, slen, ltc hin, ge0, hle, decide_true, decide_false, Int.toNat_natCast, hev, isTreePlace_c, isByte_c, h1, h2, Int.reduceEq]
  replace h2 := Decidable.not_not.1 h2
  rw [if_pos (⟨h1, h2⟩ : (0 ≤ v.q ∧ v.q ≤ 15) ∧ (0 ≤ v.r ∧ v.r ≤ 255))]
  rcases atV_cases p.v v.i with hm | ⟨j, hj, hm⟩
  · have hd : decide ((-1 : Int) < 0) = true := rfl
    rw [if_pos hm]
    rw [hm] at hat
    simp -implicitDefEqProofs only [rnd, l18_0, VMs, noRef, noRef1, isRef, List.all_cons, List.all_nil, vop, VOp.still, VOp.app, VOp.plain, allP, lof, evs, start, asI, vbin, vcells, ntup, setAll, vfill, vress, vres, tup, Nat.reduceEqDiff, ↓reduceIte, Nat.reduceAdd, Nat.reduceMul, Nat.reduceLeDiff, reduceCtorEq, hv, slen, ltc hin, ge0, hle, decide_true, decide_false, Int.toNat_natCast, hev, isTreePlace_c, isByte_c, h1, h2, hat, hd, Int.reduceEq]
  have hd : decide ((j : Int) < 0) = false := decide_eq_false (by omega)
  rw [if_neg (by omega : ¬ atV p.v v.i = -1)]
  rw [hm] at hat
  by_cases h0 : 0 < i
  · obtain ⟨y, hy, hry⟩ := hprev h0
    have h0' : ((i : Int) > 0) = True := eq_true (by omega)
    have hw : IntKind.i64.wrap ((i : Int) - 1) = ((i - 1 : Nat) : Int) := by unfold Sm at hsv; rw [wr (by omega) (by omega)]; omega
    have hi1 : i - 1 < nc := by omega
    have hah := fun lo H => cellOrder_c (d + 1) lo H y v
    simp only [VV] at hah
    rw [hy, Option.getD_some]
    cases h4 : ahead y v with
    | false =>
      have h5 : decide (ordC y v ≥ 0) = true := decide_eq_true ((ordC_ahead y v).2 h4)
      rw [if_pos (⟨h0, rfl⟩ : 0 < i ∧ false = false)]
      simp -implicitDefEqProofs only [rnd, l18_0, VMs, noRef, noRef1, isRef, List.all_cons, List.all_nil, vop, VOp.still, VOp.app, VOp.plain, allP, lof, evs, start, asI, vbin, vcells, ntup, setAll, vfill, vress, vres, tup, Nat.reduceEqDiff, ↓reduceIte, Nat.reduceAdd, Nat.reduceMul, Nat.reduceLeDiff, reduceCtorEq, vdr, hv, hv1, slen, ltc hin, ltc hi1, ge0, hle, decide_true, decide_false, Int.toNat_natCast, hev, isTreePlace_c, isByte_c, h1, h2, hat, hd, h0', hw, hry, hah, h5, Int.reduceEq]
    | true =>
      have h5 : decide (ordC y v ≥ 0) = false := decide_eq_false (fun hh => by rw [(ordC_ahead y v).1 hh] at h4; cases h4)
      rw [if_neg (fun hh => by cases hh.2 : ¬ (0 < i ∧ true = false))]
      simp -implicitDefEqProofs only [rnd, l18_0, VMs, noRef, noRef1, isRef, List.all_cons, List.all_nil, vop, VOp.still, VOp.app, VOp.plain, allP, lof, evs, start, asI, vbin, vcells, ntup, setAll, vfill, vress, vres, tup, Nat.reduceEqDiff, ↓reduceIte, Nat.reduceAdd, Nat.reduceMul, Nat.reduceLeDiff, reduceCtorEq, vdr, hv, hv1, slen, ltc hin, ltc hi1, ge0, hle, decide_true, decide_false, Int.toNat_natCast, hev, isTreePlace_c, isByte_c, h1, h2, hat, hd, h0', hw, hry, hah, h5, Int.reduceEq, hsv.w hin]
  · have h0' : ((i : Int) > 0) = False := eq_false (by omega)
    rw [if_neg (fun hh => h0 hh.1 : ¬ (0 < i ∧ ahead ((p.c[i - 1]?).getD ⟨0, 0, 0⟩) v = false))]
    simp -implicitDefEqProofs only [rnd, l18_0, VMs, noRef, noRef1, isRef, List.all_cons, List.all_nil, vop, VOp.still, VOp.app, VOp.plain, allP, lof, evs, start, asI, vbin, vcells, ntup, setAll, vfill, vress, vres, tup, Nat.reduceEqDiff, ↓reduceIte, Nat.reduceAdd, Nat.reduceMul, Nat.reduceLeDiff, reduceCtorEq, vdr, hv, hv1, slen, ltc hin, ge0, hle, decide_true, decide_false, Int.toNat_natCast, hev, isTreePlace_c, isByte_c, h1, h2, hat, hd, h0', Int.reduceEq, hsv.w hin]
/-- A round of the program's walk over the quotas. -/
theorem plainFault1_c (d LO : Nat) (H : Hp) {q av nv ac nc az nz p} (h : PL H q av nv ac nc az nz p) (hx : Ex H ac) (hc96 : p.c.length ≤ 96) (hs : SL p) (hlo : LO ≤ H.length) (i : Nat) (hi : i < p.v.length) :
    ∃ H'', rnd (vcall env (d + 4)) LO [1, 70, 71, 72] [1, 2] l18_1 [(1, .pointer (some ⟨q, 0, none⟩)), (70, .slice av nv (sg av 3)), (71, .int .i64 (nv : Nat)), (72, .int .i64 (i : Nat))] H = some (if qC p.v p.c i = 0 then (.normal, [(1, .pointer (some ⟨q, 0, none⟩)), (70, .slice av nv (sg av 3)), (71, .int .i64 (nv : Nat)), (72, .int .i64 ((i + 1 : Nat) : Int))], H'') else (.ret, [(1, .pointer (some ⟨q, 0, none⟩)), (2, .int .i64 (qC p.v p.c i))], H'')) ∧ Fn H H'' := by
  have n2 := h.r.v.1
  have hin : i < nv := by omega
  have hsv : Sm nv := n2 ▸ hs.v
  have hle : (LO ≤ H.length) = True := eq_true hlo
  have hc := fun l => rd_app (l := l) h.c
  obtain ⟨pv, ov, rfl, e⟩ := h.r.v.at hi
  have hev := e.val
  obtain ⟨C, hC⟩ : ∃ C : Option Blk, C = some ⟨[.int .i64 p.v[i].i, .int .i64 p.v[i].q, .int .i64 p.v[i].r], true, false⟩ := ⟨_, rfl⟩
  have fC : Fn H (H ++ [C]) := Fr.app
  obtain ⟨b, H2, hcall, f2, _⟩ := cellsOf_c d (H ++ [C] : Hp).length (H ++ [C]) (h.r.fn fC).c (hx.fn fC) (by rw [h.r.c.1]; omega) p.v[i].i
  have hq : rd (H ++ [C]) ⟨H.length, 1, none⟩ = some (.int .i64 p.v[i].q) := by simp [rd0, hC]
  have hol := own_len p.c p.v[i].i
  unfold qC
  rw [getE hi]
  simp only
  refine ⟨H2, ?_, fC.trans f2⟩
  generalize p.v[i] = v at *
  subst hC
  simp only [List.length_append, List.length_cons, List.length_nil, Nat.zero_add] at hcall
  by_cases hg : cnt p.c v.i > v.q
  · rw [if_pos hg]
    simp -implicitDefEqProofs only [rnd, l18_1, VMs, noRef, noRef1, isRef, List.all_cons, List.all_nil, vop, VOp.still, VOp.app, VOp.plain, allP, lof, evs, start, asI, vbin, vcells, ntup, setAll, vfill, vress, vres, tup, Nat.reduceEqDiff, ↓reduceIte, Nat.reduceAdd, Nat.reduceMul, Nat.reduceLeDiff, reduceCtorEq, vdr, slen, ltc hin, ge0, hle, decide_true, decide_false, Int.toNat_natCast, hev, hc, hcall, hol, hg, Int.reduceEq]
  · rw [if_neg hg]
    simp -implicitDefEqProofs only [rnd, l18_1, VMs, noRef, noRef1, isRef, List.all_cons, List.all_nil, vop, VOp.still, VOp.app, VOp.plain, allP, lof, evs, start, asI, vbin, vcells, ntup, setAll, vfill, vress, vres, tup, Nat.reduceEqDiff, ↓reduceIte, Nat.reduceAdd, Nat.reduceMul, Nat.reduceLeDiff, reduceCtorEq, vdr, slen, ltc hin, ge0, hle, decide_true, decide_false, Int.toNat_natCast, hev, hc, hcall, hol, hg, Int.reduceEq, hsv.w hin]
theorem implPlainFault_c (d lo : Nat) (H : Hp) {av nv ac nc az nz} {p : Pl} (h : RL H av nv ac nc az nz p) (hx : Ex H ac) (hs : SL p) :
    vcall env (d + 5) 18 [.agg #[.int .i64 p.b, .slice av nv (sg av 3), .slice ac nc (sg ac 3), .slice az nz (sg az 1)]] lo H = some (.int .i64 (lF p), H) := by
  have n1 := h.v.1
  have n2 := h.c.1
  have n3 := h.s.1
  have hsn : Sm nv := n1 ▸ hs.v
  obtain ⟨P, hP⟩ : ∃ P : Option Blk, P = some ⟨[.int .i64 p.b, .slice av nv (sg av 3), .slice ac nc (sg ac 3), .slice az nz (sg az 1)], true, false⟩ := ⟨_, rfl⟩
  have fP : Fn H (H ++ [P]) := Fr.app
  have hp : PL (H ++ [P]) H.length av nv ac nc az nz p := by rw [hP]; exact PL.box h []
  have c1 := fun lo => volsFault_c (d + 1) lo (H ++ [P]) av nv p.v hp.r.v hs.v
  rw [call_eq find18 _ _ _ rfl]
  unfold lF
  by_cases hB : 0 ≤ p.b ∧ p.b ≤ 24
  · rw [if_pos hB]
    by_cases h6 : 6 < p.v.length
    · have h6' : ((nv : Int) > 6) = True := eq_true (by omega)
      rw [if_pos h6]
      subst hP
      simp -implicitDefEqProofs only [v18, VMs, noRef, noRef1, isRef, List.all_cons, List.all_nil, vop, VOp.still, VOp.app, VOp.plain, allP, lof, evs, start, asI, vbin, vcells, ntup, setAll, vfill, vress, vres, tup, Nat.reduceEqDiff, ↓reduceIte, Nat.reduceAdd, Nat.reduceMul, Nat.reduceLeDiff, reduceCtorEq, within_c, hB, slen, h6', decide_true]
    have h6' : ((nv : Int) > 6) = False := eq_false (by omega)
    rw [if_neg h6]
    by_cases hz0 : ff (wCs p.v) = 0
    · rw [if_pos hz0]
      by_cases h96 : 96 < p.c.length
      · have h96' : ((nc : Int) > 96) = True := eq_true (by omega)
        rw [if_pos h96]
        subst hP
        simp -implicitDefEqProofs only [v18, VMs, noRef, noRef1, isRef, List.all_cons, List.all_nil, vop, VOp.still, VOp.app, VOp.plain, allP, lof, evs, start, asI, vbin, vcells, ntup, setAll, vfill, vress, vres, tup, Nat.reduceEqDiff, ↓reduceIte, Nat.reduceAdd, Nat.reduceMul, Nat.reduceLeDiff, reduceCtorEq, within_c, hB, slen, h6', decide_true, decide_false, c1, hz0, bne_self_eq_false, h96']
      have h96' : ((nc : Int) > 96) = False := eq_false (by omega)
      rw [if_neg h96]
      obtain ⟨H2, l0, f2⟩ := lim_first (f := rnd (vcall env (d + 4)) H.length [1, 29, 30, 31] [1, 2] l18_0) (H := H ++ [P]) (R := fun H' => (.exit 1, [(1, .pointer (some ⟨H.length, 0, none⟩))], H')) (E := fun x H' => (.ret, [(1, .pointer (some ⟨H.length, 0, none⟩)), (2, .int .i64 x)], H')) (by simp) (by simp) (fun i => [(1, .pointer (some ⟨H.length, 0, none⟩)), (29, .slice ac nc (sg ac 3)), (30, .int .i64 (nc : Nat)), (31, .int .i64 (i : Nat))]) (dCs p.v p.c)
        (fun i x H' hx hf h0 => by
          obtain ⟨hi, rfl⟩ := rmap_at hx
          obtain ⟨H'', hr, hf'⟩ := plainFault0_c d H.length H' (hp.fn hf) hs (fP.trans hf).len i hi
          exact ⟨H'', hr, hf.trans hf'⟩)
        (fun H' hf h0 => by
          rw [dCs_len, ← n2]
          simp -implicitDefEqProofs only [rnd, l18_0, VMs, noRef, noRef1, isRef, List.all_cons, List.all_nil, vop, VOp.still, VOp.app, VOp.plain, allP, lof, evs, start, asI, vbin, vcells, ntup, setAll, vfill, vress, vres, tup, Nat.reduceEqDiff, ↓reduceIte, Nat.reduceAdd, Nat.reduceMul, Nat.reduceLeDiff, reduceCtorEq, slen, Int.lt_irrefl, decide_false]) Fr.refl
      simp only [Int.natCast_zero] at l0
      by_cases hz1 : ff (dCs p.v p.c) = 0
      · rw [if_pos hz1] at l0 ⊢
        have p2 := hp.fn f2
        have g2 := p2.v
        have f02 := fP.trans f2
        obtain ⟨H3, l1, f3⟩ := lim_first (f := rnd (vcall env (d + 4)) H.length [1, 70, 71, 72] [1, 2] l18_1) (H := H2) (R := fun H' => (.exit 4, [(1, .pointer (some ⟨H.length, 0, none⟩))], H')) (E := fun x H' => (.ret, [(1, .pointer (some ⟨H.length, 0, none⟩)), (2, .int .i64 x)], H')) (by simp) (by simp) (fun i => [(1, .pointer (some ⟨H.length, 0, none⟩)), (70, .slice av nv (sg av 3)), (71, .int .i64 (nv : Nat)), (72, .int .i64 (i : Nat))]) (qCs p.v p.c)
          (fun i x H' hx' hf h0 => by
            obtain ⟨hi, rfl⟩ := rmap_at hx'
            obtain ⟨H'', hr, hf'⟩ := plainFault1_c d H.length H' (p2.fn hf) (hx.fn (f02.trans hf)) (by omega) hs (f02.trans hf).len i hi
            exact ⟨H'', hr, hf.trans hf'⟩)
          (fun H' hf h0 => by
            rw [qCs_len, ← n1]
            simp -implicitDefEqProofs only [rnd, l18_1, VMs, noRef, noRef1, isRef, List.all_cons, List.all_nil, vop, VOp.still, VOp.app, VOp.plain, allP, lof, evs, start, asI, vbin, vcells, ntup, setAll, vfill, vress, vres, tup, Nat.reduceEqDiff, ↓reduceIte, Nat.reduceAdd, Nat.reduceMul, Nat.reduceLeDiff, reduceCtorEq, slen, Int.lt_irrefl, decide_false]) Fr.refl
        simp only [Int.natCast_zero] at l1
        have p3 := p2.fn f3
        by_cases hz2 : ff (qCs p.v p.c) = 0
        · rw [if_pos hz2] at l1 ⊢
          have g3 := p3.s
          have g3b := p3.b
          rcases zC_cases p with ⟨g1, gz⟩ | ⟨g1, gz⟩ | ⟨s, g1, gz⟩
          · have g1' : ((nz : Int) > 1) = True := eq_true (by omega)
            rw [gz]
            subst hP
            simp -implicitDefEqProofs only [v18, VMs, noRef, noRef1, isRef, List.all_cons, List.all_nil, vop, VOp.still, VOp.app, VOp.plain, allP, lof, evs, start, asI, vbin, vcells, ntup, setAll, vfill, vress, vres, tup, Nat.reduceEqDiff, ↓reduceIte, Nat.reduceAdd, Nat.reduceMul, Nat.reduceLeDiff, reduceCtorEq, within_c, hB, slen, h6', decide_true, decide_false, c1, hz0, bne_self_eq_false, h96', vlp, l0, g2, l1, hz1, hz2, vdr, g3, g1']
          · have g1' : ((nz : Int) > 1) = False := eq_false (by omega)
            have g4 : ((nz : Int) == 1) = false := by rw [beq_eq_false_iff_ne]; omega
            rw [gz]
            subst hP
            simp -implicitDefEqProofs only [v18, VMs, noRef, noRef1, isRef, List.all_cons, List.all_nil, vop, VOp.still, VOp.app, VOp.plain, allP, lof, evs, start, asI, vbin, vcells, ntup, setAll, vfill, vress, vres, tup, Nat.reduceEqDiff, ↓reduceIte, Nat.reduceAdd, Nat.reduceMul, Nat.reduceLeDiff, reduceCtorEq, within_c, hB, slen, h6', decide_true, decide_false, c1, hz0, bne_self_eq_false, h96', vlp, l0, g2, l1, hz1, hz2, vdr, g3, g1', g4]
          · have hn1 : nz = 1 := by rw [n3, g1]; rfl
            subst hn1
            have g1' : (((1 : Nat) : Int) > 1) = False := eq_false (by omega)
            have g4 : (((1 : Nat) : Int) == 1) = true := rfl
            have g5 : ((0 : Int) < ((1 : Nat) : Int)) = True := eq_true (by omega)
            obtain ⟨pz, oz, rfl, e⟩ := p3.r.s.at (j := 0) (by rw [g1]; simp)
            simp only [g1, List.getElem_cons_zero, EI, Nat.zero_mul, Nat.add_zero] at e
            simp only [sgs] at g3
            rw [gz]
            by_cases g6 : 1 ≤ s ∧ s ≤ p.b
            · rw [if_pos g6]
              subst hP
              simp only [sgs] at c1 l0 l1
              simp -implicitDefEqProofs only [v18, VMs, noRef, noRef1, isRef, List.all_cons, List.all_nil, vop, VOp.still, VOp.app, VOp.plain, allP, lof, evs, start, asI, vbin, vcells, ntup, setAll, vfill, vress, vres, tup, Nat.reduceEqDiff, ↓reduceIte, Nat.reduceAdd, Nat.reduceMul, Nat.reduceLeDiff, reduceCtorEq, within_c, hB, slen, h6', decide_true, decide_false, c1, hz0, bne_self_eq_false, h96', vlp, l0, g2, l1, hz1, hz2, vdr, g3, g3b, g1', g4, g5, Int.le_refl, Int.toNat_zero, e, g6]
            · rw [if_neg g6]
              subst hP
              simp only [sgs] at c1 l0 l1
              simp -implicitDefEqProofs only [v18, VMs, noRef, noRef1, isRef, List.all_cons, List.all_nil, vop, VOp.still, VOp.app, VOp.plain, allP, lof, evs, start, asI, vbin, vcells, ntup, setAll, vfill, vress, vres, tup, Nat.reduceEqDiff, ↓reduceIte, Nat.reduceAdd, Nat.reduceMul, Nat.reduceLeDiff, reduceCtorEq, within_c, hB, slen, h6', decide_true, decide_false, c1, hz0, bne_self_eq_false, h96', vlp, l0, g2, l1, hz1, hz2, vdr, g3, g3b, g1', g4, g5, Int.le_refl, Int.toNat_zero, e, g6]
        · rw [if_neg hz2] at l1 ⊢
          subst hP
          simp -implicitDefEqProofs only [v18, VMs, noRef, noRef1, isRef, List.all_cons, List.all_nil, vop, VOp.still, VOp.app, VOp.plain, allP, lof, evs, start, asI, vbin, vcells, ntup, setAll, vfill, vress, vres, tup, Nat.reduceEqDiff, ↓reduceIte, Nat.reduceAdd, Nat.reduceMul, Nat.reduceLeDiff, reduceCtorEq, within_c, hB, slen, h6', decide_true, decide_false, c1, hz0, bne_self_eq_false, h96', vlp, l0, g2, l1, hz1]
      · rw [if_neg hz1] at l0 ⊢
        subst hP
        simp -implicitDefEqProofs only [v18, VMs, noRef, noRef1, isRef, List.all_cons, List.all_nil, vop, VOp.still, VOp.app, VOp.plain, allP, lof, evs, start, asI, vbin, vcells, ntup, setAll, vfill, vress, vres, tup, Nat.reduceEqDiff, ↓reduceIte, Nat.reduceAdd, Nat.reduceMul, Nat.reduceLeDiff, reduceCtorEq, within_c, hB, slen, h6', decide_true, decide_false, c1, hz0, bne_self_eq_false, h96', vlp, l0]
    · have hz0' : (ff (wCs p.v) != 0) = true := by simp [hz0]
      rw [if_neg hz0]
      subst hP
      simp -implicitDefEqProofs only [v18, VMs, noRef, noRef1, isRef, List.all_cons, List.all_nil, vop, VOp.still, VOp.app, VOp.plain, allP, lof, evs, start, asI, vbin, vcells, ntup, setAll, vfill, vress, vres, tup, Nat.reduceEqDiff, ↓reduceIte, Nat.reduceAdd, Nat.reduceMul, Nat.reduceLeDiff, reduceCtorEq, within_c, hB, slen, h6', decide_true, decide_false, c1, hz0']
  · rw [if_neg hB]
    subst hP
    simp -implicitDefEqProofs only [v18, VMs, noRef, noRef1, isRef, List.all_cons, List.all_nil, vop, VOp.still, VOp.app, VOp.plain, allP, lof, evs, start, asI, vbin, vcells, ntup, setAll, vfill, vress, vres, tup, Nat.reduceEqDiff, ↓reduceIte, Nat.reduceAdd, Nat.reduceMul, Nat.reduceLeDiff, reduceCtorEq, within_c, hB, decide_false]
end Go.Proofs.YtohanpndekfbgaaDoor.V
