/- FnJournals: the law. -/
import Derived.Test.YtaahjfjpbilfnaaVJL
namespace Go.Proofs.Ytaahjfjpbilfnaa.V
open Go
set_option linter.unusedVariables false
set_option linter.unusedSimpArgs false
set_option maxRecDepth 100000
set_option maxHeartbeats 16000000 in
/-- The law. -/
theorem law_c (d lo : Nat) (H : Hp) {ac : Option Addr} {code : List Int} (hc : Rep EY 1 H ac code.length code) (hy : ∀ x ∈ code, 0 ≤ x ∧ x ≤ 255) : vcall env (d + 10) 15 [.slice ac code.length (sg ac 1)] lo H = some (.bool true, H) := by
  rw [call_eq find15 _ _ _ rfl]
  by_cases hbig : 1048576 < code.length
  · simp -implicitDefEqProofs only [v15, VMs, noRef, noRef1, isRef, List.all_cons, List.all_nil, vop, VOp.still, VOp.app, VOp.plain, allP, lof, evs, start, asI, vbin, vcells, ntup, setAll, vfill, vress, vres, tup, Nat.reduceEqDiff, ↓reduceIte, Nat.reduceAdd, Nat.reduceMul, Nat.reduceLeDiff, reduceCtorEq, lwBig_c, hbig, decide_true]
  have hn : code.length ≤ 1048576 := by omega
  obtain ⟨aw, ap, D, ww, w, H1, c1, f1, dz1, rw1, hwl⟩ := drawAppend_c (d + 2) H.length H hc hy hn
  have l1 := f1.len
  have hle1 : (H.length ≤ H1.length) = True := eq_true l1
  have hws : Sm w.length := by unfold Sm; omega
  obtain ⟨H2, hH2⟩ : ∃ H2 : Hp, H2 = H1 ++ [some ⟨[.slice aw D.w.length (sg aw 1), .slice ap D.p.length (sg ap 2)], true, false⟩] := ⟨_, rfl⟩
  have f2 : Fn H1 H2 := hH2 ▸ Fr.app
  have l2 : H2.length = H1.length + 1 := by rw [hH2]; simp
  have dz2 := dz1.fn f2
  have q2 : ∀ X, Fn H2 X → rdN X ⟨H1.length, 0, none⟩ 2 = some [.slice aw D.w.length (sg aw 1), .slice ap D.p.length (sg ap 2)] := fun X f => by
    rw [f.rdN _ _ _ (by omega) id, hH2]; simp [rdN0]
  obtain ⟨v3, X3, c3, nr3⟩ := implScanJournal_c (d + 1) H.length H2 dz2.d dz2.s
  obtain ⟨a3, rfl, f3, r3⟩ := nr3.rep
  have k3 := f3.len
  have le3 : (H.length ≤ X3.length) = True := eq_true (by omega)
  obtain ⟨C5, hC5⟩ : ∃ C : List Value, C = [.int .i64 (scanC D), .int .i64 (scanU D), .slice a3 (scanL D).length (sg a3 1)] := ⟨_, rfl⟩
  obtain ⟨H4, hH4⟩ : ∃ H4 : Hp, H4 = X3 ++ [some ⟨C5, true, false⟩] := ⟨_, rfl⟩
  have f4 : Fn X3 H4 := hH4 ▸ Fr.app
  have l4 : H4.length = X3.length + 1 := by rw [hH4]; simp
  have F24 : Fn H2 H4 := f3.trans f4
  have dz4 := dz2.fn F24
  have rw4 := (rw1.fnI f2).fnI F24
  obtain ⟨v5, X5, c5, an5⟩ := implAppend_c (d + 1) H.length H4 dz4 rw4 hws
  have q24 := q2 H4 F24
  by_cases hA : apC D w ≠ 0
  · rcases an5 with ⟨_, rfl, e5⟩ | ⟨e, _⟩
    rotate_left
    · exact absurd e hA
    rw [e5] at c5
    have hb : (apC D w != 0) = true := bne_iff_ne.2 hA
    obtain ⟨H6, hH6⟩ : ∃ H6 : Hp, H6 = H4 ++ [some ⟨[.int .i64 (apC D w), .slice none 0 0, .slice none 0 0], true, false⟩] := ⟨_, rfl⟩
    have f6 : Fn H4 H6 := hH6 ▸ Fr.app
    have dz6 := dz4.fn f6
    have rw6 := rw4.fnI f6
    have q26 := q2 H6 (F24.trans f6)
    have c7 : ∀ lo, vcall env (d + 9) 59 [.agg #[.slice aw D.w.length (sg aw 1), .slice ap D.p.length (sg ap 2)], .slice ww w.length (sg ww 1)] lo H6 = some (.agg #[.int .i64 (apC D w), .slice none 0 0, .slice none 0 0], H6) := fun lo => by
      obtain ⟨v, H', e, an⟩ := specAppend_c (d + 5) lo H6 dz6 rw6 hws
      rcases an with ⟨_, rfl, rfl⟩ | ⟨e2, _⟩
      · exact e
      · exact absurd e2 hA
    have le4 : (H.length ≤ X3.length + 1) = True := eq_true (by omega)
    subst hH6 hH4 hC5 hH2
    simp only [List.append_assoc, List.cons_append, List.nil_append, List.length_append, List.length_cons, List.length_nil, Nat.zero_add] at c3 c5 c7 q24 q26
    simp -implicitDefEqProofs only [v15, VMs, noRef, noRef1, isRef, List.all_cons, List.all_nil, vop, VOp.still, VOp.app, VOp.plain, allP, lof, evs, start, asI, vbin, vcells, ntup, setAll, vfill, vress, vres, tup, Nat.reduceEqDiff, ↓reduceIte, Nat.reduceAdd, Nat.reduceMul, Nat.reduceLeDiff, reduceCtorEq, lwBig_c, hbig, decide_false, List.getElem?_toArray, c1, hle1, c3, le3, le4, q24, c5, hb, vdr, q26, c7, beq_self_eq_true]
  replace hA : apC D w = 0 := Classical.byContradiction hA
  rcases an5 with ⟨e, _⟩ | ⟨_, i5, b5, rfl, ar5⟩
  · exact absurd hA e
  obtain ⟨h0, hr, hu2, hp2⟩ := apC_zero hA
  obtain ⟨⟨hw1, hw8⟩, hwok⟩ := rF_zero hr
  obtain ⟨sC, sU, sL⟩ := scan_eq h0
  have hE := apD_good hA
  obtain ⟨eC, eU, eL⟩ := scan_eq hE
  have hsc := apD_scan hA
  have uE : uRD (apD D w) = uRD D + 2 + w.length := by
    show (scanR (flP (apD D w).w (apD D w).p) 65 0 []).2 = _
    rw [hsc]
  have eU' : scanU (apD D w) = ((uRD D + 2 + w.length : Nat) : Int) := by rw [eU, uE]
  have eL' : scanL (apD D w) = scanL D ++ [w] := by rw [eL, hsc, sL]
  have hLle := (scanL_le D).1
  obtain ⟨n, hn0⟩ : ∃ n : Nat, n = (scanL D).length := ⟨_, rfl⟩
  have hRl : (scanL D ++ [w]).length = n + 1 := by simp [hn0]
  generalize hR0 : scanL D = R0 at *
  generalize huD : uRD D = u at *
  generalize hEE : apD D w = E at *
  have dzE5 := ar5.z (sd_good (dF_zero hE))
  have k5 := ar5.f.len
  have le5 : (H.length ≤ X5.length) = True := eq_true (by omega)
  obtain ⟨H6, hH6⟩ : ∃ H6 : Hp, H6 = X5 ++ [some ⟨[.int .i64 0, .slice (some ⟨i5, 0, none⟩) E.w.length 1, .slice b5 E.p.length (sg b5 2)], true, false⟩] := ⟨_, rfl⟩
  have f6 : Fn X5 H6 := hH6 ▸ Fr.app
  have l6 : H6.length = X5.length + 1 := by rw [hH6]; simp
  have dzE6 := dzE5.fn f6
  obtain ⟨v7, X7, c7, nr7⟩ := implScanJournal_c (d + 1) H.length H6 dzE6.d dzE6.s
  rw [eC, eU', eL'] at nr7
  obtain ⟨a7, rfl, f7, r7⟩ := nr7.rep
  rw [hRl] at c7 r7
  have k7 := f7.len
  have le7 : (H.length ≤ X7.length) = True := eq_true (by omega)
  obtain ⟨H8, hH8⟩ : ∃ H8 : Hp, H8 = X7 ++ [some ⟨[.int .i64 0, .int .i64 ((u + 2 + w.length : Nat) : Int), .slice a7 (n + 1) (sg a7 1)], true, false⟩] := ⟨_, rfl⟩
  have f8 : Fn X7 H8 := hH8 ▸ Fr.app
  have l8 : H8.length = X7.length + 1 := by rw [hH8]; simp
  have F68 : Fn H6 H8 := f7.trans f8
  have F48 : Fn H4 H8 := ar5.f.trans (f6.trans F68)
  have rw8 := rw4.fnI F48
  have dzE8 := dzE6.fn F68
  have k58 := fun k => (show Fn (X3 ++ [some ⟨C5, true, false⟩]) H8 from hH4 ▸ F48).cell k
  have q68 : rdN H8 ⟨X5.length, 1, none⟩ 2 = some [.slice (some ⟨i5, 0, none⟩) E.w.length 1, .slice b5 E.p.length (sg b5 2)] := by
    rw [F68.rdN _ _ _ (by omega) id, hH6]; simp [rdN0]
  have r78 := r7.fnR f8
  have hnn : n < (R0 ++ [w]).length := by rw [hRl]; omega
  obtain ⟨pa, po, ea7, ⟨aR, eR, rR⟩⟩ := r78.at hnn
  have hlast : (R0 ++ [w])[n] = w := by
    simp [hn0]
  rw [hlast] at eR rR
  rw [Nat.mul_one] at eR
  have c10 := fun lo => lwNums_c (d + 8) lo H8 rR rw8 hws
  have c11 := fun lo => implRecordFault_c (d + 2) lo H8 rw8 hws
  rw [hr] at c11
  -- committed
  obtain ⟨i9, X9, c9, ar9⟩ := implCommit_ok d H.length H8 dzE8 hE
  have hC0 := dF_flush hE
  have gCw : (flP E.w E.p).length = 64 := (dF_zero hC0).w
  have uC : uRD ⟨flP E.w E.p, []⟩ = uRD E := rfl
  have sC0 : (scanR (flP (flP E.w E.p) []) 65 0 []).1 = R0 ++ [w] := by
    have : flP (flP E.w E.p) [] = flP E.w E.p := rfl
    rw [this, ← eL, eL']
  generalize hCC : flP E.w E.p = cw at *
  have dzC9 := ar9.z (sd_good (dF_zero hC0))
  have k9 := ar9.f.len
  have le9 : (H.length ≤ X9.length) = True := eq_true (by omega)
  obtain ⟨HA, hHA⟩ : ∃ HA : Hp, HA = X9 ++ [some ⟨[.int .i64 0, .slice (some ⟨i9, 0, none⟩) 64 1, .slice none 0 0], true, false⟩] := ⟨_, rfl⟩
  have fA : Fn X9 HA := hHA ▸ Fr.app
  have lA : HA.length = X9.length + 1 := by rw [hHA]; simp
  have F8A : Fn H8 HA := ar9.f.trans fA
  have FHA : Fn H HA := f1.trans (f2.trans (F24.trans (F48.trans F8A)))
  obtain ⟨HB, hHB⟩ : ∃ HB : Hp, HB = HA ++ [some ⟨[], true, true⟩] := ⟨_, rfl⟩
  have fB : Fn HA HB := hHB ▸ Fr.app
  have bB : HB.blk HA.length = some ⟨[], true, true⟩ := by rw [hHB]; exact blk0
  obtain ⟨P7, hP7⟩ : ∃ P : Nat, P = X7.length := ⟨_, rfl⟩
  obtain ⟨P9, hP9⟩ : ∃ P : Nat, P = X9.length := ⟨_, rfl⟩
  obtain ⟨PA, hPA⟩ : ∃ P : Nat, P = HA.length := ⟨_, rfl⟩
  rw [← hPA] at bB
  have hloop : ∃ r, lim (rnd (vcall env (d + 9)) H.length [0, 4, 7, 8, 9, 10, 11] [2, 4, 7, 8, 9, 10] l15_0) [(0, .slice ac code.length (sg ac 1)), (4, .slice ww w.length (sg ww 1)), (7, .pointer (some ⟨P7, 0, none⟩)), (8, .int .i64 (n : Nat)), (9, .pointer (some ⟨P9, 0, none⟩)), (10, .slice (some ⟨PA, 0, none⟩) 0 1), (11, .int .i64 0)] HB = some r ∧
      ∃ X i bs k0, r = (.exit 0, [(4, .slice ww w.length (sg ww 1)), (7, .pointer (some ⟨P7, 0, none⟩)), (8, .int .i64 (n : Nat)), (9, .pointer (some ⟨P9, 0, none⟩)), (10, .slice (some ⟨i, 0, none⟩) bs.length 1)], X) ∧ Fn HA X ∧ X.blk i = some ⟨vO bs, true, k0⟩ ∧ bs.length = 20 := by
    refine lim_inv (fun j ts X => ∃ i bs k0, ts = [(0, .slice ac code.length (sg ac 1)), (4, .slice ww w.length (sg ww 1)), (7, .pointer (some ⟨P7, 0, none⟩)), (8, .int .i64 (n : Nat)), (9, .pointer (some ⟨P9, 0, none⟩)), (10, .slice (some ⟨i, 0, none⟩) bs.length 1), (11, .int .i64 (j : Nat))] ∧ Fn HA X ∧ X.blk i = some ⟨vO bs, true, k0⟩ ∧ (bs.length = 0 → k0 = true) ∧ PA ≤ i ∧ bs.length = j) 20 ?_ ?_ ?_
    · rintro j ts X hj ⟨i, bs, k0, rfl, fX, bX, hk0, hi, hbl⟩
      have hg : decide ((j : Int) < 20) = true := decide_eq_true (by omega)
      have hw' : IntKind.i64.wrap ((j : Int) + 1) = ((j + 1 : Nat) : Int) := by rw [wr (by omega) (by omega)]; rfl
      have lX := fX.len
      obtain ⟨x, c13⟩ := lwAt_c (d + 8) H.length X (hc.fnY (FHA.trans fX)) hy hn (k := j) (by omega)
      generalize hb0 : (x == 1) = b at *
      obtain ⟨Y2, hY2⟩ : ∃ Y2 : Hp, Y2 = X ++ [some ⟨[.bool b], true, false⟩] := ⟨_, rfl⟩
      have f2' : Fn X Y2 := hY2 ▸ Fr.app
      have lY2 : Y2.length = X.length + 1 := by rw [hY2]; simp
      have bi := (f2'.blk _ (blk_lt bX) id).trans bX
      obtain ⟨Y3, ha, hb3, hl3, hf3, ho3⟩ := app_own (st := 1) (by_ := 1) (lo := H.length) (i := i) (n := bs.length) (m := 1) (M := [.bool b]) (y := .slice (some ⟨X.length, 0, none⟩) 1 1) bi (by rw [vO_len, Nat.mul_one]) hk0 (by omega) rfl (by rw [hY2]; simp [scells, rdN0]) (by omega) (fits_small (by omega))
      refine ⟨_, Y3, ?_, Y2.length, bs ++ [b], false, by rw [List.length_append], hf3 HA (fX.trans f2') (by omega), by rw [hb3]; simp [vO], fun e => by simp at e, by omega, by simp [hbl]⟩
      subst hY2
      simp only [List.length_append, List.length_cons, List.length_nil, Nat.zero_add] at ha ⊢
      simp -implicitDefEqProofs only [rnd, l15_0, VMs, noRef, noRef1, isRef, List.all_cons, List.all_nil, vop, VOp.still, VOp.app, VOp.plain, allP, lof, evs, start, asI, vbin, vcells, ntup, setAll, vfill, vress, vres, tup, Nat.reduceEqDiff, ↓reduceIte, Nat.reduceAdd, Nat.reduceMul, Nat.reduceLeDiff, reduceCtorEq, hg, c13, hb0, h10, ha, hw']
    · rintro ts X ⟨i, bs, k0, rfl, fX, bX, hk0, hi, hbl⟩
      have hg : decide (((20 : Nat) : Int) < 20) = false := rfl
      exact ⟨_, by simp -implicitDefEqProofs only [rnd, l15_0, VMs, noRef, noRef1, isRef, List.all_cons, List.all_nil, vop, VOp.still, VOp.app, VOp.plain, allP, lof, evs, start, asI, vbin, vcells, ntup, setAll, vfill, vress, vres, tup, Nat.reduceEqDiff, ↓reduceIte, Nat.reduceAdd, Nat.reduceMul, Nat.reduceLeDiff, reduceCtorEq, hg], by simp, X, i, bs, k0, rfl, fX, bX, hbl⟩
    · exact ⟨PA, [], true, by simp, fB, bB, fun _ => rfl, Nat.le_refl _, rfl⟩
  obtain ⟨_, hl, XB, ib, bs, k0, rfl, FAB, bXB, hbs⟩ := hloop
  have kB := FAB.len
  have leA : (H.length ≤ HA.length) = True := eq_true (by omega)
  have dzCB := (dzC9.fn fA).fn FAB
  have rwB := (rw8.fnI F8A).fnI FAB
  obtain ⟨v12, X12, c12, an12⟩ := implAppend_c (d + 1) H.length XB dzCB rwB hws
  have q9B : rdN XB ⟨P9, 1, none⟩ 2 = some [.slice (some ⟨i9, 0, none⟩) 64 1, .slice none 0 0] := by
    rw [FAB.rdN _ _ _ (by omega) id, hHA, hP9]; simp [rdN0]
  simp only [gCw, List.length_nil, sgn, sgs] at c12
  rw [sC, sU, ← hn0] at c3 hC5
  have wn1 : IntKind.i64.wrap ((n : Int) + 1) = ((n + 1 : Nat) : Int) := by rw [wr (by omega) (by omega)]; rfl
  have wu1 : IntKind.i64.wrap ((u : Int) + 2) = ((u + 2 : Nat) : Int) := by rw [wr (by omega) (by omega)]; rfl
  have wu2 : IntKind.i64.wrap (((u + 2 : Nat) : Int) + ((w.length : Nat) : Int)) = ((u + 2 + w.length : Nat) : Int) := by rw [wr (by omega) (by omega)]; rfl
  have hnlt : ((n : Int) < ((n + 1 : Nat) : Int)) = True := eq_true (by omega)
  have q0 : ((0 : Nat) == 0) = true := rfl
  have leB : (H.length ≤ XB.length) = True := eq_true (by omega)
  have le8 : (H.length ≤ X7.length + 1) = True := eq_true (by omega)
  have le9' : (H.length ≤ X9.length + 1) = True := eq_true (by omega)
  subst hP7 hP9
  by_cases hA2 : apC ⟨cw, []⟩ w ≠ 0
  · rcases an12 with ⟨_, rfl, e12⟩ | ⟨e, _⟩
    rotate_left
    · exact absurd e hA2
    rw [e12] at c12
    have h8 := apC_full hC0 hr hA2
    rw [h8] at c12
    have n80 : ((8 : Int) != 0) = true := rfl
    obtain ⟨HC, hHC⟩ : ∃ HC : Hp, HC = XB ++ [some ⟨[.int .i64 8, .slice none 0 0, .slice none 0 0], true, false⟩] := ⟨_, rfl⟩
    have fC : Fn XB HC := hHC ▸ Fr.app
    have k9C := fun k => (show Fn (X9 ++ [some ⟨[.int .i64 0, .slice (some ⟨i9, 0, none⟩) 64 1, .slice none 0 0], true, false⟩]) HC from hHA ▸ (FAB.trans fC)).cell k
    subst hHC
    subst hPA
    subst hHB
    subst hHA
    subst hH8
    subst hH6
    subst hH4
    subst hC5
    subst hH2
    subst ea7
    simp only [sgs, List.append_assoc, List.cons_append, List.nil_append, List.length_append, List.length_cons, List.length_nil, Nat.zero_add] at c3 c5 q24 c7 k58 eR c10 c11 q68 c9 hl q9B c12 k9C
    simp -implicitDefEqProofs only [v15, VMs, noRef, noRef1, isRef, List.all_cons, List.all_nil, vop, VOp.still, VOp.app, VOp.plain, allP, lof, evs, start, asI, vbin, vcells, ntup, setAll, vfill, vress, vres, tup, Nat.reduceEqDiff, ↓reduceIte, Nat.reduceAdd, Nat.reduceMul, Nat.reduceLeDiff, reduceCtorEq, lwBig_c, hbig, decide_false, List.getElem?_toArray, c1, hle1, c3, le3, q24, c5, le5, bne_self_eq_false, c7, le7, k58, wn1, hnlt, ge0, Int.toNat_natCast, Nat.mul_one, eR, c10, wu1, wu2, slen, c11, q68, c9, le9, q0, vlp, hl, q9B, c12, leB, le8, le9', n80, k9C, beq_self_eq_true]
  replace hA2 : apC ⟨cw, []⟩ w = 0 := Classical.byContradiction hA2
  rcases an12 with ⟨e, _⟩ | ⟨_, i12, b12, rfl, ar12⟩
  · exact absurd hA2 e
  obtain ⟨_, _, huC, _⟩ := apC_zero hA2
  have hF := apD_good hA2
  have hcs := crash_scan hA2 rfl bs
  generalize apD ⟨cw, []⟩ w = F at *
  have dzF := ar12.z (sd_good (dF_zero hF))
  have k12 := ar12.f.len
  have le12 : (H.length ≤ X12.length) = True := eq_true (by omega)
  obtain ⟨HC, hHC⟩ : ∃ HC : Hp, HC = X12 ++ [some ⟨[.int .i64 0, .slice (some ⟨i12, 0, none⟩) F.w.length 1, .slice b12 F.p.length (sg b12 2)], true, false⟩] := ⟨_, rfl⟩
  have fC : Fn X12 HC := hHC ▸ Fr.app
  have lC : HC.length = X12.length + 1 := by rw [hHC]; simp
  have FBC : Fn XB HC := ar12.f.trans fC
  have rbC : Rep EO 1 HC (some ⟨ib, 0, none⟩) bs.length bs := (vO_rep bXB rfl).fnO FBC
  obtain ⟨iD, XD, cD, fD, rD, wD⟩ := crash_ok (d + 1) H.length HC (dzF.fn fC) rbC (by omega) hF
  have kD := fD.len
  have hG := dF_left hF bs
  have gG : (flP F.w (kp F.p bs)).length = 64 := (dF_zero hG).w
  obtain ⟨gC, gU, gL⟩ := scan_eq hG
  have gL' : ∃ t, scanL ⟨flP F.w (kp F.p bs), []⟩ = (R0 ++ [w]) ++ t := by
    obtain ⟨t, e⟩ := hcs
    refine ⟨t, ?_⟩
    rw [gL]
    show (scanR (flP F.w (kp F.p bs)) 65 0 []).1 = _
    rw [e]
    show (scanR (flP cw []) 65 0 []).1 ++ t = _
    rw [sC0]
  obtain ⟨tl, gL'⟩ := gL'
  generalize hgw : flP F.w (kp F.p bs) = gw at *
  have rG : RD XD (some ⟨iD, 0, none⟩) 64 none 0 ⟨gw, []⟩ := ⟨rD, Rep.nil⟩
  obtain ⟨vE, XE, cE, nrE⟩ := implScanJournal_c (d + 1) H.length XD rG ⟨by rw [gG]; unfold Sm; omega, by simp [Sm]⟩
  rw [gC, gL'] at nrE
  generalize scanU ⟨gw, []⟩ = uG at *
  obtain ⟨aE, rfl, fE, rE⟩ := nrE.rep
  have hmE : ((R0 ++ [w]) ++ tl).length = n + 1 + tl.length := by rw [List.length_append, hRl]
  rw [hmE] at cE rE
  simp only [sgs, sgn] at cE
  have kE := fE.len
  have leE : (H.length ≤ XE.length) = True := eq_true (by omega)
  obtain ⟨HE, hHE⟩ : ∃ HE : Hp, HE = XE ++ [some ⟨[.int .i64 0, .int .i64 uG, .slice aE (n + 1 + tl.length) (sg aE 1)], true, false⟩] := ⟨_, rfl⟩
  have fHE : Fn XE HE := hHE ▸ Fr.app
  have FCE : Fn HC HE := fD.trans (fE.trans fHE)
  have FBE : Fn XB HE := FBC.trans FCE
  have FAE : Fn HA HE := FAB.trans FBE
  have F8E : Fn H8 HE := F8A.trans FAE
  have rwE := rw8.fnI F8E
  have q12 : rdN HC ⟨X12.length, 1, none⟩ 2 = some [.slice (some ⟨i12, 0, none⟩) F.w.length 1, .slice b12 F.p.length (sg b12 2)] := by
    rw [hHC]; simp [rdN0]
  have k7E := fun k => (show Fn (X7 ++ [some ⟨[.int .i64 0, .int .i64 ((u + 2 + w.length : Nat) : Int), .slice a7 (n + 1) (sg a7 1)], true, false⟩]) HE from hH8 ▸ F8E).cell k
  have k13 := fun k => (show Fn (XE ++ [some ⟨[.int .i64 0, .int .i64 uG, .slice aE (n + 1 + tl.length) (sg aE 1)], true, false⟩]) HE from hHE ▸ Fr.refl).cell k
  have q9E : rdN HE ⟨X9.length, 1, none⟩ 2 = some [.slice (some ⟨i9, 0, none⟩) 64 1, .slice none 0 0] := by
    rw [FAE.rdN _ _ _ (by omega) id, hHA]; simp [rdN0]
  have rEE := rE.fnR fHE
  have r7E := r78.fnR F8E
  obtain ⟨P13, hP13⟩ : ∃ P : Nat, P = XE.length := ⟨_, rfl⟩
  obtain ⟨P7, hP7⟩ : ∃ P : Nat, P = X7.length := ⟨_, rfl⟩
  rw [← hP13] at k13
  rw [← hP7] at k7E
  have hsm : ∀ x ∈ R0 ++ [w], Sm x.length := fun x hx => by
    have := (scanL_le E).2 x (by rw [eL']; exact hx)
    unfold Sm; omega
  have hl2 : lim (rnd (vcall env (d + 9)) H.length [4, 7, 8, 9, 13, 14] [2, 4, 9] l15_1) [(4, .slice ww w.length (sg ww 1)), (7, .pointer (some ⟨P7, 0, none⟩)), (8, .int .i64 (n : Nat)), (9, .pointer (some ⟨X9.length, 0, none⟩)), (13, .pointer (some ⟨P13, 0, none⟩)), (14, .int .i64 0)] HE = some (.exit 2, [(4, .slice ww w.length (sg ww 1)), (9, .pointer (some ⟨X9.length, 0, none⟩))], HE) := by
    refine lim_up (f := rnd (vcall env (d + 9)) H.length [4, 7, 8, 9, 13, 14] [2, 4, 9] l15_1) (by simp)
      (fun j => [(4, .slice ww w.length (sg ww 1)), (7, .pointer (some ⟨P7, 0, none⟩)), (8, .int .i64 (n : Nat)), (9, .pointer (some ⟨X9.length, 0, none⟩)), (13, .pointer (some ⟨P13, 0, none⟩)), (14, .int .i64 (j : Nat))]) (fun _ => HE) (n + 1) ?_ ?_
    · have hb : decide (((n + 1 : Nat) : Int) ≤ (n : Int)) = false := decide_eq_false (by omega)
      simp -implicitDefEqProofs only [rnd, l15_1, VMs, noRef, noRef1, isRef, List.all_cons, List.all_nil, vop, VOp.still, VOp.app, VOp.plain, allP, lof, evs, start, asI, vbin, vcells, ntup, setAll, vfill, vress, vres, tup, Nat.reduceEqDiff, ↓reduceIte, Nat.reduceAdd, Nat.reduceMul, Nat.reduceLeDiff, reduceCtorEq, hb]
    · intro j hj
      have hb : decide ((j : Int) ≤ (n : Int)) = true := decide_eq_true (by omega)
      have hjw : IntKind.i64.wrap ((j : Int) + 1) = ((j + 1 : Nat) : Int) := by rw [wr (by omega) (by omega)]; rfl
      have hj7 : j < (R0 ++ [w]).length := by omega
      have hjE : j < ((R0 ++ [w]) ++ tl).length := by omega
      obtain ⟨p1, o1, e1, ⟨s1, x1, y1⟩⟩ := r7E.at hj7
      obtain ⟨p2, o2, e2, ⟨s2, x2, y2⟩⟩ := rEE.at hjE
      have hget : ((R0 ++ [w]) ++ tl)[j] = (R0 ++ [w])[j] := List.getElem_append_left hj7
      have hx := hsm _ (List.getElem_mem hj7)
      rw [hget] at x2 y2
      generalize (R0 ++ [w])[j] = x at *
      rw [Nat.mul_one] at x1 x2
      have c20 := fun lo => lwNums_c (d + 8) lo HE y2 y1 hx
      have hj1 : ((j : Int) < ((n + 1 : Nat) : Int)) = True := eq_true (by omega)
      have hj2 : ((j : Int) < ((n + 1 + tl.length : Nat) : Int)) = True := eq_true (by omega)
      subst e1 e2
      simp -implicitDefEqProofs only [rnd, l15_1, VMs, noRef, noRef1, isRef, List.all_cons, List.all_nil, vop, VOp.still, VOp.app, VOp.plain, allP, lof, evs, start, asI, vbin, vcells, ntup, setAll, vfill, vress, vres, tup, Nat.reduceEqDiff, ↓reduceIte, Nat.reduceAdd, Nat.reduceMul, Nat.reduceLeDiff, reduceCtorEq, sgs, hb, vdr, k13, k7E, hj1, hj2, ge0, Int.toNat_natCast, Nat.mul_one, x1, x2, c20, hjw]
  have dzCE := dzCB.fn FBE
  have cR := fun lo => implRoom_ok (d + 1) lo HE dzCE hC0 (by omega)
  simp only [gCw, List.length_nil, sgn, sgs] at cR
  have sI := fun lo => implSum_c (d + 8) lo HE ww w.length w rwE hws
  have sS := fun lo => specSum_c (d + 8) lo HE ww w.length w rwE hws
  have hroom : decide ((62 : Int) - ((uRD ⟨cw, []⟩ : Nat) : Int) ≥ ((w.length : Nat) : Int)) = true := decide_eq_true (by omega)
  have hback : decide (((n + 1 + tl.length : Nat) : Int) < ((n + 1 : Nat) : Int)) = false := decide_eq_false (by omega)
  have leC : (H.length ≤ X12.length + 1) = True := eq_true (by omega)
  subst hP13 hP7
  subst hHE
  subst hHC
  subst hPA
  subst hHB
  subst hHA
  subst hH8
  subst hH6
  subst hH4
  subst hC5
  subst hH2
  subst ea7
  simp only [sgs, List.append_assoc, List.cons_append, List.nil_append, List.length_append, List.length_cons, List.length_nil, Nat.zero_add] at c3 c5 q24 c7 k58 eR c10 c11 q68 c9 hl q9B c12 cD cE q12 k13 hl2 cR q9E sI sS
  simp -implicitDefEqProofs only [v15, VMs, noRef, noRef1, isRef, List.all_cons, List.all_nil, vop, VOp.still, VOp.app, VOp.plain, allP, lof, evs, start, asI, vbin, vcells, ntup, setAll, vfill, vress, vres, tup, Nat.reduceEqDiff, ↓reduceIte, Nat.reduceAdd, Nat.reduceMul, Nat.reduceLeDiff, reduceCtorEq, lwBig_c, hbig, decide_false, List.getElem?_toArray, c1, hle1, c3, le3, q24, c5, le5, bne_self_eq_false, c7, le7, k58, wn1, hnlt, ge0, Int.toNat_natCast, Nat.mul_one, eR, c10, wu1, wu2, slen, c11, q68, c9, le9, q0, vlp, hl, q9B, c12, leB, le8, le9', le12, leC, q12, cD, ex3, sz3, cE, leE, k13, hback, hl2, q9E, cR, hroom, sI, sS, beq_self_eq_true]
end Go.Proofs.Ytaahjfjpbilfnaa.V
