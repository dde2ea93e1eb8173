/- What is committed, what a crash leaves (the reference's), how much room is left. -/
import Derived.Test.YtaahjfjpbilfnaaVJE
namespace Go.Proofs.Ytaahjfjpbilfnaa.V
open Go
set_option linter.unusedVariables false
set_option linter.unusedSimpArgs false
set_option maxRecDepth 100000
theorem AR.words {H H' : Hp} {i n : Nat} {w : List Int} (f : Fn H H') (r : Rep EI 1 H' (some ⟨i, 0, none⟩) n w) (o : WB H.length H' i) : AR H H' i none ⟨w, []⟩ :=
  ⟨f, by have := r.1; subst this; exact r, o, Or.inl ⟨rfl, rfl, rfl⟩, fun j hj => hj.no.elim⟩
theorem specFlush_ok (d lo : Nat) (H : Hp) {aw nw ap np D} (h : DZ H aw nw ap np D) (h0 : dF D = 0) :
    ∃ i H', vcall env (d + 4) 44 [.agg #[.slice aw nw (sg aw 1), .slice ap np (sg ap 2)]] lo H = some (.agg #[.int .i64 0, .slice (some ⟨i, 0, none⟩) 64 1, .slice none 0 0], H') ∧ AR H H' i none ⟨flP D.w D.p, []⟩ := by
  obtain ⟨H1, hH1⟩ : ∃ H1 : Hp, H1 = H ++ [some ⟨[.slice aw nw (sg aw 1), .slice ap np (sg ap 2)], true, false⟩, some ⟨[.int .i64 0, .slice none 0 0, .slice none 0 0], true, false⟩] := ⟨_, rfl⟩
  have f1 : Fn H H1 := hH1 ▸ Fr.app
  have l1 : H1.length = H.length + 2 := by rw [hH1]; simp
  have bR : H1.blk (H.length + 1) = some ⟨[.int .i64 0, .slice none 0 0, .slice none 0 0], true, false⟩ := by rw [hH1]; exact blkn 1
  have bB : H1.blk H.length = some ⟨[.slice aw nw (sg aw 1), .slice ap np (sg ap 2)], true, false⟩ := by rw [hH1]; exact blk0
  have pA : PD H1 H.length aw nw ap np D := ⟨by simp [rd, bB], by simp [rd, bB], (h.fn f1).d⟩
  have c1 := l1Fault_c d H.length H1 pA h.s
  rw [h0] at c1
  obtain ⟨i, H2, c2, f2, w2, r2⟩ := l1All_c (d + 1) H.length H1 pA (dF_zero h0)
  have bR2 := (f2.blk _ (by omega) id).trans bR
  have hi := w2.1
  have g3 := fun vs hv => wr_setB (lo := H.length) bR2 (by omega) vs hv
  have g4 := fun vs hv => rdN_setB bR2 3 vs hv
  have ff := Fr.setB bR2 [.int .i64 0, .slice (some ⟨i, 0, none⟩) 64 1, .slice none 0 0]
  refine ⟨i, setB H2 (H.length + 1) [.int .i64 0, .slice (some ⟨i, 0, none⟩) 64 1, .slice none 0 0], ?_, AR.words (Fn.setB (f1.trans f2) (by omega) bR2 _) (r2.fr (fun j hj e => by have := hj.eq; omega) ff) ((w2.lo (by omega)).fn _ ff)⟩
  subst hH1
  rw [call_eq find44 _ _ _ rfl]
  simp -implicitDefEqProofs only [v44, VMs, noRef, noRef1, isRef, List.all_cons, List.all_nil, vop, VOp.still, VOp.app, VOp.plain, allP, lof, evs, start, asI, vbin, vcells, ntup, setAll, vfill, vress, vres, tup, Nat.reduceEqDiff, ↓reduceIte, Nat.reduceAdd, Nat.reduceMul, Nat.reduceLeDiff, reduceCtorEq, c1, bne_self_eq_false, c2, g3, g4]
theorem specCommit_ok (d lo : Nat) (H : Hp) {aw nw ap np D} (h : DZ H aw nw ap np D) (h0 : dF D = 0) :
    ∃ i H', vcall env (d + 5) 45 [.agg #[.slice aw nw (sg aw 1), .slice ap np (sg ap 2)]] lo H = some (.agg #[.int .i64 0, .slice (some ⟨i, 0, none⟩) 64 1, .slice none 0 0], H') ∧ AR H H' i none ⟨flP D.w D.p, []⟩ := by
  obtain ⟨H1, hH1⟩ : ∃ H1 : Hp, H1 = H ++ [some ⟨[.slice aw nw (sg aw 1), .slice ap np (sg ap 2)], true, false⟩, some ⟨[.int .i64 0, .slice none 0 0, .slice none 0 0], true, false⟩] := ⟨_, rfl⟩
  have f1 : Fn H H1 := hH1 ▸ Fr.app
  have l1 : H1.length = H.length + 2 := by rw [hH1]; simp
  have bR : H1.blk (H.length + 1) = some ⟨[.int .i64 0, .slice none 0 0, .slice none 0 0], true, false⟩ := by rw [hH1]; exact blkn 1
  obtain ⟨i, H2, c2, a2⟩ := specFlush_ok d H.length H1 (h.fn f1) h0
  have bR2 := (a2.f.blk _ (by omega) id).trans bR
  have hi := a2.o.1
  have g3 := fun vs hv => wr_setB (lo := H.length) bR2 (by omega) vs hv
  have g4 := fun vs hv => rdN_setB bR2 3 vs hv
  have ff := Fr.setB bR2 [.int .i64 0, .slice (some ⟨i, 0, none⟩) 64 1, .slice none 0 0]
  refine ⟨i, setB H2 (H.length + 1) [.int .i64 0, .slice (some ⟨i, 0, none⟩) 64 1, .slice none 0 0], ?_, AR.words (Fn.setB (f1.trans a2.f) (by omega) bR2 _) (a2.w.fr (fun j hj e => by have := hj.eq; omega) ff) ((a2.o.lo (by omega)).fn _ ff)⟩
  subst hH1
  rw [call_eq find45 _ _ _ rfl]
  simp -implicitDefEqProofs only [v45, VMs, noRef, noRef1, isRef, List.all_cons, List.all_nil, vop, VOp.still, VOp.app, VOp.plain, allP, lof, evs, start, asI, vbin, vcells, ntup, setAll, vfill, vress, vres, tup, Nat.reduceEqDiff, ↓reduceIte, Nat.reduceAdd, Nat.reduceMul, Nat.reduceLeDiff, reduceCtorEq, c2, g3, g4]
theorem implCommit_ok (d lo : Nat) (H : Hp) {aw nw ap np D} (h : DZ H aw nw ap np D) (h0 : dF D = 0) :
    ∃ i H', vcall env (d + 9) 46 [.agg #[.slice aw nw (sg aw 1), .slice ap np (sg ap 2)]] lo H = some (.agg #[.int .i64 0, .slice (some ⟨i, 0, none⟩) 64 1, .slice none 0 0], H') ∧ AR H H' i none ⟨flP D.w D.p, []⟩ := by
  obtain ⟨H1, hH1⟩ : ∃ H1 : Hp, H1 = H ++ [some ⟨[.slice aw nw (sg aw 1), .slice ap np (sg ap 2)], true, false⟩, some ⟨[.int .i64 0, .slice none 0 0, .slice none 0 0], true, false⟩] := ⟨_, rfl⟩
  have f1 : Fn H H1 := hH1 ▸ Fr.app
  have l1 : H1.length = H.length + 2 := by rw [hH1]; simp
  have bR : H1.blk (H.length + 1) = some ⟨[.int .i64 0, .slice none 0 0, .slice none 0 0], true, false⟩ := by rw [hH1]; exact blkn 1
  obtain ⟨i, H2, c2, f2, r2, w2⟩ := flush_ok d H.length H1 (h.fn f1) h0
  have bR2 := (f2.blk _ (by omega) id).trans bR
  have hi := w2.1
  have g3 := fun vs hv => wr_setB (lo := H.length) bR2 (by omega) vs hv
  have g4 := fun vs hv => rdN_setB bR2 3 vs hv
  have ff := Fr.setB bR2 [.int .i64 0, .slice (some ⟨i, 0, none⟩) 64 1, .slice none 0 0]
  refine ⟨i, setB H2 (H.length + 1) [.int .i64 0, .slice (some ⟨i, 0, none⟩) 64 1, .slice none 0 0], ?_, AR.words (Fn.setB (f1.trans f2) (by omega) bR2 _) (r2.fr (fun j hj e => by have := hj.eq; omega) ff) ((w2.lo (by omega)).fn _ ff)⟩
  subst hH1
  rw [call_eq find46 _ _ _ rfl]
  simp -implicitDefEqProofs only [v46, VMs, noRef, noRef1, isRef, List.all_cons, List.all_nil, vop, VOp.still, VOp.app, VOp.plain, allP, lof, evs, start, asI, vbin, vcells, ntup, setAll, vfill, vress, vres, tup, Nat.reduceEqDiff, ↓reduceIte, Nat.reduceAdd, Nat.reduceMul, Nat.reduceLeDiff, reduceCtorEq, c2, g3, g4]
/-- How many words a record may have yet. -/
theorem implRoom_ok (d lo : Nat) (H : Hp) {aw nw ap np D} (h : DZ H aw nw ap np D) (h0 : dF D = 0) (hu : uRD D + 2 ≤ 64) :
    vcall env (d + 8) 49 [.agg #[.slice aw nw (sg aw 1), .slice ap np (sg ap 2)]] lo H = some (.agg #[.int .i64 0, .int .i64 ((62 : Int) - (uRD D : Nat))], H) := by
  obtain ⟨H1, hH1⟩ : ∃ H1 : Hp, H1 = H ++ [some ⟨[.slice aw nw (sg aw 1), .slice ap np (sg ap 2)], true, false⟩, some ⟨[.int .i64 0, .int .i64 0], true, false⟩] := ⟨_, rfl⟩
  have f1 : Fn H H1 := hH1 ▸ Fr.app
  have l1 : H1.length = H.length + 2 := by rw [hH1]; simp
  have bR : H1.blk (H.length + 1) = some ⟨[.int .i64 0, .int .i64 0], true, false⟩ := by rw [hH1]; exact blkn 1
  have c1 := implDiskFault_c d H.length H1 (h.fn f1).d h.s
  rw [h0] at c1
  obtain ⟨sa, ps, X2, c2, f2, r2, e2⟩ := implScan_c (d + 4) H.length H1 (h.fn f1).d (dF_zero h0) (h.fn f1).x
  have hu0 : (scanR (flP D.w D.p) 65 0 []).2 = uRD D := rfl
  rw [hu0] at c2
  generalize uRD D = u at *
  have bR2 := (f2.blk _ (by omega) id).trans bR
  have g3 := fun vs hv => wr_setB (lo := H.length) bR2 (by omega) vs hv
  have g4 := fun vs hv => rdN_setB bR2 2 vs hv
  have w1 : IntKind.i64.wrap ((64 : Int) - (u : Int)) = (64 : Int) - (u : Int) := wr (by omega) (by omega)
  have w2 : IntKind.i64.wrap ((64 : Int) - (u : Int) - 2) = (62 : Int) - (u : Int) := by rw [wr (by omega) (by omega)]; omega
  have hmx : (if (62 : Int) - (u : Int) > 0 then (62 : Int) - (u : Int) else 0) = (62 : Int) - (u : Int) := by split <;> omega
  subst hH1
  rw [call_eq find49 _ _ _ rfl]
  simp -implicitDefEqProofs only [v49, VMs, noRef, noRef1, isRef, List.all_cons, List.all_nil, vop, VOp.still, VOp.app, VOp.plain, allP, lof, evs, start, asI, vbin, vcells, ntup, setAll, vfill, vress, vres, tup, Nat.reduceEqDiff, ↓reduceIte, Nat.reduceAdd, Nat.reduceMul, Nat.reduceLeDiff, reduceCtorEq, List.getElem?_toArray, c1, bne_self_eq_false, c2, w1, w2, hmx, g3, g4]
theorem vI_get {l : List Int} {j : Nat} (hj : j < l.length) : (vI l)[j]? = some (.int .i64 l[j]) := by simp [vI, hj]
set_option maxHeartbeats 4000000 in
theorem specCrash_ok (d lo : Nat) (H : Hp) {aw ap ab D bs} (h : DZ H aw D.w.length ap D.p.length D) (hb : Rep EO 1 H ab bs.length bs) (hbl : bs.length ≤ 1000) (h0 : dF D = 0) :
    ∃ i w H', vcall env (d + 4) 50 [.agg #[.slice aw D.w.length (sg aw 1), .slice ap D.p.length (sg ap 2)], .slice ab bs.length (sg ab 1)] lo H = some (.agg #[.int .i64 0, .slice (some ⟨i, 0, none⟩) 64 1, .slice none 0 0], H') ∧ AR H H' i none ⟨w, []⟩ ∧ w.length = 64 := by
  have g := dF_zero h0
  have gp := g.p
  have gw := g.w
  obtain ⟨H1, hH1⟩ : ∃ H1 : Hp, H1 = H ++ [some ⟨[.slice aw D.w.length (sg aw 1), .slice ap D.p.length (sg ap 2)], true, false⟩, some ⟨[.int .i64 0, .slice none 0 0, .slice none 0 0], true, false⟩] := ⟨_, rfl⟩
  have f1 : Fn H H1 := hH1 ▸ Fr.app
  have l1 : H1.length = H.length + 2 := by rw [hH1]; simp
  have bB : H1.blk H.length = some ⟨[.slice aw D.w.length (sg aw 1), .slice ap D.p.length (sg ap 2)], true, false⟩ := by rw [hH1]; exact blk0
  have bR1 : H1.blk (H.length + 1) = some ⟨[.int .i64 0, .slice none 0 0, .slice none 0 0], true, false⟩ := by rw [hH1]; exact blkn 1
  have pA : PD H1 H.length aw D.w.length ap D.p.length D := ⟨by simp [rd, bB], by simp [rd, bB], (h.fn f1).d⟩
  have c1 := l1Fault_c d H.length H1 pA h.s
  rw [h0] at c1
  have z1 := h.fn f1
  obtain ⟨Y, hY⟩ : ∃ Y : Hp, Y = H1 ++ [some ⟨[], true, true⟩] := ⟨_, rfl⟩
  have fY : Fn H1 Y := hY ▸ Fr.app
  have lY : Y.length = H1.length + 1 := by rw [hY]; simp
  have e0 : Y.blk H1.length = some ⟨[], true, true⟩ := by rw [hY]; exact blk0
  have hcw := ((z1.fn fY).d.w).cellsI (z1.fn fY).x
  have ha := vapp0 (st := 1) (by_ := 8) (lo := H.length) e0 rfl hcw (show 0 < D.w.length by omega) (fits_small (by omega))
  obtain ⟨H2, hH2⟩ : ∃ H2 : Hp, H2 = Y ++ [some ⟨vI D.w, true, false⟩, some ⟨[.slice (some ⟨Y.length, 0, none⟩) D.w.length 1, .slice none 0 0], true, false⟩] := ⟨_, rfl⟩
  have fY2 : Fn Y H2 := hH2 ▸ Fr.app
  have l2 : H2.length = Y.length + 2 := by rw [hH2]; simp
  have F2 : Fn H1 H2 := fY.trans fY2
  have bB2 := (F2.blk _ (by omega) id).trans bB
  have bR2 := (F2.blk _ (by omega) id).trans bR1
  have bW : H2.blk Y.length = some ⟨vI D.w, true, false⟩ := by rw [hH2]; exact blk0
  have bQ : H2.blk (Y.length + 1) = some ⟨[.slice (some ⟨Y.length, 0, none⟩) D.w.length 1, .slice none 0 0], true, false⟩ := by rw [hH2]; exact blkn 1
  obtain ⟨W, hW⟩ : ∃ W : Nat, W = Y.length := ⟨_, rfl⟩
  obtain ⟨Q, hQ⟩ : ∃ Q : Nat, Q = Y.length + 1 := ⟨_, rfl⟩
  rw [← hQ, ← hW] at bQ
  rw [← hW] at bW
  have z2 := z1.fn F2
  have b2 := hb.fnO (f1.trans F2)
  obtain ⟨m, hm⟩ : ∃ m : Nat, m = min D.p.length bs.length := ⟨_, rfl⟩
  have hbS : ∀ (X : Hp), Fr (· = W) H2 X → Rep EO 1 X ab bs.length bs := fun X hf => ⟨b2.1, fun hl => by
    obtain ⟨bi, bo, ha2, hx⟩ := (hb.fnO f1).2 hl
    refine ⟨bi, bo, ha2, fun j x hj => ?_⟩
    have hlt := rd_lt (hx j x hj)
    exact (hf.rd _ _ (Nat.lt_of_lt_of_le hlt F2.len) (by omega)).trans ((F2.rd _ _ hlt id).trans (hx j x hj))⟩
  have hpS : ∀ (X : Hp), Fr (· = W) H2 X → Rep EB 2 X ap D.p.length D.p := fun X hf => ⟨rfl, fun hl => by
    obtain ⟨bi, bo, ha2, hx⟩ := z1.d.p.2 hl
    refine ⟨bi, bo, ha2, fun j x hj => ?_⟩
    obtain ⟨e1, e2⟩ := hx j x hj
    have hlt := rd_lt e1
    exact ⟨(hf.rd _ _ (Nat.lt_of_lt_of_le hlt F2.len) (by omega)).trans ((F2.rd _ _ hlt id).trans e1), (hf.rd _ _ (Nat.lt_of_lt_of_le hlt F2.len) (by omega)).trans ((F2.rd _ _ hlt id).trans e2)⟩⟩
  have hloop : ∃ r, lim (rnd (vcall env (d + 3)) H.length [1, 2, 4, 6, 7] [4, 6] l50_0) [(1, .slice ab bs.length (sg ab 1)), (2, .pointer (some ⟨H.length, 0, none⟩)), (4, .pointer (some ⟨H.length + 1, 0, none⟩)), (6, .pointer (some ⟨Q, 0, none⟩)), (7, .int .i64 0)] H2 = some r ∧
      ∃ X w, r = (.exit 0, [(4, .pointer (some ⟨H.length + 1, 0, none⟩)), (6, .pointer (some ⟨Q, 0, none⟩))], X) ∧ Fr (· = W) H2 X ∧ X.blk W = some ⟨vI w, true, false⟩ ∧ w.length = 64 := by
    refine lim_inv (fun j ts X => ∃ w, ts = [(1, .slice ab bs.length (sg ab 1)), (2, .pointer (some ⟨H.length, 0, none⟩)), (4, .pointer (some ⟨H.length + 1, 0, none⟩)), (6, .pointer (some ⟨Q, 0, none⟩)), (7, .int .i64 (j : Nat))] ∧ Fr (· = W) H2 X ∧ X.blk W = some ⟨vI w, true, false⟩ ∧ w.length = 64) m ?_ ?_ ?_
    · rintro j ts X hj ⟨w, rfl, fX, wX, hwl⟩
      have hjp : j < D.p.length := by omega
      have hjb : j < bs.length := by omega
      have q0 : rd X ⟨Q, 0, none⟩ = some (.slice (some ⟨W, 0, none⟩) D.w.length 1) := by rw [fX.rd _ _ (by omega) (by omega)]; simp [rd, bQ]
      have q1 : rd X ⟨H.length, 1, none⟩ = some (.slice ap D.p.length (sg ap 2)) := by rw [fX.rd _ _ (by omega) (by omega)]; simp [rd, bB2]
      have rp := hpS X fX
      have rb := hbS X fX
      obtain ⟨pi, po, rfl, e⟩ := rp.at hjp
      obtain ⟨bi, bo, rfl, eb⟩ := rb.at hjb
      simp only [EO, Nat.mul_one] at eb
      have e1 := e.1
      have e2 := e.2
      have hr := g.a _ (List.getElem_mem hjp)
      have jw : IntKind.i64.wrap ((j : Int) + 1) = ((j + 1 : Nat) : Int) := by rw [wr (by omega) (by omega)]; rfl
      generalize D.p[j] = x at *
      obtain ⟨xr, xd⟩ := x
      simp only at hr e1 e2
      obtain ⟨z, rfl⟩ : ∃ z : Nat, xr = (z : Int) := ⟨xr.toNat, by omega⟩
      have hz : z < D.w.length := by omega
      cases hbj : bs[j] with
      | false =>
        rw [hbj] at eb
        refine ⟨_, X, ?_, w, by rfl, fX, wX, hwl⟩
        simp -implicitDefEqProofs only [rnd, l50_0, VMs, noRef, noRef1, isRef, List.all_cons, List.all_nil, vop, VOp.still, VOp.app, VOp.plain, allP, lof, evs, start, asI, vbin, vcells, ntup, setAll, vfill, vress, vres, tup, Nat.reduceEqDiff, ↓reduceIte, Nat.reduceAdd, Nat.reduceMul, Nat.reduceLeDiff, reduceCtorEq, slen, q1, ltc hjp, ltc hjb, ge0, decide_true, Int.toNat_natCast, Nat.mul_one, eb, jw]
      | true =>
        rw [hbj] at eb
        have w4 := wr_at (lo := H.length) (o := z) wX (by omega) [.int .i64 xd] (by rw [vI_len]; simp; omega)
        have hset : setAll (vI w) z [Value.int .i64 xd] = vI (w.set z xd) := by
          rw [← vI_set]; rfl
        rw [hset] at w4
        have ff := Fr.setB wX (vI (w.set z xd))
        refine ⟨_, setB X W (vI (w.set z xd)), ?_, w.set z xd, by rfl, fX.trans ff, by rw [blk_setB wX, if_pos rfl], by rw [List.length_set]; exact hwl⟩
        simp -implicitDefEqProofs only [rnd, l50_0, VMs, noRef, noRef1, isRef, List.all_cons, List.all_nil, vop, VOp.still, VOp.app, VOp.plain, allP, lof, evs, start, asI, vbin, vcells, ntup, setAll, vfill, vress, vres, tup, Nat.reduceEqDiff, ↓reduceIte, Nat.reduceAdd, Nat.reduceMul, Nat.reduceLeDiff, reduceCtorEq, slen, vdr, q0, q1, ltc hjp, ltc hjb, ltc hz, ge0, decide_true, Int.toNat_natCast, Nat.mul_one, Nat.zero_add, eb, e1, e2, jw, w4]
    · rintro ts X ⟨w, rfl, fX, wX, hwl⟩
      have q1 : rd X ⟨H.length, 1, none⟩ = some (.slice ap D.p.length (sg ap 2)) := by rw [fX.rd _ _ (by omega) (by omega)]; simp [rd, bB2]
      refine ⟨_, ?_, by simp, X, w, rfl, fX, wX, hwl⟩
      by_cases e : m < D.p.length
      · have hx : decide ((m : Int) < ((bs.length : Nat) : Int)) = false := decide_eq_false (by omega)
        simp -implicitDefEqProofs only [rnd, l50_0, VMs, noRef, noRef1, isRef, List.all_cons, List.all_nil, vop, VOp.still, VOp.app, VOp.plain, allP, lof, evs, start, asI, vbin, vcells, ntup, setAll, vfill, vress, vres, tup, Nat.reduceEqDiff, ↓reduceIte, Nat.reduceAdd, Nat.reduceMul, Nat.reduceLeDiff, reduceCtorEq, slen, q1, ltc e, decide_true, hx]
      · have hx : decide ((m : Int) < ((D.p.length : Nat) : Int)) = false := decide_eq_false (by omega)
        simp -implicitDefEqProofs only [rnd, l50_0, VMs, noRef, noRef1, isRef, List.all_cons, List.all_nil, vop, VOp.still, VOp.app, VOp.plain, allP, lof, evs, start, asI, vbin, vcells, ntup, setAll, vfill, vress, vres, tup, Nat.reduceEqDiff, ↓reduceIte, Nat.reduceAdd, Nat.reduceMul, Nat.reduceLeDiff, reduceCtorEq, slen, q1, hx]
    · exact ⟨D.w, rfl, Fr.refl, bW, gw⟩
  obtain ⟨_, hl, X, w, rfl, fX, wX, hwl⟩ := hloop
  have q1 : rdN X ⟨Q, 0, none⟩ 2 = some [.slice (some ⟨W, 0, none⟩) D.w.length 1, .slice none 0 0] := by rw [fX.rdN _ _ _ (by omega) (by omega)]; simp [rdN, bQ]
  have RX := (fX.blk _ (show H.length + 1 < H2.length by omega) (by omega)).trans bR2
  have g3 := fun vs hv => wr_setB (lo := H.length) RX (by omega) vs hv
  have g4 := fun vs hv => rdN_setB RX 3 vs hv
  have ff := Fr.setB RX [.int .i64 0, .slice (some ⟨W, 0, none⟩) 64 1, .slice none 0 0]
  have wl := blk_lt wX
  have bX9 := (ff.blk W wl (by omega)).trans wX
  have rX := vI_rep bX9 rfl
  rw [hwl] at rX
  have FX : Fn H X := fX.w.fn (f1.trans F2) (fun j e => by omega)
  refine ⟨W, w, setB X (H.length + 1) [.int .i64 0, .slice (some ⟨W, 0, none⟩) 64 1, .slice none 0 0], ?_, AR.words (Fn.setB FX (by omega) RX _) rX ⟨by omega, _, bX9, rfl⟩, hwl⟩
  subst hQ
  subst hH2
  subst hW
  subst hY
  subst hH1
  simp only [gw, List.append_assoc, List.cons_append, List.nil_append, List.length_append, List.length_cons, List.length_nil, Nat.zero_add, Nat.reduceAdd, sgs] at ha hl q1 c1
  rw [call_eq find50 _ _ _ rfl]
  simp -implicitDefEqProofs only [v50, VMs, noRef, noRef1, isRef, List.all_cons, List.all_nil, vop, VOp.still, VOp.app, VOp.plain, allP, lof, evs, start, asI, vbin, vcells, ntup, setAll, vfill, vress, vres, tup, Nat.reduceEqDiff, ↓reduceIte, Nat.reduceAdd, Nat.reduceMul, Nat.reduceLeDiff, reduceCtorEq, gw, slen, c1, bne_self_eq_false, beq_self_eq_true, ha, vlp, hl, q1, g3, g4]
end Go.Proofs.Ytaahjfjpbilfnaa.V
