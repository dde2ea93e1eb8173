/- CrashDisk: the program's. -/
import Derived.Test.YtaahjfjpbilfnaaVQP
namespace Go.Proofs.Ytaahjfjpbilfnaa.V
open Go
set_option linter.unusedVariables false
set_option linter.unusedSimpArgs false
set_option maxRecDepth 100000
theorem crash_bad (d lo : Nat) (H : Hp) {aw nw ap np D} {vb : Value} (h : DZ H aw nw ap np D) (h0 : dF D ≠ 0) :
    vcall env (d + 8) 26 [.agg #[.slice aw nw (sg aw 1), .slice ap np (sg ap 2)], vb] lo H = some (.agg #[.int .i64 (dF D), .slice none 0 0, .slice none 0 0], H) := by
  have c1 := fun l => implDiskFault_c d H.length (H ++ l) (h.d.app (l := l)) h.s
  have hb : (dF D != 0) = true := bne_iff_ne.2 h0
  rw [call_eq find26 _ _ _ rfl]
  simp -implicitDefEqProofs only [v26, VMs, noRef, noRef1, isRef, List.all_cons, List.all_nil, vop, VOp.still, VOp.app, VOp.plain, allP, lof, evs, start, asI, vbin, vcells, ntup, setAll, vfill, vress, vres, tup, Nat.reduceEqDiff, ↓reduceIte, Nat.reduceAdd, Nat.reduceMul, Nat.reduceLeDiff, reduceCtorEq, c1, hb]
set_option maxHeartbeats 4000000 in
theorem crash_ok (d lo : Nat) (H : Hp) {aw ap ab D bs} (h : DZ H aw D.w.length ap D.p.length D) (hb : Rep EO 1 H ab bs.length bs) (hbl : bs.length ≤ 1000) (h0 : dF D = 0) :
    ∃ i H', vcall env (d + 8) 26 [.agg #[.slice aw D.w.length (sg aw 1), .slice ap D.p.length (sg ap 2)], .slice ab bs.length (sg ab 1)] lo H = some (.agg #[.int .i64 0, .slice (some ⟨i, 0, none⟩) 64 1, .slice none 0 0], H') ∧ Fn H H' ∧ Rep EI 1 H' (some ⟨i, 0, none⟩) 64 (flP D.w (kp D.p bs)) ∧ WB H.length H' i := by
  have g := dF_zero h0
  have gp := g.p
  obtain ⟨H1, hH1⟩ : ∃ H1 : Hp, H1 = H ++ [some ⟨[.slice aw D.w.length (sg aw 1), .slice ap D.p.length (sg ap 2)], true, false⟩, some ⟨[.int .i64 0, .slice none 0 0, .slice none 0 0], true, false⟩] := ⟨_, rfl⟩
  have f1 : Fn H H1 := hH1 ▸ Fr.app
  have l1 : H1.length = H.length + 2 := by rw [hH1]; simp
  have z1 := h.fn f1
  have c1 := implDiskFault_c d H.length H1 z1.d z1.s
  rw [h0] at c1
  obtain ⟨H2, hH2⟩ : ∃ H2 : Hp, H2 = H ++ [some ⟨[.slice aw D.w.length (sg aw 1), .slice ap D.p.length (sg ap 2)], true, false⟩, some ⟨[.int .i64 0, .slice none 0 0, .slice none 0 0], true, false⟩, some ⟨[.slice aw D.w.length (sg aw 1), .slice none 0 0], true, false⟩] := ⟨_, rfl⟩
  have f2 : Fn H H2 := hH2 ▸ Fr.app
  have l2 : H2.length = H.length + 3 := by rw [hH2]; simp
  have bR : H2.blk (H.length + 1) = some ⟨[.int .i64 0, .slice none 0 0, .slice none 0 0], true, false⟩ := by rw [hH2]; exact blkn 1
  have bL : H2.blk (H.length + 2) = some ⟨[.slice aw D.w.length (sg aw 1), .slice none 0 0], true, false⟩ := by rw [hH2]; exact blkn 2
  obtain ⟨Q, hQ⟩ : ∃ Q : Nat, Q = H.length + 2 := ⟨_, rfl⟩
  have hloop : ∃ r, lim (rnd (vcall env (d + 7)) H.length [1, 4, 6, 19, 20, 21] [4, 6] l26_0) [(1, .slice ab bs.length (sg ab 1)), (4, .pointer (some ⟨H.length + 1, 0, none⟩)), (6, .pointer (some ⟨Q, 0, none⟩)), (19, .slice ap D.p.length (sg ap 2)), (20, .int .i64 (D.p.length : Nat)), (21, .int .i64 0)] H2 = some r ∧
      ∃ X q, r = (.exit 0, [(4, .pointer (some ⟨H.length + 1, 0, none⟩)), (6, .pointer (some ⟨Q, 0, none⟩))], X) ∧ Fn H X ∧ X.blk (H.length + 1) = some ⟨[.int .i64 0, .slice none 0 0, .slice none 0 0], true, false⟩ ∧
        X.blk Q = some ⟨[.slice aw D.w.length (sg aw 1), .slice q (kp D.p bs).length (sg q 2)], true, false⟩ ∧ Hd (H.length + 3) X q (kp D.p bs).length 2 (vP (kp D.p bs)) := by
    refine lim_inv (fun j ts X => ∃ q, ts = [(1, .slice ab bs.length (sg ab 1)), (4, .pointer (some ⟨H.length + 1, 0, none⟩)), (6, .pointer (some ⟨Q, 0, none⟩)), (19, .slice ap D.p.length (sg ap 2)), (20, .int .i64 (D.p.length : Nat)), (21, .int .i64 (j : Nat))] ∧ Fn H X ∧ X.blk (H.length + 1) = some ⟨[.int .i64 0, .slice none 0 0, .slice none 0 0], true, false⟩ ∧
        X.blk Q = some ⟨[.slice aw D.w.length (sg aw 1), .slice q (kp (D.p.take j) bs).length (sg q 2)], true, false⟩ ∧ Hd (H.length + 3) X q (kp (D.p.take j) bs).length 2 (vP (kp (D.p.take j) bs))) D.p.length ?_ ?_ ?_
    · rintro j ts X hj ⟨q, rfl, fX, rX, qX, hd⟩
      have lX := fX.len
      have leX : (H.length ≤ X.length) = True := eq_true lX
      have lQ := blk_lt qX
      have hk := kp_take D.p bs j hj
      have hkl := kp_len (D.p.take j) bs
      have htl : (D.p.take j).length ≤ 200 := by rw [List.length_take]; omega
      generalize kp (D.p.take j) bs = K at *
      generalize kp (D.p.take (j + 1)) bs = K' at *
      obtain ⟨pi, po, rfl, e⟩ := (h.d.p.fnB fX).at hj
      generalize D.p[j] = x at *
      have e1 := e.val
      have hjw : IntKind.i64.wrap ((j : Int) + 1) = ((j + 1 : Nat) : Int) := by rw [wr (by omega) (by omega)]; rfl
      obtain ⟨X1, hX1⟩ : ∃ X1 : Hp, X1 = X ++ [some ⟨[.int .i64 x.r, .int .i64 x.d], true, false⟩] := ⟨_, rfl⟩
      have fX1 : Fn X X1 := hX1 ▸ Fr.app
      have lX1 : X1.length = X.length + 1 := by rw [hX1]; simp
      have miss : bs[j]? ≠ some true → K' = K := fun hh => by rw [hk, if_neg hh, List.append_nil]
      by_cases hjb : j < bs.length
      · obtain ⟨bi, bo, rfl, eb⟩ := (hb.fnO (fX.trans fX1)).at hjb
        simp only [EO, Nat.mul_one] at eb
        cases hbj : bs[j] with
        | false =>
          have hK := miss (by rw [getE hjb, hbj]; simp)
          rw [hbj] at eb
          refine ⟨_, X1, ?_, q, by rfl, fX.trans fX1, (fX1.blk _ (blk_lt rX) id).trans rX, by rw [hK]; exact (fX1.blk _ lQ id).trans qX, by rw [hK]; exact hd.fw fX1.w (fun _ _ => id)⟩
          subst hX1
          simp -implicitDefEqProofs only [rnd, l26_0, VMs, noRef, noRef1, isRef, List.all_cons, List.all_nil, vop, VOp.still, VOp.app, VOp.plain, allP, lof, evs, start, asI, vbin, vcells, ntup, setAll, vfill, vress, vres, tup, Nat.reduceEqDiff, ↓reduceIte, Nat.reduceAdd, Nat.reduceMul, Nat.reduceLeDiff, reduceCtorEq, slen, ltc hj, ltc hjb, ge0, decide_true, Int.toNat_natCast, Nat.mul_one, e1, leX, eb, hjw]
        | true =>
          have hK : K' = K ++ [x] := by rw [hk, if_pos (by rw [getE hjb, hbj])]
          rw [hbj] at eb
          subst hK
          obtain ⟨X2, hX2⟩ : ∃ X2 : Hp, X2 = X1 ++ [some ⟨[.int .i64 x.r, .int .i64 x.d], true, false⟩] := ⟨_, rfl⟩
          have fX2 : Fn X1 X2 := hX2 ▸ Fr.app
          have lX2 : X2.length = X1.length + 1 := by rw [hX2]; simp
          have FX2 := fX1.trans fX2
          have hd2 := hd.fw FX2.w (fun _ _ => id)
          obtain ⟨X3, ha, hl3, hd3, hf3, ho3⟩ := app_hd (st := 2) (by_ := 16) (m := 1) (M := vp x) (y := .slice (some ⟨X1.length, 0, none⟩) 1 2) (hd2.down (show H.length ≤ H.length + 3 by omega)) rfl (by rw [hX2]; simp [scells, rdN0, vp]) (by omega) rfl (fits_small (by omega)) (by omega)
          have nq : ∀ o, q ≠ some ⟨Q, o, none⟩ := fun o e => by have := (hd.lt ⟨o, e⟩).1; omega
          have nr : ∀ o, q ≠ some ⟨H.length + 1, o, none⟩ := fun o e => by have := (hd.lt ⟨o, e⟩).1; omega
          have q3 : X3.blk Q = some ⟨[.slice aw D.w.length (sg aw 1), .slice q K.length (sg q 2)], true, false⟩ := (ho3 Q nq (by omega)).trans ((FX2.blk _ lQ id).trans qX)
          have r3 : X3.blk (H.length + 1) = some ⟨[.int .i64 0, .slice none 0 0, .slice none 0 0], true, false⟩ := (ho3 _ nr (by omega)).trans ((FX2.blk _ (blk_lt rX) id).trans rX)
          have w4 := wr_at (lo := H.length) (o := 1) q3 (by omega) [.slice (some ⟨X2.length, 0, none⟩) (K.length + 1) 2] (by simp)
          have hset : setAll [Value.slice aw D.w.length (sg aw 1), .slice q K.length (sg q 2)] 1 [.slice (some ⟨X2.length, 0, none⟩) (K.length + 1) 2] = [.slice aw D.w.length (sg aw 1), .slice (some ⟨X2.length, 0, none⟩) (K.length + 1) 2] := rfl
          rw [hset] at w4
          have g0 : rd X1 ⟨Q, 1, none⟩ = some (.slice q K.length (sg q 2)) := by rw [fX1.rd _ _ lQ id]; simp [rd, qX]
          have ff := Fr.setB q3 [.slice aw D.w.length (sg aw 1), .slice (some ⟨X2.length, 0, none⟩) (K.length + 1) 2]
          have hlK : (K ++ [x]).length = K.length + 1 := by simp
          have hvp : vP K ++ vp x = vP (K ++ [x]) := by simp [vP]
          rw [hvp] at hd3
          have le1 : (H.length ≤ X1.length) = True := eq_true (by omega)
          refine ⟨_, setB X3 Q [.slice aw D.w.length (sg aw 1), .slice (some ⟨X2.length, 0, none⟩) (K.length + 1) 2], ?_, some ⟨X2.length, 0, none⟩, by rfl, Fn.setB (hf3 H (fX.trans FX2) (Nat.le_refl _)) (by omega) q3 _, by rw [blk_setB q3, if_neg (by omega)]; exact r3, by rw [blk_setB q3, if_pos rfl, hlK]; rfl, by rw [hlK]; exact (hd3.up (by omega)).fw ff.w (fun i hi e => by have := hi.eq; omega)⟩
          subst hX2
          subst hX1
          simp only [sgs, List.append_assoc, List.cons_append, List.nil_append, List.length_append, List.length_cons, List.length_nil, Nat.zero_add] at ha w4 g0
          simp -implicitDefEqProofs only [rnd, l26_0, VMs, noRef, noRef1, isRef, List.all_cons, List.all_nil, vop, VOp.still, VOp.app, VOp.plain, allP, lof, evs, start, asI, vbin, vcells, ntup, setAll, vfill, vress, vres, tup, Nat.reduceEqDiff, ↓reduceIte, Nat.reduceAdd, Nat.reduceMul, Nat.reduceLeDiff, reduceCtorEq, slen, ltc hj, ltc hjb, ge0, decide_true, Int.toNat_natCast, Nat.mul_one, e1, leX, eb, hjw, g0, h10, ha, w4]
      · have hK := miss (by rw [List.getElem?_eq_none (by omega)]; simp)
        have hlt : decide ((j : Int) < ((bs.length : Nat) : Int)) = false := decide_eq_false (by omega)
        refine ⟨_, X1, ?_, q, by rfl, fX.trans fX1, (fX1.blk _ (blk_lt rX) id).trans rX, by rw [hK]; exact (fX1.blk _ lQ id).trans qX, by rw [hK]; exact hd.fw fX1.w (fun _ _ => id)⟩
        subst hX1
        simp -implicitDefEqProofs only [rnd, l26_0, VMs, noRef, noRef1, isRef, List.all_cons, List.all_nil, vop, VOp.still, VOp.app, VOp.plain, allP, lof, evs, start, asI, vbin, vcells, ntup, setAll, vfill, vress, vres, tup, Nat.reduceEqDiff, ↓reduceIte, Nat.reduceAdd, Nat.reduceMul, Nat.reduceLeDiff, reduceCtorEq, slen, ltc hj, hlt, ge0, decide_true, Int.toNat_natCast, Nat.mul_one, e1, leX, hjw]
    · rintro ts X ⟨q, rfl, fX, rX, qX, hd⟩
      rw [List.take_length] at qX hd
      exact ⟨_, by simp -implicitDefEqProofs only [rnd, l26_0, VMs, noRef, noRef1, isRef, List.all_cons, List.all_nil, vop, VOp.still, VOp.app, VOp.plain, allP, lof, evs, start, asI, vbin, vcells, ntup, setAll, vfill, vress, vres, tup, Nat.reduceEqDiff, ↓reduceIte, Nat.reduceAdd, Nat.reduceMul, Nat.reduceLeDiff, reduceCtorEq, Int.lt_irrefl, decide_false], by simp, X, q, rfl, fX, rX, qX, hd⟩
    · refine ⟨none, rfl, f2, bR, ?_, ?_⟩
      · rw [hQ, bL]; cases D.p <;> rfl
      · cases D.p <;> exact Or.inl ⟨rfl, rfl, rfl⟩
  obtain ⟨_, hl, X, q, rfl, fX, rX, qX, hd⟩ := hloop
  have lQ := blk_lt qX
  have gD : DGood ⟨D.w, kp D.p bs⟩ := ⟨g.w, Nat.le_trans (kp_len _ _) g.p, fun x hx => g.a x (kp_mem _ _ x hx)⟩
  have rD : RD X aw D.w.length q (kp D.p bs).length ⟨D.w, kp D.p bs⟩ := ⟨(h.fn fX).d.w, hd.repP⟩
  obtain ⟨i, X2, c3, f3, w3, r3⟩ := flushed_c (d + 5) H.length X rD gD (h.fn fX).x
  have q1 : rdN X ⟨Q, 0, none⟩ 2 = some [.slice aw D.w.length (sg aw 1), .slice q (kp D.p bs).length (sg q 2)] := by simp [rdN, qX]
  have rX2 := (f3.blk _ (blk_lt rX) id).trans rX
  have lX := fX.len
  have lX2 := f3.len
  have hi := w3.1
  have g3 := fun vs hv => wr_setB (lo := H.length) rX2 (by omega) vs hv
  have g4 := fun vs hv => rdN_setB rX2 3 vs hv
  have ff := Fr.setB rX2 [.int .i64 0, .slice (some ⟨i, 0, none⟩) 64 1, .slice none 0 0]
  have lR := blk_lt rX
  refine ⟨i, setB X2 (H.length + 1) [.int .i64 0, .slice (some ⟨i, 0, none⟩) 64 1, .slice none 0 0], ?_, Fn.setB (fX.trans f3) (by omega) rX2 _, r3.fr (fun j hj e => by have := hj.eq; omega) ff, (w3.lo (by omega)).fn _ ff⟩
  subst hQ
  subst hH2
  subst hH1
  rw [call_eq find26 _ _ _ rfl]
  simp -implicitDefEqProofs only [v26, VMs, noRef, noRef1, isRef, List.all_cons, List.all_nil, vop, VOp.still, VOp.app, VOp.plain, allP, lof, evs, start, asI, vbin, vcells, ntup, setAll, vfill, vress, vres, tup, Nat.reduceEqDiff, ↓reduceIte, Nat.reduceAdd, Nat.reduceMul, Nat.reduceLeDiff, reduceCtorEq, slen, c1, bne_self_eq_false, vlp, hl, q1, c3, g3, g4]
end Go.Proofs.Ytaahjfjpbilfnaa.V
