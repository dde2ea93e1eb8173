/- AppendJournal: the program's; what is committed; how much room is left. -/
import Derived.Test.YtaahjfjpbilfnaaVJD
namespace Go.Proofs.Ytaahjfjpbilfnaa.V
open Go
set_option linter.unusedVariables false
set_option linter.unusedSimpArgs false
set_option maxRecDepth 100000
theorem implApp_loop (d lo0 : Nat) {L : Nat} {K : Nat → Prop} {X7 : Hp} {R Q i nw Lb u : Nat} {q0 : Option Addr} {p : List Bk} {l : List Int} {k0 : Bool} (hc : CB L K X7 Q i nw q0 p) (hl0 : lo0 ≤ L) (hlQ : lo0 ≤ Q) (hLX : L ≤ X7.length) (hb : X7.blk Lb = some ⟨vI l, true, k0⟩) (hKL : K Lb) (hLQ : Lb ≠ Q) (hpl : p.length + l.length ≤ 800) (hul : u + l.length ≤ 1000) (hK : ∀ j, X7.length ≤ j → ¬ K j) :
    ∃ r, lim (rnd (vcall env d) lo0 [4, 8, 9, 52, 53, 54] [4, 9] l60_0) [(4, .pointer (some ⟨R, 0, none⟩)), (8, .int .i64 (u : Nat)), (9, .pointer (some ⟨Q, 0, none⟩)), (52, .slice (some ⟨Lb, 0, none⟩) l.length 1), (53, .int .i64 (l.length : Nat)), (54, .int .i64 0)] X7 = some r ∧
      ∃ X q, r = (.exit 0, [(4, .pointer (some ⟨R, 0, none⟩)), (9, .pointer (some ⟨Q, 0, none⟩))], X) ∧ CB L K X Q i nw q (p ++ row u (l.take (64 - u))) ∧ Fw (fun j => j = Q ∨ (L ≤ j ∧ ¬ K j)) X7 X := by
  refine lim_inv (fun j ts X => ∃ q, ts = [(4, .pointer (some ⟨R, 0, none⟩)), (8, .int .i64 (u : Nat)), (9, .pointer (some ⟨Q, 0, none⟩)), (52, .slice (some ⟨Lb, 0, none⟩) l.length 1), (53, .int .i64 (l.length : Nat)), (54, .int .i64 (j : Nat))] ∧ CB L K X Q i nw q (p ++ row u ((l.take j).take (64 - u))) ∧ Fw (fun j => j = Q ∨ (L ≤ j ∧ ¬ K j)) X7 X) l.length ?_ ?_ ?_
  · rintro j ts X hj ⟨q, rfl, cb, fX⟩
    have lX := fX.len
    have lLb := blk_lt hb
    have bX : X.blk Lb = some ⟨vI l, true, k0⟩ := (fX.blk _ lLb (fun hh => by rcases hh with e | ⟨_, e⟩; exact hLQ e; exact e hKL)).trans hb
    have ex : rd X ⟨Lb, j, none⟩ = some (.int .i64 l[j]) := by simp only [rd, bX, Option.bind_some, vI, List.getElem?_map, getE hj, Option.map_some]
    have w1 : IntKind.i64.wrap ((u : Int) + (j : Int)) = ((u + j : Nat) : Int) := by rw [wr (by omega) (by omega)]; rfl
    have w2 : IntKind.i64.wrap ((j : Int) + 1) = ((j + 1 : Nat) : Int) := by rw [wr (by omega) (by omega)]; rfl
    by_cases hc : u + j < 64
    · have t1 : decide (((u + j : Nat) : Int) < 64) = true := decide_eq_true (by omega)
      have hpp : p ++ row u ((l.take (j + 1)).take (64 - u)) = (p ++ row u ((l.take j).take (64 - u))) ++ [⟨((u + j : Nat) : Int), l[j]⟩] := by
        rw [List.take_take, List.take_take, Nat.min_eq_right (show j + 1 ≤ 64 - u by omega), Nat.min_eq_right (show j ≤ 64 - u by omega), row_take l u j hj, List.append_assoc]
      have hkl : (p ++ row u ((l.take j).take (64 - u))).length ≤ 800 := by rw [List.length_append, row_len, List.length_take, List.length_take]; omega
      rw [hpp]
      generalize p ++ row u ((l.take j).take (64 - u)) = P at *
      obtain ⟨X2, X3, ha, hw, cb3, fw3, l3⟩ := cb.put hl0 hlQ (by omega) (by omega) (fun j hj => hK j (by omega)) ⟨((u + j : Nat) : Int), l[j]⟩
      have g0 : rd X ⟨Q, 1, none⟩ = some (.slice q P.length (sg q 2)) := by simp [rd, cb.c]
      refine ⟨_, X3, ?_, some ⟨X.length + 1, 0, none⟩, by rfl, cb3, fX.then fw3 (fun j hh hjl => ?_)⟩
      · simp -implicitDefEqProofs only [rnd, l60_0, VMs, noRef, noRef1, isRef, List.all_cons, List.all_nil, vop, VOp.still, VOp.app, VOp.plain, allP, lof, evs, start, asI, vbin, vcells, ntup, setAll, vfill, vress, vres, tup, Nat.reduceEqDiff, ↓reduceIte, Nat.reduceAdd, Nat.reduceMul, Nat.reduceLeDiff, reduceCtorEq, slen, ltc hj, ge0, decide_true, Int.toNat_natCast, Nat.mul_one, t1, g0, w1, ex, h10, ha, hw, w2]
      · rcases hh with e | e
        · exact Or.inl e
        · exact Or.inr ⟨(cb.hd.lt e).1, (cb.nq _ e).2⟩
    · have t1 : decide (((u + j : Nat) : Int) < 64) = false := decide_eq_false (by omega)
      have hpp : (l.take (j + 1)).take (64 - u) = (l.take j).take (64 - u) := by
        rw [List.take_take, List.take_take, Nat.min_eq_left (show 64 - u ≤ j + 1 by omega), Nat.min_eq_left (show 64 - u ≤ j by omega)]
      rw [hpp]
      refine ⟨_, X, ?_, q, by rfl, cb, fX⟩
      simp -implicitDefEqProofs only [rnd, l60_0, VMs, noRef, noRef1, isRef, List.all_cons, List.all_nil, vop, VOp.still, VOp.app, VOp.plain, allP, lof, evs, start, asI, vbin, vcells, ntup, setAll, vfill, vress, vres, tup, Nat.reduceEqDiff, ↓reduceIte, Nat.reduceAdd, Nat.reduceMul, Nat.reduceLeDiff, reduceCtorEq, slen, ltc hj, ge0, decide_true, Int.toNat_natCast, Nat.mul_one, t1, w1, ex, w2]
  · rintro ts X ⟨q, rfl, cb, fX⟩
    rw [List.take_length] at cb
    exact ⟨_, by simp -implicitDefEqProofs only [rnd, l60_0, VMs, noRef, noRef1, isRef, List.all_cons, List.all_nil, vop, VOp.still, VOp.app, VOp.plain, allP, lof, evs, start, asI, vbin, vcells, ntup, setAll, vfill, vress, vres, tup, Nat.reduceEqDiff, ↓reduceIte, Nat.reduceAdd, Nat.reduceMul, Nat.reduceLeDiff, reduceCtorEq, slen, Int.lt_irrefl, decide_false], by simp, X, q, rfl, cb, fX⟩
  · refine ⟨q0, rfl, ?_, Fw.refl⟩
    rw [List.take_zero, List.take_nil]
    simpa only [row, List.append_nil] using hc
set_option maxHeartbeats 8000000 in
theorem implAppend_c (d lo : Nat) (H : Hp) {aw ap D ww w} (h : DZ H aw D.w.length ap D.p.length D) (hw : Rep EI 1 H ww w.length w) (hs : Sm w.length) :
    ∃ v H', vcall env (d + 8) 60 [.agg #[.slice aw D.w.length (sg aw 1), .slice ap D.p.length (sg ap 2)], .slice ww w.length (sg ww 1)] lo H = some (v, H') ∧ AN H v H' D w := by
  obtain ⟨H1, hH1⟩ : ∃ H1 : Hp, H1 = H ++ [some ⟨[.slice aw D.w.length (sg aw 1), .slice ap D.p.length (sg ap 2)], true, false⟩, some ⟨[.int .i64 0, .slice none 0 0, .slice none 0 0], true, false⟩] := ⟨_, rfl⟩
  have f1 : Fn H H1 := hH1 ▸ Fr.app
  have l1 : H1.length = H.length + 2 := by rw [hH1]; simp
  have bB : H1.blk H.length = some ⟨[.slice aw D.w.length (sg aw 1), .slice ap D.p.length (sg ap 2)], true, false⟩ := by rw [hH1]; exact blk0
  have bR : H1.blk (H.length + 1) = some ⟨[.int .i64 0, .slice none 0 0, .slice none 0 0], true, false⟩ := by rw [hH1]; exact blkn 1
  have c1 := implDiskFault_c d H.length H1 (h.fn f1).d h.s
  have c2 := implRecordFault_c d H.length H1 (hw.fnI f1) hs
  by_cases h0 : ¬ dF D = 0
  · have hb : (dF D != 0) = true := bne_iff_ne.2 h0
    have hC : apC D w = dF D := by unfold apC; rw [if_neg h0]
    refine ⟨_, H, ?_, Or.inl ⟨by rw [hC]; exact h0, rfl, rfl⟩⟩
    rw [hC]
    subst hH1
    rw [call_eq find60 _ _ _ rfl]
    simp -implicitDefEqProofs only [v60, VMs, noRef, noRef1, isRef, List.all_cons, List.all_nil, vop, VOp.still, VOp.app, VOp.plain, allP, lof, evs, start, asI, vbin, vcells, ntup, setAll, vfill, vress, vres, tup, Nat.reduceEqDiff, ↓reduceIte, Nat.reduceAdd, Nat.reduceMul, Nat.reduceLeDiff, reduceCtorEq, c1, hb]
  replace h0 : dF D = 0 := Classical.byContradiction h0
  rw [h0] at c1
  by_cases hr : ¬ rF w = 0
  · have hb : (rF w != 0) = true := bne_iff_ne.2 hr
    have hC : apC D w = rF w := by unfold apC; rw [if_pos h0, if_neg hr]
    refine ⟨_, H, ?_, Or.inl ⟨by rw [hC]; exact hr, rfl, rfl⟩⟩
    rw [hC]
    subst hH1
    rw [call_eq find60 _ _ _ rfl]
    simp -implicitDefEqProofs only [v60, VMs, noRef, noRef1, isRef, List.all_cons, List.all_nil, vop, VOp.still, VOp.app, VOp.plain, allP, lof, evs, start, asI, vbin, vcells, ntup, setAll, vfill, vress, vres, tup, Nat.reduceEqDiff, ↓reduceIte, Nat.reduceAdd, Nat.reduceMul, Nat.reduceLeDiff, reduceCtorEq, c1, bne_self_eq_false, c2, hb]
  replace hr : rF w = 0 := Classical.byContradiction hr
  rw [hr] at c2
  have g := dF_zero h0
  have gw := g.w
  have gp := g.p
  obtain ⟨⟨hw1, hw8⟩, hwok⟩ := rF_zero hr
  obtain ⟨sa, ps, X2, c4, F2, r4, e4⟩ := implScan_c (d + 4) H.length H1 (h.fn f1).d g (h.fn f1).x
  have hu0 : (scanR (flP D.w D.p) 65 0 []).2 = uRD D := rfl
  have hk0 : ps.length = nRD D := by
    have := congrArg List.length e4
    rw [List.length_map] at this
    exact this
  have hule : uRD D ≤ 64 := by
    have := (scanR_le (flP D.w D.p) 65 0 [] (Nat.zero_le _) (fun x hx => by cases hx) (Nat.zero_le _)).1
    rw [flP_len, gw] at this; exact this
  rw [hu0, hk0] at c4
  obtain ⟨u, hu⟩ : ∃ u, u = uRD D := ⟨_, rfl⟩
  rw [← hu] at c4 hule
  have l2 := F2.len
  have q1 : rd X2 ⟨H.length, 1, none⟩ = some (.slice ap D.p.length (sg ap 2)) := by rw [F2.rd _ _ (by omega) id]; simp [rd, bB]
  have q2 : rdN X2 ⟨H.length, 0, none⟩ 2 = some [.slice aw D.w.length (sg aw 1), .slice ap D.p.length (sg ap 2)] := by rw [F2.rdN _ _ _ (by omega) id]; simp [rdN, bB]
  have wu1 : IntKind.i64.wrap ((64 : Int) - (u : Int)) = (64 : Int) - (u : Int) := wr (by omega) (by omega)
  have wu2 : IntKind.i64.wrap (((w.length : Nat) : Int) + 2) = ((w.length + 2 : Nat) : Int) := by rw [wr (by omega) (by omega)]; rfl
  have wp1 : IntKind.i64.wrap ((197 : Int) - ((w.length : Nat) : Int)) = (197 : Int) - ((w.length : Nat) : Int) := wr (by omega) (by omega)
  by_cases hf : 64 < u + 2 + w.length ∨ 200 < D.p.length + 3 + w.length
  · have hC : apC D w = 8 := by unfold apC; rw [if_pos h0, if_pos hr, ← hu, if_pos hf]
    refine ⟨_, H, ?_, Or.inl ⟨by rw [hC]; decide, rfl, rfl⟩⟩
    rw [hC]
    have rX2 : X2.blk (H.length + 1) = some ⟨[.int .i64 0, .slice none 0 0, .slice none 0 0], true, false⟩ := (F2.blk _ (by omega) id).trans bR
    have g3 := fun vs hv => wr_setB (lo := H.length) rX2 (by omega) vs hv
    have g4 := fun vs hv => rdN_setB rX2 3 vs hv
    subst hH1
    rw [call_eq find60 _ _ _ rfl]
    by_cases hf1 : 64 < u + 2 + w.length
    · have t1 : decide ((64 : Int) - (u : Int) < ((w.length + 2 : Nat) : Int)) = true := decide_eq_true (by omega)
      simp -implicitDefEqProofs only [v60, VMs, noRef, noRef1, isRef, List.all_cons, List.all_nil, vop, VOp.still, VOp.app, VOp.plain, allP, lof, evs, start, asI, vbin, vcells, ntup, setAll, vfill, vress, vres, tup, Nat.reduceEqDiff, ↓reduceIte, Nat.reduceAdd, Nat.reduceMul, Nat.reduceLeDiff, reduceCtorEq, List.getElem?_toArray, c1, bne_self_eq_false, c2, c4, slen, wu1, wu2, t1, g3, g4]
    · have t1 : decide ((64 : Int) - (u : Int) < ((w.length + 2 : Nat) : Int)) = false := decide_eq_false (by omega)
      have t2 : decide (((D.p.length : Nat) : Int) > (197 : Int) - ((w.length : Nat) : Int)) = true := decide_eq_true (by omega)
      simp -implicitDefEqProofs only [v60, VMs, noRef, noRef1, isRef, List.all_cons, List.all_nil, vop, VOp.still, VOp.app, VOp.plain, allP, lof, evs, start, asI, vbin, vcells, ntup, setAll, vfill, vress, vres, tup, Nat.reduceEqDiff, ↓reduceIte, Nat.reduceAdd, Nat.reduceMul, Nat.reduceLeDiff, reduceCtorEq, List.getElem?_toArray, c1, bne_self_eq_false, c2, c4, slen, wu1, wu2, t1, q1, wp1, t2, g3, g4]
  have hC : apC D w = 0 := by unfold apC; rw [if_pos h0, if_pos hr, ← hu, if_neg hf]
  have t1 : decide ((64 : Int) - (u : Int) < ((w.length + 2 : Nat) : Int)) = false := decide_eq_false (by omega)
  have t2 : decide (((D.p.length : Nat) : Int) > (197 : Int) - ((w.length : Nat) : Int)) = false := decide_eq_false (by omega)
  have FH2 : Fn H X2 := f1.trans F2
  obtain ⟨i, b, X3, c5, f5, r5, w5, hd5, nib⟩ := ownDisk_c (d + 5) H.length X2 (h.fn FH2) g
  have l3 := f5.len
  have hi2 := w5.1
  have hi3 := blk_lt w5.2.choose_spec.1
  have FH3 : Fn H X3 := FH2.trans f5
  obtain ⟨X4, hX4⟩ : ∃ X4 : Hp, X4 = X3 ++ [some ⟨[.slice (some ⟨i, 0, none⟩) D.w.length 1, .slice b D.p.length (sg b 2)], true, false⟩] := ⟨_, rfl⟩
  have f6 : Fn X3 X4 := hX4 ▸ Fr.app
  have l4 : X4.length = X3.length + 1 := by rw [hX4]; simp
  have b4 : X4.blk X3.length = some ⟨[.slice (some ⟨i, 0, none⟩) D.w.length 1, .slice b D.p.length (sg b 2)], true, false⟩ := by rw [hX4]; exact blk0
  have FH4 : Fn H X4 := FH3.trans f6
  have hw4 := hw.fnI FH4
  have hne : w ≠ [] := by intro e; rw [e] at hw1; simp at hw1
  have hx4 := hw4.exI hne
  obtain ⟨s, hsum⟩ : ∃ s, s = sumW (((nRD D : Nat) : Int) :: w) 9 := ⟨_, rfl⟩
  obtain ⟨ib, X5, c8, f8, hib, b5⟩ := stands2_c (d + 5) H.length X4 ((nRD D : Nat) : Int) hw4 hx4 (by omega) (by omega)
  rw [← hsum] at b5
  have l5 := f8.len
  have hib5 := blk_lt b5
  have F35 : Fn X3 X5 := f6.trans f8
  have R0 : X5.blk (H.length + 1) = some ⟨[.int .i64 0, .slice none 0 0, .slice none 0 0], true, false⟩ := ((F2.trans (f5.trans F35)).blk _ (by omega) id).trans bR
  have hpp : (apD D w).p = D.p ++ row u (apL u (nRD D) w) := by unfold apD; rw [← hu]
  have hww : (apD D w).w = D.w := rfl
  have le3 : (H.length ≤ X3.length) = True := eq_true (by omega)
  have hal : apL u (nRD D) w = ((((w.length : Nat) : Int) :: s :: w) ++ [0]).take (64 - u) := by unfold apL; rw [← hsum]
  obtain ⟨X6, hX6⟩ : ∃ X6 : Hp, X6 = X5 ++ [some ⟨[.int .i64 0], true, false⟩] := ⟨_, rfl⟩
  have f9 : Fn X5 X6 := hX6 ▸ Fr.app
  have l6 : X6.length = X5.length + 1 := by rw [hX6]; simp
  have b6 := (f9.blk _ (blk_lt b5) id).trans b5
  obtain ⟨X7, c10, b7, l7, f10, ho7⟩ := app_own (st := 1) (by_ := 8) (lo := H.length) (i := ib) (n := 2 + w.length) (m := 1) (M := [.int .i64 0]) (y := .slice (some ⟨X5.length, 0, none⟩) 1 1) b6 (by rw [vI_len]; simp; omega) (fun e => by omega) (by omega) rfl (by rw [hX6]; simp [scells, rdN0]) (by omega) (fits_small (by omega))
  have fw7 : Fw (· = ib) X5 X7 := (f9.w.mono (T := (· = ib)) (fun _ => False.elim)).trans ⟨by omega, fun j hj hs => ho7 j hs hj⟩
  obtain ⟨l, hl0⟩ : ∃ l : List Int, l = (((w.length : Nat) : Int) :: s :: w) ++ [0] := ⟨_, rfl⟩
  have hll : l.length = 2 + w.length + 1 := by rw [hl0]; simp; omega
  have b7' : X7.blk X6.length = some ⟨vI l, true, false⟩ := by rw [b7, hl0]; simp [vI]
  rw [← hl0] at hal
  have cb5 : CB (H.length + 2) (fun j => j = i ∨ (X4.length ≤ j ∧ j < X7.length)) X5 X3.length i D.w.length b D.p := ⟨(f8.blk _ (by omega) id).trans b4, (hd5.down (by omega)).fw F35.w (fun _ _ => id), fun j hj => by
    have := hd5.lt hj
    have hnb := nib j hj
    exact ⟨by omega, fun hh => by rcases hh with e | ⟨e, _⟩; exact hnb e; omega⟩⟩
  have cb7 := cb5.fw fw7 (fun j e => ⟨by omega, fun hh => (cb5.nq _ hh).2 (Or.inr (by omega))⟩)
  obtain ⟨_, hl, X, q, rfl, cbX, fwX⟩ := implApp_loop (d + 7) H.length (R := H.length + 1) (u := u) cb7 (by omega) (by omega) (by omega) b7' (Or.inr ⟨by omega, by omega⟩) (by omega) (by omega) (by omega) (fun j hj hh => by rcases hh with e | ⟨_, e⟩; omega; omega)
  rw [← hal] at cbX
  rw [hll] at hl
  have r7 := (r5.fr (fun _ _ => id) F35).fwI fw7 (fun j hj => by rw [hj.eq]; omega)
  have w7 := fw7.wb ((w5.fn _ F35).lo (show H.length ≤ X2.length by omega)) (by omega)
  have R7 := (fw7.blk _ (blk_lt R0) (by omega)).trans R0
  have F7 : Fn H X7 := fw7.fn (FH3.trans F35) (fun j e => by omega)
  obtain ⟨k1, RX, ar⟩ := CB.done fwX F7 (by omega) (Or.inl rfl) (by omega) R7 r7 w7 (by omega) cbX
  rw [← hpp] at k1 ar
  have g3 := fun vs hv => wr_setB (lo := H.length) RX (by omega) vs hv
  have g4 := fun vs hv => rdN_setB RX 3 vs hv
  refine ⟨_, _, ?_, Or.inr ⟨hC, i, q, rfl, ar⟩⟩
  subst hX6
  subst hX4
  subst hH1
  simp only [List.append_assoc, List.cons_append, List.nil_append, List.length_append, List.length_cons, List.length_nil, Nat.zero_add, Nat.reduceAdd, sgs] at c8 c10 hl
  rw [call_eq find60 _ _ _ rfl]
  simp -implicitDefEqProofs only [v60, VMs, noRef, noRef1, isRef, List.all_cons, List.all_nil, vop, VOp.still, VOp.app, VOp.plain, allP, lof, evs, start, asI, vbin, vcells, ntup, setAll, vfill, vress, vres, tup, Nat.reduceEqDiff, ↓reduceIte, Nat.reduceAdd, Nat.reduceMul, Nat.reduceLeDiff, reduceCtorEq, List.getElem?_toArray, c1, bne_self_eq_false, c2, c4, slen, wu1, wu2, t1, q1, wp1, t2, q2, c5, hk0, h10, c8, c10, vlp, hl, k1, g3, g4, le3, hww]
end Go.Proofs.Ytaahjfjpbilfnaa.V
