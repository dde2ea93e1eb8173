/- AppendJournal: the reference's. -/
import Derived.Test.YtaahjfjpbilfnaaVJC
namespace Go.Proofs.Ytaahjfjpbilfnaa.V
open Go
set_option linter.unusedVariables false
set_option linter.unusedSimpArgs false
set_option maxRecDepth 100000
/-- A disk in new memory. -/
structure AR (H H' : Hp) (i : Nat) (b : Option Addr) (D : Dk) : Prop where
  f : Fn H H'
  w : Rep EI 1 H' (some ⟨i, 0, none⟩) D.w.length D.w
  o : WB H.length H' i
  p : Hd H.length H' b D.p.length 2 (vP D.p)
  n : ∀ j, Ad b j → j ≠ i
theorem AR.z {H H' : Hp} {i : Nat} {b : Option Addr} {D : Dk} (h : AR H H' i b D) (hs : SD D) : DZ H' (some ⟨i, 0, none⟩) D.w.length b D.p.length D := ⟨⟨h.w, h.p.repP⟩, fun A e => by
  cases e
  obtain ⟨_, b, hb, _⟩ := h.o
  exact ⟨rfl, b, hb, Nat.zero_le _⟩, hs⟩
theorem sd_good {D : Dk} (g : DGood D) : SD D := ⟨by rw [g.w]; unfold Sm; omega, by have := g.p; unfold Sm; omega⟩
theorem specApp_loop (d lo0 : Nat) {L : Nat} {K : Nat → Prop} {X7 : Hp} {R Q i nw Lb u : Nat} {q0 : Option Addr} {p : List Bk} {l : List Int} {k0 : Bool} (hc : CB L K X7 Q i nw q0 p) (hl0 : lo0 ≤ L) (hlQ : lo0 ≤ Q) (hLX : L ≤ X7.length) (hb : X7.blk Lb = some ⟨vI l, true, k0⟩) (hKL : K Lb) (hLQ : Lb ≠ Q) (hpl : p.length + l.length ≤ 800) (hul : u + l.length ≤ 1000) (hK : ∀ j, X7.length ≤ j → ¬ K j) :
    ∃ r, lim (rnd (vcall env d) lo0 [4, 8, 10, 11, 12] [4, 10] l59_0) [(4, .pointer (some ⟨R, 0, none⟩)), (8, .int .i64 (u : Nat)), (10, .pointer (some ⟨Q, 0, none⟩)), (11, .slice (some ⟨Lb, 0, none⟩) l.length 1), (12, .int .i64 0)] X7 = some r ∧
      ∃ X q, r = (.exit 0, [(4, .pointer (some ⟨R, 0, none⟩)), (10, .pointer (some ⟨Q, 0, none⟩))], X) ∧ CB L K X Q i nw q (p ++ row u l) ∧ Fw (fun j => j = Q ∨ (L ≤ j ∧ ¬ K j)) X7 X := by
  refine lim_inv (fun j ts X => ∃ q, ts = [(4, .pointer (some ⟨R, 0, none⟩)), (8, .int .i64 (u : Nat)), (10, .pointer (some ⟨Q, 0, none⟩)), (11, .slice (some ⟨Lb, 0, none⟩) l.length 1), (12, .int .i64 (j : Nat))] ∧ CB L K X Q i nw q (p ++ row u (l.take j)) ∧ Fw (fun j => j = Q ∨ (L ≤ j ∧ ¬ K j)) X7 X) l.length ?_ ?_ ?_
  · rintro j ts X hj ⟨q, rfl, cb, fX⟩
    have hk := row_take l u j hj
    have hkl : (p ++ row u (l.take j)).length ≤ 800 := by rw [List.length_append, row_len, List.length_take]; omega
    have hpp : p ++ row u (l.take (j + 1)) = (p ++ row u (l.take j)) ++ [⟨((u + j : Nat) : Int), l[j]⟩] := by rw [hk, List.append_assoc]
    rw [hpp]
    generalize p ++ row u (l.take j) = P at *
    have lX := fX.len
    obtain ⟨X2, X3, ha, hw, cb3, fw3, l3⟩ := cb.put hl0 hlQ (by omega) (by omega) (fun j hj => hK j (by omega)) ⟨((u + j : Nat) : Int), l[j]⟩
    have lLb := blk_lt hb
    have bX : X.blk Lb = some ⟨vI l, true, k0⟩ := (fX.blk _ lLb (fun hh => by rcases hh with e | ⟨_, e⟩; exact hLQ e; exact e hKL)).trans hb
    have ex : rd X ⟨Lb, j, none⟩ = some (.int .i64 l[j]) := by simp only [rd, bX, Option.bind_some, vI, List.getElem?_map, getE hj, Option.map_some]
    have g0 : rd X ⟨Q, 1, none⟩ = some (.slice q P.length (sg q 2)) := by simp [rd, cb.c]
    have w1 : IntKind.i64.wrap ((u : Int) + (j : Int)) = ((u + j : Nat) : Int) := by rw [wr (by omega) (by omega)]; rfl
    have w2 : IntKind.i64.wrap ((j : Int) + 1) = ((j + 1 : Nat) : Int) := by rw [wr (by omega) (by omega)]; rfl
    refine ⟨_, X3, ?_, some ⟨X.length + 1, 0, none⟩, by rfl, cb3, fX.then fw3 (fun j hh hjl => ?_)⟩
    · simp -implicitDefEqProofs only [rnd, l59_0, VMs, noRef, noRef1, isRef, List.all_cons, List.all_nil, vop, VOp.still, VOp.app, VOp.plain, allP, lof, evs, start, asI, vbin, vcells, ntup, setAll, vfill, vress, vres, tup, Nat.reduceEqDiff, ↓reduceIte, Nat.reduceAdd, Nat.reduceMul, Nat.reduceLeDiff, reduceCtorEq, slen, ltc hj, ge0, decide_true, Int.toNat_natCast, Nat.mul_one, g0, w1, ex, h10, ha, hw, w2]
    · rcases hh with e | e
      · exact Or.inl e
      · exact Or.inr ⟨(cb.hd.lt e).1, (cb.nq _ e).2⟩
  · rintro ts X ⟨q, rfl, cb, fX⟩
    rw [List.take_length] at cb
    exact ⟨_, by simp -implicitDefEqProofs only [rnd, l59_0, VMs, noRef, noRef1, isRef, List.all_cons, List.all_nil, vop, VOp.still, VOp.app, VOp.plain, allP, lof, evs, start, asI, vbin, vcells, ntup, setAll, vfill, vress, vres, tup, Nat.reduceEqDiff, ↓reduceIte, Nat.reduceAdd, Nat.reduceMul, Nat.reduceLeDiff, reduceCtorEq, slen, Int.lt_irrefl, decide_false], by simp, X, q, rfl, cb, fX⟩
  · refine ⟨q0, rfl, ?_, Fw.refl⟩
    rw [List.take_zero]
    simpa only [row, List.append_nil] using hc
theorem CB.done {H X7 X : Hp} {K : Nat → Prop} {Q i : Nat} {q : Option Addr} {w : List Int} {P : List Bk} (fw : Fw (fun j => j = Q ∨ (H.length + 2 ≤ j ∧ ¬ K j)) X7 X) (F7 : Fn H X7) (hQ : H.length + 2 ≤ Q) (Ki : K i) (hiQ : i ≠ Q)
    (R7 : X7.blk (H.length + 1) = some ⟨[.int .i64 0, .slice none 0 0, .slice none 0 0], true, false⟩) (r7 : Rep EI 1 X7 (some ⟨i, 0, none⟩) w.length w) (w7 : WB H.length X7 i) (hiR : i ≠ H.length + 1) (cb : CB (H.length + 2) K X Q i w.length q P) :
    rdN X ⟨Q, 0, none⟩ 2 = some [.slice (some ⟨i, 0, none⟩) w.length 1, .slice q P.length (sg q 2)] ∧ X.blk (H.length + 1) = some ⟨[.int .i64 0, .slice none 0 0, .slice none 0 0], true, false⟩ ∧
      AR H (setB X (H.length + 1) [.int .i64 0, .slice (some ⟨i, 0, none⟩) w.length 1, .slice q P.length (sg q 2)]) i q ⟨w, P⟩ := by
  have lR := blk_lt R7
  have RX : X.blk (H.length + 1) = some ⟨[.int .i64 0, .slice none 0 0, .slice none 0 0], true, false⟩ := (fw.blk _ lR (fun hh => by rcases hh with e | ⟨e, _⟩ <;> omega)).trans R7
  have hni : ¬ (i = Q ∨ (H.length + 2 ≤ i ∧ ¬ K i)) := fun hh => by rcases hh with e | ⟨_, e⟩; exact hiQ e; exact e Ki
  have ff := Fr.setB RX [.int .i64 0, .slice (some ⟨i, 0, none⟩) w.length 1, .slice q P.length (sg q 2)]
  have FX : Fn H X := fw.fn F7 (fun j hh => by rcases hh with e | ⟨e, _⟩ <;> omega)
  have wX := fw.wb w7 hni
  refine ⟨by simp [rdN, cb.c], RX, ⟨Fn.setB FX (by omega) RX _, ?_, wX.fn _ ff, (cb.hd.fw ff.w (fun j hj e => by have := (cb.hd.lt hj).1; omega)).down (by omega), fun j hj e => (cb.nq j hj).2 (by rw [e]; exact Ki)⟩⟩
  exact (r7.fwI fw (fun j hj => by rw [hj.eq]; exact hni)).fr (T := (· = H.length + 1)) (fun j hj e => by have := hj.eq; omega) ff
/-- What an append answers. -/
def AN (H : Hp) (v : Value) (H' : Hp) (D : Dk) (w : List Int) : Prop :=
  (apC D w ≠ 0 ∧ v = .agg #[.int .i64 (apC D w), .slice none 0 0, .slice none 0 0] ∧ H' = H) ∨
  (apC D w = 0 ∧ ∃ i b, v = .agg #[.int .i64 0, .slice (some ⟨i, 0, none⟩) (apD D w).w.length 1, .slice b (apD D w).p.length (sg b 2)] ∧ AR H H' i b (apD D w))
set_option maxHeartbeats 8000000 in
theorem specAppend_c (d lo : Nat) (H : Hp) {aw ap D ww w} (h : DZ H aw D.w.length ap D.p.length D) (hw : Rep EI 1 H ww w.length w) (hs : Sm w.length) :
    ∃ v H', vcall env (d + 4) 59 [.agg #[.slice aw D.w.length (sg aw 1), .slice ap D.p.length (sg ap 2)], .slice ww w.length (sg ww 1)] lo H = some (v, H') ∧ AN H v H' D w := by
  obtain ⟨H1, hH1⟩ : ∃ H1 : Hp, H1 = H ++ [some ⟨[.slice aw D.w.length (sg aw 1), .slice ap D.p.length (sg ap 2)], true, false⟩, some ⟨[.int .i64 0, .slice none 0 0, .slice none 0 0], true, false⟩] := ⟨_, rfl⟩
  have f1 : Fn H H1 := hH1 ▸ Fr.app
  have l1 : H1.length = H.length + 2 := by rw [hH1]; simp
  have bB : H1.blk H.length = some ⟨[.slice aw D.w.length (sg aw 1), .slice ap D.p.length (sg ap 2)], true, false⟩ := by rw [hH1]; exact blk0
  have bR : H1.blk (H.length + 1) = some ⟨[.int .i64 0, .slice none 0 0, .slice none 0 0], true, false⟩ := by rw [hH1]; exact blkn 1
  have pA : PD H1 H.length aw D.w.length ap D.p.length D := ⟨by simp [rd, bB], by simp [rd, bB], (h.fn f1).d⟩
  have c1 := l1Fault_c d H.length H1 pA h.s
  have c2 := specRecordFault_c d H.length H1 (hw.fnI f1) hs
  by_cases h0 : ¬ dF D = 0
  · have hb : (dF D != 0) = true := bne_iff_ne.2 h0
    have hC : apC D w = dF D := by unfold apC; rw [if_neg h0]
    refine ⟨_, H, ?_, Or.inl ⟨by rw [hC]; exact h0, rfl, rfl⟩⟩
    rw [hC]
    subst hH1
    rw [call_eq find59 _ _ _ rfl]
    simp -implicitDefEqProofs only [v59, VMs, noRef, noRef1, isRef, List.all_cons, List.all_nil, vop, VOp.still, VOp.app, VOp.plain, allP, lof, evs, start, asI, vbin, vcells, ntup, setAll, vfill, vress, vres, tup, Nat.reduceEqDiff, ↓reduceIte, Nat.reduceAdd, Nat.reduceMul, Nat.reduceLeDiff, reduceCtorEq, c1, hb]
  replace h0 : dF D = 0 := Classical.byContradiction h0
  rw [h0] at c1
  by_cases hr : ¬ rF w = 0
  · have hb : (rF w != 0) = true := bne_iff_ne.2 hr
    have hC : apC D w = rF w := by unfold apC; rw [if_pos h0, if_neg hr]
    refine ⟨_, H, ?_, Or.inl ⟨by rw [hC]; exact hr, rfl, rfl⟩⟩
    rw [hC]
    subst hH1
    rw [call_eq find59 _ _ _ rfl]
    simp -implicitDefEqProofs only [v59, VMs, noRef, noRef1, isRef, List.all_cons, List.all_nil, vop, VOp.still, VOp.app, VOp.plain, allP, lof, evs, start, asI, vbin, vcells, ntup, setAll, vfill, vress, vres, tup, Nat.reduceEqDiff, ↓reduceIte, Nat.reduceAdd, Nat.reduceMul, Nat.reduceLeDiff, reduceCtorEq, c1, bne_self_eq_false, c2, hb]
  replace hr : rF w = 0 := Classical.byContradiction hr
  rw [hr] at c2
  have g := dF_zero h0
  have gw := g.w
  have gp := g.p
  obtain ⟨⟨hw1, hw8⟩, hwok⟩ := rF_zero hr
  obtain ⟨ia, X1, c3, f3, w3, r3⟩ := l1All_c (d + 1) H.length H1 pA g
  obtain ⟨sa, ps, X2, c4, f4, r4, e4⟩ := specScan_c d H.length X1 r3 (by rw [flP_len]; exact gw)
  have hu0 : (scanR (flP D.w D.p) 65 0 []).2 = uRD D := rfl
  have hk0 : ps.length = nRD D := by
    have := congrArg List.length e4
    rw [List.length_map] at this
    exact this
  have hule : uRD D ≤ 64 := by
    have := (scanR_le (flP D.w D.p) 65 0 [] (Nat.zero_le _) (fun x hx => by cases hx) (Nat.zero_le _)).1
    rw [flP_len, gw] at this; exact this
  rw [hu0, hk0] at c4
  obtain ⟨u, hu⟩ : ∃ u, u = uRD D := ⟨_, rfl⟩
  rw [← hu] at c4 hule
  have F2 : Fn H1 X2 := f3.trans f4
  have l2 := F2.len
  have q1 : rd X2 ⟨H.length, 1, none⟩ = some (.slice ap D.p.length (sg ap 2)) := by rw [F2.rd _ _ (by omega) id]; simp [rd, bB]
  have q2 : rdN X2 ⟨H.length, 0, none⟩ 2 = some [.slice aw D.w.length (sg aw 1), .slice ap D.p.length (sg ap 2)] := by rw [F2.rdN _ _ _ (by omega) id]; simp [rdN, bB]
  have wu1 : IntKind.i64.wrap ((u : Int) + 2) = ((u + 2 : Nat) : Int) := by rw [wr (by omega) (by omega)]; rfl
  have wu2 : IntKind.i64.wrap (((u + 2 : Nat) : Int) + ((w.length : Nat) : Int)) = ((u + 2 + w.length : Nat) : Int) := by rw [wr (by omega) (by omega)]; rfl
  have wp1 : IntKind.i64.wrap (((D.p.length : Nat) : Int) + 3) = ((D.p.length + 3 : Nat) : Int) := by rw [wr (by omega) (by omega)]; rfl
  have wp2 : IntKind.i64.wrap (((D.p.length + 3 : Nat) : Int) + ((w.length : Nat) : Int)) = ((D.p.length + 3 + w.length : Nat) : Int) := by rw [wr (by omega) (by omega)]; rfl
  by_cases hf : 64 < u + 2 + w.length ∨ 200 < D.p.length + 3 + w.length
  · have hC : apC D w = 8 := by unfold apC; rw [if_pos h0, if_pos hr, ← hu, if_pos hf]
    refine ⟨_, H, ?_, Or.inl ⟨by rw [hC]; decide, rfl, rfl⟩⟩
    rw [hC]
    have rX2 : X2.blk (H.length + 1) = some ⟨[.int .i64 0, .slice none 0 0, .slice none 0 0], true, false⟩ := (F2.blk _ (by omega) id).trans bR
    have g3 := fun vs hv => wr_setB (lo := H.length) rX2 (by omega) vs hv
    have g4 := fun vs hv => rdN_setB rX2 3 vs hv
    subst hH1
    rw [call_eq find59 _ _ _ rfl]
    by_cases hf1 : 64 < u + 2 + w.length
    · have t1 : decide (((u + 2 + w.length : Nat) : Int) > 64) = true := decide_eq_true (by omega)
      simp -implicitDefEqProofs only [v59, VMs, noRef, noRef1, isRef, List.all_cons, List.all_nil, vop, VOp.still, VOp.app, VOp.plain, allP, lof, evs, start, asI, vbin, vcells, ntup, setAll, vfill, vress, vres, tup, Nat.reduceEqDiff, ↓reduceIte, Nat.reduceAdd, Nat.reduceMul, Nat.reduceLeDiff, reduceCtorEq, List.getElem?_toArray, c1, bne_self_eq_false, c2, c3, c4, slen, wu1, wu2, t1, g3, g4]
    · have t1 : decide (((u + 2 + w.length : Nat) : Int) > 64) = false := decide_eq_false (by omega)
      have t2 : decide (((D.p.length + 3 + w.length : Nat) : Int) > 200) = true := decide_eq_true (by omega)
      simp -implicitDefEqProofs only [v59, VMs, noRef, noRef1, isRef, List.all_cons, List.all_nil, vop, VOp.still, VOp.app, VOp.plain, allP, lof, evs, start, asI, vbin, vcells, ntup, setAll, vfill, vress, vres, tup, Nat.reduceEqDiff, ↓reduceIte, Nat.reduceAdd, Nat.reduceMul, Nat.reduceLeDiff, reduceCtorEq, List.getElem?_toArray, c1, bne_self_eq_false, c2, c3, c4, slen, wu1, wu2, t1, q1, wp1, wp2, t2, g3, g4]
  have hC : apC D w = 0 := by unfold apC; rw [if_pos h0, if_pos hr, ← hu, if_neg hf]
  have t1 : decide (((u + 2 + w.length : Nat) : Int) > 64) = false := decide_eq_false (by omega)
  have t2 : decide (((D.p.length + 3 + w.length : Nat) : Int) > 200) = false := decide_eq_false (by omega)
  have FH2 : Fn H X2 := f1.trans F2
  obtain ⟨i, b, X3, c5, f5, r5, w5, hd5, nib⟩ := l1Copy_c (d + 2) H.length X2 (h.fn FH2) g
  have l3 := f5.len
  have hi2 := w5.1
  have hi3 := blk_lt w5.2.choose_spec.1
  have FH3 : Fn H X3 := FH2.trans f5
  obtain ⟨X4, hX4⟩ : ∃ X4 : Hp, X4 = X3 ++ [some ⟨[.slice (some ⟨i, 0, none⟩) D.w.length 1, .slice b D.p.length (sg b 2)], true, false⟩] := ⟨_, rfl⟩
  have f6 : Fn X3 X4 := hX4 ▸ Fr.app
  have l4 : X4.length = X3.length + 1 := by rw [hX4]; simp
  have b4 : X4.blk X3.length = some ⟨[.slice (some ⟨i, 0, none⟩) D.w.length 1, .slice b D.p.length (sg b 2)], true, false⟩ := by rw [hX4]; exact blk0
  have FH4 : Fn H X4 := FH3.trans f6
  have hw4 := hw.fnI FH4
  have hne : w ≠ [] := by intro e; rw [e] at hw1; simp at hw1
  have hx4 := hw4.exI hne
  have c7 := l2Sum_c (d + 1) H.length X4 ((nRD D : Nat) : Int) hw4 hx4 (by omega) (by omega)
  obtain ⟨s, hsum⟩ : ∃ s, s = sumW (((nRD D : Nat) : Int) :: w) 9 := ⟨_, rfl⟩
  rw [← hsum] at c7
  obtain ⟨X5, c8, f8, l5, b5⟩ := app_front2 (lo := H.length) [((w.length : Nat) : Int), s] (by simp) (by simp) hw4 hx4 (by omega) (by omega) FH4.len
  have F35 : Fn X3 X5 := f6.trans f8
  have R0 : X5.blk (H.length + 1) = some ⟨[.int .i64 0, .slice none 0 0, .slice none 0 0], true, false⟩ := ((F2.trans (f5.trans F35)).blk _ (by omega) id).trans bR
  have hapl := apL_len (u := u) (k := nRD D) (w := w) (by omega)
  have hpp : (apD D w).p = D.p ++ row u (apL u (nRD D) w) := by unfold apD; rw [← hu]
  have hww : (apD D w).w = D.w := rfl
  have cb5 : CB (H.length + 2) (fun j => j = i ∨ (X4.length ≤ j ∧ j < X5.length)) X5 X3.length i D.w.length b D.p := ⟨(f8.blk _ (by omega) id).trans b4, (hd5.down (by omega)).fw F35.w (fun _ _ => id), fun j hj => by
    have := hd5.lt hj
    have hnb := nib j hj
    exact ⟨by omega, fun hh => by rcases hh with e | ⟨e, _⟩; exact hnb e; omega⟩⟩
  have le3 : (H.length ≤ X3.length) = True := eq_true (by omega)
  by_cases hlt : u + 2 + w.length < 64
  · rw [if_pos hlt] at hapl
    have hal : apL u (nRD D) w = (((w.length : Nat) : Int) :: s :: w) ++ [0] := by
      unfold apL; rw [← hsum, List.take_of_length_le]; simp; omega
    have t3 : decide (((u + 2 + w.length : Nat) : Int) < 64) = true := decide_eq_true (by omega)
    obtain ⟨X6, hX6⟩ : ∃ X6 : Hp, X6 = X5 ++ [some ⟨[.int .i64 0], true, false⟩] := ⟨_, rfl⟩
    have f9 : Fn X5 X6 := hX6 ▸ Fr.app
    have l6 : X6.length = X5.length + 1 := by rw [hX6]; simp
    have b6 := (f9.blk _ (blk_lt b5) id).trans b5
    obtain ⟨X7, c10, b7, l7, f10, ho7⟩ := app_own (st := 1) (by_ := 8) (lo := H.length) (i := X4.length + 1) (n := 2 + w.length) (m := 1) (M := [.int .i64 0]) (y := .slice (some ⟨X5.length, 0, none⟩) 1 1) b6 (by rw [vI_len]; simp; omega) (fun e => by omega) (by omega) rfl (by rw [hX6]; simp [scells, rdN0]) (by omega) (fits_small (by omega))
    have fw7 : Fw (· = X4.length + 1) X5 X7 := f9.w.mono (T := (· = X4.length + 1)) (fun _ => False.elim) |>.trans ⟨by omega, fun j hj hs => ho7 j hs hj⟩
    have b7' : X7.blk X6.length = some ⟨vI (apL u (nRD D) w), true, false⟩ := by
      rw [b7, hal]; simp [vI]
    have cb7 : CB (H.length + 2) (fun j => j = i ∨ (X4.length ≤ j ∧ j < X7.length)) X7 X3.length i D.w.length b D.p := ⟨(cb5.fw fw7 (fun j e => ⟨by omega, fun hh => (cb5.nq _ hh).2 (Or.inr (by omega))⟩)).c, (cb5.fw fw7 (fun j e => ⟨by omega, fun hh => (cb5.nq _ hh).2 (Or.inr (by omega))⟩)).hd, fun j hj => by
      have := hd5.lt hj
      have hnb := nib j hj
      exact ⟨by omega, fun hh => by rcases hh with e | ⟨e, _⟩; exact hnb e; omega⟩⟩
    obtain ⟨_, hl, X, q, rfl, cbX, fwX⟩ := specApp_loop (d + 3) H.length (R := H.length + 1) (u := u) cb7 (by omega) (by omega) (by omega) b7' (Or.inr ⟨by omega, by omega⟩) (by omega) (by rw [hapl]; omega) (by rw [hapl]; omega) (fun j hj hh => by rcases hh with e | ⟨_, e⟩; omega; omega)
    have hlen7 : (apL u (nRD D) w).length = 2 + w.length + 1 := by rw [hapl]; omega
    rw [hlen7] at hl
    have hi5 : i < X5.length := by omega
    have r7 := (r5.fr (fun _ _ => id) F35).fwI fw7 (fun j hj => by rw [hj.eq]; omega)
    have w7 := fw7.wb ((w5.fn _ F35).lo (show H.length ≤ X2.length by omega)) (by omega)
    have R7 := (fw7.blk _ (blk_lt R0) (by omega)).trans R0
    have F7 : Fn H X7 := fw7.fn (FH3.trans F35) (fun j e => by omega)
    obtain ⟨k1, RX, ar⟩ := CB.done fwX F7 (by omega) (Or.inl rfl) (by omega) R7 r7 w7 (by omega) cbX
    rw [← hpp] at k1 ar
    have g3 := fun vs hv => wr_setB (lo := H.length) RX (by omega) vs hv
    have g4 := fun vs hv => rdN_setB RX 3 vs hv
    refine ⟨_, _, ?_, Or.inr ⟨hC, i, q, rfl, ar⟩⟩
    subst hX6
    subst hX4
    subst hH1
    simp only [vI, List.map_cons, List.map_nil, List.append_assoc, List.cons_append, List.nil_append, List.length_append, List.length_cons, List.length_nil, Nat.zero_add, Nat.reduceAdd, sgs] at c7 c8 c10 hl
    rw [call_eq find59 _ _ _ rfl]
    simp -implicitDefEqProofs only [v59, VMs, noRef, noRef1, isRef, List.all_cons, List.all_nil, vop, VOp.still, VOp.app, VOp.plain, allP, lof, evs, start, asI, vbin, vcells, ntup, setAll, vfill, vress, vres, tup, Nat.reduceEqDiff, ↓reduceIte, Nat.reduceAdd, Nat.reduceMul, Nat.reduceLeDiff, reduceCtorEq, List.getElem?_toArray, c1, bne_self_eq_false, c2, c3, c4, slen, wu1, wu2, t1, q1, wp1, wp2, t2, q2, c5, hk0, c7, h10, h20, c8, t3, c10, vlp, hl, k1, g3, g4, le3, hww]
  · rw [if_neg hlt] at hapl
    have hal : apL u (nRD D) w = (((w.length : Nat) : Int) :: s :: w) := by
      unfold apL; rw [← hsum, List.take_left' (by simp; omega)]
    have t3 : decide (((u + 2 + w.length : Nat) : Int) < 64) = false := decide_eq_false (by omega)
    have b5' : X5.blk (X4.length + 1) = some ⟨vI (apL u (nRD D) w), true, false⟩ := by rw [b5, hal]; rfl
    obtain ⟨_, hl, X, q, rfl, cbX, fwX⟩ := specApp_loop (d + 3) H.length (R := H.length + 1) (u := u) cb5 (by omega) (by omega) (by omega) b5' (Or.inr ⟨by omega, by omega⟩) (by omega) (by rw [hapl]; omega) (by rw [hapl]; omega) (fun j hj hh => by rcases hh with e | ⟨_, e⟩; omega; omega)
    have hlen7 : (apL u (nRD D) w).length = 2 + w.length := by rw [hapl]; omega
    rw [hlen7] at hl
    obtain ⟨k1, RX, ar⟩ := CB.done fwX (FH3.trans F35) (by omega) (Or.inl rfl) (by omega) R0 (r5.fr (fun _ _ => id) F35) ((w5.fn _ F35).lo (show H.length ≤ X2.length by omega)) (by omega) cbX
    rw [← hpp] at k1 ar
    have g3 := fun vs hv => wr_setB (lo := H.length) RX (by omega) vs hv
    have g4 := fun vs hv => rdN_setB RX 3 vs hv
    refine ⟨_, _, ?_, Or.inr ⟨hC, i, q, rfl, ar⟩⟩
    subst hX4
    subst hH1
    simp only [vI, List.map_cons, List.map_nil, List.append_assoc, List.cons_append, List.nil_append, List.length_append, List.length_cons, List.length_nil, Nat.zero_add, Nat.reduceAdd, sgs] at c7 c8 hl
    rw [call_eq find59 _ _ _ rfl]
    simp -implicitDefEqProofs only [v59, VMs, noRef, noRef1, isRef, List.all_cons, List.all_nil, vop, VOp.still, VOp.app, VOp.plain, allP, lof, evs, start, asI, vbin, vcells, ntup, setAll, vfill, vress, vres, tup, Nat.reduceEqDiff, ↓reduceIte, Nat.reduceAdd, Nat.reduceMul, Nat.reduceLeDiff, reduceCtorEq, List.getElem?_toArray, c1, bne_self_eq_false, c2, c3, c4, slen, wu1, wu2, t1, q1, wp1, wp2, t2, q2, c5, hk0, c7, h10, h20, c8, t3, vlp, hl, k1, g3, g4, le3, hww]
end Go.Proofs.Ytaahjfjpbilfnaa.V
