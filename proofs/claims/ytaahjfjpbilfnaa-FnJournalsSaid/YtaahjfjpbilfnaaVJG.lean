/- What the bytes draw for a journal: a record, a wrong record. -/
import Derived.Test.YtaahjfjpbilfnaaVJF
namespace Go.Proofs.Ytaahjfjpbilfnaa.V
open Go
set_option linter.unusedVariables false
set_option linter.unusedSimpArgs false
set_option maxRecDepth 100000
set_option maxHeartbeats 4000000 in
theorem l2Record_c (d lo : Nat) (H0 : Hp) {q : Nat} {ac : Option Addr} {code : List Int} {k : Nat} (h : Src H0 q ac code k) (hlo : lo ≤ q) (hk : k ≤ 900000000) (hc0 : ∀ i, Ad ac i → code ≠ [] → i < H0.length) :
    ∃ i w k0 H', vcall env (d + 2) 102 [.pointer (some ⟨q, 0, none⟩)] lo H0 = some (.slice (some ⟨i, 0, none⟩) w.length 1, H') ∧ Fw (· = q) H0 H' ∧ (∃ k', k' ≤ k + 10 ∧ Src H' q ac code k') ∧ H'.blk i = some ⟨vI w, true, k0⟩ ∧ H0.length ≤ i ∧ w.length ≤ 5 ∧ (k0 = true → w = []) ∧ 1 ≤ w.length := by
  have hq0 := blk_lt h.b
  obtain ⟨H1, hH1⟩ : ∃ H1 : Hp, H1 = H0 ++ [some ⟨[], true, true⟩] := ⟨_, rfl⟩
  have f1 : Fn H0 H1 := hH1 ▸ Fr.app
  have l1 : H1.length = H0.length + 1 := by rw [hH1]; simp
  have e1 : H1.blk H0.length = some ⟨[], true, true⟩ := by rw [hH1]; exact blk0
  have s1 := h.fn f1
  have c2 := l1Next_c d lo H1 s1 hlo (by omega) 5
  obtain ⟨s2, f2, l2⟩ := s1.next (k + 1)
  obtain ⟨n1, n2⟩ := nextV_in h.y k (n := 5) (by omega)
  obtain ⟨n, hn⟩ : ∃ n : Nat, nextV code k 5 = (n : Int) := ⟨_, (Int.toNat_of_nonneg n1).symm⟩
  rw [hn] at n2 c2
  obtain ⟨H2, hH2⟩ : ∃ H2 : Hp, H2 = srcB H1 q ac code (k + 1) := ⟨_, rfl⟩
  rw [← hH2] at c2 s2 f2 l2
  have wn : IntKind.i64.wrap ((1 : Int) + (n : Int)) = ((n + 1 : Nat) : Int) := by rw [wr (by omega) (by omega)]; omega
  have e2 := (f2.blk _ (by omega) (by omega)).trans e1
  have w2 : Fw (· = q) H0 H2 := (Fw.q f1).trans f2.w
  obtain ⟨E, hE⟩ : ∃ E : Nat, E = H0.length := ⟨_, rfl⟩
  rw [← hE] at e2
  have hloop : ∃ r, lim (rnd (vcall env (d + 1)) lo [0, 3, 4] [2, 3] l102_0) [(0, .pointer (some ⟨q, 0, none⟩)), (3, .slice (some ⟨E, 0, none⟩) 0 1), (4, .int .i64 ((n + 1 : Nat) : Int))] H2 = some r ∧
      ∃ X i w k' k0, r = (.exit 0, [(3, .slice (some ⟨i, 0, none⟩) w.length 1)], X) ∧ Fw (· = q) H0 X ∧ Src X q ac code k' ∧ k' ≤ k + 10 ∧ X.blk i = some ⟨vI w, true, k0⟩ ∧ H0.length ≤ i ∧ w.length = n + 1 ∧ (k0 = true → w = []) := by
    refine lim_inv (fun j ts X => ∃ i w k' k0, ts = [(0, .pointer (some ⟨q, 0, none⟩)), (3, .slice (some ⟨i, 0, none⟩) w.length 1), (4, .int .i64 ((n + 1 - j : Nat) : Int))] ∧ Fw (· = q) H0 X ∧ Src X q ac code k' ∧ k' ≤ k + 1 + j ∧ X.blk i = some ⟨vI w, true, k0⟩ ∧ H0.length ≤ i ∧ w.length = j ∧ (k0 = true ↔ w = [])) (n + 1) ?_ ?_ ?_
    · rintro j ts X hj ⟨i, w, k', k0, rfl, fX, sX, kb, bX, hi, hwl, hk0⟩
      have hg : decide (((n + 1 - j : Nat) : Int) > 0) = true := decide_eq_true (by omega)
      have hw : IntKind.i64.wrap (((n + 1 - j : Nat) : Int) - 1) = ((n + 1 - (j + 1) : Nat) : Int) := by rw [wr (by omega) (by omega)]; omega
      have lX := fX.len
      have c6 := l1Next_c d lo X sX hlo (by omega) 99
      obtain ⟨s6, f6, l6⟩ := sX.next (k' + 1)
      have q6 : Fw (· = q) H0 (srcB X q ac code (k' + 1)) := fX.trans f6.w
      generalize srcB X q ac code (k' + 1) = X1 at *
      generalize nextV code k' 99 = x at *
      obtain ⟨X2, hX2⟩ : ∃ X2 : Hp, X2 = X1 ++ [some ⟨[.int .i64 x], true, false⟩] := ⟨_, rfl⟩
      have f2' : Fn X1 X2 := hX2 ▸ Fr.app
      have lX2 : X2.length = X1.length + 1 := by rw [hX2]; simp
      have bi : X2.blk i = some ⟨vI w, true, k0⟩ := (f2'.blk _ (by rw [l6]; exact blk_lt bX) id).trans ((f6.blk _ (blk_lt bX) (by omega)).trans bX)
      obtain ⟨X3, ha, hb3, hl3, _, ho3⟩ := app_own (st := 1) (by_ := 8) (lo := lo) (i := i) (n := w.length) (m := 1) (M := [.int .i64 x]) (y := .slice (some ⟨X1.length, 0, none⟩) 1 1) bi (by rw [vI_len, Nat.mul_one]) (fun e => hk0.2 (List.length_eq_zero_iff.1 e)) (by omega) rfl (by rw [hX2]; simp [scells, rdN0]) (by omega) (fits_small (by omega))
      have fw : Fw (· = i) X2 X3 := ⟨by omega, fun j hj hs => ho3 j hs hj⟩
      refine ⟨_, X3, ?_, X2.length, w ++ [x], k' + 1, false, by rw [List.length_append], (q6.trans (Fw.q f2')).then fw (fun j e hj => by omega), (s6.fn f2').fw fw (by omega) (fun j hj hc e => by have := hc0 j hj hc; omega), by omega, by rw [hb3]; simp [vI], by omega, by simp [hwl], by simp⟩
      subst hX2
      simp only [List.length_append, List.length_cons, List.length_nil, Nat.zero_add] at ha ⊢
      simp -implicitDefEqProofs only [rnd, l102_0, VMs, noRef, noRef1, isRef, List.all_cons, List.all_nil, vop, VOp.still, VOp.app, VOp.plain, allP, lof, evs, start, asI, vbin, vcells, ntup, setAll, vfill, vress, vres, tup, Nat.reduceEqDiff, ↓reduceIte, Nat.reduceAdd, Nat.reduceMul, Nat.reduceLeDiff, reduceCtorEq, hg, c6, h10, ha, hw]
    · rintro ts X ⟨i, w, k', k0, rfl, fX, sX, kb, bX, hi, hwl, hk0⟩
      have hg : decide (((n + 1 - (n + 1) : Nat) : Int) > 0) = false := decide_eq_false (by omega)
      exact ⟨_, by simp -implicitDefEqProofs only [rnd, l102_0, VMs, noRef, noRef1, isRef, List.all_cons, List.all_nil, vop, VOp.still, VOp.app, VOp.plain, allP, lof, evs, start, asI, vbin, vcells, ntup, setAll, vfill, vress, vres, tup, Nat.reduceEqDiff, ↓reduceIte, Nat.reduceAdd, Nat.reduceMul, Nat.reduceLeDiff, reduceCtorEq, hg], by simp, X, i, w, k', k0, rfl, fX, sX, by omega, bX, hi, hwl, hk0.1⟩
    · exact ⟨E, [], k + 1, true, by simp, w2, s2, by omega, e2, by omega, rfl, by simp⟩
  obtain ⟨_, hl, X, i, w, k', k0, rfl, fX, sX, kb, bX, hi, hwl, hk0⟩ := hloop
  refine ⟨i, w, k0, X, ?_, fX, ⟨k', kb, sX⟩, bX, hi, by omega, hk0, by omega⟩
  subst hE
  subst hH2
  subst hH1
  have q0 : ((0 : Nat) == 0) = true := rfl
  rw [call_eq find102 _ _ _ rfl]
  simp -implicitDefEqProofs only [v102, VMs, noRef, noRef1, isRef, List.all_cons, List.all_nil, vop, VOp.still, VOp.app, VOp.plain, allP, lof, evs, start, asI, vbin, vcells, ntup, setAll, vfill, vress, vres, tup, Nat.reduceEqDiff, ↓reduceIte, Nat.reduceAdd, Nat.reduceMul, Nat.reduceLeDiff, reduceCtorEq, q0, c2, wn, vlp, hl]
/-- A record that may be wrong. -/
theorem drawRecordFault_c (d lo : Nat) (H : Hp) {ac : Option Addr} {code : List Int} (hc : Rep EY 1 H ac code.length code) (hy : ∀ x ∈ code, 0 ≤ x ∧ x ≤ 255) (hn : code.length ≤ 1048576) :
    ∃ a w H', vcall env (d + 3) 103 [.slice ac code.length (sg ac 1)] lo H = some (.slice a w.length (sg a 1), H') ∧ Fn H H' ∧ Rep EI 1 H' a w.length w ∧ w.length ≤ 9 := by
  obtain ⟨H2, c2, f2, l2, s2⟩ := l1Source_c (d + 1) H.length H hc hy (by omega)
  have hc0 : ∀ i, Ad ac i → code ≠ [] → i < H2.length := fun i hi hne => by
    obtain ⟨i', o, ha, h2⟩ := hc.2 hne
    obtain ⟨o', e⟩ := hi
    rw [ha] at e; cases e
    obtain ⟨x, r, rfl⟩ := List.exists_cons_of_ne_nil hne
    have := rd_lt (h2 0 x rfl)
    omega
  obtain ⟨q, hq⟩ : ∃ q : Nat, q = H.length := ⟨_, rfl⟩
  rw [← hq] at c2 s2
  obtain ⟨i, w, k0, H3, c3, f3, ⟨k3, kb3, s3⟩, b3, hi3, hw5, hk0, hw1⟩ := l2Record_c d H.length H2 s2 (by omega) (by omega) hc0
  have l3 := f3.len
  have c4 := l1Next_c (d + 1) H.length H3 s3 (by omega) (by omega) 6
  obtain ⟨s4, f4, l4⟩ := s3.next (k3 + 1)
  have b4 : (srcB H3 q ac code (k3 + 1)).blk i = some ⟨vI w, true, k0⟩ := (f4.blk _ (blk_lt b3) (by omega)).trans b3
  have F4 : Fn H (srcB H3 q ac code (k3 + 1)) := (f3.trans f4.w).fn f2 (fun j e => by omega)
  generalize srcB H3 q ac code (k3 + 1) = H4 at *
  generalize nextV code k3 6 = sw at *
  have r4 : Rep EI 1 H4 (some ⟨i, 0, none⟩) w.length w := vI_rep b4 rfl
  by_cases v0 : sw = 0
  · have hv0 : (sw == 0) = true := beq_iff_eq.2 v0
    obtain ⟨H5, hH5⟩ : ∃ H5 : Hp, H5 = H4 ++ [some ⟨vI [-1, 65536], true, false⟩] := ⟨_, rfl⟩
    have f5 : Fn H4 H5 := hH5 ▸ Fr.app
    have b5 : H5.blk H4.length = some ⟨vI [-1, 65536], true, false⟩ := by rw [hH5]; exact blk0
    have s5 := s4.fn f5
    have lq := blk_lt s4.b
    have c6 := l1Pick_c d H.length H5 s5 (by omega) (by omega) (al := some ⟨H4.length, 0, none⟩) (L := [-1, 65536]) (vI_rep b5 rfl) (by simp) (fun j hj => by have := hj.eq; omega)
    obtain ⟨s6, f6, l6⟩ := s5.next (k3 + 1 + 1)
    have b6 : (srcB H5 q ac code (k3 + 1 + 1)).blk i = some ⟨vI w, true, k0⟩ := (f6.blk _ (by rw [hH5]; simp; have := blk_lt b4; omega) (by omega)).trans ((f5.blk _ (blk_lt b4) id).trans b4)
    have F6 : Fn H (srcB H5 q ac code (k3 + 1 + 1)) := f6.w.fn (F4.trans f5) (fun j e => by omega)
    generalize srcB H5 q ac code (k3 + 1 + 1) = H6 at *
    generalize pickV code (k3 + 1) [-1, 65536] = pv at *
    have k00 : k0 = false := by cases k0; rfl; have := hk0 rfl; rw [this] at hw1; simp at hw1
    subst k00
    have w7 := wr_at (lo := H.length) (o := 0) b6 (by omega) [.int .i64 pv] (by rw [vI_len]; simp; omega)
    have hset : setAll (vI w) 0 [Value.int .i64 pv] = vI (w.set 0 pv) := by rw [← vI_set]; rfl
    rw [hset] at w7
    have ff := Fr.setB b6 (vI (w.set 0 pv))
    have b7 : (setB H6 i (vI (w.set 0 pv))).blk i = some ⟨vI (w.set 0 pv), true, false⟩ := by rw [blk_setB b6, if_pos rfl]
    have hls : (w.set 0 pv).length = w.length := by simp
    refine ⟨some ⟨i, 0, none⟩, w.set 0 pv, setB H6 i (vI (w.set 0 pv)), ?_, ff.w.fn F6 (fun j e => by omega), vI_rep b7 rfl, by rw [hls]; omega⟩
    have hlt : ((0 : Int) < ((w.length : Nat) : Int)) = True := eq_true (by omega)
    have hle0 : ((0 : Int) ≤ 0) = True := eq_true (by omega)
    have t0 : ((0 : Int)).toNat = 0 := rfl
    rw [hls]
    subst hH5
    subst hq
    simp only [vI, List.map_cons, List.map_nil, List.length_cons, List.length_nil, Nat.zero_add, Nat.reduceAdd, sgs] at c6
    rw [call_eq find103 _ _ _ rfl]
    simp -implicitDefEqProofs only [v103, VMs, noRef, noRef1, isRef, List.all_cons, List.all_nil, vop, VOp.still, VOp.app, VOp.plain, allP, lof, evs, start, asI, vbin, vcells, ntup, setAll, vfill, vress, vres, tup, Nat.reduceEqDiff, ↓reduceIte, Nat.reduceAdd, Nat.reduceMul, Nat.reduceLeDiff, reduceCtorEq, c2, c3, c4, hv0, h20, c6, hlt, hle0, t0, Nat.zero_mul, w7]
  have hv0 : (sw == 0) = false := beq_eq_false_iff_ne.2 v0
  by_cases v1 : sw = 1
  · have hv1 : (sw == 1) = true := beq_iff_eq.2 v1
    refine ⟨none, [], H, ?_, Fr.refl, Rep.nil, by simp⟩
    subst hq
    rw [call_eq find103 _ _ _ rfl]
    simp -implicitDefEqProofs only [v103, VMs, noRef, noRef1, isRef, List.all_cons, List.all_nil, vop, VOp.still, VOp.app, VOp.plain, allP, lof, evs, start, asI, vbin, vcells, ntup, setAll, vfill, vress, vres, tup, Nat.reduceEqDiff, ↓reduceIte, Nat.reduceAdd, Nat.reduceMul, Nat.reduceLeDiff, reduceCtorEq, c2, c3, c4, hv0, hv1, List.length_nil]
  have hv1 : (sw == 1) = false := beq_eq_false_iff_ne.2 v1
  by_cases v2 : sw = 2
  · have hv2 : (sw == 2) = true := beq_iff_eq.2 v2
    have z : (List.replicate 9 [Value.int .i64 0]).flatten = vI (List.replicate 9 0) := zI_flat 9
    have m1 : (((8 : Nat) : Int) * 9 ≤ 281474976710656) = True := eq_true (by omega)
    have m2 : ((9 : Int) ≤ 4611686018427387904) = True := eq_true (by omega)
    have m3 : ((0 : Int) ≤ 9) = True := eq_true (by omega)
    have m4 : ((9 : Int) == 0) = false := rfl
    have m5 : ((9 : Int)).toNat = 9 := rfl
    have hl9 : (List.replicate 9 (0 : Int)).length = 9 := by simp
    have bb : Hp.blk (H4 ++ [some ⟨vI (List.replicate 9 0), true, false⟩]) H4.length = some ⟨vI (List.replicate 9 0), true, false⟩ := blk0
    have rr := vI_rep bb rfl
    refine ⟨some ⟨H4.length, 0, none⟩, List.replicate 9 0, H4 ++ [some ⟨vI (List.replicate 9 0), true, false⟩], ?_, F4.trans Fr.app, rr, by simp⟩
    rw [hl9]
    subst hq
    rw [call_eq find103 _ _ _ rfl]
    simp -implicitDefEqProofs only [v103, VMs, noRef, noRef1, isRef, List.all_cons, List.all_nil, vop, VOp.still, VOp.app, VOp.plain, allP, lof, evs, start, asI, vbin, vcells, ntup, setAll, vfill, vress, vres, tup, Nat.reduceEqDiff, ↓reduceIte, Nat.reduceAdd, Nat.reduceMul, Nat.reduceLeDiff, reduceCtorEq, c2, c3, c4, hv0, hv1, hv2, m1, m2, m3, m4, m5, z]
  have hv2 : (sw == 2) = false := beq_eq_false_iff_ne.2 v2
  refine ⟨some ⟨i, 0, none⟩, w, H4, ?_, F4, r4, by omega⟩
  subst hq
  rw [call_eq find103 _ _ _ rfl]
  simp -implicitDefEqProofs only [v103, VMs, noRef, noRef1, isRef, List.all_cons, List.all_nil, vop, VOp.still, VOp.app, VOp.plain, allP, lof, evs, start, asI, vbin, vcells, ntup, setAll, vfill, vress, vres, tup, Nat.reduceEqDiff, ↓reduceIte, Nat.reduceAdd, Nat.reduceMul, Nat.reduceLeDiff, reduceCtorEq, c2, c3, c4, hv0, hv1, hv2]
end Go.Proofs.Ytaahjfjpbilfnaa.V
