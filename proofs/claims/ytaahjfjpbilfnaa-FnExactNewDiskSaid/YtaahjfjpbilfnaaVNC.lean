/- NewDisk: the program's and the reference's. -/
import Derived.Test.YtaahjfjpbilfnaaVNB
namespace Go.Proofs.Ytaahjfjpbilfnaa.V
open Go
set_option linter.unusedVariables false
set_option linter.unusedSimpArgs false
set_option maxRecDepth 100000
theorem h10 : ((1 : Nat) == 0) = false := rfl
theorem h20 : ((2 : Nat) == 0) = false := rfl
/-- The words, and zeros up to the sectors' number. -/
def newDk (w : List Int) : Dk := ⟨w ++ List.replicate (64 - w.length) 0, []⟩
def resND (w : List Int) : Int × Dk := if dF (newDk w) = 0 then (0, newDk w) else (dF (newDk w), ⟨[], []⟩)
theorem newDk_len (w : List Int) : (newDk w).w.length = w.length + (64 - w.length) := by simp [newDk]
theorem newDk_sd {w : List Int} (h : w.length ≤ 1048576) : SD (newDk w) := ⟨by rw [newDk_len]; unfold Sm; omega, by simp [newDk, Sm]⟩
theorem resND_sd {w : List Int} (h : w.length ≤ 1048576) : SD (resND w).2 := by
  unfold resND
  split
  · exact newDk_sd h
  · exact ⟨by simp [Sm], by simp [Sm]⟩
theorem resND_km {w : List Int} (h : w.length ≤ 1048576) : Km (1 + sD (resND w).2) := by
  unfold resND
  split
  · simp only; unfold sD; rw [newDk_len]; simp only [newDk, List.length_nil]; unfold Km; omega
  · simp [sD, Km]
set_option maxHeartbeats 2000000 in
theorem implNewDisk_c (d lo : Nat) (H : Hp) {a : Option Addr} {w : List Int} (h : Rep EI 1 H a w.length w) (hn : w.length ≤ 1048576) :
    ∃ v H', vcall env (d + 8) 31 [.slice a w.length (sg a 1)] lo H = some (v, H') ∧ NewDR H H' v (resND w).1 (resND w).2 := by
  obtain ⟨r, hr⟩ : ∃ r : Nat, r = 64 - w.length := ⟨_, rfl⟩
  have hlr : (List.replicate r (0 : Int)).length = r := List.length_replicate
  have hw8 : IntKind.i64.wrap ((64 : Int) - ((w.length : Nat) : Int)) = (64 : Int) - ((w.length : Nat) : Int) := wr (by omega) (by omega)
  have hmx : (if (64 : Int) - ((w.length : Nat) : Int) > 0 then (64 : Int) - ((w.length : Nat) : Int) else 0) = ((r : Nat) : Int) := by split <;> omega
  have m1 : (((8 : Nat) : Int) * (r : Int) ≤ 281474976710656) = True := eq_true (by omega)
  have m2 : ((r : Int) ≤ 4611686018427387904) = True := eq_true (by omega)
  obtain ⟨H3, hH3⟩ : ∃ H3 : Hp, H3 = H ++ [some ⟨[.int .i64 0, .slice none 0 0, .slice none 0 0], true, false⟩, some ⟨vI (List.replicate r 0), true, ((r : Nat) : Int) == 0⟩, some ⟨[.slice a w.length (sg a 1), .slice (some ⟨H.length + 1, 0, none⟩) r 1], true, false⟩] := ⟨_, rfl⟩
  have f3 : Fn H H3 := hH3 ▸ Fr.app
  have l3 : H3.length = H.length + 3 := by rw [hH3]; simp
  have bR : H3.blk H.length = some ⟨[.int .i64 0, .slice none 0 0, .slice none 0 0], true, false⟩ := by rw [hH3]; exact blk0
  have bZ : H3.blk (H.length + 1) = some ⟨vI (List.replicate r 0), true, ((r : Nat) : Int) == 0⟩ := by rw [hH3]; exact blkn 1
  have bP : H3.blk (H.length + 2) = some ⟨[.slice a w.length (sg a 1), .slice (some ⟨H.length + 1, 0, none⟩) r 1], true, false⟩ := by rw [hH3]; exact blkn 2
  have rZ : Rep EI 1 H3 (some ⟨H.length + 1, 0, none⟩) (List.replicate r (0 : Int)).length (List.replicate r 0) := vI_rep bZ rfl
  obtain ⟨i, H4, c4, f4, i4, b4⟩ := concat_c (d + 5) H.length H3 (q := H.length + 2) (a := a) (b := some ⟨H.length + 1, 0, none⟩) (la := w) (lb := List.replicate r 0) (by rw [bP, hlr]; rfl) (h.fnI f3) rZ (by rw [hlr]; omega) (by rw [hlr]; omega)
  have hD : newDk w = ⟨w ++ List.replicate r 0, []⟩ := by rw [hr]; rfl
  have sdD := newDk_sd hn
  generalize hW : w ++ List.replicate r 0 = W at *
  obtain ⟨H5, hH5⟩ : ∃ H5 : Hp, H5 = H4 ++ [some ⟨[.slice (some ⟨i, 0, none⟩) W.length 1, .slice none 0 0], true, false⟩] := ⟨_, rfl⟩
  have f5 : Fn H4 H5 := hH5 ▸ Fr.app
  have l4 := f4.len
  have hle4 : (H.length ≤ H4.length) = True := eq_true (by omega)
  have b5 : H5.blk i = some ⟨vI W, true, false⟩ := (f5.blk _ (blk_lt b4) id).trans b4
  have rD : RD H5 (some ⟨i, 0, none⟩) W.length none 0 (newDk w) := by rw [hD]; exact ⟨vI_rep b5 rfl, Rep.nil⟩
  have c6 := implDiskFault_c d H.length H5 rD sdD
  simp only [sgs, sgn] at c6
  have bR5 : H5.blk H.length = some ⟨[.int .i64 0, .slice none 0 0, .slice none 0 0], true, false⟩ := ((f4.trans f5).blk _ (by omega) id).trans bR
  have g3 := fun vs hv => wr_setB (lo := H.length) bR5 (Nat.le_refl _) vs hv
  have g4 := fun vs hv => rdN_setB bR5 3 vs hv
  have F5 : Fn H H5 := f3.trans (f4.trans f5)
  unfold resND
  by_cases h0 : dF (newDk w) = 0
  · rw [if_pos h0]
    have hN := NewDR.words (H := H) (H' := setB H5 H.length [.int .i64 0, .slice (some ⟨i, 0, none⟩) W.length 1, .slice none 0 0]) (i := i) (w := W) (k0 := false) (Fn.setB F5 (Nat.le_refl _) bR5 _) (by omega) (by rw [blk_setB bR5, if_neg (by omega)]; exact b5)
    rw [← hD] at hN
    refine ⟨_, _, ?_, hN.done⟩
    subst hH5 hH3
    rw [h0] at c6
    rw [call_eq find31 _ _ _ rfl]
    simp -implicitDefEqProofs only [v31, VMs, vop, VOp.still, VOp.app, VOp.plain, allP, lof, evs, start, asI, vbin, vcells, ntup, setAll, vfill, vress, vres, tup, Nat.reduceEqDiff, ↓reduceIte, Nat.reduceAdd, Nat.reduceMul, Nat.reduceLeDiff, reduceCtorEq, slen, h20, hw8, hmx, m1, m2, ge0, Int.toNat_natCast, zI_flat, sgs, c4, hle4, c6, bne_self_eq_false, g3, g4]
  · rw [if_neg h0]
    have hb : (dF (newDk w) != 0) = true := bne_iff_ne.2 h0
    refine ⟨_, _, ?_, NewDR.nil H _⟩
    subst hH5 hH3
    rw [call_eq find31 _ _ _ rfl]
    simp -implicitDefEqProofs only [v31, VMs, noRef, noRef1, isRef, List.all_cons, List.all_nil, vop, VOp.still, VOp.app, VOp.plain, allP, lof, evs, start, asI, vbin, vcells, ntup, setAll, vfill, vress, vres, tup, Nat.reduceEqDiff, ↓reduceIte, Nat.reduceAdd, Nat.reduceMul, Nat.reduceLeDiff, reduceCtorEq, slen, h20, hw8, hmx, m1, m2, ge0, Int.toNat_natCast, zI_flat, sgs, c4, hle4, c6, hb, g3, g4]
/-- Numbers, put behind an empty slice: a copy. -/
theorem clone2 {lo : Nat} {H : Hp} {a : Option Addr} {l : List Int} (h : Rep EI 1 H a l.length l) (hlo : lo ≤ H.length) (hn : l.length ≤ 4194304) {q : Nat} (hq : H.blk q = some ⟨[], true, true⟩) (hlq : lo ≤ q) :
    ∃ i H2, vappend 1 8 lo H (.slice (some ⟨q, 0, none⟩) 0 1) (.slice a l.length (sg a 1)) = some (.slice (some ⟨i, 0, none⟩) l.length 1, H2) ∧ Fn H H2 ∧ NI q H2 i l ∧ i < H2.length := by
  have hc := h.cells
  have hl := blk_lt hq
  by_cases h0 : l = []
  · subst h0
    refine ⟨q, H, ?_, Fr.refl, ⟨⟨true, hq, fun _ => rfl⟩, Nat.le_refl _⟩, hl⟩
    simp only [List.length_nil] at hc
    simp only [vappend, slen, List.length_nil, hc, Option.bind_some, hq]
    rw [if_pos ⟨trivial, trivial, trivial, by simp, rfl, fits8 (by omega)⟩]
    rfl
  · have h1 : 0 < l.length := List.length_pos_iff.2 h0
    obtain ⟨H2, ha, hb2, hl2, hf2, _⟩ := app_own (st := 1) (by_ := 8) (lo := lo) (i := q) (n := 0) (m := l.length) (L := []) (M := vI l) (y := .slice a l.length (sg a 1)) hq rfl (fun _ => rfl) hlq rfl hc h1 (fits8 (by omega))
    simp only [Nat.zero_add] at ha
    refine ⟨H.length, H2, ha, ?_, ⟨⟨false, hb2, fun e => absurd e h0⟩, by omega⟩, by omega⟩
    have : H2 = H ++ [some ⟨vI l, true, false⟩] := by
      simp only [vappend, slen, hc, Option.bind_some, hq] at ha
      rw [if_pos ⟨trivial, trivial, trivial, by simp, rfl, fits8 (by omega)⟩, if_neg (by omega)] at ha
      simp only [if_true] at ha
      cases ha; rfl
    rw [this]; exact Fr.app
set_option maxHeartbeats 2000000 in
theorem specNewDisk_c (d lo : Nat) (H : Hp) {a : Option Addr} {w : List Int} (h : Rep EI 1 H a w.length w) (hn : w.length ≤ 1048576) :
    ∃ v H', vcall env (d + 4) 32 [.slice a w.length (sg a 1)] lo H = some (v, H') ∧ NewDR H H' v (resND w).1 (resND w).2 := by
  obtain ⟨H1, hH1⟩ : ∃ H1 : Hp, H1 = H ++ [some ⟨[.int .i64 0, .slice none 0 0, .slice none 0 0], true, false⟩, some ⟨[], true, true⟩] := ⟨_, rfl⟩
  have f1 : Fn H H1 := hH1 ▸ Fr.app
  have l1 : H1.length = H.length + 2 := by rw [hH1]; simp
  have bR : H1.blk H.length = some ⟨[.int .i64 0, .slice none 0 0, .slice none 0 0], true, false⟩ := by rw [hH1]; exact blk0
  have bE : H1.blk (H.length + 1) = some ⟨[], true, true⟩ := by rw [hH1]; exact blkn 1
  obtain ⟨i, H2, c2, f2, ni, hi2⟩ := clone2 (lo := H.length) (h.fnI f1) (by omega) (by omega) bE (by omega)
  have l2 := f2.len
  have hle2 : (H.length ≤ H2.length) = True := eq_true (by omega)
  obtain ⟨H3, hH3⟩ : ∃ H3 : Hp, H3 = H2 ++ [some ⟨[.slice (some ⟨i, 0, none⟩) w.length 1, .slice none 0 0], true, false⟩] := ⟨_, rfl⟩
  have f3 : Fn H2 H3 := hH3 ▸ Fr.app
  have b3 : H3.blk H2.length = some ⟨[.slice (some ⟨i, 0, none⟩) w.length 1, .slice none 0 0], true, false⟩ := by rw [hH3]; exact blk0
  obtain ⟨Q, hQ⟩ : ∃ Q : Nat, Q = H2.length := ⟨_, rfl⟩
  have hloop : ∃ r, lim (rnd (vcall env (d + 3)) H.length [2, 3] [2, 3] l32_0) [(2, .pointer (some ⟨H.length, 0, none⟩)), (3, .pointer (some ⟨Q, 0, none⟩))] H3 = some r ∧
      ∃ X j, r = (.exit 0, [(2, .pointer (some ⟨H.length, 0, none⟩)), (3, .pointer (some ⟨Q, 0, none⟩))], X) ∧ Fn H X ∧ X.blk H.length = some ⟨[.int .i64 0, .slice none 0 0, .slice none 0 0], true, false⟩ ∧
        X.blk Q = some ⟨[.slice (some ⟨j, 0, none⟩) (newDk w).w.length 1, .slice none 0 0], true, false⟩ ∧ NI (H.length + 1) X j (newDk w).w ∧ j ≠ Q := by
    refine lim_inv (fun k ts X => ∃ j, ts = [(2, .pointer (some ⟨H.length, 0, none⟩)), (3, .pointer (some ⟨Q, 0, none⟩))] ∧ Fn H X ∧ X.blk H.length = some ⟨[.int .i64 0, .slice none 0 0, .slice none 0 0], true, false⟩ ∧
        X.blk Q = some ⟨[.slice (some ⟨j, 0, none⟩) (w ++ List.replicate k 0).length 1, .slice none 0 0], true, false⟩ ∧ NI (H.length + 1) X j (w ++ List.replicate k 0) ∧ j ≠ Q) (64 - w.length) ?_ ?_ ?_
    · rintro k ts X hk ⟨j, rfl, fX, bX, qX, ⟨⟨k0, hb, hk0⟩, hj⟩, hne⟩
      have hlen : (w ++ List.replicate k (0 : Int)).length = w.length + k := by rw [List.length_append, List.length_replicate]
      have hrep : w ++ List.replicate (k + 1) (0 : Int) = (w ++ List.replicate k 0) ++ [0] := by rw [List.replicate_succ', List.append_assoc]
      rw [hrep]
      have hlt : decide ((((w ++ List.replicate k (0 : Int)).length : Nat) : Int) < 64) = true := decide_eq_true (by omega)
      generalize w ++ List.replicate k (0 : Int) = l at *
      have lX := fX.len
      obtain ⟨X1, hX1⟩ : ∃ X1 : Hp, X1 = X ++ [some ⟨[.int .i64 0], true, false⟩] := ⟨_, rfl⟩
      have fX1 : Fn X X1 := hX1 ▸ Fr.app
      have lX1 : X1.length = X.length + 1 := by rw [hX1]; simp
      have hb1 : X1.blk j = some ⟨vI l, true, k0⟩ := (fX1.blk _ (blk_lt hb) id).trans hb
      obtain ⟨X2, ha, hb2, hl2, hf2, ho2⟩ := app_own (st := 1) (by_ := 8) (lo := H.length) (i := j) (n := l.length) (m := 1) (M := [.int .i64 0]) (y := .slice (some ⟨X.length, 0, none⟩) 1 1) hb1 (by rw [vI_len, Nat.mul_one]) (fun e => hk0 (List.length_eq_zero_iff.1 e)) (by omega) rfl (by rw [hX1]; simp [scells, rdN0]) (by omega) (fits8 (by omega))
      have q2 : X2.blk Q = some ⟨[.slice (some ⟨j, 0, none⟩) l.length 1, .slice none 0 0], true, false⟩ := (ho2 Q (fun e => hne e.symm) (by have := blk_lt qX; omega)).trans ((fX1.blk _ (blk_lt qX) id).trans qX)
      have r2 : X2.blk H.length = some ⟨[.int .i64 0, .slice none 0 0, .slice none 0 0], true, false⟩ := (ho2 H.length (by omega) (by omega)).trans ((fX1.blk _ (blk_lt bX) id).trans bX)
      have hQl := blk_lt qX
      have hQ0 : H.length < Q := by omega
      have w2 := wr_at (lo := H.length) (o := 0) q2 (by omega) [.slice (some ⟨X1.length, 0, none⟩) (l.length + 1) 1] (by simp)
      have hset : setAll [Value.slice (some ⟨j, 0, none⟩) l.length 1, .slice none 0 0] 0 [.slice (some ⟨X1.length, 0, none⟩) (l.length + 1) 1] = [.slice (some ⟨X1.length, 0, none⟩) (l.length + 1) 1, .slice none 0 0] := rfl
      rw [hset] at w2
      have g0 : rd X ⟨Q, 0, none⟩ = some (.slice (some ⟨j, 0, none⟩) l.length 1) := by simp [rd, qX]
      have hle : (H.length ≤ X.length) = True := eq_true lX
      refine ⟨_, setB X2 Q [.slice (some ⟨X1.length, 0, none⟩) (l.length + 1) 1, .slice none 0 0], ?_, X1.length, rfl, Fn.setB (hf2 H (fX.trans fX1) (by omega)) (by omega) q2 _, by rw [blk_setB q2, if_neg (by omega)]; exact r2, by rw [blk_setB q2, if_pos rfl, List.length_append]; rfl, ⟨⟨false, by rw [blk_setB q2, if_neg (by omega), hb2, ← vI_app]; rfl, fun e => by simp at e⟩, by omega⟩, by omega⟩
      have g0' : rd X1 ⟨Q, 0, none⟩ = some (.slice (some ⟨j, 0, none⟩) l.length 1) := (fX1.rd _ _ hQl id).trans g0
      subst hX1
      simp only [List.length_append, List.length_cons, List.length_nil, Nat.zero_add] at ha w2
      simp -implicitDefEqProofs only [rnd, l32_0, VMs, noRef, noRef1, isRef, List.all_cons, List.all_nil, vop, VOp.still, VOp.app, VOp.plain, allP, lof, evs, start, asI, vbin, vcells, ntup, setAll, vfill, vress, vres, tup, Nat.reduceEqDiff, ↓reduceIte, Nat.reduceAdd, Nat.reduceMul, Nat.reduceLeDiff, reduceCtorEq, g0, slen, hlt, h10, ha, w2]
    · rintro ts X ⟨j, rfl, fX, bX, qX, ni, hne⟩
      have hlen : (w ++ List.replicate (64 - w.length) (0 : Int)).length = w.length + (64 - w.length) := by rw [List.length_append, List.length_replicate]
      have hlt : decide ((((w ++ List.replicate (64 - w.length) (0 : Int)).length : Nat) : Int) < 64) = false := decide_eq_false (by omega)
      have hW : w ++ List.replicate (64 - w.length) 0 = (newDk w).w := rfl
      rw [hW] at hlt qX ni
      generalize (newDk w).w = l at *
      have g0 : rd X ⟨Q, 0, none⟩ = some (.slice (some ⟨j, 0, none⟩) l.length 1) := by simp only [rd, qX, Option.bind_some, getc0]
      exact ⟨_, by simp -implicitDefEqProofs only [rnd, l32_0, VMs, noRef, noRef1, isRef, List.all_cons, List.all_nil, vop, VOp.still, VOp.app, VOp.plain, allP, lof, evs, start, asI, vbin, vcells, ntup, setAll, vfill, vress, vres, tup, Nat.reduceEqDiff, ↓reduceIte, Nat.reduceAdd, Nat.reduceMul, Nat.reduceLeDiff, reduceCtorEq, g0, slen, hlt], by simp, X, j, rfl, fX, bX, qX, ni, hne⟩
    · refine ⟨i, rfl, f1.trans (f2.trans f3), ((f2.trans f3).blk _ (by omega) id).trans bR, ?_, ?_, by omega⟩
      · rw [hQ, b3, List.replicate_zero, List.append_nil]
      · rw [List.replicate_zero, List.append_nil]
        obtain ⟨⟨k0, hb, hk⟩, hlo⟩ := ni
        exact ⟨⟨k0, (f3.blk _ (blk_lt hb) id).trans hb, hk⟩, hlo⟩
  obtain ⟨_, hl, X, j, rfl, fX, bX, qX, ⟨⟨k0, hb, hk0⟩, hj⟩, hne⟩ := hloop
  have pd : PD X Q (some ⟨j, 0, none⟩) (newDk w).w.length none 0 (newDk w) := ⟨by simp [rd, qX, sgs], by simp [rd, qX, sgn], ⟨vI_rep hb rfl, Rep.nil⟩⟩
  have c5 := l1Fault_c d H.length X pd (newDk_sd hn)
  have q5 : rdN X ⟨Q, 0, none⟩ 2 = some [.slice (some ⟨j, 0, none⟩) (newDk w).w.length 1, .slice none 0 0] := by simp [rdN, qX]
  have g3 := fun vs hv => wr_setB (lo := H.length) bX (Nat.le_refl _) vs hv
  have g4 := fun vs hv => rdN_setB bX 3 vs hv
  unfold resND
  by_cases h0 : dF (newDk w) = 0
  · rw [if_pos h0]
    have hN := NewDR.words (H := H) (H' := setB X H.length [.int .i64 0, .slice (some ⟨j, 0, none⟩) (newDk w).w.length 1, .slice none 0 0]) (i := j) (w := (newDk w).w) (k0 := k0) (Fn.setB fX (Nat.le_refl _) bX _) (by omega) (by rw [blk_setB bX, if_neg (by omega)]; exact hb)
    have hD : (⟨(newDk w).w, []⟩ : Dk) = newDk w := rfl
    rw [hD] at hN
    refine ⟨_, _, ?_, hN.done⟩
    subst hQ hH3 hH1
    rw [h0] at c5
    rw [call_eq find32 _ _ _ rfl]
    simp -implicitDefEqProofs only [v32, VMs, vop, VOp.still, VOp.app, VOp.plain, allP, lof, evs, start, asI, vbin, vcells, ntup, setAll, vfill, vress, vres, tup, Nat.reduceEqDiff, ↓reduceIte, Nat.reduceAdd, Nat.reduceMul, Nat.reduceLeDiff, reduceCtorEq, beq_self_eq_true, c2, hle2, vlp, hl, c5, bne_self_eq_false, q5, g3, g4]
  · rw [if_neg h0]
    have hb : (dF (newDk w) != 0) = true := bne_iff_ne.2 h0
    refine ⟨_, _, ?_, NewDR.nil H _⟩
    subst hQ hH3 hH1
    rw [call_eq find32 _ _ _ rfl]
    simp -implicitDefEqProofs only [v32, VMs, noRef, noRef1, isRef, List.all_cons, List.all_nil, vop, VOp.still, VOp.app, VOp.plain, allP, lof, evs, start, asI, vbin, vcells, ntup, setAll, vfill, vress, vres, tup, Nat.reduceEqDiff, ↓reduceIte, Nat.reduceAdd, Nat.reduceMul, Nat.reduceLeDiff, reduceCtorEq, beq_self_eq_true, c2, hle2, vlp, hl, c5, hb, q5, g3, g4]
end Go.Proofs.Ytaahjfjpbilfnaa.V
