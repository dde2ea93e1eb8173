/- NewDisk: the program's and the reference's. -/
import Derived.Test.YtaahjfjpbilfnaaVNB
namespace Go.Proofs.Ytaahjfjpbilfnaa.V
open Go
set_option linter.unusedVariables false
set_option linter.unusedSimpArgs false
set_option maxRecDepth 100000
theorem h10 : ((1 : Nat) == 0) = false := rfl
theorem h20 : ((2 : Nat) == 0) = false := rfl
/-- The words, and zeros up to the sectors' number. -/
def newDk (w : List Int) : Dk := ⟨w ++ List.replicate (64 - w.length) 0, []⟩
def resND (w : List Int) : Int × Dk := if dF (newDk w) = 0 then (0, newDk w) else (dF (newDk w), ⟨[], []⟩)
theorem newDk_len (w : List Int) : (newDk w).w.length = w.length + (64 - w.length) := by simp [newDk]
theorem newDk_sd {w : List Int} (h : w.length ≤ 1048576) : SD (newDk w) := ⟨by rw [newDk_len]; unfold Sm; omega, by simp [newDk, Sm]⟩
theorem resND_sd {w : List Int} (h : w.length ≤ 1048576) : SD (resND w).2 := by
  unfold resND
  split
  · exact newDk_sd h
  · exact ⟨by simp [Sm], by simp [Sm]⟩
theorem resND_km {w : List Int} (h : w.length ≤ 1048576) : Km (1 + sD (resND w).2) := by
  unfold resND
  split
  · simp only; unfold sD; rw [newDk_len]; simp only [newDk, List.length_nil]; unfold Km; omega
  · simp [sD, Km]
set_option maxHeartbeats 2000000 in
theorem implNewDisk_c (d lo : Nat) (H : Hp) {a : Option Addr} {w : List Int} (h : Rep EI 1 H a w.length w) (hn : w.length ≤ 1048576) :
    ∃ v H', vcall env (d + 8) 31 [.slice a w.length (sg a 1)] lo H = some (v, H') ∧ NewDR H H' v (resND w).1 (resND w).2 := by
  obtain ⟨r, hr⟩ : ∃ r : Nat, r = 64 - w.length := ⟨_, rfl⟩
  have hlr : (List.replicate r (0 : Int)).length = r := List.length_replicate
  have hw8 : IntKind.i64.wrap ((64 : Int) - ((w.length : Nat) : Int)) = (64 : Int) - ((w.length : Nat) : Int) := wr (by omega) (by omega)
  have hmx : (if (64 : Int) - ((w.length : Nat) : Int) > 0 then (64 : Int) - ((w.length : Nat) : Int) else 0) = ((r : Nat) : Int) := by split <;> omega
  have m1 : (((8 : Nat) : Int) * (r : Int) ≤ 281474976710656) = True := eq_true (by omega)
  have m2 : ((r : Int) ≤ 4611686018427387904) = True := eq_true (by omega)
  obtain ⟨H3, hH3⟩ : ∃ H3 : Hp, H3 = H ++ [some ⟨[.int .i64 0, .slice none 0 0, .slice none 0 0], true, false⟩, some ⟨vI (List.replicate r 0), true, ((r : Nat) : Int) == 0⟩, some ⟨[.slice a w.length (sg a 1), .slice (some ⟨H.length + 1, 0, none⟩) r 1], true, false⟩] := ⟨_, rfl⟩
  have f3 : Fn H H3 := hH3 ▸ Fr.app
  have l3 : H3.length = H.length + 3 := by rw [hH3]; simp
  have bR : H3.blk H.length = some ⟨[.int .i64 0, .slice none 0 0, .slice none 0 0], true, false⟩ := by rw [hH3]; exact blk0
  have bZ : H3.blk (H.length + 1) = some ⟨vI (List.replicate r 0), true, ((r : Nat) : Int) == 0⟩ := by rw [hH3]; exact blkn 1
  have bP : H3.blk (H.length + 2) = some ⟨[.slice a w.length (sg a 1), .slice (some ⟨H.length + 1, 0, none⟩) r 1], true, false⟩ := by rw [hH3]; exact blkn 2
  have rZ : Rep EI 1 H3 (some ⟨H.length + 1, 0, none⟩) (List.replicate r (0 : Int)).length (List.replicate r 0) := vI_rep bZ rfl
  obtain ⟨i, H4, c4, f4, i4, b4⟩ := concat_c (d + 5) H.length H3 (q := H.length + 2) (a := a) (b := some ⟨H.length + 1, 0, none⟩) (la := w) (lb := List.replicate r 0) (by rw [bP, hlr]; rfl) (h.fnI f3) rZ (by rw [hlr]; omega) (by rw [hlr]; omega)
  have hD : newDk w = ⟨w ++ List.replicate r 0, []⟩ := by rw [hr]; rfl
  have sdD := newDk_sd hn
  generalize hW : w ++ List.replicate r 0 = W at *
  obtain ⟨H5, hH5⟩ : ∃ H5 : Hp, H5 = H4 ++ [some ⟨[.slice (some ⟨i, 0, none⟩) W.length 1, .slice none 0 0], true, false⟩] := ⟨_, rfl⟩
  have f5 : Fn H4 H5 := hH5 ▸ Fr.app
  have l4 := f4.len
  have hle4 : (H.length ≤ H4.length) = True := eq_true (by omega)
  have b5 : H5.blk i = some ⟨vI W, true, false⟩ := (f5.blk _ (blk_lt b4) id).trans b4
  have rD : RD H5 (some ⟨i, 0, none⟩) W.length none 0 (newDk w) := by rw [hD]; exact ⟨vI_rep b5 rfl, Rep.nil⟩
  have c6 := implDiskFault_c d H.length H5 rD sdD
  simp only [sgs, sgn] at c6
  have bR5 : H5.blk H.length = some ⟨[.int .i64 0, .slice none 0 0, .slice none 0 0], true, false⟩ := ((f4.trans f5).blk _ (by omega) id).trans bR
  have g3 := fun vs hv => wr_setB (lo := H.length) bR5 (Nat.le_refl _) vs hv
  have g4 := fun vs hv => rdN_setB bR5 3 vs hv
  have F5 : Fn H H5 := f3.trans (f4.trans f5)
  unfold resND
  by_cases h0 : dF (newDk w) = 0
  · rw [if_pos h0]
    have hN := NewDR.words (H := H) (H' := setB H5 H.length [.int .i64 0, .slice (some ⟨i, 0, none⟩) W.length 1, .slice none 0 0]) (i := i) (w := W) (k0 := false) (Fn.setB F5 (Nat.le_refl _) bR5 _) (by omega) (by rw [blk_setB bR5, if_neg (by omega)]; exact b5)
    rw [← hD] at hN
    refine ⟨_, _, ?_, hN.done⟩
    subst hH5 hH3
    rw [h0] at c6
    rw [call_eq find31 _ _ _ rfl]
    simp -implicitDefEqProofs only [v31, VMs, vop, VOp.still, VOp.app, VOp.plain, allP, lof, evs, start, asI, vbin, vcells, ntup, setAll, vfill, vress, vres, tup, Nat.reduceEqDiff, ↓reduceIte, Nat.reduceAdd, Nat.reduceMul, Nat.reduceLeDiff, reduceCtorEq, slen, h20, hw8, hmx, m1, m2, ge0, Int.toNat_natCast, zI_flat, sgs, c4, hle4, c6, bne_self_eq_false, g3, g4]
  · rw [if_neg h0]
    have hb : (dF (newDk w) != 0) = true := bne_iff_ne.2 h0
    refine ⟨_, _, ?_, NewDR.nil H _⟩
    subst hH5 hH3
    rw [call_eq find31 _ _ _ rfl]
    simp -implicitDefEqProofs only [v31, VMs, noRef, noRef1, isRef, List.all_cons, List.all_nil, vop, VOp.still, VOp.app, VOp.plain, allP, lof, evs, start, asI, vbin, vcells, ntup, setAll, vfill, vress, vres, tup, Nat.reduceEqDiff, ↓reduceIte, Nat.reduceAdd, Nat.reduceMul, Nat.reduceLeDiff, reduceCtorEq, slen, h20, hw8, hmx, m1, m2, ge0, Int.toNat_natCast, zI_flat, sgs, c4, hle4, c6, hb, g3, g4]
/-- Numbers, put behind an empty slice: a copy. -/
theorem clone2 {lo : Nat} {H : Hp} {a : Option Addr} {l : List Int} (h : Rep EI 1 H a l.length l) (hlo : lo ≤ H.length) (hn : l.length ≤ 4194304) {q : Nat} (hq : H.blk q = some ⟨[], true, true⟩) (hlq : lo ≤ q) :
    ∃ i H2, vappend 1 8 lo H (.slice (some ⟨q, 0, none⟩) 0 1) (.slice a l.length (sg a 1)) = some (.slice (some ⟨i, 0, none⟩) l.length 1, H2) ∧ Fn H H2 ∧ NI q H2 i l ∧ i < H2.length := by
  have hc := h.cells
  have hl := blk_lt hq
  by_cases h0 : l = []
  · subst h0
    refine ⟨q, H, ?_, Fr.refl, ⟨⟨true, hq, fun _ => rfl⟩, Nat.le_refl _⟩, hl⟩
    simp only [List.length_nil] at hc
    simp only [vappend, slen, List.length_nil, hc, Option.bind_some, hq]
    rw [if_pos ⟨trivial, trivial, trivial, by simp, rfl, fits8 (by omega)⟩]
    rfl
  · have h1 : 0 < l.length := List.length_pos_iff.2 h0
    obtain ⟨H2, ha, hb2, hl2, hf2, _⟩ := app_own (st := 1) (by_ := 8) (lo := lo) (i := q) (n := 0) (m := l.length) (L := []) (M := vI l) (y := .slice a l.length (sg a 1)) hq rfl (fun _ => rfl) hlq rfl hc h1 (fits8 (by omega))
    simp only [Nat.zero_add] at ha
    refine ⟨H.length, H2, ha, ?_, ⟨⟨false, hb2, fun e => absurd e h0⟩, by omega⟩, by omega⟩
    have : H2 = H ++ [some ⟨vI l, true, false⟩] := by
      simp only [vappend, slen, hc, Option.bind_some, hq] at ha
      rw [if_pos ⟨trivial, trivial, trivial, by simp, rfl, fits8 (by omega)⟩, if_neg (by omega)] at ha
      simp only [if_true] at ha
      cases ha; rfl
    rw [this]; exact Fr.app
end Go.Proofs.Ytaahjfjpbilfnaa.V
