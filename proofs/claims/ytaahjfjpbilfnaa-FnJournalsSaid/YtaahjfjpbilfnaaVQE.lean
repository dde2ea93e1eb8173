/- FlushDisk, AllWords, WordAt, PutWord: the program's. -/
import Derived.Test.YtaahjfjpbilfnaaVQD
namespace Go.Proofs.Ytaahjfjpbilfnaa.V
open Go
set_option linter.unusedVariables false
set_option linter.unusedSimpArgs false
set_option maxRecDepth 100000
theorem flush_bad (d lo : Nat) (H : Hp) {aw nw ap np D} (h : DZ H aw nw ap np D) (h0 : dF D ≠ 0) :
    vcall env (d + 8) 27 [.agg #[.slice aw nw (sg aw 1), .slice ap np (sg ap 2)]] lo H = some (.agg #[.int .i64 (dF D), .slice none 0 0, .slice none 0 0], H) := by
  have c1 := fun l => implDiskFault_c d H.length (H ++ l) (h.d.app (l := l)) h.s
  have hb : (dF D != 0) = true := bne_iff_ne.2 h0
  rw [call_eq find27 _ _ _ rfl]
  simp -implicitDefEqProofs only [v27, VMs, noRef, noRef1, isRef, List.all_cons, List.all_nil, vop, VOp.still, VOp.app, VOp.plain, allP, lof, evs, start, asI, vbin, vcells, ntup, setAll, vfill, vress, vres, tup, Nat.reduceEqDiff, ↓reduceIte, Nat.reduceAdd, Nat.reduceMul, Nat.reduceLeDiff, reduceCtorEq, c1, hb]
theorem flush_ok (d lo : Nat) (H : Hp) {aw nw ap np D} (h : DZ H aw nw ap np D) (h0 : dF D = 0) :
    ∃ i H', vcall env (d + 8) 27 [.agg #[.slice aw nw (sg aw 1), .slice ap np (sg ap 2)]] lo H = some (.agg #[.int .i64 0, .slice (some ⟨i, 0, none⟩) 64 1, .slice none 0 0], H') ∧ Fn H H' ∧ Rep EI 1 H' (some ⟨i, 0, none⟩) 64 (flP D.w D.p) ∧ WB H.length H' i := by
  obtain ⟨H1, hH1⟩ : ∃ H1 : Hp, H1 = H ++ [some ⟨[.slice aw nw (sg aw 1), .slice ap np (sg ap 2)], true, false⟩, some ⟨[.int .i64 0, .slice none 0 0, .slice none 0 0], true, false⟩] := ⟨_, rfl⟩
  have f1 : Fn H H1 := hH1 ▸ Fr.app
  have l1 : H1.length = H.length + 2 := by rw [hH1]; simp
  have bR : H1.blk (H.length + 1) = some ⟨[.int .i64 0, .slice none 0 0, .slice none 0 0], true, false⟩ := by rw [hH1]; exact blkn 1
  have z1 := h.fn f1
  have c1 := implDiskFault_c d H.length H1 z1.d z1.s
  rw [h0] at c1
  obtain ⟨i, H2, c2, f2, w2, r2⟩ := flushed_c (d + 5) H.length H1 z1.d (dF_zero h0) z1.x
  have bR2 := (f2.blk _ (by omega) id).trans bR
  have hi := w2.1
  have g3 := fun vs hv => wr_setB (lo := H.length) bR2 (by omega) vs hv
  have g4 := fun vs hv => rdN_setB bR2 3 vs hv
  have ff := Fr.setB bR2 [.int .i64 0, .slice (some ⟨i, 0, none⟩) 64 1, .slice none 0 0]
  refine ⟨i, setB H2 (H.length + 1) [.int .i64 0, .slice (some ⟨i, 0, none⟩) 64 1, .slice none 0 0], ?_, Fn.setB (f1.trans f2) (by omega) bR2 _, r2.fr (fun j hj e => by have := hj.eq; omega) ff, (w2.lo (by omega)).fn _ ff⟩
  subst hH1
  rw [call_eq find27 _ _ _ rfl]
  simp -implicitDefEqProofs only [v27, VMs, noRef, noRef1, isRef, List.all_cons, List.all_nil, vop, VOp.still, VOp.app, VOp.plain, allP, lof, evs, start, asI, vbin, vcells, ntup, setAll, vfill, vress, vres, tup, Nat.reduceEqDiff, ↓reduceIte, Nat.reduceAdd, Nat.reduceMul, Nat.reduceLeDiff, reduceCtorEq, c1, bne_self_eq_false, c2, g3, g4]
theorem allWords_c (d lo : Nat) (H : Hp) {aw nw ap np D} (h : DZ H aw nw ap np D) (h0 : dF D = 0) :
    ∃ i H', vcall env (d + 8) 28 [.agg #[.slice aw nw (sg aw 1), .slice ap np (sg ap 2)]] lo H = some (.agg #[.int .i64 0, .slice (some ⟨i, 0, none⟩) 64 1], H') ∧ Fn H H' ∧ Rep EI 1 H' (some ⟨i, 0, none⟩) 64 (flP D.w D.p) := by
  obtain ⟨H1, hH1⟩ : ∃ H1 : Hp, H1 = H ++ [some ⟨[.slice aw nw (sg aw 1), .slice ap np (sg ap 2)], true, false⟩, some ⟨[.int .i64 0, .slice none 0 0], true, false⟩] := ⟨_, rfl⟩
  have f1 : Fn H H1 := hH1 ▸ Fr.app
  have l1 : H1.length = H.length + 2 := by rw [hH1]; simp
  have bR : H1.blk (H.length + 1) = some ⟨[.int .i64 0, .slice none 0 0], true, false⟩ := by rw [hH1]; exact blkn 1
  have z1 := h.fn f1
  have c1 := implDiskFault_c d H.length H1 z1.d z1.s
  rw [h0] at c1
  obtain ⟨i, H2, c2, f2, w2, r2⟩ := flushed_c (d + 5) H.length H1 z1.d (dF_zero h0) z1.x
  have bR2 := (f2.blk _ (by omega) id).trans bR
  have hi := w2.1
  have g3 := fun vs hv => wr_setB (lo := H.length) bR2 (by omega) vs hv
  have g4 := fun vs hv => rdN_setB bR2 2 vs hv
  have ff := Fr.setB bR2 [.int .i64 0, .slice (some ⟨i, 0, none⟩) 64 1]
  refine ⟨i, setB H2 (H.length + 1) [.int .i64 0, .slice (some ⟨i, 0, none⟩) 64 1], ?_, Fn.setB (f1.trans f2) (by omega) bR2 _, r2.fr (fun j hj e => by have := hj.eq; omega) ff⟩
  subst hH1
  rw [call_eq find28 _ _ _ rfl]
  simp -implicitDefEqProofs only [v28, VMs, noRef, noRef1, isRef, List.all_cons, List.all_nil, vop, VOp.still, VOp.app, VOp.plain, allP, lof, evs, start, asI, vbin, vcells, ntup, setAll, vfill, vress, vres, tup, Nat.reduceEqDiff, ↓reduceIte, Nat.reduceAdd, Nat.reduceMul, Nat.reduceLeDiff, reduceCtorEq, c1, bne_self_eq_false, c2, g3, g4]
theorem specDiskFault_c (d lo : Nat) (H : Hp) {aw nw ap np D} (h : RD H aw nw ap np D) (hs : SD D) : vcall env (d + 4) 17 [.agg #[.slice aw nw (sg aw 1), .slice ap np (sg ap 2)]] lo H = some (.int .i64 (dF D), H) := by
  have c1 := fun l => l1Fault_c d H.length (H ++ some ⟨[.slice aw nw (sg aw 1), .slice ap np (sg ap 2)], true, false⟩ :: l) (q := H.length) ⟨by simp [rd0], by simp [rd0], h.app⟩ hs
  rw [call_eq find17 _ _ _ rfl]
  simp -implicitDefEqProofs only [v17, VMs, noRef, noRef1, isRef, List.all_cons, List.all_nil, vop, VOp.still, VOp.app, VOp.plain, allP, lof, evs, start, asI, vbin, vcells, ntup, setAll, vfill, vress, vres, tup, Nat.reduceEqDiff, ↓reduceIte, Nat.reduceAdd, Nat.reduceMul, Nat.reduceLeDiff, reduceCtorEq, c1]
theorem diskCode_c (d lo : Nat) (H : Hp) {aw nw ap np D} (h : RD H aw nw ap np D) (hs : SD D) (h0 : dF D = 0) : vcall env (d + 8) 78 [.agg #[.slice aw nw (sg aw 1), .slice ap np (sg ap 2)], .bool true] lo H = some (.int .i64 0, H) := by
  have c1 := fun l => implDiskFault_c d H.length (H ++ l) (h.app (l := l)) hs
  simp only [h0] at c1
  rw [call_eq find78 _ _ _ rfl]
  simp -implicitDefEqProofs only [v78, VMs, noRef, noRef1, isRef, List.all_cons, List.all_nil, vop, VOp.still, VOp.app, VOp.plain, allP, lof, evs, start, asI, vbin, vcells, ntup, setAll, vfill, vress, vres, tup, Nat.reduceEqDiff, ↓reduceIte, Nat.reduceAdd, Nat.reduceMul, Nat.reduceLeDiff, reduceCtorEq, c1, bne_self_eq_false]
theorem wordAt_c (d lo : Nat) (H : Hp) {aw nw ap np D} (h : DZ H aw nw ap np D) (h0 : dF D = 0) {k : Nat} (hk : k ≤ 63) :
    vcall env (d + 9) 22 [.agg #[.slice aw nw (sg aw 1), .slice ap np (sg ap 2)], .int .i64 (k : Nat)] lo H = some (.agg #[.int .i64 0, .int .i64 (((flP D.w D.p)[k]?).getD 0)], H) := by
  obtain ⟨H1, hH1⟩ : ∃ H1 : Hp, H1 = H ++ [some ⟨[.slice aw nw (sg aw 1), .slice ap np (sg ap 2)], true, false⟩, some ⟨[.int .i64 0, .int .i64 0], true, false⟩] := ⟨_, rfl⟩
  have f1 : Fn H H1 := hH1 ▸ Fr.app
  have l1 : H1.length = H.length + 2 := by rw [hH1]; simp
  have bR : H1.blk (H.length + 1) = some ⟨[.int .i64 0, .int .i64 0], true, false⟩ := by rw [hH1]; exact blkn 1
  have z1 := h.fn f1
  have hp : decide (0 ≤ (k : Int) ∧ (k : Int) ≤ 63) = true := decide_eq_true (by omega)
  have c0 := fun lo => isPlace_c (d + 6) lo H1 (k : Int)
  rw [hp] at c0
  have c1 := diskCode_c d H.length H1 z1.d z1.s h0
  obtain ⟨i, H2, c2, f2, w2, r2⟩ := flushed_c (d + 6) H.length H1 z1.d (dF_zero h0) z1.x
  have bR2 := (f2.blk _ (by omega) id).trans bR
  have hlen : (flP D.w D.p).length = 64 := (flP_len _ _).trans (dF_zero h0).w
  have hkl : k < (flP D.w D.p).length := by omega
  rw [← hlen] at c2 r2
  obtain ⟨_, _, e, q⟩ := r2.at hkl
  cases e
  simp only [EI, Nat.mul_one, Nat.zero_add] at q
  rw [getE hkl, Option.getD_some]
  have g3 := fun vs hv => wr_setB (lo := H.length) bR2 (by omega) vs hv
  have g4 := fun vs hv => rdN_setB bR2 2 vs hv
  have hq : ((k : Int) < (((flP D.w D.p).length : Nat) : Int)) = True := ltc hkl
  subst hH1
  rw [call_eq find22 _ _ _ rfl]
  simp -implicitDefEqProofs only [v22, VMs, noRef, noRef1, isRef, List.all_cons, List.all_nil, vop, VOp.still, VOp.app, VOp.plain, allP, lof, evs, start, asI, vbin, vcells, ntup, setAll, vfill, vress, vres, tup, Nat.reduceEqDiff, ↓reduceIte, Nat.reduceAdd, Nat.reduceMul, Nat.reduceLeDiff, reduceCtorEq, vdr, c0, c1, bne_self_eq_false, c2, hq, ge0, Int.toNat_natCast, Nat.mul_one, q, g3, g4]
/-! ### A disk of one's own, with a put more -/
theorem Rep.fwI {S : Nat → Prop} {H H' : Hp} {a : Option Addr} {n : Nat} {l : List Int} (h : Rep EI 1 H a n l) (hf : Fw S H H') (hS : ∀ i, Ad a i → ¬ S i) : Rep EI 1 H' a n l :=
  ⟨h.1, fun hl => let ⟨i, o, ha, h2⟩ := h.2 hl; ⟨i, o, ha, fun j x hx => (hf.rd _ _ (rd_lt (h2 j x hx)) (hS i ⟨o, ha⟩)).trans (h2 j x hx)⟩⟩
theorem Rep.cellsP {H : Hp} {a : Option Addr} {l : List Bk} (h : Rep EB 2 H a l.length l) : scells H 2 (.slice a l.length (sg a 2)) = some (vP l) := by
  by_cases h0 : l = []
  · subst h0; cases a <;> rfl
  obtain ⟨i, o, rfl, h2⟩ := h.2 h0
  have hl : 0 < l.length := List.length_pos_iff.2 h0
  rw [scells, if_neg (by omega)]
  simp only [sgs, if_true]
  have hb : ∃ b, H.blk i = some b ∧ o ≤ b.cs.length := by
    have e := (h2 (l.length - 1) _ (getE (by omega))).1
    simp only [rd, Option.bind_eq_some_iff] at e
    obtain ⟨b, hb, hc⟩ := e
    have := (List.getElem?_eq_some_iff.1 hc).1
    exact ⟨b, hb, by omega⟩
  have := rdN_of (L := vP l) hb (fun j hj => by
    rw [vP_len] at hj
    obtain ⟨k, m, hm, rfl⟩ : ∃ k m, m < 2 ∧ j = k * 2 + m := ⟨j / 2, j % 2, Nat.mod_lt _ (by omega), by have := Nat.div_add_mod j 2; omega⟩
    have hk : k < l.length := by omega
    obtain ⟨e1, e2⟩ := h2 k _ (getE hk)
    obtain ⟨g1, g2⟩ := vP_get l k _ (getE hk)
    rcases (by omega : m = 0 ∨ m = 1) with rfl | rfl
    · rw [Nat.add_zero, g1]; exact e1
    · rw [← Nat.add_assoc, g2]; exact e2)
  rwa [vP_len] at this
theorem clonePuts_c (d lo : Nat) (H : Hp) {a : Option Addr} {l : List Bk} (h : Rep EB 2 H a l.length l) (hn : l.length ≤ 1000) :
    ∃ b H2, vcall env (d + 1) 114 [.slice a l.length (sg a 2)] lo H = some (.slice b l.length (sg b 2), H2) ∧ Fn H H2 ∧ Hd H.length H2 b l.length 2 (vP l) := by
  rw [call_eq find114 _ _ _ rfl]
  cases a with
  | none =>
    obtain ⟨rfl, _⟩ := h.none_nil
    exact ⟨none, H, by simp -implicitDefEqProofs only [v114, VMs, noRef, noRef1, isRef, List.all_cons, List.all_nil, vop, VOp.still, VOp.app, VOp.plain, allP, lof, evs, start, asI, vbin, vcells, ntup, setAll, vfill, vress, vres, tup, Nat.reduceEqDiff, ↓reduceIte, Nat.reduceAdd, Nat.reduceMul, Nat.reduceLeDiff, reduceCtorEq, List.length_nil], Fr.refl, Or.inl ⟨rfl, rfl, rfl⟩⟩
  | some A =>
    obtain ⟨H1, hH1⟩ : ∃ H1 : Hp, H1 = H ++ [some ⟨[], true, true⟩] := ⟨_, rfl⟩
    have f1 : Fn H H1 := hH1 ▸ Fr.app
    have b1 : H1.blk H.length = some ⟨[], true, true⟩ := by rw [hH1]; exact blk0
    have hc := (h.fnB f1).cellsP
    by_cases h0 : l = []
    · subst h0
      have ha : vappend 2 16 H.length H1 (.slice (some ⟨H.length, 0, none⟩) 0 2) (.slice (some A) 0 2) = some (.slice (some ⟨H.length, 0, none⟩) 0 2, H1) := by
        simp only [List.length_nil, sgs] at hc
        simp only [vappend, slen, hc, Option.bind_some, b1]
        rw [if_pos ⟨trivial, trivial, trivial, by simp, rfl, fits_small (by omega)⟩]; rfl
      refine ⟨some ⟨H.length, 0, none⟩, H1, ?_, f1, Or.inr ⟨H.length, true, rfl, b1, rfl, fun _ => rfl, Nat.le_refl _⟩⟩
      subst hH1
      simp -implicitDefEqProofs only [v114, VMs, noRef, noRef1, isRef, List.all_cons, List.all_nil, vop, VOp.still, VOp.app, VOp.plain, allP, lof, evs, start, asI, vbin, vcells, ntup, setAll, vfill, vress, vres, tup, Nat.reduceEqDiff, ↓reduceIte, Nat.reduceAdd, Nat.reduceMul, Nat.reduceLeDiff, reduceCtorEq, List.length_nil, beq_self_eq_true, ha]
    · have hl : 0 < l.length := List.length_pos_iff.2 h0
      obtain ⟨H2, ha, hb2, hl2, hf2, _⟩ := app_own (st := 2) (by_ := 16) (lo := H.length) (i := H.length) (n := 0) (m := l.length) (L := []) (M := vP l) (y := .slice (some A) l.length (sg (some A) 2)) b1 rfl (fun _ => rfl) (Nat.le_refl _) rfl hc hl (fits_small (by omega))
      have l1 : H1.length = H.length + 1 := by rw [hH1]; simp
      refine ⟨some ⟨H1.length, 0, none⟩, H2, ?_, hf2 H f1 (Nat.le_refl _), Or.inr ⟨H1.length, false, rfl, hb2, by simp [vP_len], fun e => by omega, by omega⟩⟩
      subst hH1
      simp only [sgs, Nat.zero_add] at ha
      simp -implicitDefEqProofs only [v114, VMs, noRef, noRef1, isRef, List.all_cons, List.all_nil, vop, VOp.still, VOp.app, VOp.plain, allP, lof, evs, start, asI, vbin, vcells, ntup, setAll, vfill, vress, vres, tup, Nat.reduceEqDiff, ↓reduceIte, Nat.reduceAdd, Nat.reduceMul, Nat.reduceLeDiff, reduceCtorEq, beq_self_eq_true, ha]
theorem ownDisk_c (d lo : Nat) (H : Hp) {aw ap D} (h : DZ H aw D.w.length ap D.p.length D) (g : DGood D) :
    ∃ i b H', vcall env (d + 2) 84 [.agg #[.slice aw D.w.length (sg aw 1), .slice ap D.p.length (sg ap 2)]] lo H = some (.agg #[.slice (some ⟨i, 0, none⟩) D.w.length 1, .slice b D.p.length (sg b 2)], H') ∧ Fn H H' ∧ Rep EI 1 H' (some ⟨i, 0, none⟩) D.w.length D.w ∧ WB H.length H' i ∧ Hd H.length H' b D.p.length 2 (vP D.p) ∧ ∀ j, Ad b j → j ≠ i := by
  obtain ⟨H1, hH1⟩ : ∃ H1 : Hp, H1 = H ++ [some ⟨[.slice aw D.w.length (sg aw 1), .slice ap D.p.length (sg ap 2)], true, false⟩, some ⟨[.slice none 0 0, .slice none 0 0], true, false⟩] := ⟨_, rfl⟩
  have f1 : Fn H H1 := hH1 ▸ Fr.app
  have l1 : H1.length = H.length + 2 := by rw [hH1]; simp
  have bR : H1.blk (H.length + 1) = some ⟨[.slice none 0 0, .slice none 0 0], true, false⟩ := by rw [hH1]; exact blkn 1
  have z1 := h.fn f1
  obtain ⟨b, H2, c2, F2⟩ := cloneInts_c d H1.length H1 z1.d.w z1.x (by have := g.w; omega)
  have hw0 : D.w ≠ [] := by intro e; have := g.w; rw [e] at this; simp at this
  obtain ⟨i, o, rfl, _⟩ := F2.r.2 hw0
  obtain ⟨_, ho, hwb⟩ := F2.o _ rfl
  simp only at ho hwb
  subst ho
  have l2 := F2.f.len
  obtain ⟨bp, H3, c3, f3, hd3⟩ := clonePuts_c d H.length H2 (z1.d.p.fnB F2.f) (by have := g.p; omega)
  have l3 := f3.len
  have bR3 := ((F2.f.trans f3).blk _ (by omega) id).trans bR
  have hi := hwb.1
  have hil := blk_lt hwb.2.choose_spec.1
  have g3 := fun vs hv => wr_setB (lo := H.length) bR3 (by omega) vs hv
  have g4 := fun vs hv => rdN_setB bR3 2 vs hv
  have ff := Fr.setB bR3 [.slice (some ⟨i, 0, none⟩) D.w.length 1, .slice bp D.p.length (sg bp 2)]
  refine ⟨i, bp, setB H3 (H.length + 1) [.slice (some ⟨i, 0, none⟩) D.w.length 1, .slice bp D.p.length (sg bp 2)], ?_, Fn.setB (f1.trans (F2.f.trans f3)) (by omega) bR3 _, (F2.r.fr (fun _ _ => id) f3).fr (fun j hj e => by have := hj.eq; omega) ff, ((hwb.fn _ f3).lo (by omega)).fn _ ff, (hd3.fw ff.w (fun j hj e => by have := (hd3.lt hj).1; omega)).down (by omega), fun j hj e => by have := (hd3.lt hj).1; omega⟩
  subst hH1
  simp only [sgs, List.length_append, List.length_cons, List.length_nil, Nat.zero_add] at c2
  rw [call_eq find84 _ _ _ rfl]
  simp -implicitDefEqProofs only [v84, VMs, noRef, noRef1, isRef, List.all_cons, List.all_nil, vop, VOp.still, VOp.app, VOp.plain, allP, lof, evs, start, asI, vbin, vcells, ntup, setAll, vfill, vress, vres, tup, Nat.reduceEqDiff, ↓reduceIte, Nat.reduceAdd, Nat.reduceMul, Nat.reduceLeDiff, reduceCtorEq, vdr, c2, c3, g3, g4]
theorem putWord_full (d lo : Nat) (H : Hp) {aw ap D} (h : DZ H aw D.w.length ap D.p.length D) (h0 : dF D = 0) {k v : Int} (hk : 0 ≤ k ∧ k ≤ 63) (hv : wOK v = true) (hp : D.p.length = 200) :
    vcall env (d + 9) 30 [.agg #[.slice aw D.w.length (sg aw 1), .slice ap D.p.length (sg ap 2)], .int .i64 k, .int .i64 v] lo H = some (.agg #[.int .i64 2, .slice none 0 0, .slice none 0 0], H) := by
  obtain ⟨H1, hH1⟩ : ∃ H1 : Hp, H1 = H ++ [some ⟨[.slice aw D.w.length (sg aw 1), .slice ap D.p.length (sg ap 2)], true, false⟩, some ⟨[.int .i64 0, .slice none 0 0, .slice none 0 0], true, false⟩] := ⟨_, rfl⟩
  have f1 : Fn H H1 := hH1 ▸ Fr.app
  have z1 := h.fn f1
  have c0 := fun lo => isPlace_c (d + 6) lo H1 k
  have c0' := fun lo => isWord_c (d + 6) lo H1 v
  have hpl : decide (0 ≤ k ∧ k ≤ 63) = true := decide_eq_true hk
  have c1 := diskCode_c d H.length H1 z1.d z1.s h0
  have hq : (((D.p.length : Nat) : Int) == 200) = true := beq_iff_eq.2 (by omega)
  subst hH1
  rw [call_eq find30 _ _ _ rfl]
  simp -implicitDefEqProofs only [v30, VMs, noRef, noRef1, isRef, List.all_cons, List.all_nil, vop, VOp.still, VOp.app, VOp.plain, allP, lof, evs, start, asI, vbin, vcells, ntup, setAll, vfill, vress, vres, tup, Nat.reduceEqDiff, ↓reduceIte, Nat.reduceAdd, Nat.reduceMul, Nat.reduceLeDiff, reduceCtorEq, vdr, c0, c0', hpl, hv, c1, bne_self_eq_false, slen, hq]
theorem putWord_ok (d lo : Nat) (H : Hp) {aw ap D} (h : DZ H aw D.w.length ap D.p.length D) (h0 : dF D = 0) {k v : Int} (hk : 0 ≤ k ∧ k ≤ 63) (hv : wOK v = true) (hp : D.p.length ≠ 200) :
    ∃ aw' ap' H', vcall env (d + 9) 30 [.agg #[.slice aw D.w.length (sg aw 1), .slice ap D.p.length (sg ap 2)], .int .i64 k, .int .i64 v] lo H = some (.agg #[.int .i64 0, .slice aw' D.w.length (sg aw' 1), .slice ap' (D.p ++ [(⟨k, v⟩ : Bk)]).length (sg ap' 2)], H') ∧ Fn H H' ∧ DZ H' aw' D.w.length ap' (D.p ++ [(⟨k, v⟩ : Bk)]).length ⟨D.w, D.p ++ [⟨k, v⟩]⟩ := by
  have g := dF_zero h0
  have hp200 : D.p.length < 200 := by have := g.p; omega
  obtain ⟨H1, hH1⟩ : ∃ H1 : Hp, H1 = H ++ [some ⟨[.slice aw D.w.length (sg aw 1), .slice ap D.p.length (sg ap 2)], true, false⟩, some ⟨[.int .i64 0, .slice none 0 0, .slice none 0 0], true, false⟩] := ⟨_, rfl⟩
  have f1 : Fn H H1 := hH1 ▸ Fr.app
  have l1 : H1.length = H.length + 2 := by rw [hH1]; simp
  have bR : H1.blk (H.length + 1) = some ⟨[.int .i64 0, .slice none 0 0, .slice none 0 0], true, false⟩ := by rw [hH1]; exact blkn 1
  have z1 := h.fn f1
  have c0 := fun lo => isPlace_c (d + 6) lo H1 k
  have c0' := fun lo => isWord_c (d + 6) lo H1 v
  have hpl : decide (0 ≤ k ∧ k ≤ 63) = true := decide_eq_true hk
  have c1 := diskCode_c d H.length H1 z1.d z1.s h0
  have hq : (((D.p.length : Nat) : Int) == 200) = false := beq_eq_false_iff_ne.2 (by omega)
  obtain ⟨i, b, H2, c2, f2, r2, w2, hd2, nib⟩ := ownDisk_c (d + 6) H.length H1 z1 g
  have l2 := f2.len
  have hle2 : (H.length ≤ H2.length) = True := eq_true (by omega)
  obtain ⟨H3, hH3⟩ : ∃ H3 : Hp, H3 = H2 ++ [some ⟨[.slice (some ⟨i, 0, none⟩) D.w.length 1, .slice b D.p.length (sg b 2)], true, false⟩, some ⟨[.int .i64 k, .int .i64 v], true, false⟩] := ⟨_, rfl⟩
  have f3 : Fn H2 H3 := hH3 ▸ Fr.app
  have l3 : H3.length = H2.length + 2 := by rw [hH3]; simp
  have b3 : H3.blk H2.length = some ⟨[.slice (some ⟨i, 0, none⟩) D.w.length 1, .slice b D.p.length (sg b 2)], true, false⟩ := by rw [hH3]; exact blk0
  have hd3 := hd2.fw f3.w (fun _ _ => id)
  obtain ⟨H4, ha, hl4, hd4, hf4, ho4⟩ := app_hd (st := 2) (by_ := 16) (m := 1) (M := vp ⟨k, v⟩) (y := .slice (some ⟨H2.length + 1, 0, none⟩) 1 2) (hd3.down (show H.length ≤ H1.length by omega)) rfl (by rw [hH3]; simp [scells, rdNk, vp]) (by omega) rfl (fits_small (by omega)) (by omega)
  have nb : ∀ j, Ad b j → H1.length ≤ j ∧ j < H2.length := fun j hj => hd2.lt hj
  have iw := w2.1
  have il := blk_lt w2.2.choose_spec.1
  have fw4 : Fw (fun j => Ad b j) H3 H4 := ⟨by omega, fun j hj hs => ho4 j (fun o e => hs ⟨o, e⟩) hj⟩
  have F4 : Fn H H4 := hf4 H (f1.trans (f2.trans f3)) (Nat.le_refl _)
  have b4 : H4.blk H2.length = some ⟨[.slice (some ⟨i, 0, none⟩) D.w.length 1, .slice b D.p.length (sg b 2)], true, false⟩ := (fw4.blk _ (by omega) (fun hh => by have := nb _ hh; omega)).trans b3
  have bR4 : H4.blk (H.length + 1) = some ⟨[.int .i64 0, .slice none 0 0, .slice none 0 0], true, false⟩ := (fw4.blk _ (by omega) (fun hh => by have := nb _ hh; omega)).trans (((f2.trans f3).blk _ (by omega) id).trans bR)
  have w5 := wr_at (lo := H.length) (o := 1) b4 (by omega) [.slice (some ⟨H3.length, 0, none⟩) (D.p.length + 1) 2] (by simp)
  have hset : setAll [Value.slice (some ⟨i, 0, none⟩) D.w.length 1, .slice b D.p.length (sg b 2)] 1 [.slice (some ⟨H3.length, 0, none⟩) (D.p.length + 1) 2] = [.slice (some ⟨i, 0, none⟩) D.w.length 1, .slice (some ⟨H3.length, 0, none⟩) (D.p.length + 1) 2] := rfl
  rw [hset] at w5
  have ff5 := Fr.setB b4 [.slice (some ⟨i, 0, none⟩) D.w.length 1, .slice (some ⟨H3.length, 0, none⟩) (D.p.length + 1) 2]
  have r5 := rdN_setB b4 2 [.slice (some ⟨i, 0, none⟩) D.w.length 1, .slice (some ⟨H3.length, 0, none⟩) (D.p.length + 1) 2] rfl
  have F5 := Fn.setB F4 (show H.length ≤ H2.length by omega) b4 [.slice (some ⟨i, 0, none⟩) D.w.length 1, .slice (some ⟨H3.length, 0, none⟩) (D.p.length + 1) 2]
  have bR5 : (setB H4 H2.length [.slice (some ⟨i, 0, none⟩) D.w.length 1, .slice (some ⟨H3.length, 0, none⟩) (D.p.length + 1) 2]).blk (H.length + 1) = some ⟨[.int .i64 0, .slice none 0 0, .slice none 0 0], true, false⟩ := by rw [blk_setB b4, if_neg (by omega)]; exact bR4
  generalize setB H4 H2.length [.slice (some ⟨i, 0, none⟩) D.w.length 1, .slice (some ⟨H3.length, 0, none⟩) (D.p.length + 1) 2] = H5 at *
  have g3 := wr_setB (lo := H.length) bR5 (by omega) [.int .i64 0, .slice (some ⟨i, 0, none⟩) D.w.length 1, .slice (some ⟨H3.length, 0, none⟩) (D.p.length + 1) 2] rfl
  have g4 := rdN_setB bR5 3 [.int .i64 0, .slice (some ⟨i, 0, none⟩) D.w.length 1, .slice (some ⟨H3.length, 0, none⟩) (D.p.length + 1) 2] rfl
  have ff6 := Fr.setB bR5 [.int .i64 0, .slice (some ⟨i, 0, none⟩) D.w.length 1, .slice (some ⟨H3.length, 0, none⟩) (D.p.length + 1) 2]
  have F6 := Fn.setB F5 (show H.length ≤ H.length + 1 by omega) bR5 [.int .i64 0, .slice (some ⟨i, 0, none⟩) D.w.length 1, .slice (some ⟨H3.length, 0, none⟩) (D.p.length + 1) 2]
  generalize setB H5 (H.length + 1) [.int .i64 0, .slice (some ⟨i, 0, none⟩) D.w.length 1, .slice (some ⟨H3.length, 0, none⟩) (D.p.length + 1) 2] = H6 at *
  have hpp : vP D.p ++ vp ⟨k, v⟩ = vP (D.p ++ [⟨k, v⟩]) := by simp [vP]
  rw [hpp] at hd4
  have hlp : (D.p ++ [(⟨k, v⟩ : Bk)]).length = D.p.length + 1 := by simp
  rw [← hlp] at hd4
  have l4' := ff5.len
  have rw4 := ((r2.fr (fun _ _ => id) f3).fwI fw4 (fun j hj hb => nib j hb hj.eq))
  have rw6 : Rep EI 1 H6 (some ⟨i, 0, none⟩) D.w.length D.w := (rw4.fr (T := (· = H2.length)) (fun j hj e => by have := hj.eq; omega) ff5).fr (T := (· = H.length + 1)) (fun j hj e => by have := hj.eq; omega) ff6
  have hp6 := (hd4.fw ff5.w (fun j hj e => by have := hj.eq; omega)).fw ff6.w (fun j hj e => by have := hj.eq; omega)
  refine ⟨some ⟨i, 0, none⟩, some ⟨H3.length, 0, none⟩, H6, ?_, F6, ⟨⟨rw6, hp6.repP⟩, fun A e => ?_, ⟨h.s.w, by rw [hlp]; unfold Sm; omega⟩⟩⟩
  · rw [hlp]
    subst hH3 hH1
    simp only [sgs, List.length_append, List.length_cons, List.length_nil, Nat.zero_add] at ha w5 r5 g3 g4 ⊢
    rw [call_eq find30 _ _ _ rfl]
    simp -implicitDefEqProofs only [v30, VMs, noRef, noRef1, isRef, List.all_cons, List.all_nil, vop, VOp.still, VOp.app, VOp.plain, allP, lof, evs, start, asI, vbin, vcells, ntup, setAll, vfill, vress, vres, tup, Nat.reduceEqDiff, ↓reduceIte, Nat.reduceAdd, Nat.reduceMul, Nat.reduceLeDiff, reduceCtorEq, vdr, c0, c0', hpl, hv, c1, bne_self_eq_false, slen, hq, c2, hle2, h10, ha, w5, r5, g3, g4]
  · cases e
    obtain ⟨_, bb, hbb, _⟩ := w2
    have hbl := blk_lt hbb
    refine ⟨rfl, bb, ?_, Nat.zero_le _⟩
    show H6.blk i = some bb
    exact (ff6.blk _ (by omega) (by omega)).trans ((ff5.blk _ (by omega) (by omega)).trans ((fw4.blk _ (by omega) (fun hh => nib _ hh rfl)).trans ((f3.blk _ hbl id).trans hbb)))
end Go.Proofs.Ytaahjfjpbilfnaa.V
