/- ScanJournal: the law. -/
import Derived.Test.YtaahjfjpbilfnaaVGJ
namespace Go.Proofs.Ytaahjfjpbilfnaa.V
open Go
set_option linter.unusedVariables false
set_option linter.unusedSimpArgs false
set_option maxRecDepth 100000
theorem cell0 {H H' : Hp} {cs : List Value} {S : Nat → Prop} (hf : Fr S (H ++ [some ⟨cs, true, false⟩]) H') (hS : ¬ S H.length) (l : List (Option Blk)) (n : Nat) (hn : n = cs.length) : rdN (H' ++ l) ⟨H.length, 0, none⟩ n = some cs := by
  subst hn
  have h1 := hf.rdN H.length 0 cs.length (by simp) hS
  have h2 : rdN (H ++ [some ⟨cs, true, false⟩]) ⟨H.length, 0, none⟩ cs.length = some cs := by simp [rdN0]
  rw [h2] at h1
  have hlt : H.length < H'.length := by have := hf.len; simp at this; omega
  rw [rdNo hlt]; exact h1
theorem sD_km {D : Dk} {r : Int} (hr : 0 ≤ r) (h : r = 1048576 - (D.w.length : Int) - (D.p.length : Int)) : Km (1 + sD D) := by unfold Km sD; omega
set_option maxHeartbeats 4000000 in
/-- The law. -/
theorem law_c (d lo : Nat) (H : Hp) {aw nw ap np D} (h : RD H aw nw ap np D) (hD : ArgD D) : vcall env (d + 9) 13 [.agg #[.slice aw nw (sg aw 1), .slice ap np (sg ap 2)]] lo H = some (.bool true, H) := by
  have hs := hD.sd
  obtain ⟨hlen, hx8⟩ := scanL_le D
  have hsl : Sm (scanL D).length := by unfold Sm; omega
  have hs8 : ∀ x ∈ scanL D, Sm x.length := fun x hx => by have := hx8 x hx; unfold Sm; omega
  have hsR := sR_le (scanL D) hx8
  have hsR0 := sR_nonneg (scanL D)
  have hkl : Km (1 + sR (scanL D)) := by unfold Km; omega
  obtain ⟨HB, hHB⟩ : ∃ HB, HB = H ++ [some ⟨[.slice aw nw (sg aw 1), .slice ap np (sg ap 2)], true, false⟩] := ⟨_, rfl⟩
  have hp : PD HB H.length aw nw ap np D := by rw [hHB]; exact ⟨by simp [rd0], by simp [rd0], h.app⟩
  have hf0 : Fn H HB := by rw [hHB]; exact Fr.app
  have hl0 : HB.length = H.length + 1 := by rw [hHB]; simp
  obtain ⟨r, hsz, hr⟩ := szDisk_c (d + 6) H.length HB hp.d hs 1048576 (by unfold Lf; omega) (by omega)
  rw [call_eq find13 _ _ _ rfl]
  by_cases hr0 : r < 0
  · subst hHB
    simp only [Nat.add_assoc, Nat.reduceAdd] at hsz
    simp -implicitDefEqProofs only [v13, VMs, noRef, noRef1, isRef, List.all_cons, List.all_nil, vop, VOp.still, VOp.app, VOp.plain, allP, lof, evs, start, asI, vbin, vcells, ntup, setAll, vfill, vress, vres, tup, Nat.reduceEqDiff, ↓reduceIte, Nat.reduceAdd, Nat.reduceMul, Nat.reduceLeDiff, reduceCtorEq, hsz, hr0, decide_true]
  have hkm := sD_km (by omega) (hr (by omega))
  obtain ⟨v1, H1, t1, S1, T1, aw1, nw1, ap1, np1, rfl, f1, g1, o1⟩ := toDisk_c (d + 5) H.length HB hp.d hD
  obtain ⟨w, H2, s1, hW⟩ := specScanJournal_c (d + 4) H.length H1 o1.rd hs
  generalize hC : scanC D = C at *
  generalize hU : scanU D = U at *
  generalize hR : scanL D = R at *
  obtain ⟨aW, pW, rfl, f2, oW, eW⟩ := hW
  have lW : pW.length = R.length := by rw [← eW, List.length_map]
  obtain ⟨CW, hCW⟩ : ∃ CW : List Value, CW = [.int .i64 C, .int .i64 U, .slice aW pW.length (sg aW 1)] := ⟨_, rfl⟩
  have p2 := (hp.fn f1).fn f2
  have p2' := p2.fn (Fr.app (l := [some ⟨CW, true, false⟩]))
  obtain ⟨v2, H3, t2, S2, T2, aw2, nw2, ap2, np2, rfl, f3, g3, o2⟩ := toDisk_c (d + 5) H.length _ p2'.d hD
  have r3' := o2.rd.fn (Fr.app (l := [some ⟨[.slice aw2 nw2 (sg aw2 1), .slice ap2 np2 (sg ap2 2)], true, false⟩]))
  obtain ⟨gv, H4, i1, hG⟩ := implScanJournal_c d H.length _ r3' hs
  rw [hC, hU, hR] at hG
  obtain ⟨aG, pG, rfl, f4, oG, eG⟩ := hG
  have lG : pG.length = R.length := by rw [← eG, List.length_map]
  obtain ⟨CG, hCG⟩ : ∃ CG : List Value, CG = [.int .i64 C, .int .i64 U, .slice aG pG.length (sg aG 1)] := ⟨_, rfl⟩
  have L1 := f1.len
  have L2 := f2.len
  have L3 := f3.len
  have L4 := f4.len
  simp only [List.length_append, List.length_cons, List.length_nil] at L3 L4 g3
  obtain ⟨H4c, hH4c⟩ : ∃ H4c, H4c = H4 ++ [some ⟨CG, true, false⟩] := ⟨_, rfl⟩
  have f44 : Fn H4 H4c := by rw [hH4c]; exact Fr.app
  have p4 := ((p2'.fn f3).fn (Fr.app (l := [some ⟨[.slice aw2 nw2 (sg aw2 1), .slice ap2 np2 (sg ap2 2)], true, false⟩]))).fn (f4.trans f44)
  obtain ⟨v3, H5, t3, S3, T3, aw3, nw3, ap3, np3, rfl, f5, g5, o3⟩ := toDisk_c (d + 5) H4c.length H4c p4.d hD
  have L5 := f5.len
  have hl4c : H4c.length = H4.length + 1 := by rw [hH4c]; simp
  have f45 : Fn H4 H5 := f44.trans f5
  have fo5 := (o2.fr (U := fun _ => False) (fun _ _ => id) (Fr.app (l := [some ⟨[.slice aw2 nw2 (sg aw2 1), .slice ap2 np2 (sg ap2 2)], true, false⟩]))).fr (U := fun _ => False) (fun _ _ => id) (f4.trans f45)
  have hb2 : ∀ i, S2 i ∨ T2 i → H2.length + 1 ≤ i ∧ i < H3.length := fun i hi => ⟨g3 i hi, o2.lt i hi⟩
  obtain ⟨H6, m6, f6⟩ := markDisk_c (d + 6) H.length H5 S2 T2 1 (fo5.lo (by simp; omega)) hs (by omega) hkm
  have L6 := f6.len
  have fr46 : Fr (fun i => S2 i ∨ T2 i) H4c H6 := f5.no.trans f6
  have f24 : Fn (H2 ++ [some ⟨CW, true, false⟩]) H4c := f3.trans (Fr.app.trans (f4.trans f44))
  have f26 : Fn (H2 ++ [some ⟨CW, true, false⟩]) H6 := ((f24.trans f5).no.trans f6).new fun i hi => by have := (hb2 i hi).1; simpa using this
  have oG4 : OR (fun i => H3.length + 1 ≤ i ∧ i < H4.length) (H3.length + 1) H4c aG pG.length R := by
    have := oG.or.fr (T := fun _ => False) (fun _ _ => id) f44
    rw [eG] at this
    simpa using this
  have oG6 := oG4.fr (fun i hi hs => by have := (hb2 i hs).2; omega) fr46
  obtain ⟨H7, m7, f7, r7⟩ := markRecordsResult_c (d + 5) H.length H6 _ aG pG.length R C U 1 (oG6.lo (by omega)) (fun i hi => by omega) (lG ▸ hsl) hs8 (by omega) hkl
  have L7 := f7.len
  have f27 : Fn (H2 ++ [some ⟨CW, true, false⟩]) H7 := (f26.no.trans f7).new fun i hi => by have := hi.1; simp; omega
  have f17 : Fn HB H7 := (f1.trans (f2.trans Fr.app)).trans f27
  have p7 := hp.fn f17
  obtain ⟨v4, H8, t4, S4, T4, aw4, nw4, ap4, np4, rfl, f8, g8, o4⟩ := toDisk_c (d + 5) H.length H7 p7.d hD
  obtain ⟨gv', H9, i9, hH⟩ := implScanJournal_c d H.length H8 o4.rd hs
  rw [hC, hU, hR] at hH
  obtain ⟨aH, pH, rfl, f9, oH, eH⟩ := hH
  have lH : pH.length = R.length := by rw [← eH, List.length_map]
  have L8 := f8.len
  have L9 := f9.len
  have f79 : Fn H7 H9 := f8.trans f9
  have rW : Rep ER 1 (H2 ++ [some ⟨CW, true, false⟩]) aW pW.length R := by
    have := oW.or.rep
    rw [eW] at this
    exact this.fnR Fr.app
  have rH : Rep ER 1 H9 aH pH.length R := by
    have := oH.or.rep
    rw [eH] at this
    exact this
  have e4 := eqRecordsResult_c (d + 5) H.length H4c aG aW _ _ R R oG4.rep (rW.fnR f24) (lG ▸ hsl) hs8 C U C U
  have e6 := eqRecordsResult_c (d + 5) H.length H6 aG aW _ _ R R oG6.rep (rW.fnR f26) (lG ▸ hsl) hs8 C U C U
  have e9 := fun l => eqRecordsResult_c (d + 5) H.length (H9 ++ l) aH aW _ _ R R (rH.fnR Fr.app) (rW.fnR ((f27.trans f79).trans (Fr.app (l := l)))) (lH ▸ hsl) hs8 C U C U
  have e5 := eqDisk_c (d + 5) H.length H5 fo5.rd o3.rd hs
  have k7 := heldRecordsResult_c (d + 5) H.length H7 aG pG.length R C U 1 r7 (lG ▸ hsl) hs8 (by omega) hkl
  have k9 := fun l => heldRecordsResult_c (d + 5) H.length (H9 ++ l) aG pG.length R C U 1 (r7.fnR (f79.trans (Fr.app (l := l)))) (lG ▸ hsl) hs8 (by omega) hkl
  have hCW3 : CW.length = 3 := by rw [hCW]; rfl
  have hCG3 : CG.length = 3 := by rw [hCG]; rfl
  have cw4 := fun l => cell0 (f3.trans (Fr.app.trans f4)) id l 3 hCW3.symm
  have cw6 := cell0 f26 id [] 3 hCW3.symm
  have cw9 := fun l => cell0 (f27.trans f79) id l 3 hCW3.symm
  have cx4 := fun l => cell0 f4 id l 2 rfl
  have cx5 := cell0 (f4.trans f45) id [] 2 rfl
  have fG7 : Fr (fun i => (S2 i ∨ T2 i) ∨ (H3.length + 1 ≤ i ∧ i < H4.length)) H4c H7 := (fr46.mono fun _ => Or.inl).trans (f7.mono fun _ => Or.inr)
  have nG : ¬ ((S2 H4.length ∨ T2 H4.length) ∨ (H3.length + 1 ≤ H4.length ∧ H4.length < H4.length)) := fun hh => by
    rcases hh with hh | hh
    · have := (hb2 _ hh).2; omega
    · omega
  rw [hH4c] at fr46 fG7
  have cg6 := cell0 fr46 (fun hh => nG (Or.inl hh)) [] 3 hCG3.symm
  have cg7 := cell0 fG7 nG [] 3 hCG3.symm
  have cg9 := fun l => cell0 (fG7.trans f79.no) nG l 3 hCG3.symm
  have q2 := p2'.rdN
  have q4 := p4.rdN
  have q7 := p7.rdN
  have z : decide (1 + sD D < 0) = false := decide_eq_false (by unfold sD; omega)
  have z2 : decide (1 + sR R < 0) = false := decide_eq_false (by omega)
  have le2 : (H.length ≤ H2.length) = True := eq_true (by omega)
  have le3 : (H.length ≤ H3.length) = True := eq_true (by omega)
  have le4 : (H.length ≤ H4.length) = True := eq_true (by omega)
  have le9 : (H.length ≤ H9.length) = True := eq_true (by omega)
  subst hH4c
  subst hHB
  subst hCW
  subst hCG
  simp only [Nat.add_assoc, Nat.reduceAdd, List.length_append, List.length_cons, List.length_nil, Nat.zero_add, List.append_nil] at hsz t1 s1 t2 i1 t3 m6 m7 t4 i9 e4 e6 e9 e5 k7 k9 cw4 cw6 cw9 cx4 cx5 cg6 cg7 cg9 q2 q4 q7
  simp -implicitDefEqProofs only [v13, VMs, noRef, noRef1, isRef, List.all_cons, List.all_nil, vop, VOp.still, VOp.app, VOp.plain, allP, lof, evs, start, asI, vbin, vcells, ntup, setAll, vfill, vress, vres, tup, Nat.reduceEqDiff, ↓reduceIte, Nat.reduceAdd, Nat.reduceMul, Nat.reduceLeDiff, reduceCtorEq, hsz, hr0, decide_false, decide_true, t1, s1, t2, i1, t3, m6, m7, t4, i9, e4, e6, e9, e5, k7, k9, cw4, cw6, cw9, cx4, cx5, cg6, cg7, cg9, q2, q4, q7, z, z2, le2, le3, le4, le9, vdr, bne_self_eq_false]
end Go.Proofs.Ytaahjfjpbilfnaa.V
