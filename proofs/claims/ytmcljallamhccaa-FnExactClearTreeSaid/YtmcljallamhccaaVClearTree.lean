/- ClearTree: the law. -/
import Derived.Test.YtmcljallamhccaaVDU
namespace Go.Proofs.Ytmcljallamhccaa.V
open Go
set_option linter.unusedVariables false
set_option linter.unusedSimpArgs false
set_option maxRecDepth 100000
theorem cell0 {H H' : Hp} {cs : List Value} {S : Nat → Prop} (hf : Fr S (H ++ [some ⟨cs, true, false⟩]) H') (hS : ¬ S H.length) (l : List (Option Blk)) (n : Nat) (hn : n = cs.length) : rdN (H' ++ l) ⟨H.length, 0, none⟩ n = some cs := by
  subst hn
  have h1 := hf.rdN H.length 0 cs.length (by simp) hS
  have h2 : rdN (H ++ [some ⟨cs, true, false⟩]) ⟨H.length, 0, none⟩ cs.length = some cs := by simp [rdN0]
  rw [h2] at h1
  have hlt : H.length < H'.length := by have := hf.len; simp at this; omega
  rw [rdNo hlt]; exact h1
theorem sF_km {F : Fo} {r : Int} (hr : 0 ≤ r) (h : r = 1048576 - (F.n.length : Int) - kN' F.n - (F.b.length : Int)) : Km (1 + sF F) := by
  have key : ∀ l : List Nd, sN l = 2 * (l.length : Int) + kN' l ∧ 0 ≤ kN' l := by
    intro l
    induction l with
    | nil => simp [sN, kN']
    | cons x r ih => simp only [sN, kN', List.map_cons, List.sum_cons, List.length_cons] at ih ⊢; omega
  obtain ⟨h1, h2⟩ := key F.n
  unfold Km sF
  omega
/-- The law. -/
theorem law_c (d lo : Nat) (H : Hp) {an nn ab nb F} (h : RF H an nn ab nb F) (hF : ArgF F) (root : Int) (at_ : Int) (hw1 : (Lit.int .i64 root).wf = true) (hw2 : (Lit.int .i64 at_).wf = true) : vcall env (d + 9) 16 [.agg #[.slice an nn (sg an 3), .slice ab nb (sg ab 2)], .int .i64 root, .int .i64 at_] lo H = some (.bool true, H) := by
  have hs := hF.sf
  obtain ⟨HB, hHB⟩ : ∃ HB, HB = H ++ [some ⟨[.slice an nn (sg an 3), .slice ab nb (sg ab 2)], true, false⟩] := ⟨_, rfl⟩
  have hp : PF HB H.length 0 an nn ab nb F := by rw [hHB]; exact ⟨by simp [rd0], by simp [rd0], h.app⟩
  have hf0 : Fn H HB := by rw [hHB]; exact Fr.app
  have hl0 : HB.length = H.length + 1 := by rw [hHB]; simp
  obtain ⟨r, hsz, hr⟩ := szForest_c (d + 4) H.length HB hp.f hs 1048576 (by unfold Lf; omega) (by omega)
  rw [call_eq find16 _ _ _ rfl]
  by_cases hr0 : r < 0
  · subst hHB
    simp only [Nat.add_assoc, Nat.reduceAdd] at hsz
    simp -implicitDefEqProofs only [v16, VMs, noRef, noRef1, isRef, List.all_cons, List.all_nil, vop, VOp.still, VOp.app, VOp.plain, allP, lof, evs, start, asI, vbin, vcells, ntup, setAll, vfill, vress, vres, tup, Nat.reduceEqDiff, ↓reduceIte, Nat.reduceAdd, Nat.reduceMul, Nat.reduceLeDiff, reduceCtorEq, hsz, hr0, decide_true]
  have hkm := sF_km (by omega) (hr (by omega))
  obtain ⟨v1, H1, t1, S1, T1, an1, nn1, ab1, nb1, rfl, f1, g1, o1, z1⟩ := toForestX_c (d + 4) H.length HB hp.f hF
  obtain ⟨w, H2, s1, hW⟩ := specClearTree_c (d + 2) H.length H1 (o1.rx z1) hs root at_
  obtain ⟨hsm, hkg⟩ := resClearTree_sz F root at_
  obtain ⟨C, R, G, hRS⟩ : ∃ C R G, resClearTree F root at_ = (C, R, G) := ⟨_, _, _, rfl⟩
  simp only [hRS] at hW hsm hkg
  obtain ⟨SW, TW, aw, nw, bw, mw, rfl, f2, gW, oW⟩ := hW
  obtain ⟨CW, hCW⟩ : ∃ CW : List Value, CW = [.int .i64 C, .int .i64 R, .slice aw nw (sg aw 3), .slice bw mw (sg bw 2)] := ⟨_, rfl⟩
  have p2 := (hp.fn f1).fn f2
  have p2' := p2.fn (Fr.app (l := [some ⟨CW, true, false⟩]))
  obtain ⟨v2, H3, t2, S2, T2, an2, nn2, ab2, nb2, rfl, f3, g3, o2, z2⟩ := toForestX_c (d + 4) H.length _ p2'.f hF
  have rx3 := (o2.rx z2).fn (Fr.app (l := [some ⟨[.slice an2 nn2 (sg an2 3), .slice ab2 nb2 (sg ab2 2)], true, false⟩]))
  obtain ⟨gv, H4, i1, hG⟩ := implClearTree_c d H.length _ rx3 hs root at_
  simp only [hRS] at hG
  obtain ⟨SG, TG, ag, ng, bg, mg, rfl, f4, gG, oG⟩ := hG
  obtain ⟨CG, hCG⟩ : ∃ CG : List Value, CG = [.int .i64 C, .int .i64 R, .slice ag ng (sg ag 3), .slice bg mg (sg bg 2)] := ⟨_, rfl⟩
  have L1 := f1.len
  have L2 := f2.len
  have L3 := f3.len
  have L4 := f4.len
  simp only [List.length_append, List.length_cons, List.length_nil] at L3 L4 g3 gG
  obtain ⟨H4c, hH4c⟩ : ∃ H4c, H4c = H4 ++ [some ⟨CG, true, false⟩] := ⟨_, rfl⟩
  have f44 : Fn H4 H4c := by rw [hH4c]; exact Fr.app
  have p4 := ((p2'.fn f3).fn (Fr.app (l := [some ⟨[.slice an2 nn2 (sg an2 3), .slice ab2 nb2 (sg ab2 2)], true, false⟩]))).fn (f4.trans f44)
  obtain ⟨v3, H5, t3, S3, T3, an3, nn3, ab3, nb3, rfl, f5, g5, o3⟩ := toForest_c (d + 4) H4c.length H4c p4.f hF
  have L5 := f5.len
  have hl4c : H4c.length = H4.length + 1 := by rw [hH4c]; simp
  have f45 : Fn H4 H5 := f44.trans f5
  have fo5 := (o2.fr (U := fun _ => False) (fun _ _ => id) (Fr.app (l := [some ⟨[.slice an2 nn2 (sg an2 3), .slice ab2 nb2 (sg ab2 2)], true, false⟩]))).fr (U := fun _ => False) (fun _ _ => id) (f4.trans f45)
  have hb2 : ∀ i, S2 i ∨ T2 i → H2.length + 1 ≤ i ∧ i < H3.length := fun i hi => ⟨g3 i hi, o2.lt i hi⟩
  obtain ⟨H6, m6, f6, r6⟩ := markForest_c (d + 5) H.length H5 S2 T2 1 (fo5.lo (by simp; omega)) hs (by omega) hkm
  have L6 := f6.len
  have hbG : ∀ i, SG i ∨ TG i → H3.length + 1 ≤ i ∧ i < H4.length := fun i hi => ⟨gG i hi, oG.lt i hi⟩
  have fr46 : Fr (fun i => S2 i ∨ T2 i) H4c H6 := f5.no.trans f6
  have f24 : Fn (H2 ++ [some ⟨CW, true, false⟩]) H4c := f3.trans (Fr.app.trans (f4.trans f44))
  have f26 : Fn (H2 ++ [some ⟨CW, true, false⟩]) H6 := ((f24.trans f5).no.trans f6).new fun i hi => by have := (hb2 i hi).1; simpa using this
  have oG4 : FO (H3.length + 1) H4c SG TG ag ng bg mg G := by
    have := oG.fr (U := fun _ => False) (fun _ _ => id) f44
    simpa using this
  have oG6 : FO (H3.length + 1) H6 SG TG ag ng bg mg G := oG4.fr (fun i hi hs => by have := hbG i hi; have := hb2 i hs; omega) fr46
  obtain ⟨H7, m7, f7, r7⟩ := markForestResult_c (d + 4) H.length H6 SG TG C R 1 (oG6.lo (by omega)) hsm (by omega) hkg
  have L7 := f7.len
  have f27 : Fn (H2 ++ [some ⟨CW, true, false⟩]) H7 := (f26.no.trans f7).new fun i hi => by have := hbG i hi; simp; omega
  have f17 : Fn HB H7 := (f1.trans (f2.trans Fr.app)).trans f27
  have p7 := hp.fn f17
  obtain ⟨v4, H8, t4, S4, T4, an4, nn4, ab4, nb4, rfl, f8, g8, o4, z4⟩ := toForestX_c (d + 4) H.length H7 p7.f hF
  obtain ⟨gv', H9, i9, hH⟩ := implClearTree_c d H.length H8 (o4.rx z4) hs root at_
  simp only [hRS] at hH
  obtain ⟨SH, TH, ah, nh, bh, mh, rfl, f9, gH, oH⟩ := hH
  have L8 := f8.len
  have L9 := f9.len
  have f79 : Fn H7 H9 := f8.trans f9
  have rW : RF (H2 ++ [some ⟨CW, true, false⟩]) aw nw bw mw G := oW.rfs.rf.fn Fr.app
  have e4 := eqForestResult_c (d + 3) H.length H4c oG4.rfs.rf (rW.fn f24) hsm C R C R
  have e6 := eqForestResult_c (d + 3) H.length H6 oG6.rfs.rf (rW.fn f26) hsm C R C R
  have e9 := fun l => eqForestResult_c (d + 3) H.length (H9 ++ l) (oH.rfs.rf.fn Fr.app) (rW.fn ((f27.trans f79).trans (Fr.app (l := l)))) hsm C R C R
  have e5 := eqForest_c (d + 4) H.length H5 fo5.rfs.rf o3.rfs.rf hs
  have k7 := heldForestResult_c (d + 4) H.length H7 C R 1 r7.rf hsm (by omega) hkg
  have k9 := fun l => heldForestResult_c (d + 4) H.length (H9 ++ l) C R 1 (r7.rf.fn (f79.trans (Fr.app (l := l)))) hsm (by omega) hkg
  have hCW4 : CW.length = 4 := by rw [hCW]; rfl
  have hCG4 : CG.length = 4 := by rw [hCG]; rfl
  have cw4 := fun l => cell0 (f3.trans (Fr.app.trans f4)) id l 4 hCW4.symm
  have cw6 := cell0 f26 id [] 4 hCW4.symm
  have cw9 := fun l => cell0 (f27.trans f79) id l 4 hCW4.symm
  have cx4 := fun l => cell0 f4 id l 2 rfl
  have cx5 := cell0 (f4.trans f45) id [] 2 rfl
  have fG7 : Fr (fun i => (S2 i ∨ T2 i) ∨ (SG i ∨ TG i)) H4c H7 := (fr46.mono fun _ => Or.inl).trans (f7.mono fun _ => Or.inr)
  have nG : ¬ ((S2 H4.length ∨ T2 H4.length) ∨ (SG H4.length ∨ TG H4.length)) := fun hh => by
    rcases hh with hh | hh
    · have := (hb2 _ hh).2; omega
    · have := (hbG _ hh).2; omega
  rw [hH4c] at fr46 fG7
  have cg6 := cell0 fr46 (fun hh => nG (Or.inl hh)) [] 4 hCG4.symm
  have cg7 := cell0 fG7 nG [] 4 hCG4.symm
  have cg9 := fun l => cell0 (fG7.trans f79.no) nG l 4 hCG4.symm
  have q2 := p2'.rdN
  have q4 := p4.rdN
  have q7 := p7.rdN
  have z : decide (1 + sF F < 0) = false := decide_eq_false (by have := sF_nonneg F; omega)
  have zz : decide (1 + sF G < 0) = false := decide_eq_false (by have := sF_nonneg G; omega)
  have le2 : (H.length ≤ H2.length) = True := eq_true (by omega)
  have le3 : (H.length ≤ H3.length) = True := eq_true (by omega)
  have le4 : (H.length ≤ H4.length) = True := eq_true (by omega)
  have le9 : (H.length ≤ H9.length) = True := eq_true (by omega)
  subst hH4c
  subst hHB
  subst hCW
  subst hCG
  simp only [Nat.add_assoc, Nat.reduceAdd, List.length_append, List.length_cons, List.length_nil, Nat.zero_add, List.append_nil] at hsz t1 s1 t2 i1 t3 m6 m7 t4 i9 e4 e6 e9 e5 k7 k9 cw4 cw6 cw9 cx4 cx5 cg6 cg7 cg9 q2 q4 q7
  simp -implicitDefEqProofs only [v16, VMs, noRef, noRef1, isRef, List.all_cons, List.all_nil, vop, VOp.still, VOp.app, VOp.plain, allP, lof, evs, start, asI, vbin, vcells, ntup, setAll, vfill, vress, vres, tup, Nat.reduceEqDiff, ↓reduceIte, Nat.reduceAdd, Nat.reduceMul, Nat.reduceLeDiff, reduceCtorEq, hsz, hr0, decide_false, decide_true, t1, s1, t2, i1, t3, m6, m7, t4, i9, e4, e6, e9, e5, k7, k9, cw4, cw6, cw9, cx4, cx5, cg6, cg7, cg9, q2, q4, q7, z, zz, le2, le3, le4, le9, vdr, bne_self_eq_false]
end Go.Proofs.Ytmcljallamhccaa.V
