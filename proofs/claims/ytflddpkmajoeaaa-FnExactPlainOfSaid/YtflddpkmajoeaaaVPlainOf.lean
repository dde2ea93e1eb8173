/- PlainOf: the law. -/
import Derived.Test.YtflddpkmajoeaaaVLK
namespace Go.Proofs.Ytflddpkmajoeaaa.V
open Go
set_option linter.unusedVariables false
set_option linter.unusedSimpArgs false
set_option maxRecDepth 100000
theorem cell0 {H H' : Hp} {cs : List Value} {S : Nat → Prop} (hf : Fr S (H ++ [some ⟨cs, true, false⟩]) H') (hS : ¬ S H.length) (l : List (Option Blk)) (n : Nat) (hn : n = cs.length) : rdN (H' ++ l) ⟨H.length, 0, none⟩ n = some cs := by
  subst hn
  have h1 := hf.rdN H.length 0 cs.length (by simp) hS
  have h2 : rdN (H ++ [some ⟨cs, true, false⟩]) ⟨H.length, 0, none⟩ cs.length = some cs := by simp [rdN0]
  rw [h2] at h1
  have hlt : H.length < H'.length := by have := hf.len; simp at this; omega
  rw [rdNo hlt]; exact h1
theorem sP_km {p : Po} {r : Int} (hr : 0 ≤ r) (h : r = 1048576 - (p.f.n.length : Int) - kN' p.f.n - (p.f.b.length : Int) - (p.v.length : Int)) : Km (1 + sP p) := by
  have key : ∀ l : List Nd, sN l = 2 * (l.length : Int) + kN' l ∧ 0 ≤ kN' l := by
    intro l
    induction l with
    | nil => simp [sN, kN']
    | cons x r ih => simp only [sN, kN', List.map_cons, List.sum_cons, List.length_cons] at ih ⊢; omega
  obtain ⟨h1, h2⟩ := key p.f.n
  unfold Km sP sF
  omega
set_option maxHeartbeats 4000000 in
/-- The law. -/
theorem law_c (d lo : Nat) (H : Hp) {an nn ab nb av nv p} (h : RP' H an nn ab nb av nv p) (hF : ArgP p) : vcall env (d + 9) 9 [.agg #[.slice an nn (sg an 3), .slice ab nb (sg ab 2), .slice av nv (sg av 3)]] lo H = some (.bool true, H) := by
  have hs := hF.sp
  obtain ⟨HB, hHB⟩ : ∃ HB, HB = H ++ [some ⟨[.slice an nn (sg an 3), .slice ab nb (sg ab 2), .slice av nv (sg av 3)], true, false⟩] := ⟨_, rfl⟩
  have hp : PP HB H.length an nn ab nb av nv p := by rw [hHB]; exact ⟨⟨by simp [rd0], by simp [rd0], h.f.app⟩, by simp [rd0], h.v.app fun _ _ _ => EV.app⟩
  have hf0 : Fn H HB := by rw [hHB]; exact Fr.app
  have hl0 : HB.length = H.length + 1 := by rw [hHB]; simp
  obtain ⟨r, hsz, hr⟩ := szPool_c (d + 3) H.length HB hp.rp hs 1048576 (by unfold Lf; omega) (by omega)
  rw [call_eq find9 _ _ _ rfl]
  by_cases hr0 : r < 0
  · subst hHB
    simp only [Nat.add_assoc, Nat.reduceAdd] at hsz
    simp -implicitDefEqProofs only [v9, VMs, noRef, noRef1, isRef, List.all_cons, List.all_nil, vop, VOp.still, VOp.app, VOp.plain, allP, lof, evs, start, asI, vbin, vcells, ntup, setAll, vfill, vress, vres, tup, Nat.reduceEqDiff, ↓reduceIte, Nat.reduceAdd, Nat.reduceMul, Nat.reduceLeDiff, reduceCtorEq, hsz, hr0, decide_true]
  have hkm := sP_km (by omega) (hr (by omega))
  obtain ⟨v1, H1, t1, S1, T1, U1, an1, nn1, ab1, nb1, av1, nv1, rfl, f1, g1, o1⟩ := toPool_c (d + 3) H.length HB hp.rp hF
  obtain ⟨w, H2, s1, hW⟩ := specPlainOf_c (d + 2) H.length H1 o1.rp hs
  obtain ⟨hsm, hkg⟩ := resP_sz p
  generalize hRS : resP p = RS at *
  obtain ⟨C, G⟩ := RS
  simp only at hW hsm hkg
  obtain ⟨UW, VW, WW, aw, nw, bw, mw, cw_, kw, rfl, f2, gW, oW⟩ := hW
  obtain ⟨CW, hCW⟩ : ∃ CW : List Value, CW = [.int .i64 C, .int .i64 0, .int .i64 0, .int .i64 G.b, .slice aw nw (sg aw 3), .slice bw mw (sg bw 3), .slice cw_ kw (sg cw_ 1)] := ⟨_, rfl⟩
  have p2 := (hp.fn f1).fn f2
  have p2' := p2.fn (Fr.app (l := [some ⟨CW, true, false⟩]))
  obtain ⟨v2, H3, t2, S2, T2, U2, an2, nn2, ab2, nb2, av2, nv2, rfl, f3, g3, o2⟩ := toPool_c (d + 3) H.length _ p2'.rp hF
  have rx3 := o2.rp.fn (Fr.app (l := [some ⟨[.slice an2 nn2 (sg an2 3), .slice ab2 nb2 (sg ab2 2), .slice av2 nv2 (sg av2 3)], true, false⟩]))
  obtain ⟨gv, H4, i1, hG⟩ := implPlainOf_c d H.length _ rx3 hs
  rw [hRS] at hG
  simp only at hG
  obtain ⟨UG, VG, WG, ag, ng, bg, mg, cg_, kg, rfl, f4, gG, oG⟩ := hG
  obtain ⟨CG, hCG⟩ : ∃ CG : List Value, CG = [.int .i64 C, .int .i64 0, .int .i64 0, .int .i64 G.b, .slice ag ng (sg ag 3), .slice bg mg (sg bg 3), .slice cg_ kg (sg cg_ 1)] := ⟨_, rfl⟩
  have L1 := f1.len
  have L2 := f2.len
  have L3 := f3.len
  have L4 := f4.len
  simp only [List.length_append, List.length_cons, List.length_nil] at L3 L4 g3 gG
  obtain ⟨H4c, hH4c⟩ : ∃ H4c, H4c = H4 ++ [some ⟨CG, true, false⟩] := ⟨_, rfl⟩
  have f44 : Fn H4 H4c := by rw [hH4c]; exact Fr.app
  have p4 := ((p2'.fn f3).fn (Fr.app (l := [some ⟨[.slice an2 nn2 (sg an2 3), .slice ab2 nb2 (sg ab2 2), .slice av2 nv2 (sg av2 3)], true, false⟩]))).fn (f4.trans f44)
  obtain ⟨v3, H5, t3, S3, T3, U3, an3, nn3, ab3, nb3, av3, nv3, rfl, f5, g5, o3⟩ := toPool_c (d + 3) H4c.length H4c p4.rp hF
  have L5 := f5.len
  have hl4c : H4c.length = H4.length + 1 := by rw [hH4c]; simp
  have f45 : Fn H4 H5 := f44.trans f5
  have fo5 := (o2.fr (X := fun _ => False) (fun _ _ => id) (Fr.app (l := [some ⟨[.slice an2 nn2 (sg an2 3), .slice ab2 nb2 (sg ab2 2), .slice av2 nv2 (sg av2 3)], true, false⟩]))).fr (X := fun _ => False) (fun _ _ => id) (f4.trans f45)
  have hb2 : ∀ i, S2 i ∨ T2 i ∨ U2 i → H2.length + 1 ≤ i ∧ i < H3.length := fun i hi => ⟨g3 i hi, by
    rcases hi with hi | hi | hi
    · exact o2.f.lt i (Or.inl hi)
    · exact o2.f.lt i (Or.inr hi)
    · exact o2.lt i hi⟩
  obtain ⟨H6, m6, f6, r6⟩ := markPool_c (d + 4) H.length H5 S2 T2 U2 1 (fo5.lo (by simp; omega)) hs (by omega) hkm
  have L6 := f6.len
  have hbG : ∀ i, UG i ∨ VG i ∨ WG i → H3.length + 1 ≤ i ∧ i < H4.length := fun i hi => ⟨gG i hi, oG.lt i hi⟩
  have fr46 : Fr (fun i => S2 i ∨ T2 i ∨ U2 i) H4c H6 := f5.no.trans f6
  have f24 : Fn (H2 ++ [some ⟨CW, true, false⟩]) H4c := f3.trans (Fr.app.trans (f4.trans f44))
  have f26 : Fn (H2 ++ [some ⟨CW, true, false⟩]) H6 := ((f24.trans f5).no.trans f6).new fun i hi => by have := (hb2 i hi).1; simpa using this
  have oG4 : LO (H3.length + 1) H4c UG VG WG ag ng bg mg cg_ kg G := by
    have := oG.fr (X := fun _ => False) (fun _ _ => id) f44
    simpa using this
  have oG6 : LO (H3.length + 1) H6 UG VG WG ag ng bg mg cg_ kg G := oG4.fr (fun i hi hs => by have := hbG i hi; have := hb2 i hs; omega) fr46
  obtain ⟨H7, m7, f7, r7⟩ := markPlainResult_c (d + 5) H.length H6 UG VG WG C 0 0 1 (oG6.lo (by omega)) hsm (by omega) hkg
  have L7 := f7.len
  have f27 : Fn (H2 ++ [some ⟨CW, true, false⟩]) H7 := (f26.no.trans f7).new fun i hi => by have := hbG i hi; simp; omega
  have f17 : Fn HB H7 := (f1.trans (f2.trans Fr.app)).trans f27
  have p7 := hp.fn f17
  obtain ⟨v4, H8, t4, S4, T4, U4, an4, nn4, ab4, nb4, av4, nv4, rfl, f8, g8, o4⟩ := toPool_c (d + 3) H.length H7 p7.rp hF
  obtain ⟨gv', H9, i9, hH⟩ := implPlainOf_c d H.length H8 o4.rp hs
  rw [hRS] at hH
  simp only at hH
  obtain ⟨UH, VH, WH, ah, nh, bh, mh, ch_, kh, rfl, f9, gH, oH⟩ := hH
  have L8 := f8.len
  have L9 := f9.len
  have f79 : Fn H7 H9 := f8.trans f9
  have rW : RL (H2 ++ [some ⟨CW, true, false⟩]) aw nw bw mw cw_ kw G := oW.r.fn Fr.app
  have e4 := eqPlainResult_c (d + 4) H.length H4c oG4.r (rW.fn f24) hsm C 0 0 C 0 0
  have e6 := eqPlainResult_c (d + 4) H.length H6 oG6.r (rW.fn f26) hsm C 0 0 C 0 0
  have e9 := fun l => eqPlainResult_c (d + 4) H.length (H9 ++ l) (oH.r.fn Fr.app) (rW.fn ((f27.trans f79).trans (Fr.app (l := l)))) hsm C 0 0 C 0 0
  have e5 := eqPool_c (d + 3) H.length H5 fo5.rp o3.rp hs
  have k7 := heldPlainResult_c (d + 5) H.length H7 C 0 0 1 r7 hsm (by omega) hkg
  have k9 := fun l => heldPlainResult_c (d + 5) H.length (H9 ++ l) C 0 0 1 (r7.fn (f79.trans (Fr.app (l := l)))) hsm (by omega) hkg
  have hCW4 : CW.length = 7 := by rw [hCW]; rfl
  have hCG4 : CG.length = 7 := by rw [hCG]; rfl
  have cw4 := fun l => cell0 (f3.trans (Fr.app.trans f4)) id l 7 hCW4.symm
  have cw6 := cell0 f26 id [] 7 hCW4.symm
  have cw9 := fun l => cell0 (f27.trans f79) id l 7 hCW4.symm
  have cx4 := fun l => cell0 f4 id l 3 rfl
  have cx5 := cell0 (f4.trans f45) id [] 3 rfl
  have fG7 : Fr (fun i => (S2 i ∨ T2 i ∨ U2 i) ∨ (UG i ∨ VG i ∨ WG i)) H4c H7 := (fr46.mono fun _ => Or.inl).trans (f7.mono fun _ => Or.inr)
  have nG : ¬ ((S2 H4.length ∨ T2 H4.length ∨ U2 H4.length) ∨ (UG H4.length ∨ VG H4.length ∨ WG H4.length)) := fun hh => by
    rcases hh with hh | hh
    · have := (hb2 _ hh).2; omega
    · have := (hbG _ hh).2; omega
  rw [hH4c] at fr46 fG7
  have cg6 := cell0 fr46 (fun hh => nG (Or.inl hh)) [] 7 hCG4.symm
  have cg7 := cell0 fG7 nG [] 7 hCG4.symm
  have cg9 := fun l => cell0 (fG7.trans f79.no) nG l 7 hCG4.symm
  have q2 := p2'.rdN
  have q4 := p4.rdN
  have q7 := p7.rdN
  have z : decide (1 + sP p < 0) = false := decide_eq_false (by have := sP_nonneg p; omega)
  have zz : decide (1 + sL G < 0) = false := decide_eq_false (by unfold sL; omega)
  have le2 : (H.length ≤ H2.length) = True := eq_true (by omega)
  have le3 : (H.length ≤ H3.length) = True := eq_true (by omega)
  have le4 : (H.length ≤ H4.length) = True := eq_true (by omega)
  have le9 : (H.length ≤ H9.length) = True := eq_true (by omega)
  subst hH4c
  subst hHB
  subst hCW
  subst hCG
  simp only [VR_, Nat.add_assoc, Nat.reduceAdd, List.length_append, List.length_cons, List.length_nil, Nat.zero_add, List.append_nil] at hsz t1 s1 t2 i1 t3 m6 m7 t4 i9 e4 e6 e9 e5 k7 k9 cw4 cw6 cw9 cx4 cx5 cg6 cg7 cg9 q2 q4 q7
  simp -implicitDefEqProofs only [v9, VMs, noRef, noRef1, isRef, List.all_cons, List.all_nil, vop, VOp.still, VOp.app, VOp.plain, allP, lof, evs, start, asI, vbin, vcells, ntup, setAll, vfill, vress, vres, tup, Nat.reduceEqDiff, ↓reduceIte, Nat.reduceAdd, Nat.reduceMul, Nat.reduceLeDiff, reduceCtorEq, hsz, hr0, decide_false, decide_true, t1, s1, t2, i1, t3, m6, m7, t4, i9, e4, e6, e9, e5, k7, k9, cw4, cw6, cw9, cx4, cx5, cg6, cg7, cg9, q2, q4, q7, z, zz, le2, le3, le4, le9, vdr, bne_self_eq_false]
end Go.Proofs.Ytflddpkmajoeaaa.V
