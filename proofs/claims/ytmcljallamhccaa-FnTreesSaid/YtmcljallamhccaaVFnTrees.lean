/- FnTrees: the law. -/
import Derived.Test.YtmcljallamhccaaVTM
namespace Go.Proofs.Ytmcljallamhccaa.V
open Go
set_option linter.unusedVariables false
set_option linter.unusedSimpArgs false
set_option maxRecDepth 100000
theorem lwBig_c (d lo : Nat) (H : Hp) (a : Option Addr) (n s : Nat) : vcall env (d + 1) 38 [.slice a n s] lo H = some (.bool (decide (1048576 < n)), H) := by
  have e : decide ((n : Int) > 1048576) = decide (1048576 < n) := by
    by_cases h : 1048576 < n
    · rw [decide_eq_true h]; exact decide_eq_true (by omega)
    · rw [decide_eq_false h]; exact decide_eq_false (by omega)
  rw [call_eq find38 _ _ _ rfl]
  simp -implicitDefEqProofs only [v38, VMs, noRef, noRef1, isRef, List.all_cons, List.all_nil, vop, VOp.still, VOp.app, VOp.plain, allP, lof, evs, start, asI, vbin, vcells, ntup, setAll, vfill, vress, vres, tup, Nat.reduceEqDiff, ↓reduceIte, Nat.reduceAdd, Nat.reduceMul, Nat.reduceLeDiff, reduceCtorEq, slen, e]
theorem cellN {H H' : Hp} {cs : List Value} (hf : Fn (H ++ [some ⟨cs, true, false⟩]) H') (o n : Nat) (h : o + n ≤ cs.length) : V.rdN H' ⟨H.length, o, none⟩ n = some ((cs.drop o).take n) := by
  rw [hf.rdN H.length o n (by simp) id]; simp [rdN0, h]
theorem cell1 {H H' : Hp} {cs : List Value} (hf : Fn (H ++ [some ⟨cs, true, false⟩]) H') (k : Nat) : V.rd H' ⟨H.length, k, none⟩ = cs[k]? := by
  rw [hf.rd H.length k (by simp) id]; simp [rd0]
theorem ieqs2 (a b : Int) : ieqs [.int .i64 a, .int .i64 b] [.int .i64 a, .int .i64 b] = some true := by simp [ieqs]
set_option maxHeartbeats 4000000 in
/-- The law. -/
theorem law_c (d lo : Nat) (H : Hp) {ac : Option Addr} {code : List Int} (hc : Rep EY 1 H ac code.length code) (hy : ∀ x ∈ code, 0 ≤ x ∧ x ≤ 255) : vcall env (d + 11) 18 [.slice ac code.length (sg ac 1)] lo H = some (.bool true, H) := by
  rw [call_eq find18 _ _ _ rfl]
  by_cases hbig : 1048576 < code.length
  · simp -implicitDefEqProofs only [v18, VMs, noRef, noRef1, isRef, List.all_cons, List.all_nil, vop, VOp.still, VOp.app, VOp.plain, allP, lof, evs, start, asI, vbin, vcells, ntup, setAll, vfill, vress, vres, tup, Nat.reduceEqDiff, ↓reduceIte, Nat.reduceAdd, Nat.reduceMul, Nat.reduceLeDiff, reduceCtorEq, lwBig_c, hbig, decide_true]
  have hn : code.length ≤ 1048576 := by omega
  obtain ⟨an, nn, ab, nb, F0, root, at_, data, H1, c1, dt⟩ := drawSet_c d H.length H hc hy hn
  obtain ⟨CA, hCA⟩ : ∃ CA : List Value, CA = [.slice an nn (sg an 3), .slice ab nb (sg ab 2)] := ⟨_, rfl⟩
  obtain ⟨HA, hHA⟩ : ∃ HA : Hp, HA = H1 ++ [some ⟨CA, true, false⟩] := ⟨_, rfl⟩
  have fA : Fn H1 HA := hHA ▸ Fr.app
  have l1 := dt.f.len
  have lA : HA.length = H1.length + 1 := by rw [hHA]; simp
  have kA : ∀ X, Fn HA X → rdN X ⟨H1.length, 0, none⟩ 2 = some [.slice an nn (sg an 3), .slice ab nb (sg ab 2)] := fun X f => by
    rw [hHA] at f; rw [cellN f 0 2 (by rw [hCA]; simp), hCA]; rfl
  have rx0 := dt.rx.fn fA
  have sf0 := dt.sf
  have hle1 : (H.length ≤ H1.length) = True := eq_true (by omega)
  obtain ⟨v2, H2, c2, S1, T1, an1, nn1, ab1, nb1, rfl, f2, g2, o2⟩ := implShareTree_c (d + 2) H.length HA rx0 sf0 root
  have l2 := f2.len
  have hle2 : (H.length ≤ H2.length) = True := eq_true (by omega)
  obtain ⟨CB, hCB⟩ : ∃ CB : List Value, CB = [.int .i64 (resShareTree F0 root).1, .int .i64 (resShareTree F0 root).2.1, .slice an1 nn1 (sg an1 3), .slice ab1 nb1 (sg ab1 2)] := ⟨_, rfl⟩
  obtain ⟨HB, hHB⟩ : ∃ HB : Hp, HB = H2 ++ [some ⟨CB, true, false⟩] := ⟨_, rfl⟩
  have fB : Fn H2 HB := hHB ▸ Fr.app
  have lB : HB.length = H2.length + 1 := by rw [hHB]; simp
  have kB : ∀ X, Fn HB X → rdN X ⟨H2.length, 2, none⟩ 2 = some [.slice an1 nn1 (sg an1 3), .slice ab1 nb1 (sg ab1 2)] := fun X f => by
    rw [hHB] at f; rw [cellN f 2 2 (by rw [hCB]; simp), hCB]; rfl
  have kB0 : ∀ X, Fn HB X → rd X ⟨H2.length, 0, none⟩ = some (.int .i64 (resShareTree F0 root).1) := fun X f => by
    rw [hHB] at f; rw [cell1 f, hCB]; rfl
  have fAB : Fn HA HB := f2.trans fB
  have a2 := kA HB fAB
  by_cases hne : (resShareTree F0 root).1 ≠ 0
  · obtain ⟨v3, H3, c3, _, _, _, _, _, _, rfl, f3, _, _⟩ := specShareTree_c (d + 4) HB.length HB (rx0.fn fAB) sf0 root
    obtain ⟨v4, H4, c4, _, _, _, _, _, _, rfl, f4, _, _⟩ := implSetTree_c (d + 2) H3.length H3 ((rx0.fn fAB).fn f3) sf0 root at_ data
    obtain ⟨v5, H5, c5, _, _, _, _, _, _, rfl, f5, _, _⟩ := specSetTree_c (d + 4) H4.length H4 (((rx0.fn fAB).fn f3).fn f4) sf0 root at_ data
    have b2 := kB0 HB Fr.refl
    have hb : ((resShareTree F0 root).1 != 0) = true := bne_iff_ne.2 hne
    subst hHB hHA hCA hCB
    simp only [List.length_append, List.length_cons, List.length_nil, Nat.zero_add] at c3
    simp -implicitDefEqProofs only [v18, VMs, noRef, noRef1, isRef, List.all_cons, List.all_nil, vop, VOp.still, VOp.app, VOp.plain, allP, lof, evs, start, asI, vbin, vcells, ntup, setAll, vfill, vress, vres, tup, Nat.reduceEqDiff, ↓reduceIte, Nat.reduceAdd, Nat.reduceMul, Nat.reduceLeDiff, reduceCtorEq, lwBig_c, hbig, decide_false, List.getElem?_toArray, c1, c2, hle1, hle2, hb, vdr, a2, b2, c3, c4, c5, beq_self_eq_true]
  replace hne : (resShareTree F0 root).1 = 0 := Classical.byContradiction hne
  have b2 := kB0 HB Fr.refl
  have d2 := kB HB Fr.refl
  have sf1 := (resShareTree_sz F0 root).1
  have rx1 := o2.rx.fn fB
  have hset := @tr_of F0 root at_ data hne
  rw [hne] at c2 b2 hCB
  generalize (resShareTree F0 root).2.1 = r1 at *
  generalize (resShareTree F0 root).2.2 = F1 at *
  obtain ⟨v3, H3, c3, S2, T2, an2, nn2, ab2, nb2, rfl, f3, g3, o3⟩ := implSetTree_c (d + 2) H.length HB rx1 sf1 root at_ data
  have l3 := f3.len
  have hle3 : (H.length ≤ H3.length) = True := eq_true (by omega)
  obtain ⟨CC, hCC⟩ : ∃ CC : List Value, CC = [.int .i64 (resSetTree F1 root at_ data).1, .int .i64 (resSetTree F1 root at_ data).2.1, .slice an2 nn2 (sg an2 3), .slice ab2 nb2 (sg ab2 2)] := ⟨_, rfl⟩
  obtain ⟨HC, hHC⟩ : ∃ HC : Hp, HC = H3 ++ [some ⟨CC, true, false⟩] := ⟨_, rfl⟩
  have fC : Fn H3 HC := hHC ▸ Fr.app
  have lC : HC.length = H3.length + 1 := by rw [hHC]; simp
  have kC : ∀ X, Fn HC X → rdN X ⟨H3.length, 2, none⟩ 2 = some [.slice an2 nn2 (sg an2 3), .slice ab2 nb2 (sg ab2 2)] := fun X f => by
    rw [hHC] at f; rw [cellN f 2 2 (by rw [hCC]; simp), hCC]; rfl
  have kC0 : ∀ X, Fn HC X → rd X ⟨H3.length, 0, none⟩ = some (.int .i64 (resSetTree F1 root at_ data).1) := fun X f => by
    rw [hHC] at f; rw [cell1 f, hCC]; rfl
  have kC1 : ∀ X, Fn HC X → rd X ⟨H3.length, 1, none⟩ = some (.int .i64 (resSetTree F1 root at_ data).2.1) := fun X f => by
    rw [hHC] at f; rw [cell1 f, hCC]; rfl
  have fBC : Fn HB HC := f3.trans fC
  have c3d := kB HC fBC
  have c30 := kC0 HC Fr.refl
  by_cases hne3 : (resSetTree F1 root at_ data).1 ≠ 0
  · obtain ⟨v4, H4, c4, _, _, _, _, _, _, rfl, f4, _, _⟩ := specSetTree_c (d + 4) HC.length HC (rx1.fn fBC) sf1 root at_ data
    have hb : ((resSetTree F1 root at_ data).1 != 0) = true := bne_iff_ne.2 hne3
    subst hHC hHB hHA hCA hCB hCC
    simp only [List.length_append, List.length_cons, List.length_nil, Nat.zero_add] at c4
    simp -implicitDefEqProofs only [v18, VMs, noRef, noRef1, isRef, List.all_cons, List.all_nil, vop, VOp.still, VOp.app, VOp.plain, allP, lof, evs, start, asI, vbin, vcells, ntup, setAll, vfill, vress, vres, tup, Nat.reduceEqDiff, ↓reduceIte, Nat.reduceAdd, Nat.reduceMul, Nat.reduceLeDiff, reduceCtorEq, lwBig_c, hbig, decide_false, List.getElem?_toArray, c1, c2, hle1, hle2, a2, b2, d2, bne_self_eq_false, c3, hle3, hb, vdr, c3d, c30, c4, beq_self_eq_true]
  replace hne3 : (resSetTree F1 root at_ data).1 = 0 := Classical.byContradiction hne3
  obtain ⟨p, m, F3, hm, tr⟩ := hset hne3
  obtain ⟨rfl, hp15⟩ := tr.at_
  have sf2 := (resSetTree_sz F1 root (p : Int) data).1
  have rx2 := o3.rx.fn fC
  rw [hne3, hm] at c3 hCC
  rw [hne3] at c30 kC0
  rw [hm] at kC1
  generalize (resSetTree F1 root (p : Int) data).2.2 = F2 at *
  have a3 := kA HC (fAB.trans fBC)
  obtain ⟨v4, H4, c4, a4, rfl, f4, r4, _⟩ := implWalkTree_c (d + 2) H.length HC (rx0.fn (fAB.trans fBC)).r sf0 root
  rw [tr.w0] at c4
  have l4 := f4.len
  have hle4 : (H.length ≤ H4.length) = True := eq_true (by omega)
  obtain ⟨CD, hCD⟩ : ∃ CD : List Value, CD = [.int .i64 0, .slice a4 (walkR F0 root).length (sg a4 1)] := ⟨_, rfl⟩
  obtain ⟨HD, hHD⟩ : ∃ HD : Hp, HD = H4 ++ [some ⟨CD, true, false⟩] := ⟨_, rfl⟩
  have fD : Fn H4 HD := hHD ▸ Fr.app
  have lD : HD.length = H4.length + 1 := by rw [hHD]; simp
  have kD0 : ∀ X, Fn HD X → rd X ⟨H4.length, 0, none⟩ = some (.int .i64 0) := fun X f => by
    rw [hHD] at f; rw [cell1 f, hCD]; rfl
  have kD1 : ∀ X, Fn HD X → rd X ⟨H4.length, 1, none⟩ = some (.slice a4 (walkR F0 root).length (sg a4 1)) := fun X f => by
    rw [hHD] at f; rw [cell1 f, hCD]; rfl
  have fCD : Fn HC HD := f4.trans fD
  have fBD := fBC.trans fCD
  -- what every place shows
  have hloop : ∃ r, lim (rnd (vcall env (d + 10)) H.length [3, 4, 5, 6, 7, 8, 9, 10] [2, 3, 4, 8, 9] l18_0) [(3, .pointer (some ⟨H1.length, 0, none⟩)), (4, .int .i64 root), (5, .int .i64 (p : Nat)), (6, .int .i64 data), (7, .pointer (some ⟨H2.length, 0, none⟩)), (8, .pointer (some ⟨H3.length, 0, none⟩)), (9, .pointer (some ⟨H4.length, 0, none⟩)), (10, .int .i64 0)] HD = some r ∧
      ∃ H', r = (.exit 0, [(3, .pointer (some ⟨H1.length, 0, none⟩)), (4, .int .i64 root), (8, .pointer (some ⟨H3.length, 0, none⟩)), (9, .pointer (some ⟨H4.length, 0, none⟩))], H') ∧ Fn HD H' := by
    refine lim_inv (fun j ts X => ts = [(3, .pointer (some ⟨H1.length, 0, none⟩)), (4, .int .i64 root), (5, .int .i64 (p : Nat)), (6, .int .i64 data), (7, .pointer (some ⟨H2.length, 0, none⟩)), (8, .pointer (some ⟨H3.length, 0, none⟩)), (9, .pointer (some ⟨H4.length, 0, none⟩)), (10, .int .i64 (j : Nat))] ∧ Fn HD X) 16 ?_ ?_ ?_
    · rintro j ts X hj ⟨rfl, fX⟩
      have lX := fX.len
      have hleX : (H.length ≤ X.length) = True := eq_true (by omega)
      have hleX1 : (H.length ≤ X.length + 1) = True := eq_true (by omega)
      have x1 := kB X (fBD.trans fX)
      have e1 := implLookTree_c (d + 2) H.length X (rx1.fn (fBD.trans fX)).r sf1 root (j : Nat)
      have y1 := fun l => kC (X ++ l) ((fCD.trans fX).trans Fr.app)
      have y2 := fun l => kC1 (X ++ l) ((fCD.trans fX).trans Fr.app)
      have e2 := fun l => implLookTree_c (d + 2) H.length (X ++ l) (rx2.fn ((fCD.trans fX).trans (Fr.app (l := l)))).r sf2 (m : Int) (j : Nat)
      have hjd : decide ((j : Int) < 16) = true := decide_eq_true (by omega)
      have hw : IntKind.i64.wrap ((j : Int) + 1) = ((j + 1 : Nat) : Int) := by rw [wr (by omega) (by omega)]; omega
      refine ⟨_, X ++ [some ⟨[.int .i64 (lookC F1 root (j : Nat)), .int .i64 (lookV F1 root (j : Nat))], true, false⟩, some ⟨[.int .i64 (lookC F2 (m : Int) (j : Nat)), .int .i64 (lookV F2 (m : Int) (j : Nat))], true, false⟩], ?_, rfl, fX.trans Fr.app⟩
      by_cases hjp : j = p
      · subst hjp
        obtain ⟨q1, q2⟩ := tr.lookp
        rw [q1, q2] at e2 ⊢
        simp -implicitDefEqProofs only [rnd, l18_0, VMs, noRef, noRef1, isRef, List.all_cons, List.all_nil, vop, VOp.still, VOp.app, VOp.plain, allP, lof, evs, start, asI, vbin, vcells, ntup, setAll, vfill, vress, vres, tup, Nat.reduceEqDiff, ↓reduceIte, Nat.reduceAdd, Nat.reduceMul, Nat.reduceLeDiff, reduceCtorEq, hjd, x1, e1, hleX, y1, y2, e2, hleX1, beq_self_eq_true, bne_self_eq_false, hw]
      · have hb : (((j : Nat) : Int) == ((p : Nat) : Int)) = false := beq_eq_false_iff_ne.2 (by omega)
        have hb' : (((j : Nat) : Int) != ((p : Nat) : Int)) = true := bne_iff_ne.2 (by omega)
        obtain ⟨q1, q2⟩ := tr.look j (by omega) hjp
        rw [q1, q2] at e2 ⊢
        simp -implicitDefEqProofs only [rnd, l18_0, VMs, noRef, noRef1, isRef, List.all_cons, List.all_nil, vop, VOp.still, VOp.app, VOp.plain, allP, lof, evs, start, asI, vbin, vcells, ntup, setAll, vfill, vress, vres, tup, Nat.reduceEqDiff, ↓reduceIte, Nat.reduceAdd, Nat.reduceMul, Nat.reduceLeDiff, reduceCtorEq, hjd, x1, e1, hleX, y1, y2, e2, hleX1, hb, hb', List.size_toArray, ieqs2, hw]
    · rintro ts X ⟨rfl, fX⟩
      have h16 : decide (((16 : Nat) : Int) < 16) = false := decide_eq_false (by omega)
      exact ⟨_, by simp -implicitDefEqProofs only [rnd, l18_0, VMs, noRef, noRef1, isRef, List.all_cons, List.all_nil, vop, VOp.still, VOp.app, VOp.plain, allP, lof, evs, start, asI, vbin, vcells, ntup, setAll, vfill, vress, vres, tup, Nat.reduceEqDiff, ↓reduceIte, Nat.reduceAdd, Nat.reduceMul, Nat.reduceLeDiff, reduceCtorEq, h16], by simp, X, rfl, fX⟩
    · exact ⟨rfl, Fr.refl⟩
  obtain ⟨_, hl, H5, rfl, f5⟩ := hloop
  have l5 := f5.len
  obtain ⟨v6, H6, c6, S3, T3, an3, nn3, ab3, nb3, rfl, f6, g6, o6⟩ := implDropTree_c (d + 2) H.length H5 (rx2.fn (fCD.trans f5)) sf2 (m : Int)
  have l6 := f6.len
  have hle6 : (H.length ≤ H6.length) = True := eq_true (by omega)
  rw [tr.d] at c6 o6
  simp only at c6 o6
  have y1 := kC H5 (fCD.trans f5)
  have y2 := kC1 H5 (fCD.trans f5)
  obtain ⟨CE, hCE⟩ : ∃ CE : List Value, CE = [.int .i64 0, .int .i64 (-1), .slice an3 nn3 (sg an3 3), .slice ab3 nb3 (sg ab3 2)] := ⟨_, rfl⟩
  obtain ⟨HE, hHE⟩ : ∃ HE : Hp, HE = H6 ++ [some ⟨CE, true, false⟩] := ⟨_, rfl⟩
  have fE : Fn H6 HE := hHE ▸ Fr.app
  have lE : HE.length = H6.length + 1 := by rw [hHE]; simp
  have kE : rdN HE ⟨H6.length, 2, none⟩ 2 = some [.slice an3 nn3 (sg an3 3), .slice ab3 nb3 (sg ab3 2)] := by
    rw [cellN (H := H6) (cs := CE) (by rw [← hHE]; exact Fr.refl) 2 2 (by rw [hCE]; simp), hCE]; rfl
  have kE0 : rd HE ⟨H6.length, 0, none⟩ = some (.int .i64 0) := by
    rw [cell1 (H := H6) (cs := CE) (by rw [← hHE]; exact Fr.refl), hCE]; rfl
  have fDE : Fn HD HE := f5.trans (f6.trans fE)
  have fCE := fCD.trans fDE
  have zA := kA HE ((fAB.trans fBC).trans fCE)
  have zC := kC HE fCE
  have zD0 := kD0 HE fDE
  have zD1 := kD1 HE fDE
  have rx2E := rx2.fn fCE
  have rx3E := o6.rx.fn fE
  have rx0E := rx0.fn ((fAB.trans fBC).trans fCE)
  have r4E := r4.fr (fun _ _ => id) (fD.trans fDE)
  have cf2 := implForestFault_c (d + 4) HE.length HE rx2E.r sf2
  rw [tr.f2] at cf2
  obtain ⟨v7, H7, c7, a7, rfl, f7, r7, _⟩ := implWalkTree_c (d + 2) HE.length HE rx2E.r sf2 root
  rw [tr.w2] at c7 r7
  have sml : Sm (walkR F0 root).length := by have := tr.wl; unfold Sm; omega
  have n7 := lwNums_c (d + 9) H7.length H7 r7 (r4E.fr (fun _ _ => id) f7) sml
  have cf3 := implForestFault_c (d + 4) H7.length H7 (rx3E.fn f7).r tr.s3
  rw [tr.f3] at cf3
  obtain ⟨v8, H8, c8, a8, rfl, f8, r8, _⟩ := implWalkTree_c (d + 2) H7.length H7 (rx3E.fn f7).r tr.s3 root
  rw [tr.w3] at c8 r8
  have n8 := lwNums_c (d + 9) H8.length H8 r8 ((r4E.fr (fun _ _ => id) f7).fr (fun _ _ => id) f8) sml
  obtain ⟨v9, H9, c9, a9, rfl, f9, r9, _⟩ := specWalkTree_c (d + 4) H8.length H8 ((rx0E.fn f7).fn f8).r sf0 root
  have n9 := lwNums_c (d + 9) H.length H9 (((r4E.fr (fun _ _ => id) f7).fr (fun _ _ => id) f8).fr (fun _ _ => id) f9) r9 sml
  clear kA kB kB0 kC kC0 kC1 kD0 kD1
  subst hHE hHD hHC hHB hHA hCA hCB hCC hCD hCE
  simp only [List.length_append, List.length_cons, List.length_nil, Nat.zero_add] at cf2 c7
  simp -implicitDefEqProofs only [v18, VMs, noRef, noRef1, isRef, List.all_cons, List.all_nil, vop, VOp.still, VOp.app, VOp.plain, allP, lof, evs, start, asI, vbin, vcells, ntup, setAll, vfill, vress, vres, tup, Nat.reduceEqDiff, ↓reduceIte, Nat.reduceAdd, Nat.reduceMul, Nat.reduceLeDiff, reduceCtorEq, lwBig_c, hbig, decide_false, List.getElem?_toArray, c1, c2, hle1, hle2, a2, b2, d2, bne_self_eq_false, c3, hle3, c30, a3, c4, hle4, vlp, hl, y1, y2, c6, hle6, vdr, zC, cf2, beq_self_eq_true, zD0, c7, zD1, n7, kE0, kE, cf3, c8, n8, zA, c9, n9]
end Go.Proofs.Ytmcljallamhccaa.V
