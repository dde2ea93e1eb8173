/- FnClears: the law. -/
import Derived.Test.YtmcljallamhccaaVTN
import Derived.Test.YtmcljallamhccaaVNewForestC
namespace Go.Proofs.Ytmcljallamhccaa.V
open Go
set_option linter.unusedVariables false
set_option linter.unusedSimpArgs false
set_option maxRecDepth 100000
theorem lwBig_c (d lo : Nat) (H : Hp) (a : Option Addr) (n s : Nat) : vcall env (d + 1) 38 [.slice a n s] lo H = some (.bool (decide (1048576 < n)), H) := by
  have e : decide ((n : Int) > 1048576) = decide (1048576 < n) := by
    by_cases h : 1048576 < n
    · rw [decide_eq_true h]; exact decide_eq_true (by omega)
    · rw [decide_eq_false h]; exact decide_eq_false (by omega)
  rw [call_eq find38 _ _ _ rfl]
  simp -implicitDefEqProofs only [v38, VMs, noRef, noRef1, isRef, List.all_cons, List.all_nil, vop, VOp.still, VOp.app, VOp.plain, allP, lof, evs, start, asI, vbin, vcells, ntup, setAll, vfill, vress, vres, tup, Nat.reduceEqDiff, ↓reduceIte, Nat.reduceAdd, Nat.reduceMul, Nat.reduceLeDiff, reduceCtorEq, slen, e]
theorem cellN {H H' : Hp} {cs : List Value} (hf : Fn (H ++ [some ⟨cs, true, false⟩]) H') (o n : Nat) (h : o + n ≤ cs.length) : V.rdN H' ⟨H.length, o, none⟩ n = some ((cs.drop o).take n) := by
  rw [hf.rdN H.length o n (by simp) id]; simp [rdN0, h]
theorem cell1 {H H' : Hp} {cs : List Value} (hf : Fn (H ++ [some ⟨cs, true, false⟩]) H') (k : Nat) : V.rd H' ⟨H.length, k, none⟩ = cs[k]? := by
  rw [hf.rd H.length k (by simp) id]; simp [rd0]
theorem ieqs2 (a b : Int) : ieqs [.int .i64 a, .int .i64 b] [.int .i64 a, .int .i64 b] = some true := by simp [ieqs]
theorem newF_inv {n : Nat} (h : n ≤ 24) : Inv ⟨[], List.replicate n ⟨0, 0⟩⟩ z0 z0 :=
  ⟨by simp, by simpa using h, fun b hb => by obtain ⟨_, rfl⟩ := List.mem_replicate.1 hb; simp, fun x hx => by simp at hx, fun x hx => by simp at hx, fun x hx => by simp at hx, fun x hx => by simp at hx, fun x hx => by simp at hx, fun i hi => by simp [nmS, z0], fun j hj => by simp at hj⟩
set_option maxHeartbeats 4000000 in
/-- The law. -/
theorem law_c (d lo : Nat) (H : Hp) {ac : Option Addr} {code : List Int} (hc : Rep EY 1 H ac code.length code) (hy : ∀ x ∈ code, 0 ≤ x ∧ x ≤ 255) : vcall env (d + 11) 19 [.slice ac code.length (sg ac 1)] lo H = some (.bool true, H) := by
  rw [call_eq find19 _ _ _ rfl]
  by_cases hbig : 1048576 < code.length
  · simp -implicitDefEqProofs only [v19, VMs, noRef, noRef1, isRef, List.all_cons, List.all_nil, vop, VOp.still, VOp.app, VOp.plain, allP, lof, evs, start, asI, vbin, vcells, ntup, setAll, vfill, vress, vres, tup, Nat.reduceEqDiff, ↓reduceIte, Nat.reduceAdd, Nat.reduceMul, Nat.reduceLeDiff, reduceCtorEq, lwBig_c, hbig, decide_true]
  have hn : code.length ≤ 1048576 := by omega
  obtain ⟨an, nn, ab, nb, F0, root, at_, H1, c1, dt⟩ := drawClear_c d H.length H hc hy hn
  obtain ⟨CA, hCA⟩ : ∃ CA : List Value, CA = [.slice an nn (sg an 3), .slice ab nb (sg ab 2)] := ⟨_, rfl⟩
  obtain ⟨HA, hHA⟩ : ∃ HA : Hp, HA = H1 ++ [some ⟨CA, true, false⟩] := ⟨_, rfl⟩
  have fA : Fn H1 HA := hHA ▸ Fr.app
  have l1 := dt.f.len
  have lA : HA.length = H1.length + 1 := by rw [hHA]; simp
  have kA : ∀ X, Fn HA X → rdN X ⟨H1.length, 0, none⟩ 2 = some [.slice an nn (sg an 3), .slice ab nb (sg ab 2)] := fun X f => by
    rw [hHA] at f; rw [cellN f 0 2 (by rw [hCA]; simp), hCA]; rfl
  have kA1 : ∀ X, Fn HA X → rd X ⟨H1.length, 1, none⟩ = some (.slice ab nb (sg ab 2)) := fun X f => by
    rw [hHA] at f; rw [cell1 f, hCA]; rfl
  have rx0 := dt.rx.fn fA
  have sf0 := dt.sf
  have hle1 : (H.length ≤ H1.length) = True := eq_true (by omega)
  obtain ⟨v2, H2, c2, S1, T1, an1, nn1, ab1, nb1, rfl, f2, g2, o2⟩ := implClearTree_c (d + 2) H.length HA rx0 sf0 root at_
  have l2 := f2.len
  have hle2 : (H.length ≤ H2.length) = True := eq_true (by omega)
  obtain ⟨CB, hCB⟩ : ∃ CB : List Value, CB = [.int .i64 (resClearTree F0 root at_).1, .int .i64 (resClearTree F0 root at_).2.1, .slice an1 nn1 (sg an1 3), .slice ab1 nb1 (sg ab1 2)] := ⟨_, rfl⟩
  obtain ⟨HB, hHB⟩ : ∃ HB : Hp, HB = H2 ++ [some ⟨CB, true, false⟩] := ⟨_, rfl⟩
  have fB : Fn H2 HB := hHB ▸ Fr.app
  have lB : HB.length = H2.length + 1 := by rw [hHB]; simp
  have kB : ∀ X, Fn HB X → rdN X ⟨H2.length, 2, none⟩ 2 = some [.slice an1 nn1 (sg an1 3), .slice ab1 nb1 (sg ab1 2)] := fun X f => by
    rw [hHB] at f; rw [cellN f 2 2 (by rw [hCB]; simp), hCB]; rfl
  have kB0 : ∀ X, Fn HB X → rd X ⟨H2.length, 0, none⟩ = some (.int .i64 (resClearTree F0 root at_).1) := fun X f => by
    rw [hHB] at f; rw [cell1 f, hCB]; rfl
  have kB1 : ∀ X, Fn HB X → rd X ⟨H2.length, 1, none⟩ = some (.int .i64 (resClearTree F0 root at_).2.1) := fun X f => by
    rw [hHB] at f; rw [cell1 f, hCB]; rfl
  have kB3 : ∀ X, Fn HB X → rd X ⟨H2.length, 3, none⟩ = some (.slice ab1 nb1 (sg ab1 2)) := fun X f => by
    rw [hHB] at f; rw [cell1 f, hCB]; rfl
  have fAB : Fn HA HB := f2.trans fB
  have a2 := kA HB fAB
  have a1 := kA HA Fr.refl
  by_cases hne : (resClearTree F0 root at_).1 ≠ 0
  · obtain ⟨v3, H3, c3, _, _, _, _, _, _, rfl, f3, _, _⟩ := specClearTree_c (d + 4) HB.length HB (rx0.fn fAB) sf0 root at_
    have b2 := kB0 HB Fr.refl
    have hb : ((resClearTree F0 root at_).1 != 0) = true := bne_iff_ne.2 hne
    subst hHB hHA hCA hCB
    simp only [List.length_append, List.length_cons, List.length_nil, Nat.zero_add] at c3
    simp -implicitDefEqProofs only [v19, VMs, noRef, noRef1, isRef, List.all_cons, List.all_nil, vop, VOp.still, VOp.app, VOp.plain, allP, lof, evs, start, asI, vbin, vcells, ntup, setAll, vfill, vress, vres, tup, Nat.reduceEqDiff, ↓reduceIte, Nat.reduceAdd, Nat.reduceMul, Nat.reduceLeDiff, reduceCtorEq, lwBig_c, hbig, decide_false, List.getElem?_toArray, c1, c2, hle1, hle2, hb, vdr, a2, b2, c3, beq_self_eq_true]
  replace hne : (resClearTree F0 root at_).1 = 0 := Classical.byContradiction hne
  have sf1 := (resClearTree_sz F0 root at_).1
  have rx1 := o2.rx.fn fB
  obtain ⟨p, cl⟩ := cl_of hne
  obtain ⟨rfl, hp15⟩ := cl.at_
  rw [hne] at c2 hCB kB0
  generalize (resClearTree F0 root (p : Int)).2.1 = r1 at *
  generalize (resClearTree F0 root (p : Int)).2.2 = F1 at *
  have b2 := kB0 HB Fr.refl
  -- what every place shows
  have hloop : ∃ r, lim (rnd (vcall env (d + 10)) H.length [3, 4, 5, 6, 7] [2, 3, 4, 6] l19_0) [(3, .pointer (some ⟨H1.length, 0, none⟩)), (4, .int .i64 root), (5, .int .i64 (p : Nat)), (6, .pointer (some ⟨H2.length, 0, none⟩)), (7, .int .i64 0)] HB = some r ∧
      ∃ H', r = (.exit 0, [(3, .pointer (some ⟨H1.length, 0, none⟩)), (4, .int .i64 root), (6, .pointer (some ⟨H2.length, 0, none⟩))], H') ∧ Fn HB H' := by
    refine lim_inv (fun j ts X => ts = [(3, .pointer (some ⟨H1.length, 0, none⟩)), (4, .int .i64 root), (5, .int .i64 (p : Nat)), (6, .pointer (some ⟨H2.length, 0, none⟩)), (7, .int .i64 (j : Nat))] ∧ Fn HB X) 16 ?_ ?_ ?_
    · rintro j ts X hj ⟨rfl, fX⟩
      have lX := fX.len
      have hleX : (H.length ≤ X.length) = True := eq_true (by omega)
      have x1 := kB X fX
      have x2 := kB1 X fX
      have e1 := implLookTree_c (d + 2) H.length X (rx1.fn fX).r sf1 r1 (j : Nat)
      have y1 := fun l => kA (X ++ l) ((fAB.trans fX).trans Fr.app)
      have e2 := fun lo l => implLookTree_c (d + 2) lo (X ++ l) (rx0.fn ((fAB.trans fX).trans (Fr.app (l := l)))).r sf0 root (j : Nat)
      have hjd : decide ((j : Int) < 16) = true := decide_eq_true (by omega)
      have hw : IntKind.i64.wrap ((j : Int) + 1) = ((j + 1 : Nat) : Int) := by rw [wr (by omega) (by omega)]; omega
      refine ⟨_, X ++ [some ⟨[.int .i64 (lookC F1 r1 (j : Nat)), .int .i64 (lookV F1 r1 (j : Nat))], true, false⟩], ?_, rfl, fX.trans Fr.app⟩
      by_cases hjp : j = p
      · subst hjp
        have q1 := cl.lookp
        rw [q1] at e1 ⊢
        simp -implicitDefEqProofs only [rnd, l19_0, VMs, noRef, noRef1, isRef, List.all_cons, List.all_nil, vop, VOp.still, VOp.app, VOp.plain, allP, lof, evs, start, asI, vbin, vcells, ntup, setAll, vfill, vress, vres, tup, Nat.reduceEqDiff, ↓reduceIte, Nat.reduceAdd, Nat.reduceMul, Nat.reduceLeDiff, reduceCtorEq, vdr, hjd, x1, x2, e1, hleX, beq_self_eq_true, bne_self_eq_false, hw]
      · have hb : (((j : Nat) : Int) == ((p : Nat) : Int)) = false := beq_eq_false_iff_ne.2 (by omega)
        have hb' : (((j : Nat) : Int) != ((p : Nat) : Int)) = true := bne_iff_ne.2 (by omega)
        obtain ⟨q1, q2⟩ := cl.look j (by omega) hjp
        rw [q1, q2] at e1 ⊢
        simp -implicitDefEqProofs only [rnd, l19_0, VMs, noRef, noRef1, isRef, List.all_cons, List.all_nil, vop, VOp.still, VOp.app, VOp.plain, allP, lof, evs, start, asI, vbin, vcells, ntup, setAll, vfill, vress, vres, tup, Nat.reduceEqDiff, ↓reduceIte, Nat.reduceAdd, Nat.reduceMul, Nat.reduceLeDiff, reduceCtorEq, vdr, hjd, x1, x2, e1, hleX, y1, e2, hb, hb', List.size_toArray, ieqs2, hw]
    · rintro ts X ⟨rfl, fX⟩
      have h16 : decide (((16 : Nat) : Int) < 16) = false := decide_eq_false (by omega)
      exact ⟨_, by simp -implicitDefEqProofs only [rnd, l19_0, VMs, noRef, noRef1, isRef, List.all_cons, List.all_nil, vop, VOp.still, VOp.app, VOp.plain, allP, lof, evs, start, asI, vbin, vcells, ntup, setAll, vfill, vress, vres, tup, Nat.reduceEqDiff, ↓reduceIte, Nat.reduceAdd, Nat.reduceMul, Nat.reduceLeDiff, reduceCtorEq, h16], by simp, X, rfl, fX⟩
    · exact ⟨rfl, Fr.refl⟩
  obtain ⟨_, hl, H5, rfl, f5⟩ := hloop
  have l5 := f5.len
  have z1 := kA1 H5 (fAB.trans f5)
  have nb24 : nb = F0.b.length := rx0.r.b.1
  have hb24 := fB_len cl.b0
  obtain ⟨v6, H6, c6, S3, T3, an3, nn3, ab3, nb3, rfl, f6, g6, o6⟩ := implNewForest_c (d + 7) H.length H5 (nb : Int)
  have l6 := f6.len
  have hle6 : (H.length ≤ H6.length) = True := eq_true (by omega)
  have hnew : newF (nb : Int) = (0, -1, ⟨[], List.replicate nb ⟨0, 0⟩⟩) := by
    unfold newF; rw [if_pos (by omega), Int.toNat_natCast]
  rw [hnew] at c6 o6
  simp only at c6 o6
  have i3 := newF_inv (n := nb) (by omega)
  obtain ⟨CE, hCE⟩ : ∃ CE : List Value, CE = [.int .i64 0, .int .i64 (-1), .slice an3 nn3 (sg an3 3), .slice ab3 nb3 (sg ab3 2)] := ⟨_, rfl⟩
  obtain ⟨HE, hHE⟩ : ∃ HE : Hp, HE = H6 ++ [some ⟨CE, true, false⟩] := ⟨_, rfl⟩
  have fE : Fn H6 HE := hHE ▸ Fr.app
  have lE : HE.length = H6.length + 1 := by rw [hHE]; simp
  have kE : rdN HE ⟨H6.length, 2, none⟩ 2 = some [.slice an3 nn3 (sg an3 3), .slice ab3 nb3 (sg ab3 2)] := by
    rw [cellN (H := H6) (cs := CE) (by rw [← hHE]; exact Fr.refl) 2 2 (by rw [hCE]; simp), hCE]; rfl
  have kE0 : rd HE ⟨H6.length, 0, none⟩ = some (.int .i64 0) := by
    rw [cell1 (H := H6) (cs := CE) (by rw [← hHE]; exact Fr.refl), hCE]; rfl
  have fBE : Fn HB HE := f5.trans (f6.trans fE)
  have fAE := fAB.trans fBE
  have zA := kA HE fAE
  have zA1 := kA1 HE fAE
  have zB := kB HE fBE
  have zB1 := kB1 HE fBE
  have zB3 := kB3 HE fBE
  have rx1E := rx1.fn fBE
  have rx0E := rx0.fn fAE
  have rx3E := o6.rx.fn fE
  have cf1 := fun lo => implForestFault_c (d + 4) lo HE rx1E.r sf1
  rw [cl.f] at cf1
  have cf3 := fun lo => implForestFault_c (d + 4) lo HE rx3E.r i3.sml.sf
  rw [i3.fF] at cf3
  have cr1 := fun lo => implFreeOf_c (d + 6) lo HE rx1E.r.b cl.b1
  have cr0 := fun lo => implFreeOf_c (d + 6) lo HE rx0E.r.b cl.b0
  obtain ⟨v7, H7, c7, a7, rfl, f7, r7, _⟩ := implWalkTree_c (d + 2) HE.length HE rx1E.r sf1 r1
  obtain ⟨v8, H8, c8, a8, rfl, f8, r8, _⟩ := implWalkTree_c (d + 2) H7.length H7 (rx0E.fn f7).r sf0 root
  have hge : decide (((freeN F1.b : Nat) : Int) ≥ ((freeN F0.b : Nat) : Int)) = true := decide_eq_true (by have := cl.free; omega)
  have w1 := cl.wl
  have w2 := cl.w32
  have hw8 : IntKind.i64.wrap ((((walkR F0 root).length : Nat) : Int) - 2) = (((walkR F1 r1).length : Nat) : Int) := by rw [wr (by omega) (by omega)]; omega
  clear kA kA1 kB kB0 kB1 kB3
  subst hHE hHB hHA hCA hCB hCE
  simp only [List.length_append, List.length_cons, List.length_nil, Nat.zero_add] at c7
  simp -implicitDefEqProofs only [v19, VMs, noRef, noRef1, isRef, List.all_cons, List.all_nil, vop, VOp.still, VOp.app, VOp.plain, allP, lof, evs, start, asI, vbin, vcells, ntup, setAll, vfill, vress, vres, tup, Nat.reduceEqDiff, ↓reduceIte, Nat.reduceAdd, Nat.reduceMul, Nat.reduceLeDiff, reduceCtorEq, lwBig_c, hbig, decide_false, List.getElem?_toArray, c1, c2, hle1, hle2, a1, b2, bne_self_eq_false, vlp, hl, z1, slen, c6, hle6, vdr, zB, cf1, beq_self_eq_true, kE0, kE, cf3, zB3, cr1, zA1, cr0, hge, zB1, c7, zA, c8, hw8]
end Go.Proofs.Ytmcljallamhccaa.V
