/- A place of a tree with another block: the reference's, as a whole. -/
import Derived.Test.YtmcljallamhccaaVDQ
namespace Go.Proofs.Ytmcljallamhccaa.V
open Go
set_option linter.unusedVariables false
set_option linter.unusedSimpArgs false
set_option maxRecDepth 100000
theorem leaf_fresh {F F1 : Fo} {root block : Int} {pa m : Nat} (hi : Inv F (kI block) z0) (hr : RootOK F root) (hb : BlockOK F block) (hn : noK (leafF F root pa block) = false) (hpa : pa ≤ 15) (hf : freshF F true (leafF F root pa block) (pa % 4) = some (m, F1)) :
    Inv F1 z0 (kI (m : Int)) ∧ RootOK F1 root ∧ LeafOK F1 (m : Int) ∧ (m : Int) ≠ kidOf F1 root (pa / 4) ∧ kidsF F1 root = kidsF F root ∧ aloneF F1 root = aloneF F root ∧ kidOf F1 root (pa / 4) = kidOf F root (pa / 4) := by
  have h0 := kI_nonneg block
  have hl0 := kidLeaf hi hr (by omega : pa / 4 < 4)
  have k4 := kids4L hi hl0
  obtain ⟨hkr, hKs⟩ := leafKids hi h0 hl0 hb (p := pa % 4)
  have hh := noK_has hn (fun k hk => (hkr k hk).imp id (·.1))
  obtain ⟨i1, rfl, en⟩ := freshL_inv hi (withK_len k4) hh hkr (fun k hk => (hKs k hk).put _) (fun i => withK_count block k4 (by omega) i) hf
  have hat : F1.n[slotOf F.n]? = some ⟨1, true, leafF F root pa block⟩ := by rw [en]; exact putN_at _ _
  obtain ⟨hm, em⟩ := List.getElem?_eq_some_iff.1 hat
  have hleaf : LeafOK F1 (slotOf F.n : Int) := Or.inr ⟨_, hm, rfl, by rw [em]⟩
  rcases hr with rfl | ⟨j, hj, rfl, hjf, hjr⟩
  · exact ⟨i1, Or.inl rfl, hleaf, by rw [kidOf_m]; omega, rfl, rfl, rfl⟩
  · have hjn : F1.n[j]? = some F.n[j] := by rw [en]; exact putN_old _ hj hjr
    obtain ⟨hj1, ej⟩ := List.getElem?_eq_some_iff.1 hjn
    have hk4 := (hi.n4 _ (List.getElem_mem hj) hjr).1
    have ek : kidOf F1 (j : Int) (pa / 4) = kidOf F (j : Int) (pa / 4) := by
      rw [kidOf_n hj1 (by rw [ej]; omega), kidOf_n hj (by omega)]
      simp only [ej]
    refine ⟨i1, Or.inr ⟨j, hj1, rfl, by rw [ej]; exact hjf, by rw [ej]; exact hjr⟩, hleaf, ?_, by rw [kidsF_n hj1, kidsF_n hj, ej], by rw [aloneF_n hj1, aloneF_n hj, ej], ek⟩
    rw [ek]
    rcases hl0 with e | ⟨i, hii, e, hif⟩
    · rw [e]; omega
    · rw [e]
      intro e'
      have e2 : slotOf F.n = i := by omega
      have h1 := slot_dead (l := F.n) (by omega)
      simp only [e2] at h1
      exact hi.live (List.getElem_mem hii) hif h1
/-- The leaf stays where it is. -/
theorem l4SetRoot_same (d lo L : Nat) (H : Hp) {q : Nat} {a b : Option Addr} {ps : List (Nd × Option Addr)} {B : List Bk} (h : MF L H q a b ps B) (hL : lo ≤ L) {j i : Nat} {x : Nd} {ad : Option Addr} (hpj : ps[j]? = some (x, ad)) (hx1 : x.r = 1) (hk4 : x.k.length = 4) {pa : Nat} (hpa : pa ≤ 15) (hki : x.k[pa / 4]? = some (i : Int)) (hge : ∀ k ∈ x.k, k = -1 ∨ 0 ≤ k) :
    ∃ H' ps', vcall env (d + 4) 152 [.pointer (some ⟨q, 0, none⟩), .int .i64 (j : Nat), .int .i64 (pa : Nat), .int .i64 (i : Nat)] lo H = some (.tuple #[.int .i64 (j : Nat), .int .i64 0], H') ∧ MF L H' q a b ps' B ∧ foP ps' B = foP ps B ∧ Fw (FQ q a b) H H' := by
  have hp : pa / 4 < 4 := by omega
  have hne0 : x.k ≠ [] := by intro e; rw [e] at hk4; simp at hk4
  have hpk : pa / 4 < x.k.length := by omega
  have hkie : x.k[pa / 4] = (i : Int) := by rw [getE hpk] at hki; exact Option.some.inj hki
  have hwk : withK x.k (pa / 4) (i : Int) = x.k := by unfold withK; rw [if_neg hne0, ← hkie, List.set_getElem_self]
  have hno : noK x.k = false := by
    unfold noK
    simp only [Bool.not_eq_false', List.any_eq_true, bne_iff_ne]
    exact ⟨_, List.getElem_mem hpk, by omega⟩
  have q4 := quo4 hpa
  have z40 : ((4 : Int) = 0) = False := by simp
  obtain ⟨H1, hH1⟩ : ∃ H1 : Hp, H1 = H ++ [some ⟨[], true, true⟩] := ⟨_, rfl⟩
  have f1 : Fn H H1 := hH1 ▸ Fr.app
  have l1 : H1.length = H.length + 1 := by rw [hH1]; simp
  obtain ⟨H2, hH2⟩ : ∃ H2 : Hp, H2 = H1 ++ [some ⟨vI x.k, true, false⟩] := ⟨_, rfl⟩
  have f2 : Fn H1 H2 := hH2 ▸ Fr.app
  have f02 : Fn H H2 := f1.trans f2
  have m2 := h.new f02
  have bk : H2.blk H1.length = some ⟨vI x.k, true, false⟩ := by rw [hH2]; exact blk0
  have k2 : KB L H2 q a b ps H1.length _ := h.newK f02 (by omega) bk
  have rk := k2.rep
  rw [hk4] at rk
  have cN := l4None_c (d + 2) lo H2 rk (by unfold Sm; omega) hge
  simp only [sgs, hno] at cN
  have g1 := (h.new f1).pf.n
  have g2 := m2.pf.n
  have hjp : j < ps.length := (List.getElem?_eq_some_iff.1 hpj).1
  obtain ⟨pn, rfl, e1, e2, e3, e4, e5⟩ := (h.new f1).at hpj
  obtain ⟨_, e', e1', _, _, e4', _⟩ := m2.at hpj
  cases e'
  have cW := l4With_c (d + 2) lo H1 e4 (Or.inr hk4) hp (i : Int)
  rw [hwk, ← hH2] at cW
  rw [hk4] at cW e3
  simp only [sgs] at g1 g2
  obtain ⟨po, oo, rfl, ek⟩ := e4'.at hpk
  simp only [EI, Nat.mul_one] at ek
  rw [hkie] at ek
  obtain ⟨pn', H3, e', w3, m3, f3, l3⟩ := m2.rekid k2 hpj
  cases e'
  have w3' := wr_lo w3 hL
  rw [hk4] at w3'
  have hd : decide ((j : Int) ≥ 0) = true := decide_eq_true (by omega)
  have hb1 : (x.r == 1) = true := beq_iff_eq.2 hx1
  have p4 : (((pa / 4 : Nat) : Int) < ((4 : Nat) : Int)) = True := ltc hp
  have hg : decide ((i : Int) ≥ 0) = true := decide_eq_true (by omega)
  rw [call_eq find152 _ _ _ rfl]
  refine ⟨H3, _, ?_, m3, ?_, (Fn.fq f02).seqF (FP.fq (FP.a f3)) (fun i e => Or.inl e)⟩
  · subst hH1
    simp only [List.length_append, List.length_cons, List.length_nil, Nat.zero_add, sgs] at cW cN w3' e3
    simp -implicitDefEqProofs only [v152, VMs, noRef, noRef1, isRef, List.all_cons, List.all_nil, vop, VOp.still, VOp.app, VOp.plain, allP, lof, evs, start, asI, vbin, vcells, ntup, setAll, vfill, vress, vres, tup, Nat.reduceEqDiff, ↓reduceIte, Nat.reduceAdd, Nat.reduceMul, Nat.reduceLeDiff, reduceCtorEq, h00, hd, g1, g2, slen, ltc hjp, ge0, decide_true, Int.toNat_natCast, e3, e1', hb1, q4, z40, cW, cN, p4, Nat.mul_one, ek, w3', ntup, vcells, hg, bne_self_eq_false]
  · rw [foP_set1]
    obtain ⟨hj, ex⟩ := foP_n (B := B) hpj
    have : (⟨x.r, x.f, x.k⟩ : Nd) = (foP ps B).n[j] := by rw [ex]
    rw [this, List.set_getElem_self]
theorem putF_n {F : Fo} {root block : Int} {p : Nat} (h : noK (leafF F root p block) = true) : putF F root p block = setRootF F root (p / 4) (-1) := by unfold putF; rw [if_pos h]
theorem putF_a {F : Fo} {root block : Int} {p : Nat} (h : noK (leafF F root p block) = false) (ha : aloneF F root = true ∧ aloneF F (kidOf F root (p / 4)) = true) : putF F root p block = some (root, ⟨F.n.set (kidOf F root (p / 4)).toNat ⟨1, true, leafF F root p block⟩, dropB F.b (kidOf F (kidOf F root (p / 4)) (p % 4))⟩) := by unfold putF; rw [h, if_neg (by simp), if_pos ha]
theorem putF_f {F : Fo} {root block : Int} {p : Nat} (h : noK (leafF F root p block) = false) (ha : ¬ (aloneF F root = true ∧ aloneF F (kidOf F root (p / 4)) = true)) : putF F root p block = (freshF F true (leafF F root p block) (p % 4)).bind fun r => setRootF r.2 root (p / 4) (r.1 : Int) := by unfold putF; rw [h, if_neg (by simp), if_neg ha]
theorem noK_block {F : Fo} {root block : Int} {pa : Nat} (hi : Inv F (kI block) z0) (hr : RootOK F root) (hpa : pa ≤ 15) (hn : noK (leafF F root pa block) = true) : block = -1 := noK_leaf (kids4L hi (kidLeaf hi hr (by omega))) (by omega) hn
/-- Both alone: which they are. -/
theorem alone_at {F : Fo} {eB eN : Nat → Int} {root : Int} {p : Nat} (hi : Inv F eB eN) (hr : RootOK F root) (hp : p < 4) (ha : aloneF F root = true ∧ aloneF F (kidOf F root p) = true) : ∃ (j i : Nat) (hj : j < F.n.length) (hii : i < F.n.length), root = (j : Int) ∧ kidOf F root p = (i : Int) ∧ F.n[j].f = false ∧ F.n[j].r = 1 ∧ F.n[i].f = true ∧ F.n[i].r = 1 ∧ i ≠ j ∧ F.n[j].k.length = 4 ∧ F.n[j].k[p]? = some (i : Int) := by
  have hl := kidLeaf hi hr hp
  obtain ⟨h1, h2⟩ := ha
  rcases hr with rfl | ⟨j, hj, rfl, hjf, hjr⟩
  · cases h1
  · rcases hl with e | ⟨i, hii, e, hif⟩
    · rw [e] at h2; cases h2
    · have hk4 := (hi.n4 _ (List.getElem_mem hj) hjr).1
      rw [aloneF_n hj, beq_iff_eq] at h1
      rw [e, aloneF_n hii, beq_iff_eq] at h2
      refine ⟨j, i, hj, hii, rfl, e, hjf, h1, hif, h2, (fun e' => by subst e'; rw [hif] at hjf; cases hjf), hk4, ?_⟩
      rw [kidOf_n hj (by omega)] at e
      rw [getE (by omega), e]
theorem l4Set_c (d lo L : Nat) (H : Hp) {q : Nat} {a b : Option Addr} {ps : List (Nd × Option Addr)} {B : List Bk} (h : MF L H q a b ps B) (hL : lo ≤ L) {root block : Int} (hi : Inv (foP ps B) (kI block) z0) (hr : RootOK (foP ps B) root) (hb : BlockOK (foP ps B) block) {pa : Nat} (hpa : pa ≤ 15) :
    (putF (foP ps B) root pa block = none → ∃ H', vcall env (d + 5) 128 [.pointer (some ⟨q, 0, none⟩), .int .i64 root, .int .i64 (pa : Nat), .int .i64 block] lo H = some (.tuple #[.int .i64 (-1), .int .i64 2], H') ∧ Fw (FQ q a b) H H') ∧
    (∀ r F', putF (foP ps B) root pa block = some (r, F') → ∃ H' a' ps' B', vcall env (d + 5) 128 [.pointer (some ⟨q, 0, none⟩), .int .i64 root, .int .i64 (pa : Nat), .int .i64 block] lo H = some (.tuple #[.int .i64 r, .int .i64 0], H') ∧
      MF L H' q a' b ps' B' ∧ foP ps' B' = F' ∧ Fw (FQ q a b) H H' ∧ ∀ i, Ad a' i → Ad a i ∨ H.length ≤ i) := by
  obtain ⟨s1, s2⟩ := l4SetLeaf_c d lo L H h hL hi hr hb hpa
  have z20 : ((2 : Int) != 0) = true := rfl
  rw [call_eq find128 _ _ _ rfl]
  by_cases hn : noK (leafF (foP ps B) root pa block) = true
  · have hbm := noK_block hi hr hpa hn
    subst hbm
    rw [putF_n hn]
    have hsl : setLeafF (foP ps B) root pa (-1) = some (-1, foP ps B) := by unfold setLeafF; rw [if_pos hn]
    obtain ⟨H1, a1, ps1, B1, c1, m1, e1, f1, ha1⟩ := s2 _ _ hsl
    have hi1 : Inv (foP ps1 B1) z0 (kI (-1)) := by rw [e1]; exact hi.kB_m.eq (fun _ _ => rfl) (fun i _ => by unfold kI; rw [if_neg (by omega)]; exact Int.le_refl _)
    obtain ⟨r1, r2⟩ := l4SetRoot_c d lo L H1 m1 hL (root := root) (leaf := -1) hi1 (by rw [e1]; exact hr) (Or.inl rfl) hpa (Or.inl rfl)
    rw [e1] at r1 r2
    refine ⟨fun e => ?_, fun r F' e => ?_⟩
    · obtain ⟨H', c, f⟩ := r1 e
      exact ⟨H', by simp -implicitDefEqProofs only [v128, VMs, noRef, noRef1, isRef, List.all_cons, List.all_nil, vop, VOp.still, VOp.app, VOp.plain, allP, lof, evs, start, asI, vbin, vcells, ntup, setAll, vfill, vress, vres, tup, Nat.reduceEqDiff, ↓reduceIte, Nat.reduceAdd, Nat.reduceMul, Nat.reduceLeDiff, reduceCtorEq, List.getElem?_toArray, c1, bne_self_eq_false, c], f1.seqF f ha1⟩
    · obtain ⟨H', a', ps', B', c, m, ee, f, ha⟩ := r2 r F' e
      have hl1 := f1.len
      exact ⟨H', a', ps', B', by simp -implicitDefEqProofs only [v128, VMs, noRef, noRef1, isRef, List.all_cons, List.all_nil, vop, VOp.still, VOp.app, VOp.plain, allP, lof, evs, start, asI, vbin, vcells, ntup, setAll, vfill, vress, vres, tup, Nat.reduceEqDiff, ↓reduceIte, Nat.reduceAdd, Nat.reduceMul, Nat.reduceLeDiff, reduceCtorEq, List.getElem?_toArray, c1, bne_self_eq_false, c], m, ee, f1.seqF f ha1, fun i hii => (ha i hii).elim (fun e => ha1 i e) (fun e => Or.inr (by omega))⟩
  · replace hn := eq_false_of_ne_true hn
    by_cases hal : aloneF (foP ps B) root = true ∧ aloneF (foP ps B) (kidOf (foP ps B) root (pa / 4)) = true
    · rw [putF_a hn hal]
      have hsl : setLeafF (foP ps B) root pa block = some (kidOf (foP ps B) root (pa / 4), ⟨(foP ps B).n.set (kidOf (foP ps B) root (pa / 4)).toNat ⟨1, true, leafF (foP ps B) root pa block⟩, dropB (foP ps B).b (kidOf (foP ps B) (kidOf (foP ps B) root (pa / 4)) (pa % 4))⟩) := by unfold setLeafF; rw [hn, if_neg (by simp), if_pos hal]
      obtain ⟨H1, a1, ps1, B1, c1, m1, e1, f1, ha1⟩ := s2 _ _ hsl
      obtain ⟨j, i, hj, hii, rfl, hki, hjf, hj1, hif, hi1, hij, hk4, hkp⟩ := alone_at hi hr (by omega) hal
      rw [hki] at c1 e1 ⊢
      rw [Int.toNat_natCast] at e1 ⊢
      have hjn1 : (foP ps1 B1).n[j]? = some (foP ps B).n[j] := by rw [e1]; simp only [List.getElem?_set]; rw [if_neg hij, getE hj]
      obtain ⟨hj1', ej1⟩ := List.getElem?_eq_some_iff.1 hjn1
      obtain ⟨adj, hpj⟩ := foP_at hj1'
      rw [ej1] at hpj
      obtain ⟨H2, ps2, c2, m2, e2, f2⟩ := l4SetRoot_same d lo L H1 m1 hL hpj hj1 hk4 hpa hkp (fun k hk => by
        rcases hi.kr _ (List.getElem_mem hj) hjf k hk with e | ⟨i, _, e, _⟩
        · exact Or.inl e
        · exact Or.inr (by omega))
      refine ⟨fun e => (by cases e), fun r F' e => ?_⟩
      cases e
      exact ⟨H2, a1, ps2, B1, by simp -implicitDefEqProofs only [v128, VMs, noRef, noRef1, isRef, List.all_cons, List.all_nil, vop, VOp.still, VOp.app, VOp.plain, allP, lof, evs, start, asI, vbin, vcells, ntup, setAll, vfill, vress, vres, tup, Nat.reduceEqDiff, ↓reduceIte, Nat.reduceAdd, Nat.reduceMul, Nat.reduceLeDiff, reduceCtorEq, List.getElem?_toArray, c1, bne_self_eq_false, c2], m2, by rw [e2, e1], f1.seqF f2 ha1, ha1⟩
    · rw [putF_f hn hal]
      cases hfr : freshF (foP ps B) true (leafF (foP ps B) root pa block) (pa % 4) with
      | none =>
        have hsl : setLeafF (foP ps B) root pa block = none := by unfold setLeafF; rw [hn, if_neg (by simp), if_neg hal, hfr]; rfl
        obtain ⟨H1, c1, f1⟩ := s1 hsl
        refine ⟨fun _ => ⟨H1, by simp -implicitDefEqProofs only [v128, VMs, noRef, noRef1, isRef, List.all_cons, List.all_nil, vop, VOp.still, VOp.app, VOp.plain, allP, lof, evs, start, asI, vbin, vcells, ntup, setAll, vfill, vress, vres, tup, Nat.reduceEqDiff, ↓reduceIte, Nat.reduceAdd, Nat.reduceMul, Nat.reduceLeDiff, reduceCtorEq, List.getElem?_toArray, c1, z20], f1⟩, fun r F' e => by cases e⟩
      | some mf =>
        obtain ⟨m, F1⟩ := mf
        have hsl : setLeafF (foP ps B) root pa block = some ((m : Int), F1) := by unfold setLeafF; rw [hn, if_neg (by simp), if_neg hal, hfr]; rfl
        obtain ⟨H1, a1, ps1, B1, c1, m1, e1, f1, ha1⟩ := s2 _ _ hsl
        obtain ⟨i1, i2, i3, i4, _⟩ := leaf_fresh hi hr hb hn hpa hfr
        rw [← e1] at i1 i2 i3 i4
        obtain ⟨r1, r2⟩ := l4SetRoot_c d lo L H1 m1 hL i1 i2 i3 hpa (Or.inr i4)
        rw [e1] at r1 r2
        simp only [Option.bind_some]
        refine ⟨fun e => ?_, fun r F' e => ?_⟩
        · obtain ⟨H', c, f⟩ := r1 e
          exact ⟨H', by simp -implicitDefEqProofs only [v128, VMs, noRef, noRef1, isRef, List.all_cons, List.all_nil, vop, VOp.still, VOp.app, VOp.plain, allP, lof, evs, start, asI, vbin, vcells, ntup, setAll, vfill, vress, vres, tup, Nat.reduceEqDiff, ↓reduceIte, Nat.reduceAdd, Nat.reduceMul, Nat.reduceLeDiff, reduceCtorEq, List.getElem?_toArray, c1, bne_self_eq_false, c], f1.seqF f ha1⟩
        · obtain ⟨H', a', ps', B', c, m, ee, f, ha⟩ := r2 r F' e
          have hl1 := f1.len
          exact ⟨H', a', ps', B', by simp -implicitDefEqProofs only [v128, VMs, noRef, noRef1, isRef, List.all_cons, List.all_nil, vop, VOp.still, VOp.app, VOp.plain, allP, lof, evs, start, asI, vbin, vcells, ntup, setAll, vfill, vress, vres, tup, Nat.reduceEqDiff, ↓reduceIte, Nat.reduceAdd, Nat.reduceMul, Nat.reduceLeDiff, reduceCtorEq, List.getElem?_toArray, c1, bne_self_eq_false, c], m, ee, f1.seqF f ha1, fun i hii => (ha i hii).elim (fun e => ha1 i e) (fun e => Or.inr (by omega))⟩
/-- The outcome is small. -/
theorem putF_sml {F F' : Fo} {root block r : Int} {pa : Nat} (hi : Inv F (kI block) z0) (hr : RootOK F root) (hb : BlockOK F block) (hpa : pa ≤ 15) (h : putF F root pa block = some (r, F')) : Sml F' := by
  by_cases hn : noK (leafF F root pa block) = true
  · have hbm := noK_block hi hr hpa hn
    subst hbm
    rw [putF_n hn] at h
    exact (setRoot_inv (hi.kB_m.eq (fun _ _ => rfl) (fun i _ => by unfold kI; rw [if_neg (by omega)]; exact Int.le_refl _)) hr (Or.inl rfl) (by omega) h).sml
  · replace hn := eq_false_of_ne_true hn
    by_cases hal : aloneF F root = true ∧ aloneF F (kidOf F root (pa / 4)) = true
    · rw [putF_a hn hal] at h
      cases h
      have s := hi.sml.set (kidOf F root (pa / 4)).toNat ⟨1, true, leafF F root pa block⟩ (by
        have := withK_len (p := pa % 4) (k := block) (kids4L hi (kidLeaf hi hr (by omega : pa / 4 < 4)))
        exact Nat.le_of_eq this)
      exact ⟨s.n, by simp only [dropB_len]; exact s.b, s.k⟩
    · rw [putF_f hn hal] at h
      obtain ⟨⟨m, F1⟩, h1, h2⟩ := Option.bind_eq_some_iff.1 h
      obtain ⟨i1, i2, i3, i4, _⟩ := leaf_fresh hi hr hb hn hpa h1
      exact (setRoot_inv i1 i2 i3 (by omega) h2).sml
end Go.Proofs.Ytmcljallamhccaa.V
