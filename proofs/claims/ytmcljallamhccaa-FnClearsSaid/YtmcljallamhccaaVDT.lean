/- A place of a tree with another block: the program's, as a whole. -/
import Derived.Test.YtmcljallamhccaaVDS
namespace Go.Proofs.Ytmcljallamhccaa.V
open Go
set_option linter.unusedVariables false
set_option linter.unusedSimpArgs false
set_option maxRecDepth 100000
/-- What put does up to the leaf, and then. -/
def putHead (t : VC) : VC := match v129.body with
  | .seq a1 (.seq a2 (.seq a3 (.seq a4 (.seq s1 _)))) => .seq a1 (.seq a2 (.seq a3 (.seq a4 (.seq s1 t))))
  | x => x
theorem put_body : v129.body = putHead putTail := rfl
set_option maxHeartbeats 4000000 in
theorem put_c (d lo L : Nat) (H : Hp) {q : Nat} {a b : Option Addr} {ps : List (Nd × Option Addr)} {B : List Bk} (h : MF L H q a b ps B) (hL : lo ≤ L) {root block : Int} (hi : Inv (foP ps B) (kI block) z0) (hr : RootOK (foP ps B) root) (hb : BlockOK (foP ps B) block) {pa : Nat} (hpa : pa ≤ 15) (hne : block ≠ -1 ∨ root ≠ -1) :
    (putF (foP ps B) root pa block = none → ∃ H', vcall env (d + 5) 129 [.pointer (some ⟨q, 0, none⟩), .int .i64 root, .int .i64 (pa : Nat), .int .i64 block] lo H = some (.tuple #[.int .i64 0, .int .i64 2], H') ∧ Fw (FQ q a b) H H') ∧
    (∀ r F', putF (foP ps B) root pa block = some (r, F') → ∃ H' a' ps' B', vcall env (d + 5) 129 [.pointer (some ⟨q, 0, none⟩), .int .i64 root, .int .i64 (pa : Nat), .int .i64 block] lo H = some (.tuple #[.int .i64 r, .int .i64 0], H') ∧
      MF L H' q a' b ps' B' ∧ foP ps' B' = F' ∧ Fw (FQ q a b) H H' ∧ ∀ i, Ad a' i → Ad a i ∨ H.length ≤ i) := by
  have hp : pa % 4 < 4 := by omega
  have hp' : pa / 4 < 4 := by omega
  have h0 := kI_nonneg block
  have hl0 := kidLeaf hi hr hp'
  have hk0 := kid_c (d + 3) lo H h.pf root (pa / 4) (hasOf (rootHas hi hr) hp')
  obtain ⟨l0, hl0e⟩ : ∃ l0, l0 = kidOf (foP ps B) root (pa / 4) := ⟨_, rfl⟩
  have k4 := kids4L hi hl0
  obtain ⟨hkr, hKs⟩ := leafKids hi h0 hl0 hb (p := pa % 4)
  have hlf : leafF (foP ps B) root pa block = withK (kidsF (foP ps B) l0) (pa % 4) block := by rw [hl0e]; rfl
  rw [← hl0e] at hl0 hk0 k4 hkr hKs
  have wl := withK_len (p := pa % 4) (k := block) k4
  have hl60 : ps.length ≤ 60 := by have := hi.n60; rw [foP_len] at this; exact this
  have hKF : ∀ k ∈ (withK (kidsF (foP ps B) l0) (pa % 4) block).set (pa % 4) (-1), Kid true (putF1 (foP ps B) true (withK (kidsF (foP ps B) l0) (pa % 4) block)) k := fun k hk => (hKs k hk).put _
  have r4 := rem4 pa
  have q4 := quo4 hpa
  have z40 : ((4 : Int) = 0) = False := by simp
  have cW := kidsWith_c (d + 3) lo H h.pf (leafHas hi hl0) hp block
  obtain ⟨H2, hH2⟩ : ∃ H2 : Hp, H2 = H ++ [some ⟨vI (withK (kidsF (foP ps B) l0) (pa % 4) block), true, false⟩] := ⟨_, rfl⟩
  rw [← hH2] at cW
  have f02 : Fn H H2 := hH2 ▸ Fr.app
  have l2 : H2.length = H.length + 1 := by rw [hH2]; simp
  have m2 := h.new f02
  have bk : H2.blk H.length = some ⟨vI (withK (kidsF (foP ps B) l0) (pa % 4) block), true, false⟩ := by rw [hH2]; exact blk0
  have k2 : KB L H2 q a b ps H.length _ := h.newK f02 (by omega) bk
  have rk := k2.rep
  rw [wl] at rk
  have cN := isEmpty_c d lo H2 _ 4 _ rk (by unfold Sm; omega)
  have hno : (!((withK (kidsF (foP ps B) l0) (pa % 4) block).any fun k => k != -1)) = noK (leafF (foP ps B) root pa block) := by rw [hlf]; rfl
  rw [hno] at cN
  simp only [sgs] at cN
  have g2 := m2.pf.n
  have gb2 := m2.pf.b
  obtain ⟨sf1, sf2⟩ := fresh_c (d + 1) lo L H2 m2 hL k2 wl true hp hl60 hKF
  rw [← hlf] at sf1 sf2
  have z20 : ((2 : Int) != 0) = true := rfl
  -- what is read of the root
  have hal0 : ∃ e : (root = -1 ∨ ∃ j : Nat, ∃ hj : j < (foP ps B).n.length, root = (j : Int)), True := ⟨by rcases hr with e | ⟨j, hj, e, _⟩; exact Or.inl e; exact Or.inr ⟨j, hj, e⟩, trivial⟩
  have g0 := h.pf.n
  have tail1 : noK (leafF (foP ps B) root pa block) = true → block = -1 ∧ root ≠ -1 := fun hn => by
    have hbm := noK_block hi hr hpa hn
    exact ⟨hbm, hne.resolve_left (fun e => e hbm)⟩
  rw [call_eq find129 _ _ _ rfl, put_body]
  by_cases hn : noK (leafF (foP ps B) root pa block) = true
  · obtain ⟨hbm, hrm⟩ := tail1 hn
    subst hbm
    rw [hn] at cN
    rw [putF_n hn]
    obtain ⟨s1, s2⟩ := putTail_c d lo L H2 H m2 hL (leaf := -1) (hi.kB_m.eq (fun _ _ => rfl) (fun i _ => by unfold kI; rw [if_neg (by omega)]; exact Int.le_refl _)) hr (Or.inl rfl) hpa (fun e => absurd e hrm)
    rw [← hl0e] at s1 s2
    obtain ⟨j, hj, rfl⟩ : ∃ j : Nat, ∃ hj : j < (foP ps B).n.length, root = (j : Int) := hal0.choose.resolve_left hrm
    have hjp : j < ps.length := by rw [foP_len] at hj; exact hj
    obtain ⟨adj, hpj⟩ := foP_at hj
    obtain ⟨pn, rfl, ej1, _⟩ := h.at hpj
    rw [aloneF_n hj] at s1 s2
    simp only [sgs] at g0
    have hg : ((j : Int) != -1) = true := by rw [bne_iff_ne]; omega
    refine ⟨fun e => ?_, fun r F' e => ?_⟩
    · obtain ⟨H', c, f⟩ := s1 e
      refine ⟨H', ?_, (Fn.fq f02).seqF f (fun i e => Or.inl e)⟩
      simp -implicitDefEqProofs only [putHead, v129, VMs, noRef, noRef1, isRef, List.all_cons, List.all_nil, vop, VOp.still, VOp.app, VOp.plain, allP, lof, evs, start, asI, vbin, vcells, ntup, setAll, vfill, vress, vres, tup, Nat.reduceEqDiff, ↓reduceIte, Nat.reduceAdd, Nat.reduceMul, Nat.reduceLeDiff, reduceCtorEq, hg, g0, slen, ltc hjp, ge0, decide_true, Int.toNat_natCast, ej1, q4, z40, hk0, r4, cW, cN]
      refine c _ ?_ ?_ ?_ ?_ ?_ ?_ <;> simp -implicitDefEqProofs only [VMs, noRef, noRef1, isRef, List.all_cons, List.all_nil, vop, VOp.still, VOp.app, VOp.plain, allP, lof, evs, start, asI, vbin, vcells, ntup, setAll, vfill, vress, vres, tup, Nat.reduceEqDiff, ↓reduceIte, Nat.reduceAdd, Nat.reduceMul, Nat.reduceLeDiff, reduceCtorEq, aloneF_m]
    · obtain ⟨H', a', ps', B', c, m, ee, f, ha⟩ := s2 r F' e
      refine ⟨H', a', ps', B', ?_, m, ee, (Fn.fq f02).seqF f (fun i e => Or.inl e), fun i e => (ha i e).imp id (fun e => by omega)⟩
      simp -implicitDefEqProofs only [putHead, v129, VMs, noRef, noRef1, isRef, List.all_cons, List.all_nil, vop, VOp.still, VOp.app, VOp.plain, allP, lof, evs, start, asI, vbin, vcells, ntup, setAll, vfill, vress, vres, tup, Nat.reduceEqDiff, ↓reduceIte, Nat.reduceAdd, Nat.reduceMul, Nat.reduceLeDiff, reduceCtorEq, hg, g0, slen, ltc hjp, ge0, decide_true, Int.toNat_natCast, ej1, q4, z40, hk0, r4, cW, cN]
      refine c _ ?_ ?_ ?_ ?_ ?_ ?_ <;> simp -implicitDefEqProofs only [VMs, noRef, noRef1, isRef, List.all_cons, List.all_nil, vop, VOp.still, VOp.app, VOp.plain, allP, lof, evs, start, asI, vbin, vcells, ntup, setAll, vfill, vress, vres, tup, Nat.reduceEqDiff, ↓reduceIte, Nat.reduceAdd, Nat.reduceMul, Nat.reduceLeDiff, reduceCtorEq, aloneF_m]
  · replace hn := eq_false_of_ne_true hn
    rw [hn] at cN
    by_cases hal : aloneF (foP ps B) root = true ∧ aloneF (foP ps B) (kidOf (foP ps B) root (pa / 4)) = true
    · rw [putF_a hn hal]
      refine ⟨fun e => (by cases e), fun r F' e => ?_⟩
      cases e
      obtain ⟨j, i, hj, hii, rfl, hki, hjf, hj1, hif, hi1, hij, hk4, hkp⟩ := alone_at hi hr hp' hal
      have hi4 := (hi.n4 _ (List.getElem_mem hii) (by omega)).1
      have hjp : j < ps.length := by rw [foP_len] at hj; exact hj
      have hip : i < ps.length := by rw [foP_len] at hii; exact hii
      obtain ⟨adj, hpj⟩ := foP_at hj
      obtain ⟨adi, hpi⟩ := foP_at hii
      obtain ⟨pn, rfl, ej1, _⟩ := h.at hpj
      obtain ⟨_, e', ei1, _⟩ := m2.at hpi
      cases e'
      have hl0i : l0 = (i : Int) := hl0e.trans hki
      rw [hl0i] at hk0 cW
      have hk1 := kid_c (d + 3) lo H2 m2.pf (i : Int) (pa % 4) (Or.inr ⟨i, hii, rfl, by omega⟩)
      rw [hki, Int.toNat_natCast]
      have hgj : ((j : Int) != -1) = true := by rw [bne_iff_ne]; omega
      have hgi : ((i : Int) != -1) = true := by rw [bne_iff_ne]; omega
      have hbj : ((foP ps B).n[j].r == 1) = true := beq_iff_eq.2 hj1
      have hbi : ((foP ps B).n[i].r == 1) = true := beq_iff_eq.2 hi1
      obtain ⟨hKo, hko⟩ := leafKid hi h0 hii hif (List.getElem_mem (by omega : pa % 4 < (foP ps B).n[i].k.length))
      rw [kidOf_n hii (by omega)] at hk1 ⊢
      simp only [sgs] at g0 g2
      rw [← hlf] at wl k2
      rcases hKo with hm | ⟨o, hoe, hob, _⟩
      · obtain ⟨pn', H3, e', w3, m3, f3, l3⟩ := m2.rekid k2 hpi
        cases e'
        have w3' := wr_lo w3 hL
        rw [wl] at w3'
        rw [hm] at hk1 ⊢
        have hg : ((-1 : Int) != -1) = false := rfl
        refine ⟨H3, _, _, B, ?_, m3, by rw [foP_set1, hi1, hif, dropB_m _ (by omega)], (Fn.fq f02).seqF (FP.fq (FP.a f3)) (fun i e => Or.inl e), fun i e => Or.inl e⟩
        simp -implicitDefEqProofs only [putHead, v129, VMs, noRef, noRef1, isRef, List.all_cons, List.all_nil, vop, VOp.still, VOp.app, VOp.plain, allP, lof, evs, start, asI, vbin, vcells, ntup, setAll, vfill, vress, vres, tup, Nat.reduceEqDiff, ↓reduceIte, Nat.reduceAdd, Nat.reduceMul, Nat.reduceLeDiff, reduceCtorEq, hgj, hgi, g0, g2, slen, ltc hjp, ltc hip, ge0, decide_true, Int.toNat_natCast, ej1, ei1, hbj, hbi, q4, z40, hk0, r4, cW, cN, hk1, hg, w3', ntup, vcells]
      · obtain ⟨hoB, hor⟩ := hob rfl
        have hoB' : o < B.length := hoB
        obtain ⟨H3, c3, m3, f3, l3⟩ := drop_c (d + 3) lo L H2 m2 hL (getE hoB') ⟨hor.1, hor.2⟩
        have k3 := k2.fw f3.w k2.nb
        obtain ⟨pn', H4, e', w4, m4, f4, l4⟩ := m3.rekid k3 hpi
        cases e'
        have w4' := wr_lo w4 hL
        rw [wl] at w4'
        rw [hoe] at hk1 ⊢
        have hg : ((o : Int) != -1) = true := by rw [bne_iff_ne]; omega
        have g3 := m3.pf.n
        simp only [sgs] at g3
        refine ⟨H4, _, _, _, ?_, m4, by rw [foP_set1, hi1, hif, dropB_n hoB]; rfl, ((Fn.fq f02).seqF (FP.fq (FP.b f3)) (fun i e => Or.inl e)).seqF (FP.fq (FP.a f4)) (fun i e => Or.inl e), fun i e => Or.inl e⟩
        simp -implicitDefEqProofs only [putHead, v129, VMs, noRef, noRef1, isRef, List.all_cons, List.all_nil, vop, VOp.still, VOp.app, VOp.plain, allP, lof, evs, start, asI, vbin, vcells, ntup, setAll, vfill, vress, vres, tup, Nat.reduceEqDiff, ↓reduceIte, Nat.reduceAdd, Nat.reduceMul, Nat.reduceLeDiff, reduceCtorEq, hgj, hgi, g0, g2, g3, gb2, slen, ltc hjp, ltc hip, ge0, decide_true, Int.toNat_natCast, ej1, ei1, hbj, hbi, q4, z40, hk0, r4, cW, cN, hk1, hg, c3, w4', ntup, vcells]
    · rw [putF_f hn hal]
      -- what is read ahead of a fresh leaf
      have nf : ¬ (aloneF (foP ps B) root = true ∧ aloneF (foP ps B) l0 = true) := by rw [hl0e]; exact hal
      rcases hr with rfl | ⟨j, hj, rfl, hjf, hjr⟩
      · have hgj : ((-1 : Int) != -1) = false := rfl
        cases hfr : freshF (foP ps B) true (leafF (foP ps B) (-1) pa block) (pa % 4) with
        | none =>
          obtain ⟨H', c, f⟩ := sf1 hfr
          refine ⟨fun _ => ⟨H', ?_, (Fn.fq f02).seqF f (fun i e => Or.inl e)⟩, fun r F' e => by cases e⟩
          simp -implicitDefEqProofs only [putHead, v129, VMs, noRef, noRef1, isRef, List.all_cons, List.all_nil, vop, VOp.still, VOp.app, VOp.plain, allP, lof, evs, start, asI, vbin, vcells, ntup, setAll, vfill, vress, vres, tup, Nat.reduceEqDiff, ↓reduceIte, Nat.reduceAdd, Nat.reduceMul, Nat.reduceLeDiff, reduceCtorEq, List.getElem?_toArray, hgj, q4, z40, hk0, r4, cW, cN, c, z20]
        | some mf =>
          obtain ⟨m, F1⟩ := mf
          obtain ⟨H1, a1, ps1, B1, c1, m1, e1, f1, ha1⟩ := sf2 _ _ hfr
          obtain ⟨i1, i2, i3, i4, i5, i6, i7⟩ := leaf_fresh hi (Or.inl rfl) hb hn hpa hfr
          rw [← e1] at i1 i2 i3 i6 i7
          obtain ⟨r1, r2⟩ := putTail_c d lo L H1 H m1 hL i1 i2 i3 hpa (fun _ => by omega)
          rw [i6, i7, ← hl0e] at r1 r2
          rw [e1] at r1 r2
          have fA := (Fn.fq (q := q) (a := a) (b := b) f02).seqF f1 (fun i e => Or.inl e)
          simp only [Option.bind_some]
          refine ⟨fun e => ?_, fun r F' e => ?_⟩
          · obtain ⟨H', c, f⟩ := r1 e
            refine ⟨H', ?_, fA.seqF f (fun i e => (ha1 i e).imp id (fun e => by omega))⟩
            simp -implicitDefEqProofs only [putHead, v129, VMs, noRef, noRef1, isRef, List.all_cons, List.all_nil, vop, VOp.still, VOp.app, VOp.plain, allP, lof, evs, start, asI, vbin, vcells, ntup, setAll, vfill, vress, vres, tup, Nat.reduceEqDiff, ↓reduceIte, Nat.reduceAdd, Nat.reduceMul, Nat.reduceLeDiff, reduceCtorEq, List.getElem?_toArray, hgj, q4, z40, hk0, r4, cW, cN, c1, bne_self_eq_false]
            refine c _ ?_ ?_ ?_ ?_ ?_ ?_ <;> simp -implicitDefEqProofs only [VMs, noRef, noRef1, isRef, List.all_cons, List.all_nil, vop, VOp.still, VOp.app, VOp.plain, allP, lof, evs, start, asI, vbin, vcells, ntup, setAll, vfill, vress, vres, tup, Nat.reduceEqDiff, ↓reduceIte, Nat.reduceAdd, Nat.reduceMul, Nat.reduceLeDiff, reduceCtorEq, aloneF_m]
          · obtain ⟨H', a', ps', B', c, m', ee, f, ha⟩ := r2 r F' e
            have hl1 := f1.len
            refine ⟨H', a', ps', B', ?_, m', ee, fA.seqF f (fun i e => (ha1 i e).imp id (fun e => by omega)), fun i e => (ha i e).elim (fun e => (ha1 i e).imp id (fun e => by omega)) (fun e => Or.inr (by omega))⟩
            simp -implicitDefEqProofs only [putHead, v129, VMs, noRef, noRef1, isRef, List.all_cons, List.all_nil, vop, VOp.still, VOp.app, VOp.plain, allP, lof, evs, start, asI, vbin, vcells, ntup, setAll, vfill, vress, vres, tup, Nat.reduceEqDiff, ↓reduceIte, Nat.reduceAdd, Nat.reduceMul, Nat.reduceLeDiff, reduceCtorEq, List.getElem?_toArray, hgj, q4, z40, hk0, r4, cW, cN, c1, bne_self_eq_false]
            refine c _ ?_ ?_ ?_ ?_ ?_ ?_ <;> simp -implicitDefEqProofs only [VMs, noRef, noRef1, isRef, List.all_cons, List.all_nil, vop, VOp.still, VOp.app, VOp.plain, allP, lof, evs, start, asI, vbin, vcells, ntup, setAll, vfill, vress, vres, tup, Nat.reduceEqDiff, ↓reduceIte, Nat.reduceAdd, Nat.reduceMul, Nat.reduceLeDiff, reduceCtorEq, aloneF_m]
      · have hgj : ((j : Int) != -1) = true := by rw [bne_iff_ne]; omega
        have hjp : j < ps.length := by rw [foP_len] at hj; exact hj
        obtain ⟨adj, hpj⟩ := foP_at hj
        obtain ⟨pn, rfl, ej1, _⟩ := h.at hpj
        simp only [sgs] at g0 g2
        -- the three ways in which they are not both alone
        have ways : ((foP ps B).n[j].r == 1) = false ∨ (((foP ps B).n[j].r == 1) = true ∧ l0 = -1) ∨ (((foP ps B).n[j].r == 1) = true ∧ ∃ i : Nat, l0 = (i : Int) ∧ i < ps.length ∧ ∃ v : Int, rd H2 ⟨pn, i * 3, none⟩ = some (.int .i64 v) ∧ (v == 1) = false) := by
          by_cases e : (foP ps B).n[j].r = 1
          · have e' : ((foP ps B).n[j].r == 1) = true := beq_iff_eq.2 e
            rcases hl0 with h1 | ⟨i, hii, h1, hif⟩
            · exact Or.inr (Or.inl ⟨e', h1⟩)
            · refine Or.inr (Or.inr ⟨e', i, h1, by rw [foP_len] at hii; exact hii, (foP ps B).n[i].r, ?_, ?_⟩)
              · obtain ⟨adi, hpi⟩ := foP_at hii
                obtain ⟨_, e2, ei1, _⟩ := m2.at hpi
                cases e2
                exact ei1
              · refine eq_false_of_ne_true fun e2 => nf ⟨by rw [aloneF_n hj]; exact e', by rw [h1, aloneF_n hii]; exact e2⟩
          · exact Or.inl (beq_eq_false_iff_ne.2 e)
        have hm1 : ((-1 : Int) != -1) = false := rfl
        have hmi : ∀ i : Nat, ((i : Int) != -1) = true := fun i => by rw [bne_iff_ne]; omega
        cases hfr : freshF (foP ps B) true (leafF (foP ps B) (j : Int) pa block) (pa % 4) with
        | none =>
          obtain ⟨H', c, f⟩ := sf1 hfr
          refine ⟨fun _ => ⟨H', ?_, (Fn.fq f02).seqF f (fun i e => Or.inl e)⟩, fun r F' e => by cases e⟩
          rcases ways with w1 | ⟨w1, w2⟩ | ⟨w1, i, w2, w3, v, w4, w5⟩
          · simp -implicitDefEqProofs only [putHead, v129, VMs, noRef, noRef1, isRef, List.all_cons, List.all_nil, vop, VOp.still, VOp.app, VOp.plain, allP, lof, evs, start, asI, vbin, vcells, ntup, setAll, vfill, vress, vres, tup, Nat.reduceEqDiff, ↓reduceIte, Nat.reduceAdd, Nat.reduceMul, Nat.reduceLeDiff, reduceCtorEq, List.getElem?_toArray, hgj, g0, g2, slen, ltc hjp, ge0, decide_true, Int.toNat_natCast, ej1, w1, q4, z40, hk0, r4, cW, cN, c, z20]
          · rw [w2] at hk0 cW
            simp -implicitDefEqProofs only [putHead, v129, VMs, noRef, noRef1, isRef, List.all_cons, List.all_nil, vop, VOp.still, VOp.app, VOp.plain, allP, lof, evs, start, asI, vbin, vcells, ntup, setAll, vfill, vress, vres, tup, Nat.reduceEqDiff, ↓reduceIte, Nat.reduceAdd, Nat.reduceMul, Nat.reduceLeDiff, reduceCtorEq, List.getElem?_toArray, hgj, g0, g2, slen, ltc hjp, ge0, decide_true, Int.toNat_natCast, ej1, w1, hm1, q4, z40, hk0, r4, cW, cN, c, z20]
          · rw [w2] at hk0 cW
            simp -implicitDefEqProofs only [putHead, v129, VMs, noRef, noRef1, isRef, List.all_cons, List.all_nil, vop, VOp.still, VOp.app, VOp.plain, allP, lof, evs, start, asI, vbin, vcells, ntup, setAll, vfill, vress, vres, tup, Nat.reduceEqDiff, ↓reduceIte, Nat.reduceAdd, Nat.reduceMul, Nat.reduceLeDiff, reduceCtorEq, List.getElem?_toArray, hgj, g0, g2, slen, ltc hjp, ltc w3, ge0, decide_true, Int.toNat_natCast, ej1, w1, hmi, w4, w5, q4, z40, hk0, r4, cW, cN, c, z20]
        | some mf =>
          obtain ⟨m, F1⟩ := mf
          obtain ⟨H1, a1, ps1, B1, c1, m1, e1, f1, ha1⟩ := sf2 _ _ hfr
          obtain ⟨i1, i2, i3, i4, i5, i6, i7⟩ := leaf_fresh hi (Or.inr ⟨j, hj, rfl, hjf, hjr⟩) hb hn hpa hfr
          rw [← e1] at i1 i2 i3 i6 i7
          obtain ⟨r1, r2⟩ := putTail_c d lo L H1 H m1 hL i1 i2 i3 hpa (fun _ => by omega)
          rw [i6, i7, ← hl0e, aloneF_n hj] at r1 r2
          rw [e1] at r1 r2
          have fA := (Fn.fq (q := q) (a := some ⟨pn, 0, none⟩) (b := b) f02).seqF f1 (fun i e => Or.inl e)
          simp only [Option.bind_some]
          refine ⟨fun e => ?_, fun r F' e => ?_⟩
          · obtain ⟨H', c, f⟩ := r1 e
            refine ⟨H', ?_, fA.seqF f (fun i e => (ha1 i e).imp id (fun e => by omega))⟩
            rcases ways with w1 | ⟨w1, w2⟩ | ⟨w1, i, w2, w3, v, w4, w5⟩
            · rw [w1] at c
              simp -implicitDefEqProofs only [putHead, v129, VMs, noRef, noRef1, isRef, List.all_cons, List.all_nil, vop, VOp.still, VOp.app, VOp.plain, allP, lof, evs, start, asI, vbin, vcells, ntup, setAll, vfill, vress, vres, tup, Nat.reduceEqDiff, ↓reduceIte, Nat.reduceAdd, Nat.reduceMul, Nat.reduceLeDiff, reduceCtorEq, List.getElem?_toArray, hgj, g0, g2, slen, ltc hjp, ge0, decide_true, Int.toNat_natCast, ej1, w1, q4, z40, hk0, r4, cW, cN, c1, bne_self_eq_false]
              refine c _ ?_ ?_ ?_ ?_ ?_ ?_ <;> simp -implicitDefEqProofs only [VMs, noRef, noRef1, isRef, List.all_cons, List.all_nil, vop, VOp.still, VOp.app, VOp.plain, allP, lof, evs, start, asI, vbin, vcells, ntup, setAll, vfill, vress, vres, tup, Nat.reduceEqDiff, ↓reduceIte, Nat.reduceAdd, Nat.reduceMul, Nat.reduceLeDiff, reduceCtorEq, aloneF_m]
            · rw [w2] at hk0 cW c
              rw [w1] at c
              simp -implicitDefEqProofs only [putHead, v129, VMs, noRef, noRef1, isRef, List.all_cons, List.all_nil, vop, VOp.still, VOp.app, VOp.plain, allP, lof, evs, start, asI, vbin, vcells, ntup, setAll, vfill, vress, vres, tup, Nat.reduceEqDiff, ↓reduceIte, Nat.reduceAdd, Nat.reduceMul, Nat.reduceLeDiff, reduceCtorEq, List.getElem?_toArray, hgj, g0, g2, slen, ltc hjp, ge0, decide_true, Int.toNat_natCast, ej1, w1, hm1, q4, z40, hk0, r4, cW, cN, c1, bne_self_eq_false]
              refine c _ ?_ ?_ ?_ ?_ ?_ ?_ <;> simp -implicitDefEqProofs only [VMs, noRef, noRef1, isRef, List.all_cons, List.all_nil, vop, VOp.still, VOp.app, VOp.plain, allP, lof, evs, start, asI, vbin, vcells, ntup, setAll, vfill, vress, vres, tup, Nat.reduceEqDiff, ↓reduceIte, Nat.reduceAdd, Nat.reduceMul, Nat.reduceLeDiff, reduceCtorEq, aloneF_m]
            · rw [w2] at hk0 cW c
              rw [w1] at c
              simp -implicitDefEqProofs only [putHead, v129, VMs, noRef, noRef1, isRef, List.all_cons, List.all_nil, vop, VOp.still, VOp.app, VOp.plain, allP, lof, evs, start, asI, vbin, vcells, ntup, setAll, vfill, vress, vres, tup, Nat.reduceEqDiff, ↓reduceIte, Nat.reduceAdd, Nat.reduceMul, Nat.reduceLeDiff, reduceCtorEq, List.getElem?_toArray, hgj, g0, g2, slen, ltc hjp, ltc w3, ge0, decide_true, Int.toNat_natCast, ej1, w1, hmi, w4, w5, q4, z40, hk0, r4, cW, cN, c1, bne_self_eq_false]
              refine c _ ?_ ?_ ?_ ?_ ?_ ?_ <;> simp -implicitDefEqProofs only [VMs, noRef, noRef1, isRef, List.all_cons, List.all_nil, vop, VOp.still, VOp.app, VOp.plain, allP, lof, evs, start, asI, vbin, vcells, ntup, setAll, vfill, vress, vres, tup, Nat.reduceEqDiff, ↓reduceIte, Nat.reduceAdd, Nat.reduceMul, Nat.reduceLeDiff, reduceCtorEq, aloneF_m]
          · obtain ⟨H', a', ps', B', c, m', ee, f, ha⟩ := r2 r F' e
            have hl1 := f1.len
            refine ⟨H', a', ps', B', ?_, m', ee, fA.seqF f (fun i e => (ha1 i e).imp id (fun e => by omega)), fun i e => (ha i e).elim (fun e => (ha1 i e).imp id (fun e => by omega)) (fun e => Or.inr (by omega))⟩
            rcases ways with w1 | ⟨w1, w2⟩ | ⟨w1, i, w2, w3, v, w4, w5⟩
            · rw [w1] at c
              simp -implicitDefEqProofs only [putHead, v129, VMs, noRef, noRef1, isRef, List.all_cons, List.all_nil, vop, VOp.still, VOp.app, VOp.plain, allP, lof, evs, start, asI, vbin, vcells, ntup, setAll, vfill, vress, vres, tup, Nat.reduceEqDiff, ↓reduceIte, Nat.reduceAdd, Nat.reduceMul, Nat.reduceLeDiff, reduceCtorEq, List.getElem?_toArray, hgj, g0, g2, slen, ltc hjp, ge0, decide_true, Int.toNat_natCast, ej1, w1, q4, z40, hk0, r4, cW, cN, c1, bne_self_eq_false]
              refine c _ ?_ ?_ ?_ ?_ ?_ ?_ <;> simp -implicitDefEqProofs only [VMs, noRef, noRef1, isRef, List.all_cons, List.all_nil, vop, VOp.still, VOp.app, VOp.plain, allP, lof, evs, start, asI, vbin, vcells, ntup, setAll, vfill, vress, vres, tup, Nat.reduceEqDiff, ↓reduceIte, Nat.reduceAdd, Nat.reduceMul, Nat.reduceLeDiff, reduceCtorEq, aloneF_m]
            · rw [w2] at hk0 cW c
              rw [w1] at c
              simp -implicitDefEqProofs only [putHead, v129, VMs, noRef, noRef1, isRef, List.all_cons, List.all_nil, vop, VOp.still, VOp.app, VOp.plain, allP, lof, evs, start, asI, vbin, vcells, ntup, setAll, vfill, vress, vres, tup, Nat.reduceEqDiff, ↓reduceIte, Nat.reduceAdd, Nat.reduceMul, Nat.reduceLeDiff, reduceCtorEq, List.getElem?_toArray, hgj, g0, g2, slen, ltc hjp, ge0, decide_true, Int.toNat_natCast, ej1, w1, hm1, q4, z40, hk0, r4, cW, cN, c1, bne_self_eq_false]
              refine c _ ?_ ?_ ?_ ?_ ?_ ?_ <;> simp -implicitDefEqProofs only [VMs, noRef, noRef1, isRef, List.all_cons, List.all_nil, vop, VOp.still, VOp.app, VOp.plain, allP, lof, evs, start, asI, vbin, vcells, ntup, setAll, vfill, vress, vres, tup, Nat.reduceEqDiff, ↓reduceIte, Nat.reduceAdd, Nat.reduceMul, Nat.reduceLeDiff, reduceCtorEq, aloneF_m]
            · rw [w2] at hk0 cW c
              rw [w1] at c
              simp -implicitDefEqProofs only [putHead, v129, VMs, noRef, noRef1, isRef, List.all_cons, List.all_nil, vop, VOp.still, VOp.app, VOp.plain, allP, lof, evs, start, asI, vbin, vcells, ntup, setAll, vfill, vress, vres, tup, Nat.reduceEqDiff, ↓reduceIte, Nat.reduceAdd, Nat.reduceMul, Nat.reduceLeDiff, reduceCtorEq, List.getElem?_toArray, hgj, g0, g2, slen, ltc hjp, ltc w3, ge0, decide_true, Int.toNat_natCast, ej1, w1, hmi, w4, w5, q4, z40, hk0, r4, cW, cN, c1, bne_self_eq_false]
              refine c _ ?_ ?_ ?_ ?_ ?_ ?_ <;> simp -implicitDefEqProofs only [VMs, noRef, noRef1, isRef, List.all_cons, List.all_nil, vop, VOp.still, VOp.app, VOp.plain, allP, lof, evs, start, asI, vbin, vcells, ntup, setAll, vfill, vress, vres, tup, Nat.reduceEqDiff, ↓reduceIte, Nat.reduceAdd, Nat.reduceMul, Nat.reduceLeDiff, reduceCtorEq, aloneF_m]
end Go.Proofs.Ytmcljallamhccaa.V
