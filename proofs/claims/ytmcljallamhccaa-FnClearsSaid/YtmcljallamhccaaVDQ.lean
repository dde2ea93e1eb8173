/- A place of a tree with another block: the reference's. -/
import Derived.Test.YtmcljallamhccaaVDP
namespace Go.Proofs.Ytmcljallamhccaa.V
open Go
set_option linter.unusedVariables false
set_option linter.unusedSimpArgs false
set_option maxRecDepth 100000
theorem Inv.kid' {F : Fo} {eB eN : Nat → Int} (h : Inv F eB eN) (h0 : ∀ i, 0 ≤ eB i) {x : Nd} (hx : x ∈ F.n) (hr : x.r ≠ 0) {k : Int} (hk : k ∈ x.k) : V.kidB F x.f k = true := by
  by_cases hf : x.f = true
  · rw [hf]
    rcases h.kl x hx hf k hk with e | ⟨e1, e2⟩
    · rw [e]; exact kidB_m _ _
    · obtain ⟨j, rfl⟩ : ∃ j : Nat, k = j := ⟨k.toNat, by omega⟩
      have hj : j < F.b.length := by omega
      rw [kidB_b hj]
      have h1 := h.cb j hj
      have h2 := nm_le_nmS hx true (j : Int)
      rw [nm_live hr hf] at h2
      have h3 := List.count_pos_iff.2 hk
      have h4 := h0 j
      exact decide_eq_true (by omega)
  · replace hf := eq_false_of_ne_true hf
    rw [hf]
    rcases h.kr x hx hf k hk with e | ⟨j, hj, rfl, hf'⟩
    · rw [e]; exact kidB_m _ _
    · rw [kidB_n hj, hf', Bool.and_true]
      have h1 := h.live (List.getElem_mem hj) hf'
      have h2 := h.nr _ (List.getElem_mem hj)
      exact decide_eq_true (by omega)
theorem Inv.good {F : Fo} {eB eN : Nat → Int} (h : Inv F eB eN) (h0 : ∀ i, 0 ≤ eB i) : Good F := by
  refine ⟨fB_ok.2 ⟨h.b24, h.bd⟩, h.n60, fun x hx => ?_⟩
  unfold nodeF
  rw [if_pos (h.nr x hx)]
  by_cases hr : x.r = 0
  · obtain ⟨e1, e2⟩ := h.n0 x hx hr
    rw [if_pos hr, if_neg (by rw [e1, e2]; simp)]
  · obtain ⟨e1, k, hk, hk0⟩ := h.n4 x hx hr
    rw [if_neg hr, if_pos e1, if_pos]
    exact ⟨List.all_eq_true.2 fun k hk => h.kid' h0 hx hr hk, List.any_eq_true.2 ⟨k, hk, by simpa using hk0⟩⟩
theorem RootOK.b {F : Fo} {eB eN : Nat → Int} (h : Inv F eB eN) {root : Int} (hr : RootOK F root) : rootB F root = true := by
  rcases hr with rfl | ⟨j, hj, rfl, hf, hr⟩
  · unfold rootB; simp
  · rw [rootB_n hj, hf]
    have := h.nr _ (List.getElem_mem hj)
    simp; omega
theorem kI_nonneg (k : Int) (i : Nat) : 0 ≤ kI k i := by unfold kI; split <;> omega
/-- A kid of a leaf. -/
theorem leafKid {F : Fo} {eB eN : Nat → Int} (h : Inv F eB eN) (h0 : ∀ i, 0 ≤ eB i) {i : Nat} (hi : i < F.n.length) (hf : F.n[i].f = true) {k : Int} (hk : k ∈ F.n[i].k) : Kid true F k ∧ (k = -1 ∨ (0 ≤ k ∧ k < (F.b.length : Int))) := by
  have hx := List.getElem_mem hi
  have hkl := h.kl _ hx hf k hk
  refine ⟨h.kidB hkl (fun j e hj => ?_), hkl⟩
  have h1 := h.cb j hj
  have h2 := nm_le_nmS hx true (j : Int)
  rw [nm_live (h.live hx hf) hf] at h2
  rw [e] at hk
  have h3 := List.count_pos_iff.2 hk
  have h4 := h0 j
  omega
def BlockOK (F : Fo) (k : Int) : Prop := k = -1 ∨ (0 ≤ k ∧ k < (F.b.length : Int))
theorem kidLeaf {F : Fo} {eB eN : Nat → Int} (h : Inv F eB eN) {root : Int} (hr : RootOK F root) {p : Nat} (hp : p < 4) : LeafOK F (kidOf F root p) := by
  rcases hr with rfl | ⟨j, hj, rfl, hf, hr⟩
  · exact Or.inl (kidOf_m F p)
  · have h4 := (h.n4 _ (List.getElem_mem hj) hr).1
    rw [kidOf_n hj (by omega)]
    exact h.kr _ (List.getElem_mem hj) hf _ (List.getElem_mem _)
/-- What holds of the kids of a leaf with another block. -/
theorem leafKids {F : Fo} {eB eN : Nat → Int} (h : Inv F eB eN) (h0 : ∀ i, 0 ≤ eB i) {l block : Int} (hl : LeafOK F l) (hb : BlockOK F block) {p : Nat} :
    (∀ k ∈ withK (kidsF F l) p block, k = -1 ∨ (0 ≤ k ∧ k < (F.b.length : Int))) ∧ ∀ k ∈ (withK (kidsF F l) p block).set p (-1), Kid true F k := by
  have hm : ∀ k ∈ kidsF F l, Kid true F k ∧ (k = -1 ∨ (0 ≤ k ∧ k < (F.b.length : Int))) := fun k hk => by
    rcases hl with rfl | ⟨i, hi, rfl, hf⟩
    · rw [kidsF_m] at hk; simp at hk
    · rw [kidsF_n hi] at hk
      exact leafKid h h0 hi hf hk
  refine ⟨fun k hk => ?_, fun k hk => ?_⟩
  · rcases withK_mem hk with e | e | e
    · exact Or.inl e
    · exact (hm k e).2
    · rw [e]; exact hb
  · have : (withK (kidsF F l) p block).set p (-1) = withK (kidsF F l) p (-1) := by unfold withK; rw [List.set_set]
    rw [this] at hk
    rcases withK_mem hk with e | e | e
    · exact Or.inl e
    · exact (hm k e).1
    · exact Or.inl e
/-- The leaf of a place, and the forest; none: too many. -/
def setLeafF (F : Fo) (root : Int) (p : Nat) (block : Int) : Option (Int × Fo) :=
  if noK (leafF F root p block) = true then some (-1, F)
  else if aloneF F root = true ∧ aloneF F (kidOf F root (p / 4)) = true then
    some (kidOf F root (p / 4), ⟨F.n.set (kidOf F root (p / 4)).toNat ⟨1, true, leafF F root p block⟩, dropB F.b (kidOf F (kidOf F root (p / 4)) (p % 4))⟩)
  else (freshF F true (leafF F root p block) (p % 4)).map fun r => ((r.1 : Int), r.2)
theorem l4SetLeaf_c (d lo L : Nat) (H : Hp) {q : Nat} {a b : Option Addr} {ps : List (Nd × Option Addr)} {B : List Bk} (h : MF L H q a b ps B) (hL : lo ≤ L) {root block : Int} (hi : Inv (foP ps B) (kI block) z0) (hr : RootOK (foP ps B) root) (hb : BlockOK (foP ps B) block) {pa : Nat} (hpa : pa ≤ 15) :
    (setLeafF (foP ps B) root pa block = none → ∃ H', vcall env (d + 4) 151 [.pointer (some ⟨q, 0, none⟩), .int .i64 root, .int .i64 (pa : Nat), .int .i64 block] lo H = some (.tuple #[.int .i64 (-1), .int .i64 2], H') ∧ Fw (FQ q a b) H H') ∧
    (∀ r F', setLeafF (foP ps B) root pa block = some (r, F') → ∃ H' a' ps' B', vcall env (d + 4) 151 [.pointer (some ⟨q, 0, none⟩), .int .i64 root, .int .i64 (pa : Nat), .int .i64 block] lo H = some (.tuple #[.int .i64 r, .int .i64 0], H') ∧
      MF L H' q a' b ps' B' ∧ foP ps' B' = F' ∧ Fw (FQ q a b) H H' ∧ ∀ i, Ad a' i → Ad a i ∨ H.length ≤ i) := by
  have hp : pa % 4 < 4 := by omega
  have h0 := kI_nonneg block
  have hl0 := kidLeaf hi hr (by omega : pa / 4 < 4)
  have cL := l4Leaf_c (d + 2) lo H h.pf (hi.good h0) root (hr.b hi) pa hpa
  obtain ⟨l0, hl0e⟩ : ∃ l0, l0 = kidOf (foP ps B) root (pa / 4) := ⟨_, rfl⟩
  have k4 := kids4L hi hl0
  obtain ⟨hkr, hKs⟩ := leafKids hi h0 hl0 hb (p := pa % 4)
  have hlf : leafF (foP ps B) root pa block = withK (kidsF (foP ps B) l0) (pa % 4) block := by rw [hl0e]; rfl
  rw [← hl0e] at hl0 cL k4 hkr hKs
  have wl := withK_len (p := pa % 4) (k := block) k4
  have hcnt := fun i => withK_count block k4 hp i
  have hl60 : ps.length ≤ 60 := by have := hi.n60; rw [foP_len] at this; exact this
  have hKF : ∀ k ∈ (withK (kidsF (foP ps B) l0) (pa % 4) block).set (pa % 4) (-1), Kid true (putF1 (foP ps B) true (withK (kidsF (foP ps B) l0) (pa % 4) block)) k := fun k hk => (hKs k hk).put _
  have r4 := rem4 pa
  have z40 : ((4 : Int) = 0) = False := by simp
  have hge : ∀ k ∈ withK (kidsF (foP ps B) l0) (pa % 4) block, k = -1 ∨ 0 ≤ k := fun k hk => (hkr k hk).imp id (·.1)
  obtain ⟨H1, hH1⟩ : ∃ H1 : Hp, H1 = H ++ [some ⟨[], true, true⟩] := ⟨_, rfl⟩
  have f1 : Fn H H1 := hH1 ▸ Fr.app
  have l1 : H1.length = H.length + 1 := by rw [hH1]; simp
  obtain ⟨H2, hH2⟩ : ∃ H2 : Hp, H2 = H1 ++ [some ⟨vI (withK (kidsF (foP ps B) l0) (pa % 4) block), true, false⟩] := ⟨_, rfl⟩
  have f2 : Fn H1 H2 := hH2 ▸ Fr.app
  have l2 : H2.length = H1.length + 1 := by rw [hH2]; simp
  have f02 : Fn H H2 := f1.trans f2
  have m2 := h.new f02
  have bk : H2.blk H1.length = some ⟨vI (withK (kidsF (foP ps B) l0) (pa % 4) block), true, false⟩ := by rw [hH2]; exact blk0
  have k2 : KB L H2 q a b ps H1.length _ := h.newK f02 (by omega) bk
  have rk := k2.rep
  rw [wl] at rk
  have cN := l4None_c (d + 2) lo H2 rk (by unfold Sm; omega) hge
  simp only [sgs] at cN
  have g1 := (h.new f1).pf.n
  have g2 := m2.pf.n
  have gb2 := m2.pf.b
  obtain ⟨sf1, sf2⟩ := specFresh (d + 2) lo L H2 m2 hL k2 wl true hp hl60 hKF
  rw [call_eq find151 _ _ _ rfl]
  unfold setLeafF
  rw [hlf, ← hl0e]
  -- what comes of a fresh leaf, whatever was read ahead of it
  rcases hl0 with hl0 | ⟨i, hin, hl0, hif⟩
  · rw [hl0] at cL k4 hkr hKs wl hKF hH2 cN sf1 sf2 bk ⊢
    have hd : decide ((-1 : Int) ≥ 0) = false := rfl
    have cW := l4With_c (d + 2) lo H1 (ad := some ⟨H.length, 0, none⟩) (ks := []) Rep.nil (Or.inl rfl) hp block
    rw [kidsF_m] at hH2 cN sf1 sf2 bk hkr ⊢
    rw [← hH2] at cW
    simp only [List.length_nil, sgs] at cW
    by_cases hn : noK (withK [] (pa % 4) block) = true
    · rw [hn] at cN
      rw [if_pos hn]
      refine ⟨fun e => (by cases e), fun r F' e => ?_⟩
      cases e
      refine ⟨H2, a, ps, B, ?_, m2, rfl, Fn.fq f02, fun i e => Or.inl e⟩
      subst hH1
      simp only [List.length_append, List.length_cons, List.length_nil, Nat.zero_add] at cW cN
      simp -implicitDefEqProofs only [v151, VMs, noRef, noRef1, isRef, List.all_cons, List.all_nil, vop, VOp.still, VOp.app, VOp.plain, allP, lof, evs, start, asI, vbin, vcells, ntup, setAll, vfill, vress, vres, tup, Nat.reduceEqDiff, ↓reduceIte, Nat.reduceAdd, Nat.reduceMul, Nat.reduceLeDiff, reduceCtorEq, cL, h00, hd, r4, z40, cW, cN]
    · replace hn := eq_false_of_ne_true hn
      rw [hn] at cN
      rw [hn, if_neg (by simp), if_neg (by rw [aloneF_m]; simp)]
      refine ⟨fun e => ?_, fun r F' e => ?_⟩
      · rw [Option.map_eq_none_iff] at e
        have lt1 : decide ((-1 : Int) < 0) = true := rfl
        rcases sf1 e with ⟨H', c, f⟩ | ⟨m, H3, H', c, c', f⟩
        · refine ⟨H', ?_, (Fn.fq f02).seqF f (fun i e => Or.inl e)⟩
          subst hH1
          simp only [List.length_append, List.length_cons, List.length_nil, Nat.zero_add] at cW cN c
          simp -implicitDefEqProofs only [v151, VMs, noRef, noRef1, isRef, List.all_cons, List.all_nil, vop, VOp.still, VOp.app, VOp.plain, allP, lof, evs, start, asI, vbin, vcells, ntup, setAll, vfill, vress, vres, tup, Nat.reduceEqDiff, ↓reduceIte, Nat.reduceAdd, Nat.reduceMul, Nat.reduceLeDiff, reduceCtorEq, cL, h00, hd, r4, z40, cW, cN, vfill, ev, lk, setAll, ntup, vcells, c, lt1]
        · have lt2 : decide ((m : Int) < 0) = false := decide_eq_false (by omega)
          refine ⟨H', ?_, (Fn.fq f02).seqF f (fun i e => Or.inl e)⟩
          subst hH1
          simp only [List.length_append, List.length_cons, List.length_nil, Nat.zero_add] at cW cN c c'
          simp -implicitDefEqProofs only [v151, VMs, noRef, noRef1, isRef, List.all_cons, List.all_nil, vop, VOp.still, VOp.app, VOp.plain, allP, lof, evs, start, asI, vbin, vcells, ntup, setAll, vfill, vress, vres, tup, Nat.reduceEqDiff, ↓reduceIte, Nat.reduceAdd, Nat.reduceMul, Nat.reduceLeDiff, reduceCtorEq, cL, h00, hd, r4, z40, cW, cN, vfill, ev, lk, setAll, ntup, vcells, c, lt2, c']
      · obtain ⟨⟨m, F1⟩, e1, e2⟩ := Option.map_eq_some_iff.1 e
        cases e2
        obtain ⟨H3, H', a', ps', B', c, c', mm, ee, f, ha⟩ := sf2 m F1 e1
        have lt2 : decide ((m : Int) < 0) = false := decide_eq_false (by omega)
        refine ⟨H', a', ps', B', ?_, mm, ee, (Fn.fq f02).seqF f (fun i e => Or.inl e), fun i e => (ha i e).imp id (fun e => by omega)⟩
        subst hH1
        simp only [List.length_append, List.length_cons, List.length_nil, Nat.zero_add] at cW cN c c'
        simp -implicitDefEqProofs only [v151, VMs, noRef, noRef1, isRef, List.all_cons, List.all_nil, vop, VOp.still, VOp.app, VOp.plain, allP, lof, evs, start, asI, vbin, vcells, ntup, setAll, vfill, vress, vres, tup, Nat.reduceEqDiff, ↓reduceIte, Nat.reduceAdd, Nat.reduceMul, Nat.reduceLeDiff, reduceCtorEq, cL, h00, hd, r4, z40, cW, cN, vfill, ev, lk, setAll, ntup, vcells, c, lt2, c']
  · rw [hl0] at cL k4 hkr hKs wl hKF hH2 cN sf1 sf2 bk k2 ⊢
    have hd : decide ((i : Int) ≥ 0) = true := decide_eq_true (by omega)
    have hip : i < ps.length := by rw [foP_len] at hin; exact hin
    have hir := hi.live (List.getElem_mem hin) hif
    obtain ⟨ad, hpi⟩ := foP_at hin
    obtain ⟨pn, rfl, e1, e2, e3, e4, e5⟩ := (h.new f1).at hpi
    obtain ⟨_, e', e1', _, _, e4', _⟩ := m2.at hpi
    cases e'
    have hk4 := (hi.n4 _ (List.getElem_mem hin) hir).1
    have cW := l4With_c (d + 2) lo H1 e4 (Or.inr hk4) hp block
    rw [kidsF_n hin] at hH2 cN sf1 sf2 bk hkr wl k2 ⊢
    rw [← hH2] at cW
    rw [hk4] at cW e3
    simp only [sgs] at g1 g2
    -- the root
    have hrj : ∃ (j : Nat) (hj : j < (foP ps B).n.length), root = (j : Int) ∧ (foP ps B).n[j].f = false ∧ (foP ps B).n[j].r ≠ 0 := by
      rcases hr with e | e
      · rw [e, kidOf_m] at hl0e; omega
      · exact e
    obtain ⟨j, hj, rfl, hjf, hjr⟩ := hrj
    have hjp : j < ps.length := by rw [foP_len] at hj; exact hj
    obtain ⟨adj, hpj⟩ := foP_at hj
    obtain ⟨_, e', ej1, _, _, _, _⟩ := m2.at hpj
    cases e'
    by_cases hn : noK (withK (foP ps B).n[i].k (pa % 4) block) = true
    · rw [hn] at cN
      rw [if_pos hn]
      refine ⟨fun e => (by cases e), fun r F' e => ?_⟩
      cases e
      refine ⟨H2, _, ps, B, ?_, m2, rfl, Fn.fq f02, fun i e => Or.inl e⟩
      subst hH1
      simp only [List.length_append, List.length_cons, List.length_nil, Nat.zero_add] at cW cN
      simp -implicitDefEqProofs only [v151, VMs, noRef, noRef1, isRef, List.all_cons, List.all_nil, vop, VOp.still, VOp.app, VOp.plain, allP, lof, evs, start, asI, vbin, vcells, ntup, setAll, vfill, vress, vres, tup, Nat.reduceEqDiff, ↓reduceIte, Nat.reduceAdd, Nat.reduceMul, Nat.reduceLeDiff, reduceCtorEq, cL, h00, hd, g1, slen, ltc hip, ge0, decide_true, Int.toNat_natCast, e3, r4, z40, cW, cN]
    · replace hn := eq_false_of_ne_true hn
      rw [hn] at cN
      rw [hn, if_neg (by simp)]
      by_cases hal : (foP ps B).n[j].r = 1 ∧ (foP ps B).n[i].r = 1
      · obtain ⟨haj, hai⟩ := hal
        have hbj : ((foP ps B).n[j].r == 1) = true := beq_iff_eq.2 haj
        have hbi : ((foP ps B).n[i].r == 1) = true := beq_iff_eq.2 hai
        rw [if_pos ⟨by rw [aloneF_n hj]; exact hbj, by rw [aloneF_n hin]; exact hbi⟩, kidOf_n hin (by omega)]
        refine ⟨fun e => (by cases e), fun r F' e => ?_⟩
        cases e
        obtain ⟨po, oo, rfl, ek⟩ := e4'.at (j := pa % 4) (by omega)
        simp only [EI, Nat.mul_one] at ek
        have p4 : (((pa % 4 : Nat) : Int) < ((4 : Nat) : Int)) = True := ltc hp
        obtain ⟨hKo, hko⟩ := leafKid hi h0 hin hif (List.getElem_mem (by omega : pa % 4 < (foP ps B).n[i].k.length))
        rcases hKo with hm | ⟨o, hoe, hob, _⟩
        · obtain ⟨pn', H3, e', w3, m3, f3, l3⟩ := m2.rekid k2 hpi
          cases e'
          have w3' := wr_lo w3 hL
          rw [wl] at w3'
          rw [hm] at ek ⊢
          have hg : decide ((-1 : Int) ≥ 0) = false := rfl
          refine ⟨H3, _, _, B, ?_, m3, by rw [foP_set1, hai, hif, dropB_m _ (by omega), Int.toNat_natCast], (Fn.fq f02).seqF (FP.fq (FP.a f3)) (fun i e => Or.inl e), fun i e => Or.inl e⟩
          subst hH1
          simp only [List.length_append, List.length_cons, List.length_nil, Nat.zero_add, sgs] at cW cN w3' e3
          simp -implicitDefEqProofs only [v151, VMs, noRef, noRef1, isRef, List.all_cons, List.all_nil, vop, VOp.still, VOp.app, VOp.plain, allP, lof, evs, start, asI, vbin, vcells, ntup, setAll, vfill, vress, vres, tup, Nat.reduceEqDiff, ↓reduceIte, Nat.reduceAdd, Nat.reduceMul, Nat.reduceLeDiff, reduceCtorEq, cL, h00, hd, g1, g2, slen, ltc hip, ltc hjp, ge0, decide_true, Int.toNat_natCast, e3, e1', ej1, hbj, hbi, r4, z40, cW, cN, p4, Nat.mul_one, ek, w3', ntup, vcells, hg]
        · obtain ⟨hoB, hor⟩ := hob rfl
          have hoB' : o < B.length := hoB
          obtain ⟨H3, c3, m3, f3, l3⟩ := l3Drop_c (d + 2) lo L H2 m2 hL (getE hoB') ⟨hor.1, hor.2⟩
          have k3 := k2.fw f3.w k2.nb
          obtain ⟨pn', H4, e', w4, m4, f4, l4⟩ := m3.rekid k3 hpi
          cases e'
          have w4' := wr_lo w4 hL
          rw [wl] at w4'
          rw [hoe] at ek ⊢
          have hg : decide ((o : Int) ≥ 0) = true := decide_eq_true (by omega)
          have g3 := m3.pf.n
          simp only [sgs] at g3
          refine ⟨H4, _, _, _, ?_, m4, by rw [foP_set1, hai, hif, dropB_n hoB, Int.toNat_natCast]; rfl, ((Fn.fq f02).seqF (FP.fq (FP.b f3)) (fun i e => Or.inl e)).seqF (FP.fq (FP.a f4)) (fun i e => Or.inl e), fun i e => Or.inl e⟩
          subst hH1
          simp only [List.length_append, List.length_cons, List.length_nil, Nat.zero_add, sgs] at cW cN w4' e3
          simp -implicitDefEqProofs only [v151, VMs, noRef, noRef1, isRef, List.all_cons, List.all_nil, vop, VOp.still, VOp.app, VOp.plain, allP, lof, evs, start, asI, vbin, vcells, ntup, setAll, vfill, vress, vres, tup, Nat.reduceEqDiff, ↓reduceIte, Nat.reduceAdd, Nat.reduceMul, Nat.reduceLeDiff, reduceCtorEq, cL, h00, hd, g1, g2, g3, gb2, slen, ltc hip, ltc hjp, ge0, decide_true, Int.toNat_natCast, e3, e1', ej1, hbj, hbi, r4, z40, cW, cN, p4, Nat.mul_one, ek, c3, w4', ntup, vcells, hg]
      · have hcond : ¬ (aloneF (foP ps B) (j : Int) = true ∧ aloneF (foP ps B) (i : Int) = true) := by
          rw [aloneF_n hj, aloneF_n hin, beq_iff_eq, beq_iff_eq]; exact hal
        rw [if_neg hcond]
        have hbb : ((foP ps B).n[i].r == 1) = false ∨ ((foP ps B).n[i].r == 1) = true ∧ ((foP ps B).n[j].r == 1) = false := by
          by_cases e : (foP ps B).n[i].r = 1
          · exact Or.inr ⟨beq_iff_eq.2 e, beq_eq_false_iff_ne.2 (fun e' => hal ⟨e', e⟩)⟩
          · exact Or.inl (beq_eq_false_iff_ne.2 e)
        refine ⟨fun e => ?_, fun r F' e => ?_⟩
        · rw [Option.map_eq_none_iff] at e
          have lt1 : decide ((-1 : Int) < 0) = true := rfl
          rcases sf1 e with ⟨H', c, f⟩ | ⟨m, H3, H', c, c', f⟩
          · refine ⟨H', ?_, (Fn.fq f02).seqF f (fun i e => Or.inl e)⟩
            subst hH1
            simp only [List.length_append, List.length_cons, List.length_nil, Nat.zero_add] at cW cN c
            rcases hbb with hbi | ⟨hbi, hbj⟩
            · simp -implicitDefEqProofs only [v151, VMs, noRef, noRef1, isRef, List.all_cons, List.all_nil, vop, VOp.still, VOp.app, VOp.plain, allP, lof, evs, start, asI, vbin, vcells, ntup, setAll, vfill, vress, vres, tup, Nat.reduceEqDiff, ↓reduceIte, Nat.reduceAdd, Nat.reduceMul, Nat.reduceLeDiff, reduceCtorEq, cL, h00, hd, g1, g2, slen, ltc hip, ltc hjp, ge0, decide_true, Int.toNat_natCast, e3, e1', ej1, hbi, r4, z40, cW, cN, vfill, ev, lk, setAll, ntup, vcells, c, lt1]
            · simp -implicitDefEqProofs only [v151, VMs, noRef, noRef1, isRef, List.all_cons, List.all_nil, vop, VOp.still, VOp.app, VOp.plain, allP, lof, evs, start, asI, vbin, vcells, ntup, setAll, vfill, vress, vres, tup, Nat.reduceEqDiff, ↓reduceIte, Nat.reduceAdd, Nat.reduceMul, Nat.reduceLeDiff, reduceCtorEq, cL, h00, hd, g1, g2, slen, ltc hip, ltc hjp, ge0, decide_true, Int.toNat_natCast, e3, e1', ej1, hbi, hbj, r4, z40, cW, cN, vfill, ev, lk, setAll, ntup, vcells, c, lt1]
          · have lt2 : decide ((m : Int) < 0) = false := decide_eq_false (by omega)
            refine ⟨H', ?_, (Fn.fq f02).seqF f (fun i e => Or.inl e)⟩
            subst hH1
            simp only [List.length_append, List.length_cons, List.length_nil, Nat.zero_add] at cW cN c c'
            rcases hbb with hbi | ⟨hbi, hbj⟩
            · simp -implicitDefEqProofs only [v151, VMs, noRef, noRef1, isRef, List.all_cons, List.all_nil, vop, VOp.still, VOp.app, VOp.plain, allP, lof, evs, start, asI, vbin, vcells, ntup, setAll, vfill, vress, vres, tup, Nat.reduceEqDiff, ↓reduceIte, Nat.reduceAdd, Nat.reduceMul, Nat.reduceLeDiff, reduceCtorEq, cL, h00, hd, g1, g2, slen, ltc hip, ltc hjp, ge0, decide_true, Int.toNat_natCast, e3, e1', ej1, hbi, r4, z40, cW, cN, vfill, ev, lk, setAll, ntup, vcells, c, lt2, c']
            · simp -implicitDefEqProofs only [v151, VMs, noRef, noRef1, isRef, List.all_cons, List.all_nil, vop, VOp.still, VOp.app, VOp.plain, allP, lof, evs, start, asI, vbin, vcells, ntup, setAll, vfill, vress, vres, tup, Nat.reduceEqDiff, ↓reduceIte, Nat.reduceAdd, Nat.reduceMul, Nat.reduceLeDiff, reduceCtorEq, cL, h00, hd, g1, g2, slen, ltc hip, ltc hjp, ge0, decide_true, Int.toNat_natCast, e3, e1', ej1, hbi, hbj, r4, z40, cW, cN, vfill, ev, lk, setAll, ntup, vcells, c, lt2, c']
        · obtain ⟨⟨m, F1⟩, e1m, e2m⟩ := Option.map_eq_some_iff.1 e
          cases e2m
          obtain ⟨H3, H', a', ps', B', c, c', mm, ee, f, ha⟩ := sf2 m F1 e1m
          have lt2 : decide ((m : Int) < 0) = false := decide_eq_false (by omega)
          refine ⟨H', a', ps', B', ?_, mm, ee, (Fn.fq f02).seqF f (fun i e => Or.inl e), fun i e => (ha i e).imp id (fun e => by omega)⟩
          subst hH1
          simp only [List.length_append, List.length_cons, List.length_nil, Nat.zero_add] at cW cN c c'
          rcases hbb with hbi | ⟨hbi, hbj⟩
          · simp -implicitDefEqProofs only [v151, VMs, noRef, noRef1, isRef, List.all_cons, List.all_nil, vop, VOp.still, VOp.app, VOp.plain, allP, lof, evs, start, asI, vbin, vcells, ntup, setAll, vfill, vress, vres, tup, Nat.reduceEqDiff, ↓reduceIte, Nat.reduceAdd, Nat.reduceMul, Nat.reduceLeDiff, reduceCtorEq, cL, h00, hd, g1, g2, slen, ltc hip, ltc hjp, ge0, decide_true, Int.toNat_natCast, e3, e1', ej1, hbi, r4, z40, cW, cN, vfill, ev, lk, setAll, ntup, vcells, c, lt2, c']
          · simp -implicitDefEqProofs only [v151, VMs, noRef, noRef1, isRef, List.all_cons, List.all_nil, vop, VOp.still, VOp.app, VOp.plain, allP, lof, evs, start, asI, vbin, vcells, ntup, setAll, vfill, vress, vres, tup, Nat.reduceEqDiff, ↓reduceIte, Nat.reduceAdd, Nat.reduceMul, Nat.reduceLeDiff, reduceCtorEq, cL, h00, hd, g1, g2, slen, ltc hip, ltc hjp, ge0, decide_true, Int.toNat_natCast, e3, e1', ej1, hbi, hbj, r4, z40, cW, cN, vfill, ev, lk, setAll, ntup, vcells, c, lt2, c']
end Go.Proofs.Ytmcljallamhccaa.V
