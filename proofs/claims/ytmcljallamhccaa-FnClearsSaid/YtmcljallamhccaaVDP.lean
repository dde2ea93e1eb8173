/- The root with another leaf: the reference's. -/
import Derived.Test.YtmcljallamhccaaVDO
namespace Go.Proofs.Ytmcljallamhccaa.V
open Go
set_option linter.unusedVariables false
set_option linter.unusedSimpArgs false
set_option maxRecDepth 100000
theorem h00 : ((0 : Nat) == 0) = true := rfl
theorem Fw.seqF {q : Nat} {a a' b : Option Addr} {H H1 H2 : Hp} (h : Fw (FQ q a b) H H1) (h' : Fw (FQ q a' b) H1 H2) (ha : ∀ i, Ad a' i → Ad a i ∨ H.length ≤ i) : Fw (FQ q a b) H H2 :=
  h.then h' fun i hi hl => by
    rcases hi with hi | hi | hi
    · exact Or.inl hi
    · rcases ha i hi with e | e
      · exact Or.inr (Or.inl e)
      · omega
    · exact Or.inr (Or.inr hi)
theorem FP.fq {q : Nat} {a b : Option Addr} {H H' : Hp} (h : Fr (FP a b) H H') : Fw (FQ q a b) H H' := h.w.mono fun i hi => hi.elim (fun e => Or.inr (Or.inl e)) fun e => Or.inr (Or.inr e)
theorem Fn.fq {q : Nat} {a b : Option Addr} {H H' : Hp} (h : Fn H H') : Fw (FQ q a b) H H' := h.w.mono fun _ => False.elim
theorem setRootF_n {F : Fo} {root leaf : Int} {p : Nat} (hn : noK (withK (kidsF F root) p leaf) = true) : setRootF F root p leaf = some (-1, if root = -1 then F else lessR F root.toNat) := by unfold setRootF; rw [if_pos hn]
theorem setRootF_a {F : Fo} {root leaf : Int} {p : Nat} (hn : noK (withK (kidsF F root) p leaf) = false) (ha : aloneF F root = true) : setRootF F root p leaf = some (root, lessK ⟨F.n.set root.toNat ⟨1, false, withK (kidsF F root) p leaf⟩, F.b⟩ (kidOf F root p)) := by unfold setRootF; rw [hn, if_neg (by simp), if_pos ha]
theorem setRootF_f {F : Fo} {root leaf : Int} {p : Nat} (hn : noK (withK (kidsF F root) p leaf) = false) (ha : aloneF F root = false) : setRootF F root p leaf = (freshF F false (withK (kidsF F root) p leaf) p).map fun r => ((r.1 : Int), if root = -1 then r.2 else lessR r.2 root.toNat) := by unfold setRootF; rw [hn, ha, if_neg (by simp), if_neg (by simp)]
theorem l4SetRoot_c (d lo L : Nat) (H : Hp) {q : Nat} {a b : Option Addr} {ps : List (Nd × Option Addr)} {B : List Bk} (h : MF L H q a b ps B) (hL : lo ≤ L) {root leaf : Int} (hi : Inv (foP ps B) z0 (kI leaf)) (hr : RootOK (foP ps B) root) (hl : LeafOK (foP ps B) leaf) {pa : Nat} (hpa : pa ≤ 15) (hne : leaf = -1 ∨ leaf ≠ kidOf (foP ps B) root (pa / 4)) :
    (setRootF (foP ps B) root (pa / 4) leaf = none → ∃ H', vcall env (d + 4) 152 [.pointer (some ⟨q, 0, none⟩), .int .i64 root, .int .i64 (pa : Nat), .int .i64 leaf] lo H = some (.tuple #[.int .i64 (-1), .int .i64 2], H') ∧ Fw (FQ q a b) H H') ∧
    (∀ r F', setRootF (foP ps B) root (pa / 4) leaf = some (r, F') → ∃ H' a' ps' B', vcall env (d + 4) 152 [.pointer (some ⟨q, 0, none⟩), .int .i64 root, .int .i64 (pa : Nat), .int .i64 leaf] lo H = some (.tuple #[.int .i64 r, .int .i64 0], H') ∧
      MF L H' q a' b ps' B' ∧ foP ps' B' = F' ∧ Fw (FQ q a b) H H' ∧ ∀ i, Ad a' i → Ad a i ∨ H.length ≤ i) := by
  have hp : pa / 4 < 4 := by omega
  have k4 := kids4 hi hr
  have hko := kidsOK hi hr hl (p := pa / 4)
  have wl := withK_len (p := pa / 4) (k := leaf) k4
  have hcnt := fun i => withK_count leaf k4 hp i
  have hl60 : ps.length ≤ 60 := by have := hi.n60; rw [foP_len] at this; exact this
  have hKF : ∀ k ∈ (withK (kidsF (foP ps B) root) (pa / 4) leaf).set (pa / 4) (-1), Kid false (putF1 (foP ps B) false (withK (kidsF (foP ps B) root) (pa / 4) leaf)) k := fun k hk => by
    rcases List.mem_or_eq_of_mem_set hk with e | e
    · exact (hi.kidN (hko k e)).put _
    · exact Or.inl e
  have q4 := quo4 hpa
  have z40 : ((4 : Int) = 0) = False := by simp
  have h50 : (((4 : Nat) : Int)) = 4 := rfl
  obtain ⟨H1, hH1⟩ : ∃ H1 : Hp, H1 = H ++ [some ⟨[], true, true⟩] := ⟨_, rfl⟩
  have f1 : Fn H H1 := hH1 ▸ Fr.app
  have l1 : H1.length = H.length + 1 := by rw [hH1]; simp
  obtain ⟨H2, hH2⟩ : ∃ H2 : Hp, H2 = H1 ++ [some ⟨vI (withK (kidsF (foP ps B) root) (pa / 4) leaf), true, false⟩] := ⟨_, rfl⟩
  have f2 : Fn H1 H2 := hH2 ▸ Fr.app
  have l2 : H2.length = H1.length + 1 := by rw [hH2]; simp
  have f02 : Fn H H2 := f1.trans f2
  have m2 := h.new f02
  have bk : H2.blk H1.length = some ⟨vI (withK (kidsF (foP ps B) root) (pa / 4) leaf), true, false⟩ := by rw [hH2]; exact blk0
  have k2 : KB L H2 q a b ps H1.length _ := h.newK f02 (by omega) bk
  have rk := k2.rep
  rw [wl] at rk
  have cN := l4None_c (d + 2) lo H2 rk (by unfold Sm; omega) (fun k hk => (hko k hk).ge)
  simp only [sgs] at cN
  have g1 := (h.new f1).pf.n
  have g2 := m2.pf.n
  obtain ⟨sf1, sf2⟩ := specFresh (d + 2) lo L H2 m2 hL k2 wl false hp hl60 hKF
  have rm1 : ((-1 : Int) ≥ 0) = False := by simp
  have z20 : ((2 : Int) != 0) = true := rfl
  rw [call_eq find152 _ _ _ rfl]
  rcases hr with rfl | ⟨j, hj, rfl, hf, hrr⟩
  · -- no root
    have hd : decide ((-1 : Int) ≥ 0) = false := rfl
    have cW := l4With_c (d + 2) lo H1 (ad := some ⟨H.length, 0, none⟩) (ks := []) Rep.nil (Or.inl rfl) hp leaf
    rw [kidsF_m] at hH2 cN sf1 sf2 bk hko
    rw [← hH2] at cW
    simp only [List.length_nil, sgs] at cW
    by_cases hn : noK (withK [] (pa / 4) leaf) = true
    · rw [hn] at cN
      rw [setRootF_n (by rw [kidsF_m]; exact hn), if_pos rfl]
      refine ⟨fun e => (by cases e), fun r F' e => ?_⟩
      cases e
      refine ⟨H2, a, ps, B, ?_, m2, rfl, Fn.fq f02, fun i e => Or.inl e⟩
      subst hH1
      simp only [List.length_append, List.length_cons, List.length_nil, Nat.zero_add] at cW cN
      simp -implicitDefEqProofs only [v152, VMs, noRef, noRef1, isRef, List.all_cons, List.all_nil, vop, VOp.still, VOp.app, VOp.plain, allP, lof, evs, start, asI, vbin, vcells, ntup, setAll, vfill, vress, vres, tup, Nat.reduceEqDiff, ↓reduceIte, Nat.reduceAdd, Nat.reduceMul, Nat.reduceLeDiff, reduceCtorEq, h00, hd, q4, z40, cW, cN]
    · replace hn := eq_false_of_ne_true hn
      rw [hn] at cN
      rw [setRootF_f (by rw [kidsF_m]; exact hn) (aloneF_m _), kidsF_m]
      refine ⟨fun e => ?_, fun r F' e => ?_⟩
      · rw [Option.map_eq_none_iff] at e
        have lt1 : decide ((-1 : Int) < 0) = true := rfl
        rcases sf1 e with ⟨H', c, f⟩ | ⟨m, H3, H', c, c', f⟩
        · refine ⟨H', ?_, (Fn.fq f02).seqF f (fun i e => Or.inl e)⟩
          subst hH1
          simp only [List.length_append, List.length_cons, List.length_nil, Nat.zero_add] at cW cN c
          simp -implicitDefEqProofs only [v152, VMs, noRef, noRef1, isRef, List.all_cons, List.all_nil, vop, VOp.still, VOp.app, VOp.plain, allP, lof, evs, start, asI, vbin, vcells, ntup, setAll, vfill, vress, vres, tup, Nat.reduceEqDiff, ↓reduceIte, Nat.reduceAdd, Nat.reduceMul, Nat.reduceLeDiff, reduceCtorEq, h00, hd, q4, z40, cW, cN, vfill, ev, lk, setAll, ntup, vcells, c, lt1]
        · have lt2 : decide ((m : Int) < 0) = false := decide_eq_false (by omega)
          refine ⟨H', ?_, (Fn.fq f02).seqF f (fun i e => Or.inl e)⟩
          subst hH1
          simp only [List.length_append, List.length_cons, List.length_nil, Nat.zero_add] at cW cN c c'
          simp -implicitDefEqProofs only [v152, VMs, noRef, noRef1, isRef, List.all_cons, List.all_nil, vop, VOp.still, VOp.app, VOp.plain, allP, lof, evs, start, asI, vbin, vcells, ntup, setAll, vfill, vress, vres, tup, Nat.reduceEqDiff, ↓reduceIte, Nat.reduceAdd, Nat.reduceMul, Nat.reduceLeDiff, reduceCtorEq, h00, hd, q4, z40, cW, cN, vfill, ev, lk, setAll, ntup, vcells, c, lt2, c']
      · obtain ⟨⟨m, F1⟩, e1, e2⟩ := Option.map_eq_some_iff.1 e
        cases e2
        obtain ⟨H3, H', a', ps', B', c, c', mm, ee, f, ha⟩ := sf2 m F1 e1
        have lt2 : decide ((m : Int) < 0) = false := decide_eq_false (by omega)
        refine ⟨H', a', ps', B', ?_, mm, ee, (Fn.fq f02).seqF f (fun i e => Or.inl e), fun i e => (ha i e).imp id (fun e => by omega)⟩
        subst hH1
        simp only [List.length_append, List.length_cons, List.length_nil, Nat.zero_add] at cW cN c c'
        simp -implicitDefEqProofs only [v152, VMs, noRef, noRef1, isRef, List.all_cons, List.all_nil, vop, VOp.still, VOp.app, VOp.plain, allP, lof, evs, start, asI, vbin, vcells, ntup, setAll, vfill, vress, vres, tup, Nat.reduceEqDiff, ↓reduceIte, Nat.reduceAdd, Nat.reduceMul, Nat.reduceLeDiff, reduceCtorEq, h00, hd, q4, z40, cW, cN, vfill, ev, lk, setAll, ntup, vcells, c, lt2, c']
  · -- a root
    have hd : decide ((j : Int) ≥ 0) = true := decide_eq_true (by omega)
    have hne1 : ¬ (j : Int) = -1 := by omega
    have hjp : j < ps.length := by rw [foP_len] at hj; exact hj
    obtain ⟨ad, hpj⟩ := foP_at hj
    obtain ⟨pn, rfl, e1, e2, e3, e4, e5⟩ := (h.new f1).at hpj
    obtain ⟨_, e', e1', _, _, e4', _⟩ := m2.at hpj
    cases e'
    have hk4 := (hi.n4 _ (List.getElem_mem hj) hrr).1
    have cW := l4With_c (d + 2) lo H1 e4 (Or.inr hk4) hp leaf
    rw [kidsF_n hj] at hH2 cN sf1 sf2 bk hko
    rw [← hH2] at cW
    rw [hk4] at cW e3
    simp only [sgs] at g1 g2
    have hRO : RootOK (foP ps B) (j : Int) := Or.inr ⟨j, hj, rfl, hf, hrr⟩
    by_cases hn : noK (withK (foP ps B).n[j].k (pa / 4) leaf) = true
    · rw [hn] at cN
      rw [setRootF_n (by rw [kidsF_n hj]; exact hn), if_neg hne1, Int.toNat_natCast]
      refine ⟨fun e => (by cases e), fun r F' e => ?_⟩
      cases e
      have hlm : leaf = -1 := noK_leaf (Or.inr hk4) hp hn
      subst hlm
      obtain ⟨H', ps', B', c, m', ee, f⟩ := l4LessR_c d lo L H2 m2 hL hi.kI_m (fun _ => Int.le_refl _) (fun _ => Int.le_refl _) hpj hf hrr
      refine ⟨H', _, ps', B', ?_, m', ee, (Fn.fq f02).seqF (FP.fq f) (fun i e => Or.inl e), fun i e => Or.inl e⟩
      subst hH1
      simp only [List.length_append, List.length_cons, List.length_nil, Nat.zero_add] at cW cN c
      simp -implicitDefEqProofs only [v152, VMs, noRef, noRef1, isRef, List.all_cons, List.all_nil, vop, VOp.still, VOp.app, VOp.plain, allP, lof, evs, start, asI, vbin, vcells, ntup, setAll, vfill, vress, vres, tup, Nat.reduceEqDiff, ↓reduceIte, Nat.reduceAdd, Nat.reduceMul, Nat.reduceLeDiff, reduceCtorEq, h00, hd, g1, slen, ltc hjp, ge0, decide_true, Int.toNat_natCast, e3, q4, z40, cW, cN, c]
    · replace hn := eq_false_of_ne_true hn
      rw [hn] at cN
      by_cases ha : (foP ps B).n[j].r = 1
      · have hb1 : ((foP ps B).n[j].r == 1) = true := beq_iff_eq.2 ha
        rw [setRootF_a (by rw [kidsF_n hj]; exact hn) (by rw [aloneF_n hj]; exact hb1), kidsF_n hj, Int.toNat_natCast, kidOf_n hj (by omega)]
        rw [kidOf_n hj (by omega)] at hne
        refine ⟨fun e => (by cases e), fun r F' e => ?_⟩
        cases e
        obtain ⟨po, oo, rfl, ek⟩ := e4'.at (j := pa / 4) (by omega)
        simp only [EI, Nat.mul_one] at ek
        have hkL : LeafOK (foP ps B) (foP ps B).n[j].k[pa / 4] := hi.kr _ (List.getElem_mem hj) hf _ (List.getElem_mem _)
        have hs1 := hi.setR hj hf hrr ha hl hp hn (by omega)
        have k2' := k2
        rw [kidsF_n hj] at k2'
        obtain ⟨pn', H3, e', w3, m3, f3, l3⟩ := m2.rekid k2' hpj
        cases e'
        have w3' := wr_lo w3 hL
        rw [kidsF_n hj] at wl
        rw [wl] at w3'
        have hfo3 : foP (ps.set j (⟨(foP ps B).n[j].r, (foP ps B).n[j].f, withK (foP ps B).n[j].k (pa / 4) leaf⟩, some ⟨H1.length, 0, none⟩)) B = ⟨(foP ps B).n.set j ⟨1, false, withK (foP ps B).n[j].k (pa / 4) leaf⟩, (foP ps B).b⟩ := by rw [foP_set1, ha, hf]
        have p4 : (((pa / 4 : Nat) : Int) < ((4 : Nat) : Int)) = True := ltc hp
        rcases hkL with hm | ⟨i, hik, hie, hif⟩
        · rw [hm] at ek ⊢
          have hg : decide ((-1 : Int) ≥ 0) = false := rfl
          refine ⟨H3, _, _, B, ?_, m3, by rw [hfo3]; rfl, (Fn.fq f02).seqF (FP.fq (FP.a f3)) (fun i e => Or.inl e), fun i e => Or.inl e⟩
          subst hH1
          simp only [List.length_append, List.length_cons, List.length_nil, Nat.zero_add, sgs] at cW cN w3' e3
          simp -implicitDefEqProofs only [v152, VMs, noRef, noRef1, isRef, List.all_cons, List.all_nil, vop, VOp.still, VOp.app, VOp.plain, allP, lof, evs, start, asI, vbin, vcells, ntup, setAll, vfill, vress, vres, tup, Nat.reduceEqDiff, ↓reduceIte, Nat.reduceAdd, Nat.reduceMul, Nat.reduceLeDiff, reduceCtorEq, h00, hd, g1, g2, slen, ltc hjp, ge0, decide_true, Int.toNat_natCast, e3, e1', hb1, q4, z40, cW, cN, p4, Nat.mul_one, ek, w3', ntup, vcells, hg]
        · have hneq : ((i : Int) != leaf) = true := by
            rw [bne_iff_ne]
            rcases hne with e | e
            · omega
            · rw [hie] at e; exact fun e' => e e'.symm
          rw [hie] at ek hs1 ⊢
          rw [← hfo3] at hs1
          have hij : j ≠ i := fun e => by subst e; rw [hf] at hif; cases hif
          obtain ⟨adi, hpi⟩ := foP_at hik
          have hpi3 : (ps.set j (⟨(foP ps B).n[j].r, (foP ps B).n[j].f, withK (foP ps B).n[j].k (pa / 4) leaf⟩, some ⟨H1.length, 0, none⟩))[i]? = some ((foP ps B).n[i], adi) := by rw [List.getElem?_set, if_neg hij]; exact hpi
          obtain ⟨H4, ps4, B4, c4, m4, ee4, f4⟩ := l4LessL_c (d + 1) lo L H3 m3 hL hs1 (fun _ => Int.le_refl _) hpi3 hif (by unfold kI; rw [if_pos rfl]; exact Int.le_refl _)
          have hg : decide ((i : Int) ≥ 0) = true := decide_eq_true (by omega)
          have hlk : ∀ F : Fo, lessK F (i : Int) = lessL F i := fun F => by unfold lessK; rw [if_neg (by omega), Int.toNat_natCast]
          refine ⟨H4, _, ps4, B4, ?_, m4, by rw [ee4, hfo3, hlk], ((Fn.fq f02).seqF (FP.fq (FP.a f3)) (fun i e => Or.inl e)).seqF (FP.fq f4) (fun i e => Or.inl e), fun i e => Or.inl e⟩
          subst hH1
          simp only [List.length_append, List.length_cons, List.length_nil, Nat.zero_add, sgs] at cW cN w3' e3 c4
          simp -implicitDefEqProofs only [v152, VMs, noRef, noRef1, isRef, List.all_cons, List.all_nil, vop, VOp.still, VOp.app, VOp.plain, allP, lof, evs, start, asI, vbin, vcells, ntup, setAll, vfill, vress, vres, tup, Nat.reduceEqDiff, ↓reduceIte, Nat.reduceAdd, Nat.reduceMul, Nat.reduceLeDiff, reduceCtorEq, h00, hd, g1, g2, slen, ltc hjp, ge0, decide_true, Int.toNat_natCast, e3, e1', hb1, q4, z40, cW, cN, p4, Nat.mul_one, ek, w3', ntup, vcells, hg, hneq, c4]
      · have hb1 : ((foP ps B).n[j].r == 1) = false := beq_eq_false_iff_ne.2 ha
        rw [setRootF_f (by rw [kidsF_n hj]; exact hn) (by rw [aloneF_n hj]; exact hb1), kidsF_n hj]
        refine ⟨fun e => ?_, fun r F' e => ?_⟩
        · rw [Option.map_eq_none_iff] at e
          have lt1 : decide ((-1 : Int) < 0) = true := rfl
          rcases sf1 e with ⟨H', c, f⟩ | ⟨m, H3, H', c, c', f⟩
          · refine ⟨H', ?_, (Fn.fq f02).seqF f (fun i e => Or.inl e)⟩
            subst hH1
            simp only [List.length_append, List.length_cons, List.length_nil, Nat.zero_add] at cW cN c
            simp -implicitDefEqProofs only [v152, VMs, noRef, noRef1, isRef, List.all_cons, List.all_nil, vop, VOp.still, VOp.app, VOp.plain, allP, lof, evs, start, asI, vbin, vcells, ntup, setAll, vfill, vress, vres, tup, Nat.reduceEqDiff, ↓reduceIte, Nat.reduceAdd, Nat.reduceMul, Nat.reduceLeDiff, reduceCtorEq, h00, hd, g1, g2, slen, ltc hjp, ge0, decide_true, Int.toNat_natCast, e3, e1', hb1, q4, z40, cW, cN, vfill, ev, lk, setAll, ntup, vcells, c, lt1]
          · have lt2 : decide ((m : Int) < 0) = false := decide_eq_false (by omega)
            refine ⟨H', ?_, (Fn.fq f02).seqF f (fun i e => Or.inl e)⟩
            subst hH1
            simp only [List.length_append, List.length_cons, List.length_nil, Nat.zero_add] at cW cN c c'
            simp -implicitDefEqProofs only [v152, VMs, noRef, noRef1, isRef, List.all_cons, List.all_nil, vop, VOp.still, VOp.app, VOp.plain, allP, lof, evs, start, asI, vbin, vcells, ntup, setAll, vfill, vress, vres, tup, Nat.reduceEqDiff, ↓reduceIte, Nat.reduceAdd, Nat.reduceMul, Nat.reduceLeDiff, reduceCtorEq, h00, hd, g1, g2, slen, ltc hjp, ge0, decide_true, Int.toNat_natCast, e3, e1', hb1, q4, z40, cW, cN, vfill, ev, lk, setAll, ntup, vcells, c, lt2, c']
        · obtain ⟨⟨m, F1⟩, e1m, e2m⟩ := Option.map_eq_some_iff.1 e
          cases e2m
          obtain ⟨H3, H4, a', ps', B', c, c', mm, ee, f, ha'⟩ := sf2 m F1 e1m
          have lt2 : decide ((m : Int) < 0) = false := decide_eq_false (by omega)
          rw [kidsF_n hj] at wl hcnt
          obtain ⟨iF, kp⟩ := freshR_inv hi wl (noK_has hn (fun k hk => (hko k hk).ge)) hko hcnt e1m
          rw [← ee] at iF kp
          have hrt := kp.root (fun x hx => (hi.nr x hx).1) hRO
          rcases hrt with e | ⟨j', hj', ej, hf', hr'⟩
          · omega
          · have ej' : j' = j := by omega
            subst ej'
            obtain ⟨ad', hpj'⟩ := foP_at hj'
            obtain ⟨H5, ps5, B5, c5, m5, ee5, f5⟩ := l4LessR_c d lo L H4 mm hL iF (fun _ => Int.le_refl _) (fun _ => Int.le_refl _) hpj' hf' hr'
            simp only
            rw [if_neg hne1, Int.toNat_natCast]
            refine ⟨H5, a', ps5, B5, ?_, m5, by rw [ee5, ee], ((Fn.fq f02).seqF f (fun i e => Or.inl e)).seqF (FP.fq f5) (fun i e => (ha' i e).imp id (fun e => by omega)), fun i e => (ha' i e).imp id (fun e => by omega)⟩
            subst hH1
            simp only [List.length_append, List.length_cons, List.length_nil, Nat.zero_add] at cW cN c c'
            simp -implicitDefEqProofs only [v152, VMs, noRef, noRef1, isRef, List.all_cons, List.all_nil, vop, VOp.still, VOp.app, VOp.plain, allP, lof, evs, start, asI, vbin, vcells, ntup, setAll, vfill, vress, vres, tup, Nat.reduceEqDiff, ↓reduceIte, Nat.reduceAdd, Nat.reduceMul, Nat.reduceLeDiff, reduceCtorEq, h00, hd, g1, g2, slen, ltc hjp, ge0, decide_true, Int.toNat_natCast, e3, e1', hb1, q4, z40, cW, cN, vfill, ev, lk, setAll, ntup, vcells, c, lt2, c', c5]
end Go.Proofs.Ytmcljallamhccaa.V
