/- A place of a tree with another block: the program's. -/
import Derived.Test.YtmcljallamhccaaVDR
namespace Go.Proofs.Ytmcljallamhccaa.V
open Go
set_option linter.unusedVariables false
set_option linter.unusedSimpArgs false
set_option maxRecDepth 100000
/-- What put does behind the leaf. -/
def putTail : VC := match v129.body with
  | .seq _ (.seq _ (.seq _ (.seq _ (.seq _ t)))) => t
  | _ => .skip
theorem rootHas {F : Fo} {eB eN : Nat → Int} (hi : Inv F eB eN) {root : Int} (hr : RootOK F root) : root = -1 ∨ ∃ (j : Nat) (hj : j < F.n.length), root = (j : Int) ∧ F.n[j].k.length = 4 := by
  rcases hr with e | ⟨j, hj, e, _, hr⟩
  · exact Or.inl e
  · exact Or.inr ⟨j, hj, e, (hi.n4 _ (List.getElem_mem hj) hr).1⟩
theorem leafHas {F : Fo} {eB eN : Nat → Int} (hi : Inv F eB eN) {l : Int} (hr : LeafOK F l) : l = -1 ∨ ∃ (j : Nat) (hj : j < F.n.length), l = (j : Int) ∧ F.n[j].k.length = 4 := by
  rcases hr with e | ⟨j, hj, e, hf⟩
  · exact Or.inl e
  · exact Or.inr ⟨j, hj, e, (hi.n4 _ (List.getElem_mem hj) (hi.live (List.getElem_mem hj) hf)).1⟩
theorem hasOf {F : Fo} {l : Int} (h : l = -1 ∨ ∃ (j : Nat) (hj : j < F.n.length), l = (j : Int) ∧ F.n[j].k.length = 4) {p : Nat} (hp : p < 4) : Has F l p := by
  rcases h with e | ⟨j, hj, e, h4⟩
  · exact Or.inl e
  · exact Or.inr ⟨j, hj, e, by omega⟩
theorem putTail_c (d lo L : Nat) (H H0 : Hp) {q : Nat} {a b : Option Addr} {ps : List (Nd × Option Addr)} {B : List Bk} (h : MF L H q a b ps B) (hL : lo ≤ L) {root leaf : Int} (hi : Inv (foP ps B) z0 (kI leaf)) (hr : RootOK (foP ps B) root) (hl : LeafOK (foP ps B) leaf) {pa : Nat} (hpa : pa ≤ 15) (hnr : root = -1 → leaf ≠ -1) :
    (setRootF (foP ps B) root (pa / 4) leaf = none → ∃ H', (∀ ts : Ts, lk ts 0 = some (.pointer (some ⟨q, 0, none⟩)) → lk ts 1 = some (.int .i64 root) → lk ts 2 = some (.int .i64 (pa : Nat)) → lk ts 10 = some (.bool (aloneF (foP ps B) root)) → lk ts 11 = some (.int .i64 (kidOf (foP ps B) root (pa / 4))) → lk ts 12 = some (.int .i64 leaf) → (vc (vcall env (d + 4)) lo putTail ts H).bind (kF v129 H0) = some (.tuple #[.int .i64 0, .int .i64 2], H')) ∧ Fw (FQ q a b) H H') ∧
    (∀ r F', setRootF (foP ps B) root (pa / 4) leaf = some (r, F') → ∃ H' a' ps' B', (∀ ts : Ts, lk ts 0 = some (.pointer (some ⟨q, 0, none⟩)) → lk ts 1 = some (.int .i64 root) → lk ts 2 = some (.int .i64 (pa : Nat)) → lk ts 10 = some (.bool (aloneF (foP ps B) root)) → lk ts 11 = some (.int .i64 (kidOf (foP ps B) root (pa / 4))) → lk ts 12 = some (.int .i64 leaf) → (vc (vcall env (d + 4)) lo putTail ts H).bind (kF v129 H0) = some (.tuple #[.int .i64 r, .int .i64 0], H')) ∧
      MF L H' q a' b ps' B' ∧ foP ps' B' = F' ∧ Fw (FQ q a b) H H' ∧ ∀ i, Ad a' i → Ad a i ∨ H.length ≤ i) := by
  have hp : pa / 4 < 4 := by omega
  have k4 := kids4 hi hr
  have hko := kidsOK hi hr hl (p := pa / 4)
  have wl := withK_len (p := pa / 4) (k := leaf) k4
  have hcnt := fun i => withK_count leaf k4 hp i
  have hl60 : ps.length ≤ 60 := by have := hi.n60; rw [foP_len] at this; exact this
  have hKF : ∀ k ∈ (withK (kidsF (foP ps B) root) (pa / 4) leaf).set (pa / 4) (-1), Kid false (putF1 (foP ps B) false (withK (kidsF (foP ps B) root) (pa / 4) leaf)) k := fun k hk => by
    rcases List.mem_or_eq_of_mem_set hk with e | e
    · exact (hi.kidN (hko k e)).put _
    · exact Or.inl e
  have q4 := quo4 hpa
  have z40 : ((4 : Int) = 0) = False := by simp
  have cW := kidsWith_c (d + 3) lo H h.pf (rootHas hi hr) hp leaf
  obtain ⟨H2, hH2⟩ : ∃ H2 : Hp, H2 = H ++ [some ⟨vI (withK (kidsF (foP ps B) root) (pa / 4) leaf), true, false⟩] := ⟨_, rfl⟩
  rw [← hH2] at cW
  have f02 : Fn H H2 := hH2 ▸ Fr.app
  have l2 : H2.length = H.length + 1 := by rw [hH2]; simp
  have m2 := h.new f02
  have bk : H2.blk H.length = some ⟨vI (withK (kidsF (foP ps B) root) (pa / 4) leaf), true, false⟩ := by rw [hH2]; exact blk0
  have k2 : KB L H2 q a b ps H.length _ := h.newK f02 (by omega) bk
  have rk := k2.rep
  rw [wl] at rk
  have cN := isEmpty_c d lo H2 _ 4 _ rk (by unfold Sm; omega)
  have hno : (!((withK (kidsF (foP ps B) root) (pa / 4) leaf).any fun k => k != -1)) = noK (withK (kidsF (foP ps B) root) (pa / 4) leaf) := rfl
  rw [hno] at cN
  simp only [sgs] at cN
  have g2 := m2.pf.n
  obtain ⟨sf1, sf2⟩ := fresh_c (d + 1) lo L H2 m2 hL k2 wl false hp hl60 hKF
  have z20 : ((2 : Int) != 0) = true := rfl
  by_cases hn : noK (withK (kidsF (foP ps B) root) (pa / 4) leaf) = true
  · rw [hn] at cN
    have hlm : leaf = -1 := noK_leaf k4 hp hn
    rw [setRootF_n hn]
    rcases hr with e | ⟨j, hj, rfl, hf, hrr⟩
    · exact absurd hlm (hnr e)
    · have hne1 : ¬ (j : Int) = -1 := by omega
      rw [if_neg hne1, Int.toNat_natCast]
      refine ⟨fun e => (by cases e), fun r F' e => ?_⟩
      cases e
      subst hlm
      obtain ⟨ad, hpj⟩ := foP_at hj
      obtain ⟨H', ps', B', c, m', ee, f⟩ := lessR_c (d + 1) lo L H2 m2 hL hi.kI_m (fun _ => Int.le_refl _) (fun _ => Int.le_refl _) hpj hf hrr
      refine ⟨H', _, ps', B', ?_, m', ee, (Fn.fq f02).seqF (FP.fq f) (fun i e => Or.inl e), fun i e => Or.inl e⟩
      intro ts t0 t1 t2 t10 t11 t12
      (try rw [ha] at t10)
      (try rw [hko0] at t11)
      simp -implicitDefEqProofs only [putTail, v129, VMs, noRef, noRef1, isRef, List.all_cons, List.all_nil, vop, VOp.still, VOp.app, VOp.plain, allP, lof, evs, start, asI, vbin, vcells, ntup, setAll, vfill, vress, vres, tup, Nat.reduceEqDiff, ↓reduceIte, Nat.reduceAdd, Nat.reduceMul, Nat.reduceLeDiff, reduceCtorEq, t0, t1, t2, t10, t11, t12, q4, z40, cW, cN, c]
  · replace hn := eq_false_of_ne_true hn
    rw [hn] at cN
    by_cases ha : aloneF (foP ps B) root = true
    · rw [setRootF_a hn ha]
      refine ⟨fun e => (by cases e), fun r F' e => ?_⟩
      cases e
      rcases hr with rfl | ⟨j, hj, rfl, hf, hrr⟩
      · cases ha
      · have ha' := ha
        rw [aloneF_n hj, beq_iff_eq] at ha'
        have hk4 := (hi.n4 _ (List.getElem_mem hj) hrr).1
        have hjp : j < ps.length := by rw [foP_len] at hj; exact hj
        obtain ⟨ad, hpj⟩ := foP_at hj
        rw [kidsF_n hj] at hn wl k2 ⊢
        have hko0 := kidOf_n (F := foP ps B) (i := pa / 4) hj (by omega)
        rw [kidOf_n hj (by omega)]
        rw [Int.toNat_natCast]
        have hkL : LeafOK (foP ps B) (foP ps B).n[j].k[pa / 4] := hi.kr _ (List.getElem_mem hj) hf _ (List.getElem_mem _)
        have hs1 := hi.setR hj hf hrr ha' hl hp hn (by omega)
        obtain ⟨pn', H3, rfl, w3, m3, f3, l3⟩ := m2.rekid k2 hpj
        have w3' := wr_lo w3 hL
        rw [wl] at w3'
        simp only [sgs] at g2
        have hfo3 : foP (ps.set j (⟨(foP ps B).n[j].r, (foP ps B).n[j].f, withK (foP ps B).n[j].k (pa / 4) leaf⟩, some ⟨H.length, 0, none⟩)) B = ⟨(foP ps B).n.set j ⟨1, false, withK (foP ps B).n[j].k (pa / 4) leaf⟩, (foP ps B).b⟩ := by rw [foP_set1, ha', hf]
        rcases hkL with hm | ⟨i, hik, hie, hif⟩
        · rw [hm] at hko0 ⊢
          have hg : ((-1 : Int) != -1) = false := rfl
          refine ⟨H3, _, _, B, ?_, m3, by rw [hfo3]; rfl, (Fn.fq f02).seqF (FP.fq (FP.a f3)) (fun i e => Or.inl e), fun i e => Or.inl e⟩
          intro ts t0 t1 t2 t10 t11 t12
          (try rw [ha] at t10)
          (try rw [hko0] at t11)
          simp -implicitDefEqProofs only [putTail, v129, VMs, noRef, noRef1, isRef, List.all_cons, List.all_nil, vop, VOp.still, VOp.app, VOp.plain, allP, lof, evs, start, asI, vbin, vcells, ntup, setAll, vfill, vress, vres, tup, Nat.reduceEqDiff, ↓reduceIte, Nat.reduceAdd, Nat.reduceMul, Nat.reduceLeDiff, reduceCtorEq, t0, t1, t2, t10, t11, t12, q4, z40, cW, cN, g2, slen, ltc hjp, ge0, decide_true, Int.toNat_natCast, w3', ntup, vcells, hg]
        · rw [hie] at hko0 hs1 ⊢
          rw [← hfo3] at hs1
          have hij : j ≠ i := fun e => by subst e; rw [hf] at hif; cases hif
          obtain ⟨adi, hpi⟩ := foP_at hik
          have hpi3 : (ps.set j (⟨(foP ps B).n[j].r, (foP ps B).n[j].f, withK (foP ps B).n[j].k (pa / 4) leaf⟩, some ⟨H.length, 0, none⟩))[i]? = some ((foP ps B).n[i], adi) := by rw [List.getElem?_set, if_neg hij]; exact hpi
          obtain ⟨H4, ps4, B4, c4, m4, ee4, f4⟩ := lessL_c (d + 2) lo L H3 m3 hL hs1 (fun _ => Int.le_refl _) hpi3 hif (by unfold kI; rw [if_pos rfl]; exact Int.le_refl _)
          have hg : ((i : Int) != -1) = true := by rw [bne_iff_ne]; omega
          have hlk : ∀ F : Fo, lessK F (i : Int) = lessL F i := fun F => by unfold lessK; rw [if_neg (by omega), Int.toNat_natCast]
          refine ⟨H4, _, ps4, B4, ?_, m4, by rw [ee4, hfo3, hlk], ((Fn.fq f02).seqF (FP.fq (FP.a f3)) (fun i e => Or.inl e)).seqF (FP.fq f4) (fun i e => Or.inl e), fun i e => Or.inl e⟩
          intro ts t0 t1 t2 t10 t11 t12
          (try rw [ha] at t10)
          (try rw [hko0] at t11)
          simp -implicitDefEqProofs only [putTail, v129, VMs, noRef, noRef1, isRef, List.all_cons, List.all_nil, vop, VOp.still, VOp.app, VOp.plain, allP, lof, evs, start, asI, vbin, vcells, ntup, setAll, vfill, vress, vres, tup, Nat.reduceEqDiff, ↓reduceIte, Nat.reduceAdd, Nat.reduceMul, Nat.reduceLeDiff, reduceCtorEq, t0, t1, t2, t10, t11, t12, q4, z40, cW, cN, g2, slen, ltc hjp, ge0, decide_true, Int.toNat_natCast, w3', ntup, vcells, hg, c4]
    · replace ha := eq_false_of_ne_true ha
      rw [setRootF_f hn ha]
      refine ⟨fun e => ?_, fun r F' e => ?_⟩
      · rw [Option.map_eq_none_iff] at e
        obtain ⟨H', c, f⟩ := sf1 e
        refine ⟨H', ?_, (Fn.fq f02).seqF f (fun i e => Or.inl e)⟩
        intro ts t0 t1 t2 t10 t11 t12
        (try rw [ha] at t10)
        (try rw [hko0] at t11)
        simp -implicitDefEqProofs only [putTail, v129, VMs, noRef, noRef1, isRef, List.all_cons, List.all_nil, vop, VOp.still, VOp.app, VOp.plain, allP, lof, evs, start, asI, vbin, vcells, ntup, setAll, vfill, vress, vres, tup, Nat.reduceEqDiff, ↓reduceIte, Nat.reduceAdd, Nat.reduceMul, Nat.reduceLeDiff, reduceCtorEq, List.getElem?_toArray, t0, t1, t2, t10, t11, t12, q4, z40, cW, cN, c, z20]
      · obtain ⟨⟨m, F1⟩, e1m, e2m⟩ := Option.map_eq_some_iff.1 e
        cases e2m
        obtain ⟨H4, a', ps', B', c, mm, ee, f, ha'⟩ := sf2 m F1 e1m
        obtain ⟨iF, kp⟩ := freshR_inv hi wl (noK_has hn (fun k hk => (hko k hk).ge)) hko hcnt e1m
        rw [← ee] at iF kp
        have hrt := kp.root (fun x hx => (hi.nr x hx).1) hr
        rcases hrt with rfl | ⟨j, hj, rfl, hf, hrr⟩
        · have hg : ((-1 : Int) != -1) = false := rfl
          refine ⟨H4, a', ps', B', ?_, mm, by simp only [if_true]; exact ee, (Fn.fq f02).seqF f (fun i e => Or.inl e), fun i e => (ha' i e).imp id (fun e => by omega)⟩
          intro ts t0 t1 t2 t10 t11 t12
          (try rw [ha] at t10)
          (try rw [hko0] at t11)
          simp -implicitDefEqProofs only [putTail, v129, VMs, noRef, noRef1, isRef, List.all_cons, List.all_nil, vop, VOp.still, VOp.app, VOp.plain, allP, lof, evs, start, asI, vbin, vcells, ntup, setAll, vfill, vress, vres, tup, Nat.reduceEqDiff, ↓reduceIte, Nat.reduceAdd, Nat.reduceMul, Nat.reduceLeDiff, reduceCtorEq, List.getElem?_toArray, t0, t1, t2, t10, t11, t12, q4, z40, cW, cN, c, bne_self_eq_false, hg]
        · have hg : ((j : Int) != -1) = true := by rw [bne_iff_ne]; omega
          obtain ⟨ad', hpj'⟩ := foP_at hj
          obtain ⟨H5, ps5, B5, c5, m5, ee5, f5⟩ := lessR_c (d + 1) lo L H4 mm hL iF (fun _ => Int.le_refl _) (fun _ => Int.le_refl _) hpj' hf hrr
          simp only
          rw [if_neg (by omega : ¬ (j : Int) = -1), Int.toNat_natCast]
          refine ⟨H5, a', ps5, B5, ?_, m5, by rw [ee5, ee], ((Fn.fq f02).seqF f (fun i e => Or.inl e)).seqF (FP.fq f5) (fun i e => (ha' i e).imp id (fun e => by omega)), fun i e => (ha' i e).imp id (fun e => by omega)⟩
          intro ts t0 t1 t2 t10 t11 t12
          (try rw [ha] at t10)
          (try rw [hko0] at t11)
          simp -implicitDefEqProofs only [putTail, v129, VMs, noRef, noRef1, isRef, List.all_cons, List.all_nil, vop, VOp.still, VOp.app, VOp.plain, allP, lof, evs, start, asI, vbin, vcells, ntup, setAll, vfill, vress, vres, tup, Nat.reduceEqDiff, ↓reduceIte, Nat.reduceAdd, Nat.reduceMul, Nat.reduceLeDiff, reduceCtorEq, List.getElem?_toArray, t0, t1, t2, t10, t11, t12, q4, z40, cW, cN, c, bne_self_eq_false, hg, c5]
end Go.Proofs.Ytmcljallamhccaa.V
