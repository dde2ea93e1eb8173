/- One less refers to a node: the reference's and the program's. -/
import Derived.Test.YtmcljallamhccaaVDF
namespace Go.Proofs.Ytmcljallamhccaa.V
open Go
set_option linter.unusedVariables false
set_option linter.unusedSimpArgs false
set_option maxRecDepth 100000
theorem FP.a {a b : Option Addr} {H H' : Hp} (h : Fr (Ad a) H H') : Fr (FP a b) H H' := h.mono fun _ => Or.inl
theorem FP.b {a b : Option Addr} {H H' : Hp} (h : Fr (Ad b) H H') : Fr (FP a b) H H' := h.mono fun _ => Or.inr
theorem drop_cons {l : List Int} {i : Nat} (h : i < l.length) : l.drop i = l[i] :: l.drop (i + 1) := List.drop_eq_getElem_cons h
theorem Rep.frI {S : Nat → Prop} {H H' : Hp} {a : Option Addr} {n : Nat} {l : List Int} (h : Rep EI 1 H a n l) (hf : Fr S H H') (hS : ∀ i, Ad a i → ¬ S i) : Rep EI 1 H' a n l := h.fr hS hf
/-- A leaf: the reference's. -/
theorem l4LessL_c (d lo L : Nat) (H : Hp) {q : Nat} {a b : Option Addr} {ps : List (Nd × Option Addr)} {B : List Bk} (h : MF L H q a b ps B) (hL : lo ≤ L) {eB eN : Nat → Int} (hi : Inv (foP ps B) eB eN) (h0 : ∀ i, 0 ≤ eB i) {j : Nat} {x : Nd} {ad : Option Addr} (hx : ps[j]? = some (x, ad)) (hf : x.f = true) (he : 1 ≤ eN j) :
    ∃ H' ps' B', vcall env (d + 2) 126 [.pointer (some ⟨q, 0, none⟩), .int .i64 (j : Nat)] lo H = some (.tuple #[], H') ∧ MF L H' q a b ps' B' ∧ foP ps' B' = lessL (foP ps B) j ∧ Fr (FP a b) H H' := by
  have hj : j < ps.length := (List.getElem?_eq_some_iff.1 hx).1
  obtain ⟨hjn, hnx⟩ := foP_n (B := B) hx
  have hmem := List.getElem_mem hjn
  have hxr := hi.nr _ hmem
  have hlive := hi.live hmem (by rw [hnx]; exact hf)
  rw [hnx] at hxr hlive
  obtain ⟨p, H1, rfl, r1, w1, m1, f1, l1⟩ := h.refs hx (x.r - 1)
  have hw : IntKind.i64.wrap (x.r - 1) = x.r - 1 := wr (by omega) (by omega)
  have w1' := wr_lo w1 hL
  have gq := h.pf.n
  simp only [sgs] at gq
  have hx1 : (ps.set j (⟨x.r - 1, x.f, x.k⟩, ad))[j]? = some (⟨x.r - 1, x.f, x.k⟩, ad) := by simp [hj]
  obtain ⟨p', e', r2, s2, t2, k2, ad2⟩ := m1.at hx1
  cases e'
  rw [call_eq find126 _ _ _ rfl]
  by_cases hgt : 1 < x.r
  · have hd : decide (x.r - 1 > 0) = true := decide_eq_true (by omega)
    refine ⟨H1, _, _, ?_, m1, ?_, FP.a f1⟩
    · simp -implicitDefEqProofs only [v126, VMs, noRef, noRef1, isRef, List.all_cons, List.all_nil, vop, VOp.still, VOp.app, VOp.plain, allP, lof, evs, start, asI, vbin, vcells, ntup, setAll, vfill, vress, vres, tup, Nat.reduceEqDiff, ↓reduceIte, Nat.reduceAdd, Nat.reduceMul, Nat.reduceLeDiff, reduceCtorEq, gq, slen, ltc hj, ge0, decide_true, Int.toNat_natCast, r1, hw, w1', r2, hd, List.toArray]
    · rw [lessL_at hjn, hnx, if_pos hgt, foP_set1]
  · have hr1 : x.r = 1 := by omega
    have hd : decide (x.r - 1 > 0) = false := decide_eq_false (by omega)
    obtain ⟨p', H2, e', w2, m2, f2, l2⟩ := m1.kids hx1
    cases e'
    obtain ⟨p', H3, e', w3, m3, f3, l3⟩ := m2.leaf (j := j) (x := ⟨x.r - 1, x.f, []⟩) (ad := none) (by simp [hj]) false
    cases e'
    have w2' := wr_lo w2 hL
    have w3' := wr_lo w3 hL
    obtain ⟨ps3, hps3⟩ : ∃ ps3, ps3 = ps.set j (dead, none) := ⟨_, rfl⟩
    have hset : ((ps.set j (⟨x.r - 1, x.f, x.k⟩, ad)).set j (⟨x.r - 1, x.f, []⟩, none)).set j (⟨x.r - 1, false, []⟩, none) = ps3 := by
      rw [List.set_set, List.set_set, hps3, hr1]; rfl
    simp only at m3
    rw [hset] at m3
    have hfo3 : foP ps3 B = ⟨(foP ps B).n.set j dead, (foP ps B).b⟩ := by rw [hps3, foP_set1]
    have hinv3 := hi.killL hjn (by rw [hnx]; exact hf) (by rw [hnx]; exact hr1) he
    rw [← hfo3, hnx] at hinv3
    have f13 : Fr (Ad (some ⟨p, 0, none⟩)) H H3 := (f1.trans f2).trans f3
    have kk3 := (h.at hx).choose_spec.2.2.2.2.1.frI f13 (fun i hi => (ad2 i hi).1)
    have hpl3 : ps3.length = ps.length := by rw [hps3, List.length_set]
    -- the walk over the kids
    have hklen : Sm x.k.length := by
      have := (hi.n4 _ hmem (by rw [hnx]; exact hlive)).1
      rw [hnx] at this; unfold Sm; omega
    have hloop : ∃ r, lim (rnd (vcall env (d + 1)) lo [0, 5, 6, 7] [] l126_0) [(0, .pointer (some ⟨q, 0, none⟩)), (5, .slice ad x.k.length (sg ad 1)), (6, .bool x.f), (7, .int .i64 0)] H3 = some r ∧
        ∃ H', r = (.exit 0, [], H') ∧ MF L H' q (some ⟨p, 0, none⟩) b ps3 (x.k.foldl dropB B) ∧ Fr (FP (some ⟨p, 0, none⟩) b) H H' := by
      refine lim_inv (fun i ts H4 => ts = [(0, .pointer (some ⟨q, 0, none⟩)), (5, .slice ad x.k.length (sg ad 1)), (6, .bool x.f), (7, .int .i64 (i : Nat))] ∧ MF L H4 q (some ⟨p, 0, none⟩) b ps3 ((x.k.take i).foldl dropB B) ∧ Fr (FP (some ⟨p, 0, none⟩) b) H H4 ∧ Rep EI 1 H4 ad x.k.length x.k ∧ Inv (foP ps3 ((x.k.take i).foldl dropB B)) (fun z => eB z + ((x.k.drop i).count (z : Int) : Int)) (fun i => eN i - if i = j then 1 else 0)) x.k.length ?_ ?_ ?_
      · rintro i ts H4 hil ⟨rfl, m4, f4, k4, v4⟩
        have hw1 := hklen.w hil
        obtain ⟨pk, ok, rfl, ek⟩ := k4.at hil
        simp only [EI, Nat.mul_one] at ek
        have htake : (x.k.take (i + 1)).foldl dropB B = dropB ((x.k.take i).foldl dropB B) x.k[i] := by
          rw [List.take_succ_eq_append_getElem hil, List.foldl_append]; rfl
        have hdrop := drop_cons hil
        have hkv := hi.kl _ hmem (by rw [hnx]; exact hf) x.k[i] (by rw [hnx]; exact List.getElem_mem hil)
        have gb4 := m4.pf.b
        have hBl : ((x.k.take i).foldl dropB B).length = B.length := dropB_fold_len _ _
        rw [htake]
        generalize hBi : (x.k.take i).foldl dropB B = Bi at *
        have hkv' : x.k[i] = -1 ∨ (0 ≤ x.k[i] ∧ x.k[i] < (Bi.length : Int)) := by rw [hBl]; exact hkv
        have hcnt : ∀ z : Nat, ((x.k.drop i).count (z : Int) : Int) = kI x.k[i] z + ((x.k.drop (i + 1)).count (z : Int) : Int) := fun z => by rw [hdrop]; exact count_kI _ _ _
        have v5 := v4.dropK (k := x.k[i]) hkv' (fun z e => by
          have := hcnt z
          unfold kI at this
          rw [if_pos e] at this
          have := h0 z
          (try simp only); omega)
        have v6 : Inv (foP ps3 (dropB Bi x.k[i])) (fun z => eB z + ((x.k.drop (i + 1)).count (z : Int) : Int)) (fun i => eN i - if i = j then 1 else 0) := v5.eq (fun z _ => by rw [hcnt z]; omega) (fun _ _ => Int.le_refl _)
        rcases hkv' with hm | ⟨hk0, hk1⟩
        · have hd1 : decide ((-1 : Int) < 0) = true := rfl
          rw [dropB_m _ (by omega)] at v6 ⊢
          rw [hm] at ek
          refine ⟨[(0, .pointer (some ⟨q, 0, none⟩)), (5, .slice (some ⟨pk, ok, none⟩) x.k.length 1), (6, .bool x.f), (7, .int .i64 ((i + 1 : Nat) : Int))], H4, ?_, rfl, m4, f4, k4, v6⟩
          simp -implicitDefEqProofs only [rnd, l126_0, VMs, noRef, noRef1, isRef, List.all_cons, List.all_nil, vop, VOp.still, VOp.app, VOp.plain, allP, lof, evs, start, asI, vbin, vcells, ntup, setAll, vfill, vress, vres, tup, Nat.reduceEqDiff, ↓reduceIte, Nat.reduceAdd, Nat.reduceMul, Nat.reduceLeDiff, reduceCtorEq, slen, ltc hil, ge0, decide_true, Int.toNat_natCast, Nat.mul_one, ek, hd1, hw1]
        · obtain ⟨k, hkk⟩ : ∃ k : Nat, x.k[i] = (k : Int) := ⟨x.k[i].toNat, by omega⟩
          have hkB : k < Bi.length := by omega
          rw [hkk] at v6 ek ⊢
          rw [dropB_n hkB] at v6 ⊢
          have hb4 := v4.bd _ (List.getElem_mem hkB)
          have hc4 := v4.cb k hkB
          have hn4 := nmS_nonneg (foP ps3 Bi).n true (k : Int)
          have hct := hcnt k
          unfold kI at hct
          rw [if_pos hkk] at hct
          have h0k := h0 k
          simp only [foP] at hb4 hc4 hn4
          obtain ⟨H5, c5, m5, f5, l5⟩ := l3Drop_c d lo L H4 m4 hL (getE hkB) ⟨by (try simp only at hc4); omega, hb4.1.2⟩
          have hd1 : decide ((k : Int) < 0) = false := decide_eq_false (by omega)
          refine ⟨[(0, .pointer (some ⟨q, 0, none⟩)), (5, .slice (some ⟨pk, ok, none⟩) x.k.length 1), (6, .bool x.f), (7, .int .i64 ((i + 1 : Nat) : Int))], H5, ?_, rfl, m5, f4.trans (FP.b f5), k4.frI f5 (fun z hz => (ad2 z hz).2.1), v6⟩
          simp -implicitDefEqProofs only [rnd, l126_0, VMs, noRef, noRef1, isRef, List.all_cons, List.all_nil, vop, VOp.still, VOp.app, VOp.plain, allP, lof, evs, start, asI, vbin, vcells, ntup, setAll, vfill, vress, vres, tup, Nat.reduceEqDiff, ↓reduceIte, Nat.reduceAdd, Nat.reduceMul, Nat.reduceLeDiff, reduceCtorEq, slen, ltc hil, ge0, decide_true, Int.toNat_natCast, Nat.mul_one, ek, hd1, hf, vdr, gb4, c5, hw1]
      · rintro ts H4 ⟨rfl, m4, f4, k4, v4⟩
        rw [List.take_length] at m4
        exact ⟨(.exit 0, [], H4), by simp -implicitDefEqProofs only [rnd, l126_0, VMs, noRef, noRef1, isRef, List.all_cons, List.all_nil, vop, VOp.still, VOp.app, VOp.plain, allP, lof, evs, start, asI, vbin, vcells, ntup, setAll, vfill, vress, vres, tup, Nat.reduceEqDiff, ↓reduceIte, Nat.reduceAdd, Nat.reduceMul, Nat.reduceLeDiff, reduceCtorEq, slen, Int.lt_irrefl, decide_false], by simp, H4, rfl, m4, f4⟩
      · exact ⟨rfl, m3, FP.a f13, kk3, hinv3.eq (fun z _ => by rw [List.drop_zero]) (fun _ _ => Int.le_refl _)⟩
    obtain ⟨_, hl, H4, rfl, m4, f4⟩ := hloop
    refine ⟨H4, ps3, _, ?_, m4, ?_, f4⟩
    · have r3 : rd H2 ⟨p, j * 3 + 1, none⟩ = some (.bool x.f) := by
        obtain ⟨p', e', _, s3, _⟩ := m2.at (j := j) (x := ⟨x.r - 1, x.f, []⟩) (ad := none) (by simp [hj])
        cases e'; exact s3
      simp -implicitDefEqProofs only [v126, VMs, noRef, noRef1, isRef, List.all_cons, List.all_nil, vop, VOp.still, VOp.app, VOp.plain, allP, lof, evs, start, asI, vbin, vcells, ntup, setAll, vfill, vress, vres, tup, Nat.reduceEqDiff, ↓reduceIte, Nat.reduceAdd, Nat.reduceMul, Nat.reduceLeDiff, reduceCtorEq, gq, slen, ltc hj, ge0, decide_true, Int.toNat_natCast, r1, hw, w1', r2, s2, t2, hd, w2', w3', vlp, hl, List.toArray]
    · rw [lessL_at hjn, hnx, if_neg hgt, hps3]
      unfold foP
      simp only [List.map_set]
/-- One kid less of those that are to come. -/
theorem Inv.lessK1 {F : Fo} {eB eN : Nat → Int} (h : Inv F eB eN) (h0 : ∀ i, 0 ≤ eB i) {k : Int} {ks : List Int} (hk : ∀ k' ∈ k :: ks, k' = -1 ∨ ∃ (i : Nat) (hi : i < F.n.length), k' = (i : Int) ∧ F.n[i].f = true) (hc : ∀ i : Nat, ((k :: ks).count (i : Int) : Int) ≤ eN i) :
    Inv (lessK F k) eB (fun i => eN i - kI k i) ∧ ∀ k' ∈ ks, k' = -1 ∨ ∃ (i : Nat) (hi : i < (lessK F k).n.length), k' = (i : Int) ∧ (lessK F k).n[i].f = true := by
  rcases hk k (by simp) with rfl | ⟨j, hj, rfl, hf⟩
  · have : lessK F (-1) = F := rfl
    rw [this]
    exact ⟨h.eq (fun _ _ => rfl) (fun i _ => by unfold kI; rw [if_neg (by omega)]; omega), fun k' hk' => hk k' (by simp [hk'])⟩
  · have e : lessK F (j : Int) = V.lessL F j := by unfold lessK; rw [if_neg (by omega), Int.toNat_natCast]
    rw [e]
    have hcj := hc j
    rw [count_kI] at hcj
    unfold kI at hcj
    rw [if_pos rfl] at hcj
    have hcn := h.cn j hj hf
    have hnn := nmS_nonneg F.n false (j : Int)
    refine ⟨(h.lessL h0 hj hf (by omega)).eq (fun _ _ => rfl) (fun i _ => ?_), fun k' hk' => ?_⟩
    · unfold kI
      by_cases e : i = j
      · rw [if_pos e, if_pos (by rw [e])]; omega
      · rw [if_neg e, if_neg (by omega)]; omega
    · rcases hk k' (by simp [hk']) with e1 | ⟨i, hi, e1, hf'⟩
      · exact Or.inl e1
      · refine Or.inr ⟨i, by rw [lessL_len]; exact hi, e1, ?_⟩
        rw [lessL_flag hi]
        · exact hf'
        · by_cases hij : i = j
          · subst hij
            have := List.count_pos_iff.2 hk'
            rw [e1] at this
            exact Or.inr (by omega)
          · exact Or.inl hij
/-- A root: the reference's. -/
theorem l4LessR_c (d lo L : Nat) (H : Hp) {q : Nat} {a b : Option Addr} {ps : List (Nd × Option Addr)} {B : List Bk} (h : MF L H q a b ps B) (hL : lo ≤ L) {eB eN : Nat → Int} (hi : Inv (foP ps B) eB eN) (h0 : ∀ i, 0 ≤ eB i) (h0' : ∀ i, 0 ≤ eN i) {j : Nat} {x : Nd} {ad : Option Addr} (hx : ps[j]? = some (x, ad)) (hf : x.f = false) (hlive : x.r ≠ 0) :
    ∃ H' ps' B', vcall env (d + 3) 126 [.pointer (some ⟨q, 0, none⟩), .int .i64 (j : Nat)] lo H = some (.tuple #[], H') ∧ MF L H' q a b ps' B' ∧ foP ps' B' = lessR (foP ps B) j ∧ Fr (FP a b) H H' := by
  have hj : j < ps.length := (List.getElem?_eq_some_iff.1 hx).1
  obtain ⟨hjn, hnx⟩ := foP_n (B := B) hx
  have hmem := List.getElem_mem hjn
  have hxr := hi.nr _ hmem
  rw [hnx] at hxr
  obtain ⟨p, H1, rfl, r1, w1, m1, f1, l1⟩ := h.refs hx (x.r - 1)
  have hw : IntKind.i64.wrap (x.r - 1) = x.r - 1 := wr (by omega) (by omega)
  have w1' := wr_lo w1 hL
  have gq := h.pf.n
  simp only [sgs] at gq
  have hx1 : (ps.set j (⟨x.r - 1, x.f, x.k⟩, ad))[j]? = some (⟨x.r - 1, x.f, x.k⟩, ad) := by simp [hj]
  obtain ⟨p', e', r2, s2, t2, k2, ad2⟩ := m1.at hx1
  cases e'
  rw [call_eq find126 _ _ _ rfl]
  by_cases hgt : 1 < x.r
  · have hd : decide (x.r - 1 > 0) = true := decide_eq_true (by omega)
    refine ⟨H1, _, _, ?_, m1, ?_, FP.a f1⟩
    · simp -implicitDefEqProofs only [v126, VMs, noRef, noRef1, isRef, List.all_cons, List.all_nil, vop, VOp.still, VOp.app, VOp.plain, allP, lof, evs, start, asI, vbin, vcells, ntup, setAll, vfill, vress, vres, tup, Nat.reduceEqDiff, ↓reduceIte, Nat.reduceAdd, Nat.reduceMul, Nat.reduceLeDiff, reduceCtorEq, gq, slen, ltc hj, ge0, decide_true, Int.toNat_natCast, r1, hw, w1', r2, hd, List.toArray]
    · rw [lessR_at hjn, hnx, if_pos hgt, foP_set1]
  · have hr1 : x.r = 1 := by omega
    have hd : decide (x.r - 1 > 0) = false := decide_eq_false (by omega)
    obtain ⟨p', H2, e', w2, m2, f2, l2⟩ := m1.kids hx1
    cases e'
    obtain ⟨p', H3, e', w3, m3, f3, l3⟩ := m2.leaf (j := j) (x := ⟨x.r - 1, x.f, []⟩) (ad := none) (by simp [hj]) false
    cases e'
    have w2' := wr_lo w2 hL
    have w3' := wr_lo w3 hL
    obtain ⟨ps3, hps3⟩ : ∃ ps3, ps3 = ps.set j (dead, none) := ⟨_, rfl⟩
    have hset : ((ps.set j (⟨x.r - 1, x.f, x.k⟩, ad)).set j (⟨x.r - 1, x.f, []⟩, none)).set j (⟨x.r - 1, false, []⟩, none) = ps3 := by
      rw [List.set_set, List.set_set, hps3, hr1]; rfl
    simp only at m3
    rw [hset] at m3
    have hfo3 : foP ps3 B = ⟨(foP ps B).n.set j dead, (foP ps B).b⟩ := by rw [hps3, foP_set1]
    have hinv3 := hi.killR hjn (by rw [hnx]; exact hf) (by rw [hnx]; exact hlive)
    rw [← hfo3, hnx] at hinv3
    have f13 : Fr (Ad (some ⟨p, 0, none⟩)) H H3 := (f1.trans f2).trans f3
    have kk3 := (h.at hx).choose_spec.2.2.2.2.1.frI f13 (fun i hi => (ad2 i hi).1)
    have hkr3 : ∀ k ∈ x.k, k = -1 ∨ ∃ (i : Nat) (hi : i < (foP ps3 B).n.length), k = (i : Int) ∧ (foP ps3 B).n[i].f = true := fun k hk => by
      rcases hi.kr _ hmem (by rw [hnx]; exact hf) k (by rw [hnx]; exact hk) with e | ⟨i, hi', e, hf'⟩
      · exact Or.inl e
      · refine Or.inr ⟨i, by rw [hfo3]; simpa using hi', e, ?_⟩
        simp only [hfo3, List.getElem_set]
        rw [if_neg (fun e2 => by subst e2; rw [hnx, hf] at hf'; cases hf')]
        exact hf'
    have hklen : Sm x.k.length := by
      have := (hi.n4 _ hmem (by rw [hnx]; exact hlive)).1
      rw [hnx] at this; unfold Sm; omega
    have hloop : ∃ r, lim (rnd (vcall env (d + 2)) lo [0, 5, 6, 7] [] l126_0) [(0, .pointer (some ⟨q, 0, none⟩)), (5, .slice ad x.k.length (sg ad 1)), (6, .bool x.f), (7, .int .i64 0)] H3 = some r ∧
        ∃ H' ps' B', r = (.exit 0, [], H') ∧ MF L H' q (some ⟨p, 0, none⟩) b ps' B' ∧ foP ps' B' = x.k.foldl lessK (foP ps3 B) ∧ Fr (FP (some ⟨p, 0, none⟩) b) H H' := by
      refine lim_inv (fun i ts H4 => ∃ ps4 B4, ts = [(0, .pointer (some ⟨q, 0, none⟩)), (5, .slice ad x.k.length (sg ad 1)), (6, .bool x.f), (7, .int .i64 (i : Nat))] ∧ MF L H4 q (some ⟨p, 0, none⟩) b ps4 B4 ∧ foP ps4 B4 = (x.k.take i).foldl lessK (foP ps3 B) ∧ Fr (FP (some ⟨p, 0, none⟩) b) H H4 ∧ Rep EI 1 H4 ad x.k.length x.k ∧ Inv (foP ps4 B4) eB (fun z => eN z + ((x.k.drop i).count (z : Int) : Int)) ∧ ∀ k ∈ x.k.drop i, k = -1 ∨ ∃ (z : Nat) (hz : z < (foP ps4 B4).n.length), k = (z : Int) ∧ (foP ps4 B4).n[z].f = true) x.k.length ?_ ?_ ?_
      · rintro i ts H4 hil ⟨ps4, B4, rfl, m4, e4, f4, k4, v4, lf4⟩
        have hw1 := hklen.w hil
        obtain ⟨pk, ok, rfl, ek⟩ := k4.at hil
        simp only [EI, Nat.mul_one] at ek
        have htake : (x.k.take (i + 1)).foldl lessK (foP ps3 B) = lessK (foP ps4 B4) x.k[i] := by
          rw [List.take_succ_eq_append_getElem hil, List.foldl_append, ← e4]; rfl
        have hdrop := drop_cons hil
        rw [hdrop] at lf4
        obtain ⟨v5, lf5⟩ := v4.lessK1 h0 lf4 (fun z => by rw [hdrop]; have := h0' z; omega)
        have v6 : Inv (lessK (foP ps4 B4) x.k[i]) eB (fun z => eN z + ((x.k.drop (i + 1)).count (z : Int) : Int)) := v5.eq (fun _ _ => rfl) (fun z _ => by rw [hdrop, count_kI]; omega)
        rcases lf4 x.k[i] List.mem_cons_self with hm | ⟨k, hk4, hkk, hkf⟩
        · have hd1 : decide ((-1 : Int) < 0) = true := rfl
          have hsame : lessK (foP ps4 B4) x.k[i] = foP ps4 B4 := by rw [hm]; rfl
          rw [hsame] at v6 lf5 htake
          rw [hm] at ek
          refine ⟨[(0, .pointer (some ⟨q, 0, none⟩)), (5, .slice (some ⟨pk, ok, none⟩) x.k.length 1), (6, .bool x.f), (7, .int .i64 ((i + 1 : Nat) : Int))], H4, ?_, ps4, B4, rfl, m4, htake.symm, f4, k4, v6, lf5⟩
          simp -implicitDefEqProofs only [rnd, l126_0, VMs, noRef, noRef1, isRef, List.all_cons, List.all_nil, vop, VOp.still, VOp.app, VOp.plain, allP, lof, evs, start, asI, vbin, vcells, ntup, setAll, vfill, vress, vres, tup, Nat.reduceEqDiff, ↓reduceIte, Nat.reduceAdd, Nat.reduceMul, Nat.reduceLeDiff, reduceCtorEq, slen, ltc hil, ge0, decide_true, Int.toNat_natCast, Nat.mul_one, ek, hd1, hw1]
        · obtain ⟨adk, hpk⟩ := foP_at hk4
          have hone : 1 ≤ eN k + ((x.k.drop i).count (k : Int) : Int) := by
            have := h0' k
            rw [hdrop, count_kI]; unfold kI; rw [if_pos hkk]; omega
          obtain ⟨H5, ps5, B5, c5, m5, e5, f5⟩ := l4LessL_c d lo L H4 m4 hL v4 h0 hpk hkf hone
          have hd1 : decide ((k : Int) < 0) = false := decide_eq_false (by omega)
          have hlk : lessK (foP ps4 B4) x.k[i] = lessL (foP ps4 B4) k := by rw [hkk]; unfold lessK; rw [if_neg (by omega), Int.toNat_natCast]
          rw [hlk, ← e5] at v6 lf5 htake
          rw [hkk] at ek
          refine ⟨[(0, .pointer (some ⟨q, 0, none⟩)), (5, .slice (some ⟨pk, ok, none⟩) x.k.length 1), (6, .bool x.f), (7, .int .i64 ((i + 1 : Nat) : Int))], H5, ?_, ps5, B5, rfl, m5, htake.symm, f4.trans f5, k4.frI f5 (fun z hz => fun hh => hh.elim (ad2 z hz).1 (ad2 z hz).2.1), v6, lf5⟩
          simp -implicitDefEqProofs only [rnd, l126_0, VMs, noRef, noRef1, isRef, List.all_cons, List.all_nil, vop, VOp.still, VOp.app, VOp.plain, allP, lof, evs, start, asI, vbin, vcells, ntup, setAll, vfill, vress, vres, tup, Nat.reduceEqDiff, ↓reduceIte, Nat.reduceAdd, Nat.reduceMul, Nat.reduceLeDiff, reduceCtorEq, slen, ltc hil, ge0, decide_true, Int.toNat_natCast, Nat.mul_one, ek, hd1, hf, c5, hw1]
      · rintro ts H4 ⟨ps4, B4, rfl, m4, e4, f4, _⟩
        rw [List.take_length] at e4
        exact ⟨(.exit 0, [], H4), by simp -implicitDefEqProofs only [rnd, l126_0, VMs, noRef, noRef1, isRef, List.all_cons, List.all_nil, vop, VOp.still, VOp.app, VOp.plain, allP, lof, evs, start, asI, vbin, vcells, ntup, setAll, vfill, vress, vres, tup, Nat.reduceEqDiff, ↓reduceIte, Nat.reduceAdd, Nat.reduceMul, Nat.reduceLeDiff, reduceCtorEq, slen, Int.lt_irrefl, decide_false], by simp, H4, ps4, B4, rfl, m4, e4, f4⟩
      · exact ⟨ps3, B, rfl, m3, rfl, FP.a f13, kk3, hinv3.eq (fun _ _ => rfl) (fun z _ => by rw [List.drop_zero]; exact Int.le_refl _), by rw [List.drop_zero]; exact hkr3⟩
    obtain ⟨_, hl, H4, ps4, B4, rfl, m4, e4, f4⟩ := hloop
    refine ⟨H4, ps4, B4, ?_, m4, ?_, f4⟩
    · have r3 : rd H2 ⟨p, j * 3 + 1, none⟩ = some (.bool x.f) := by
        obtain ⟨p', e', _, s3, _⟩ := m2.at (j := j) (x := ⟨x.r - 1, x.f, []⟩) (ad := none) (by simp [hj])
        cases e'; exact s3
      simp -implicitDefEqProofs only [v126, VMs, noRef, noRef1, isRef, List.all_cons, List.all_nil, vop, VOp.still, VOp.app, VOp.plain, allP, lof, evs, start, asI, vbin, vcells, ntup, setAll, vfill, vress, vres, tup, Nat.reduceEqDiff, ↓reduceIte, Nat.reduceAdd, Nat.reduceMul, Nat.reduceLeDiff, reduceCtorEq, gq, slen, ltc hj, ge0, decide_true, Int.toNat_natCast, r1, hw, w1', r2, s2, t2, hd, w2', w3', vlp, hl, List.toArray]
    · rw [lessR_at hjn, hnx, if_neg hgt, e4, hfo3]
/-! ### The program's -/
theorem lessL_c (d lo L : Nat) (H : Hp) {q : Nat} {a b : Option Addr} {ps : List (Nd × Option Addr)} {B : List Bk} (h : MF L H q a b ps B) (hL : lo ≤ L) {eB eN : Nat → Int} (hi : Inv (foP ps B) eB eN) (h0 : ∀ i, 0 ≤ eB i) {j : Nat} {x : Nd} {ad : Option Addr} (hx : ps[j]? = some (x, ad)) (hf : x.f = true) (he : 1 ≤ eN j) :
    ∃ H' ps' B', vcall env (d + 2) 127 [.pointer (some ⟨q, 0, none⟩), .int .i64 (j : Nat)] lo H = some (.tuple #[], H') ∧ MF L H' q a b ps' B' ∧ foP ps' B' = lessL (foP ps B) j ∧ Fr (FP a b) H H' := by
  have hj : j < ps.length := (List.getElem?_eq_some_iff.1 hx).1
  obtain ⟨hjn, hnx⟩ := foP_n (B := B) hx
  have hmem := List.getElem_mem hjn
  have hxr := hi.nr _ hmem
  have hlive := hi.live hmem (by rw [hnx]; exact hf)
  rw [hnx] at hxr hlive
  obtain ⟨p, H1, rfl, r1, w1, m1, f1, l1⟩ := h.refs hx (x.r - 1)
  have hw : IntKind.i64.wrap (x.r - 1) = x.r - 1 := wr (by omega) (by omega)
  have w1' := wr_lo w1 hL
  have gq := h.pf.n
  simp only [sgs] at gq
  have hx1 : (ps.set j (⟨x.r - 1, x.f, x.k⟩, ad))[j]? = some (⟨x.r - 1, x.f, x.k⟩, ad) := by simp [hj]
  obtain ⟨p', e', r2, s2, t2, k2, ad2⟩ := m1.at hx1
  cases e'
  rw [call_eq find127 _ _ _ rfl]
  by_cases hgt : 1 < x.r
  · have hd : decide (x.r - 1 > 0) = true := decide_eq_true (by omega)
    refine ⟨H1, _, _, ?_, m1, ?_, FP.a f1⟩
    · simp -implicitDefEqProofs only [v127, VMs, noRef, noRef1, isRef, List.all_cons, List.all_nil, vop, VOp.still, VOp.app, VOp.plain, allP, lof, evs, start, asI, vbin, vcells, ntup, setAll, vfill, vress, vres, tup, Nat.reduceEqDiff, ↓reduceIte, Nat.reduceAdd, Nat.reduceMul, Nat.reduceLeDiff, reduceCtorEq, gq, slen, ltc hj, ge0, decide_true, Int.toNat_natCast, r1, hw, w1', r2, hd, List.toArray]
    · rw [lessL_at hjn, hnx, if_pos hgt, foP_set1]
  · have hr1 : x.r = 1 := by omega
    have hd : decide (x.r - 1 > 0) = false := decide_eq_false (by omega)
    have hall := rdN3 r2 s2 t2
    -- the copy of the node
    obtain ⟨HO, hHO⟩ : ∃ HO : Hp, HO = H1 ++ [some ⟨[.int .i64 (x.r - 1), .bool x.f, .slice ad x.k.length (sg ad 1)], true, false⟩] := ⟨_, rfl⟩
    have fO : Fn H1 HO := hHO ▸ Fr.app
    have lO : HO.length = H1.length + 1 := by rw [hHO]; simp
    have bO : HO.blk H1.length = some ⟨[.int .i64 (x.r - 1), .bool x.f, .slice ad x.k.length (sg ad 1)], true, false⟩ := by rw [hHO]; exact blk0
    have mO := m1.new fO
    obtain ⟨p', H3, e', w3, m3, f3, l3⟩ := mO.die hx1
    cases e'
    have w3' := wr_lo w3 hL
    have hset : (ps.set j (⟨x.r - 1, x.f, x.k⟩, ad)).set j (dead, none) = ps.set j (dead, none) := List.set_set ..
    rw [hset] at m3
    obtain ⟨ps3, hps3⟩ : ∃ ps3, ps3 = ps.set j (dead, none) := ⟨_, rfl⟩
    rw [← hps3] at m3
    have hfo3 : foP ps3 B = ⟨(foP ps B).n.set j dead, (foP ps B).b⟩ := by rw [hps3, foP_set1]
    have hinv3 := hi.killL hjn (by rw [hnx]; exact hf) (by rw [hnx]; exact hr1) he
    rw [← hfo3, hnx] at hinv3
    have f13 : Fr (Ad (some ⟨p, 0, none⟩)) H H3 := (f1.trans fO.no).trans f3
    have hpO : p < H1.length := by rw [l1]; obtain ⟨p', e', _⟩ := h.at hx; cases e'; exact rd_lt r1
    have kk3 := (h.at hx).choose_spec.2.2.2.2.1.frI f13 (fun i hi => (ad2 i hi).1)
    have nOa : ¬ Ad (some ⟨p, 0, none⟩) H1.length := fun ⟨o, e⟩ => by cases e; omega
    have nOb : ¬ Ad b H1.length := fun hh => by have := (m1.bl.lt hh).2; omega
    have bO3 : H3.blk H1.length = some ⟨[.int .i64 (x.r - 1), .bool x.f, .slice ad x.k.length (sg ad 1)], true, false⟩ := (f3.blk _ (by omega) nOa).trans bO
    have hklen : Sm x.k.length := by
      have := (hi.n4 _ hmem (by rw [hnx]; exact hlive)).1
      rw [hnx] at this; unfold Sm; omega
    have hloop : ∃ r, lim (rnd (vcall env (d + 1)) lo [0, 5, 33, 34, 35] [] l127_0) [(0, .pointer (some ⟨q, 0, none⟩)), (5, .pointer (some ⟨H1.length, 0, none⟩)), (33, .slice ad x.k.length (sg ad 1)), (34, .int .i64 (x.k.length : Nat)), (35, .int .i64 0)] H3 = some r ∧
        ∃ H', r = (.exit 0, [], H') ∧ MF L H' q (some ⟨p, 0, none⟩) b ps3 (x.k.foldl dropB B) ∧ Fr (FP (some ⟨p, 0, none⟩) b) H H' := by
      refine lim_inv (fun i ts H4 => ts = [(0, .pointer (some ⟨q, 0, none⟩)), (5, .pointer (some ⟨H1.length, 0, none⟩)), (33, .slice ad x.k.length (sg ad 1)), (34, .int .i64 (x.k.length : Nat)), (35, .int .i64 (i : Nat))] ∧ MF L H4 q (some ⟨p, 0, none⟩) b ps3 ((x.k.take i).foldl dropB B) ∧ Fr (FP (some ⟨p, 0, none⟩) b) H H4 ∧ Rep EI 1 H4 ad x.k.length x.k ∧ Inv (foP ps3 ((x.k.take i).foldl dropB B)) (fun z => eB z + ((x.k.drop i).count (z : Int) : Int)) (fun i => eN i - if i = j then 1 else 0) ∧ rd H4 ⟨H1.length, 1, none⟩ = some (.bool x.f) ∧ H1.length < H4.length) x.k.length ?_ ?_ ?_
      · rintro i ts H4 hil ⟨rfl, m4, f4, k4, v4, rO, lO4⟩
        have hw1 := hklen.w hil
        obtain ⟨pk, ok, rfl, ek⟩ := k4.at hil
        simp only [EI, Nat.mul_one] at ek
        have htake : (x.k.take (i + 1)).foldl dropB B = dropB ((x.k.take i).foldl dropB B) x.k[i] := by
          rw [List.take_succ_eq_append_getElem hil, List.foldl_append]; rfl
        have hdrop := drop_cons hil
        have hkv := hi.kl _ hmem (by rw [hnx]; exact hf) x.k[i] (by rw [hnx]; exact List.getElem_mem hil)
        have gb4 := m4.pf.b
        have hBl : ((x.k.take i).foldl dropB B).length = B.length := dropB_fold_len _ _
        rw [htake]
        generalize hBi : (x.k.take i).foldl dropB B = Bi at *
        have hkv' : x.k[i] = -1 ∨ (0 ≤ x.k[i] ∧ x.k[i] < (Bi.length : Int)) := by rw [hBl]; exact hkv
        have hcnt : ∀ z : Nat, ((x.k.drop i).count (z : Int) : Int) = kI x.k[i] z + ((x.k.drop (i + 1)).count (z : Int) : Int) := fun z => by rw [hdrop]; exact count_kI _ _ _
        have v5 := v4.dropK (k := x.k[i]) hkv' (fun z e => by
          have := hcnt z
          unfold kI at this
          rw [if_pos e] at this
          have := h0 z
          (try simp only); omega)
        have v6 : Inv (foP ps3 (dropB Bi x.k[i])) (fun z => eB z + ((x.k.drop (i + 1)).count (z : Int) : Int)) (fun i => eN i - if i = j then 1 else 0) := v5.eq (fun z _ => by rw [hcnt z]; omega) (fun _ _ => Int.le_refl _)
        rcases hkv' with hm | ⟨hk0, hk1⟩
        · have hd1 : ((-1 : Int) == -1) = true := rfl
          rw [dropB_m _ (by omega)] at v6 ⊢
          rw [hm] at ek
          refine ⟨[(0, .pointer (some ⟨q, 0, none⟩)), (5, .pointer (some ⟨H1.length, 0, none⟩)), (33, .slice (some ⟨pk, ok, none⟩) x.k.length 1), (34, .int .i64 (x.k.length : Nat)), (35, .int .i64 ((i + 1 : Nat) : Int))], H4, ?_, rfl, m4, f4, k4, v6, rO, lO4⟩
          simp -implicitDefEqProofs only [rnd, l127_0, VMs, noRef, noRef1, isRef, List.all_cons, List.all_nil, vop, VOp.still, VOp.app, VOp.plain, allP, lof, evs, start, asI, vbin, vcells, ntup, setAll, vfill, vress, vres, tup, Nat.reduceEqDiff, ↓reduceIte, Nat.reduceAdd, Nat.reduceMul, Nat.reduceLeDiff, reduceCtorEq, slen, ltc hil, ge0, decide_true, Int.toNat_natCast, Nat.mul_one, ek, hd1, hw1]
        · obtain ⟨k, hkk⟩ : ∃ k : Nat, x.k[i] = (k : Int) := ⟨x.k[i].toNat, by omega⟩
          have hkB : k < Bi.length := by omega
          rw [hkk] at v6 ek ⊢
          rw [dropB_n hkB] at v6 ⊢
          have hb4 := v4.bd _ (List.getElem_mem hkB)
          have hc4 := v4.cb k hkB
          have hn4 := nmS_nonneg (foP ps3 Bi).n true (k : Int)
          have hct := hcnt k
          unfold kI at hct
          rw [if_pos hkk] at hct
          have h0k := h0 k
          simp only [foP] at hb4 hc4 hn4
          obtain ⟨H5, c5, m5, f5, l5⟩ := drop_c d lo L H4 m4 hL (getE hkB) ⟨by (try simp only at hc4); omega, hb4.1.2⟩
          have hd1 : ((k : Int) == -1) = false := by rw [beq_eq_false_iff_ne]; omega
          refine ⟨[(0, .pointer (some ⟨q, 0, none⟩)), (5, .pointer (some ⟨H1.length, 0, none⟩)), (33, .slice (some ⟨pk, ok, none⟩) x.k.length 1), (34, .int .i64 (x.k.length : Nat)), (35, .int .i64 ((i + 1 : Nat) : Int))], H5, ?_, rfl, m5, f4.trans (FP.b f5), k4.frI f5 (fun z hz => (ad2 z hz).2.1), v6, (f5.rd _ _ lO4 nOb).trans rO, by omega⟩
          rw [hf] at rO
          simp -implicitDefEqProofs only [rnd, l127_0, VMs, noRef, noRef1, isRef, List.all_cons, List.all_nil, vop, VOp.still, VOp.app, VOp.plain, allP, lof, evs, start, asI, vbin, vcells, ntup, setAll, vfill, vress, vres, tup, Nat.reduceEqDiff, ↓reduceIte, Nat.reduceAdd, Nat.reduceMul, Nat.reduceLeDiff, reduceCtorEq, slen, ltc hil, ge0, decide_true, Int.toNat_natCast, Nat.mul_one, ek, hd1, rO, gb4, c5, hw1]
      · rintro ts H4 ⟨rfl, m4, f4, k4, v4, _⟩
        rw [List.take_length] at m4
        exact ⟨(.exit 0, [], H4), by simp -implicitDefEqProofs only [rnd, l127_0, VMs, noRef, noRef1, isRef, List.all_cons, List.all_nil, vop, VOp.still, VOp.app, VOp.plain, allP, lof, evs, start, asI, vbin, vcells, ntup, setAll, vfill, vress, vres, tup, Nat.reduceEqDiff, ↓reduceIte, Nat.reduceAdd, Nat.reduceMul, Nat.reduceLeDiff, reduceCtorEq, slen, Int.lt_irrefl, decide_false], by simp, H4, rfl, m4, f4⟩
      · exact ⟨rfl, m3, FP.a f13, kk3, hinv3.eq (fun z _ => by rw [List.drop_zero]) (fun _ _ => Int.le_refl _), by simp only [rd, bO3, Option.bind_some, getcs, getc0], blk_lt bO3⟩
    obtain ⟨_, hl, H4, rfl, m4, f4⟩ := hloop
    refine ⟨H4, ps3, _, ?_, m4, ?_, f4⟩
    · have r5 : rd H3 ⟨H1.length, 2, none⟩ = some (.slice ad x.k.length (sg ad 1)) := by simp only [rd, bO3, Option.bind_some, getcs, getc0]
      have hle : (lo ≤ H1.length) = True := eq_true (by have := h.lq; have := blk_lt h.hd; omega)
      rw [hHO] at w3'
      simp -implicitDefEqProofs only [v127, VMs, noRef, noRef1, isRef, List.all_cons, List.all_nil, vop, VOp.still, VOp.app, VOp.plain, allP, lof, evs, start, asI, vbin, vcells, ntup, setAll, vfill, vress, vres, tup, Nat.reduceEqDiff, ↓reduceIte, Nat.reduceAdd, Nat.reduceMul, Nat.reduceLeDiff, reduceCtorEq, gq, slen, ltc hj, ge0, hle, decide_true, Int.toNat_natCast, r1, hw, w1', r2, hall, hd, w3', r5, vlp, hl, List.toArray]
    · rw [lessL_at hjn, hnx, if_neg hgt, hps3]
      unfold foP
      simp only [List.map_set]
theorem lessR_c (d lo L : Nat) (H : Hp) {q : Nat} {a b : Option Addr} {ps : List (Nd × Option Addr)} {B : List Bk} (h : MF L H q a b ps B) (hL : lo ≤ L) {eB eN : Nat → Int} (hi : Inv (foP ps B) eB eN) (h0 : ∀ i, 0 ≤ eB i) (h0' : ∀ i, 0 ≤ eN i) {j : Nat} {x : Nd} {ad : Option Addr} (hx : ps[j]? = some (x, ad)) (hf : x.f = false) (hlive : x.r ≠ 0) :
    ∃ H' ps' B', vcall env (d + 3) 127 [.pointer (some ⟨q, 0, none⟩), .int .i64 (j : Nat)] lo H = some (.tuple #[], H') ∧ MF L H' q a b ps' B' ∧ foP ps' B' = lessR (foP ps B) j ∧ Fr (FP a b) H H' := by
  have hj : j < ps.length := (List.getElem?_eq_some_iff.1 hx).1
  obtain ⟨hjn, hnx⟩ := foP_n (B := B) hx
  have hmem := List.getElem_mem hjn
  have hxr := hi.nr _ hmem
  rw [hnx] at hxr
  obtain ⟨p, H1, rfl, r1, w1, m1, f1, l1⟩ := h.refs hx (x.r - 1)
  have hw : IntKind.i64.wrap (x.r - 1) = x.r - 1 := wr (by omega) (by omega)
  have w1' := wr_lo w1 hL
  have gq := h.pf.n
  simp only [sgs] at gq
  have hx1 : (ps.set j (⟨x.r - 1, x.f, x.k⟩, ad))[j]? = some (⟨x.r - 1, x.f, x.k⟩, ad) := by simp [hj]
  obtain ⟨p', e', r2, s2, t2, k2, ad2⟩ := m1.at hx1
  cases e'
  rw [call_eq find127 _ _ _ rfl]
  by_cases hgt : 1 < x.r
  · have hd : decide (x.r - 1 > 0) = true := decide_eq_true (by omega)
    refine ⟨H1, _, _, ?_, m1, ?_, FP.a f1⟩
    · simp -implicitDefEqProofs only [v127, VMs, noRef, noRef1, isRef, List.all_cons, List.all_nil, vop, VOp.still, VOp.app, VOp.plain, allP, lof, evs, start, asI, vbin, vcells, ntup, setAll, vfill, vress, vres, tup, Nat.reduceEqDiff, ↓reduceIte, Nat.reduceAdd, Nat.reduceMul, Nat.reduceLeDiff, reduceCtorEq, gq, slen, ltc hj, ge0, decide_true, Int.toNat_natCast, r1, hw, w1', r2, hd, List.toArray]
    · rw [lessR_at hjn, hnx, if_pos hgt, foP_set1]
  · have hr1 : x.r = 1 := by omega
    have hd : decide (x.r - 1 > 0) = false := decide_eq_false (by omega)
    have hall := rdN3 r2 s2 t2
    -- the copy of the node
    obtain ⟨HO, hHO⟩ : ∃ HO : Hp, HO = H1 ++ [some ⟨[.int .i64 (x.r - 1), .bool x.f, .slice ad x.k.length (sg ad 1)], true, false⟩] := ⟨_, rfl⟩
    have fO : Fn H1 HO := hHO ▸ Fr.app
    have lO : HO.length = H1.length + 1 := by rw [hHO]; simp
    have bO : HO.blk H1.length = some ⟨[.int .i64 (x.r - 1), .bool x.f, .slice ad x.k.length (sg ad 1)], true, false⟩ := by rw [hHO]; exact blk0
    have mO := m1.new fO
    obtain ⟨p', H3, e', w3, m3, f3, l3⟩ := mO.die hx1
    cases e'
    have w3' := wr_lo w3 hL
    have hset : (ps.set j (⟨x.r - 1, x.f, x.k⟩, ad)).set j (dead, none) = ps.set j (dead, none) := List.set_set ..
    rw [hset] at m3
    obtain ⟨ps3, hps3⟩ : ∃ ps3, ps3 = ps.set j (dead, none) := ⟨_, rfl⟩
    have hset : ((ps.set j (⟨x.r - 1, x.f, x.k⟩, ad)).set j (⟨x.r - 1, x.f, []⟩, none)).set j (⟨x.r - 1, false, []⟩, none) = ps3 := by
      rw [List.set_set, List.set_set, hps3, hr1]; rfl
    rw [← hps3] at m3
    have hfo3 : foP ps3 B = ⟨(foP ps B).n.set j dead, (foP ps B).b⟩ := by rw [hps3, foP_set1]
    have hinv3 := hi.killR hjn (by rw [hnx]; exact hf) (by rw [hnx]; exact hlive)
    rw [← hfo3, hnx] at hinv3
    have f13 : Fr (Ad (some ⟨p, 0, none⟩)) H H3 := (f1.trans fO.no).trans f3
    have hpO : p < H1.length := by rw [l1]; obtain ⟨p', e', _⟩ := h.at hx; cases e'; exact rd_lt r1
    have nOa : ¬ Ad (some ⟨p, 0, none⟩) H1.length := fun ⟨o, e⟩ => by cases e; omega
    have nOb : ¬ Ad b H1.length := fun hh => by have := (m1.bl.lt hh).2; omega
    have bO3 : H3.blk H1.length = some ⟨[.int .i64 (x.r - 1), .bool x.f, .slice ad x.k.length (sg ad 1)], true, false⟩ := (f3.blk _ (by omega) nOa).trans bO
    have kk3 := (h.at hx).choose_spec.2.2.2.2.1.frI f13 (fun i hi => (ad2 i hi).1)
    have hkr3 : ∀ k ∈ x.k, k = -1 ∨ ∃ (i : Nat) (hi : i < (foP ps3 B).n.length), k = (i : Int) ∧ (foP ps3 B).n[i].f = true := fun k hk => by
      rcases hi.kr _ hmem (by rw [hnx]; exact hf) k (by rw [hnx]; exact hk) with e | ⟨i, hi', e, hf'⟩
      · exact Or.inl e
      · refine Or.inr ⟨i, by rw [hfo3]; simpa using hi', e, ?_⟩
        simp only [hfo3, List.getElem_set]
        rw [if_neg (fun e2 => by subst e2; rw [hnx, hf] at hf'; cases hf')]
        exact hf'
    have hklen : Sm x.k.length := by
      have := (hi.n4 _ hmem (by rw [hnx]; exact hlive)).1
      rw [hnx] at this; unfold Sm; omega
    have hloop : ∃ r, lim (rnd (vcall env (d + 2)) lo [0, 5, 33, 34, 35] [] l127_0) [(0, .pointer (some ⟨q, 0, none⟩)), (5, .pointer (some ⟨H1.length, 0, none⟩)), (33, .slice ad x.k.length (sg ad 1)), (34, .int .i64 (x.k.length : Nat)), (35, .int .i64 0)] H3 = some r ∧
        ∃ H' ps' B', r = (.exit 0, [], H') ∧ MF L H' q (some ⟨p, 0, none⟩) b ps' B' ∧ foP ps' B' = x.k.foldl lessK (foP ps3 B) ∧ Fr (FP (some ⟨p, 0, none⟩) b) H H' := by
      refine lim_inv (fun i ts H4 => ∃ ps4 B4, ts = [(0, .pointer (some ⟨q, 0, none⟩)), (5, .pointer (some ⟨H1.length, 0, none⟩)), (33, .slice ad x.k.length (sg ad 1)), (34, .int .i64 (x.k.length : Nat)), (35, .int .i64 (i : Nat))] ∧ MF L H4 q (some ⟨p, 0, none⟩) b ps4 B4 ∧ foP ps4 B4 = (x.k.take i).foldl lessK (foP ps3 B) ∧ Fr (FP (some ⟨p, 0, none⟩) b) H H4 ∧ Rep EI 1 H4 ad x.k.length x.k ∧ Inv (foP ps4 B4) eB (fun z => eN z + ((x.k.drop i).count (z : Int) : Int)) ∧ (∀ k ∈ x.k.drop i, k = -1 ∨ ∃ (z : Nat) (hz : z < (foP ps4 B4).n.length), k = (z : Int) ∧ (foP ps4 B4).n[z].f = true) ∧ rd H4 ⟨H1.length, 1, none⟩ = some (.bool x.f) ∧ H1.length < H4.length) x.k.length ?_ ?_ ?_
      · rintro i ts H4 hil ⟨ps4, B4, rfl, m4, e4, f4, k4, v4, lf4, rO, lO4⟩
        have hw1 := hklen.w hil
        obtain ⟨pk, ok, rfl, ek⟩ := k4.at hil
        simp only [EI, Nat.mul_one] at ek
        have htake : (x.k.take (i + 1)).foldl lessK (foP ps3 B) = lessK (foP ps4 B4) x.k[i] := by
          rw [List.take_succ_eq_append_getElem hil, List.foldl_append, ← e4]; rfl
        have hdrop := drop_cons hil
        rw [hdrop] at lf4
        obtain ⟨v5, lf5⟩ := v4.lessK1 h0 lf4 (fun z => by rw [hdrop]; have := h0' z; omega)
        have v6 : Inv (lessK (foP ps4 B4) x.k[i]) eB (fun z => eN z + ((x.k.drop (i + 1)).count (z : Int) : Int)) := v5.eq (fun _ _ => rfl) (fun z _ => by rw [hdrop, count_kI]; omega)
        rcases lf4 x.k[i] List.mem_cons_self with hm | ⟨k, hk4, hkk, hkf⟩
        · have hd1 : ((-1 : Int) == -1) = true := rfl
          have hsame : lessK (foP ps4 B4) x.k[i] = foP ps4 B4 := by rw [hm]; rfl
          rw [hsame] at v6 lf5 htake
          rw [hm] at ek
          refine ⟨[(0, .pointer (some ⟨q, 0, none⟩)), (5, .pointer (some ⟨H1.length, 0, none⟩)), (33, .slice (some ⟨pk, ok, none⟩) x.k.length 1), (34, .int .i64 (x.k.length : Nat)), (35, .int .i64 ((i + 1 : Nat) : Int))], H4, ?_, ps4, B4, rfl, m4, htake.symm, f4, k4, v6, lf5, rO, lO4⟩
          simp -implicitDefEqProofs only [rnd, l127_0, VMs, noRef, noRef1, isRef, List.all_cons, List.all_nil, vop, VOp.still, VOp.app, VOp.plain, allP, lof, evs, start, asI, vbin, vcells, ntup, setAll, vfill, vress, vres, tup, Nat.reduceEqDiff, ↓reduceIte, Nat.reduceAdd, Nat.reduceMul, Nat.reduceLeDiff, reduceCtorEq, slen, ltc hil, ge0, decide_true, Int.toNat_natCast, Nat.mul_one, ek, hd1, hw1]
        · obtain ⟨adk, hpk⟩ := foP_at hk4
          have hone : 1 ≤ eN k + ((x.k.drop i).count (k : Int) : Int) := by
            have := h0' k
            rw [hdrop, count_kI]; unfold kI; rw [if_pos hkk]; omega
          obtain ⟨H5, ps5, B5, c5, m5, e5, f5⟩ := lessL_c d lo L H4 m4 hL v4 h0 hpk hkf hone
          have hd1 : ((k : Int) == -1) = false := by rw [beq_eq_false_iff_ne]; omega
          have hlk : lessK (foP ps4 B4) x.k[i] = lessL (foP ps4 B4) k := by rw [hkk]; unfold lessK; rw [if_neg (by omega), Int.toNat_natCast]
          rw [hlk, ← e5] at v6 lf5 htake
          rw [hkk] at ek
          refine ⟨[(0, .pointer (some ⟨q, 0, none⟩)), (5, .pointer (some ⟨H1.length, 0, none⟩)), (33, .slice (some ⟨pk, ok, none⟩) x.k.length 1), (34, .int .i64 (x.k.length : Nat)), (35, .int .i64 ((i + 1 : Nat) : Int))], H5, ?_, ps5, B5, rfl, m5, htake.symm, f4.trans f5, k4.frI f5 (fun z hz => fun hh => hh.elim (ad2 z hz).1 (ad2 z hz).2.1), v6, lf5, (f5.rd _ _ lO4 (fun hh => hh.elim nOa nOb)).trans rO, by have := f5.len; omega⟩
          rw [hf] at rO
          simp -implicitDefEqProofs only [rnd, l127_0, VMs, noRef, noRef1, isRef, List.all_cons, List.all_nil, vop, VOp.still, VOp.app, VOp.plain, allP, lof, evs, start, asI, vbin, vcells, ntup, setAll, vfill, vress, vres, tup, Nat.reduceEqDiff, ↓reduceIte, Nat.reduceAdd, Nat.reduceMul, Nat.reduceLeDiff, reduceCtorEq, slen, ltc hil, ge0, decide_true, Int.toNat_natCast, Nat.mul_one, ek, hd1, rO, c5, hw1]
      · rintro ts H4 ⟨ps4, B4, rfl, m4, e4, f4, _⟩
        rw [List.take_length] at e4
        exact ⟨(.exit 0, [], H4), by simp -implicitDefEqProofs only [rnd, l127_0, VMs, noRef, noRef1, isRef, List.all_cons, List.all_nil, vop, VOp.still, VOp.app, VOp.plain, allP, lof, evs, start, asI, vbin, vcells, ntup, setAll, vfill, vress, vres, tup, Nat.reduceEqDiff, ↓reduceIte, Nat.reduceAdd, Nat.reduceMul, Nat.reduceLeDiff, reduceCtorEq, slen, Int.lt_irrefl, decide_false], by simp, H4, ps4, B4, rfl, m4, e4, f4⟩
      · exact ⟨ps3, B, rfl, m3, rfl, FP.a f13, kk3, hinv3.eq (fun _ _ => rfl) (fun z _ => by rw [List.drop_zero]; exact Int.le_refl _), by rw [List.drop_zero]; exact hkr3, by simp only [rd, bO3, Option.bind_some, getcs, getc0], blk_lt bO3⟩
    obtain ⟨_, hl, H4, ps4, B4, rfl, m4, e4, f4⟩ := hloop
    refine ⟨H4, ps4, B4, ?_, m4, ?_, f4⟩
    · have r5 : rd H3 ⟨H1.length, 2, none⟩ = some (.slice ad x.k.length (sg ad 1)) := by simp only [rd, bO3, Option.bind_some, getcs, getc0]
      have hle : (lo ≤ H1.length) = True := eq_true (by have := h.lq; have := blk_lt h.hd; omega)
      rw [hHO] at w3'
      simp -implicitDefEqProofs only [v127, VMs, noRef, noRef1, isRef, List.all_cons, List.all_nil, vop, VOp.still, VOp.app, VOp.plain, allP, lof, evs, start, asI, vbin, vcells, ntup, setAll, vfill, vress, vres, tup, Nat.reduceEqDiff, ↓reduceIte, Nat.reduceAdd, Nat.reduceMul, Nat.reduceLeDiff, reduceCtorEq, gq, slen, ltc hj, ge0, hle, decide_true, Int.toNat_natCast, r1, hw, w1', r2, hall, hd, w3', r5, vlp, hl, List.toArray]
    · rw [lessR_at hjn, hnx, if_neg hgt, e4, hfo3]
end Go.Proofs.Ytmcljallamhccaa.V
