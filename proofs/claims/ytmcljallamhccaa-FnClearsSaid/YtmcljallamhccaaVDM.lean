/- One more refers to each of some kids; a fresh node: the reference's and the program's. -/
import Derived.Test.YtmcljallamhccaaVDL
namespace Go.Proofs.Ytmcljallamhccaa.V
open Go
set_option linter.unusedVariables false
set_option linter.unusedSimpArgs false
set_option maxRecDepth 100000
theorem moreAll_take {leaf : Bool} {F : Fo} {ks : List Int} {i : Nat} (hi : i < ks.length) : moreAll leaf F (ks.take (i + 1)) = (moreAll leaf F (ks.take i)).bind fun F' => moreK leaf F' ks[i] := by
  unfold moreAll
  rw [List.take_succ_eq_append_getElem hi, List.foldl_append]; rfl
theorem moreAll_fail {leaf : Bool} {F : Fo} {ks : List Int} {i : Nat} (h : moreAll leaf F (ks.take i) = none) : moreAll leaf F ks = none := by
  rw [← List.take_append_drop i ks]
  unfold moreAll at h ⊢
  rw [List.foldl_append, h]
  exact fold_none _ _
theorem FP.frb {a b : Option Addr} {H H' : Hp} {N : Nat} {cs : List Value} (hf : Fr (FP a b) H H') (hb : H.blk N = some ⟨cs, true, false⟩) (hna : ¬ Ad a N) (hnb : ¬ Ad b N) : H'.blk N = some ⟨cs, true, false⟩ := (hf.blk N (blk_lt hb) (fun hh => hh.elim hna hnb)).trans hb
theorem rdK {H : Hp} {N : Nat} {ks : List Int} {k0 : Bool} (h : H.blk N = some ⟨vI ks, true, k0⟩) {i : Nat} (hi : i < ks.length) : rd H ⟨N, i, none⟩ = some (.int .i64 ks[i]) := by
  simp only [rd, h, Option.bind_some, vI_at, getE hi, Option.map_some]
/-- What a round of the kids comes to. -/
theorem l4More_c (d lo L : Nat) (H : Hp) {q : Nat} {a b : Option Addr} {ps : List (Nd × Option Addr)} {B : List Bk} (h : MF L H q a b ps B) (hL : lo ≤ L) {N : Nat} {ks : List Int} (hb : H.blk N = some ⟨vI ks, true, false⟩) (hna : ¬ Ad a N) (hnb : ¬ Ad b N) (h4 : ks.length = 4) {p : Nat} (hp : p < 4) (leaf : Bool) (hK : ∀ k ∈ ks.set p (-1), Kid leaf (foP ps B) k) :
    ∃ H', vcall env (d + 1) 163 [.pointer (some ⟨q, 0, none⟩), .bool leaf, .slice (some ⟨N, 0, none⟩) 4 1, .int .i64 (p : Nat)] lo H = some (.bool (moreAll leaf (foP ps B) (ks.set p (-1))).isSome, H') ∧ Fr (FP a b) H H' ∧ ∀ F', moreAll leaf (foP ps B) (ks.set p (-1)) = some F' → ∃ ps' B', MF L H' q a b ps' B' ∧ foP ps' B' = F' := by
  obtain ⟨S, hS⟩ : ∃ S, S = ks.set p (-1) := ⟨_, rfl⟩
  rw [← hS] at hK ⊢
  have hSl : S.length = 4 := by rw [hS]; simpa using h4
  have hloop : ∃ r, lim (rnd (vcall env d) lo [0, 1, 2, 3, 9] [8] l163_0) [(0, .pointer (some ⟨q, 0, none⟩)), (1, .bool leaf), (2, .slice (some ⟨N, 0, none⟩) 4 1), (3, .int .i64 (p : Nat)), (9, .int .i64 0)] H = some r ∧
      ∃ H', Fr (FP a b) H H' ∧ ((moreAll leaf (foP ps B) S = none ∧ r = (.ret, [(8, .bool false)], H')) ∨ (∃ ps' B', moreAll leaf (foP ps B) S = some (foP ps' B') ∧ MF L H' q a b ps' B' ∧ r = (.exit 0, [], H'))) := by
    refine lim_inv2 (fun i ts H1 => ∃ ps1 B1, ts = [(0, .pointer (some ⟨q, 0, none⟩)), (1, .bool leaf), (2, .slice (some ⟨N, 0, none⟩) 4 1), (3, .int .i64 (p : Nat)), (9, .int .i64 (i : Nat))] ∧ MF L H1 q a b ps1 B1 ∧ moreAll leaf (foP ps B) (S.take i) = some (foP ps1 B1) ∧ Fr (FP a b) H H1 ∧ ∀ k ∈ S.drop i, Kid leaf (foP ps1 B1) k) 4 ?_ ?_ ?_
    · rintro i ts H1 hi ⟨ps1, B1, rfl, m1, e1, f1, k1⟩
      have hiS : i < S.length := by omega
      have hik : i < ks.length := by omega
      have hw : IntKind.i64.wrap ((i : Int) + 1) = ((i + 1 : Nat) : Int) := by rw [wr (by omega) (by omega)]; rfl
      have htk := moreAll_take (leaf := leaf) (F := foP ps B) hiS
      rw [e1, Option.bind_some] at htk
      have hdr := drop_cons hiS
      rw [hdr] at k1
      have kS := k1 S[i] List.mem_cons_self
      have bN := FP.frb f1 hb hna hnb
      have rk := rdK bN hik
      have i4 : ((i : Int) < ((4 : Nat) : Int)) = True := ltc hi
      have i4' : ((i : Int) < 4) = True := by simp; omega
      have next : ∀ {F2 ps2 B2 H2}, moreK leaf (foP ps1 B1) S[i] = some F2 → MF L H2 q a b ps2 B2 → foP ps2 B2 = F2 → Fr (FP a b) H1 H2 → ∃ ps1 B1, [(0, Value.pointer (some ⟨q, 0, none⟩)), (1, .bool leaf), (2, .slice (some ⟨N, 0, none⟩) 4 1), (3, .int .i64 (p : Nat)), (9, .int .i64 ((i + 1 : Nat) : Int))] = [(0, Value.pointer (some ⟨q, 0, none⟩)), (1, .bool leaf), (2, .slice (some ⟨N, 0, none⟩) 4 1), (3, .int .i64 (p : Nat)), (9, .int .i64 ((i + 1 : Nat) : Int))] ∧ MF L H2 q a b ps1 B1 ∧ moreAll leaf (foP ps B) (S.take (i + 1)) = some (foP ps1 B1) ∧ Fr (FP a b) H H2 ∧ ∀ k ∈ S.drop (i + 1), Kid leaf (foP ps1 B1) k := by
        intro F2 ps2 B2 H2 hm m2 e2 f2
        subst e2
        exact ⟨ps2, B2, rfl, m2, by rw [htk, hm], f1.trans f2, fun k hk => kS.more hm (k1 k (List.mem_cons_of_mem _ hk))⟩
      have stop : ∀ {H2}, moreK leaf (foP ps1 B1) S[i] = none → Fr (FP a b) H1 H2 → ∃ H', Fr (FP a b) H H' ∧ ((moreAll leaf (foP ps B) S = none ∧ ((VE.ret, [(8, Value.bool false)], H2) : VE × Ts × Hp) = (.ret, [(8, .bool false)], H')) ∨ (∃ ps' B', moreAll leaf (foP ps B) S = some (foP ps' B') ∧ MF L H' q a b ps' B' ∧ ((VE.ret, [(8, Value.bool false)], H2) : VE × Ts × Hp) = (.exit 0, [], H'))) := by
        intro H2 hm f2
        exact ⟨H2, f1.trans f2, Or.inl ⟨moreAll_fail (i := i + 1) (by rw [htk, hm]), rfl⟩⟩
      by_cases hip : i = p
      · subst hip
        have hSi : S[i] = -1 := by simp [hS]
        have hb1 : ((i : Int) == (i : Int)) = true := beq_self_eq_true _
        refine Or.inl ⟨_, H1, ?_, next (by rw [hSi]; exact moreK_m _ _ (by omega)) m1 rfl Fr.refl⟩
        simp -implicitDefEqProofs only [rnd, l163_0, VMs, noRef, noRef1, isRef, List.all_cons, List.all_nil, vop, VOp.still, VOp.app, VOp.plain, allP, lof, evs, start, asI, vbin, vcells, ntup, setAll, vfill, vress, vres, tup, Nat.reduceEqDiff, ↓reduceIte, Nat.reduceAdd, Nat.reduceMul, Nat.reduceLeDiff, reduceCtorEq, i4', decide_true, hb1, hw]
      · have hSi : S[i] = ks[i] := by
          simp only [hS, List.getElem_set]
          rw [if_neg (fun e => hip e.symm)]
        have hb1 : ((i : Int) == (p : Int)) = false := by rw [beq_eq_false_iff_ne]; omega
        rw [hSi] at kS next stop
        rcases kS with hk | ⟨j, hk, kb, kn⟩
        · rw [hk] at rk
          have hd : decide ((-1 : Int) < 0) = true := rfl
          refine Or.inl ⟨_, H1, ?_, next (by rw [hk]; exact moreK_m _ _ (by omega)) m1 rfl Fr.refl⟩
          simp -implicitDefEqProofs only [rnd, l163_0, VMs, noRef, noRef1, isRef, List.all_cons, List.all_nil, vop, VOp.still, VOp.app, VOp.plain, allP, lof, evs, start, asI, vbin, vcells, ntup, setAll, vfill, vress, vres, tup, Nat.reduceEqDiff, ↓reduceIte, Nat.reduceAdd, Nat.reduceMul, Nat.reduceLeDiff, reduceCtorEq, i4', decide_true, hb1, slen, i4, ge0, Int.toNat_natCast, Nat.mul_one, rk, hd, hw]
        · rw [hk] at rk next stop
          have hd : decide ((j : Int) < 0) = false := decide_eq_false (by omega)
          cases leaf with
          | true =>
            obtain ⟨hj, hr⟩ := kb rfl
            have hjB : j < B1.length := hj
            obtain ⟨t, H2, rfl, r2, w2, m2, f2, l2, _⟩ := m1.brefs (getE hjB) (B1[j].r + 1)
            have w2' := wr_lo w2 hL
            have gb := m1.pf.b
            simp only [sgs] at gb
            have hmk : moreK true (foP ps1 B1) (j : Int) = if 200 ≤ B1[j].r then none else some ⟨(foP ps1 B1).n, B1.set j ⟨B1[j].r + 1, B1[j].d⟩⟩ := moreK_b hj
            by_cases h200 : 200 ≤ B1[j].r
            · rw [if_pos h200] at hmk
              have hg : decide (B1[j].r ≥ 200) = true := decide_eq_true h200
              refine Or.inr ⟨_, ?_, ?_, stop hmk Fr.refl⟩
              · simp -implicitDefEqProofs only [rnd, l163_0, VMs, noRef, noRef1, isRef, List.all_cons, List.all_nil, vop, VOp.still, VOp.app, VOp.plain, allP, lof, evs, start, asI, vbin, vcells, ntup, setAll, vfill, vress, vres, tup, Nat.reduceEqDiff, ↓reduceIte, Nat.reduceAdd, Nat.reduceMul, Nat.reduceLeDiff, reduceCtorEq, i4', decide_true, hb1, slen, i4, ge0, Int.toNat_natCast, Nat.mul_one, rk, hd, vdr, gb, ltc hjB, r2, hg]
              · simp
            · rw [if_neg h200] at hmk
              have hg : decide (B1[j].r ≥ 200) = false := decide_eq_false h200
              have hww : IntKind.i64.wrap (B1[j].r + 1) = B1[j].r + 1 := wr (by have : 1 ≤ B1[j].r := hr.1; omega) (by have : B1[j].r ≤ 200 := hr.2; omega)
              refine Or.inl ⟨_, H2, ?_, next hmk m2 rfl (FP.b f2)⟩
              simp -implicitDefEqProofs only [rnd, l163_0, VMs, noRef, noRef1, isRef, List.all_cons, List.all_nil, vop, VOp.still, VOp.app, VOp.plain, allP, lof, evs, start, asI, vbin, vcells, ntup, setAll, vfill, vress, vres, tup, Nat.reduceEqDiff, ↓reduceIte, Nat.reduceAdd, Nat.reduceMul, Nat.reduceLeDiff, reduceCtorEq, i4', decide_true, hb1, slen, i4, ge0, Int.toNat_natCast, Nat.mul_one, rk, hd, vdr, gb, ltc hjB, r2, hg, hww, w2', hw]
          | false =>
            obtain ⟨hj, hr⟩ := kn rfl
            have hjp : j < ps1.length := by rw [foP_len] at hj; exact hj
            obtain ⟨adj, hpj⟩ := foP_at hj
            obtain ⟨t, H2, rfl, r2, w2, m2, f2, l2⟩ := m1.refs hpj ((foP ps1 B1).n[j].r + 1)
            have w2' := wr_lo w2 hL
            have gn := m1.pf.n
            simp only [sgs] at gn
            have hmk := moreK_n hj
            by_cases h200 : 200 ≤ (foP ps1 B1).n[j].r
            · rw [if_pos h200] at hmk
              have hg : decide ((foP ps1 B1).n[j].r ≥ 200) = true := decide_eq_true h200
              refine Or.inr ⟨_, ?_, ?_, stop hmk Fr.refl⟩
              · simp -implicitDefEqProofs only [rnd, l163_0, VMs, noRef, noRef1, isRef, List.all_cons, List.all_nil, vop, VOp.still, VOp.app, VOp.plain, allP, lof, evs, start, asI, vbin, vcells, ntup, setAll, vfill, vress, vres, tup, Nat.reduceEqDiff, ↓reduceIte, Nat.reduceAdd, Nat.reduceMul, Nat.reduceLeDiff, reduceCtorEq, i4', decide_true, hb1, slen, i4, ge0, Int.toNat_natCast, Nat.mul_one, rk, hd, vdr, gn, ltc hjp, r2, hg]
              · simp
            · rw [if_neg h200] at hmk
              have hg : decide ((foP ps1 B1).n[j].r ≥ 200) = false := decide_eq_false h200
              have hww : IntKind.i64.wrap ((foP ps1 B1).n[j].r + 1) = (foP ps1 B1).n[j].r + 1 := wr (by omega) (by omega)
              refine Or.inl ⟨_, H2, ?_, next hmk m2 (foP_set1 _ _ _ _ _) (FP.a f2)⟩
              simp -implicitDefEqProofs only [rnd, l163_0, VMs, noRef, noRef1, isRef, List.all_cons, List.all_nil, vop, VOp.still, VOp.app, VOp.plain, allP, lof, evs, start, asI, vbin, vcells, ntup, setAll, vfill, vress, vres, tup, Nat.reduceEqDiff, ↓reduceIte, Nat.reduceAdd, Nat.reduceMul, Nat.reduceLeDiff, reduceCtorEq, i4', decide_true, hb1, slen, i4, ge0, Int.toNat_natCast, Nat.mul_one, rk, hd, vdr, gn, ltc hjp, r2, hg, hww, w2', hw]
    · rintro ts H1 ⟨ps1, B1, rfl, m1, e1, f1, _⟩
      rw [← hSl, List.take_length] at e1
      have h44 : decide (((4 : Nat) : Int) < 4) = false := rfl
      exact ⟨(.exit 0, [], H1), by simp -implicitDefEqProofs only [rnd, l163_0, VMs, noRef, noRef1, isRef, List.all_cons, List.all_nil, vop, VOp.still, VOp.app, VOp.plain, allP, lof, evs, start, asI, vbin, vcells, ntup, setAll, vfill, vress, vres, tup, Nat.reduceEqDiff, ↓reduceIte, Nat.reduceAdd, Nat.reduceMul, Nat.reduceLeDiff, reduceCtorEq, h44], by simp, H1, f1, Or.inr ⟨ps1, B1, e1, m1, rfl⟩⟩
    · exact ⟨ps, B, rfl, h, by rw [List.take_zero, moreAll_nil], Fr.refl, by rw [List.drop_zero]; exact hK⟩
  rw [call_eq find163 _ _ _ rfl]
  obtain ⟨r, hl, H', f, ⟨hn, rfl⟩ | ⟨ps', B', hs, m, rfl⟩⟩ := hloop
  · refine ⟨H', ?_, f, fun F' e => by rw [hn] at e; cases e⟩
    rw [hn]
    simp -implicitDefEqProofs only [v163, VMs, noRef, noRef1, isRef, List.all_cons, List.all_nil, vop, VOp.still, VOp.app, VOp.plain, allP, lof, evs, start, asI, vbin, vcells, ntup, setAll, vfill, vress, vres, tup, Nat.reduceEqDiff, ↓reduceIte, Nat.reduceAdd, Nat.reduceMul, Nat.reduceLeDiff, reduceCtorEq, vlp, hl, Option.isSome_none]
  · refine ⟨H', ?_, f, fun F' e => ⟨ps', B', m, by rw [hs] at e; exact Option.some.inj e⟩⟩
    rw [hs]
    simp -implicitDefEqProofs only [v163, VMs, noRef, noRef1, isRef, List.all_cons, List.all_nil, vop, VOp.still, VOp.app, VOp.plain, allP, lof, evs, start, asI, vbin, vcells, ntup, setAll, vfill, vress, vres, tup, Nat.reduceEqDiff, ↓reduceIte, Nat.reduceAdd, Nat.reduceMul, Nat.reduceLeDiff, reduceCtorEq, vlp, hl, Option.isSome_some]
/-! ### The program's -/
theorem share_c (d lo L : Nat) (H : Hp) {q : Nat} {a b : Option Addr} {ps : List (Nd × Option Addr)} {B : List Bk} (h : MF L H q a b ps B) (hL : lo ≤ L) {j : Nat} (hj : j < B.length) (hr : 1 ≤ B[j].r ∧ B[j].r ≤ 200) :
    (200 ≤ B[j].r → vcall env (d + 1) 85 [.slice b B.length (sg b 2), .int .i64 (j : Nat)] lo H = some (.int .i64 2, H)) ∧
    (¬ 200 ≤ B[j].r → ∃ H', vcall env (d + 1) 85 [.slice b B.length (sg b 2), .int .i64 (j : Nat)] lo H = some (.int .i64 0, H') ∧ MF L H' q a b ps (B.set j ⟨B[j].r + 1, B[j].d⟩) ∧ Fr (Ad b) H H') := by
  obtain ⟨t, H2, rfl, r2, w2, m2, f2, l2, _⟩ := h.brefs (getE hj) (B[j].r + 1)
  have w2' := wr_lo w2 hL
  have h0 : (B[j].r == 0) = false := by rw [beq_eq_false_iff_ne]; omega
  rw [call_eq find85 _ _ _ rfl]
  refine ⟨fun e => ?_, fun e => ⟨H2, ?_, m2, f2⟩⟩
  · have h2 : (B[j].r == 200) = true := by rw [beq_iff_eq]; omega
    simp -implicitDefEqProofs only [v85, VMs, noRef, noRef1, isRef, List.all_cons, List.all_nil, vop, VOp.still, VOp.app, VOp.plain, allP, lof, evs, start, asI, vbin, vcells, ntup, setAll, vfill, vress, vres, tup, Nat.reduceEqDiff, ↓reduceIte, Nat.reduceAdd, Nat.reduceMul, Nat.reduceLeDiff, reduceCtorEq, slen, ltc hj, ge0, decide_true, Int.toNat_natCast, r2, h0, h2]
  · have h2 : (B[j].r == 200) = false := by rw [beq_eq_false_iff_ne]; omega
    have hww : IntKind.i64.wrap (B[j].r + 1) = B[j].r + 1 := wr (by omega) (by omega)
    simp -implicitDefEqProofs only [v85, VMs, noRef, noRef1, isRef, List.all_cons, List.all_nil, vop, VOp.still, VOp.app, VOp.plain, allP, lof, evs, start, asI, vbin, vcells, ntup, setAll, vfill, vress, vres, tup, Nat.reduceEqDiff, ↓reduceIte, Nat.reduceAdd, Nat.reduceMul, Nat.reduceLeDiff, reduceCtorEq, slen, ltc hj, ge0, decide_true, Int.toNat_natCast, r2, h0, h2, hww, w2']
theorem freshLoop (d lo L : Nat) (H : Hp) {q : Nat} {a b : Option Addr} {ps : List (Nd × Option Addr)} {B : List Bk} (h : MF L H q a b ps B) (hL : lo ≤ L) {N : Nat} {ks : List Int} (hb : H.blk N = some ⟨vI ks, true, false⟩) (hna : ¬ Ad a N) (hnb : ¬ Ad b N) (h4 : ks.length = 4) {p : Nat} (hp : p < 4) (leaf : Bool) (m : Int) (hK : ∀ k ∈ ks.set p (-1), Kid leaf (foP ps B) k) :
    ∃ r, lim (rnd (vcall env (d + 2)) lo [0, 1, 3, 10, 51, 52, 53] [8, 9, 10] l154_0) [(0, .pointer (some ⟨q, 0, none⟩)), (1, .bool leaf), (3, .int .i64 (p : Nat)), (10, .int .i64 m), (51, .slice (some ⟨N, 0, none⟩) 4 1), (52, .int .i64 (4 : Nat)), (53, .int .i64 0)] H = some r ∧
      ∃ H', Fr (FP a b) H H' ∧ ((moreAll leaf (foP ps B) (ks.set p (-1)) = none ∧ r = (.ret, [(8, .int .i64 0), (9, .int .i64 2), (10, .int .i64 m)], H')) ∨ (∃ ps' B', moreAll leaf (foP ps B) (ks.set p (-1)) = some (foP ps' B') ∧ MF L H' q a b ps' B' ∧ r = (.exit 0, [(10, .int .i64 m)], H'))) := by
  obtain ⟨S, hS⟩ : ∃ S, S = ks.set p (-1) := ⟨_, rfl⟩
  rw [← hS] at hK ⊢
  have hSl : S.length = 4 := by rw [hS]; simpa using h4
  refine lim_inv2 (fun i ts H1 => ∃ ps1 B1, ts = [(0, .pointer (some ⟨q, 0, none⟩)), (1, .bool leaf), (3, .int .i64 (p : Nat)), (10, .int .i64 m), (51, .slice (some ⟨N, 0, none⟩) 4 1), (52, .int .i64 (4 : Nat)), (53, .int .i64 (i : Nat))] ∧ MF L H1 q a b ps1 B1 ∧ moreAll leaf (foP ps B) (S.take i) = some (foP ps1 B1) ∧ Fr (FP a b) H H1 ∧ ∀ k ∈ S.drop i, Kid leaf (foP ps1 B1) k) 4 ?_ ?_ ?_
  · rintro i ts H1 hi ⟨ps1, B1, rfl, m1, e1, f1, k1⟩
    have hiS : i < S.length := by omega
    have hik : i < ks.length := by omega
    have hw : IntKind.i64.wrap ((i : Int) + 1) = ((i + 1 : Nat) : Int) := by rw [wr (by omega) (by omega)]; rfl
    have htk := moreAll_take (leaf := leaf) (F := foP ps B) hiS
    rw [e1, Option.bind_some] at htk
    have hdr := drop_cons hiS
    rw [hdr] at k1
    have kS := k1 S[i] List.mem_cons_self
    have bN := FP.frb f1 hb hna hnb
    have rk := rdK bN hik
    have i4 : ((i : Int) < ((4 : Nat) : Int)) = True := ltc hi
    have next : ∀ {F2 ps2 B2 H2}, moreK leaf (foP ps1 B1) S[i] = some F2 → MF L H2 q a b ps2 B2 → foP ps2 B2 = F2 → Fr (FP a b) H1 H2 → ∃ ps1 B1, [(0, Value.pointer (some ⟨q, 0, none⟩)), (1, .bool leaf), (3, .int .i64 (p : Nat)), (10, .int .i64 m), (51, .slice (some ⟨N, 0, none⟩) 4 1), (52, .int .i64 (4 : Nat)), (53, .int .i64 ((i + 1 : Nat) : Int))] = [(0, Value.pointer (some ⟨q, 0, none⟩)), (1, .bool leaf), (3, .int .i64 (p : Nat)), (10, .int .i64 m), (51, .slice (some ⟨N, 0, none⟩) 4 1), (52, .int .i64 (4 : Nat)), (53, .int .i64 ((i + 1 : Nat) : Int))] ∧ MF L H2 q a b ps1 B1 ∧ moreAll leaf (foP ps B) (S.take (i + 1)) = some (foP ps1 B1) ∧ Fr (FP a b) H H2 ∧ ∀ k ∈ S.drop (i + 1), Kid leaf (foP ps1 B1) k := by
      intro F2 ps2 B2 H2 hm m2 e2 f2
      subst e2
      exact ⟨ps2, B2, rfl, m2, by rw [htk, hm], f1.trans f2, fun k hk => kS.more hm (k1 k (List.mem_cons_of_mem _ hk))⟩
    have stop : ∀ {H2}, moreK leaf (foP ps1 B1) S[i] = none → Fr (FP a b) H1 H2 → ∃ H', Fr (FP a b) H H' ∧ ((moreAll leaf (foP ps B) S = none ∧ ((VE.ret, [(8, Value.int .i64 0), (9, .int .i64 2), (10, .int .i64 m)], H2) : VE × Ts × Hp) = (.ret, [(8, .int .i64 0), (9, .int .i64 2), (10, .int .i64 m)], H')) ∨ (∃ ps' B', moreAll leaf (foP ps B) S = some (foP ps' B') ∧ MF L H' q a b ps' B' ∧ ((VE.ret, [(8, Value.int .i64 0), (9, .int .i64 2), (10, .int .i64 m)], H2) : VE × Ts × Hp) = (.exit 0, [(10, .int .i64 m)], H'))) := by
      intro H2 hm f2
      exact ⟨H2, f1.trans f2, Or.inl ⟨moreAll_fail (i := i + 1) (by rw [htk, hm]), rfl⟩⟩
    have z20 : ((2 : Int) != 0) = true := rfl
    by_cases hip : i = p
    · subst hip
      have hSi : S[i] = -1 := by simp [hS]
      have hb1 : ((i : Int) == (i : Int)) = true := beq_self_eq_true _
      refine Or.inl ⟨_, H1, ?_, next (by rw [hSi]; exact moreK_m _ _ (by omega)) m1 rfl Fr.refl⟩
      by_cases hk1 : ks[i] = -1
      · have hb2 : (ks[i] == -1) = true := beq_iff_eq.2 hk1
        simp -implicitDefEqProofs only [rnd, l154_0, VMs, noRef, noRef1, isRef, List.all_cons, List.all_nil, vop, VOp.still, VOp.app, VOp.plain, allP, lof, evs, start, asI, vbin, vcells, ntup, setAll, vfill, vress, vres, tup, Nat.reduceEqDiff, ↓reduceIte, Nat.reduceAdd, Nat.reduceMul, Nat.reduceLeDiff, reduceCtorEq, slen, i4, ge0, decide_true, Int.toNat_natCast, Nat.mul_one, rk, hb1, hb2, bne_self_eq_false, hw]
      · have hb2 : (ks[i] == -1) = false := beq_eq_false_iff_ne.2 hk1
        simp -implicitDefEqProofs only [rnd, l154_0, VMs, noRef, noRef1, isRef, List.all_cons, List.all_nil, vop, VOp.still, VOp.app, VOp.plain, allP, lof, evs, start, asI, vbin, vcells, ntup, setAll, vfill, vress, vres, tup, Nat.reduceEqDiff, ↓reduceIte, Nat.reduceAdd, Nat.reduceMul, Nat.reduceLeDiff, reduceCtorEq, slen, i4, ge0, decide_true, Int.toNat_natCast, Nat.mul_one, rk, hb1, hb2, bne_self_eq_false, hw]
    · have hSi : S[i] = ks[i] := by
        simp only [hS, List.getElem_set]
        rw [if_neg (fun e => hip e.symm)]
      have hb1 : ((i : Int) == (p : Int)) = false := by rw [beq_eq_false_iff_ne]; omega
      rw [hSi] at kS next stop
      rcases kS with hk | ⟨j, hk, kb, kn⟩
      · rw [hk] at rk
        have hb2 : ((-1 : Int) == -1) = true := rfl
        refine Or.inl ⟨_, H1, ?_, next (by rw [hk]; exact moreK_m _ _ (by omega)) m1 rfl Fr.refl⟩
        simp -implicitDefEqProofs only [rnd, l154_0, VMs, noRef, noRef1, isRef, List.all_cons, List.all_nil, vop, VOp.still, VOp.app, VOp.plain, allP, lof, evs, start, asI, vbin, vcells, ntup, setAll, vfill, vress, vres, tup, Nat.reduceEqDiff, ↓reduceIte, Nat.reduceAdd, Nat.reduceMul, Nat.reduceLeDiff, reduceCtorEq, slen, i4, ge0, decide_true, Int.toNat_natCast, Nat.mul_one, rk, hb1, hb2, bne_self_eq_false, hw]
      · rw [hk] at rk next stop
        have hb2 : ((j : Int) == -1) = false := by rw [beq_eq_false_iff_ne]; omega
        cases leaf with
        | true =>
          obtain ⟨hj, hr⟩ := kb rfl
          have hjB : j < B1.length := hj
          have hr1 : 1 ≤ B1[j].r := hr.1
          have hr2 : B1[j].r ≤ 200 := hr.2
          have gb := m1.pf.b
          have hmk : moreK true (foP ps1 B1) (j : Int) = if 200 ≤ B1[j].r then none else some ⟨(foP ps1 B1).n, B1.set j ⟨B1[j].r + 1, B1[j].d⟩⟩ := moreK_b hj
          obtain ⟨s1, s2⟩ := share_c (d + 1) lo L H1 m1 hL hjB ⟨hr1, hr2⟩
          by_cases h200 : 200 ≤ B1[j].r
          · rw [if_pos h200] at hmk
            have c1 := s1 h200
            refine Or.inr ⟨_, ?_, ?_, stop hmk Fr.refl⟩
            · simp -implicitDefEqProofs only [rnd, l154_0, VMs, noRef, noRef1, isRef, List.all_cons, List.all_nil, vop, VOp.still, VOp.app, VOp.plain, allP, lof, evs, start, asI, vbin, vcells, ntup, setAll, vfill, vress, vres, tup, Nat.reduceEqDiff, ↓reduceIte, Nat.reduceAdd, Nat.reduceMul, Nat.reduceLeDiff, reduceCtorEq, slen, i4, ge0, decide_true, Int.toNat_natCast, Nat.mul_one, rk, hb1, hb2, gb, c1, z20]
            · simp
          · rw [if_neg h200] at hmk
            obtain ⟨H2, c1, m2, f2⟩ := s2 h200
            refine Or.inl ⟨_, H2, ?_, next hmk m2 rfl (FP.b f2)⟩
            simp -implicitDefEqProofs only [rnd, l154_0, VMs, noRef, noRef1, isRef, List.all_cons, List.all_nil, vop, VOp.still, VOp.app, VOp.plain, allP, lof, evs, start, asI, vbin, vcells, ntup, setAll, vfill, vress, vres, tup, Nat.reduceEqDiff, ↓reduceIte, Nat.reduceAdd, Nat.reduceMul, Nat.reduceLeDiff, reduceCtorEq, slen, i4, ge0, decide_true, Int.toNat_natCast, Nat.mul_one, rk, hb1, hb2, gb, c1, bne_self_eq_false, hw]
        | false =>
          obtain ⟨hj, hr⟩ := kn rfl
          obtain ⟨adj, hpj⟩ := foP_at hj
          have hmk := moreK_n hj
          obtain ⟨s1, s2⟩ := more_c (d + 1) lo L H1 m1 hL hpj (by omega)
          by_cases h200 : 200 ≤ (foP ps1 B1).n[j].r
          · rw [if_pos h200] at hmk
            have c1 := s1 (by omega)
            refine Or.inr ⟨_, ?_, ?_, stop hmk Fr.refl⟩
            · simp -implicitDefEqProofs only [rnd, l154_0, VMs, noRef, noRef1, isRef, List.all_cons, List.all_nil, vop, VOp.still, VOp.app, VOp.plain, allP, lof, evs, start, asI, vbin, vcells, ntup, setAll, vfill, vress, vres, tup, Nat.reduceEqDiff, ↓reduceIte, Nat.reduceAdd, Nat.reduceMul, Nat.reduceLeDiff, reduceCtorEq, slen, i4, ge0, decide_true, Int.toNat_natCast, Nat.mul_one, rk, hb1, hb2, c1, z20]
            · simp
          · rw [if_neg h200] at hmk
            obtain ⟨H2, c1, m2, f2, _⟩ := s2 (by omega)
            refine Or.inl ⟨_, H2, ?_, next hmk m2 (foP_set1 _ _ _ _ _) (FP.a f2)⟩
            simp -implicitDefEqProofs only [rnd, l154_0, VMs, noRef, noRef1, isRef, List.all_cons, List.all_nil, vop, VOp.still, VOp.app, VOp.plain, allP, lof, evs, start, asI, vbin, vcells, ntup, setAll, vfill, vress, vres, tup, Nat.reduceEqDiff, ↓reduceIte, Nat.reduceAdd, Nat.reduceMul, Nat.reduceLeDiff, reduceCtorEq, slen, i4, ge0, decide_true, Int.toNat_natCast, Nat.mul_one, rk, hb1, hb2, c1, bne_self_eq_false, hw]
  · rintro ts H1 ⟨ps1, B1, rfl, m1, e1, f1, _⟩
    rw [← hSl, List.take_length] at e1
    have h44 : decide (((4 : Nat) : Int) < ((4 : Nat) : Int)) = false := rfl
    exact ⟨(.exit 0, [(10, .int .i64 m)], H1), by simp -implicitDefEqProofs only [rnd, l154_0, VMs, noRef, noRef1, isRef, List.all_cons, List.all_nil, vop, VOp.still, VOp.app, VOp.plain, allP, lof, evs, start, asI, vbin, vcells, ntup, setAll, vfill, vress, vres, tup, Nat.reduceEqDiff, ↓reduceIte, Nat.reduceAdd, Nat.reduceMul, Nat.reduceLeDiff, reduceCtorEq, h44], by simp, H1, f1, Or.inr ⟨ps1, B1, e1, m1, rfl⟩⟩
  · exact ⟨ps, B, rfl, h, by rw [List.take_zero, moreAll_nil], Fr.refl, by rw [List.drop_zero]; exact hK⟩
end Go.Proofs.Ytmcljallamhccaa.V
