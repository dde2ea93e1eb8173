/- Kids with another one; the first that is free: the reference's and the program's. -/
import Derived.Test.YtmcljallamhccaaVDI
import Derived.Test.YtmcljallamhccaaVDJ
namespace Go.Proofs.Ytmcljallamhccaa.V
open Go
set_option linter.unusedVariables false
set_option linter.unusedSimpArgs false
set_option maxRecDepth 100000
/-- Kids in a block of their own, of which no node knows. -/
structure KB (lo : Nat) (H : Hp) (q : Nat) (a b : Option Addr) (ps : List (Nd × Option Addr)) (N : Nat) (ks : List Int) : Prop where
  w : H.blk N = some ⟨vI ks, true, false⟩
  lo : lo ≤ N
  na : ¬ Ad a N
  nb : ¬ Ad b N
  nq : N ≠ q
  nk : ∀ (j : Nat) p, ps[j]? = some p → ¬ Ad p.2 N
theorem vI_at (ks : List Int) (j : Nat) : (vI ks)[j]? = (ks[j]?).map fun k => Value.int .i64 k := by simp [vI]
theorem repI {H : Hp} {N : Nat} {ks : List Int} {k0 : Bool} (h : H.blk N = some ⟨vI ks, true, k0⟩) : Rep EI 1 H (some ⟨N, 0, none⟩) ks.length ks :=
  ⟨rfl, fun _ => ⟨N, 0, rfl, fun j x hx => by simp only [EI, rd, h, Option.bind_some, Nat.zero_add, Nat.mul_one, vI_at, hx, Option.map_some]⟩⟩
theorem KB.rep {lo : Nat} {H : Hp} {q : Nat} {a b : Option Addr} {ps : List (Nd × Option Addr)} {N : Nat} {ks : List Int} (h : KB lo H q a b ps N ks) : Rep EI 1 H (some ⟨N, 0, none⟩) ks.length ks := repI h.w
theorem KB.wb {lo : Nat} {H : Hp} {q : Nat} {a b : Option Addr} {ps : List (Nd × Option Addr)} {N : Nat} {ks : List Int} (h : KB lo H q a b ps N ks) : WB lo H N := ⟨h.lo, _, h.w, rfl⟩
theorem MF.newK {lo : Nat} {H : Hp} {q : Nat} {a b : Option Addr} {ps : List (Nd × Option Addr)} {B : List Bk} (h : MF lo H q a b ps B) {H' : Hp} (hf : Fn H H') {N : Nat} (hN : H.length ≤ N) {ks : List Int} (hb : H'.blk N = some ⟨vI ks, true, false⟩) : KB lo H' q a b ps N ks := by
  have hq := blk_lt h.hd
  have hl := h.lq
  exact ⟨hb, by omega, fun hh => by have := (h.n.hd.lt hh).2; omega, fun hh => by have := (h.bl.lt hh).2; omega, by omega, fun j p hp hh => by have := (h.n.lt hp hh).2; omega⟩
theorem KB.fw {S : Nat → Prop} {lo : Nat} {H H' : Hp} {q : Nat} {a b : Option Addr} {ps : List (Nd × Option Addr)} {N : Nat} {ks : List Int} (h : KB lo H q a b ps N ks) (hf : Fw S H H') (hS : ¬ S N) : KB lo H' q a b ps N ks :=
  { h with w := (hf.blk N (blk_lt h.w) hS).trans h.w }
/-- A node's kids are others. -/
theorem MF.rekid {lo : Nat} {H : Hp} {q : Nat} {a b : Option Addr} {ps : List (Nd × Option Addr)} {B : List Bk} (h : MF lo H q a b ps B) {N : Nat} {ks : List Int} (hk : KB lo H q a b ps N ks) {j : Nat} {x : Nd} {ad : Option Addr} (hx : ps[j]? = some (x, ad)) :
    ∃ p H', a = some ⟨p, 0, none⟩ ∧ wrN lo H ⟨p, j * 3 + 2, none⟩ [.slice (some ⟨N, 0, none⟩) ks.length 1] = some H' ∧ MF lo H' q a b (ps.set j (⟨x.r, x.f, ks⟩, some ⟨N, 0, none⟩)) B ∧ Fr (Ad a) H H' ∧ H'.length = H.length := by
  obtain ⟨p, H', ha, w, m, f, l⟩ := h.node hx (o := 2) (vs := [.slice (some ⟨N, 0, none⟩) ks.length 1]) (by simp) (⟨x.r, x.f, ks⟩, some ⟨N, 0, none⟩) (by simp [vN, nV, setAll, sg]) hk.rep (fun A e => by
    cases e
    exact ⟨rfl, rfl, hk.wb, hk.na, hk.nb, hk.nq, fun i p hp _ A' hA' e' => hk.nk i p hp ⟨A'.off, by
      obtain ⟨u, v, _⟩ := (h.n.k i p hp).2 A' hA'
      rw [hA']; cases A'; simp only at u v e'; rw [u, v, e']⟩⟩)
  exact ⟨p, H', ha, w, m, f, l⟩
/-- A node is another. -/
theorem MF.renode {lo : Nat} {H : Hp} {q : Nat} {a b : Option Addr} {ps : List (Nd × Option Addr)} {B : List Bk} (h : MF lo H q a b ps B) {N : Nat} {ks : List Int} (hk : KB lo H q a b ps N ks) {j : Nat} {x : Nd × Option Addr} (hx : ps[j]? = some x) (r : Int) (fl : Bool) :
    ∃ p H', a = some ⟨p, 0, none⟩ ∧ wrN lo H ⟨p, j * 3, none⟩ [.int .i64 r, .bool fl, .slice (some ⟨N, 0, none⟩) ks.length 1] = some H' ∧ MF lo H' q a b (ps.set j (⟨r, fl, ks⟩, some ⟨N, 0, none⟩)) B ∧ Fr (Ad a) H H' ∧ H'.length = H.length := by
  obtain ⟨p, H', ha, w, m, f, l⟩ := h.node hx (o := 0) (vs := [.int .i64 r, .bool fl, .slice (some ⟨N, 0, none⟩) ks.length 1]) (by simp) (⟨r, fl, ks⟩, some ⟨N, 0, none⟩) (by simp [vN, nV, setAll, sg]) hk.rep (fun A e => by
    cases e
    exact ⟨rfl, rfl, hk.wb, hk.na, hk.nb, hk.nq, fun i p hp _ A' hA' e' => hk.nk i p hp ⟨A'.off, by
      obtain ⟨u, v, _⟩ := (h.n.k i p hp).2 A' hA'
      rw [hA']; cases A'; simp only at u v e'; rw [u, v, e']⟩⟩)
  exact ⟨p, H', ha, w, m, f, l⟩
theorem vappend_lo {st by_ lo L0 : Nat} {H : Hp} {x y : Value} {r : Value × Hp} (hl : lo ≤ L0) (h : vappend st by_ L0 H x y = some r) : vappend st by_ lo H x y = some r := by
  unfold vappend at h ⊢
  simp only [Option.bind_eq_some_iff] at h ⊢
  obtain ⟨m, hm, new, hn, h⟩ := h
  refine ⟨m, hm, new, hn, ?_⟩
  cases x <;> try exact h
  rename_i xa xn xs
  cases xa <;> try exact h
  rename_i A
  simp only [Option.bind_eq_some_iff] at h ⊢
  obtain ⟨bb, hb, h⟩ := h
  refine ⟨bb, hb, ?_⟩
  split at h
  · rename_i hc
    rw [if_pos hc]
    split at h
    · rename_i hm0; rw [if_pos hm0]; exact h
    · rename_i hm0
      rw [if_neg hm0]
      split at h
      · rename_i hn0; rw [if_pos hn0]; exact h
      · rename_i hn0
        rw [if_neg hn0]
        split at h
        · rename_i hl'; rw [if_pos (by omega)]; exact h
        · cases h
  · cases h
/-- A node behind all others. -/
theorem MF.push {lo : Nat} {H : Hp} {q : Nat} {a b : Option Addr} {ps : List (Nd × Option Addr)} {B : List Bk} (h : MF lo H q a b ps B) {x : Nd} {c : Option Addr} {y : Value} (hr : Rep EI 1 H c x.k.length x.k)
    (hc : ∀ A, c = some A → A.spot = none ∧ A.off = 0 ∧ WB lo H A.block ∧ ¬ Ad a A.block ∧ ¬ Ad b A.block ∧ A.block ≠ q ∧ ∀ (j : Nat) p, ps[j]? = some p → ¬ Ad p.2 A.block)
    (hm : slen y = some 1) (hM : scells H 3 y = some (nV x c)) (hsz : ps.length < 999) :
    ∃ H1 H', vappend 3 40 lo H (.slice a ps.length (sg a 3)) y = some (.slice (some ⟨H.length, 0, none⟩) (ps.length + 1) 3, H1) ∧ wrN lo H1 ⟨q, 0, none⟩ [.slice (some ⟨H.length, 0, none⟩) (ps.length + 1) 3] = some H' ∧
      MF lo H' q (some ⟨H.length, 0, none⟩) b (ps ++ [(x, c)]) B ∧ Fw (fun i => i = q ∨ Ad a i) H H' ∧ H'.length = H.length + 1 := by
  have hq := blk_lt h.hd
  have hlq := h.lq
  obtain ⟨H1, ha, l1, c1, f1, b1⟩ := CP.app (lo := lo) (by_ := 40) h.n (x := x) (b := c) (y := y) hr (fun A e => by
    obtain ⟨g1, g2, g3, g4, g5, g6, g7⟩ := hc A e
    exact ⟨g1, g2, g3, fun o e' => g4 ⟨o, e'⟩, fun j p hp A' hA' e' => g7 j p hp ⟨A'.off, by
      obtain ⟨u, v, _⟩ := (h.n.k j p hp).2 A' hA'
      rw [hA']; cases A'; simp only at u v e'; rw [u, v, e']⟩⟩) hm hM (fits_small (by omega)) (by omega)
  have hq1 : H1.blk q = some ⟨[.slice a ps.length (sg a 3), .slice b B.length (sg b 2)], true, false⟩ := (b1 q (fun o e => h.qa ⟨o, e⟩) hq).trans h.hd
  have fw1 : Fw (Ad a) H H1 := ⟨by omega, fun i hi hS => b1 i (fun o e => hS ⟨o, e⟩) hi⟩
  have w2 := wr_at (lo := lo) (o := 0) hq1 hlq [.slice (some ⟨H.length, 0, none⟩) (ps.length + 1) 3] (by simp)
  have fr2 := Fr.setB hq1 [.slice (some ⟨H.length, 0, none⟩) (ps.length + 1) 3, .slice b B.length (sg b 2)]
  refine ⟨H1, _, ha, w2, ⟨?_, hlq, ?_, ?_, ?_, ?_, h.qb, fun j p hp i hi => ?_⟩, ?_, by rw [setB_len, l1]⟩
  · have : (blk_setB hq1 [.slice (some ⟨H.length, 0, none⟩) (ps.length + 1) 3, .slice b B.length (sg b 2)] (j := q)) = (blk_setB hq1 [.slice (some ⟨H.length, 0, none⟩) (ps.length + 1) 3, .slice b B.length (sg b 2)] (j := q)) := rfl
    simp only [setAll, List.set_cons_zero]
    rw [blk_setB hq1, if_pos rfl, List.length_append]; rfl
  · refine c1.fw fr2.w (fun i ⟨o, e⟩ e' => ?_) (fun j p hp i hi e' => ?_)
    · cases e; omega
    · rw [List.getElem?_append] at hp
      split at hp
      · exact (h.kb j p hp i hi).2 e'
      · have hpe : p = (x, c) := by
          have := List.mem_of_getElem? hp
          simpa using this
        subst hpe
        obtain ⟨o, e⟩ := hi
        obtain ⟨_, _, _, _, _, g6, _⟩ := hc _ e
        exact g6 e'
  · refine (h.bl.fw fw1 (fun i hi hh => h.ab i hh hi)).fw fr2.w (fun i hi e => h.qb (e ▸ hi))
  · rintro i ⟨o, e⟩ hb
    cases e
    have := (h.bl.lt hb).2; omega
  · rintro ⟨o, e⟩
    cases e; omega
  · rw [List.getElem?_append] at hp
    split at hp
    · exact h.kb j p hp i hi
    · have hpe : p = (x, c) := by
        have := List.mem_of_getElem? hp
        simpa using this
      subst hpe
      obtain ⟨o, e⟩ := hi
      obtain ⟨_, _, _, _, g5, g6, _⟩ := hc _ e
      exact ⟨g5, g6⟩
  · exact (fw1.mono fun i e => Or.inr e).trans (fr2.w.mono fun i e => Or.inl e)
/-! ### Kids with another one -/
theorem vI_len' (ks : List Int) : (vI ks).length = ks.length := by simp [vI]
theorem vI_set (ks : List Int) (i : Nat) (k : Int) : (vI ks).set i (.int .i64 k) = vI (ks.set i k) := by simp [vI, List.map_set]
/-- What there is after some rounds. -/
def stepK (ks : List Int) (i : Nat) : List Int := ks.take i ++ List.replicate (4 - i) (-1)
theorem stepK_len {ks : List Int} {i : Nat} (h : ks.length ≤ 4) (hi : i ≤ ks.length) : (stepK ks i).length = 4 := by simp [stepK]; omega
theorem stepK_set {ks : List Int} {i : Nat} (h : ks.length ≤ 4) (hi : i < ks.length) : (stepK ks i).set i ks[i] = stepK ks (i + 1) := by
  unfold stepK
  have hl : (ks.take i).length = i := by simp; omega
  rw [List.set_append_right _ _ (by omega), hl, Nat.sub_self, show 4 - i = (4 - (i + 1)) + 1 by omega, List.replicate_succ, List.set_cons_zero, List.take_succ_eq_append_getElem hi, List.append_assoc]
  rfl
theorem h40 : ((4 : Nat) == 0) = false := rfl
theorem l4With_c (d lo : Nat) (H : Hp) {ad : Option Addr} {ks : List Int} (hr : Rep EI 1 H ad ks.length ks) (h4 : ks = [] ∨ ks.length = 4) {p : Nat} (hp : p < 4) (k : Int) :
    vcall env (d + 1) 160 [.slice ad ks.length (sg ad 1), .int .i64 (p : Nat), .int .i64 k] lo H = some (.slice (some ⟨H.length, 0, none⟩) 4 1, H ++ [some ⟨vI (withK ks p k), true, false⟩]) := by
  have h4' : ks.length ≤ 4 := by rcases h4 with rfl | h <;> simp_all
  have hsm : Sm ks.length := by unfold Sm; omega
  have hl := lim_up (f := rnd (vcall env d) H.length [0, 1, 2, 7, 8] [1, 2, 6, 7] l160_0) (r := (.exit 0, [(1, .int .i64 (p : Nat)), (2, .int .i64 k), (7, .slice (some ⟨H.length, 0, none⟩) 4 1)], H ++ [some ⟨vI (stepK ks ks.length), true, false⟩])) (by simp) (fun i => [(0, .slice ad ks.length (sg ad 1)), (1, .int .i64 (p : Nat)), (2, .int .i64 k), (7, .slice (some ⟨H.length, 0, none⟩) 4 1), (8, .int .i64 (i : Nat))]) (fun i => H ++ [some ⟨vI (stepK ks i), true, false⟩]) ks.length
    (by simp -implicitDefEqProofs only [rnd, l160_0, VMs, noRef, noRef1, isRef, List.all_cons, List.all_nil, vop, VOp.still, VOp.app, VOp.plain, allP, lof, evs, start, asI, vbin, vcells, ntup, setAll, vfill, vress, vres, tup, Nat.reduceEqDiff, ↓reduceIte, Nat.reduceAdd, Nat.reduceMul, Nat.reduceLeDiff, reduceCtorEq, slen, Int.lt_irrefl, decide_false])
    (fun i hi => by
      obtain ⟨pk, ok, rfl, ek⟩ := hr.at hi
      simp only [EI, Nat.mul_one] at ek
      have ek' := rd_app (l := [some ⟨vI (stepK ks i), true, false⟩]) ek
      have hi4 : i < 4 := by omega
      have hw := hsm.w hi
      have hlen := stepK_len h4' (by omega : i ≤ ks.length)
      have hln : i + 1 ≤ (vI (stepK ks i)).length := by rw [vI_len', hlen]; omega
      have i4 : ((i : Int) < ((4 : Nat) : Int)) = True := ltc hi4
      simp -implicitDefEqProofs only [rnd, l160_0, VMs, noRef, noRef1, isRef, List.all_cons, List.all_nil, vop, VOp.still, VOp.app, VOp.plain, allP, lof, evs, start, asI, vbin, vcells, ntup, setAll, vfill, vress, vres, tup, Nat.reduceEqDiff, ↓reduceIte, Nat.reduceAdd, Nat.reduceMul, Nat.reduceLeDiff, reduceCtorEq, slen, ltc hi, i4, ge0, decide_true, Int.toNat_natCast, Nat.mul_one, ek', hln, setAll, vI_set, stepK_set h4' hi, hw])
  have h0 : stepK ks 0 = [-1, -1, -1, -1] := rfl
  have h1 : (stepK ks ks.length).set p k = withK ks p k := by
    unfold stepK withK
    rcases h4 with rfl | h
    · rfl
    · have : ks ≠ [] := by intro e; rw [e] at h; simp at h
      rw [if_neg this, List.take_length, h]; simp
  have hlen := stepK_len h4' (Nat.le_refl _)
  have hln : p + 1 ≤ (vI (stepK ks ks.length)).length := by rw [vI_len', hlen]; omega
  have p4 : ((p : Int) < ((4 : Nat) : Int)) = True := ltc hp
  rw [h0] at hl
  simp only [vI, List.map_cons, List.map_nil, Int.natCast_zero] at hl
  rw [call_eq find160 _ _ _ rfl]
  simp only [vI] at hln
  have hvs := vI_set (stepK ks ks.length) p k
  rw [h1] at hvs
  simp only [vI] at hvs
  simp -implicitDefEqProofs only [v160, VMs, noRef, noRef1, isRef, List.all_cons, List.all_nil, vop, VOp.still, VOp.app, VOp.plain, allP, lof, evs, start, asI, vbin, vcells, ntup, setAll, vfill, vress, vres, tup, Nat.reduceEqDiff, ↓reduceIte, Nat.reduceAdd, Nat.reduceMul, Nat.reduceLeDiff, reduceCtorEq, slen, vlp, vfill, ev, lk, setAll, ntup, vcells, hl, h40, p4, ge0, decide_true, Int.toNat_natCast, Nat.mul_one, hln, hvs, vI]
theorem l4None_c (d lo : Nat) (H : Hp) {ad : Option Addr} {n : Nat} {ks : List Int} (hr : Rep EI 1 H ad n ks) (hn : Sm n) (hk : ∀ k ∈ ks, k = -1 ∨ 0 ≤ k) :
    vcall env (d + 1) 161 [.slice ad n (sg ad 1)] lo H = some (.bool (noK ks), H) := by
  have n1 := hr.1
  have hq : (∀ i, i < n → ¬ ∃ k, ks[i]? = some k ∧ 0 ≤ k) ↔ noK ks = true := by
    constructor
    · intro h
      unfold noK
      simp only [Bool.not_eq_true', List.any_eq_false, bne_iff_ne]
      intro k hk'
      obtain ⟨i, hi, rfl⟩ := List.getElem_of_mem hk'
      have := h i (by omega)
      rcases hk _ (List.getElem_mem hi) with e | e
      · rw [e]; simp
      · exact absurd ⟨_, getE hi, e⟩ this
    · rintro h i hi ⟨k, hk1, hk2⟩
      have := noK_all h k (List.mem_of_getElem? hk1)
      omega
  have hl := lim_all (f := rnd (vcall env d) H.length [0, 3] [2] l161_0) (R := (.exit 0, [], H)) (E := (.ret, [(2, .bool false)], H)) (by simp) (by simp) (fun i => [(0, .slice ad n (sg ad 1)), (3, .int .i64 (i : Nat))]) H n (fun i => ¬ ∃ k, ks[i]? = some k ∧ 0 ≤ k)
    (by simp -implicitDefEqProofs only [rnd, l161_0, VMs, noRef, noRef1, isRef, List.all_cons, List.all_nil, vop, VOp.still, VOp.app, VOp.plain, allP, lof, evs, start, asI, vbin, vcells, ntup, setAll, vfill, vress, vres, tup, Nat.reduceEqDiff, ↓reduceIte, Nat.reduceAdd, Nat.reduceMul, Nat.reduceLeDiff, reduceCtorEq, slen, Int.lt_irrefl, decide_false])
    (fun i hi => by
      obtain ⟨pk, ok, rfl, ek⟩ := hr.at (j := i) (by omega)
      simp only [EI, Nat.mul_one] at ek
      have hw := hn.w hi
      have hik : i < ks.length := by omega
      by_cases h0 : 0 ≤ ks[i]
      · have hd : decide (ks[i] ≥ 0) = true := decide_eq_true h0
        rw [if_neg (by rw [Classical.not_not]; exact ⟨_, getE hik, h0⟩)]
        simp -implicitDefEqProofs only [rnd, l161_0, VMs, noRef, noRef1, isRef, List.all_cons, List.all_nil, vop, VOp.still, VOp.app, VOp.plain, allP, lof, evs, start, asI, vbin, vcells, ntup, setAll, vfill, vress, vres, tup, Nat.reduceEqDiff, ↓reduceIte, Nat.reduceAdd, Nat.reduceMul, Nat.reduceLeDiff, reduceCtorEq, slen, ltc hi, ge0, decide_true, Int.toNat_natCast, Nat.mul_one, ek, hd]
      · have hd : decide (ks[i] ≥ 0) = false := decide_eq_false h0
        rw [if_pos (by rintro ⟨k, e1, e2⟩; rw [getE hik] at e1; cases e1; exact h0 e2)]
        simp -implicitDefEqProofs only [rnd, l161_0, VMs, noRef, noRef1, isRef, List.all_cons, List.all_nil, vop, VOp.still, VOp.app, VOp.plain, allP, lof, evs, start, asI, vbin, vcells, ntup, setAll, vfill, vress, vres, tup, Nat.reduceEqDiff, ↓reduceIte, Nat.reduceAdd, Nat.reduceMul, Nat.reduceLeDiff, reduceCtorEq, slen, ltc hi, ge0, decide_true, Int.toNat_natCast, Nat.mul_one, ek, hd, hw]) hq
  simp only [Int.natCast_zero] at hl
  rw [call_eq find161 _ _ _ rfl]
  by_cases h : noK ks = true
  · rw [if_pos h] at hl
    rw [h]
    simp -implicitDefEqProofs only [v161, VMs, noRef, noRef1, isRef, List.all_cons, List.all_nil, vop, VOp.still, VOp.app, VOp.plain, allP, lof, evs, start, asI, vbin, vcells, ntup, setAll, vfill, vress, vres, tup, Nat.reduceEqDiff, ↓reduceIte, Nat.reduceAdd, Nat.reduceMul, Nat.reduceLeDiff, reduceCtorEq, slen, vlp, hl]
  · rw [if_neg h] at hl
    rw [eq_false_of_ne_true h]
    simp -implicitDefEqProofs only [v161, VMs, noRef, noRef1, isRef, List.all_cons, List.all_nil, vop, VOp.still, VOp.app, VOp.plain, allP, lof, evs, start, asI, vbin, vcells, ntup, setAll, vfill, vress, vres, tup, Nat.reduceEqDiff, ↓reduceIte, Nat.reduceAdd, Nat.reduceMul, Nat.reduceLeDiff, reduceCtorEq, slen, vlp, hl]
theorem kidsF_m (F : Fo) : kidsF F (-1) = [] := rfl
theorem kidsF_n {F : Fo} {j : Nat} (hj : j < F.n.length) : kidsF F (j : Int) = F.n[j].k := by
  unfold kidsF; rw [if_neg (by omega), Int.toNat_natCast, getE hj]; rfl
theorem Rep.exI {H : Hp} {a : Option Addr} {n : Nat} {l : List Int} (h : Rep EI 1 H a n l) (hl : 0 < l.length) : Ex H a := fun A e => by
  obtain ⟨i, o, rfl, e1⟩ := h.at hl
  cases e
  simp only [EI, rd] at e1
  cases hb : H.blk i with
  | none => rw [hb] at e1; cases e1
  | some b =>
    rw [hb, Option.bind_some] at e1
    have := (List.getElem?_eq_some_iff.1 e1).1
    exact ⟨rfl, b, rfl, by simp only; omega⟩
theorem kidsWith_c (d lo : Nat) (H : Hp) {q an nn ab nb F} (h : PF H q 0 an nn ab nb F) {n : Int} (hh : n = -1 ∨ ∃ (j : Nat) (hj : j < F.n.length), n = (j : Int) ∧ F.n[j].k.length = 4) {p : Nat} (hp : p < 4) (k : Int) :
    vcall env (d + 1) 153 [.pointer (some ⟨q, 0, none⟩), .int .i64 n, .int .i64 (p : Nat), .int .i64 k] lo H = some (.slice (some ⟨H.length, 0, none⟩) 4 1, H ++ [some ⟨vI (withK (kidsF F n) p k), true, false⟩]) := by
  have n1 := h.f.n.1
  have p4 : ((p : Int) < ((4 : Nat) : Int)) = True := ltc hp
  have hln : p + 1 ≤ 4 := by omega
  rw [call_eq find153 _ _ _ rfl]
  rcases hh with rfl | ⟨j, hj, rfl, hk4⟩
  · have h0 : ((-1 : Int) != -1) = false := rfl
    have hvs := vI_set [-1, -1, -1, -1] p k
    simp only [vI, List.map_cons, List.map_nil] at hvs
    simp -implicitDefEqProofs only [v153, VMs, noRef, noRef1, isRef, List.all_cons, List.all_nil, vop, VOp.still, VOp.app, VOp.plain, allP, lof, evs, start, asI, vbin, vcells, ntup, setAll, vfill, vress, vres, tup, Nat.reduceEqDiff, ↓reduceIte, Nat.reduceAdd, Nat.reduceMul, Nat.reduceLeDiff, reduceCtorEq, slen, vfill, ev, lk, setAll, ntup, vcells, h0, h40, p4, ge0, decide_true, Int.toNat_natCast, Nat.mul_one, hln, hvs, vI, kidsF_m, withK, if_true]
  · have h0 : ((j : Int) != -1) = true := by rw [bne_iff_ne]; omega
    have hjn : j < nn := by omega
    have h' := h.fn (Fr.app (H := H) (l := [some ⟨[.int .i64 (-1), .int .i64 (-1), .int .i64 (-1), .int .i64 (-1)], true, false⟩]))
    have hn := h'.n
    obtain ⟨p0, po, rfl, e1, e2, a3, n3, e3, e4⟩ := h'.f.n.at hj
    have hc := e4.cellsI (e4.exI (by omega))
    have n3' := e4.1
    rw [hk4] at n3'
    subst n3'
    have hne : F.n[j].k ≠ [] := by intro e; rw [e] at hk4; simp at hk4
    have hvl : (vI F.n[j].k).length = 4 := by rw [vI_len', hk4]
    have hvs := vI_set F.n[j].k p k
    have hsa := setAll_all (vI F.n[j].k) [.int .i64 (-1), .int .i64 (-1), .int .i64 (-1), .int .i64 (-1)] [] hvl.symm
    simp only [List.nil_append, List.length_nil] at hsa
    have hmin : (min 4 4 = 0) = False := by simp
    have htk : (vI F.n[j].k).take (min 4 4) = vI F.n[j].k := by rw [show min 4 4 = (vI F.n[j].k).length by rw [hvl]; rfl, List.take_length]
    simp -implicitDefEqProofs only [v153, VMs, noRef, noRef1, isRef, List.all_cons, List.all_nil, vop, VOp.still, VOp.app, VOp.plain, allP, lof, evs, start, asI, vbin, vcells, ntup, setAll, vfill, vress, vres, tup, Nat.reduceEqDiff, ↓reduceIte, Nat.reduceAdd, Nat.reduceMul, Nat.reduceLeDiff, reduceCtorEq, slen, vfill, ev, lk, setAll, ntup, vcells, h0, h40, hn, ltc hjn, e3, hc, hmin, htk, hsa, hvl, p4, ge0, decide_true, Int.toNat_natCast, Nat.mul_one, hln, hvs, kidsF_n hj, withK, if_neg hne]
end Go.Proofs.Ytmcljallamhccaa.V
