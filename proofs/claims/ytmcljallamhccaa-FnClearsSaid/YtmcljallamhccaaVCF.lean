/- What is put behind a slice of own memory. -/
import Derived.Test.YtmcljallamhccaaVCE
namespace Go.Proofs.Ytmcljallamhccaa.V
open Go
set_option linter.unusedVariables false
set_option linter.unusedSimpArgs false
set_option maxRecDepth 100000
/-- Old memory stays, though a new block dies. -/
theorem Fn.kill {H H1 : Hp} (hf : Fn H H1) {i : Nat} (hi : H.length ≤ i) (l : List (Option Blk)) : Fn H (H1.set i none ++ l) := by
  have key : ∀ j, j < H.length → Hp.blk (H1.set i none ++ l) j = H1.blk j := fun j hj => by
    have := hf.len
    unfold Hp.blk
    rw [List.getElem?_append_left (by simp; omega), List.getElem?_set, if_neg (by omega)]
  refine ⟨by have := hf.len; simp; omega, fun j hj _ => (key j hj).trans (hf.blk j hj id), fun lo j ⟨h1, b, h2, h3⟩ => ⟨h1, b, ?_, h3⟩⟩
  rw [key j (blk_lt h2), hf.blk j (blk_lt h2) id]; exact h2
theorem app_own {st by_ lo : Nat} {H : Hp} {i n m : Nat} {L M : List Value} {k0 : Bool} {y : Value} (hb : H.blk i = some ⟨L, true, k0⟩) (hL : L.length = n * st) (h0 : n = 0 → k0 = true) (hlo : lo ≤ i) (hm : slen y = some m) (hM : scells H st y = some M) (hm0 : 0 < m) (hfit : fits (n + m) by_ = true) :
    ∃ H', vappend st by_ lo H (.slice (some ⟨i, 0, none⟩) n st) y = some (.slice (some ⟨H.length, 0, none⟩) (n + m) st, H') ∧ H'.blk H.length = some ⟨L ++ M, true, false⟩ ∧ H'.length = H.length + 1 ∧ (∀ H0 : Hp, Fn H0 H → H0.length ≤ i → Fn H0 H') ∧ ∀ j, j ≠ i → j < H.length → H'.blk j = H.blk j := by
  have hi := blk_lt hb
  have happ : Blk.app ⟨L, true, k0⟩ n = true := by
    unfold Blk.app
    by_cases hn : n = 0
    · rw [if_pos hn]; exact h0 hn
    · rw [if_neg hn]
  by_cases hn : n = 0
  · subst hn
    have hL0 : L = [] := List.length_eq_zero_iff.1 (by rw [hL, Nat.zero_mul])
    subst hL0
    refine ⟨H ++ [some ⟨M, true, false⟩], ?_, by rw [blk0]; rfl, by simp, fun H0 hf _ => hf.trans Fr.app, fun j _ hj => blk_old hj⟩
    simp only [vappend, hm, hM, Option.bind_some, hb]
    rw [if_pos ⟨trivial, trivial, trivial, by simp, happ, hfit⟩, if_neg (by omega), if_true, Nat.zero_add]
  · refine ⟨H.set i none ++ [some ⟨L ++ M, true, false⟩], ?_, ?_, by simp, fun H0 hf h => Fn.kill hf h _, fun j hj hjl => ?_⟩
    · simp only [vappend, hm, hM, Option.bind_some, hb]
      rw [if_pos ⟨trivial, trivial, trivial, hL, happ, hfit⟩, if_neg (by omega), if_neg hn, if_pos hlo]
    · unfold Hp.blk
      rw [List.getElem?_append_right (by simp)]; simp
    · unfold Hp.blk
      rw [List.getElem?_append_left (by simp; exact hjl), List.getElem?_set, if_neg (fun e => hj e.symm)]

theorem fits_small {n b : Nat} (h : n ≤ 1000 ∧ b ≤ 40) : fits n b = true := by
  have h1 : (n + n / 4 + 192) * b ≤ 1442 * 40 := Nat.mul_le_mul (by omega) h.2
  unfold fits maxLen
  rw [Bool.and_eq_true, decide_eq_true_eq, decide_eq_true_eq]
  exact ⟨Nat.le_trans h.1 (by decide), Nat.le_trans h1 (by decide)⟩
/-! ### The walk over a tree -/
def walkF (F : Fo) (root : Int) (p : Nat) : List Int := if blkOf F root p = -1 then [] else [(p : Int), ((F.b[(blkOf F root p).toNat]?).map Bk.d).getD 0]
def walkL (F : Fo) (root : Int) (n : Nat) : List Int := (List.range n).flatMap (walkF F root)
theorem walkL_succ (F : Fo) (root : Int) (n : Nat) : walkL F root (n + 1) = walkL F root n ++ walkF F root n := by
  simp only [walkL, List.range_succ, List.flatMap_append, List.flatMap_cons, List.flatMap_nil, List.append_nil]
theorem walkL_len (F : Fo) (root : Int) : ∀ n, (walkL F root n).length ≤ 2 * n
  | 0 => by simp [walkL]
  | n + 1 => by
    rw [walkL_succ, List.length_append]
    have h1 := walkL_len F root n
    have h2 : (walkF F root n).length ≤ 2 := by unfold walkF; split <;> simp
    omega
theorem vI_app (a b : List Int) : vI a ++ vI b = vI (a ++ b) := by simp [vI]
theorem vI_len (a : List Int) : (vI a).length = a.length := by simp [vI]
/-- Numbers in own memory. -/
structure NI (lo : Nat) (H : Hp) (i : Nat) (l : List Int) : Prop where
  b : ∃ k0, H.blk i = some ⟨vI l, true, k0⟩ ∧ (l = [] → k0 = true)
  lo : lo ≤ i

theorem l4Walk_c (d lo : Nat) (H : Hp) {q o an nn ab nb F} (h : PF H q o an nn ab nb F) (g : Good F) (root : Int) (hr : rootB F root = true) :
    ∃ i H', vcall env (d + 3) 117 [.pointer (some ⟨q, o, none⟩), .int .i64 root] lo H = some (.slice (some ⟨i, 0, none⟩) (walkL F root 16).length 1, H') ∧ Fn H H' ∧ NI H.length H' i (walkL F root 16) := by
  have hloop : ∃ r, lim (rnd (vcall env (d + 2)) H.length [0, 1, 5, 6] [4, 5] l117_0) [(0, .pointer (some ⟨q, o, none⟩)), (1, .int .i64 root), (5, .slice (some ⟨H.length, 0, none⟩) 0 1), (6, .int .i64 0)] (H ++ [some ⟨[], true, true⟩]) = some r ∧ ∃ i H', r = (.exit 0, [(5, .slice (some ⟨i, 0, none⟩) (walkL F root 16).length 1)], H') ∧ Fn H H' ∧ NI H.length H' i (walkL F root 16) := by
    refine lim_inv (fun p ts H1 => ∃ i, ts = [(0, .pointer (some ⟨q, o, none⟩)), (1, .int .i64 root), (5, .slice (some ⟨i, 0, none⟩) (walkL F root p).length 1), (6, .int .i64 (p : Nat))] ∧ Fn H H1 ∧ NI H.length H1 i (walkL F root p)) 16 ?_ ?_ ?_
    · rintro p ts H1 hp ⟨i, rfl, hf, ⟨k0, hb, hk0⟩, hlo⟩
      have hp16 : ((p : Int) < 16) = True := eq_true (by omega)
      have hw : IntKind.i64.wrap ((p : Int) + 1) = ((p + 1 : Nat) : Int) := by rw [wr (by omega) (by omega)]; rfl
      have h1 := h.fn hf
      have c := l4Block_c d H.length H1 h1 g root hr p (by omega)
      have hlen := walkL_len F root p
      rcases blk_at (blkOf_ok g hr (by omega : p ≤ 15)) with hbk | ⟨j, hj, hbk, _⟩
      · have hs : walkL F root (p + 1) = walkL F root p := by rw [walkL_succ]; unfold walkF; rw [if_pos hbk, List.append_nil]
        have hd : decide ((-1 : Int) ≥ 0) = false := rfl
        rw [hbk] at c
        exact ⟨[(0, .pointer (some ⟨q, o, none⟩)), (1, .int .i64 root), (5, .slice (some ⟨i, 0, none⟩) (walkL F root p).length 1), (6, .int .i64 ((p + 1 : Nat) : Int))], H1, by simp -implicitDefEqProofs only [rnd, l117_0, VMs, noRef, noRef1, isRef, List.all_cons, List.all_nil, vop, VOp.still, VOp.app, VOp.plain, allP, lof, evs, start, asI, vbin, vcells, ntup, setAll, vfill, vress, vres, tup, Nat.reduceEqDiff, ↓reduceIte, Nat.reduceAdd, Nat.reduceMul, Nat.reduceLeDiff, reduceCtorEq, hp16, decide_true, c, hd, hw], i, by rw [hs], hf, by rw [hs]; exact ⟨⟨k0, hb, hk0⟩, hlo⟩⟩
      · have hs : walkL F root (p + 1) = walkL F root p ++ [(p : Int), F.b[j].d] := by
          rw [walkL_succ]; unfold walkF
          have hne : ¬ (j : Int) = -1 := by omega
          rw [hbk, if_neg hne]
          simp only [Int.toNat_natCast, getE hj, Option.map_some, Option.getD_some]
        have hd : decide ((j : Int) ≥ 0) = true := decide_eq_true (by omega)
        have hjn : j < nb := by rw [h.f.b.1]; exact hj
        rw [hbk] at c
        have g1b := h1.b
        obtain ⟨p0, po, rfl, e1, e2⟩ := h1.f.b.at hj
        simp only [sgs] at g1b
        generalize F.b[j].d = dd at *
        obtain ⟨H3, ha, hb3, hl3, hf3, _⟩ := app_own (st := 1) (by_ := 8) (lo := H.length) (H := H1 ++ [some ⟨[.int .i64 (p : Int), .int .i64 dd], true, false⟩]) (i := i) (n := (walkL F root p).length) (m := 2) (M := [.int .i64 (p : Int), .int .i64 dd]) (y := .slice (some ⟨H1.length, 0, none⟩) 2 1) (blk_keep hb) (by rw [vI_len, Nat.mul_one]) (fun h0 => hk0 (List.length_eq_zero_iff.1 h0)) hlo rfl (by simp [scells, rdN0]) (by omega) (fits_small (by omega))
        simp only [List.length_append, List.length_cons, List.length_nil, Nat.zero_add] at ha hb3 hl3
        refine ⟨[(0, .pointer (some ⟨q, o, none⟩)), (1, .int .i64 root), (5, .slice (some ⟨H1.length + 1, 0, none⟩) ((walkL F root p).length + 2) 1), (6, .int .i64 ((p + 1 : Nat) : Int))], H3, ?_, H1.length + 1, ?_, hf3 H (hf.trans Fr.app) hlo, ⟨⟨false, ?_, fun e => ?_⟩, by have := hf.len; omega⟩⟩
        · simp -implicitDefEqProofs only [rnd, l117_0, VMs, noRef, noRef1, isRef, List.all_cons, List.all_nil, vop, VOp.still, VOp.app, VOp.plain, allP, lof, evs, start, asI, vbin, vcells, ntup, setAll, vfill, vress, vres, tup, Nat.reduceEqDiff, ↓reduceIte, Nat.reduceAdd, Nat.reduceMul, Nat.reduceLeDiff, reduceCtorEq, hp16, decide_true, c, hd, g1b, slen, ltc hjn, ge0, Int.toNat_natCast, e2, Nat.reduceBEq, ha, hw]
        · rw [hs, List.length_append]; rfl
        · rw [hs, ← vI_app]; exact hb3
        · rw [hs] at e; simp at e
    · rintro ts H1 ⟨i, rfl, hf, hni⟩
      have h16 : (((16 : Nat) : Int) < 16) = False := eq_false (by omega)
      exact ⟨(.exit 0, [(5, .slice (some ⟨i, 0, none⟩) (walkL F root 16).length 1)], H1), by simp -implicitDefEqProofs only [rnd, l117_0, VMs, noRef, noRef1, isRef, List.all_cons, List.all_nil, vop, VOp.still, VOp.app, VOp.plain, allP, lof, evs, start, asI, vbin, vcells, ntup, setAll, vfill, vress, vres, tup, Nat.reduceEqDiff, ↓reduceIte, Nat.reduceAdd, Nat.reduceMul, Nat.reduceLeDiff, reduceCtorEq, h16, decide_false], by simp, i, H1, rfl, hf, hni⟩
    · exact ⟨H.length, rfl, Fr.app, ⟨true, by rw [blk0]; rfl, fun _ => rfl⟩, Nat.le_refl _⟩
  obtain ⟨_, hl, i, H', rfl, h1, h2⟩ := hloop
  refine ⟨i, H', ?_, h1, h2⟩
  rw [call_eq find117 _ _ _ rfl]
  simp -implicitDefEqProofs only [v117, VMs, noRef, noRef1, isRef, List.all_cons, List.all_nil, vop, VOp.still, VOp.app, VOp.plain, allP, lof, evs, start, asI, vbin, vcells, ntup, setAll, vfill, vress, vres, tup, Nat.reduceEqDiff, ↓reduceIte, Nat.reduceAdd, Nat.reduceMul, Nat.reduceLeDiff, reduceCtorEq, beq_self_eq_true, vlp, hl]
theorem walk_c (d lo : Nat) (H : Hp) {q o an nn ab nb F} (h : PF H q o an nn ab nb F) (g : Good F) (root : Int) (hr : rootB F root = true) :
    ∃ i H', vcall env (d + 3) 118 [.pointer (some ⟨q, o, none⟩), .int .i64 root] lo H = some (.slice (some ⟨i, 0, none⟩) (walkL F root 16).length 1, H') ∧ Fn H H' ∧ NI H.length H' i (walkL F root 16) := by
  have hloop : ∃ r, lim (rnd (vcall env (d + 2)) H.length [0, 1, 5, 9] [4, 5] l118_0) [(0, .pointer (some ⟨q, o, none⟩)), (1, .int .i64 root), (5, .slice (some ⟨H.length, 0, none⟩) 0 1), (9, .int .i64 0)] (H ++ [some ⟨[], true, true⟩]) = some r ∧ ∃ i H', r = (.exit 0, [(5, .slice (some ⟨i, 0, none⟩) (walkL F root 16).length 1)], H') ∧ Fn H H' ∧ NI H.length H' i (walkL F root 16) := by
    refine lim_inv (fun p ts H1 => ∃ i, ts = [(0, .pointer (some ⟨q, o, none⟩)), (1, .int .i64 root), (5, .slice (some ⟨i, 0, none⟩) (walkL F root p).length 1), (9, .int .i64 (p : Nat))] ∧ Fn H H1 ∧ NI H.length H1 i (walkL F root p)) 16 ?_ ?_ ?_
    · rintro p ts H1 hp ⟨i, rfl, hf, ⟨k0, hb, hk0⟩, hlo⟩
      have hp16 : ((p : Int) < 16) = True := eq_true (by omega)
      have hw : IntKind.i64.wrap ((p : Int) + 1) = ((p + 1 : Nat) : Int) := by rw [wr (by omega) (by omega)]; rfl
      have h1 := h.fn hf
      have c := block_c d H.length H1 h1 g root hr p (by omega)
      have hlen := walkL_len F root p
      rcases blk_at (blkOf_ok g hr (by omega : p ≤ 15)) with hbk | ⟨j, hj, hbk, _⟩
      · have hs : walkL F root (p + 1) = walkL F root p := by rw [walkL_succ]; unfold walkF; rw [if_pos hbk, List.append_nil]
        have hd : ((-1 : Int) != -1) = false := rfl
        rw [hbk] at c
        exact ⟨[(0, .pointer (some ⟨q, o, none⟩)), (1, .int .i64 root), (5, .slice (some ⟨i, 0, none⟩) (walkL F root p).length 1), (9, .int .i64 ((p + 1 : Nat) : Int))], H1, by simp -implicitDefEqProofs only [rnd, l118_0, VMs, noRef, noRef1, isRef, List.all_cons, List.all_nil, vop, VOp.still, VOp.app, VOp.plain, allP, lof, evs, start, asI, vbin, vcells, ntup, setAll, vfill, vress, vres, tup, Nat.reduceEqDiff, ↓reduceIte, Nat.reduceAdd, Nat.reduceMul, Nat.reduceLeDiff, reduceCtorEq, hp16, decide_true, c, hd, hw], i, by rw [hs], hf, by rw [hs]; exact ⟨⟨k0, hb, hk0⟩, hlo⟩⟩
      · have hs : walkL F root (p + 1) = walkL F root p ++ [(p : Int), F.b[j].d] := by
          rw [walkL_succ]; unfold walkF
          have hne : ¬ (j : Int) = -1 := by omega
          rw [hbk, if_neg hne]
          simp only [Int.toNat_natCast, getE hj, Option.map_some, Option.getD_some]
        have hd : ((j : Int) != -1) = true := by rw [bne_iff_ne]; omega
        have hjn : j < nb := by rw [h.f.b.1]; exact hj
        rw [hbk] at c
        have g1b := h1.b
        obtain ⟨p0, po, rfl, e1, e2⟩ := h1.f.b.at hj
        simp only [sgs] at g1b
        generalize F.b[j].d = dd at *
        obtain ⟨H3, ha, hb3, hl3, hf3, _⟩ := app_own (st := 1) (by_ := 8) (lo := H.length) (H := H1 ++ [some ⟨[.int .i64 (p : Int), .int .i64 dd], true, false⟩]) (i := i) (n := (walkL F root p).length) (m := 2) (M := [.int .i64 (p : Int), .int .i64 dd]) (y := .slice (some ⟨H1.length, 0, none⟩) 2 1) (blk_keep hb) (by rw [vI_len, Nat.mul_one]) (fun h0 => hk0 (List.length_eq_zero_iff.1 h0)) hlo rfl (by simp [scells, rdN0]) (by omega) (fits_small (by omega))
        simp only [List.length_append, List.length_cons, List.length_nil, Nat.zero_add] at ha hb3 hl3
        refine ⟨[(0, .pointer (some ⟨q, o, none⟩)), (1, .int .i64 root), (5, .slice (some ⟨H1.length + 1, 0, none⟩) ((walkL F root p).length + 2) 1), (9, .int .i64 ((p + 1 : Nat) : Int))], H3, ?_, H1.length + 1, ?_, hf3 H (hf.trans Fr.app) hlo, ⟨⟨false, ?_, fun e => ?_⟩, by have := hf.len; omega⟩⟩
        · simp -implicitDefEqProofs only [rnd, l118_0, VMs, noRef, noRef1, isRef, List.all_cons, List.all_nil, vop, VOp.still, VOp.app, VOp.plain, allP, lof, evs, start, asI, vbin, vcells, ntup, setAll, vfill, vress, vres, tup, Nat.reduceEqDiff, ↓reduceIte, Nat.reduceAdd, Nat.reduceMul, Nat.reduceLeDiff, reduceCtorEq, hp16, decide_true, c, hd, g1b, slen, ltc hjn, ge0, Int.toNat_natCast, e2, Nat.reduceBEq, ha, hw]
        · rw [hs, List.length_append]; rfl
        · rw [hs, ← vI_app]; exact hb3
        · rw [hs] at e; simp at e
    · rintro ts H1 ⟨i, rfl, hf, hni⟩
      have h16 : (((16 : Nat) : Int) < 16) = False := eq_false (by omega)
      exact ⟨(.exit 0, [(5, .slice (some ⟨i, 0, none⟩) (walkL F root 16).length 1)], H1), by simp -implicitDefEqProofs only [rnd, l118_0, VMs, noRef, noRef1, isRef, List.all_cons, List.all_nil, vop, VOp.still, VOp.app, VOp.plain, allP, lof, evs, start, asI, vbin, vcells, ntup, setAll, vfill, vress, vres, tup, Nat.reduceEqDiff, ↓reduceIte, Nat.reduceAdd, Nat.reduceMul, Nat.reduceLeDiff, reduceCtorEq, h16, decide_false], by simp, i, H1, rfl, hf, hni⟩
    · exact ⟨H.length, rfl, Fr.app, ⟨true, by rw [blk0]; rfl, fun _ => rfl⟩, Nat.le_refl _⟩
  obtain ⟨_, hl, i, H', rfl, h1, h2⟩ := hloop
  refine ⟨i, H', ?_, h1, h2⟩
  rw [call_eq find118 _ _ _ rfl]
  simp -implicitDefEqProofs only [v118, VMs, noRef, noRef1, isRef, List.all_cons, List.all_nil, vop, VOp.still, VOp.app, VOp.plain, allP, lof, evs, start, asI, vbin, vcells, ntup, setAll, vfill, vress, vres, tup, Nat.reduceEqDiff, ↓reduceIte, Nat.reduceAdd, Nat.reduceMul, Nat.reduceLeDiff, reduceCtorEq, beq_self_eq_true, vlp, hl]
end Go.Proofs.Ytmcljallamhccaa.V
