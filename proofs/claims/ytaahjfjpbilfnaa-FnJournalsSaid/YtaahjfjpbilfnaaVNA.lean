/- Lists of numbers, one behind the other. -/
import Derived.Test.YtaahjfjpbilfnaaVGF
namespace Go.Proofs.Ytaahjfjpbilfnaa.V
open Go
set_option linter.unusedVariables false
set_option linter.unusedSimpArgs false
set_option maxRecDepth 100000
theorem fits8 {n : Nat} (h : n ≤ 4194304) : fits n 8 = true := by
  unfold fits maxLen
  rw [Bool.and_eq_true, decide_eq_true_eq, decide_eq_true_eq]
  omega
theorem Rep.cells {H : Hp} {a : Option Addr} {n : Nat} {l : List Int} (h : Rep EI 1 H a n l) : scells H 1 (.slice a n (sg a 1)) = some (vI l) := by
  have hn := h.1
  subst hn
  by_cases h0 : l = []
  · subst h0; cases a <;> rfl
  obtain ⟨i, o, rfl, h2⟩ := h.2 h0
  have hl : 0 < l.length := List.length_pos_iff.2 h0
  rw [scells, if_neg (by omega)]
  simp only [sgs, if_true, Nat.mul_one]
  have hb : ∃ b, H.blk i = some b ∧ o ≤ b.cs.length := by
    have e := h2 (l.length - 1) _ (getE (by omega))
    simp only [EI, rd, Option.bind_eq_some_iff] at e
    obtain ⟨b, hb, hc⟩ := e
    have := (List.getElem?_eq_some_iff.1 hc).1
    exact ⟨b, hb, by omega⟩
  have := rdN_of (L := vI l) hb (fun j hj => by
    rw [vI_len] at hj
    have := h2 j _ (getE hj)
    simp only [EI, Nat.mul_one] at this
    rw [this, vI, List.getElem?_map, getE hj]; rfl)
  rwa [vI_len] at this
theorem zI_flat (n : Nat) : (List.replicate n [Value.int .i64 0]).flatten = vI (List.replicate n 0) := by
  induction n with
  | zero => rfl
  | succ n ih => simp only [List.replicate_succ, List.flatten_cons, ih, vI, List.map_cons, List.cons_append, List.nil_append]
/-- So many numbers, as memory has room for. -/
theorem app_room {lo : Nat} {H : Hp} {i r : Nat} {pre lb : List Int} {b : Option Addr} (hb : H.blk i = some ⟨vI (pre ++ List.replicate r 0), true, false⟩) (hlo : lo ≤ i) (hr : Rep EI 1 H b lb.length lb) (hle : lb.length ≤ r) (hp : 0 < pre.length + r) (hsm : pre.length + r ≤ 4194304) :
    ∃ i' H', vappend 1 8 lo H (.slice (some ⟨i, 0, none⟩) pre.length 1) (.slice b lb.length (sg b 1)) = some (.slice (some ⟨i', 0, none⟩) (pre ++ lb).length 1, H') ∧ H'.blk i' = some ⟨vI ((pre ++ lb) ++ List.replicate (r - lb.length) 0), true, false⟩ ∧ lo ≤ i' ∧ (∀ H0 : Hp, Fn H0 H → H0.length ≤ i → Fn H0 H') ∧ H.length ≤ H'.length ∧ ∀ j, j ≠ i → j < H.length → H'.blk j = H.blk j := by
  have hc := hr.cells
  have hcl : (vI (pre ++ List.replicate r 0)).length = pre.length + r := by rw [vI_len, List.length_append, List.length_replicate]
  by_cases h0 : lb = []
  · subst h0
    refine ⟨i, H, ?_, by rw [hb, List.append_nil, List.length_nil, Nat.sub_zero], hlo, fun _ h _ => h, Nat.le_refl _, fun _ _ _ => rfl⟩
    unfold vappend
    rw [List.append_nil]
    simp only [List.length_nil] at hc
    simp only [slen, List.length_nil, Option.bind_some, hc, hb]
    by_cases hr0 : r = 0
    · have hpn : pre.length ≠ 0 := by omega
      rw [if_pos ⟨trivial, trivial, trivial, by rw [hcl]; omega, by unfold Blk.app; rw [if_neg hpn], fits8 (by omega)⟩]
      simp only [if_true]
    · rw [if_neg (by rw [hcl]; omega), if_pos ⟨trivial, trivial, trivial, trivial, by rw [hcl]; omega, by rw [hcl]; omega, hlo⟩]
      simp only [if_true]
  · have hl : 0 < lb.length := List.length_pos_iff.2 h0
    refine ⟨H.length, H.set i none ++ [some ⟨(vI (pre ++ List.replicate r 0)).take (pre.length * 1) ++ vI lb ++ (vI (pre ++ List.replicate r 0)).drop ((pre.length + lb.length) * 1), true, false⟩], ?_, ?_, by have := blk_lt hb; omega, fun H0 hf h => Fn.kill hf h _, by simp, fun j hj hjl => by
      unfold Hp.blk
      rw [List.getElem?_append_left (by simp; exact hjl), List.getElem?_set, if_neg (fun e => hj e.symm)]⟩
    · unfold vappend
      simp only [slen, Option.bind_some, hc, hb]
      rw [if_neg (by rw [hcl]; omega), if_pos ⟨trivial, trivial, trivial, trivial, by rw [hcl]; omega, by rw [hcl]; omega, hlo⟩, if_neg (by omega), List.length_append]
    · have e : (vI (pre ++ List.replicate r 0)).take (pre.length * 1) ++ vI lb ++ (vI (pre ++ List.replicate r 0)).drop ((pre.length + lb.length) * 1) = vI ((pre ++ lb) ++ List.replicate (r - lb.length) 0) := by
        simp only [vI, Nat.mul_one, ← List.map_take, ← List.map_drop, ← List.map_append]
        congr 1
        rw [List.take_left, List.drop_append, List.drop_eq_nil_of_le (by omega : pre.length ≤ pre.length + lb.length), List.nil_append, List.drop_replicate, Nat.add_sub_cancel_left]
      unfold Hp.blk
      rw [List.getElem?_append_right (by simp), e]; simp
theorem grow_c (d lo : Nat) (H : Hp) {n : Nat} (hn : 0 < n) (hs : n ≤ 4194304) :
    vcall env (d + 1) 115 [.slice none 0 0, .int .i64 (n : Nat)] lo H = some (.slice (some ⟨H.length, 0, none⟩) 0 1, H ++ [some ⟨vI (List.replicate n 0), true, false⟩]) := by
  have h1 : decide ((n : Int) < 0) = false := decide_eq_false (by omega)
  have h2 : IntKind.i64.wrap 0 = 0 := wr (by omega) (by omega)
  have h3 : IntKind.i64.wrap (n : Int) = (n : Int) := wr (by omega) (by omega)
  have h4 : decide ((n : Int) > 0) = true := decide_eq_true (by omega)
  have h5 : (0 < (n : Int)) = True := eq_true (by omega)
  have h6 : (fits n 8 = true) = True := eq_true (fits8 hs)
  have h7 : (((0 : Int) ≤ 0) ∧ ((0 : Int) ≤ ((0 : Nat) : Int))) = True := eq_true (by omega)
  have h8 : (((0 : Int) ≤ 0) ∧ ((0 : Nat) : Int) ≤ ((n : Nat) : Int)) = True := eq_true (by omega)
  have h01 : ((0 : Nat) < 1) = True := eq_true (by omega)
  rw [call_eq find115 _ _ _ rfl]
  simp -implicitDefEqProofs only [v115, VMs, noRef, noRef1, isRef, List.all_cons, List.all_nil, vop, VOp.still, VOp.app, VOp.plain, allP, lof, evs, start, asI, vbin, vcells, ntup, setAll, vfill, vress, vres, tup, Nat.reduceEqDiff, ↓reduceIte, Nat.reduceAdd, Nat.reduceMul, Nat.reduceLeDiff, reduceCtorEq, slen, h1, h2, h3, h4, h7, h8, vslice, h5, h6, decide_true, Int.toNat_natCast, zI_flat, Int.toNat_zero, Int.sub_zero, Int.sub_self, Int.natCast_zero, Int.le_refl, ge0, h01]
/-- Two lists of numbers, one behind the other. -/
theorem concat_c (d lo : Nat) (H : Hp) {q : Nat} {a b : Option Addr} {la lb : List Int} (hq : H.blk q = some ⟨[.slice a la.length (sg a 1), .slice b lb.length (sg b 1)], true, false⟩) (ha : Rep EI 1 H a la.length la) (hb : Rep EI 1 H b lb.length lb) (h0 : 0 < la.length + lb.length) (hs : la.length + lb.length ≤ 4194304) :
    ∃ i H', vcall env (d + 2) 85 [.slice (some ⟨q, 0, none⟩) 2 1] lo H = some (.slice (some ⟨i, 0, none⟩) (la ++ lb).length 1, H') ∧ Fn H H' ∧ H.length ≤ i ∧ H'.blk i = some ⟨vI (la ++ lb), true, false⟩ := by
  have r0 : ∀ X, Fn H X → rd X ⟨q, 0, none⟩ = some (.slice a la.length (sg a 1)) := fun X f => by
    rw [f.rd q 0 (blk_lt hq) id]; simp [rd, hq]
  have r1 : ∀ X, Fn H X → rd X ⟨q, 1, none⟩ = some (.slice b lb.length (sg b 1)) := fun X f => by
    rw [f.rd q 1 (blk_lt hq) id]; simp [rd, hq]
  have d0 : decide (((0 : Nat) : Int) < ((2 : Nat) : Int)) = true := rfl
  have d1 : decide (((1 : Nat) : Int) < ((2 : Nat) : Int)) = true := rfl
  have d2 : decide (((2 : Nat) : Int) < ((2 : Nat) : Int)) = false := rfl
  have l0 : (((0 : Nat) : Int) < ((2 : Nat) : Int)) = True := eq_true (by omega)
  have l1 : (((1 : Nat) : Int) < ((2 : Nat) : Int)) = True := eq_true (by omega)
  have n0 : ((((0 : Nat) : Int) + ((la.length : Nat) : Int)) < 0) = False := eq_false (by omega)
  have n1 : ((((la.length : Nat) : Int) + ((lb.length : Nat) : Int)) < 0) = False := eq_false (by omega)
  have w0 : IntKind.i64.wrap (((0 : Nat) : Int) + ((la.length : Nat) : Int)) = ((la.length : Nat) : Int) := by rw [wr (by omega) (by omega)]; omega
  have w1 : IntKind.i64.wrap (((la.length : Nat) : Int) + ((lb.length : Nat) : Int)) = ((la.length + lb.length : Nat) : Int) := by rw [wr (by omega) (by omega)]; omega
  have j0 : IntKind.i64.wrap (((0 : Nat) : Int) + 1) = ((1 : Nat) : Int) := by rw [wr (by omega) (by omega)]; rfl
  have j1 : IntKind.i64.wrap (((1 : Nat) : Int) + 1) = ((2 : Nat) : Int) := by rw [wr (by omega) (by omega)]; rfl
  have g0 : decide (((la.length : Nat) : Int) < 0) = false := decide_eq_false (by omega)
  have g1 : decide (((la.length + lb.length : Nat) : Int) < 0) = false := decide_eq_false (by omega)
  have hr0 := r0 H Fr.refl
  have hr1 := r1 H Fr.refl
  -- the sum of the lengths
  have hl1 : ∃ r, lim (rnd (vcall env (d + 1)) H.length [0, 3, 9, 10, 11] [0, 2, 3] l85_0) [(0, .slice (some ⟨q, 0, none⟩) 2 1), (3, .int .i64 0), (9, .slice (some ⟨q, 0, none⟩) 2 1), (10, .int .i64 (2 : Nat)), (11, .int .i64 0)] H = some r ∧
      r = (.exit 0, [(0, .slice (some ⟨q, 0, none⟩) 2 1), (3, .int .i64 ((la.length + lb.length : Nat) : Int))], H) := by
    refine lim_inv (fun j ts X => X = H ∧ ts = [(0, .slice (some ⟨q, 0, none⟩) 2 1), (3, .int .i64 ((if j = 0 then 0 else if j = 1 then la.length else la.length + lb.length : Nat) : Int)), (9, .slice (some ⟨q, 0, none⟩) 2 1), (10, .int .i64 (2 : Nat)), (11, .int .i64 (j : Nat))]) 2 ?_ ?_ ?_
    · rintro j ts X hj ⟨rfl, rfl⟩
      refine ⟨_, X, ?_, rfl, rfl⟩
      rcases (by omega : j = 0 ∨ j = 1) with rfl | rfl
      · simp -implicitDefEqProofs only [rnd, l85_0, VMs, noRef, noRef1, isRef, List.all_cons, List.all_nil, vop, VOp.still, VOp.app, VOp.plain, allP, lof, evs, start, asI, vbin, vcells, ntup, setAll, vfill, vress, vres, tup, Nat.reduceEqDiff, ↓reduceIte, Nat.reduceAdd, Nat.reduceMul, Nat.reduceLeDiff, reduceCtorEq, d0, l0, decide_true, ge0, Int.toNat_natCast, hr0, slen, w0, g0, j0]
      · have e1 : ((1 : Nat) = 0) = False := eq_false (by omega)
        have e2 : ((2 : Nat) = 0) = False := eq_false (by omega)
        have e3 : ((2 : Nat) = 1) = False := eq_false (by omega)
        simp -implicitDefEqProofs only [rnd, l85_0, VMs, noRef, noRef1, isRef, List.all_cons, List.all_nil, vop, VOp.still, VOp.app, VOp.plain, allP, lof, evs, start, asI, vbin, vcells, ntup, setAll, vfill, vress, vres, tup, Nat.reduceEqDiff, ↓reduceIte, Nat.reduceAdd, Nat.reduceMul, Nat.reduceLeDiff, reduceCtorEq, e1, e2, e3, d1, l1, decide_true, ge0, Int.toNat_natCast, Nat.mul_one, hr1, slen, w1, g1, j1]
    · rintro ts X ⟨rfl, rfl⟩
      have e2 : ((2 : Nat) = 0) = False := eq_false (by omega)
      have e3 : ((2 : Nat) = 1) = False := eq_false (by omega)
      exact ⟨_, by simp -implicitDefEqProofs only [rnd, l85_0, VMs, noRef, noRef1, isRef, List.all_cons, List.all_nil, vop, VOp.still, VOp.app, VOp.plain, allP, lof, evs, start, asI, vbin, vcells, ntup, setAll, vfill, vress, vres, tup, Nat.reduceEqDiff, ↓reduceIte, Nat.reduceAdd, Nat.reduceMul, Nat.reduceLeDiff, reduceCtorEq, d2, e2, e3], by simp, rfl⟩
    · exact ⟨rfl, by simp⟩
  obtain ⟨_, hl1, rfl⟩ := hl1
  have c1 := grow_c d H.length H h0 hs
  obtain ⟨H1, hH1⟩ : ∃ H1 : Hp, H1 = H ++ [some ⟨vI (List.replicate (la.length + lb.length) 0), true, false⟩] := ⟨_, rfl⟩
  have f1 : Fn H H1 := hH1 ▸ Fr.app
  have b1 : H1.blk H.length = some ⟨vI ([] ++ List.replicate (la.length + lb.length) 0), true, false⟩ := by rw [hH1]; exact blk0
  obtain ⟨i2, H2, a2, b2, lo2, f2, len2, _⟩ := app_room (lo := H.length) (pre := []) b1 (Nat.le_refl _) (ha.fnI f1) (by omega) (by simpa using h0) (by simpa using hs)
  have F2 := f2 H f1 (Nat.le_refl _)
  rw [Nat.add_sub_cancel_left, List.nil_append] at b2
  obtain ⟨i3, H3, a3, b3, lo3, f3, len3, _⟩ := app_room (lo := H.length) (pre := la) b2 lo2 (hb.fnI F2) (Nat.le_refl _) h0 hs
  have F3 := f3 H F2 lo2
  rw [Nat.sub_self, List.replicate_zero, List.append_nil] at b3
  have hr0' := r0 H1 f1
  have hr1' := r1 H2 F2
  simp only [List.length_nil, List.nil_append] at a2
  have hl2 : ∃ r, lim (rnd (vcall env (d + 1)) H.length [6, 25, 26, 27] [2, 6] l85_1) [(6, .slice (some ⟨H.length, 0, none⟩) 0 1), (25, .slice (some ⟨q, 0, none⟩) 2 1), (26, .int .i64 (2 : Nat)), (27, .int .i64 0)] H1 = some r ∧
      r = (.exit 2, [(6, .slice (some ⟨i3, 0, none⟩) (la ++ lb).length 1)], H3) := by
    refine lim_inv (fun j ts X => X = (if j = 0 then H1 else if j = 1 then H2 else H3) ∧ ts = [(6, if j = 0 then .slice (some ⟨H.length, 0, none⟩) 0 1 else if j = 1 then .slice (some ⟨i2, 0, none⟩) la.length 1 else .slice (some ⟨i3, 0, none⟩) (la ++ lb).length 1), (25, .slice (some ⟨q, 0, none⟩) 2 1), (26, .int .i64 (2 : Nat)), (27, .int .i64 (j : Nat))]) 2 ?_ ?_ ?_
    · rintro j ts X hj ⟨rfl, rfl⟩
      refine ⟨_, _, ?_, rfl, rfl⟩
      rcases (by omega : j = 0 ∨ j = 1) with rfl | rfl
      · have e1 : ((1 : Nat) = 0) = False := eq_false (by omega)
        simp -implicitDefEqProofs only [rnd, l85_1, VMs, noRef, noRef1, isRef, List.all_cons, List.all_nil, vop, VOp.still, VOp.app, VOp.plain, allP, lof, evs, start, asI, vbin, vcells, ntup, setAll, vfill, vress, vres, tup, Nat.reduceEqDiff, ↓reduceIte, Nat.reduceAdd, Nat.reduceMul, Nat.reduceLeDiff, reduceCtorEq, Nat.zero_add, e1, d0, l0, decide_true, ge0, Int.toNat_natCast, hr0', a2, j0]
      · have e1 : ((1 : Nat) = 0) = False := eq_false (by omega)
        have e2 : ((2 : Nat) = 0) = False := eq_false (by omega)
        have e3 : ((2 : Nat) = 1) = False := eq_false (by omega)
        simp -implicitDefEqProofs only [rnd, l85_1, VMs, noRef, noRef1, isRef, List.all_cons, List.all_nil, vop, VOp.still, VOp.app, VOp.plain, allP, lof, evs, start, asI, vbin, vcells, ntup, setAll, vfill, vress, vres, tup, Nat.reduceEqDiff, ↓reduceIte, Nat.reduceAdd, Nat.reduceMul, Nat.reduceLeDiff, reduceCtorEq, Nat.reduceAdd, e1, e2, e3, d1, l1, decide_true, ge0, Int.toNat_natCast, Nat.mul_one, hr1', a3, j1]
    · rintro ts X ⟨rfl, rfl⟩
      have e2 : ((2 : Nat) = 0) = False := eq_false (by omega)
      have e3 : ((2 : Nat) = 1) = False := eq_false (by omega)
      exact ⟨_, by simp -implicitDefEqProofs only [rnd, l85_1, VMs, noRef, noRef1, isRef, List.all_cons, List.all_nil, vop, VOp.still, VOp.app, VOp.plain, allP, lof, evs, start, asI, vbin, vcells, ntup, setAll, vfill, vress, vres, tup, Nat.reduceEqDiff, ↓reduceIte, Nat.reduceAdd, Nat.reduceMul, Nat.reduceLeDiff, reduceCtorEq, d2, e2, e3], by simp, rfl⟩
    · exact ⟨by simp, by simp⟩
  obtain ⟨_, hl2, rfl⟩ := hl2
  refine ⟨i3, H3, ?_, F3, lo3, b3⟩
  subst hH1
  rw [call_eq find85 _ _ _ rfl]
  simp -implicitDefEqProofs only [v85, VMs, noRef, noRef1, isRef, List.all_cons, List.all_nil, vop, VOp.still, VOp.app, VOp.plain, allP, lof, evs, start, asI, vbin, vcells, ntup, setAll, vfill, vress, vres, tup, Nat.reduceEqDiff, ↓reduceIte, Nat.reduceAdd, Nat.reduceMul, Nat.reduceLeDiff, reduceCtorEq, slen, vlp, hl1, c1, hl2]
end Go.Proofs.Ytaahjfjpbilfnaa.V
