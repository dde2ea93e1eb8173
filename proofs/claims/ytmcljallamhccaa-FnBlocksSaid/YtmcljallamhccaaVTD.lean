/- Lists of blocks: one more refers, one less; how many are free; what is drawn. -/
import Derived.Test.YtmcljallamhccaaVTC
namespace Go.Proofs.Ytmcljallamhccaa.V
open Go
set_option linter.unusedVariables false
set_option linter.unusedSimpArgs false
set_option maxRecDepth 100000
theorem implShare_c (d lo L : Nat) (H : Hp) {a : Option Addr} {l : List Bk} (h : Hd L H a l.length 2 (vB l)) (hL : lo ≤ L) {j : Nat} {x : Bk} (hx : l[j]? = some x) (hr : 1 ≤ x.r ∧ x.r < 200) :
    ∃ H', vcall env (d + 1) 85 [.slice a l.length (sg a 2), .int .i64 (j : Nat)] lo H = some (.int .i64 0, H') ∧ Hd L H' a (l.set j ⟨x.r + 1, x.d⟩).length 2 (vB (l.set j ⟨x.r + 1, x.d⟩)) ∧ Fr (Ad a) H H' := by
  obtain ⟨hj, ex⟩ := List.getElem?_eq_some_iff.1 hx
  obtain ⟨t, H2, rfl, ht, hw, d2, f2, l2⟩ := h.wrB hL hx (o := 0) (vs := [.int .i64 (x.r + 1)]) (by simp) ⟨x.r + 1, x.d⟩ rfl
  obtain ⟨_, _, e', e⟩ := h.rep.at hj
  cases e'
  have e0 := e.1
  rw [ex] at e0
  simp only [Nat.zero_add] at e0
  simp only [Nat.add_zero] at hw
  have w : IntKind.i64.wrap (x.r + 1) = x.r + 1 := wr (by omega) (by omega)
  have b0 : (x.r == 0) = false := beq_eq_false_iff_ne.2 (by omega)
  have b2 : (x.r == 200) = false := beq_eq_false_iff_ne.2 (by omega)
  refine ⟨H2, ?_, d2, f2.mono fun i e => ⟨0, by rw [e]⟩⟩
  rw [call_eq find85 _ _ _ rfl]
  simp -implicitDefEqProofs only [v85, VMs, noRef, noRef1, isRef, List.all_cons, List.all_nil, vop, VOp.still, VOp.app, VOp.plain, allP, lof, evs, start, asI, vbin, vcells, ntup, setAll, vfill, vress, vres, tup, Nat.reduceEqDiff, ↓reduceIte, Nat.reduceAdd, Nat.reduceMul, Nat.reduceLeDiff, reduceCtorEq, sgs, slen, ltc hj, ge0, Int.toNat_natCast, e0, b0, b2, w, hw]
theorem implDrop_c (d lo L : Nat) (H : Hp) {a : Option Addr} {l : List Bk} (h : Hd L H a l.length 2 (vB l)) (hL : lo ≤ L) {j : Nat} {x : Bk} (hx : l[j]? = some x) (hr : 1 ≤ x.r ∧ x.r ≤ 200) :
    ∃ H', vcall env (d + 1) 87 [.slice a l.length (sg a 2), .int .i64 (j : Nat)] lo H = some (.int .i64 0, H') ∧ Hd L H' a (l.set j (decB x)).length 2 (vB (l.set j (decB x))) ∧ Fr (Ad a) H H' := by
  obtain ⟨hj, ex⟩ := List.getElem?_eq_some_iff.1 hx
  obtain ⟨t, H2, rfl, ht, hw, d2, f2, l2⟩ := h.wrB hL hx (o := 0) (vs := [.int .i64 (x.r - 1)]) (by simp) ⟨x.r - 1, x.d⟩ rfl
  obtain ⟨_, _, e', e⟩ := h.rep.at hj
  cases e'
  have e0 := e.1
  rw [ex] at e0
  simp only [Nat.zero_add] at e0
  simp only [Nat.add_zero] at hw
  have w : IntKind.i64.wrap (x.r - 1) = x.r - 1 := wr (by omega) (by omega)
  have b0 : (x.r == 0) = false := beq_eq_false_iff_ne.2 (by omega)
  have hx2 : (l.set j (⟨x.r - 1, x.d⟩ : Bk))[j]? = some ⟨x.r - 1, x.d⟩ := by simp [hj]
  have e2 : rd H2 ⟨t, j * 2, none⟩ = some (.int .i64 (x.r - 1)) := by
    obtain ⟨hj', ex'⟩ := List.getElem?_eq_some_iff.1 hx2
    obtain ⟨_, _, e', e⟩ := d2.rep.at hj'
    cases e'
    have := e.1
    rw [ex'] at this
    simpa only [Nat.zero_add] using this
  by_cases h1 : x.r = 1
  · obtain ⟨t', H3, e3, ht3, hw3, d3, f3, l3⟩ := d2.wrB hL hx2 (o := 1) (vs := [.int .i64 0]) (by simp) ⟨x.r - 1, 0⟩ rfl
    cases e3
    rw [List.set_set] at d3
    have hdec : decB x = ⟨x.r - 1, 0⟩ := by unfold decB; rw [if_pos h1]
    have b1 : (x.r - 1 == 0) = true := beq_iff_eq.2 (by omega)
    rw [hdec]
    refine ⟨H3, ?_, d3, (f2.trans f3).mono fun i e => ⟨0, by rw [e]⟩⟩
    rw [call_eq find87 _ _ _ rfl]
    simp -implicitDefEqProofs only [v87, VMs, noRef, noRef1, isRef, List.all_cons, List.all_nil, vop, VOp.still, VOp.app, VOp.plain, allP, lof, evs, start, asI, vbin, vcells, ntup, setAll, vfill, vress, vres, tup, Nat.reduceEqDiff, ↓reduceIte, Nat.reduceAdd, Nat.reduceMul, Nat.reduceLeDiff, reduceCtorEq, sgs, slen, ltc hj, ge0, Int.toNat_natCast, e0, b0, w, hw, e2, b1, hw3]
  · have hdec : decB x = ⟨x.r - 1, x.d⟩ := by unfold decB; rw [if_neg h1]
    have b1 : (x.r - 1 == 0) = false := beq_eq_false_iff_ne.2 (by omega)
    rw [hdec]
    refine ⟨H2, ?_, d2, f2.mono fun i e => ⟨0, by rw [e]⟩⟩
    rw [call_eq find87 _ _ _ rfl]
    simp -implicitDefEqProofs only [v87, VMs, noRef, noRef1, isRef, List.all_cons, List.all_nil, vop, VOp.still, VOp.app, VOp.plain, allP, lof, evs, start, asI, vbin, vcells, ntup, setAll, vfill, vress, vres, tup, Nat.reduceEqDiff, ↓reduceIte, Nat.reduceAdd, Nat.reduceMul, Nat.reduceLeDiff, reduceCtorEq, sgs, slen, ltc hj, ge0, Int.toNat_natCast, e0, b0, w, hw, e2, b1]
theorem referred_c (d lo : Nat) (H : Hp) {a : Option Addr} {l : List Bk} (h : Rep EB 2 H a l.length l) (hx : Ex H a) (h0 : fB l = 0) {j : Nat} {x : Bk} (hj : l[j]? = some x) (g : Nat) (y : Bk)
    (hg : ∀ lo L H a, Hd L H a l.length 2 (vB l) → lo ≤ L → ∃ H', vcall env (d + 3) g [.slice a l.length (sg a 2), .int .i64 (j : Nat)] lo H = some (.int .i64 0, H') ∧ Hd L H' a (l.set j y).length 2 (vB (l.set j y)) ∧ Fr (Ad a) H H') :
    ∃ v H', vcall env (d + 4) 84 [.slice a l.length (sg a 2), .int .i64 (j : Nat), .func (.func g) #[] #[]] lo H = some (v, H') ∧ NewBl H H' v 0 (j : Nat) (l.set j y) := by
  obtain ⟨HA, hHA⟩ : ∃ HA : Hp, HA = H ++ [some ⟨[.int .i64 0, .int .i64 0, .slice none 0 0], true, false⟩] := ⟨_, rfl⟩
  have fA : Fn H HA := hHA ▸ Fr.app
  have lA : HA.length = H.length + 1 := by rw [hHA]; simp
  have bA : HA.blk H.length = some ⟨[.int .i64 0, .int .i64 0, .slice none 0 0], true, false⟩ := by rw [hHA]; exact blk0
  have c1 := fun L => implBlocksFault_c d H.length (H ++ L) a l.length l (h.fnB Fr.app)
  have hl24 := fB_len h0
  obtain ⟨hjl, _⟩ := List.getElem?_eq_some_iff.1 hj
  obtain ⟨b, H1, c2, f1, d1⟩ := cloneBlocks_c (d + 2) H.length HA (h.fnB fA) (hx.fn fA) (by omega)
  have b1 : H1.blk H.length = some ⟨[.int .i64 0, .int .i64 0, .slice none 0 0], true, false⟩ := (f1.blk _ (by omega) id).trans bA
  obtain ⟨H2, c3, d2, f2⟩ := hg H.length HA.length H1 b d1 (by omega)
  have b2 : H2.blk H.length = some ⟨[.int .i64 0, .int .i64 0, .slice none 0 0], true, false⟩ := (f2.blk _ (by have := f1.len; omega) (fun hh => by have := (d1.lt hh).1; omega)).trans b1
  have g3 := fun vs hv => wr_setB (lo := H.length) b2 (by omega) vs hv
  have g4 := fun vs hv => rdN_setB b2 3 vs hv
  have hw : IntKind.i64.wrap ((l.length : Int) - 1) = (l.length : Int) - 1 := wr (by omega) (by omega)
  have hin : (0 ≤ (j : Int) ∧ (j : Int) ≤ (l.length : Int) - 1) = True := eq_true ⟨by omega, by omega⟩
  have hN : NewBl H (setB H2 H.length [.int .i64 0, .int .i64 (j : Nat), .slice b l.length (sg b 2)]) (.agg #[.int .i64 0, .int .i64 (j : Nat), .slice b l.length (sg b 2)]) 0 (j : Nat) (l.set j y) := by
    have ff : Fn H H2 := ((fA.trans f1).no.trans f2).new fun k e => by have := (d1.lt e).1; omega
    exact ⟨b, by rw [List.length_set], Fn.setB ff (by omega) b2 _, (d2.fw (Fr.setB b2 _).w (fun k hk e2 => by have := (d2.lt hk).1; omega)).lo (by omega)⟩
  refine ⟨_, _, ?_, hN.done⟩
  subst hHA
  rw [call_eq find84 _ _ _ rfl]
  simp -implicitDefEqProofs only [v84, VMs, vop, VOp.still, VOp.app, VOp.plain, allP, lof, evs, start, asI, vbin, vcells, ntup, setAll, vfill, vress, vres, tup, Nat.reduceEqDiff, ↓reduceIte, Nat.reduceAdd, Nat.reduceMul, Nat.reduceLeDiff, reduceCtorEq, c1, h0, bne_self_eq_false, slen, hw, within_c, hin, decide_true, List.size_toArray, c2, c3, g3, g4]
theorem implShareBlock_c (d lo : Nat) (H : Hp) {a : Option Addr} {l : List Bk} (h : Rep EB 2 H a l.length l) (hx : Ex H a) (h0 : fB l = 0) {j : Nat} {x : Bk} (hj : l[j]? = some x) (hr : 1 ≤ x.r ∧ x.r < 200) :
    ∃ v H', vcall env (d + 5) 32 [.slice a l.length (sg a 2), .int .i64 (j : Nat)] lo H = some (v, H') ∧ NewBl H H' v 0 (j : Nat) (l.set j ⟨x.r + 1, x.d⟩) := by
  obtain ⟨HA, hHA⟩ : ∃ HA : Hp, HA = H ++ [some ⟨[.int .i64 0, .int .i64 0, .slice none 0 0], true, false⟩] := ⟨_, rfl⟩
  have fA : Fn H HA := hHA ▸ Fr.app
  have lA : HA.length = H.length + 1 := by rw [hHA]; simp
  have bA : HA.blk H.length = some ⟨[.int .i64 0, .int .i64 0, .slice none 0 0], true, false⟩ := by rw [hHA]; exact blk0
  obtain ⟨v, H1, c1, a1, rfl, f1, d1⟩ := referred_c d H.length HA (h.fnB fA) (hx.fn fA) h0 hj 85 _ (fun lo L H a hd hL => implShare_c (d + 2) lo L H hd hL hj hr)
  have b1 : H1.blk H.length = some ⟨[.int .i64 0, .int .i64 0, .slice none 0 0], true, false⟩ := (f1.blk _ (by omega) id).trans bA
  have g3 := fun vs hv => wr_setB (lo := H.length) b1 (by omega) vs hv
  have g4 := fun vs hv => rdN_setB b1 3 vs hv
  generalize l.set j ⟨x.r + 1, x.d⟩ = R at *
  have hN : NewBl H (setB H1 H.length [.int .i64 0, .int .i64 (j : Nat), .slice a1 R.length (sg a1 2)]) (.agg #[.int .i64 0, .int .i64 (j : Nat), .slice a1 R.length (sg a1 2)]) 0 (j : Nat) R :=
    ⟨a1, rfl, Fn.setB (fA.trans f1) (by omega) b1 _, (d1.fw (Fr.setB b1 _).w (fun k hk e2 => by have := (d1.lt hk).1; omega)).lo (by omega)⟩
  refine ⟨_, _, ?_, hN.done⟩
  subst hHA
  rw [call_eq find32 _ _ _ rfl]
  simp -implicitDefEqProofs only [v32, VMs, vop, VOp.still, VOp.app, VOp.plain, allP, lof, evs, start, asI, vbin, vcells, ntup, setAll, vfill, vress, vres, tup, Nat.reduceEqDiff, ↓reduceIte, Nat.reduceAdd, Nat.reduceMul, Nat.reduceLeDiff, reduceCtorEq, c1, g3, g4]
theorem implDropBlock_c (d lo : Nat) (H : Hp) {a : Option Addr} {l : List Bk} (h : Rep EB 2 H a l.length l) (hx : Ex H a) (h0 : fB l = 0) {j : Nat} {x : Bk} (hj : l[j]? = some x) (hr : 1 ≤ x.r ∧ x.r ≤ 200) :
    ∃ v H', vcall env (d + 5) 35 [.slice a l.length (sg a 2), .int .i64 (j : Nat)] lo H = some (v, H') ∧ NewBl H H' v 0 (j : Nat) (l.set j (decB x)) := by
  obtain ⟨HA, hHA⟩ : ∃ HA : Hp, HA = H ++ [some ⟨[.int .i64 0, .int .i64 0, .slice none 0 0], true, false⟩] := ⟨_, rfl⟩
  have fA : Fn H HA := hHA ▸ Fr.app
  have lA : HA.length = H.length + 1 := by rw [hHA]; simp
  have bA : HA.blk H.length = some ⟨[.int .i64 0, .int .i64 0, .slice none 0 0], true, false⟩ := by rw [hHA]; exact blk0
  obtain ⟨v, H1, c1, a1, rfl, f1, d1⟩ := referred_c d H.length HA (h.fnB fA) (hx.fn fA) h0 hj 87 _ (fun lo L H a hd hL => implDrop_c (d + 2) lo L H hd hL hj hr)
  have b1 : H1.blk H.length = some ⟨[.int .i64 0, .int .i64 0, .slice none 0 0], true, false⟩ := (f1.blk _ (by omega) id).trans bA
  have g3 := fun vs hv => wr_setB (lo := H.length) b1 (by omega) vs hv
  have g4 := fun vs hv => rdN_setB b1 3 vs hv
  generalize l.set j (decB x) = R at *
  have hN : NewBl H (setB H1 H.length [.int .i64 0, .int .i64 (j : Nat), .slice a1 R.length (sg a1 2)]) (.agg #[.int .i64 0, .int .i64 (j : Nat), .slice a1 R.length (sg a1 2)]) 0 (j : Nat) R :=
    ⟨a1, rfl, Fn.setB (fA.trans f1) (by omega) b1 _, (d1.fw (Fr.setB b1 _).w (fun k hk e2 => by have := (d1.lt hk).1; omega)).lo (by omega)⟩
  refine ⟨_, _, ?_, hN.done⟩
  subst hHA
  rw [call_eq find35 _ _ _ rfl]
  simp -implicitDefEqProofs only [v35, VMs, vop, VOp.still, VOp.app, VOp.plain, allP, lof, evs, start, asI, vbin, vcells, ntup, setAll, vfill, vress, vres, tup, Nat.reduceEqDiff, ↓reduceIte, Nat.reduceAdd, Nat.reduceMul, Nat.reduceLeDiff, reduceCtorEq, c1, g3, g4]
/-- How many blocks are free. -/
def freeN (l : List Bk) : Nat := l.countP fun b => b.r == 0
theorem freeN_take (l : List Bk) (j : Nat) (hj : j < l.length) : freeN (l.take (j + 1)) = freeN (l.take j) + if l[j].r = 0 then 1 else 0 := by
  unfold freeN
  rw [List.take_succ_eq_append_getElem hj, List.countP_append, List.countP_cons, List.countP_nil, Nat.zero_add]
  simp only [beq_iff_eq]
theorem freeN_le (l : List Bk) : freeN l ≤ l.length := List.countP_le_length
theorem implFreeOf_c (d lo : Nat) (H : Hp) {a : Option Addr} {n : Nat} {l : List Bk} (h : Rep EB 2 H a n l) (h0 : fB l = 0) :
    vcall env (d + 4) 28 [.slice a n (sg a 2)] lo H = some (.agg #[.int .i64 0, .int .i64 (freeN l : Nat)], H) := by
  have n1 := h.1
  have hl24 := fB_len h0
  have hsm : Sm n := by unfold Sm; omega
  have c1 := fun L => implBlocksFault_c d H.length (H ++ L) a n l (h.fnB Fr.app)
  obtain ⟨HA, hHA⟩ : ∃ HA : Hp, HA = H ++ [some ⟨[.int .i64 0, .int .i64 0], true, false⟩] := ⟨_, rfl⟩
  have fA : Fn H HA := hHA ▸ Fr.app
  have lA : HA.length = H.length + 1 := by rw [hHA]; simp
  have bA : HA.blk H.length = some ⟨[.int .i64 0, .int .i64 0], true, false⟩ := by rw [hHA]; exact blk0
  have hloop : ∃ r, lim (rnd (vcall env (d + 3)) H.length [2, 4, 13, 14, 15] [2, 4] l28_0) [(2, .pointer (some ⟨H.length, 0, none⟩)), (4, .int .i64 0), (13, .slice a n (sg a 2)), (14, .int .i64 (n : Nat)), (15, .int .i64 0)] HA = some r ∧
      ∃ H', r = (.exit 0, [(2, .pointer (some ⟨H.length, 0, none⟩)), (4, .int .i64 (freeN l : Nat))], H') ∧ Fn HA H' := by
    refine lim_inv (fun j ts H2 => ts = [(2, .pointer (some ⟨H.length, 0, none⟩)), (4, .int .i64 (freeN (l.take j) : Nat)), (13, .slice a n (sg a 2)), (14, .int .i64 (n : Nat)), (15, .int .i64 (j : Nat))] ∧ Fn HA H2) n ?_ ?_ ?_
    · rintro j ts H2 hj ⟨rfl, f2⟩
      have hjl : j < l.length := by omega
      obtain ⟨p, o, rfl, ep⟩ := (h.fnB (fA.trans f2)).at hjl
      have ev := ep.val
      have ht := freeN_take l j hjl
      have hfl := freeN_le (l.take j)
      rw [List.length_take] at hfl
      have hle2 : (H.length ≤ H2.length) = True := eq_true (by have := f2.len; omega)
      refine ⟨_, H2 ++ [some ⟨[.int .i64 l[j].r, .int .i64 l[j].d], true, false⟩], ?_, rfl, f2.trans Fr.app⟩
      by_cases hr : l[j].r = 0
      · rw [if_pos hr] at ht
        have hb : (l[j].r == 0) = true := beq_iff_eq.2 hr
        have hw : IntKind.i64.wrap (((freeN (l.take j) : Nat) : Int) + 1) = ((freeN (l.take (j + 1)) : Nat) : Int) := by rw [wr (by omega) (by omega)]; omega
        simp -implicitDefEqProofs only [rnd, l28_0, VMs, noRef, noRef1, isRef, List.all_cons, List.all_nil, vop, VOp.still, VOp.app, VOp.plain, allP, lof, evs, start, asI, vbin, vcells, ntup, setAll, vfill, vress, vres, tup, Nat.reduceEqDiff, ↓reduceIte, Nat.reduceAdd, Nat.reduceMul, Nat.reduceLeDiff, reduceCtorEq, slen, ltc hj, ge0, decide_true, Int.toNat_natCast, ev, hle2, hb, hw, hsm.w hj]
      · rw [if_neg hr, Nat.add_zero] at ht
        have hb : (l[j].r == 0) = false := beq_eq_false_iff_ne.2 hr
        simp -implicitDefEqProofs only [rnd, l28_0, VMs, noRef, noRef1, isRef, List.all_cons, List.all_nil, vop, VOp.still, VOp.app, VOp.plain, allP, lof, evs, start, asI, vbin, vcells, ntup, setAll, vfill, vress, vres, tup, Nat.reduceEqDiff, ↓reduceIte, Nat.reduceAdd, Nat.reduceMul, Nat.reduceLeDiff, reduceCtorEq, slen, ltc hj, ge0, decide_true, Int.toNat_natCast, ev, hle2, hb, ht, hsm.w hj]
    · rintro ts H2 ⟨rfl, f2⟩
      rw [n1, List.take_length]
      exact ⟨_, by simp -implicitDefEqProofs only [rnd, l28_0, VMs, noRef, noRef1, isRef, List.all_cons, List.all_nil, vop, VOp.still, VOp.app, VOp.plain, allP, lof, evs, start, asI, vbin, vcells, ntup, setAll, vfill, vress, vres, tup, Nat.reduceEqDiff, ↓reduceIte, Nat.reduceAdd, Nat.reduceMul, Nat.reduceLeDiff, reduceCtorEq, slen, Int.lt_irrefl, decide_false], by simp, H2, rfl, f2⟩
    · exact ⟨rfl, Fr.refl⟩
  obtain ⟨_, hl, H1, rfl, f1⟩ := hloop
  have b1 : H1.blk H.length = some ⟨[.int .i64 0, .int .i64 0], true, false⟩ := (f1.blk _ (by omega) id).trans bA
  have g3 := fun vs hv => wr_setB (lo := H.length) b1 (by omega) vs hv
  have g4 := fun vs hv => rdN_setB b1 2 vs hv
  subst hHA
  rw [call_eq find28 _ _ _ rfl]
  simp -implicitDefEqProofs only [v28, VMs, noRef, noRef1, isRef, List.all_cons, List.all_nil, vop, VOp.still, VOp.app, VOp.plain, allP, lof, evs, start, asI, vbin, vcells, ntup, setAll, vfill, vress, vres, tup, Nat.reduceEqDiff, ↓reduceIte, Nat.reduceAdd, Nat.reduceMul, Nat.reduceLeDiff, reduceCtorEq, c1, h0, bne_self_eq_false, slen, vlp, hl, g3, g4]
theorem drawTake_c (d lo : Nat) (H : Hp) {ac : Option Addr} {code : List Int} (hc : Rep EY 1 H ac code.length code) (hy : ∀ x ∈ code, 0 ≤ x ∧ x ≤ 255) (hn : code.length ≤ 1048576) :
    ∃ a l w H', vcall env (d + 4) 39 [.slice ac code.length (sg ac 1)] lo H = some (.tuple #[.slice a l.length (sg a 2), .int .i64 w], H') ∧ Fn H H' ∧ Rep EB 2 H' a l.length l ∧ Ex H' a ∧ l.length ≤ 25 := by
  obtain ⟨H1, c1, f1, l1, s1⟩ := l1Source_c (d + 2) H.length H hc hy (by omega)
  obtain ⟨a, l, H2, c2, b2⟩ := l3Blocks_c d H.length H1 s1 (Nat.le_refl _) (by omega)
  obtain ⟨k2, _, hk2, s2⟩ := b2.s
  have c3 := l1Next_c (d + 2) H.length H2 s2 (Nat.le_refl _) (by omega) 256
  obtain ⟨s3, f3, l3⟩ := s2.next (k2 + 1)
  generalize srcB H2 H.length ac code (k2 + 1) = H3 at *
  have c4 := l1Next_c (d + 2) H.length H3 s3 (Nat.le_refl _) (by omega) 256
  obtain ⟨s4, f4, l4⟩ := s3.next (k2 + 1 + 1)
  generalize srcB H3 H.length ac code (k2 + 1 + 1) = H4 at *
  generalize nextV code k2 256 = v1 at *
  generalize nextV code (k2 + 1) 256 = v2 at *
  obtain ⟨H5, hH5⟩ : ∃ H5 : Hp, H5 = H4 ++ [some ⟨vI [v1, v2, 256, -1], true, false⟩] := ⟨_, rfl⟩
  have f5 : Fn H4 H5 := hH5 ▸ Fr.app
  have rp : Rep EI 1 H5 (some ⟨H4.length, 0, none⟩) [v1, v2, 256, -1].length [v1, v2, 256, -1] := repI (by rw [hH5]; exact blk0)
  have hq4 := blk_lt s4.b
  have c5 := l1Pick_c (d + 1) H.length H5 (s4.fn f5) (Nat.le_refl _) (by omega) rp (by simp) (fun i hi => by obtain ⟨o, e⟩ := hi; simp only [Option.some.injEq, Addr.mk.injEq] at e; omega)
  obtain ⟨s6, f6, l6⟩ := (s4.fn f5).next (k2 + 1 + 1 + 1)
  generalize srcB H5 H.length ac code (k2 + 1 + 1 + 1) = H6 at *
  generalize pickV code (k2 + 1 + 1) [v1, v2, 256, -1] = w at *
  have w26 : Fw (· = H.length) H2 H6 := ((f3.w.trans f4.w).trans (Fw.q f5)).trans f6.w
  have hd6 : Hd H1.length H6 a l.length 2 (vB l) := b2.h.fw w26 (fun i hi e => by have := (b2.h.lt hi).1; omega)
  have F6 : Fn H H6 := (b2.f.trans w26).fn f1 (fun i e => by omega)
  subst hH5
  simp only [vI, List.map_cons, List.map_nil, List.length_cons, List.length_nil, Nat.zero_add, Nat.reduceAdd, sgs] at c5
  cases a with
  | some A =>
    refine ⟨some A, l, w, H6, ?_, F6, hd6.rep, hd6.ex, b2.n⟩
    rw [call_eq find39 _ _ _ rfl]
    simp -implicitDefEqProofs only [v39, VMs, noRef, noRef1, isRef, List.all_cons, List.all_nil, vop, VOp.still, VOp.app, VOp.plain, allP, lof, evs, start, asI, vbin, vcells, ntup, setAll, vfill, vress, vres, tup, Nat.reduceEqDiff, ↓reduceIte, Nat.reduceAdd, Nat.reduceMul, Nat.reduceLeDiff, reduceCtorEq, c1, c2, c3, c4, h40, c5]
  | none =>
    have hl0 : l = [] := by
      rcases hd6 with ⟨_, e, _⟩ | ⟨_, _, e, _⟩
      · exact List.length_eq_zero_iff.1 e
      · cases e
    subst hl0
    refine ⟨none, [], w, H, ?_, Fr.refl, Rep.nil, (fun A e => by cases e), by simp⟩
    rw [call_eq find39 _ _ _ rfl]
    simp -implicitDefEqProofs only [v39, VMs, noRef, noRef1, isRef, List.all_cons, List.all_nil, vop, VOp.still, VOp.app, VOp.plain, allP, lof, evs, start, asI, vbin, vcells, ntup, setAll, vfill, vress, vres, tup, Nat.reduceEqDiff, ↓reduceIte, Nat.reduceAdd, Nat.reduceMul, Nat.reduceLeDiff, reduceCtorEq, c1, c2, c3, c4, h40, c5]
end Go.Proofs.Ytmcljallamhccaa.V
