/- FnDisks: the law. -/
import Derived.Test.YtaahjfjpbilfnaaVQF
namespace Go.Proofs.Ytaahjfjpbilfnaa.V
open Go
set_option linter.unusedVariables false
set_option linter.unusedSimpArgs false
set_option maxRecDepth 100000
theorem lwBig_c (d lo : Nat) (H : Hp) (a : Option Addr) (n s : Nat) : vcall env (d + 1) 24 [.slice a n s] lo H = some (.bool (decide (1048576 < n)), H) := by
  have e : decide ((n : Int) > 1048576) = decide (1048576 < n) := by
    by_cases h : 1048576 < n
    · rw [decide_eq_true h]; exact decide_eq_true (by omega)
    · rw [decide_eq_false h]; exact decide_eq_false (by omega)
  rw [call_eq find24 _ _ _ rfl]
  simp -implicitDefEqProofs only [v24, VMs, noRef, noRef1, isRef, List.all_cons, List.all_nil, vop, VOp.still, VOp.app, VOp.plain, allP, lof, evs, start, asI, vbin, vcells, ntup, setAll, vfill, vress, vres, tup, Nat.reduceEqDiff, ↓reduceIte, Nat.reduceAdd, Nat.reduceMul, Nat.reduceLeDiff, reduceCtorEq, slen, e]
theorem lwNums_c (d lo : Nat) (H : Hp) {a b : Option Addr} {n : Nat} {l : List Int} (h : Rep EI 1 H a n l) (h' : Rep EI 1 H b n l) (hs : Sm n) :
    vcall env (d + 1) 29 [.slice a n (sg a 1), .slice b n (sg b 1)] lo H = some (.bool true, H) := by
  have hn := h.1
  subst hn
  have hloop := fun lo' => lim_up (f := rnd (vcall env d) lo' [0, 1, 5] [4] l29_0) (r := (.exit 0, [], H)) (by simp)
    (fun i => [(0, .slice a l.length (sg a 1)), (1, .slice b l.length (sg b 1)), (5, .int .i64 (i : Nat))]) (fun _ => H) l.length
    (by simp -implicitDefEqProofs only [rnd, l29_0, VMs, noRef, noRef1, isRef, List.all_cons, List.all_nil, vop, VOp.still, VOp.app, VOp.plain, allP, lof, evs, start, asI, vbin, vcells, ntup, setAll, vfill, vress, vres, tup, Nat.reduceEqDiff, ↓reduceIte, Nat.reduceAdd, Nat.reduceMul, Nat.reduceLeDiff, reduceCtorEq, slen, Int.lt_irrefl, decide_false])
    (fun i hi => by
      obtain ⟨p, o, rfl, e⟩ := h.at hi
      obtain ⟨p', o', rfl, e'⟩ := h'.at hi
      simp only [EI, Nat.mul_one] at e e'
      simp -implicitDefEqProofs only [rnd, l29_0, VMs, noRef, noRef1, isRef, List.all_cons, List.all_nil, vop, VOp.still, VOp.app, VOp.plain, allP, lof, evs, start, asI, vbin, vcells, ntup, setAll, vfill, vress, vres, tup, Nat.reduceEqDiff, ↓reduceIte, Nat.reduceAdd, Nat.reduceMul, Nat.reduceLeDiff, reduceCtorEq, vdr, slen, ltc hi, ge0, decide_true, Int.toNat_natCast, Nat.mul_one, e, e', bne_self_eq_false, hs.w hi])
  simp only [Int.natCast_zero] at hloop
  rw [call_eq find29 _ _ _ rfl]
  simp -implicitDefEqProofs only [v29, VMs, noRef, noRef1, isRef, List.all_cons, List.all_nil, vop, VOp.still, VOp.app, VOp.plain, allP, lof, evs, start, asI, vbin, vcells, ntup, setAll, vfill, vress, vres, tup, Nat.reduceEqDiff, ↓reduceIte, Nat.reduceAdd, Nat.reduceMul, Nat.reduceLeDiff, reduceCtorEq, slen, bne_self_eq_false, vlp, hloop]
theorem Fr.cell {H H' : Hp} {cs : List Value} (hf : Fn (H ++ [some ⟨cs, true, false⟩]) H') (k : Nat) : V.rd H' ⟨H.length, k, none⟩ = cs[k]? := by
  rw [hf.rd H.length k (by simp) id]; simp [rd0]
set_option maxHeartbeats 8000000 in
/-- The law. -/
theorem law_c (d lo : Nat) (H : Hp) {ac : Option Addr} {code : List Int} (hc : Rep EY 1 H ac code.length code) (hy : ∀ x ∈ code, 0 ≤ x ∧ x ≤ 255) : vcall env (d + 10) 5 [.slice ac code.length (sg ac 1)] lo H = some (.bool true, H) := by
  rw [call_eq find5 _ _ _ rfl]
  by_cases hbig : 1048576 < code.length
  · simp -implicitDefEqProofs only [v5, VMs, noRef, noRef1, isRef, List.all_cons, List.all_nil, vop, VOp.still, VOp.app, VOp.plain, allP, lof, evs, start, asI, vbin, vcells, ntup, setAll, vfill, vress, vres, tup, Nat.reduceEqDiff, ↓reduceIte, Nat.reduceAdd, Nat.reduceMul, Nat.reduceLeDiff, reduceCtorEq, lwBig_c, hbig, decide_true]
  have hn : code.length ≤ 1048576 := by omega
  obtain ⟨aw, ap, D, ab, bs, H1, c1, f1, dz1, rb1, hbl⟩ := drawCrash_c (d + 5) H.length H hc hy hn
  have l1 := f1.len
  have hle1 : (H.length ≤ H1.length) = True := eq_true l1
  obtain ⟨H2, hH2⟩ : ∃ H2 : Hp, H2 = H1 ++ [some ⟨[.slice aw D.w.length (sg aw 1), .slice ap D.p.length (sg ap 2)], true, false⟩] := ⟨_, rfl⟩
  have f2 : Fn H1 H2 := hH2 ▸ Fr.app
  have l2 : H2.length = H1.length + 1 := by rw [hH2]; simp
  have dz2 := dz1.fn f2
  have rb2 := rb1.fnO f2
  by_cases h0 : dF D ≠ 0
  · have c3 := crash_bad (d + 1) H.length H2 (vb := .slice ab bs.length (sg ab 1)) dz2 h0
    have c4 := flush_bad (d + 1) H.length (H2 ++ [some ⟨[.int .i64 (dF D), .slice none 0 0, .slice none 0 0], true, false⟩]) (dz2.fn Fr.app) h0
    have hb : (dF D != 0) = true := bne_iff_ne.2 h0
    obtain ⟨H4, hH4⟩ : ∃ H4 : Hp, H4 = H2 ++ [some ⟨[.int .i64 (dF D), .slice none 0 0, .slice none 0 0], true, false⟩, some ⟨[.int .i64 (dF D), .slice none 0 0, .slice none 0 0], true, false⟩] := ⟨_, rfl⟩
    have dz4 := dz2.fn (show Fn H2 H4 from hH4 ▸ Fr.app)
    have c5 := fun lo => specDiskFault_c (d + 5) lo H4 dz4.d dz4.s
    have c6 := fun lo => implDiskFault_c (d + 2) lo H4 dz4.d dz4.s
    have hle2 : (H.length ≤ H1.length + 1) = True := eq_true (by omega)
    have hle3 : (H.length ≤ H1.length + 1 + 1) = True := eq_true (by omega)
    subst hH4 hH2
    simp only [List.append_assoc, List.cons_append, List.nil_append] at c3 c4 c5 c6
    simp -implicitDefEqProofs only [v5, VMs, noRef, noRef1, isRef, List.all_cons, List.all_nil, vop, VOp.still, VOp.app, VOp.plain, allP, lof, evs, start, asI, vbin, vcells, ntup, setAll, vfill, vress, vres, tup, Nat.reduceEqDiff, ↓reduceIte, Nat.reduceAdd, Nat.reduceMul, Nat.reduceLeDiff, reduceCtorEq, lwBig_c, hbig, decide_false, List.getElem?_toArray, c1, hle1, hle2, hle3, c3, c4, hb, vdr, c5, c6, beq_self_eq_true]
  replace h0 : dF D = 0 := Classical.byContradiction h0
  have g := dF_zero h0
  have gp := g.p
  obtain ⟨i3, X3, c3, f3, r3, w3⟩ := crash_ok (d + 1) H.length H2 dz2 rb2 (by omega) h0
  have k3 := f3.len
  obtain ⟨H4, hH4⟩ : ∃ H4 : Hp, H4 = X3 ++ [some ⟨[.int .i64 0, .slice (some ⟨i3, 0, none⟩) 64 1, .slice none 0 0], true, false⟩] := ⟨_, rfl⟩
  have f4 : Fn X3 H4 := hH4 ▸ Fr.app
  have l4 : H4.length = X3.length + 1 := by rw [hH4]; simp
  obtain ⟨i5, X5, c5, f5, r5, w5⟩ := flush_ok (d + 1) H.length H4 (dz2.fn (f3.trans f4)) h0
  have k5 := f5.len
  obtain ⟨H6, hH6⟩ : ∃ H6 : Hp, H6 = X5 ++ [some ⟨[.int .i64 0, .slice (some ⟨i5, 0, none⟩) 64 1, .slice none 0 0], true, false⟩] := ⟨_, rfl⟩
  have f6 : Fn X5 H6 := hH6 ▸ Fr.app
  have l6 : H6.length = X5.length + 1 := by rw [hH6]; simp
  obtain ⟨i7, X7, c7, f7, r7⟩ := allWords_c (d + 1) H.length H6 (dz2.fn (f3.trans (f4.trans (f5.trans f6)))) h0
  have k7 := f7.len
  obtain ⟨H8, hH8⟩ : ∃ H8 : Hp, H8 = X7 ++ [some ⟨[.int .i64 0, .slice (some ⟨i7, 0, none⟩) 64 1], true, false⟩] := ⟨_, rfl⟩
  have f8 : Fn X7 H8 := hH8 ▸ Fr.app
  have l8 : H8.length = X7.length + 1 := by rw [hH8]; simp
  have f48 : Fn H4 H8 := f5.trans (f6.trans (f7.trans f8))
  have f28 : Fn H2 H8 := f3.trans (f4.trans f48)
  have f68 : Fn H6 H8 := f7.trans f8
  have dz8 := dz2.fn f28
  have rb8 := rb2.fnO f28
  have r38 := r3.fnI (f4.trans f48)
  have r58 := r5.fnI (f6.trans f68)
  have r78 := r7.fnI f8
  have s64 : Sm 64 := by unfold Sm; omega
  have c9 := fun lo => lwNums_c (d + 8) lo H8 r58 r78 s64
  have dl := dF_left h0 bs
  have rC : RD H8 (some ⟨i3, 0, none⟩) 64 none 0 ⟨flP D.w (kp D.p bs), []⟩ := ⟨r38, Rep.nil⟩
  have sC : SD ⟨flP D.w (kp D.p bs), []⟩ := ⟨by rw [flP_len]; exact dz1.s.w, by simp [Sm]⟩
  have c10 := fun lo => implDiskFault_c (d + 2) lo H8 rC sC
  rw [dl] at c10
  simp only [sgs, sgn] at c9 c10
  -- cells
  have kd8 := fun k => (show Fn (H1 ++ [some ⟨[.slice aw D.w.length (sg aw 1), .slice ap D.p.length (sg ap 2)], true, false⟩]) H8 from hH2 ▸ f28).cell k
  have q2 : ∀ X, Fn H2 X → rdN X ⟨H1.length, 0, none⟩ 2 = some [.slice aw D.w.length (sg aw 1), .slice ap D.p.length (sg ap 2)] := fun X f => by
    rw [f.rdN _ _ _ (by omega) id, hH2]; simp [rdN0]
  have k58 := fun k => (show Fn (X3 ++ [some ⟨[.int .i64 0, .slice (some ⟨i3, 0, none⟩) 64 1, .slice none 0 0], true, false⟩]) H8 from hH4 ▸ f48).cell k
  have k56 := fun k => (show Fn (X3 ++ [some ⟨[.int .i64 0, .slice (some ⟨i3, 0, none⟩) 64 1, .slice none 0 0], true, false⟩]) H6 from hH4 ▸ (f5.trans f6)).cell k
  have q5 : rdN H8 ⟨X3.length, 1, none⟩ 2 = some [.slice (some ⟨i3, 0, none⟩) 64 1, .slice none 0 0] := by
    rw [f48.rdN _ _ _ (by omega) id, hH4]; simp [rdN0]
  have k68 := fun k => (show Fn (X5 ++ [some ⟨[.int .i64 0, .slice (some ⟨i5, 0, none⟩) 64 1, .slice none 0 0], true, false⟩]) H8 from hH6 ▸ f68).cell k
  have k78 := fun k => (show Fn (X7 ++ [some ⟨[.int .i64 0, .slice (some ⟨i7, 0, none⟩) 64 1], true, false⟩]) H8 from hH8 ▸ Fr.refl).cell k
  obtain ⟨P2, hP2⟩ : ∃ P : Nat, P = H1.length := ⟨_, rfl⟩
  obtain ⟨P3, hP3⟩ : ∃ P : Nat, P = X3.length := ⟨_, rfl⟩
  obtain ⟨P5, hP5⟩ : ∃ P : Nat, P = X5.length := ⟨_, rfl⟩
  obtain ⟨P7, hP7⟩ : ∃ P : Nat, P = X7.length := ⟨_, rfl⟩
  rw [← hP2] at kd8 q2
  rw [← hP3] at k58 k56 q5
  rw [← hP5] at k68
  rw [← hP7] at k78
  have q28 := q2 H8 f28
  have q24 := q2 H4 (f3.trans f4)
  have q26 := q2 H6 (f3.trans (f4.trans (f5.trans f6)))
  have lw := g.w
  -- the word wanted at a place
  obtain ⟨m, hm⟩ : ∃ m : Nat, m = min D.p.length bs.length := ⟨_, rfl⟩
  have hin : ∀ k : Nat, k < 64 → lim (rnd (vcall env (d + 9)) H.length [3, 4, 5, 7, 8, 9, 10] [2, 3, 4, 5, 7, 8, 9] l5_0) [(3, .pointer (some ⟨P2, 0, none⟩)), (4, .slice ab bs.length (sg ab 1)), (5, .pointer (some ⟨P3, 0, none⟩)), (7, .pointer (some ⟨P7, 0, none⟩)), (8, .int .i64 (k : Nat)), (9, .int .i64 ((D.w[k]?).getD 0)), (10, .int .i64 0)] H8 =
      some (.exit 2, [(3, .pointer (some ⟨P2, 0, none⟩)), (4, .slice ab bs.length (sg ab 1)), (5, .pointer (some ⟨P3, 0, none⟩)), (7, .pointer (some ⟨P7, 0, none⟩)), (8, .int .i64 (k : Nat)), (9, .int .i64 (((flP D.w (kp D.p bs))[k]?).getD 0))], H8) := by
    intro k hk
    have hend : kp (D.p.take m) bs = kp D.p bs := by
      rcases Nat.le_total D.p.length bs.length with e | e
      · rw [hm, Nat.min_eq_left e, List.take_length]
      · rw [hm, Nat.min_eq_right e, kp_end]
    have hstart : (D.w[k]?).getD 0 = ((flP D.w (kp (D.p.take 0) bs))[k]?).getD 0 := by rw [List.take_zero]; rfl
    rw [← hend, hstart]
    refine lim_up (f := rnd (vcall env (d + 9)) H.length [3, 4, 5, 7, 8, 9, 10] [2, 3, 4, 5, 7, 8, 9] l5_0) (by simp)
      (fun j => [(3, .pointer (some ⟨P2, 0, none⟩)), (4, .slice ab bs.length (sg ab 1)), (5, .pointer (some ⟨P3, 0, none⟩)), (7, .pointer (some ⟨P7, 0, none⟩)), (8, .int .i64 (k : Nat)), (9, .int .i64 (((flP D.w (kp (D.p.take j) bs))[k]?).getD 0)), (10, .int .i64 (j : Nat))]) (fun _ => H8) m ?_ ?_
    · by_cases e : m < D.p.length
      · have hb : decide ((m : Int) < ((bs.length : Nat) : Int)) = false := decide_eq_false (by omega)
        simp -implicitDefEqProofs only [rnd, l5_0, VMs, noRef, noRef1, isRef, List.all_cons, List.all_nil, vop, VOp.still, VOp.app, VOp.plain, allP, lof, evs, start, asI, vbin, vcells, ntup, setAll, vfill, vress, vres, tup, Nat.reduceEqDiff, ↓reduceIte, Nat.reduceAdd, Nat.reduceMul, Nat.reduceLeDiff, reduceCtorEq, kd8, slen, ltc e, decide_true, hb]
      · have hb : decide ((m : Int) < ((D.p.length : Nat) : Int)) = false := decide_eq_false (by omega)
        simp -implicitDefEqProofs only [rnd, l5_0, VMs, noRef, noRef1, isRef, List.all_cons, List.all_nil, vop, VOp.still, VOp.app, VOp.plain, allP, lof, evs, start, asI, vbin, vcells, ntup, setAll, vfill, vress, vres, tup, Nat.reduceEqDiff, ↓reduceIte, Nat.reduceAdd, Nat.reduceMul, Nat.reduceLeDiff, reduceCtorEq, kd8, slen, hb]
    · intro j hj
      have h1 : j < D.p.length := by omega
      have h2 : j < bs.length := by omega
      have hjw : IntKind.i64.wrap ((j : Int) + 1) = ((j + 1 : Nat) : Int) := by rw [wr (by omega) (by omega)]; rfl
      obtain ⟨pi, po, rfl, e⟩ := dz8.d.p.at h1
      obtain ⟨bi, bo, rfl, eb⟩ := rb8.at h2
      simp only [EO, Nat.mul_one] at eb
      have e1 := e.1
      have e2 := e.2
      by_cases hp : bs[j] = true
      · rw [hp] at eb
        by_cases hr : D.p[j].r = (k : Int)
        · rw [want_hit g h1 (by rw [getE h2, hp]) hk hr]
          have hq : (D.p[j].r == (k : Int)) = true := beq_iff_eq.2 hr
          simp -implicitDefEqProofs only [rnd, l5_0, VMs, noRef, noRef1, isRef, List.all_cons, List.all_nil, vop, VOp.still, VOp.app, VOp.plain, allP, lof, evs, start, asI, vbin, vcells, ntup, setAll, vfill, vress, vres, tup, Nat.reduceEqDiff, ↓reduceIte, Nat.reduceAdd, Nat.reduceMul, Nat.reduceLeDiff, reduceCtorEq, kd8, slen, ltc h1, ltc h2, ge0, decide_true, Int.toNat_natCast, Nat.mul_one, eb, e1, e2, hq, hjw]
        · rw [want_miss g h1 hk (fun h => hr h.2)]
          have hq : (D.p[j].r == (k : Int)) = false := beq_eq_false_iff_ne.2 hr
          simp -implicitDefEqProofs only [rnd, l5_0, VMs, noRef, noRef1, isRef, List.all_cons, List.all_nil, vop, VOp.still, VOp.app, VOp.plain, allP, lof, evs, start, asI, vbin, vcells, ntup, setAll, vfill, vress, vres, tup, Nat.reduceEqDiff, ↓reduceIte, Nat.reduceAdd, Nat.reduceMul, Nat.reduceLeDiff, reduceCtorEq, kd8, slen, ltc h1, ltc h2, ge0, decide_true, Int.toNat_natCast, Nat.mul_one, eb, e1, e2, hq, hjw]
      · rw [want_miss g h1 hk (fun h => hp (by have := h.1; rw [getE h2] at this; exact Option.some.inj this))]
        have hp' : bs[j] = false := by cases hx : bs[j]; rfl; exact absurd hx hp
        rw [hp'] at eb
        simp -implicitDefEqProofs only [rnd, l5_0, VMs, noRef, noRef1, isRef, List.all_cons, List.all_nil, vop, VOp.still, VOp.app, VOp.plain, allP, lof, evs, start, asI, vbin, vcells, ntup, setAll, vfill, vress, vres, tup, Nat.reduceEqDiff, ↓reduceIte, Nat.reduceAdd, Nat.reduceMul, Nat.reduceLeDiff, reduceCtorEq, kd8, slen, ltc h1, ltc h2, ge0, decide_true, Int.toNat_natCast, Nat.mul_one, eb, hjw]
  have hout : lim (rnd (vcall env (d + 9)) H.length [3, 4, 5, 7, 8] [2, 3] l5_1) [(3, .pointer (some ⟨P2, 0, none⟩)), (4, .slice ab bs.length (sg ab 1)), (5, .pointer (some ⟨P3, 0, none⟩)), (7, .pointer (some ⟨P7, 0, none⟩)), (8, .int .i64 0)] H8 = some (.exit 0, [(3, .pointer (some ⟨P2, 0, none⟩))], H8) := by
    refine lim_up (f := rnd (vcall env (d + 9)) H.length [3, 4, 5, 7, 8] [2, 3] l5_1) (by simp)
      (fun j => [(3, .pointer (some ⟨P2, 0, none⟩)), (4, .slice ab bs.length (sg ab 1)), (5, .pointer (some ⟨P3, 0, none⟩)), (7, .pointer (some ⟨P7, 0, none⟩)), (8, .int .i64 (j : Nat))]) (fun _ => H8) 64 ?_ ?_
    · have hb : decide (((64 : Nat) : Int) < 64) = false := rfl
      simp -implicitDefEqProofs only [rnd, l5_1, VMs, noRef, noRef1, isRef, List.all_cons, List.all_nil, vop, VOp.still, VOp.app, VOp.plain, allP, lof, evs, start, asI, vbin, vcells, ntup, setAll, vfill, vress, vres, tup, Nat.reduceEqDiff, ↓reduceIte, Nat.reduceAdd, Nat.reduceMul, Nat.reduceLeDiff, reduceCtorEq, hb]
    · intro k hk
      have hb : decide ((k : Int) < 64) = true := decide_eq_true (by omega)
      have hkw : IntKind.i64.wrap ((k : Int) + 1) = ((k + 1 : Nat) : Int) := by rw [wr (by omega) (by omega)]; rfl
      have hk1 : k < D.w.length := by omega
      have hk3 : k < (flP D.w (kp D.p bs)).length := by rw [flP_len]; omega
      have hk7 : k < (flP D.w D.p).length := by rw [flP_len]; omega
      have hk64 : ((k : Int) < ((64 : Nat) : Int)) = True := eq_true (by omega)
      obtain ⟨wi, wo, rfl, e1⟩ := dz8.d.w.at hk1
      obtain ⟨_, _, e3', e3⟩ := r38.at hk3
      obtain ⟨_, _, e7', e7⟩ := r78.at hk7
      cases e3'
      cases e7'
      simp only [EI, Nat.mul_one, Nat.zero_add] at e1 e3 e7
      have hl := hin k hk
      have c11 := fun lo => wordAt_c d lo H8 dz8 h0 (show k ≤ 63 by omega)
      rw [getE hk1, getE hk3] at hl
      rw [getE hk7] at c11
      simp only [Option.getD_some] at hl c11
      simp only [sgs] at q28 c11
      simp -implicitDefEqProofs only [rnd, l5_1, VMs, noRef, noRef1, isRef, List.all_cons, List.all_nil, vop, VOp.still, VOp.app, VOp.plain, allP, lof, evs, start, asI, vbin, vcells, ntup, setAll, vfill, vress, vres, tup, Nat.reduceEqDiff, ↓reduceIte, Nat.reduceAdd, Nat.reduceMul, Nat.reduceLeDiff, reduceCtorEq, hb, kd8, k58, k78, ltc hk1, hk64, ge0, Int.toNat_natCast, Nat.mul_one, e1, vlp, hl, vdr, e3, bne_self_eq_false, q28, c11, List.getElem?_toArray, e7, hkw]
  -- what is put
  have hw77 : wOK 77 = true := rfl
  have b64 : (((64 : Nat) : Int) != 64) = false := rfl
  have b00 : (((0 : Nat) : Int) != 0) = false := rfl
  have b02 : ((0 : Int) == 2) = false := rfl
  have b22 : ((2 : Int) == 2) = true := rfl
  have n20 : ((2 : Int) != 0) = true := rfl
  have hk5 : (0 : Int) ≤ 5 ∧ (5 : Int) ≤ 63 := by omega
  by_cases hp : D.p.length = 200
  · have c12 := putWord_full d H.length H8 dz8 h0 hk5 hw77 hp
    have ha : (((D.p.length : Nat) : Int) == 200) = true := beq_iff_eq.2 (by omega)
    obtain ⟨HA, hHA⟩ : ∃ HA : Hp, HA = H8 ++ [some ⟨[.int .i64 2, .slice none 0 0, .slice none 0 0], true, false⟩] := ⟨_, rfl⟩
    have fA : Fn H8 HA := hHA ▸ Fr.app
    obtain ⟨v, HB, c13, S, T, awn, nwn, apn, npn, rfl, fB, gB, oB⟩ := implNewDisk_c (d + 1) H.length HA (dz8.fn fA).d.w (by omega)
    rw [resND_full h0] at c13 oB
    simp only at c13 oB
    have hnw : nwn = D.w.length := oB.w.1
    subst hnw
    obtain ⟨HC, hHC⟩ : ∃ HC : Hp, HC = HB ++ [some ⟨[.int .i64 0, .slice awn D.w.length (sg awn 1), .slice apn npn (sg apn 2)], true, false⟩] := ⟨_, rfl⟩
    have fC : Fn HB HC := hHC ▸ Fr.app
    have F8C : Fn H8 HC := fA.trans (fB.trans fC)
    have c14 := fun lo => lwNums_c (d + 8) lo HC (oB.rd.fn fC).w (dz8.fn F8C).d.w dz1.s.w
    have kdC := fun k => (show Fn (H1 ++ [some ⟨[.slice aw D.w.length (sg aw 1), .slice ap D.p.length (sg ap 2)], true, false⟩]) HC from hH2 ▸ (f28.trans F8C)).cell k
    have kPC := fun k => (show Fn (H8 ++ [some ⟨[.int .i64 2, .slice none 0 0, .slice none 0 0], true, false⟩]) HC from hHA ▸ (fB.trans fC)).cell k
    rw [← hP2] at kdC
    have qA := q2 HA (f28.trans fA)
    have kdA := fun k => (show Fn (H1 ++ [some ⟨[.slice aw D.w.length (sg aw 1), .slice ap D.p.length (sg ap 2)], true, false⟩]) HA from hH2 ▸ (f28.trans fA)).cell k
    rw [← hP2] at kdA
    have le3 : (H.length ≤ X3.length) = True := eq_true (by omega)
    have le5 : (H.length ≤ X5.length) = True := eq_true (by omega)
    have le7 : (H.length ≤ X7.length) = True := eq_true (by omega)
    have le8 : (H.length ≤ H8.length) = True := eq_true (by omega)
    have lB := fB.len
    have lA := fA.len
    have leB : (H.length ≤ HB.length) = True := eq_true (by omega)
    subst hHC
    subst hHA
    subst hH8
    subst hH6
    subst hH4
    subst hH2
    subst hP2 hP3 hP5 hP7
    simp only [List.append_assoc, List.cons_append, List.nil_append, List.length_append, List.length_cons, List.length_nil, Nat.zero_add] at c3 c5 c7 c9 c10 kd8 k58 k56 q5 k68 k78 q28 q24 q26 hout c12 c13 kdC kPC qA kdA c14 le8
    simp -implicitDefEqProofs only [v5, VMs, noRef, noRef1, isRef, List.all_cons, List.all_nil, vop, VOp.still, VOp.app, VOp.plain, allP, lof, evs, start, asI, vbin, vcells, ntup, setAll, vfill, vress, vres, tup, Nat.reduceEqDiff, ↓reduceIte, Nat.reduceAdd, Nat.reduceMul, Nat.reduceLeDiff, reduceCtorEq, lwBig_c, hbig, decide_false, List.getElem?_toArray, c1, hle1, c3, le3, c5, le5, bne_self_eq_false, q24, q26, q28, c7, le7, k58, k56, k68, k78, slen, b64, b00, c9, q5, c10, vlp, hout, le8, c12, qA, kdA, c13, leB, kPC, kdC, b22, ha, n20, beq_self_eq_true, c14]
  · have ha : (((D.p.length : Nat) : Int) == 200) = false := beq_eq_false_iff_ne.2 (by omega)
    obtain ⟨awp, app, H9, c12, f9, dz9⟩ := putWord_ok d H.length H8 dz8 h0 hk5 hw77 hp
    have hx77 : pOK ⟨5, 77⟩ = true := rfl
    have hput := dF_put h0 (by omega) hx77
    have hflp : ((flP D.w (D.p ++ [(⟨5, 77⟩ : Bk)]))[5]?).getD 0 = 77 := by
      have hl : (flP D.w D.p).length = 64 := by rw [flP_len]; exact lw
      rw [flP_snoc]
      show (((flP D.w D.p).set 5 77)[5]?).getD 0 = 77
      rw [List.getElem?_set, if_pos rfl, if_pos (by omega)]; rfl
    have l9 := f9.len
    obtain ⟨HA, hHA⟩ : ∃ HA : Hp, HA = H9 ++ [some ⟨[.int .i64 0, .slice awp D.w.length (sg awp 1), .slice app (D.p ++ [(⟨5, 77⟩ : Bk)]).length (sg app 2)], true, false⟩] := ⟨_, rfl⟩
    have fA' : Fn H9 HA := hHA ▸ Fr.app
    have fA : Fn H8 HA := f9.trans fA'
    obtain ⟨v, HB, c13, S, T, awn, nwn, apn, npn, rfl, fB, gB, oB⟩ := implNewDisk_c (d + 1) H.length HA (dz8.fn fA).d.w (by omega)
    rw [resND_full h0] at c13 oB
    simp only at c13 oB
    have hnw : nwn = D.w.length := oB.w.1
    subst hnw
    obtain ⟨HC, hHC⟩ : ∃ HC : Hp, HC = HB ++ [some ⟨[.int .i64 0, .slice awn D.w.length (sg awn 1), .slice apn npn (sg apn 2)], true, false⟩] := ⟨_, rfl⟩
    have fC : Fn HB HC := hHC ▸ Fr.app
    have F8C : Fn H8 HC := fA.trans (fB.trans fC)
    have c14 := fun lo => lwNums_c (d + 8) lo HC (oB.rd.fn fC).w (dz8.fn F8C).d.w dz1.s.w
    have kdC := fun k => (show Fn (H1 ++ [some ⟨[.slice aw D.w.length (sg aw 1), .slice ap D.p.length (sg ap 2)], true, false⟩]) HC from hH2 ▸ (f28.trans F8C)).cell k
    have kPC := fun k => (show Fn (H9 ++ [some ⟨[.int .i64 0, .slice awp D.w.length (sg awp 1), .slice app (D.p ++ [(⟨5, 77⟩ : Bk)]).length (sg app 2)], true, false⟩]) HC from hHA ▸ (fB.trans fC)).cell k
    rw [← hP2] at kdC
    have qPC : rdN HC ⟨H9.length, 1, none⟩ 2 = some [.slice awp D.w.length (sg awp 1), .slice app (D.p ++ [(⟨5, 77⟩ : Bk)]).length (sg app 2)] := by
      rw [(fB.trans fC).rdN _ _ _ (by rw [hHA]; simp) id, hHA]; simp [rdN0]
    have c15 : ∀ lo, vcall env (d + 9) 22 [.agg #[.slice awp D.w.length (sg awp 1), .slice app (D.p ++ [(⟨5, 77⟩ : Bk)]).length (sg app 2)], .int .i64 5] lo HC = some (.agg #[.int .i64 0, .int .i64 77], HC) := fun lo => by
      have := wordAt_c d lo HC (dz9.fn (fA'.trans (fB.trans fC))) hput (k := 5) (by omega)
      rw [hflp] at this
      exact this
    generalize (D.p ++ [(⟨5, 77⟩ : Bk)]).length = m5 at *
    have qA := q2 HA (f28.trans fA)
    have kdA := fun k => (show Fn (H1 ++ [some ⟨[.slice aw D.w.length (sg aw 1), .slice ap D.p.length (sg ap 2)], true, false⟩]) HA from hH2 ▸ (f28.trans fA)).cell k
    rw [← hP2] at kdA
    have le3 : (H.length ≤ X3.length) = True := eq_true (by omega)
    have le5 : (H.length ≤ X5.length) = True := eq_true (by omega)
    have le7 : (H.length ≤ X7.length) = True := eq_true (by omega)
    have le8 : (H.length ≤ H9.length) = True := eq_true (by omega)
    have lB := fB.len
    have lA := fA.len
    have lA' := fA'.len
    have leB : (H.length ≤ HB.length) = True := eq_true (by omega)
    subst hHC
    subst hHA
    subst hH8
    subst hH6
    subst hH4
    subst hH2
    subst hP2 hP3 hP5 hP7
    simp -implicitDefEqProofs only [v5, VMs, noRef, noRef1, isRef, List.all_cons, List.all_nil, vop, VOp.still, VOp.app, VOp.plain, allP, lof, evs, start, asI, vbin, vcells, ntup, setAll, vfill, vress, vres, tup, Nat.reduceEqDiff, ↓reduceIte, Nat.reduceAdd, Nat.reduceMul, Nat.reduceLeDiff, reduceCtorEq, lwBig_c, hbig, decide_false, List.getElem?_toArray, c1, hle1, c3, le3, c5, le5, bne_self_eq_false, q24, q26, q28, c7, le7, k58, k56, k68, k78, slen, b64, b00, c9, q5, c10, vlp, hout, le8, c12, qA, kdA, c13, leB, kPC, kdC, b02, ha, c15, qPC, beq_self_eq_true, c14]
end Go.Proofs.Ytaahjfjpbilfnaa.V
