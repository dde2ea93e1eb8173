/- A pool told plainly: the program's; PlainOf. -/
import Derived.Test.YtflddpkmajoeaaaVLI
import Derived.Test.YtflddpkmajoeaaaVDD
namespace Go.Proofs.Ytflddpkmajoeaaa.V
open Go
set_option linter.unusedVariables false
set_option linter.unusedSimpArgs false
set_option maxRecDepth 100000
/-- The cells of one walk: the program's. -/
theorem plainCells (d lo L0 : Nat) (H0 H : Hp) {O T iw q R : Nat} {b : Int} {av lv ac lc} (h : PS L0 H0 H O b av lv ac lc) (hlo : lo ≤ O) (h0 : H0.length ≤ O) (hO : O < L0) (hTO : O < T) (i n : Int) (vs : Value) {x : Vo} {w : List Int} {k0 : Bool}
    (bT : H.blk T = some ⟨[.int .i64 x.i, .int .i64 x.q, .int .i64 x.r], true, false⟩) (bw : H.blk iw = some ⟨vI w, true, k0⟩) (hTc : ¬ Ad ac T) (hwc : ¬ Ad ac iw) (hwO : iw ≠ O) (hev : w.length % 2 = 0) (hw32 : w.length ≤ 32) (hsz : lc.length ≤ 800) :
    ∃ r, lim (rnd (vcall env d) lo [1, 2, 3, 5, 6, 7, 17, 18, 19] [1, 2, 3, 17, 18, 19] l86_0) [(1, .pointer (some ⟨q, 0, none⟩)), (2, .pointer (some ⟨R, 0, none⟩)), (3, .pointer (some ⟨O, 0, none⟩)), (5, .pointer (some ⟨T, 0, none⟩)), (6, .slice (some ⟨iw, 0, none⟩) w.length 1), (7, .int .i64 0), (17, vs), (18, .int .i64 n), (19, .int .i64 i)] H = some r ∧
      ∃ H' ac', r = (.exit 2, [(1, .pointer (some ⟨q, 0, none⟩)), (2, .pointer (some ⟨R, 0, none⟩)), (3, .pointer (some ⟨O, 0, none⟩)), (17, vs), (18, .int .i64 n), (19, .int .i64 i)], H') ∧ PS L0 H0 H' O b av lv ac' (lc ++ cellsW x.i w (w.length / 2)) ∧ Fw (fun j => j = O ∨ Ad ac j) H H' ∧ ∀ z, Ad ac' z → Ad ac z ∨ H.length ≤ z := by
  refine lim_inv (fun j ts H1 => ∃ ac1, ts = [(1, .pointer (some ⟨q, 0, none⟩)), (2, .pointer (some ⟨R, 0, none⟩)), (3, .pointer (some ⟨O, 0, none⟩)), (5, .pointer (some ⟨T, 0, none⟩)), (6, .slice (some ⟨iw, 0, none⟩) w.length 1), (7, .int .i64 (2 * j : Nat)), (17, vs), (18, .int .i64 n), (19, .int .i64 i)] ∧ PS L0 H0 H1 O b av lv ac1 (lc ++ cellsW x.i w j) ∧ Fw (fun z => z = O ∨ Ad ac z) H H1 ∧ ¬ Ad ac1 T ∧ ¬ Ad ac1 iw ∧ ∀ z, Ad ac1 z → Ad ac z ∨ H.length ≤ z) (w.length / 2) ?_ ?_ ?_
  · rintro j ts H1 hj ⟨ac1, rfl, p1, f1, n1, n2, n3⟩
    have hT1 := (f1.blk T (blk_lt bT) (fun hh => hh.elim (fun e => by omega) hTc)).trans bT
    have hw1 := (f1.blk iw (blk_lt bw) (fun hh => hh.elim hwO hwc)).trans bw
    have j1 : 2 * j < w.length := by omega
    have j2 : 2 * j + 1 < w.length := by omega
    obtain ⟨_, _, g2, _⟩ := p1.rdc
    have e0 : rd H1 ⟨T, 0, none⟩ = some (.int .i64 x.i) := by simp [rd, hT1]
    have e1 : rd H1 ⟨iw, 2 * j, none⟩ = some (.int .i64 w[2 * j]) := by simp [rd, hw1, vI, j1]
    have e2 : rd H1 ⟨iw, 2 * j + 1, none⟩ = some (.int .i64 w[2 * j + 1]) := by simp [rd, hw1, vI, j2]
    have ww : IntKind.i64.wrap (((2 * j : Nat) : Int) + 1) = ((2 * j + 1 : Nat) : Int) := by rw [wr (by omega) (by omega)]; rfl
    have ww2 : IntKind.i64.wrap (((2 * j : Nat) : Int) + 2) = ((2 * (j + 1) : Nat) : Int) := by rw [wr (by omega) (by omega)]; omega
    obtain ⟨H2, hH2⟩ : ∃ H2 : Hp, H2 = H1 ++ [some ⟨[.int .i64 x.i, .int .i64 w[2 * j], .int .i64 w[2 * j + 1]], true, false⟩] := ⟨_, rfl⟩
    have f2 : Fn H1 H2 := hH2 ▸ Fr.app
    have l2 : H2.length = H1.length + 1 := by rw [hH2]; simp
    obtain ⟨H3, H4, ha, hw, p4, fw4⟩ := (p1.new f2).addC (x := cellP x.i w j) hlo h0 hO (y := .slice (some ⟨H1.length, 0, none⟩) 1 3) rfl (by rw [hH2]; simp [scells, rdN0, v3, cellP, getE j1, getE j2]) (by rw [List.length_append, cellsW_len]; omega)
    have l1 := f1.len
    refine ⟨[(1, .pointer (some ⟨q, 0, none⟩)), (2, .pointer (some ⟨R, 0, none⟩)), (3, .pointer (some ⟨O, 0, none⟩)), (5, .pointer (some ⟨T, 0, none⟩)), (6, .slice (some ⟨iw, 0, none⟩) w.length 1), (7, .int .i64 ((2 * (j + 1) : Nat) : Int)), (17, vs), (18, .int .i64 n), (19, .int .i64 i)], H4, ?_, some ⟨H2.length, 0, none⟩, rfl, by rw [cellsW_succ, ← List.append_assoc]; exact p4, ?_, fun ⟨o, e⟩ => by cases e; have := blk_lt bT; omega, fun ⟨o, e⟩ => by cases e; have := blk_lt bw; omega, fun z ⟨o, e⟩ => by cases e; exact Or.inr (by omega)⟩
    · subst hH2
      simp only [List.length_append, List.length_cons, List.length_nil, Nat.zero_add, cellsW_len] at ha hw g2
      have h10 : ((1 : Nat) == 0) = false := rfl
      simp -implicitDefEqProofs only [rnd, l86_0, VMs, noRef, noRef1, isRef, List.all_cons, List.all_nil, vop, VOp.still, VOp.app, VOp.plain, allP, lof, evs, start, asI, vbin, vcells, ntup, setAll, vfill, vress, vres, tup, Nat.reduceEqDiff, ↓reduceIte, Nat.reduceAdd, Nat.reduceMul, Nat.reduceLeDiff, reduceCtorEq, slen, ww, ltc j2, ltc j1, ge0, decide_true, vdr, g2, e0, e1, e2, Int.toNat_natCast, Nat.mul_one, vfill, ev, lk, setAll, ntup, vcells, h10, List.length_append, cellsW_len, ha, hw, ww2]
    · refine f1.then ((f2.w.mono (fun _ => False.elim)).then fw4 (fun z hz _ => hz)) (fun z hz hl => ?_)
      rcases hz with e | e
      · exact Or.inl e
      · rcases n3 z e with e | e
        · exact Or.inr e
        · omega
  · rintro ts H1 ⟨ac1, rfl, p1, f1, _, _, n3⟩
    have hge : decide (((2 * (w.length / 2) : Nat) : Int) < (w.length : Int)) = false := decide_eq_false (by omega)
    exact ⟨(.exit 2, [(1, .pointer (some ⟨q, 0, none⟩)), (2, .pointer (some ⟨R, 0, none⟩)), (3, .pointer (some ⟨O, 0, none⟩)), (17, vs), (18, .int .i64 n), (19, .int .i64 i)], H1), by simp -implicitDefEqProofs only [rnd, l86_0, VMs, noRef, noRef1, isRef, List.all_cons, List.all_nil, vop, VOp.still, VOp.app, VOp.plain, allP, lof, evs, start, asI, vbin, vcells, ntup, setAll, vfill, vress, vres, tup, Nat.reduceEqDiff, ↓reduceIte, Nat.reduceAdd, Nat.reduceMul, Nat.reduceLeDiff, reduceCtorEq, slen, hge], by simp, H1, ac1, rfl, p1, f1, n3⟩
  · exact ⟨ac, rfl, by simp only [cellsW, List.range_zero, List.map_nil, List.append_nil]; exact h, Fw.refl, hTc, hwc, fun z hz => Or.inl hz⟩
/-- The volumes, one by one: the program's. -/
theorem plainVols (d lo L0 : Nat) (H0 H : Hp) {O q R : Nat} {b : Int} {an nn ab nb av nv p} (h : PS L0 H0 H O b none [] none []) (hlo : lo ≤ O) (h0 : H0.length ≤ O) (hO : O < L0) (hp : PP H0 q an nn ab nb av nv p) (hg : Good p.f) (hroot : ∀ v ∈ p.v, rootB p.f v.r = true) (hv6 : p.v.length ≤ 6) :
    ∃ r, lim (rnd (vcall env (d + 3)) lo [1, 2, 3, 17, 18, 19] [1, 2, 3] l86_1) [(1, .pointer (some ⟨q, 0, none⟩)), (2, .pointer (some ⟨R, 0, none⟩)), (3, .pointer (some ⟨O, 0, none⟩)), (17, .slice av nv (sg av 3)), (18, .int .i64 (nv : Nat)), (19, .int .i64 0)] H = some r ∧
      ∃ H' av' ac', r = (.exit 0, [(1, .pointer (some ⟨q, 0, none⟩)), (2, .pointer (some ⟨R, 0, none⟩)), (3, .pointer (some ⟨O, 0, none⟩))], H') ∧ PS L0 H0 H' O b av' (p.v.map volP) ac' (cellsP p.f p.v) ∧ Fw (fun j => j = O) H H' := by
  have n1 := hp.v.1
  refine lim_inv (fun i ts H1 => ∃ av1 ac1, ts = [(1, .pointer (some ⟨q, 0, none⟩)), (2, .pointer (some ⟨R, 0, none⟩)), (3, .pointer (some ⟨O, 0, none⟩)), (17, .slice av nv (sg av 3)), (18, .int .i64 (nv : Nat)), (19, .int .i64 (i : Nat))] ∧ PS L0 H0 H1 O b av1 ((p.v.take i).map volP) ac1 (cellsP p.f (p.v.take i)) ∧ Fw (fun j => j = O) H H1 ∧ ∀ z, Ad av1 z ∨ Ad ac1 z → H.length ≤ z) nv ?_ ?_ ?_
  · rintro i ts H1 hi ⟨av1, ac1, rfl, p1, f1, n3⟩
    have hil : i < p.v.length := by omega
    have hp1 := hp.fn p1.f
    obtain ⟨pv, ov, rfl, ev⟩ := hp1.v.at hil
    have ev3 := ev.val
    have hlc := cellsP_len p.f (p.v.take i)
    have hlv : ((p.v.take i).map volP).length = i := by simp; omega
    have hlt : (p.v.take i).length = i := by simp; omega
    obtain ⟨HT, hHT⟩ : ∃ HT : Hp, HT = H1 ++ [some ⟨[.int .i64 p.v[i].i, .int .i64 p.v[i].q, .int .i64 p.v[i].r], true, false⟩] := ⟨_, rfl⟩
    have fT : Fn H1 HT := hHT ▸ Fr.app
    have bT : HT.blk H1.length = some ⟨[.int .i64 p.v[i].i, .int .i64 p.v[i].q, .int .i64 p.v[i].r], true, false⟩ := by rw [hHT]; exact blk0
    have pT := p1.new fT
    have hT1 : HT.length = H1.length + 1 := by rw [hHT]; simp
    obtain ⟨_, g1, _, _⟩ := pT.rdc
    have eT0 : rd HT ⟨H1.length, 0, none⟩ = some (.int .i64 p.v[i].i) := by simp [rd, bT]
    have eT1 : rd HT ⟨H1.length, 1, none⟩ = some (.int .i64 p.v[i].q) := by simp [rd, bT]
    obtain ⟨H5, hH5⟩ : ∃ H5 : Hp, H5 = HT ++ [some ⟨[.int .i64 p.v[i].i, .int .i64 p.v[i].q, .int .i64 (-1)], true, false⟩] := ⟨_, rfl⟩
    have f5 : Fn HT H5 := hH5 ▸ Fr.app
    have l5 : H5.length = HT.length + 1 := by rw [hH5]; simp
    have p5 := pT.new f5
    obtain ⟨H6, H7, ha, hw, p7, fw7⟩ := p5.addV (x := volP p.v[i]) hlo h0 hO (y := .slice (some ⟨HT.length, 0, none⟩) 1 3) rfl (by rw [hH5]; simp [scells, rdN0, v3, volP]) (by omega)
    have hmv : (p.v.take i).map volP ++ [volP p.v[i]] = (p.v.take (i + 1)).map volP := by rw [List.take_succ_eq_append_getElem hil, List.map_append]; rfl
    rw [hmv] at p7
    have hle1 := p1.le
    have l7 := fw7.len
    have nv1 : ∀ z, Ad av1 z → z < H1.length := fun z hz => (p1.v.lt hz).2
    have hc1 : ∀ z, Ad ac1 z → z < H1.length := fun z hz => (p1.c.lt hz).2
    have bT7 := (fw7.blk _ (by omega) (fun hh => hh.elim (fun e => by omega) (fun e => by have := nv1 _ e; omega))).trans ((f5.blk _ (by omega) id).trans bT)
    have eT : rd H7 ⟨H1.length, 2, none⟩ = some (.int .i64 p.v[i].r) := by simp [rd, bT7]
    have hp7 := hp.fn p7.f
    obtain ⟨iw, HW, cw, fW, ⟨k0, bw, _⟩, hiw⟩ := walk_c d lo H7 hp7.f hg p.v[i].r (hroot _ (List.getElem_mem hil))
    have pW := p7.new fW
    have bTW := (fW.blk _ (by omega) id).trans bT7
    have hwl := walkL_len p.f p.v[i].r 16
    obtain ⟨r, hl, H3, ac3, rfl, p3, f3, n4⟩ := plainCells (d + 3) lo L0 H0 HW pW hlo h0 hO (T := H1.length) (iw := iw) (q := q) (R := R) (by omega) (i : Nat) (nv : Nat) (.slice (some ⟨pv, ov, none⟩) nv 3) (x := p.v[i]) bTW bw (fun hh => by have := hc1 _ hh; omega) (fun hh => by have := hc1 _ hh; omega) (by omega) (walkL_even _ _ _) (by omega) (by omega)
    have hcc : cellsP p.f (p.v.take i) ++ cellsW p.v[i].i (walkL p.f p.v[i].r 16) ((walkL p.f p.v[i].r 16).length / 2) = cellsP p.f (p.v.take (i + 1)) := (cellsP_succ hil).symm
    rw [hcc] at p3
    have lW := fW.len
    have l3 := f3.len
    have l1 := f1.len
    have ww : IntKind.i64.wrap ((i : Int) + 1) = ((i + 1 : Nat) : Int) := by rw [wr (by omega) (by omega)]; rfl
    have hleT : (lo ≤ H1.length) = True := eq_true (by omega)
    refine ⟨[(1, .pointer (some ⟨q, 0, none⟩)), (2, .pointer (some ⟨R, 0, none⟩)), (3, .pointer (some ⟨O, 0, none⟩)), (17, .slice (some ⟨pv, ov, none⟩) nv (sg (some ⟨pv, ov, none⟩) 3)), (18, .int .i64 (nv : Nat)), (19, .int .i64 ((i + 1 : Nat) : Int))], H3, ?_, some ⟨H5.length, 0, none⟩, ac3, rfl, p3, ?_, fun z hz => ?_⟩
    · subst hHT
      subst hH5
      simp only [List.length_append, List.length_cons, List.length_nil, Nat.zero_add, hlv] at ha hw g1 cw hl
      simp only [List.append_assoc, List.cons_append, List.nil_append] at ha
      have h10 : ((1 : Nat) == 0) = false := rfl
      simp -implicitDefEqProofs only [rnd, l86_1, VMs, noRef, noRef1, isRef, List.all_cons, List.all_nil, vop, VOp.still, VOp.app, VOp.plain, allP, lof, evs, start, asI, vbin, vcells, ntup, setAll, vfill, vress, vres, tup, Nat.reduceEqDiff, ↓reduceIte, Nat.reduceAdd, Nat.reduceMul, Nat.reduceLeDiff, reduceCtorEq, slen, ltc hi, ge0, decide_true, Int.toNat_natCast, ev3, ntup, vcells, hleT, g1, eT0, eT1, vfill, ev, lk, setAll, h10, List.length_append, ha, hw, eT, cw, vlp, hl, ww]
    · have q1 := ((f1.trans (fT.w.mono (fun _ => False.elim))).trans (f5.w.mono (fun _ => False.elim))).then fw7 (fun z hz hlz => hz.elim id (fun e => by have := n3 z (Or.inl e); omega))
      exact (q1.trans (fW.w.mono (fun _ => False.elim))).then f3 (fun z hz hlz => hz.elim id (fun e => by have := n3 z (Or.inr e); omega))
    · rcases hz with ⟨o, e⟩ | hz
      · cases e; omega
      · exact (n4 z hz).elim (fun e => n3 z (Or.inr e)) (fun e => by omega)
  · rintro ts H1 ⟨av1, ac1, rfl, p1, f1, _⟩
    rw [n1, List.take_length] at p1
    exact ⟨(.exit 0, [(1, .pointer (some ⟨q, 0, none⟩)), (2, .pointer (some ⟨R, 0, none⟩)), (3, .pointer (some ⟨O, 0, none⟩))], H1), by simp -implicitDefEqProofs only [rnd, l86_1, VMs, noRef, noRef1, isRef, List.all_cons, List.all_nil, vop, VOp.still, VOp.app, VOp.plain, allP, lof, evs, start, asI, vbin, vcells, ntup, setAll, vfill, vress, vres, tup, Nat.reduceEqDiff, ↓reduceIte, Nat.reduceAdd, Nat.reduceMul, Nat.reduceLeDiff, reduceCtorEq, Int.lt_irrefl, decide_false], by simp, H1, av1, ac1, rfl, p1, f1⟩
  · exact ⟨none, none, rfl, by simpa [cellsP] using h, Fw.refl, fun z hz => by rcases hz with ⟨o, e⟩ | ⟨o, e⟩ <;> cases e⟩
/-- How many blocks are in use: the program's loop. -/
theorem busyLoop (d lo : Nat) (H : Hp) {R O : Nat} {a : Option Addr} {n : Nat} {l : List Bk} (hr : Rep EB 2 H a n l) (hn : n ≤ 1000) (hlo : lo ≤ H.length) (hp : ∀ b ∈ l, 0 ≤ b.r) :
    ∃ r, lim (rnd (vcall env d) lo [2, 3, 8, 63, 64, 65] [2, 3, 8] l86_2) [(2, .pointer (some ⟨R, 0, none⟩)), (3, .pointer (some ⟨O, 0, none⟩)), (8, .int .i64 0), (63, .slice a n (sg a 2)), (64, .int .i64 (n : Nat)), (65, .int .i64 0)] H = some r ∧
      ∃ H', r = (.exit 4, [(2, .pointer (some ⟨R, 0, none⟩)), (3, .pointer (some ⟨O, 0, none⟩)), (8, .int .i64 (busyF l))], H') ∧ Fn H H' := by
  have hsm : Sm n := by unfold Sm; omega
  have hnl : l.take n = l := by rw [hr.1, List.take_length]
  refine lim_inv (fun j ts H1 => ts = [(2, .pointer (some ⟨R, 0, none⟩)), (3, .pointer (some ⟨O, 0, none⟩)), (8, .int .i64 (busyF (l.take j))), (63, .slice a n (sg a 2)), (64, .int .i64 (n : Nat)), (65, .int .i64 (j : Nat))] ∧ Fn H H1) n ?_ ?_ ?_
  · rintro i ts H1 hi ⟨rfl, f1⟩
    have hil : i < l.length := by rw [← hr.1]; exact hi
    obtain ⟨p, o, rfl, e⟩ := (hr.fnB f1).at hil
    have ev := e.val
    have hle : ((l.take i).countP fun b => decide (b.r ≠ 0)) ≤ i := Nat.le_trans List.countP_le_length (by simp only [List.length_take]; omega)
    have htk : busyF (l.take (i + 1)) = busyF (l.take i) + if l[i].r = 0 then 0 else 1 := by
      unfold busyF
      rw [List.take_succ_eq_append_getElem hil, List.countP_append]
      by_cases h0 : l[i].r = 0 <;> simp [h0]
    have hbn : 0 ≤ busyF (l.take i) ∧ busyF (l.take i) ≤ 1000 := by unfold busyF; omega
    have hleT : (lo ≤ H1.length) = True := eq_true (by have := f1.len; omega)
    have h0r := hp _ (List.getElem_mem hil)
    by_cases h0 : l[i].r = 0
    · have hg : decide (l[i].r > 0) = false := decide_eq_false (by omega)
      rw [if_pos h0, Int.add_zero] at htk
      refine ⟨[(2, .pointer (some ⟨R, 0, none⟩)), (3, .pointer (some ⟨O, 0, none⟩)), (8, .int .i64 (busyF (l.take (i + 1)))), (63, .slice (some ⟨p, o, none⟩) n (sg (some ⟨p, o, none⟩) 2)), (64, .int .i64 (n : Nat)), (65, .int .i64 ((i + 1 : Nat) : Int))], H1 ++ [some ⟨[.int .i64 l[i].r, .int .i64 l[i].d], true, false⟩], ?_, rfl, f1.trans Fr.app⟩
      simp -implicitDefEqProofs only [rnd, l86_2, VMs, noRef, noRef1, isRef, List.all_cons, List.all_nil, vop, VOp.still, VOp.app, VOp.plain, allP, lof, evs, start, asI, vbin, vcells, ntup, setAll, vfill, vress, vres, tup, Nat.reduceEqDiff, ↓reduceIte, Nat.reduceAdd, Nat.reduceMul, Nat.reduceLeDiff, reduceCtorEq, slen, ltc hi, ge0, decide_true, Int.toNat_natCast, ev, ntup, vcells, setAll, hleT, hg, hsm.w hi, htk]
    · have hg : decide (l[i].r > 0) = true := decide_eq_true (by omega)
      rw [if_neg h0] at htk
      have hw : IntKind.i64.wrap (busyF (l.take i) + 1) = busyF (l.take (i + 1)) := by rw [wr (by omega) (by omega), htk]
      refine ⟨[(2, .pointer (some ⟨R, 0, none⟩)), (3, .pointer (some ⟨O, 0, none⟩)), (8, .int .i64 (busyF (l.take (i + 1)))), (63, .slice (some ⟨p, o, none⟩) n (sg (some ⟨p, o, none⟩) 2)), (64, .int .i64 (n : Nat)), (65, .int .i64 ((i + 1 : Nat) : Int))], H1 ++ [some ⟨[.int .i64 l[i].r, .int .i64 l[i].d], true, false⟩], ?_, rfl, f1.trans Fr.app⟩
      simp -implicitDefEqProofs only [rnd, l86_2, VMs, noRef, noRef1, isRef, List.all_cons, List.all_nil, vop, VOp.still, VOp.app, VOp.plain, allP, lof, evs, start, asI, vbin, vcells, ntup, setAll, vfill, vress, vres, tup, Nat.reduceEqDiff, ↓reduceIte, Nat.reduceAdd, Nat.reduceMul, Nat.reduceLeDiff, reduceCtorEq, slen, ltc hi, ge0, decide_true, Int.toNat_natCast, ev, ntup, vcells, setAll, hleT, hg, hsm.w hi, hw]
  · rintro ts H1 ⟨rfl, f1⟩
    rw [hnl]
    exact ⟨(.exit 4, [(2, .pointer (some ⟨R, 0, none⟩)), (3, .pointer (some ⟨O, 0, none⟩)), (8, .int .i64 (busyF l))], H1), by simp -implicitDefEqProofs only [rnd, l86_2, VMs, noRef, noRef1, isRef, List.all_cons, List.all_nil, vop, VOp.still, VOp.app, VOp.plain, allP, lof, evs, start, asI, vbin, vcells, ntup, setAll, vfill, vress, vres, tup, Nat.reduceEqDiff, ↓reduceIte, Nat.reduceAdd, Nat.reduceMul, Nat.reduceLeDiff, reduceCtorEq, Int.lt_irrefl, decide_false], by simp, H1, rfl, f1⟩
  · exact ⟨by simp [busyF], Fr.refl⟩
theorem NewLP.old {H HB H' : Hp} {v : Value} {p : Pl} (h : NewLP HB H' v p) (hf : Fn H HB) : NewLP H H' v p := by
  obtain ⟨U, V, W, av, nv, ac, nc, az, nz, rfl, f, g, o⟩ := h
  exact ⟨U, V, W, av, nv, ac, nc, az, nz, rfl, hf.trans f, fun i hi => Nat.le_trans hf.len (g i hi), o.lo hf.len⟩
theorem plainOf_c (d lo : Nat) (H : Hp) {an nn ab nb av nv p} (h : RP' H an nn ab nb av nv p) (hg : Good p.f) (hroot : ∀ v ∈ p.v, rootB p.f v.r = true) (hv6 : p.v.length ≤ 6) (hb24 : p.f.b.length ≤ 24) :
    ∃ v H', vcall env (d + 4) 86 [.agg #[.slice an nn (sg an 3), .slice ab nb (sg ab 2), .slice av nv (sg av 3)]] lo H = some (v, H') ∧ NewLP H H' v (plainP p) := by
  have nb1 := h.f.b.1
  obtain ⟨HB, hHB⟩ : ∃ HB : Hp, HB = H ++ [some ⟨[.slice an nn (sg an 3), .slice ab nb (sg ab 2), .slice av nv (sg av 3)], true, false⟩] := ⟨_, rfl⟩
  have fB : Fn H HB := hHB ▸ Fr.app
  have lB : HB.length = H.length + 1 := by rw [hHB]; simp
  have hp : PP HB H.length an nn ab nb av nv p := by rw [hHB]; exact ⟨⟨by simp [rd0], by simp [rd0], h.f.app⟩, by simp [rd0], h.v.app fun _ _ _ => EV.app⟩
  obtain ⟨HO, hHO⟩ : ∃ HO : Hp, HO = HB ++ [some ⟨[.int .i64 0, .slice none 0 0, .slice none 0 0, .slice none 0 0], true, false⟩, some ⟨[.int .i64 (nb : Nat), .slice none 0 0, .slice none 0 0, .slice none 0 0], true, false⟩] := ⟨_, rfl⟩
  have fO : Fn HB HO := hHO ▸ Fr.app
  have lO : HO.length = HB.length + 2 := by rw [hHO]; simp
  have hp0 : PS (HB.length + 2) HB HO (HB.length + 1) (nb : Int) none [] none [] := ⟨fO, by omega, by rw [hHO]; exact blkn 1, Or.inl ⟨rfl, rfl, rfl⟩, Or.inl ⟨rfl, rfl, rfl⟩, fun i e => (noAd e).elim⟩
  obtain ⟨r, hl, H1, av1, ac1, rfl, p1, f1⟩ := plainVols d H.length (HB.length + 2) HB HO (q := H.length) (R := HB.length) hp0 (by omega) (by omega) (by omega) hp hg hroot hv6
  have hpO := hp.fn fO
  have gsO := hpO.s
  have hp1 := hp.fn p1.f
  have gb2 := hp1.f.b
  have l1 := f1.len
  obtain ⟨_, hl2, H2, rfl, f12⟩ := busyLoop (d + 3) H.length H1 (R := HB.length) (O := HB.length + 1) hp1.f.f.b (by omega) (by omega) (fun b hb => ((fB_ok.1 hg.b).2 b hb).1.1)
  have p2 := p1.new f12
  obtain ⟨g0, _, _, g3⟩ := p2.rdc
  have hb0 : 0 ≤ busyF p.f.b := by unfold busyF; omega
  have rR : HO.blk HB.length = some ⟨[.int .i64 0, .slice none 0 0, .slice none 0 0, .slice none 0 0], true, false⟩ := by rw [hHO]; exact blk0
  have rR1 := (f12.blk HB.length (by omega) id).trans ((f1.blk HB.length (by omega) (by omega)).trans rR)
  have l2 := f12.len
  rw [call_eq find86 _ _ _ rfl]
  by_cases hpos : 0 < busyF p.f.b
  · have hg1 : decide (busyF p.f.b > 0) = true := decide_eq_true hpos
    obtain ⟨H3, hH3⟩ : ∃ H3 : Hp, H3 = H2 ++ [some ⟨[.int .i64 (busyF p.f.b)], true, false⟩] := ⟨_, rfl⟩
    have f3 : Fn H2 H3 := hH3 ▸ Fr.app
    have p3 := p2.new f3
    have w4 := wr_at (lo := H.length) (o := 3) p3.o (by omega) [.slice (some ⟨H2.length, 0, none⟩) 1 1] (by simp)
    have fr4 := Fr.setB p3.o (setAll [.int .i64 (nb : Int), .slice av1 (p.v.map volP).length (sg av1 3), .slice ac1 (cellsP p.f p.v).length (sg ac1 3), .slice none 0 0] 3 [.slice (some ⟨H2.length, 0, none⟩) 1 1])
    obtain ⟨H4, hH4⟩ : ∃ H4, H4 = setB H3 (HB.length + 1) (setAll [.int .i64 (nb : Int), .slice av1 (p.v.map volP).length (sg av1 3), .slice ac1 (cellsP p.f p.v).length (sg ac1 3), .slice none 0 0] 3 [.slice (some ⟨H2.length, 0, none⟩) 1 1]) := ⟨_, rfl⟩
    rw [← hH4] at w4 fr4
    have g4 : rdN H4 ⟨HB.length + 1, 0, none⟩ 4 = some [.int .i64 (nb : Int), .slice av1 (p.v.map volP).length (sg av1 3), .slice ac1 (cellsP p.f p.v).length (sg ac1 3), .slice (some ⟨H2.length, 0, none⟩) 1 1] := by rw [hH4]; exact rdN_setB p3.o 4 _ rfl
    have rR4 := (fr4.blk HB.length (by have := f3.len; omega) (by omega)).trans ((f3.blk HB.length (by omega) id).trans rR1)
    have w5 := fun vs hv => wr_setB (lo := H.length) rR4 (by omega) vs hv
    have w6 := fun vs hv => rdN_setB rR4 4 vs hv
    have bZ : H3.blk H2.length = some ⟨[.int .i64 (busyF p.f.b)], true, false⟩ := by rw [hH3]; exact blk0
    have hz : Rep EI 1 H3 (some ⟨H2.length, 0, none⟩) 1 [busyF p.f.b] := ⟨rfl, fun _ => ⟨H2.length, 0, rfl, fun j y hy => by
      cases j with
      | zero => simp only [List.getElem?_cons_zero, Option.some.injEq] at hy; subst hy; simp [EI, rd, bZ]
      | succ j => simp at hy⟩⟩
    have hn := p3.newLP (R := HB.length) (by omega) (by omega) (az := some ⟨H2.length, 0, none⟩) (s := [busyF p.f.b]) hz (fun i ⟨o, e⟩ => by
      cases e
      exact ⟨⟨by omega, _, bZ, rfl⟩, fun hh => by have := (p2.v.lt hh).2; omega, fun hh => by have := (p2.c.lt hh).2; omega, by omega, by omega⟩) (by omega) (by omega) (by omega) ((fr4.mono fun i e => Or.inr e).trans ((Fr.setB rR4 [.int .i64 (nb : Int), .slice av1 (p.v.map volP).length (sg av1 3), .slice ac1 (cellsP p.f p.v).length (sg ac1 3), .slice (some ⟨H2.length, 0, none⟩) 1 1]).mono fun i e => Or.inl e))
    have hpe : plainP p = ⟨(nb : Int), p.v.map volP, cellsP p.f p.v, [busyF p.f.b]⟩ := by unfold plainP; rw [if_pos hpos, nb1]
    rw [← hpe] at hn
    have hn' := hn.old fB
    have h10 : ((1 : Nat) == 0) = false := rfl
    subst hH3 hHO hHB
    simp only [List.length_cons, List.length_nil, Nat.zero_add, sgs, List.length_append, List.append_assoc, List.cons_append, List.nil_append, Nat.add_assoc, Nat.reduceAdd] at hn' gsO hl hl2 w4 g4 w5 w6
    simp -implicitDefEqProofs only [v86, VMs, vop, VOp.still, VOp.app, VOp.plain, allP, lof, evs, start, asI, vbin, vcells, ntup, setAll, vfill, vress, vres, tup, Nat.reduceEqDiff, ↓reduceIte, Nat.reduceAdd, Nat.reduceMul, Nat.reduceLeDiff, reduceCtorEq, gsO, slen, vlp, hl, gb2, hl2, hg1, vfill, ev, lk, setAll, ntup, vcells, h10, w4, g4, w5, w6]
    exact ⟨_, _, rfl, hn'.done⟩
  · have hg1 : decide (busyF p.f.b > 0) = false := decide_eq_false hpos
    have w5 := fun vs hv => wr_setB (lo := H.length) rR1 (by omega) vs hv
    have w6 := fun vs hv => rdN_setB rR1 4 vs hv
    have hn := p2.newLP (R := HB.length) (by omega) (by omega) (az := none) (s := []) Rep.nil (fun i e => (noAd e).elim) (by omega) (by omega) (by omega) ((Fr.setB rR1 [.int .i64 (nb : Int), .slice av1 (p.v.map volP).length (sg av1 3), .slice ac1 (cellsP p.f p.v).length (sg ac1 3), .slice none 0 0]).mono fun i e => Or.inl e)
    have hpe : plainP p = ⟨(nb : Int), p.v.map volP, cellsP p.f p.v, []⟩ := by unfold plainP; rw [if_neg hpos, nb1]
    rw [← hpe] at hn
    have hn' := hn.old fB
    subst hHO hHB
    simp only [List.length_cons, List.length_nil, Nat.zero_add, sgn, List.length_append, List.append_assoc, List.cons_append, List.nil_append, Nat.add_assoc, Nat.reduceAdd] at hn' gsO hl hl2 g3 w5 w6
    simp -implicitDefEqProofs only [v86, VMs, vop, VOp.still, VOp.app, VOp.plain, allP, lof, evs, start, asI, vbin, vcells, ntup, setAll, vfill, vress, vres, tup, Nat.reduceEqDiff, ↓reduceIte, Nat.reduceAdd, Nat.reduceMul, Nat.reduceLeDiff, reduceCtorEq, gsO, slen, vlp, hl, gb2, hl2, hg1, g3, w5, w6]
    exact ⟨_, _, rfl, hn'.done⟩
end Go.Proofs.Ytflddpkmajoeaaa.V
