/- The bytes' journal: the whole. -/
import Derived.Test.YtaahjfjpbilfnaaVJH
namespace Go.Proofs.Ytaahjfjpbilfnaa.V
open Go
set_option linter.unusedVariables false
set_option linter.unusedSimpArgs false
set_option maxRecDepth 100000
theorem ex3 (a b c : Value) : (#[a, b, c] : Array Value).extract 1 3 = #[b, c] := rfl
theorem sz3 (a b c : Value) : (#[a, b, c] : Array Value).size = 3 := rfl
theorem DZ.frT {T : Nat → Prop} {H H' : Hp} {aw nw ap np D} (h : DZ H aw nw ap np D) (hw : ∀ j, Ad aw j → ¬ T j) (hp : ∀ j, Ad ap j → ¬ T j) (hf : Fr T H H') : DZ H' aw nw ap np D :=
  ⟨⟨h.d.w.fr hw hf, h.d.p.frB hp hf⟩, fun A e => by
    obtain ⟨hs, b, hb, hl⟩ := h.x A e
    obtain ⟨i, o, s⟩ := A
    simp only at hs
    subst hs
    exact ⟨rfl, b, (hf.blk _ (blk_lt hb) (hw _ ⟨o, e⟩)).trans hb, hl⟩, h.s⟩
theorem Rep.up {H H' : Hp} {W n v : Nat} {l : List Int} {x : Int} (r : Rep EI 1 H (some ⟨W, 0, none⟩) n l) (u : Up W v (.int .i64 x) H H') (hv : v < l.length) : Rep EI 1 H' (some ⟨W, 0, none⟩) n (l.set v x) :=
  ⟨by rw [List.length_set]; exact r.1, fun hl => ⟨W, 0, rfl, fun j y hj => by
    obtain ⟨i', o', e', h2⟩ := r.2 (by intro e; rw [e] at hv; simp at hv)
    cases e'
    simp only [EI, Nat.zero_add, Nat.mul_one] at h2 ⊢
    rw [List.getElem?_set] at hj
    by_cases e : v = j
    · subst e
      rw [if_pos rfl, if_pos hv] at hj
      cases hj
      exact u.at_
    · rw [if_neg e] at hj
      exact (u.oth W j (fun hh => e hh.2.symm)).trans (h2 j y hj)⟩⟩
theorem DJ.oth {S : Nat → Prop} {T : Nat} {H0 H H' q ac code k Q W ap D} (h : DJ H0 H q ac code k Q W ap D) (hf : Fw S H H') (hS : ∀ j, S j → T ≤ j) (hT : H0.length ≤ T) (hQ : Q < T) (hW : W < T) (hR : H0.length < T) (hp : ∀ i, Ad ap i → i < T) : DJ H0 H' q ac code k Q W ap D := by
  have h1 := h.q0
  exact ⟨h.w.then hf (fun j e hj => by have := hS j e; omega), h.s.fw hf (fun e => by have := hS q e; omega) (fun i hi hc e => by have := h.c0 i hi hc; have := hS i e; omega), h.q0, h.c0, (hf.blk _ (blk_lt h.r) (fun e => by have := hS _ e; omega)).trans h.r, (hf.blk _ (blk_lt h.cq) (fun e => by have := hS _ e; omega)).trans h.cq, h.rw.fwI hf (fun i hi e => by have := hi.eq; have := hS _ e; omega), hf.wb h.ww (fun e => by have := hS _ e; omega), h.hp.fw hf (fun i hi e => by have := hp i hi; have := hS _ e; omega), h.g, h.ql, h.wl, h.pn⟩
set_option maxHeartbeats 8000000 in
theorem l2Disk_c (d lo : Nat) (H0 : Hp) {q : Nat} {ac : Option Addr} {code : List Int} {k : Nat} (h : Src H0 q ac code k) (hlo : lo ≤ q) (hk : k ≤ 700000000) (hc0 : ∀ i, Ad ac i → code ≠ [] → i < H0.length) :
    ∃ aw ap D H', vcall env (d + 6) 101 [.pointer (some ⟨q, 0, none⟩)] lo H0 = some (.agg #[.slice aw D.w.length (sg aw 1), .slice ap D.p.length (sg ap 2)], H') ∧ Fw (· = q) H0 H' ∧ (∃ k', k' ≤ k + 1000 ∧ Src H' q ac code k') ∧ DZ H' aw D.w.length ap D.p.length D ∧ (∀ j, Ad aw j → H0.length < j) ∧ (∀ j, Ad ap j → H0.length < j) ∧ ∃ A, aw = some A := by
  have hq0 := blk_lt h.b
  have hlo0 : lo ≤ H0.length := by omega
  obtain ⟨H1, hH1⟩ : ∃ H1 : Hp, H1 = H0 ++ [some ⟨[.slice none 0 0, .slice none 0 0], true, false⟩] := ⟨_, rfl⟩
  have f1 : Fn H0 H1 := hH1 ▸ Fr.app
  have l1 : H1.length = H0.length + 1 := by rw [hH1]; simp
  have b1 : H1.blk H0.length = some ⟨[.slice none 0 0, .slice none 0 0], true, false⟩ := by rw [hH1]; exact blk0
  obtain ⟨W, H2, c2, f2, hW, bW⟩ := l1New_c (d + 4) lo H1
  have hWl := blk_lt bW
  have l2 := f2.len
  have hle2 : (lo ≤ H2.length) = True := eq_true (by omega)
  obtain ⟨H3, hH3⟩ : ∃ H3 : Hp, H3 = H2 ++ [some ⟨[.slice (some ⟨W, 0, none⟩) 64 1, .slice none 0 0], true, false⟩] := ⟨_, rfl⟩
  have f3 : Fn H2 H3 := hH3 ▸ Fr.app
  have b3 : H3.blk H2.length = some ⟨[.slice (some ⟨W, 0, none⟩) 64 1, .slice none 0 0], true, false⟩ := by rw [hH3]; exact blk0
  obtain ⟨Q, hQ⟩ : ∃ Q : Nat, Q = H2.length := ⟨_, rfl⟩
  have F3 : Fn H0 H3 := f1.trans (f2.trans f3)
  have bW3 := (f3.blk _ hWl id).trans bW
  have hl64 : (List.replicate 64 (0 : Int)).length = 64 := by simp
  have j3 : DJ H0 H3 q ac code k Q W none ⟨List.replicate 64 0, []⟩ := ⟨Fw.q F3, h.fn F3, hq0, hc0, ((f2.trans f3).blk _ (by omega) id).trans b1, by rw [hQ, b3, hl64]; rfl, vI_rep bW3 rfl, ⟨by omega, _, bW3, rfl⟩, Or.inl ⟨rfl, rfl, rfl⟩, dF_of hl64 (by simp) (fun x hx => by rw [(List.mem_replicate.1 hx).2]; rfl) (by simp), by omega, by omega, fun i hi => hi.no.elim⟩
  have c4 := l1Next_c (d + 4) lo H3 j3.s hlo (by omega) 12
  have j4 := j3.next
  obtain ⟨n1, n2⟩ := nextV_in h.y k (n := 12) (by omega)
  obtain ⟨n, hn⟩ : ∃ n : Nat, nextV code k 12 = (n : Int) := ⟨_, (Int.toNat_of_nonneg n1).symm⟩
  rw [hn] at n2 c4
  obtain ⟨H4, hH4⟩ : ∃ H4 : Hp, H4 = srcB H3 q ac code (k + 1) := ⟨_, rfl⟩
  rw [← hH4] at c4 j4
  have hl1 : ∃ r, lim (rnd (vcall env (d + 5)) lo [0, 2, 3, 4] [0, 2, 3] l101_0) [(0, .pointer (some ⟨q, 0, none⟩)), (2, .pointer (some ⟨H0.length, 0, none⟩)), (3, .pointer (some ⟨Q, 0, none⟩)), (4, .int .i64 (n : Nat))] H4 = some r ∧
      ∃ X k' W ap D, r = (.exit 0, [(0, .pointer (some ⟨q, 0, none⟩)), (2, .pointer (some ⟨H0.length, 0, none⟩)), (3, .pointer (some ⟨Q, 0, none⟩))], X) ∧ DJ H0 X q ac code k' Q W ap D ∧ k' ≤ k + 200 := by
    refine lim_inv (fun j ts X => ∃ k' W ap D, ts = [(0, .pointer (some ⟨q, 0, none⟩)), (2, .pointer (some ⟨H0.length, 0, none⟩)), (3, .pointer (some ⟨Q, 0, none⟩)), (4, .int .i64 ((n - j : Nat) : Int))] ∧ DJ H0 X q ac code k' Q W ap D ∧ k' ≤ k + 1 + 11 * j) n ?_ ?_ ?_
    · rintro j ts X hj ⟨k', W, ap, D, rfl, dj, kb⟩
      have hg : decide (((n - j : Nat) : Int) > 0) = true := decide_eq_true (by omega)
      have hw : IntKind.i64.wrap (((n - j : Nat) : Int) - 1) = ((n - (j + 1) : Nat) : Int) := by rw [wr (by omega) (by omega)]; omega
      have lX := dj.w.len
      have hql := dj.ql
      have rK : rdN (kill [q] X) ⟨Q, 0, none⟩ 2 = some [.slice (some ⟨W, 0, none⟩) D.w.length 1, .slice ap D.p.length (sg ap 2)] := (rdN_kill (by simp; omega)).trans (by simp [rdN, dj.cq])
      obtain ⟨i, w, X2, c, va, vb, X3, Y4, k2, c5, c6, sm1, sm2, bk1, kl, bk2, w4, r4, kb2, hor⟩ := first_c d lo dj hlo (by omega)
      have fo : flos [⟨some 15, none, .load true 2 (.t 3)⟩, ⟨some 16, none, .mv (.t 0)⟩, ⟨some 17, none, .call 102 [.t 16]⟩, ⟨some 18, none, .call 59 [.t 15, .t 17]⟩, ⟨some 5, none, .new [.int .i64 0, .slice none 0 0, .slice none 0 0]⟩] = [some ⟨[.int .i64 0, .slice none 0 0, .slice none 0 0], true, false⟩] := rfl
      have fx : ∀ m : Nat, flx [⟨some 15, none, .load true 2 (.t 3)⟩, ⟨some 16, none, .mv (.t 0)⟩, ⟨some 17, none, .call 102 [.t 16]⟩, ⟨some 18, none, .call 59 [.t 15, .t 17]⟩, ⟨some 5, none, .new [.int .i64 0, .slice none 0 0, .slice none 0 0]⟩] m = [(m, some 5)] := fun m => rfl
      have kf1 : keepF [(X.length, some 5)] ⟨some 17, none, .call 102 [.t 16]⟩ = [X.length] := rfl
      have kf2 : keepF [(X.length, some 5)] ⟨some 18, none, .call 59 [.t 15, .t 17]⟩ = [X.length] := rfl
      have kN : kill [X.length] (X ++ [some ⟨[.int .i64 0, .slice none 0 0, .slice none 0 0], true, false⟩]) = X ++ [none] := by simp [kill]
      have loX : (lo ≤ X.length) = True := eq_true (by omega)
      rcases hor with ⟨hc, dj4⟩ | ⟨rfl, q4, Y5, W', ap', D', w5, dj5⟩
      · have hcb : (c == 0) = false := beq_eq_false_iff_ne.2 hc
        obtain ⟨b, Y1, c7, dj6, hcom⟩ := second_c d lo dj4 hlo (by omega)
        cases b with
        | false =>
          refine ⟨_, Y1, ?_, k2 + 1, W, ap, D, by rfl, dj6, by omega⟩
          simp -implicitDefEqProofs only [rnd, l101_0, VMs, noRef, noRef1, isRef, List.all_cons, List.all_nil, vop, VOp.still, VOp.app, VOp.plain, allP, lof, evs, start, asI, vbin, vcells, ntup, setAll, vfill, vress, vres, tup, Nat.reduceEqDiff, ↓reduceIte, Nat.reduceAdd, Nat.reduceMul, Nat.reduceLeDiff, reduceCtorEq, hg, vdF, qats, qat, Option.map_some, wn, wx (d := some 15) (.load true 2 (.t 3)) rfl, wx (d := some 16) (.mv (.t 0)) rfl, wx (d := some 17) (.call 102 [.t 16]) rfl, wx (d := some 18) (.call 59 [.t 15, .t 17]) rfl, wO_, wA_, wQ_, fx, fo, wf ⟨some 5, none, .new [.int .i64 0, .slice none 0 0, .slice none 0 0]⟩ _ rfl, kf1, kf2, kN, rK, c5, c6, sm1, sm2, bk1, kl, bk2, w4, r4, hcb, c7, hw]
        | true =>
          obtain ⟨i2, Y2, Y3, q8, c8, w8, dj8⟩ := hcom rfl
          refine ⟨_, Y3, ?_, k2 + 1, i2, none, _, by rfl, dj8, by omega⟩
          simp -implicitDefEqProofs only [rnd, l101_0, VMs, noRef, noRef1, isRef, List.all_cons, List.all_nil, vop, VOp.still, VOp.app, VOp.plain, allP, lof, evs, start, asI, vbin, vcells, ntup, setAll, vfill, vress, vres, tup, Nat.reduceEqDiff, ↓reduceIte, Nat.reduceAdd, Nat.reduceMul, Nat.reduceLeDiff, reduceCtorEq, hg, vdF, qats, qat, Option.map_some, wn, wx (d := some 15) (.load true 2 (.t 3)) rfl, wx (d := some 16) (.mv (.t 0)) rfl, wx (d := some 17) (.call 102 [.t 16]) rfl, wx (d := some 18) (.call 59 [.t 15, .t 17]) rfl, wO_, wA_, wQ_, fx, fo, wf ⟨some 5, none, .new [.int .i64 0, .slice none 0 0, .slice none 0 0]⟩ _ rfl, kf1, kf2, kN, rK, c5, c6, sm1, sm2, bk1, kl, bk2, w4, r4, hcb, c7, q8, c8, ex3, sz3, w8, hw]
      · obtain ⟨b, Y1, c7, dj6, hcom⟩ := second_c d lo dj5 hlo (by omega)
        cases b with
        | false =>
          refine ⟨_, Y1, ?_, k2 + 1, W', ap', D', by rfl, dj6, by omega⟩
          simp -implicitDefEqProofs only [rnd, l101_0, VMs, noRef, noRef1, isRef, List.all_cons, List.all_nil, vop, VOp.still, VOp.app, VOp.plain, allP, lof, evs, start, asI, vbin, vcells, ntup, setAll, vfill, vress, vres, tup, Nat.reduceEqDiff, ↓reduceIte, Nat.reduceAdd, Nat.reduceMul, Nat.reduceLeDiff, reduceCtorEq, hg, vdF, qats, qat, Option.map_some, wn, wx (d := some 15) (.load true 2 (.t 3)) rfl, wx (d := some 16) (.mv (.t 0)) rfl, wx (d := some 17) (.call 102 [.t 16]) rfl, wx (d := some 18) (.call 59 [.t 15, .t 17]) rfl, wO_, wA_, wQ_, fx, fo, wf ⟨some 5, none, .new [.int .i64 0, .slice none 0 0, .slice none 0 0]⟩ _ rfl, kf1, kf2, kN, rK, c5, c6, sm1, sm2, bk1, kl, bk2, w4, r4, beq_self_eq_true, q4, w5, c7, hw]
        | true =>
          obtain ⟨i2, Y2, Y3, q8, c8, w8, dj8⟩ := hcom rfl
          refine ⟨_, Y3, ?_, k2 + 1, i2, none, _, by rfl, dj8, by omega⟩
          simp -implicitDefEqProofs only [rnd, l101_0, VMs, noRef, noRef1, isRef, List.all_cons, List.all_nil, vop, VOp.still, VOp.app, VOp.plain, allP, lof, evs, start, asI, vbin, vcells, ntup, setAll, vfill, vress, vres, tup, Nat.reduceEqDiff, ↓reduceIte, Nat.reduceAdd, Nat.reduceMul, Nat.reduceLeDiff, reduceCtorEq, hg, vdF, qats, qat, Option.map_some, wn, wx (d := some 15) (.load true 2 (.t 3)) rfl, wx (d := some 16) (.mv (.t 0)) rfl, wx (d := some 17) (.call 102 [.t 16]) rfl, wx (d := some 18) (.call 59 [.t 15, .t 17]) rfl, wO_, wA_, wQ_, fx, fo, wf ⟨some 5, none, .new [.int .i64 0, .slice none 0 0, .slice none 0 0]⟩ _ rfl, kf1, kf2, kN, rK, c5, c6, sm1, sm2, bk1, kl, bk2, w4, r4, beq_self_eq_true, q4, w5, c7, q8, c8, ex3, sz3, w8, hw]
    · rintro ts X ⟨k', W, ap, D, rfl, dj, kb⟩
      have hg : decide (((n - n : Nat) : Int) > 0) = false := decide_eq_false (by omega)
      exact ⟨_, by simp -implicitDefEqProofs only [rnd, l101_0, VMs, noRef, noRef1, isRef, List.all_cons, List.all_nil, vop, VOp.still, VOp.app, VOp.plain, allP, lof, evs, start, asI, vbin, vcells, ntup, setAll, vfill, vress, vres, tup, Nat.reduceEqDiff, ↓reduceIte, Nat.reduceAdd, Nat.reduceMul, Nat.reduceLeDiff, reduceCtorEq, hg], by simp, X, k', W, ap, D, rfl, dj, by omega⟩
    · exact ⟨k + 1, W, none, _, by simp, j4, by omega⟩
  obtain ⟨_, hl1, X, k5, W5, ap5, D5, rfl, dj, kb5⟩ := hl1
  have c6 := l1Next_c (d + 4) lo X dj.s hlo (by omega) 14
  have j6 := dj.next
  obtain ⟨X6, hX6⟩ : ∃ X6 : Hp, X6 = srcB X q ac code (k5 + 1) := ⟨_, rfl⟩
  rw [← hX6] at c6 j6
  generalize nextV code k5 14 = sw at *
  have fin : ∀ {Y : Hp} {aw ap : Option Addr} {D : Dk} {k' : Nat}, Fw (· = q) H0 Y → Src Y q ac code k' → k' ≤ k + 1000 → Y.blk H0.length = some ⟨[.slice none 0 0, .slice none 0 0], true, false⟩ → DZ Y aw D.w.length ap D.p.length D → (∀ j, Ad aw j → H0.length < j) → (∀ j, Ad ap j → H0.length < j) → (∃ A, aw = some A) →
      ∃ H', wrN lo Y ⟨H0.length, 0, none⟩ [.slice aw D.w.length (sg aw 1), .slice ap D.p.length (sg ap 2)] = some H' ∧ rdN H' ⟨H0.length, 0, none⟩ 2 = some [.slice aw D.w.length (sg aw 1), .slice ap D.p.length (sg ap 2)] ∧ Fw (· = q) H0 H' ∧ (∃ k', k' ≤ k + 1000 ∧ Src H' q ac code k') ∧ DZ H' aw D.w.length ap D.p.length D ∧ (∀ j, Ad aw j → H0.length < j) ∧ (∀ j, Ad ap j → H0.length < j) ∧ ∃ A, aw = some A := by
    intro Y aw ap D k' fY sY kY bY zY nw np hA
    have ff := Fr.setB bY [.slice aw D.w.length (sg aw 1), .slice ap D.p.length (sg ap 2)]
    exact ⟨_, wr_setB bY hlo0 _ rfl, rdN_setB bY 2 _ rfl, fY.then ff.w (fun j e hj => by omega), ⟨k', kY, sY.fw ff.w (by omega) (fun i hi hc e => by have := hc0 i hi hc; omega)⟩, zY.frT (T := (· = H0.length)) (fun j hj e => by have := nw j hj; omega) (fun j hj e => by have := np j hj; omega) ff, nw, np, hA⟩
  have l6 := j6.w.len
  have lr6 := blk_lt j6.r
  have hql := j6.ql
  have hwl := j6.wl
  have nW : ∀ j, Ad (some ⟨W5, 0, none⟩) j → H0.length < j := fun j hj => by have := hj.eq; omega
  have nP : ∀ j, Ad ap5 j → H0.length < j := fun j hj => by have := (j6.pn j hj).2.2; omega
  have q6 : rdN X6 ⟨Q, 0, none⟩ 2 = some [.slice (some ⟨W5, 0, none⟩) D5.w.length 1, .slice ap5 D5.p.length (sg ap5 2)] := by simp [rdN, j6.cq]
  have gw := (dF_zero dj.g).w
  by_cases v23 : sw = 2 ∨ sw = 3
  · -- picks
    obtain ⟨Y0, hY0⟩ : ∃ Y0 : Hp, Y0 = X6 ++ [some ⟨[], true, true⟩] := ⟨_, rfl⟩
    have fY0 : Fn X6 Y0 := hY0 ▸ Fr.app
    have lY0 : Y0.length = X6.length + 1 := by rw [hY0]; simp
    have jY0 := j6.fn fY0
    have eY0 : Y0.blk X6.length = some ⟨[], true, true⟩ := by rw [hY0]; exact blk0
    obtain ⟨T, hT⟩ : ∃ T : Nat, T = X6.length := ⟨_, rfl⟩
    have tQ := blk_lt j6.cq
    obtain ⟨_, bW6, hbW6, _⟩ := j6.ww
    have tW := blk_lt hbW6
    have tP : ∀ i, Ad ap5 i → i < T := fun i hi => by have := (j6.hp.lt hi).2; omega
    have tR := blk_lt j6.r
    rw [← hT] at eY0
    have hl2 : ∃ r, lim (rnd (vcall env (d + 5)) lo [0, 2, 3, 6, 7] [2, 3, 6] l101_1) [(0, .pointer (some ⟨q, 0, none⟩)), (2, .pointer (some ⟨H0.length, 0, none⟩)), (3, .pointer (some ⟨Q, 0, none⟩)), (6, .slice (some ⟨T, 0, none⟩) 0 1), (7, .int .i64 0)] Y0 = some r ∧
        ∃ Y k' i bs k0, r = (.exit 3, [(2, .pointer (some ⟨H0.length, 0, none⟩)), (3, .pointer (some ⟨Q, 0, none⟩)), (6, .slice (some ⟨i, 0, none⟩) bs.length 1)], Y) ∧ DJ H0 Y q ac code k' Q W5 ap5 D5 ∧ k' ≤ k + 300 ∧ Y.blk i = some ⟨vO bs, true, k0⟩ ∧ bs.length = 40 := by
      refine lim_inv (fun j ts Y => ∃ i bs k' k0, ts = [(0, .pointer (some ⟨q, 0, none⟩)), (2, .pointer (some ⟨H0.length, 0, none⟩)), (3, .pointer (some ⟨Q, 0, none⟩)), (6, .slice (some ⟨i, 0, none⟩) bs.length 1), (7, .int .i64 (j : Nat))] ∧ DJ H0 Y q ac code k' Q W5 ap5 D5 ∧ k' ≤ k + 201 + j ∧ Y.blk i = some ⟨vO bs, true, k0⟩ ∧ (bs.length = 0 → k0 = true) ∧ T ≤ i ∧ bs.length = j) 40 ?_ ?_ ?_
      · rintro j ts Y hj ⟨i, bs, k', k0, rfl, jY, kb, bY, hk0, hi, hbl⟩
        have hg : decide ((j : Int) < 40) = true := decide_eq_true (by omega)
        have hw : IntKind.i64.wrap ((j : Int) + 1) = ((j + 1 : Nat) : Int) := by rw [wr (by omega) (by omega)]; rfl
        have lY := jY.w.len
        have c7 := l1Chance_c (d + 3) lo Y jY.s hlo (by omega) 2
        have j7 := jY.next
        obtain ⟨_, f7, l7⟩ := jY.s.next (k' + 1)
        have b7 : (srcB Y q ac code (k' + 1)).blk i = some ⟨vO bs, true, k0⟩ := (f7.blk _ (blk_lt bY) (by omega)).trans bY
        generalize srcB Y q ac code (k' + 1) = Y1 at *
        generalize (nextV code k' 2 == 0) = b at *
        obtain ⟨Y2, hY2⟩ : ∃ Y2 : Hp, Y2 = Y1 ++ [some ⟨[.bool b], true, false⟩] := ⟨_, rfl⟩
        have f2' : Fn Y1 Y2 := hY2 ▸ Fr.app
        have lY2 : Y2.length = Y1.length + 1 := by rw [hY2]; simp
        have bi := (f2'.blk _ (blk_lt b7) id).trans b7
        obtain ⟨Y3, ha, hb3, hl3, _, ho3⟩ := app_own (st := 1) (by_ := 1) (lo := lo) (i := i) (n := bs.length) (m := 1) (M := [.bool b]) (y := .slice (some ⟨Y1.length, 0, none⟩) 1 1) bi (by rw [vO_len, Nat.mul_one]) hk0 (by omega) rfl (by rw [hY2]; simp [scells, rdN0]) (by omega) (fits_small (by omega))
        have fw : Fw (· = i) Y2 Y3 := ⟨by omega, fun j hj hs => ho3 j hs hj⟩
        refine ⟨_, Y3, ?_, Y2.length, bs ++ [b], k' + 1, false, by rw [List.length_append], (j7.fn f2').oth fw (fun j e => by omega) (show H0.length ≤ T by omega) (by omega) (by omega) (by omega) tP, by omega, by rw [hb3]; simp [vO], fun e => by simp at e, by have := j7.w.len; have := blk_lt b7; omega, by simp [hbl]⟩
        subst hY2
        simp only [List.length_append, List.length_cons, List.length_nil, Nat.zero_add] at ha ⊢
        simp -implicitDefEqProofs only [rnd, l101_1, VMs, noRef, noRef1, isRef, List.all_cons, List.all_nil, vop, VOp.still, VOp.app, VOp.plain, allP, lof, evs, start, asI, vbin, vcells, ntup, setAll, vfill, vress, vres, tup, Nat.reduceEqDiff, ↓reduceIte, Nat.reduceAdd, Nat.reduceMul, Nat.reduceLeDiff, reduceCtorEq, hg, c7, h10, ha, hw]
      · rintro ts Y ⟨i, bs, k', k0, rfl, jY, kb, bY, hk0, hi, hbl⟩
        have hg : decide (((40 : Nat) : Int) < 40) = false := rfl
        exact ⟨_, by simp -implicitDefEqProofs only [rnd, l101_1, VMs, noRef, noRef1, isRef, List.all_cons, List.all_nil, vop, VOp.still, VOp.app, VOp.plain, allP, lof, evs, start, asI, vbin, vcells, ntup, setAll, vfill, vress, vres, tup, Nat.reduceEqDiff, ↓reduceIte, Nat.reduceAdd, Nat.reduceMul, Nat.reduceLeDiff, reduceCtorEq, hg], by simp, Y, k', i, bs, k0, rfl, jY, by omega, bY, hbl⟩
      · exact ⟨T, [], k5 + 1, true, by simp, jY0, by omega, eY0, fun _ => rfl, Nat.le_refl _, rfl⟩
    obtain ⟨_, hl2, Y, k7, i, bs, k0, rfl, jY, kb7, bY, hbl⟩ := hl2
    obtain ⟨i2, w2, Z, c8, a8, hw2⟩ := specCrash_ok (d + 1) lo Y jY.z (vO_rep bY rfl) (by omega) jY.g
    have hi2 := a8.o.1
    have lY := jY.w.len
    have lYr := blk_lt jY.r
    obtain ⟨H', e1, e2, e3, e4, e5⟩ := fin (aw := some ⟨i2, 0, none⟩) (ap := none) (D := ⟨w2, []⟩) (jY.w.trans (Fw.q a8.f)) (jY.s.fn a8.f) (by omega) ((a8.f.blk _ (blk_lt jY.r) id).trans jY.r) (a8.z ⟨by rw [hw2]; unfold Sm; omega, by simp [Sm]⟩) (fun j hj => by have := hj.eq; omega) (fun j hj => hj.no.elim) ⟨_, rfl⟩
    have q7 : rdN Y ⟨Q, 0, none⟩ 2 = some [.slice (some ⟨W5, 0, none⟩) D5.w.length 1, .slice ap5 D5.p.length (sg ap5 2)] := by simp [rdN, jY.cq]
    refine ⟨_, _, ⟨w2, []⟩, H', ?_, e3, e4, e5⟩
    simp only [hw2, List.length_nil, sgn, sgs] at e1 e2 c8 ⊢
    subst hT
    subst hY0
    subst hX6 hH4
    subst hQ hH3 hH1
    have q0 : ((0 : Nat) == 0) = true := rfl
    rw [call_eq find101 _ _ _ rfl]
    rcases v23 with v2 | v3
    · have hv2 : (sw == 2) = true := beq_iff_eq.2 v2
      simp -implicitDefEqProofs only [v101, VMs, noRef, noRef1, isRef, List.all_cons, List.all_nil, vop, VOp.still, VOp.app, VOp.plain, allP, lof, evs, start, asI, vbin, vcells, ntup, setAll, vfill, vress, vres, tup, Nat.reduceEqDiff, ↓reduceIte, Nat.reduceAdd, Nat.reduceMul, Nat.reduceLeDiff, reduceCtorEq, c2, hle2, c4, vlp, hl1, c6, hv2, q0, hl2, q7, c8, ex3, sz3, e1, e2]
    · have hv2 : (sw == 2) = false := beq_eq_false_iff_ne.2 (by omega)
      have hv3 : (sw == 3) = true := beq_iff_eq.2 v3
      simp -implicitDefEqProofs only [v101, VMs, noRef, noRef1, isRef, List.all_cons, List.all_nil, vop, VOp.still, VOp.app, VOp.plain, allP, lof, evs, start, asI, vbin, vcells, ntup, setAll, vfill, vress, vres, tup, Nat.reduceEqDiff, ↓reduceIte, Nat.reduceAdd, Nat.reduceMul, Nat.reduceLeDiff, reduceCtorEq, c2, hle2, c4, vlp, hl1, c6, hv2, hv3, q0, hl2, q7, c8, ex3, sz3, e1, e2]
  have hv2 : (sw == 2) = false := beq_eq_false_iff_ne.2 (by omega)
  have hv3 : (sw == 3) = false := beq_eq_false_iff_ne.2 (by omega)
  by_cases v0 : sw = 0
  · have hv0 : (sw == 0) = true := beq_iff_eq.2 v0
    obtain ⟨W8, o8, full, ap8, D8, Z, c8, dk⟩ := l1Disk_c (d + 2) lo X6 j6.s hlo (by omega) (fun j hj hc => by have := hc0 j hj hc; omega)
    obtain ⟨k8, _, k8b, s8⟩ := dk.s
    obtain ⟨H', e1, e2, e3, e4, e5⟩ := fin (aw := some ⟨W8, o8, none⟩) (ap := ap8) (D := D8) (j6.w.trans dk.w) s8 (by omega) ((dk.w.blk _ (blk_lt j6.r) (by omega)).trans j6.r) dk.z (fun j hj => by have := hj.eq; have := dk.wl; omega) (fun j hj => by have := (dk.hp.lt hj).1; omega) ⟨_, rfl⟩
    refine ⟨_, _, D8, H', ?_, e3, e4, e5⟩
    simp only [sgs] at e1 e2 c8 ⊢
    subst hX6 hH4
    subst hQ hH3 hH1
    rw [call_eq find101 _ _ _ rfl]
    simp -implicitDefEqProofs only [v101, VMs, noRef, noRef1, isRef, List.all_cons, List.all_nil, vop, VOp.still, VOp.app, VOp.plain, allP, lof, evs, start, asI, vbin, vcells, ntup, setAll, vfill, vress, vres, tup, Nat.reduceEqDiff, ↓reduceIte, Nat.reduceAdd, Nat.reduceMul, Nat.reduceLeDiff, reduceCtorEq, c2, hle2, c4, vlp, hl1, c6, hv2, hv3, hv0, c8, e1, e2]
  have hv0 : (sw == 0) = false := beq_eq_false_iff_ne.2 v0
  by_cases v1 : sw = 1
  · have hv1 : (sw == 1) = true := beq_iff_eq.2 v1
    have rK : rd (kill [q] X6) ⟨Q, 0, none⟩ = some (.slice (some ⟨W5, 0, none⟩) D5.w.length 1) := (rd_kill (by simp; have := j6.q0; omega)).trans (by simp [rd, j6.cq])
    have c8 := l1Next_c (d + 4) lo X6 j6.s hlo (by omega) 20
    have sm8 := Same.src X6 q ac code (k5 + 1 + 1)
    have j8 := j6.next
    generalize srcB X6 q ac code (k5 + 1 + 1) = X8 at *
    have c9 := l1Next_c (d + 4) lo X8 j8.s hlo (by omega) 20
    have sm9 := sm8.trans (Same.src X8 q ac code (k5 + 1 + 1 + 1))
    have j9 := j8.next
    generalize srcB X8 q ac code (k5 + 1 + 1 + 1) = X9 at *
    obtain ⟨z1, z2⟩ := nextV_in h.y (k5 + 1) (n := 20) (by omega)
    obtain ⟨z, hz⟩ : ∃ z : Nat, nextV code (k5 + 1) 20 = (z : Int) := ⟨_, (Int.toNat_of_nonneg z1).symm⟩
    rw [hz] at z2 c8
    generalize nextV code (k5 + 1 + 1) 20 = x at *
    have hzl : z < D5.w.length := by omega
    obtain ⟨_, _, e', ex⟩ := j9.rw.at hzl
    cases e'
    simp only [EI, Nat.zero_add, Nat.mul_one] at ex
    obtain ⟨Z, wz, uz⟩ := up1 (v := .int .i64 x) (j9.ww.lo hlo0) ex
    have fz := uz.fr
    have zz : DZ Z (some ⟨W5, 0, none⟩) (D5.w.set z x).length ap5 D5.p.length ⟨D5.w.set z x, D5.p⟩ := by
      have hr := j9.rw.up uz hzl
      have hn := hr.1
      rw [hn] at hr
      exact ⟨⟨hr, (j9.hp.fw fz.w (fun i hi e => (j9.pn i hi).1 e)).repP⟩, fun A e => by
        cases e
        obtain ⟨_, b, hb, _⟩ := fz.wb _ _ j9.ww
        exact ⟨rfl, b, hb, Nat.zero_le _⟩, ⟨by rw [List.length_set, gw]; unfold Sm; omega, (sd_good (dF_zero dj.g)).p⟩⟩
    have bR := (fz.blk _ (blk_lt j9.r) (by omega)).trans j9.r
    have bQ := (fz.blk _ (blk_lt j9.cq) (by omega)).trans j9.cq
    obtain ⟨H', e1, e2, e3, e4, e5⟩ := fin (aw := some ⟨W5, 0, none⟩) (ap := ap5) (D := ⟨D5.w.set z x, D5.p⟩) (j9.w.then fz.w (fun j e hj => by omega)) (j9.s.fw fz.w (by have := j9.q0; omega) (fun i hi hc e => by have := hc0 i hi hc; omega)) (by omega) bR zz nW nP ⟨_, rfl⟩
    have q9 : rdN Z ⟨Q, 0, none⟩ 2 = some [.slice (some ⟨W5, 0, none⟩) D5.w.length 1, .slice ap5 D5.p.length (sg ap5 2)] := by simp [rdN, bQ]
    refine ⟨_, _, ⟨D5.w.set z x, D5.p⟩, H', ?_, e3, e4, e5⟩
    simp only [sgs, List.length_set] at e1 e2 ⊢
    subst hX6 hH4
    subst hQ hH3 hH1
    rw [call_eq find101 _ _ _ rfl]
    simp -implicitDefEqProofs only [v101, VMs, noRef, noRef1, isRef, List.all_cons, List.all_nil, vop, VOp.still, VOp.app, VOp.plain, allP, lof, evs, start, asI, vbin, vcells, ntup, setAll, vfill, vress, vres, tup, Nat.reduceEqDiff, ↓reduceIte, Nat.reduceAdd, Nat.reduceMul, Nat.reduceLeDiff, reduceCtorEq, c2, hle2, c4, vlp, hl1, c6, hv2, hv3, hv0, hv1, vdD, qats, qat, Option.map_some, zn, zx, gO_, gA_, gQ_, rK, sm8, sm9, c8, c9, ltc hzl, ge0, Int.toNat_natCast, Nat.mul_one, Nat.zero_add, wz, q9, e1, e2]
  have hv1 : (sw == 1) = false := beq_eq_false_iff_ne.2 v1
  obtain ⟨H', e1, e2, e3, e4, e5⟩ := fin (aw := some ⟨W5, 0, none⟩) (ap := ap5) (D := D5) j6.w j6.s (by omega) j6.r j6.z nW nP ⟨_, rfl⟩
  refine ⟨_, _, D5, H', ?_, e3, e4, e5⟩
  simp only [sgs] at e1 e2 ⊢
  subst hX6 hH4
  subst hQ hH3 hH1
  rw [call_eq find101 _ _ _ rfl]
  simp -implicitDefEqProofs only [v101, VMs, noRef, noRef1, isRef, List.all_cons, List.all_nil, vop, VOp.still, VOp.app, VOp.plain, allP, lof, evs, start, asI, vbin, vcells, ntup, setAll, vfill, vress, vres, tup, Nat.reduceEqDiff, ↓reduceIte, Nat.reduceAdd, Nat.reduceMul, Nat.reduceLeDiff, reduceCtorEq, c2, hle2, c4, vlp, hl1, c6, hv2, hv3, hv0, hv1, q6, e1, e2]
end Go.Proofs.Ytaahjfjpbilfnaa.V
