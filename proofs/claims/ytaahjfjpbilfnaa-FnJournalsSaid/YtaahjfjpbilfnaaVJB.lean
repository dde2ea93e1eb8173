/- What is wrong with a record; a disk copied by the reference. -/
import Derived.Test.YtaahjfjpbilfnaaVJA
import Derived.Test.YtaahjfjpbilfnaaVQF
namespace Go.Proofs.Ytaahjfjpbilfnaa.V
open Go
set_option linter.unusedVariables false
set_option linter.unusedSimpArgs false
set_option maxRecDepth 100000
theorem implRecordFault_c (d lo : Nat) (H : Hp) {a : Option Addr} {n : Nat} {w : List Int} (h : Rep EI 1 H a n w) (hs : Sm n) : vcall env (d + 7) 62 [.slice a n (sg a 1)] lo H = some (.int .i64 (rF w), H) := by
  have hn := h.1
  have c1 := areWords_c d H.length H a n w h hs
  rw [call_eq find62 _ _ _ rfl]
  unfold rF
  by_cases h1 : 1 ≤ w.length ∧ w.length ≤ 8
  · have e1 : decide ((1 : Int) ≤ (n : Int) ∧ (n : Int) ≤ 8) = true := decide_eq_true (by omega)
    rw [if_pos h1]
    by_cases h2 : w.all wOK = true
    · rw [if_pos h2]
      rw [h2] at c1
      simp -implicitDefEqProofs only [v62, VMs, noRef, noRef1, isRef, List.all_cons, List.all_nil, vop, VOp.still, VOp.app, VOp.plain, allP, lof, evs, start, asI, vbin, vcells, ntup, setAll, vfill, vress, vres, tup, Nat.reduceEqDiff, ↓reduceIte, Nat.reduceAdd, Nat.reduceMul, Nat.reduceLeDiff, reduceCtorEq, slen, within_c, e1, c1]
    · rw [if_neg h2]
      have h2' : w.all wOK = false := by cases hx : w.all wOK; rfl; exact absurd hx h2
      rw [h2'] at c1
      simp -implicitDefEqProofs only [v62, VMs, noRef, noRef1, isRef, List.all_cons, List.all_nil, vop, VOp.still, VOp.app, VOp.plain, allP, lof, evs, start, asI, vbin, vcells, ntup, setAll, vfill, vress, vres, tup, Nat.reduceEqDiff, ↓reduceIte, Nat.reduceAdd, Nat.reduceMul, Nat.reduceLeDiff, reduceCtorEq, slen, within_c, e1, c1]
  · have e1 : decide ((1 : Int) ≤ (n : Int) ∧ (n : Int) ≤ 8) = false := decide_eq_false (by omega)
    rw [if_neg h1]
    simp -implicitDefEqProofs only [v62, VMs, noRef, noRef1, isRef, List.all_cons, List.all_nil, vop, VOp.still, VOp.app, VOp.plain, allP, lof, evs, start, asI, vbin, vcells, ntup, setAll, vfill, vress, vres, tup, Nat.reduceEqDiff, ↓reduceIte, Nat.reduceAdd, Nat.reduceMul, Nat.reduceLeDiff, reduceCtorEq, slen, within_c, e1]
theorem specRecordFault_c (d lo : Nat) (H : Hp) {a : Option Addr} {n : Nat} {w : List Int} (h : Rep EI 1 H a n w) (hs : Sm n) : vcall env (d + 3) 98 [.slice a n (sg a 1)] lo H = some (.int .i64 (rF w), H) := by
  have hn := h.1
  rw [call_eq find98 _ _ _ rfl]
  unfold rF
  by_cases h1 : 1 ≤ w.length ∧ w.length ≤ 8
  · have e1 : decide ((n : Int) < 1) = false := decide_eq_false (by omega)
    have e2 : decide ((n : Int) > 8) = false := decide_eq_false (by omega)
    have k1 := lim_all (f := rnd (vcall env (d + 2)) H.length [0, 3] [2] l98_0) (R := (.exit 0, [], H)) (E := (.ret, [(2, .int .i64 3)], H)) (by simp) (by simp) (fun i => [(0, .slice a n (sg a 1)), (3, .int .i64 (i : Nat))]) H n (fun i => ∀ x, w[i]? = some x → wOK x = true)
      (by simp -implicitDefEqProofs only [rnd, l98_0, VMs, noRef, noRef1, isRef, List.all_cons, List.all_nil, vop, VOp.still, VOp.app, VOp.plain, allP, lof, evs, start, asI, vbin, vcells, ntup, setAll, vfill, vress, vres, tup, Nat.reduceEqDiff, ↓reduceIte, Nat.reduceAdd, Nat.reduceMul, Nat.reduceLeDiff, reduceCtorEq, slen, Int.lt_irrefl, decide_false])
      (fun i hi => by
        have hil : i < w.length := by omega
        obtain ⟨i1, o1, rfl, ex⟩ := h.at hil
        simp only [EI, Nat.mul_one] at ex
        simp -implicitDefEqProofs only [rnd, l98_0, VMs, noRef, noRef1, isRef, List.all_cons, List.all_nil, vop, VOp.still, VOp.app, VOp.plain, allP, lof, evs, start, asI, vbin, vcells, ntup, setAll, vfill, vress, vres, tup, Nat.reduceEqDiff, ↓reduceIte, Nat.reduceAdd, Nat.reduceMul, Nat.reduceLeDiff, reduceCtorEq, slen, ltc hi, ge0, decide_true, Int.toNat_natCast, Nat.mul_one, ex, l1Word_c, hs.w hi, getE hil, Option.some.injEq, forall_eq']
        cases hw : wOK w[i] <;> simp [hw])
      (q := w.all wOK = true) (by
        rw [List.all_eq_true]
        exact ⟨fun hh x hx => by
          obtain ⟨j, hj, rfl⟩ := List.getElem_of_mem hx
          exact hh j (by omega) _ (getE hj), fun hh i _ x hx => hh x (List.mem_of_getElem? hx)⟩)
    simp only [Int.natCast_zero] at k1
    rw [if_pos h1]
    by_cases h2 : w.all wOK = true
    · rw [if_pos h2] at k1 ⊢
      simp -implicitDefEqProofs only [v98, VMs, noRef, noRef1, isRef, List.all_cons, List.all_nil, vop, VOp.still, VOp.app, VOp.plain, allP, lof, evs, start, asI, vbin, vcells, ntup, setAll, vfill, vress, vres, tup, Nat.reduceEqDiff, ↓reduceIte, Nat.reduceAdd, Nat.reduceMul, Nat.reduceLeDiff, reduceCtorEq, slen, e1, e2, vlp, k1]
    · rw [if_neg h2] at k1 ⊢
      simp -implicitDefEqProofs only [v98, VMs, noRef, noRef1, isRef, List.all_cons, List.all_nil, vop, VOp.still, VOp.app, VOp.plain, allP, lof, evs, start, asI, vbin, vcells, ntup, setAll, vfill, vress, vres, tup, Nat.reduceEqDiff, ↓reduceIte, Nat.reduceAdd, Nat.reduceMul, Nat.reduceLeDiff, reduceCtorEq, slen, e1, e2, vlp, k1]
  · rw [if_neg h1]
    by_cases h3 : (n : Int) < 1
    · simp -implicitDefEqProofs only [v98, VMs, noRef, noRef1, isRef, List.all_cons, List.all_nil, vop, VOp.still, VOp.app, VOp.plain, allP, lof, evs, start, asI, vbin, vcells, ntup, setAll, vfill, vress, vres, tup, Nat.reduceEqDiff, ↓reduceIte, Nat.reduceAdd, Nat.reduceMul, Nat.reduceLeDiff, reduceCtorEq, slen, h3, decide_true]
    · have e2 : decide ((n : Int) > 8) = true := decide_eq_true (by omega)
      simp -implicitDefEqProofs only [v98, VMs, noRef, noRef1, isRef, List.all_cons, List.all_nil, vop, VOp.still, VOp.app, VOp.plain, allP, lof, evs, start, asI, vbin, vcells, ntup, setAll, vfill, vress, vres, tup, Nat.reduceEqDiff, ↓reduceIte, Nat.reduceAdd, Nat.reduceMul, Nat.reduceLeDiff, reduceCtorEq, slen, h3, decide_false, e2]
theorem vapp0 {st by_ lo : Nat} {H : Hp} {i m : Nat} {M : List Value} {y : Value} (hb : H.blk i = some ⟨[], true, true⟩) (hm : slen y = some m) (hM : scells H st y = some M) (hm0 : 0 < m) (hfit : fits m by_ = true) :
    vappend st by_ lo H (.slice (some ⟨i, 0, none⟩) 0 st) y = some (.slice (some ⟨H.length, 0, none⟩) m st, H ++ [some ⟨M, true, false⟩]) := by
  simp only [vappend, hm, hM, Option.bind_some, hb]
  rw [if_pos ⟨trivial, trivial, trivial, by simp, rfl, by rwa [Nat.zero_add]⟩, if_neg (by omega), if_true]
set_option maxHeartbeats 4000000 in
theorem l1Copy_c (d lo : Nat) (H : Hp) {aw ap D} (h : DZ H aw D.w.length ap D.p.length D) (g : DGood D) :
    ∃ i b H', vcall env (d + 1) 91 [.agg #[.slice aw D.w.length (sg aw 1), .slice ap D.p.length (sg ap 2)]] lo H = some (.agg #[.slice (some ⟨i, 0, none⟩) D.w.length 1, .slice b D.p.length (sg b 2)], H') ∧ Fn H H' ∧ Rep EI 1 H' (some ⟨i, 0, none⟩) D.w.length D.w ∧ WB H.length H' i ∧ Hd H.length H' b D.p.length 2 (vP D.p) ∧ ∀ j, Ad b j → j ≠ i := by
  have gw := g.w
  have gp := g.p
  have hw0 : D.w ≠ [] := by intro e; rw [e] at gw; simp at gw
  obtain ⟨wi, wo, rfl, hwx⟩ := h.d.w.2 hw0
  have hwl : wi < H.length := by
    obtain ⟨_, b, hb, _⟩ := h.x _ rfl
    exact blk_lt hb
  obtain ⟨X, hX⟩ : ∃ X : Hp, X = H ++ [some ⟨[.slice (some ⟨wi, wo, none⟩) D.w.length 1, .slice ap D.p.length (sg ap 2)], true, false⟩, some ⟨[.slice none 0 0, .slice none 0 0], true, false⟩] := ⟨_, rfl⟩
  have lX : X.length = H.length + 2 := by rw [hX]; simp
  have fX : Fn H X := hX ▸ Fr.app
  obtain ⟨Y, hY⟩ : ∃ Y : Hp, Y = X ++ [some ⟨[], true, true⟩, some ⟨[], true, true⟩] := ⟨_, rfl⟩
  have fY : Fn X Y := hY ▸ Fr.app
  have lY : Y.length = X.length + 2 := by rw [hY]; simp
  have e0 : Y.blk X.length = some ⟨[], true, true⟩ := by rw [hY]; exact blk0
  have e1 : Y.blk (X.length + 1) = some ⟨[], true, true⟩ := by rw [hY]; exact blkn 1
  have zY := h.fn (fX.trans fY)
  have hcw : ∀ B : List Nat, (∀ x, x ∈ B → x ∈ [X.length + 1]) → scells (kill B Y) 1 (.slice (some ⟨wi, wo, none⟩) D.w.length 1) = some (vI D.w) := fun B hB => by
    have hnB : wi ∉ B := fun hh => by have := hB wi hh; simp at this; omega
    have := (zY.d.w.blkI (H' := kill B Y) (fun i hi => by rw [hi.eq]; exact blk_kill B Y wi hnB)).cellsI (fun A e => by
      cases e
      obtain ⟨hs, b, hb, hl⟩ := zY.x _ rfl
      exact ⟨hs, b, (blk_kill B Y wi hnB).trans hb, hl⟩)
    simpa only [sgs] using this
  have ha := vapp0 (st := 1) (by_ := 8) (lo := H.length) e0 rfl (hcw [] (fun x hx => by cases hx)) (show 0 < D.w.length by omega) (fits_small (by omega))
  have L6 := vapp0 (st := 1) (by_ := 8) (lo := H.length) ((blk_kill [X.length + 1] Y X.length (by simp)).trans e0) rfl (hcw [X.length + 1] (fun x hx => hx)) (show 0 < D.w.length by omega) (fits_small (by omega))
  rw [kill_len] at L6
  have B6 := back_app (K := [X.length + 1]) (H := Y) [some ⟨vI D.w, true, false⟩] (fun x hx => by simp at hx; omega)
  obtain ⟨Z, hZ⟩ : ∃ Z : Hp, Z = Y ++ [some ⟨vI D.w, true, false⟩] := ⟨_, rfl⟩
  rw [← hZ] at ha B6
  have fZ : Fn Y Z := hZ ▸ Fr.app
  have lZ : Z.length = Y.length + 1 := by rw [hZ]; simp
  have sm6 : Same [] X Z := by
    have e : Z = X ++ [some ⟨[], true, true⟩, some ⟨[], true, true⟩, some ⟨vI D.w, true, false⟩] := by rw [hZ, hY, List.append_assoc]; rfl
    rw [e]; exact Same.app _
  have bW : Z.blk Y.length = some ⟨vI D.w, true, false⟩ := by rw [hZ]; exact blk0
  have e1Z : Z.blk (X.length + 1) = some ⟨[], true, true⟩ := (fZ.blk _ (by omega) id).trans e1
  have hcp := (zY.d.p.fnB fZ).cellsP
  obtain ⟨b, V', hb, fV, hdV, lb, hbl⟩ : ∃ b V', vappend 2 16 H.length Z (.slice (some ⟨X.length + 1, 0, none⟩) 0 2) (.slice ap D.p.length (sg ap 2)) = some (.slice (some ⟨b, 0, none⟩) D.p.length 2, V') ∧ Fn Z V' ∧ Hd (X.length + 1) V' (some ⟨b, 0, none⟩) D.p.length 2 (vP D.p) ∧ b ≠ Y.length ∧ Z.length ≤ V'.length := by
    by_cases hp : D.p = []
    · rw [hp] at hcp ⊢
      refine ⟨X.length + 1, Z, ?_, Fr.refl, Or.inr ⟨_, true, rfl, e1Z, rfl, fun _ => rfl, Nat.le_refl _⟩, by omega, Nat.le_refl _⟩
      simp only [List.length_nil] at hcp ⊢
      simp only [vappend, slen, hcp, Option.bind_some, e1Z]
      rw [if_pos ⟨trivial, trivial, trivial, by simp, rfl, fits_small (by omega)⟩]; rfl
    · have hl : 0 < D.p.length := List.length_pos_iff.2 hp
      exact ⟨Z.length, _, vapp0 e1Z rfl hcp hl (fits_small (by omega)), Fr.app, Or.inr ⟨_, false, rfl, blk0, by rw [vP_len], fun e => by omega, by omega⟩, by omega, by simp⟩
  have F : Fn H V' := fX.trans (fY.trans (fZ.trans fV))
  have bR : V'.blk (H.length + 1) = some ⟨[.slice none 0 0, .slice none 0 0], true, false⟩ := ((fY.trans (fZ.trans fV)).blk _ (by omega) id).trans (by rw [hX]; exact blkn 1)
  have g3 := fun vs hv => wr_setB (lo := H.length) bR (by omega) vs hv
  have g4 := fun vs hv => rdN_setB bR 2 vs hv
  have ff := Fr.setB bR [.slice (some ⟨Y.length, 0, none⟩) D.w.length 1, .slice (some ⟨b, 0, none⟩) D.p.length 2]
  have bWV := (fV.blk _ (by omega) id).trans bW
  refine ⟨Y.length, some ⟨b, 0, none⟩, setB V' (H.length + 1) [.slice (some ⟨Y.length, 0, none⟩) D.w.length 1, .slice (some ⟨b, 0, none⟩) D.p.length 2], ?_, Fn.setB F (by omega) bR _, ?_, ⟨by omega, ⟨vI D.w, true, false⟩, ?_, rfl⟩, (hdV.down (by omega)).fw ff.w (fun i hi e => by have := (hdV.lt hi).1; omega), fun j hj => by rw [hj.eq]; exact lb⟩
  · have fx : ∀ n : Nat, flx [⟨some 3, none, .bslice 1 [] 0 []⟩, ⟨some 4, none, .faddr 0 (.t 1)⟩, ⟨some 5, none, .load false 1 (.t 4)⟩, ⟨some 6, none, .append 1 8 (.t 3) (.t 5)⟩, ⟨some 7, none, .bslice 2 [] 0 []⟩, ⟨some 8, none, .faddr 1 (.t 1)⟩, ⟨some 9, none, .load false 1 (.t 8)⟩] n = [(n, some 3), (n + 1, some 7)] := fun n => rfl
    have fo : flos [⟨some 3, none, .bslice 1 [] 0 []⟩, ⟨some 4, none, .faddr 0 (.t 1)⟩, ⟨some 5, none, .load false 1 (.t 4)⟩, ⟨some 6, none, .append 1 8 (.t 3) (.t 5)⟩, ⟨some 7, none, .bslice 2 [] 0 []⟩, ⟨some 8, none, .faddr 1 (.t 1)⟩, ⟨some 9, none, .load false 1 (.t 8)⟩] = [some ⟨[], true, true⟩, some ⟨[], true, true⟩] := rfl
    have kf : keepF [(X.length, some 3), (X.length + 1, some 7)] ⟨some 6, none, .append 1 8 (.t 3) (.t 5)⟩ = [X.length + 1] := rfl
    have kk : ∀ G : Hp, kill [] G = G := fun _ => rfl
    subst hY
    subst hX
    simp only [List.append_assoc, List.cons_append, List.nil_append, List.length_append, List.length_cons, List.length_nil, Nat.zero_add, Nat.reduceAdd] at ha L6 B6 sm6 kf hb ⊢
    rw [call_eq find91 _ _ _ rfl]
    simp -implicitDefEqProofs only [v91, VMs, noRef, noRef1, isRef, List.all_cons, List.all_nil, vop, VOp.still, VOp.app, VOp.plain, allP, lof, evs, start, asI, vbin, vcells, ntup, setAll, vfill, vress, vres, tup, Nat.reduceEqDiff, ↓reduceIte, Nat.reduceAdd, Nat.reduceMul, Nat.reduceLeDiff, reduceCtorEq, sgs, vdF, qats, qat, Option.map_some, wn, wx (d := some 4) (.faddr 0 (.t 1)) rfl, wx (d := some 5) (.load false 1 (.t 4)) rfl, wx (d := some 6) (.append 1 8 (.t 3) (.t 5)) rfl, wx (d := some 8) (.faddr 1 (.t 1)) rfl, wx (d := some 9) (.load false 1 (.t 8)) rfl, wO_, wA_, wQ_, fx, fo, wf ⟨some 3, none, .bslice 1 [] 0 []⟩ _ rfl, wf ⟨some 7, none, .bslice 2 [] 0 []⟩ _ rfl, kf, kk, ha, sm6, L6, B6, hb, g3, g4]
  · have := (vI_rep (l := D.w) bWV rfl).fr (T := (· = H.length + 1)) (fun j hj e => by have := hj.eq; omega) ff
    exact this
  · exact (ff.blk _ (by have := blk_lt bWV; omega) (by omega)).trans bWV
end Go.Proofs.Ytaahjfjpbilfnaa.V
