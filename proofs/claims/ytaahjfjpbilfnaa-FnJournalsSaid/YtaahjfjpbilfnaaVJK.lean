/- What the bytes draw for AppendJournal; the law's own draws. -/
import Derived.Test.YtaahjfjpbilfnaaVJI
namespace Go.Proofs.Ytaahjfjpbilfnaa.V
open Go
set_option linter.unusedVariables false
set_option linter.unusedSimpArgs false
set_option maxRecDepth 100000
theorem DZ.fwT {S : Nat → Prop} {H H' : Hp} {aw nw ap np D} (h : DZ H aw nw ap np D) (hw : ∀ j, Ad aw j → ¬ S j) (hp : ∀ j, Ad ap j → ¬ S j) (hf : Fw S H H') : DZ H' aw nw ap np D :=
  ⟨⟨h.d.w.fwI hf hw, h.d.p.1, fun hl => by
    obtain ⟨i, o, ha, h2⟩ := h.d.p.2 hl
    exact ⟨i, o, ha, fun j x hx => ⟨(hf.rd _ _ (rd_lt (h2 j x hx).1) (hp i ⟨o, ha⟩)).trans (h2 j x hx).1, (hf.rd _ _ (rd_lt (h2 j x hx).2) (hp i ⟨o, ha⟩)).trans (h2 j x hx).2⟩⟩⟩, fun A e => by
    obtain ⟨hs, b, hb, hl⟩ := h.x A e
    obtain ⟨i, o, s⟩ := A
    simp only at hs
    subst hs
    exact ⟨rfl, b, (hf.blk _ (blk_lt hb) (hw _ ⟨o, e⟩)).trans hb, hl⟩, h.s⟩
set_option maxHeartbeats 4000000 in
theorem drawAppend_c (d lo : Nat) (H : Hp) {ac : Option Addr} {code : List Int} (hc : Rep EY 1 H ac code.length code) (hy : ∀ x ∈ code, 0 ≤ x ∧ x ≤ 255) (hn : code.length ≤ 1048576) :
    ∃ aw ap D ww w H', vcall env (d + 7) 61 [.slice ac code.length (sg ac 1)] lo H = some (.tuple #[.agg #[.slice aw D.w.length (sg aw 1), .slice ap D.p.length (sg ap 2)], .slice ww w.length (sg ww 1)], H') ∧ Fn H H' ∧ DZ H' aw D.w.length ap D.p.length D ∧ Rep EI 1 H' ww w.length w ∧ w.length ≤ 9 := by
  obtain ⟨H1, hH1⟩ : ∃ H1 : Hp, H1 = H ++ [some ⟨[.slice none 0 0, .slice none 0 0], true, false⟩] := ⟨_, rfl⟩
  have f1 : Fn H H1 := hH1 ▸ Fr.app
  have l1 : H1.length = H.length + 1 := by rw [hH1]; simp
  have b1 : H1.blk H.length = some ⟨[.slice none 0 0, .slice none 0 0], true, false⟩ := by rw [hH1]; exact blk0
  obtain ⟨H2, c2, f2, l2, s2⟩ := l1Source_c (d + 5) H.length H1 (hc.fnY f1) hy (by omega)
  obtain ⟨q, hq⟩ : ∃ q : Nat, q = H1.length := ⟨_, rfl⟩
  rw [← hq] at c2 s2
  have hc0 : ∀ i, Ad ac i → code ≠ [] → i < H.length := fun i hi hne => by
    obtain ⟨i', o, ha, h2⟩ := hc.2 hne
    obtain ⟨o', e⟩ := hi
    rw [ha] at e; cases e
    obtain ⟨x, r, rfl⟩ := List.exists_cons_of_ne_nil hne
    exact rd_lt (h2 0 x rfl)
  obtain ⟨aw, ap, D, X3, c3, f3, ⟨k3, k3b, s3⟩, z3, nw, np, ⟨A, rfl⟩⟩ := l2Disk_c d H.length H2 s2 (by omega) (by omega) (fun i hi hne => by have := hc0 i hi hne; omega)
  have l3 := f3.len
  have hle3 : (H.length ≤ X3.length) = True := eq_true (by omega)
  obtain ⟨H4, hH4⟩ : ∃ H4 : Hp, H4 = X3 ++ [some ⟨[.slice (some A) D.w.length (sg (some A) 1), .slice ap D.p.length (sg ap 2)], true, false⟩] := ⟨_, rfl⟩
  have f4 : Fn X3 H4 := hH4 ▸ Fr.app
  have l4 : H4.length = X3.length + 1 := by rw [hH4]; simp
  have b4 : H4.blk X3.length = some ⟨[.slice (some A) D.w.length (sg (some A) 1), .slice ap D.p.length (sg ap 2)], true, false⟩ := by rw [hH4]; exact blk0
  obtain ⟨i, w, k0, X5, c5, f5, ⟨k5, kb5, s5⟩, b5, hi5, hw5, _, _⟩ := l2Record_c (d + 4) H.length H4 (s3.fn f4) (by omega) (by omega) (fun i hi hne => by have := hc0 i hi hne; omega)
  have l5 := f5.len
  have c6 := l1Chance_c (d + 4) H.length X5 s5 (by omega) (by omega) 10
  obtain ⟨s6, f6, l6⟩ := s5.next (k5 + 1)
  have b6 : (srcB X5 q ac code (k5 + 1)).blk i = some ⟨vI w, true, k0⟩ := (f6.blk _ (blk_lt b5) (by omega)).trans b5
  have w46 : Fw (· = q) H4 (srcB X5 q ac code (k5 + 1)) := f5.trans f6.w
  generalize srcB X5 q ac code (k5 + 1) = X6 at *
  generalize (nextV code k5 10 == 0) = b at *
  obtain ⟨P, hP⟩ : ∃ P : Nat, P = X3.length := ⟨_, rfl⟩
  have w26 : Fw (· = q) H2 X6 := (f3.trans (Fw.q f4)).trans w46
  have F6 : Fn H X6 := w26.fn (f1.trans f2) (fun j e => by omega)
  have z6 : DZ X6 (some A) D.w.length ap D.p.length D := (z3.fn f4).fwT (fun j hj e => by have := nw j hj; omega) (fun j hj e => by have := np j hj; omega) w46
  have r6 : Rep EI 1 X6 (some ⟨i, 0, none⟩) w.length w := vI_rep b6 rfl
  have bP6 : X6.blk P = some ⟨[.slice (some A) D.w.length (sg (some A) 1), .slice ap D.p.length (sg ap 2)], true, false⟩ := (w46.blk _ (by omega) (by omega)).trans (by rw [hP]; exact b4)
  have bR6 : X6.blk H.length = some ⟨[.slice none 0 0, .slice none 0 0], true, false⟩ := (w26.blk _ (by omega) (by omega)).trans ((f2.blk _ (by omega) id).trans b1)
  have l26 := w26.len
  cases b with
  | false =>
    have w9 := wr_setB (lo := H.length) bR6 (Nat.le_refl _) [.slice (some A) D.w.length (sg (some A) 1), .slice ap D.p.length (sg ap 2)] rfl
    have r9 := rdN_setB bR6 2 [.slice (some A) D.w.length (sg (some A) 1), .slice ap D.p.length (sg ap 2)] rfl
    have ff := Fr.setB bR6 [.slice (some A) D.w.length (sg (some A) 1), .slice ap D.p.length (sg ap 2)]
    have g1 : rdN X6 ⟨P, 0, none⟩ 2 = some [.slice (some A) D.w.length (sg (some A) 1), .slice ap D.p.length (sg ap 2)] := by simp [rdN, bP6]
    refine ⟨some A, ap, D, some ⟨i, 0, none⟩, w, setB X6 H.length [.slice (some A) D.w.length (sg (some A) 1), .slice ap D.p.length (sg ap 2)], ?_, Fn.setB F6 (Nat.le_refl _) bR6 _, z6.frT (T := (· = H.length)) (fun j hj e => by have := nw j hj; omega) (fun j hj e => by have := np j hj; omega) ff, r6.fr (T := (· = H.length)) (fun j hj e => by have := hj.eq; omega) ff, by omega⟩
    subst hP
    subst hH4
    subst hq
    subst hH1
    simp only [sgs, List.length_append, List.length_cons, List.length_nil, Nat.zero_add] at c2 c3 c5 c6 g1 w9 r9 ⊢
    rw [call_eq find61 _ _ _ rfl]
    simp -implicitDefEqProofs only [v61, VMs, noRef, noRef1, isRef, List.all_cons, List.all_nil, vop, VOp.still, VOp.app, VOp.plain, allP, lof, evs, start, asI, vbin, vcells, ntup, setAll, vfill, vress, vres, tup, Nat.reduceEqDiff, ↓reduceIte, Nat.reduceAdd, Nat.reduceMul, Nat.reduceLeDiff, reduceCtorEq, List.getElem?_toArray, c2, c3, hle3, c5, sgs, c6, g1, w9, r9]
  | true =>
    obtain ⟨a7, w7, X7, c7, f7, r7, hw7⟩ := drawRecordFault_c (d + 3) H.length X6 (hc.fnY F6) hy hn
    have bP7 := (f7.blk _ (blk_lt bP6) id).trans bP6
    have bR7 := (f7.blk _ (blk_lt bR6) id).trans bR6
    have w9 := wr_setB (lo := H.length) bR7 (Nat.le_refl _) [.slice (some A) D.w.length (sg (some A) 1), .slice ap D.p.length (sg ap 2)] rfl
    have r9 := rdN_setB bR7 2 [.slice (some A) D.w.length (sg (some A) 1), .slice ap D.p.length (sg ap 2)] rfl
    have ff := Fr.setB bR7 [.slice (some A) D.w.length (sg (some A) 1), .slice ap D.p.length (sg ap 2)]
    have g1 : rdN X7 ⟨P, 0, none⟩ 2 = some [.slice (some A) D.w.length (sg (some A) 1), .slice ap D.p.length (sg ap 2)] := by simp [rdN, bP7]
    have r7' : Rep EI 1 (setB X7 H.length [.slice (some A) D.w.length (sg (some A) 1), .slice ap D.p.length (sg ap 2)]) a7 w7.length w7 := ⟨r7.1, fun hl => by
      obtain ⟨i', o, ha, h2⟩ := r7.2 hl
      refine ⟨i', o, ha, fun j x hx => (ff.rd _ _ (rd_lt (h2 j x hx)) (fun e => ?_)).trans (h2 j x hx)⟩
      have := h2 j x hx
      simp only [EI, rd, e, bR7, Option.bind_some] at this
      rcases hj : o + j * 1 with _ | _ | m <;> rw [hj] at this <;> simp at this⟩
    refine ⟨some A, ap, D, a7, w7, setB X7 H.length [.slice (some A) D.w.length (sg (some A) 1), .slice ap D.p.length (sg ap 2)], ?_, Fn.setB (F6.trans f7) (Nat.le_refl _) bR7 _, (z6.fn f7).frT (T := (· = H.length)) (fun j hj e => by have := nw j hj; omega) (fun j hj e => by have := np j hj; omega) ff, r7', hw7⟩
    subst hP
    subst hH4
    subst hq
    subst hH1
    simp only [sgs, List.length_append, List.length_cons, List.length_nil, Nat.zero_add] at c2 c3 c5 c6 g1 w9 r9 ⊢
    rw [call_eq find61 _ _ _ rfl]
    simp -implicitDefEqProofs only [v61, VMs, noRef, noRef1, isRef, List.all_cons, List.all_nil, vop, VOp.still, VOp.app, VOp.plain, allP, lof, evs, start, asI, vbin, vcells, ntup, setAll, vfill, vress, vres, tup, Nat.reduceEqDiff, ↓reduceIte, Nat.reduceAdd, Nat.reduceMul, Nat.reduceLeDiff, reduceCtorEq, List.getElem?_toArray, c2, c3, hle3, c5, sgs, c6, c7, g1, w9, r9]
end Go.Proofs.Ytaahjfjpbilfnaa.V
