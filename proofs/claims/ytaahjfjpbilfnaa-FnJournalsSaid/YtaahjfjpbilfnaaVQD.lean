/- What the bytes draw for CrashDisk: a disk and what stays. -/
import Derived.Test.YtaahjfjpbilfnaaVQC
namespace Go.Proofs.Ytaahjfjpbilfnaa.V
open Go
set_option linter.unusedVariables false
set_option linter.unusedSimpArgs false
set_option maxRecDepth 100000
def EO (H : Hp) (i o : Nat) (b : Bool) : Prop := rd H ⟨i, o, none⟩ = some (.bool b)
def vO (l : List Bool) : List Value := l.map .bool
theorem vO_len (l : List Bool) : (vO l).length = l.length := List.length_map _
theorem vO_rep {H : Hp} {i : Nat} {l : List Bool} {b : Blk} (hb : H.blk i = some b) (hc : b.cs = vO l) : Rep EO 1 H (some ⟨i, 0, none⟩) l.length l :=
  ⟨rfl, fun _ => ⟨i, 0, rfl, fun j x hx => by simp only [EO, rd, hb, Option.bind_some, hc, vO, List.getElem?_map, Nat.zero_add, Nat.mul_one, hx, Option.map_some]⟩⟩
theorem Rep.fnO {H H' : Hp} {a : Option Addr} {n : Nat} {l : List Bool} (h : Rep EO 1 H a n l) (hf : Fn H H') : Rep EO 1 H' a n l :=
  ⟨h.1, fun hl => let ⟨i, o, ha, h2⟩ := h.2 hl; ⟨i, o, ha, fun j x hx => (hf.rd _ _ (rd_lt (h2 j x hx)) id).trans (h2 j x hx)⟩⟩
theorem Rep.fnY {H H' : Hp} {a : Option Addr} {n : Nat} {l : List Int} (h : Rep EY 1 H a n l) (hf : Fn H H') : Rep EY 1 H' a n l :=
  ⟨h.1, fun hl => let ⟨i, o, ha, h2⟩ := h.2 hl; ⟨i, o, ha, fun j x hx => (hf.rd _ _ (rd_lt (h2 j x hx)) id).trans (h2 j x hx)⟩⟩
/-- A disk whose words lie somewhere. -/
structure DZ (H : Hp) (aw : Option Addr) (nw : Nat) (ap : Option Addr) (np : Nat) (D : Dk) : Prop where
  d : RD H aw nw ap np D
  x : Ex H aw
  s : SD D
theorem DZ.fn {H H' : Hp} {aw nw ap np D} (h : DZ H aw nw ap np D) (hf : Fn H H') : DZ H' aw nw ap np D := ⟨h.d.fn hf, h.x.fn hf, h.s⟩
theorem DK.z {H0 H q ac code k W o full ap D} (h : DK H0 H q ac code k W o full ap D) : DZ H (some ⟨W, o, none⟩) D.w.length ap D.p.length D := ⟨h.rd, fun A e => by
  cases e
  exact ⟨rfl, _, h.cw, by rw [vI_len, h.l]; have := h.o1; simp only; omega⟩, h.sd⟩
set_option maxHeartbeats 4000000 in
theorem drawCrash_c (d lo : Nat) (H : Hp) {ac : Option Addr} {code : List Int} (hc : Rep EY 1 H ac code.length code) (hy : ∀ x ∈ code, 0 ≤ x ∧ x ≤ 255) (hn : code.length ≤ 1048576) :
    ∃ aw ap D ab bs H', vcall env (d + 4) 25 [.slice ac code.length (sg ac 1)] lo H = some (.tuple #[.agg #[.slice aw D.w.length (sg aw 1), .slice ap D.p.length (sg ap 2)], .slice ab bs.length (sg ab 1)], H') ∧ Fn H H' ∧ DZ H' aw D.w.length ap D.p.length D ∧ Rep EO 1 H' ab bs.length bs ∧ bs.length ≤ 12 := by
  obtain ⟨H1, hH1⟩ : ∃ H1 : Hp, H1 = H ++ [some ⟨[.slice none 0 0, .slice none 0 0], true, false⟩] := ⟨_, rfl⟩
  have f1 : Fn H H1 := hH1 ▸ Fr.app
  have l1 : H1.length = H.length + 1 := by rw [hH1]; simp
  have b1 : H1.blk H.length = some ⟨[.slice none 0 0, .slice none 0 0], true, false⟩ := by rw [hH1]; exact blk0
  obtain ⟨H2, c2, f2, l2, s2⟩ := l1Source_c (d + 2) H.length H1 (hc.fnY f1) hy (by omega)
  obtain ⟨q, hq⟩ : ∃ q : Nat, q = H1.length := ⟨_, rfl⟩
  rw [← hq] at c2 s2
  have hc0 : ∀ i, Ad ac i → code ≠ [] → i < H2.length := fun i hi hne => by
    obtain ⟨i', o, ha, h2⟩ := hc.2 hne
    obtain ⟨o', e⟩ := hi
    rw [ha] at e; cases e
    obtain ⟨x, r, rfl⟩ := List.exists_cons_of_ne_nil hne
    have := rd_lt (h2 0 x rfl)
    omega
  obtain ⟨W, o, full, ap, D, H3, c3, dk⟩ := l1Disk_c d H.length H2 s2 (by omega) (by omega) hc0
  obtain ⟨k3, _, k3b, s3⟩ := dk.s
  have l3 := dk.w.len
  have hle3 : (H.length ≤ H3.length) = True := eq_true (by omega)
  have F3 : Fn H H3 := dk.w.fn (f1.trans f2) (fun i e => by omega)
  obtain ⟨H4, hH4⟩ : ∃ H4 : Hp, H4 = H3 ++ [some ⟨[.slice (some ⟨W, o, none⟩) D.w.length 1, .slice ap D.p.length (sg ap 2)], true, false⟩, some ⟨[], true, true⟩] := ⟨_, rfl⟩
  have f4 : Fn H3 H4 := hH4 ▸ Fr.app
  have l4 : H4.length = H3.length + 2 := by rw [hH4]; simp
  have b4 : H4.blk H3.length = some ⟨[.slice (some ⟨W, o, none⟩) D.w.length 1, .slice ap D.p.length (sg ap 2)], true, false⟩ := by rw [hH4]; exact blk0
  have e4 : H4.blk (H3.length + 1) = some ⟨[], true, true⟩ := by rw [hH4]; exact blkn 1
  have s4 := s3.fn f4
  have c5 := l1Next_c (d + 2) H.length H4 s4 (by omega) (by omega) 12
  obtain ⟨s5, f5, l5⟩ := s4.next (k3 + 1)
  obtain ⟨n1, n2⟩ := nextV_in hy k3 (n := 12) (by omega)
  obtain ⟨n, hn'⟩ : ∃ n : Nat, nextV code k3 12 = (n : Int) := ⟨_, (Int.toNat_of_nonneg n1).symm⟩
  rw [hn'] at n2 c5
  obtain ⟨H5, hH5⟩ : ∃ H5 : Hp, H5 = srcB H4 q ac code (k3 + 1) := ⟨_, rfl⟩
  rw [← hH5] at c5 s5 f5 l5
  have b3 : H3.blk H.length = some ⟨[.slice none 0 0, .slice none 0 0], true, false⟩ := (dk.w.blk _ (by omega) (by omega)).trans ((f2.blk _ (by omega) id).trans b1)
  have w35 : Fw (· = q) H3 H5 := (Fw.q f4).trans f5.w
  obtain ⟨P, hP⟩ : ∃ P : Nat, P = H3.length := ⟨_, rfl⟩
  have hloop : ∃ r, lim (rnd (vcall env (d + 3)) H.length [2, 4, 5, 6, 7] [2, 3, 5, 6] l25_0) [(2, .pointer (some ⟨H.length, 0, none⟩)), (4, .pointer (some ⟨q, 0, none⟩)), (5, .pointer (some ⟨P, 0, none⟩)), (6, .slice (some ⟨H3.length + 1, 0, none⟩) 0 1), (7, .int .i64 (n : Nat))] H5 = some r ∧
      ∃ X i bs, r = (.exit 0, [(2, .pointer (some ⟨H.length, 0, none⟩)), (5, .pointer (some ⟨P, 0, none⟩)), (6, .slice (some ⟨i, 0, none⟩) bs.length 1)], X) ∧ Fw (fun j => j = q ∨ P < j) H5 X ∧ (∃ k0, X.blk i = some ⟨vO bs, true, k0⟩) ∧ P < i ∧ bs.length ≤ 12 := by
    refine lim_inv (fun j ts X => ∃ i bs k' k0, ts = [(2, .pointer (some ⟨H.length, 0, none⟩)), (4, .pointer (some ⟨q, 0, none⟩)), (5, .pointer (some ⟨P, 0, none⟩)), (6, .slice (some ⟨i, 0, none⟩) bs.length 1), (7, .int .i64 ((n - j : Nat) : Int))] ∧ Fw (fun j => j = q ∨ P < j) H5 X ∧ Src X q ac code k' ∧ k' ≤ 200 + j ∧ X.blk i = some ⟨vO bs, true, k0⟩ ∧ (bs.length = 0 → k0 = true) ∧ P < i ∧ bs.length = j) n ?_ ?_ ?_
    · rintro j ts X hj ⟨i, bs, k', k0, rfl, fX, sX, kb, bX, hk0, hi, hbl⟩
      have hg : decide (((n - j : Nat) : Int) > 0) = true := decide_eq_true (by omega)
      have hw : IntKind.i64.wrap (((n - j : Nat) : Int) - 1) = ((n - (j + 1) : Nat) : Int) := by rw [wr (by omega) (by omega)]; omega
      have lX := fX.len
      have c6 := l1Chance_c (d + 1) H.length X sX (by omega) (by omega) 2
      obtain ⟨s6, f6, l6⟩ := sX.next (k' + 1)
      generalize srcB X q ac code (k' + 1) = X1 at *
      generalize (nextV code k' 2 == 0) = b at *
      obtain ⟨X2, hX2⟩ : ∃ X2 : Hp, X2 = X1 ++ [some ⟨[.bool b], true, false⟩] := ⟨_, rfl⟩
      have f2' : Fn X1 X2 := hX2 ▸ Fr.app
      have bi : X2.blk i = some ⟨vO bs, true, k0⟩ := (f2'.blk _ (by rw [l6]; exact blk_lt bX) id).trans ((f6.blk _ (blk_lt bX) (by omega)).trans bX)
      obtain ⟨X3, ha, hb3, hl3, _, ho3⟩ := app_own (st := 1) (by_ := 1) (lo := H.length) (i := i) (n := bs.length) (m := 1) (M := [.bool b]) (y := .slice (some ⟨X1.length, 0, none⟩) 1 1) bi (by rw [vO_len, Nat.mul_one]) hk0 (by omega) rfl (by rw [hX2]; simp [scells, rdN0]) (by omega) (fits_small (by omega))
      have lX2 : X2.length = X1.length + 1 := by rw [hX2]; simp
      refine ⟨_, X3, ?_, X2.length, bs ++ [b], k' + 1, false, by rw [List.length_append], ?_, ?_, by omega, by rw [hb3]; simp [vO], fun e => by simp at e, by omega, by simp [hbl]⟩
      · subst hX2
        simp only [List.length_append, List.length_cons, List.length_nil, Nat.zero_add] at ha ⊢
        simp -implicitDefEqProofs only [rnd, l25_0, VMs, noRef, noRef1, isRef, List.all_cons, List.all_nil, vop, VOp.still, VOp.app, VOp.plain, allP, lof, evs, start, asI, vbin, vcells, ntup, setAll, vfill, vress, vres, tup, Nat.reduceEqDiff, ↓reduceIte, Nat.reduceAdd, Nat.reduceMul, Nat.reduceLeDiff, reduceCtorEq, hg, c6, h10, ha, hw]
      · exact ((fX.trans (f6.w.mono fun j e => Or.inl e)).trans (f2'.w.mono fun _ => False.elim)).then (S := fun j => j = q ∨ P < j) (T := (· = i)) ⟨by omega, fun j hj hs => ho3 j hs hj⟩ (fun j e hj => Or.inr (by rw [e]; exact hi))
      · have fw : Fw (· = i) X2 X3 := ⟨by omega, fun j hj hs => ho3 j hs hj⟩
        exact (s6.fn f2').fw fw (by omega) (fun j hj hc e => by have := hc0 j hj hc; omega)
    · rintro ts X ⟨i, bs, k', k0, rfl, fX, sX, kb, bX, hk0, hi, hbl⟩
      have hg : decide (((n - n : Nat) : Int) > 0) = false := decide_eq_false (by omega)
      exact ⟨_, by simp -implicitDefEqProofs only [rnd, l25_0, VMs, noRef, noRef1, isRef, List.all_cons, List.all_nil, vop, VOp.still, VOp.app, VOp.plain, allP, lof, evs, start, asI, vbin, vcells, ntup, setAll, vfill, vress, vres, tup, Nat.reduceEqDiff, ↓reduceIte, Nat.reduceAdd, Nat.reduceMul, Nat.reduceLeDiff, reduceCtorEq, hg], by simp, X, i, bs, rfl, fX, ⟨k0, bX⟩, hi, by omega⟩
    · exact ⟨H3.length + 1, [], k3 + 1, true, by simp, Fw.refl, s5, by omega, (f5.blk _ (by omega) (by omega)).trans e4, fun _ => rfl, by omega, rfl⟩
  obtain ⟨_, hl, X, i, bs, rfl, fX, ⟨k0, bX⟩, hi, hbl⟩ := hloop
  have hR : X.blk H.length = some ⟨[.slice none 0 0, .slice none 0 0], true, false⟩ := (fX.blk _ (by omega) (by omega)).trans ((w35.blk _ (by omega) (by omega)).trans b3)
  have hD : X.blk P = some ⟨[.slice (some ⟨W, o, none⟩) D.w.length 1, .slice ap D.p.length (sg ap 2)], true, false⟩ := (fX.blk _ (by omega) (by omega)).trans ((f5.blk _ (by omega) (by omega)).trans (by rw [hP]; exact b4))
  have g1 : rdN X ⟨P, 0, none⟩ 2 = some [.slice (some ⟨W, o, none⟩) D.w.length 1, .slice ap D.p.length (sg ap 2)] := by simp [rdN, hD]
  have w9 := wr_setB (lo := H.length) hR (Nat.le_refl _) [.slice (some ⟨W, o, none⟩) D.w.length 1, .slice ap D.p.length (sg ap 2)] rfl
  have r9 := rdN_setB hR 2 [.slice (some ⟨W, o, none⟩) D.w.length 1, .slice ap D.p.length (sg ap 2)] rfl
  have f9 := Fr.setB hR [.slice (some ⟨W, o, none⟩) D.w.length 1, .slice ap D.p.length (sg ap 2)]
  have w3X : Fw (fun j => j = q ∨ P < j) H3 X := (w35.mono fun j e => Or.inl e).trans fX
  have w39 : Fw (fun j => j = q ∨ P < j ∨ j = H.length) H3 (setB X H.length [.slice (some ⟨W, o, none⟩) D.w.length 1, .slice ap D.p.length (sg ap 2)]) := (w3X.mono fun j e => by rcases e with e | e; exact Or.inl e; exact Or.inr (Or.inl e)).trans (f9.w.mono fun j e => Or.inr (Or.inr e))
  have bX9 : (setB X H.length [.slice (some ⟨W, o, none⟩) D.w.length 1, .slice ap D.p.length (sg ap 2)]).blk i = some ⟨vO bs, true, k0⟩ := by rw [blk_setB hR, if_neg (by omega)]; exact bX
  generalize setB X H.length [.slice (some ⟨W, o, none⟩) D.w.length 1, .slice ap D.p.length (sg ap 2)] = H9 at *
  have hWl := blk_lt dk.cw
  have hWg := dk.wl
  have cw9 : H9.blk W = some ⟨vI full, true, false⟩ := (w39.blk _ hWl (by omega)).trans dk.cw
  have hp9 : Hd H2.length H9 ap D.p.length 2 (vP D.p) := dk.hp.fw w39 (fun j hj e => by have := dk.hp.lt hj; omega)
  have dz : DZ H9 (some ⟨W, o, none⟩) D.w.length ap D.p.length D := ⟨⟨⟨rfl, fun _ => ⟨W, o, rfl, fun j x hx => by
    rw [dk.dw, List.getElem?_drop] at hx
    simp only [EI, V.rd, cw9, Option.bind_some, Nat.mul_one, vI, List.getElem?_map, hx, Option.map_some]⟩⟩, hp9.repP⟩, fun A e => by
    cases e
    exact ⟨rfl, _, cw9, by rw [vI_len, dk.l]; have := dk.o1; simp only; omega⟩, dk.sd⟩
  refine ⟨some ⟨W, o, none⟩, ap, D, some ⟨i, 0, none⟩, bs, H9, ?_, w39.fn F3 (fun j e => by omega), dz, vO_rep bX9 rfl, hbl⟩
  subst hH5 hP
  subst hH4
  subst hq
  subst hH1
  have q0 : ((0 : Nat) == 0) = true := rfl
  simp only [sgs, List.length_append, List.length_cons, List.length_nil, Nat.zero_add] at c2 c3 c5 hl g1 w9 r9 ⊢
  rw [call_eq find25 _ _ _ rfl]
  simp -implicitDefEqProofs only [v25, VMs, noRef, noRef1, isRef, List.all_cons, List.all_nil, vop, VOp.still, VOp.app, VOp.plain, allP, lof, evs, start, asI, vbin, vcells, ntup, setAll, vfill, vress, vres, tup, Nat.reduceEqDiff, ↓reduceIte, Nat.reduceAdd, Nat.reduceMul, Nat.reduceLeDiff, reduceCtorEq, List.getElem?_toArray, c2, c3, hle3, q0, c5, vlp, hl, g1, w9, r9]
end Go.Proofs.Ytaahjfjpbilfnaa.V
