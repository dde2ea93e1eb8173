/- Plain pools: are they the same, copied, measured? -/
import Derived.Test.YtohanpndekfbgaaDoorVLA
import Derived.Test.YtohanpndekfbgaaDoorVCG
namespace Go.Proofs.YtohanpndekfbgaaDoor.V
open Go
set_option linter.unusedVariables false
set_option linter.unusedSimpArgs false
set_option maxRecDepth 100000
structure Pl where
  b : Int
  v : List Vo
  c : List Vo
  s : List Int
  deriving DecidableEq
structure RL (H : Hp) (av : Option Addr) (nv : Nat) (ac : Option Addr) (nc : Nat) (az : Option Addr) (nz : Nat) (p : Pl) : Prop where
  v : Rep EV 3 H av nv p.v
  c : Rep EV 3 H ac nc p.c
  s : Rep EI 1 H az nz p.s
structure SL (p : Pl) : Prop where
  v : Sm p.v.length
  c : Sm p.c.length
  s : Sm p.s.length
structure ArgL (p : Pl) : Prop where
  v : p.v.length * 24 ≤ 140737488351232
  c : p.c.length * 24 ≤ 140737488351232
  s : p.s.length * 8 ≤ 140737488351232
theorem ArgL.sl {p : Pl} (h : ArgL p) : SL p := ⟨Sm.of8 h.v (by omega), Sm.of8 h.c (by omega), Sm.of8 h.s (by omega)⟩
theorem RL.fn {H H' : Hp} {av nv ac nc az nz p} (h : RL H av nv ac nc az nz p) (hf : Fn H H') : RL H' av nv ac nc az nz p := ⟨h.v.fnV hf, h.c.fnV hf, h.s.fnI hf⟩
theorem RL.app {H : Hp} {l : List (Option Blk)} {av nv ac nc az nz p} (h : RL H av nv ac nc az nz p) : RL (H ++ l) av nv ac nc az nz p := h.fn Fr.app
/-- A pointer to a plain pool. -/
structure PL (H : Hp) (q : Nat) (av : Option Addr) (nv : Nat) (ac : Option Addr) (nc : Nat) (az : Option Addr) (nz : Nat) (p : Pl) : Prop where
  b : rd H ⟨q, 0, none⟩ = some (.int .i64 p.b)
  v : rd H ⟨q, 1, none⟩ = some (.slice av nv (sg av 3))
  c : rd H ⟨q, 2, none⟩ = some (.slice ac nc (sg ac 3))
  s : rd H ⟨q, 3, none⟩ = some (.slice az nz (sg az 1))
  r : RL H av nv ac nc az nz p
theorem PL.fn {H H' : Hp} {q av nv ac nc az nz p} (h : PL H q av nv ac nc az nz p) (hf : Fn H H') : PL H' q av nv ac nc az nz p :=
  ⟨(hf.rd _ _ (rd_lt h.b) id).trans h.b, (hf.rd _ _ (rd_lt h.v) id).trans h.v, (hf.rd _ _ (rd_lt h.c) id).trans h.c, (hf.rd _ _ (rd_lt h.s) id).trans h.s, h.r.fn hf⟩
theorem rdN4 {H : Hp} {i o : Nat} {a b c d : Value} (h0 : rd H ⟨i, o, none⟩ = some a) (h1 : rd H ⟨i, o + 1, none⟩ = some b) (h2 : rd H ⟨i, o + 2, none⟩ = some c) (h3 : rd H ⟨i, o + 3, none⟩ = some d) : rdN H ⟨i, o, none⟩ 4 = some [a, b, c, d] := by
  unfold rd at h0 h1 h2 h3
  cases hb : H.blk i with
  | none => simp [hb] at h0
  | some B =>
    simp only [hb, Option.bind_some] at h0 h1 h2 h3
    obtain ⟨g3, e3⟩ := List.getElem?_eq_some_iff.1 h3
    obtain ⟨g2, e2⟩ := List.getElem?_eq_some_iff.1 h2
    obtain ⟨g1, e1⟩ := List.getElem?_eq_some_iff.1 h1
    obtain ⟨g0, e0⟩ := List.getElem?_eq_some_iff.1 h0
    simp only [rdN, hb, Option.bind_some]
    rw [if_pos (by omega), List.drop_eq_getElem_cons g0, List.drop_eq_getElem_cons g1, List.drop_eq_getElem_cons g2, List.drop_eq_getElem_cons g3, e0, e1, e2, e3]
    rfl
theorem PL.rdN {H : Hp} {q av nv ac nc az nz p} (h : PL H q av nv ac nc az nz p) : V.rdN H ⟨q, 0, none⟩ 4 = some [.int .i64 p.b, .slice av nv (sg av 3), .slice ac nc (sg ac 3), .slice az nz (sg az 1)] := rdN4 h.b h.v h.c h.s
theorem PL.box {H : Hp} {av nv ac nc az nz p} (h : RL H av nv ac nc az nz p) (l : List (Option Blk)) : PL (H ++ some ⟨[.int .i64 p.b, .slice av nv (sg av 3), .slice ac nc (sg ac 3), .slice az nz (sg az 1)], true, false⟩ :: l) H.length av nv ac nc az nz p := ⟨by simp [rd0], by simp [rd0], by simp [rd0], by simp [rd0], h.app⟩
theorem eqPlain_c (d lo : Nat) (H : Hp) {av nv ac nc az nz av' nv' ac' nc' az' nz'} {p q : Pl} (hp : RL H av nv ac nc az nz p) (hq : RL H av' nv' ac' nc' az' nz' q) (hs : SL p) :
    vcall env (d + 3) 9 [.agg #[.int .i64 p.b, .slice av nv (sg av 3), .slice ac nc (sg ac 3), .slice az nz (sg az 1)], .agg #[.int .i64 q.b, .slice av' nv' (sg av' 3), .slice ac' nc' (sg ac' 3), .slice az' nz' (sg az' 1)]] lo H = some (.bool (decide (p = q)), H) := by
  rw [call_eq find9 _ _ _ rfl]
  have c1 := fun l => eqVolS_c d H.length (H ++ l) av av' nv nv' p.v q.v (hp.app (l := l)).v (hq.app (l := l)).v (hp.v.1 ▸ hs.v)
  have c2 := fun l => eqCellS_c d H.length (H ++ l) ac ac' nc nc' p.c q.c (hp.app (l := l)).c (hq.app (l := l)).c (hp.c.1 ▸ hs.c)
  have c3 := fun l => eqInt64S_c (d + 1) H.length (H ++ l) az az' nz nz' p.s q.s (hp.app (l := l)).s (hq.app (l := l)).s (hp.s.1 ▸ hs.s)
  simp -implicitDefEqProofs only [v9, VMs, noRef, noRef1, isRef, List.all_cons, List.all_nil, vop, VOp.still, VOp.app, VOp.plain, allP, lof, evs, start, asI, vbin, vcells, ntup, setAll, vfill, vress, vres, tup, Nat.reduceEqDiff, ↓reduceIte, Nat.reduceAdd, Nat.reduceMul, Nat.reduceLeDiff, reduceCtorEq, c1, c2, c3]
  obtain ⟨b, v, c, s⟩ := p
  obtain ⟨b', v', c', s'⟩ := q
  by_cases h1 : b = b' <;> by_cases h2 : v = v' <;> by_cases h3 : c = c' <;> by_cases h4 : s = s' <;> simp [h1, h2, h3, h4]
theorem szPlain_c (d lo : Nat) (H : Hp) {av nv ac nc az nz} {p : Pl} (h : RL H av nv ac nc az nz p) (hF : SL p) (k : Int) (hk : Lf k) (h0 : 0 ≤ k) :
    ∃ r : Int, vcall env (d + 2) 4 [.agg #[.int .i64 p.b, .slice av nv (sg av 3), .slice ac nc (sg ac 3), .slice az nz (sg az 1)], .int .i64 k] lo H = some (.int .i64 r, H) ∧ (0 ≤ r → r = k - (p.v.length : Int) - (p.c.length : Int) - (p.s.length : Int)) := by
  have n1 := h.v.1
  have n2 := h.c.1
  have n3 := h.s.1
  have c1 := fun l => szVolS_c d H.length (H ++ l) av nv (sg av 3) k (n1 ▸ hF.v) hk h0
  rw [call_eq find4 _ _ _ rfl]
  by_cases hr : k - (nv : Int) < 0
  · have hd : decide ((-1 : Int) < 0) = true := rfl
    exact ⟨-1, by simp -implicitDefEqProofs only [v4, VMs, noRef, noRef1, isRef, List.all_cons, List.all_nil, vop, VOp.still, VOp.app, VOp.plain, allP, lof, evs, start, asI, vbin, vcells, ntup, setAll, vfill, vress, vres, tup, Nat.reduceEqDiff, ↓reduceIte, Nat.reduceAdd, Nat.reduceMul, Nat.reduceLeDiff, reduceCtorEq, c1, hr, hd], fun h => by omega⟩
  · have c2 := fun l => szCellS_c d H.length (H ++ l) ac nc (sg ac 3) (k - (nv : Int)) (n2 ▸ hF.c) (by unfold Lf at *; omega) (by omega)
    by_cases h2 : k - (nv : Int) - (nc : Int) < 0
    · have hd : decide ((-1 : Int) < 0) = true := rfl
      exact ⟨-1, by simp -implicitDefEqProofs only [v4, VMs, noRef, noRef1, isRef, List.all_cons, List.all_nil, vop, VOp.still, VOp.app, VOp.plain, allP, lof, evs, start, asI, vbin, vcells, ntup, setAll, vfill, vress, vres, tup, Nat.reduceEqDiff, ↓reduceIte, Nat.reduceAdd, Nat.reduceMul, Nat.reduceLeDiff, reduceCtorEq, c1, hr, decide_false, c2, h2, hd], fun h => by omega⟩
    · have c3 := fun l => szInt64S_c d H.length (H ++ l) az nz (sg az 1) (k - (nv : Int) - (nc : Int)) (n3 ▸ hF.s) (by unfold Lf at *; omega) (by omega)
      by_cases h3 : k - (nv : Int) - (nc : Int) - (nz : Int) < 0
      · have hd : decide ((-1 : Int) < 0) = true := rfl
        exact ⟨-1, by simp -implicitDefEqProofs only [v4, VMs, noRef, noRef1, isRef, List.all_cons, List.all_nil, vop, VOp.still, VOp.app, VOp.plain, allP, lof, evs, start, asI, vbin, vcells, ntup, setAll, vfill, vress, vres, tup, Nat.reduceEqDiff, ↓reduceIte, Nat.reduceAdd, Nat.reduceMul, Nat.reduceLeDiff, reduceCtorEq, c1, hr, decide_false, c2, h2, c3, h3, hd], fun h => by omega⟩
      · exact ⟨k - (nv : Int) - (nc : Int) - (nz : Int), by simp -implicitDefEqProofs only [v4, VMs, noRef, noRef1, isRef, List.all_cons, List.all_nil, vop, VOp.still, VOp.app, VOp.plain, allP, lof, evs, start, asI, vbin, vcells, ntup, setAll, vfill, vress, vres, tup, Nat.reduceEqDiff, ↓reduceIte, Nat.reduceAdd, Nat.reduceMul, Nat.reduceLeDiff, reduceCtorEq, c1, hr, decide_false, c2, h2, c3, h3], fun _ => by rw [n1, n2, n3]⟩
/-- A plain pool in new memory. -/
def NewL (H H' : Hp) (v : Value) (p : Pl) : Prop := ∃ iv ic iz, v = .agg #[.int .i64 p.b, .slice (some ⟨iv, 0, none⟩) p.v.length 3, .slice (some ⟨ic, 0, none⟩) p.c.length 3, .slice (some ⟨iz, 0, none⟩) p.s.length 1] ∧ Fn H H' ∧ RL H' (some ⟨iv, 0, none⟩) p.v.length (some ⟨ic, 0, none⟩) p.c.length (some ⟨iz, 0, none⟩) p.s.length p ∧ WB H.length H' iv ∧ WB H.length H' ic ∧ WB H.length H' iz ∧ iv ≠ ic ∧ iv ≠ iz ∧ ic ≠ iz
theorem WB.ex {lo : Nat} {H : Hp} {i : Nat} (h : WB lo H i) : Ex H (some ⟨i, 0, none⟩) := fun A e => by
  cases e
  obtain ⟨_, b, hb, _⟩ := h
  exact ⟨rfl, b, hb, by simp⟩
theorem toPlain_c (d lo : Nat) (H : Hp) {av nv ac nc az nz} {p : Pl} (h : RL H av nv ac nc az nz p) (hF : ArgL p) :
    ∃ v H', vcall env (d + 3) 6 [.agg #[.int .i64 p.b, .slice av nv (sg av 3), .slice ac nc (sg ac 3), .slice az nz (sg az 1)]] lo H = some (v, H') ∧ NewL H H' v p := by
  have n1 := h.v.1
  have n2 := h.c.1
  have n3 := h.s.1
  subst n1 n2 n3
  -- the heap with the box of the argument, the result's cell, the cell of what is made
  obtain ⟨HB, hHB⟩ : ∃ HB, HB = H ++ [some ⟨[.int .i64 p.b, .slice av p.v.length (sg av 3), .slice ac p.c.length (sg ac 3), .slice az p.s.length (sg az 1)], true, false⟩, some ⟨[.int .i64 0, .slice none 0 0, .slice none 0 0, .slice none 0 0], true, false⟩, some ⟨[.int .i64 p.b, .slice none 0 0, .slice none 0 0, .slice none 0 0], true, false⟩] := ⟨_, rfl⟩
  have hB : Fn H HB := by rw [hHB]; exact Fr.app
  have hl : HB.length = H.length + 3 := by rw [hHB]; simp
  have pB : PL HB H.length av p.v.length ac p.c.length az p.s.length p := by rw [hHB]; exact PL.box h _
  have b1 : HB.blk (H.length + 1) = some ⟨[.int .i64 0, .slice none 0 0, .slice none 0 0, .slice none 0 0], true, false⟩ := by rw [hHB]; exact blkn 1
  have b2 : HB.blk (H.length + 2) = some ⟨[.int .i64 p.b, .slice none 0 0, .slice none 0 0, .slice none 0 0], true, false⟩ := by rw [hHB]; exact blkn 2
  obtain ⟨H1, c1, f1, l1, w1, r1⟩ := toVolS_c d H.length HB av p.v.length p.v pB.r.v (hF.sl.v) (hF.v)
  rw [hl] at c1 l1 w1 r1
  have k1 := fun vs hv => wr_at (lo := H.length) (o := 1) ((f1.blk _ (by omega) id).trans b2) (by omega) vs hv
  obtain ⟨H2, hH2⟩ : ∃ H2, H2 = setB H1 (H.length + 2) [.int .i64 p.b, .slice (some ⟨H.length + 3, 0, none⟩) p.v.length 3, .slice none 0 0, .slice none 0 0] := ⟨_, rfl⟩
  have F2 : Fr (· = H.length + 2) H1 H2 := hH2 ▸ Fr.setB ((f1.blk _ (by omega) id).trans b2) _
  have hb2 : H2.blk (H.length + 2) = some ⟨[.int .i64 p.b, .slice (some ⟨H.length + 3, 0, none⟩) p.v.length 3, .slice none 0 0, .slice none 0 0], true, false⟩ := by rw [hH2, blk_setB ((f1.blk _ (by omega) id).trans b2), if_pos rfl]
  have l2 : H2.length = H1.length := by rw [hH2, setB_len]
  have fH2 : Fn H H2 := ((hB.trans f1).no.trans F2).new (fun i e => by omega)
  have p2 : rd H2 ⟨H.length, 2, none⟩ = some (.slice ac p.c.length (sg ac 3)) := (F2.rd _ _ (rd_lt (pB.fn f1).c) (by omega)).trans (pB.fn f1).c
  have p2s : rd H2 ⟨H.length, 3, none⟩ = some (.slice az p.s.length (sg az 1)) := (F2.rd _ _ (rd_lt (pB.fn f1).s) (by omega)).trans (pB.fn f1).s
  obtain ⟨H3, c3, f3, l3, w3, r3⟩ := toCellS_c d H.length H2 ac p.c.length p.c (h.fn fH2).c (hF.sl.c) (hF.c)
  have k3 := fun vs hv => wr_at (lo := H.length) (o := 2) ((f3.blk _ (by omega) id).trans hb2) (by omega) vs hv
  obtain ⟨H4, hH4⟩ : ∃ H4, H4 = setB H3 (H.length + 2) [.int .i64 p.b, .slice (some ⟨H.length + 3, 0, none⟩) p.v.length 3, .slice (some ⟨H2.length, 0, none⟩) p.c.length 3, .slice none 0 0] := ⟨_, rfl⟩
  have F4 : Fr (· = H.length + 2) H3 H4 := hH4 ▸ Fr.setB ((f3.blk _ (by omega) id).trans hb2) _
  have hb4 : H4.blk (H.length + 2) = some ⟨[.int .i64 p.b, .slice (some ⟨H.length + 3, 0, none⟩) p.v.length 3, .slice (some ⟨H2.length, 0, none⟩) p.c.length 3, .slice none 0 0], true, false⟩ := by rw [hH4, blk_setB ((f3.blk _ (by omega) id).trans hb2), if_pos rfl]
  have l4 : H4.length = H3.length := by rw [hH4, setB_len]
  have fH4 : Fn H H4 := ((fH2.trans f3).no.trans F4).new (fun i e => by omega)
  have p4 : rd H4 ⟨H.length, 3, none⟩ = some (.slice az p.s.length (sg az 1)) := (F4.rd _ _ (by omega) (by omega)).trans ((f3.rd _ _ (rd_lt p2s) id).trans p2s)
  obtain ⟨H5, c5, f5, l5, w5, r5⟩ := toInt64S_c (d + 1) H.length H4 az p.s.length p.s (h.fn fH4).s (hF.sl.s) (hF.s)
  have hb5 := (f5.blk _ (by omega) id).trans hb4
  have k5 := fun vs hv => wr_at (lo := H.length) (o := 3) hb5 (by omega) vs hv
  have hb1 : H5.blk (H.length + 1) = some ⟨[.int .i64 0, .slice none 0 0, .slice none 0 0, .slice none 0 0], true, false⟩ := (f5.blk _ (by omega) id).trans ((F4.blk _ (by omega) (by omega)).trans ((f3.blk _ (by omega) id).trans ((F2.blk _ (by omega) (by omega)).trans ((f1.blk _ (by omega) id).trans b1))))
  have hb1' : ∀ cs, (setB H5 (H.length + 2) cs).blk (H.length + 1) = some ⟨[.int .i64 0, .slice none 0 0, .slice none 0 0, .slice none 0 0], true, false⟩ := fun cs => by rw [blk_setB hb5, if_neg (by omega), hb1]
  have k6 := fun cs hc => rdN_setB hb5 4 cs hc
  have k7 := fun cs vs hv => wr_setB (lo := H.length) (hb1' cs) (by omega) vs hv
  have k8 := fun cs vs hv => rdN_setB (hb1' cs) 4 vs hv
  have FF := fun cs vs => ((Fr.setB hb5 cs).mono (T := fun i => i = H.length + 2 ∨ i = H.length + 1) fun _ => Or.inl).trans ((Fr.setB (hb1' cs) vs).mono fun _ => Or.inr)
  have fFF := fun cs vs => ((fH4.trans f5).no.trans (FF cs vs)).new (fun i e => by omega)
  have T4 := fun cs vs => (F4.mono (T := fun i => i = H.length + 2 ∨ i = H.length + 1) fun _ => Or.inl).trans (f5.no.trans (FF cs vs))
  have T2 := fun cs vs => (F2.mono (T := fun i => i = H.length + 2 ∨ i = H.length + 1) fun _ => Or.inl).trans (f3.no.trans (T4 cs vs))
  refine ⟨.agg #[.int .i64 p.b, .slice (some ⟨H.length + 3, 0, none⟩) p.v.length 3, .slice (some ⟨H2.length, 0, none⟩) p.c.length 3, .slice (some ⟨H4.length, 0, none⟩) p.s.length 1], setB (setB H5 (H.length + 2) [.int .i64 p.b, .slice (some ⟨H.length + 3, 0, none⟩) p.v.length 3, .slice (some ⟨H2.length, 0, none⟩) p.c.length 3, .slice (some ⟨H4.length, 0, none⟩) p.s.length 1]) (H.length + 1) [.int .i64 p.b, .slice (some ⟨H.length + 3, 0, none⟩) p.v.length 3, .slice (some ⟨H2.length, 0, none⟩) p.c.length 3, .slice (some ⟨H4.length, 0, none⟩) p.s.length 1], ?_, H.length + 3, H2.length, H4.length, rfl, fFF _ _, ⟨?_, ?_, ?_⟩, ?_, ?_, ?_, by omega, by omega, by omega⟩
  · subst hHB
    rw [call_eq find6 _ _ _ rfl]
    simp -implicitDefEqProofs only [v6, VMs, noRef, noRef1, isRef, List.all_cons, List.all_nil, vop, VOp.still, VOp.app, VOp.plain, allP, lof, evs, start, asI, vbin, vcells, ntup, setAll, vfill, vress, vres, tup, Nat.reduceEqDiff, ↓reduceIte, Nat.reduceAdd, Nat.reduceMul, Nat.reduceLeDiff, reduceCtorEq, c1, k1, ← hH2, p2, c3, k3, ← hH4, p4, c5, k5, k6, k7, k8]
  · exact r1.frV (fun i ⟨o, e⟩ => by cases e; omega) (T2 _ _)
  · exact r3.frV (fun i ⟨o, e⟩ => by cases e; omega) (T4 _ _)
  · exact r5.fr (fun i ⟨o, e⟩ => by cases e; omega) (FF _ _)
  · exact (T2 _ _).wb _ _ (w1.lo (by omega))
  · exact (T4 _ _).wb _ _ (w3.lo (by omega))
  · exact (FF _ _).wb _ _ (w5.lo (by omega))
end Go.Proofs.YtohanpndekfbgaaDoor.V
