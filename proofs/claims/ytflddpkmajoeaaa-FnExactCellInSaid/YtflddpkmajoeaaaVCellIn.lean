/- CellIn: the program's and the reference's, and the law. -/
import Derived.Test.YtflddpkmajoeaaaVLG
namespace Go.Proofs.Ytflddpkmajoeaaa.V
open Go
set_option linter.unusedVariables false
set_option linter.unusedSimpArgs false
set_option maxRecDepth 100000
theorem eqIntResult_c (d lo : Nat) (H : Hp) (a b a' b' : Int) : vcall env (d + 1) 35 [.agg #[.int .i64 a, .int .i64 b], .agg #[.int .i64 a', .int .i64 b']] lo H = some (.bool (decide (a = a' ∧ b = b')), H) := by
  rw [call_eq find35 _ _ _ rfl]
  simp -implicitDefEqProofs only [v35, VMs, noRef, noRef1, isRef, List.all_cons, List.all_nil, vop, VOp.still, evs, start, asI, vbin, vcells, ntup, setAll, vfill, vress, vres, tup, Nat.reduceEqDiff, ↓reduceIte, Nat.reduceAdd, Nat.reduceMul, Nat.reduceLeDiff, reduceCtorEq]
  by_cases h1 : a = a' <;> by_cases h2 : b = b' <;> simp [h1, h2]
def ceC (p : Pl) (vol at_ : Int) : Int := if lF p = 0 then (if atC p.c vol at_ = -1 then 4 else 0) else lF p
def ceV (p : Pl) (vol at_ : Int) : Int := if lF p = 0 then (if atC p.c vol at_ = -1 then 0 else ((p.c[(atC p.c vol at_).toNat]?).map Vo.r).getD 0) else 0
theorem lF_ok {p : Pl} (h : lF p = 0) : Sorted p.c ∧ p.c.length ≤ 96 := by
  unfold lF at h
  by_cases hB : 0 ≤ p.b ∧ p.b ≤ 24
  · rw [if_pos hB] at h
    by_cases h6 : 6 < p.v.length
    · rw [if_pos h6] at h; omega
    rw [if_neg h6] at h
    by_cases h1 : ff (wCs p.v) = 0
    · rw [if_pos h1] at h
      by_cases h96 : 96 < p.c.length
      · rw [if_pos h96] at h; omega
      rw [if_neg h96] at h
      by_cases h2 : ff (dCs p.v p.c) = 0
      · exact ⟨sorted_of (ff_zero h2), by omega⟩
      · rw [if_neg h2] at h; exact absurd h h2
    · rw [if_neg h1] at h; exact absurd h h1
  · rw [if_neg hB] at h; omega
theorem specCellIn_c (d lo : Nat) (H : Hp) {av nv ac nc az nz} {p : Pl} (h : RL H av nv ac nc az nz p) (hs : SL p) (vol at_ : Int) :
    vcall env (d + 5) 46 [.agg #[.int .i64 p.b, .slice av nv (sg av 3), .slice ac nc (sg ac 3), .slice az nz (sg az 1)], .int .i64 vol, .int .i64 at_] lo H = some (.agg #[.int .i64 (ceC p vol at_), .int .i64 (ceV p vol at_)], H) := by
  have hp := fun l => PL.box h l
  have c1 := fun l => l6Fault_c d H.length _ (hp l) hs
  have c2 := fun l => l6At_c (d + 3) H.length _ (hp l) hs vol at_
  rw [call_eq find46 _ _ _ rfl]
  unfold ceC ceV
  by_cases h0 : lF p = 0
  · rw [if_pos h0, if_pos h0]
    rcases atC_cases p.c vol at_ with hm | ⟨i, hi, hm⟩
    · have hd : decide ((-1 : Int) < 0) = true := rfl
      rw [hm] at c2 ⊢
      simp -implicitDefEqProofs only [v46, VMs, noRef, noRef1, isRef, List.all_cons, List.all_nil, vop, VOp.still, evs, start, asI, vbin, vcells, ntup, setAll, vfill, vress, vres, tup, Nat.reduceEqDiff, ↓reduceIte, Nat.reduceAdd, Nat.reduceMul, Nat.reduceLeDiff, reduceCtorEq, c1, h0, bne_self_eq_false, c2, hd]
    · have hd : decide ((i : Int) < 0) = false := decide_eq_false (by omega)
      have hne : ¬ (i : Int) = -1 := by omega
      have hin : i < nc := by rw [h.c.1]; exact hi
      rw [hm] at c2 ⊢
      rw [if_neg hne, if_neg hne, Int.toNat_natCast, getE hi, Option.map_some, Option.getD_some]
      obtain ⟨pc, oc, rfl, e⟩ := h.c.at hi
      have e3 := fun l => (e.app (l := l)).2.2
      simp only [sgs] at c1 c2
      simp -implicitDefEqProofs only [v46, VMs, noRef, noRef1, isRef, List.all_cons, List.all_nil, vop, VOp.still, evs, start, asI, vbin, vcells, ntup, setAll, vfill, vress, vres, tup, Nat.reduceEqDiff, ↓reduceIte, Nat.reduceAdd, Nat.reduceMul, Nat.reduceLeDiff, reduceCtorEq, c1, h0, bne_self_eq_false, c2, hd, slen, ltc hin, ge0, Int.toNat_natCast, e3]
  · have h0' : (lF p != 0) = true := by simp [h0]
    rw [if_neg h0, if_neg h0]
    simp -implicitDefEqProofs only [v46, VMs, noRef, noRef1, isRef, List.all_cons, List.all_nil, vop, VOp.still, evs, start, asI, vbin, vcells, ntup, setAll, vfill, vress, vres, tup, Nat.reduceEqDiff, ↓reduceIte, Nat.reduceAdd, Nat.reduceMul, Nat.reduceLeDiff, reduceCtorEq, c1, h0']
theorem implCellIn_c (d lo : Nat) (H : Hp) {av nv ac nc az nz} {p : Pl} (h : RL H av nv ac nc az nz p) (hx : Ex H ac) (hs : SL p) (vol at_ : Int) :
    vcall env (d + 6) 47 [.agg #[.int .i64 p.b, .slice av nv (sg av 3), .slice ac nc (sg ac 3), .slice az nz (sg az 1)], .int .i64 vol, .int .i64 at_] lo H = some (.agg #[.int .i64 (ceC p vol at_), .int .i64 (ceV p vol at_)], H) := by
  have c1 := fun l => implPlainFault_c d H.length (H ++ l) h.app (hx.fn Fr.app) hs
  rw [call_eq find47 _ _ _ rfl]
  unfold ceC ceV
  by_cases h0 : lF p = 0
  · obtain ⟨hso, h96⟩ := lF_ok h0
    obtain ⟨P, hP⟩ : ∃ P : Option Blk, P = some ⟨[.int .i64 p.b, .slice av nv (sg av 3), .slice ac nc (sg ac 3), .slice az nz (sg az 1)], true, false⟩ := ⟨_, rfl⟩
    obtain ⟨R, hR⟩ : ∃ R : Option Blk, R = some ⟨[.int .i64 0, .int .i64 0], true, false⟩ := ⟨_, rfl⟩
    obtain ⟨i, b, hb, hcase⟩ := bsearch_c d H.length (H ++ [P, R]) (h.c.fnV Fr.app) (by rw [h.c.1]; exact h96) hso ⟨vol, at_, 0⟩
    have c2 : vcall env (d + 5) 98 [.slice ac nc (sg ac 3), .int .i64 vol, .int .i64 at_] H.length (H ++ [P, R]) = some (.tuple #[.int .i64 (i : Nat), .bool b], H ++ [P, R]) := by
      simp only [VV] at hb
      have hb' := fun lo => bsearch_c d lo (H ++ [P, R]) (h.c.fnV Fr.app) (by rw [h.c.1]; exact h96) hso ⟨vol, at_, 0⟩
      obtain ⟨i', b', hb2, hcase2⟩ := hb' (H ++ [P, R] : Hp).length
      have hsame : i' = i ∧ b' = b ∨ True := Or.inr trivial
      rw [call_eq find98 _ _ _ rfl]
      simp only [VV] at hb2
      have heq : vcall env (d + 4) 144 [.slice ac nc (sg ac 3), .agg #[.int .i64 vol, .int .i64 at_, .int .i64 0], .func (.func 95) #[] #[]] (H ++ [P, R] : Hp).length (H ++ [P, R]) = some (.tuple #[.int .i64 (i : Nat), .bool b], H ++ [P, R]) := by
        rw [call_eq find144 _ _ _ rfl] at hb ⊢
        exact hb
      simp only [List.length_append, List.length_cons, List.length_nil, Nat.zero_add, Nat.reduceAdd] at heq
      simp -implicitDefEqProofs only [v98, VMs, noRef, noRef1, isRef, List.all_cons, List.all_nil, vop, VOp.still, evs, start, asI, vbin, vcells, ntup, setAll, vfill, vress, vres, tup, Nat.reduceEqDiff, ↓reduceIte, Nat.reduceAdd, Nat.reduceMul, Nat.reduceLeDiff, reduceCtorEq, heq, List.getElem?_toArray]
    rw [if_pos h0, if_pos h0]
    subst hP hR
    rcases hcase with ⟨rfl, hin, hm⟩ | ⟨rfl, hm⟩
    · have hne : ¬ (i : Int) = -1 := by omega
      have hi : i < p.c.length := by rw [← h.c.1]; exact hin
      simp only at hm
      rw [hm, if_neg hne, if_neg hne, Int.toNat_natCast, getE hi, Option.map_some, Option.getD_some]
      obtain ⟨pc, oc, rfl, e⟩ := h.c.at hi
      have e3 := fun l => (e.app (l := l)).2.2
      simp only [sgs] at c1 c2
      simp -implicitDefEqProofs only [v47, VMs, noRef, noRef1, isRef, List.all_cons, List.all_nil, vop, VOp.still, evs, start, asI, vbin, vcells, ntup, setAll, vfill, vress, vres, tup, Nat.reduceEqDiff, ↓reduceIte, Nat.reduceAdd, Nat.reduceMul, Nat.reduceLeDiff, reduceCtorEq, c1, h0, bne_self_eq_false, c2, List.getElem?_toArray, slen, ltc hin, ge0, Int.toNat_natCast, e3]
    · simp only at hm
      rw [hm, if_pos rfl, if_pos rfl]
      simp -implicitDefEqProofs only [v47, VMs, noRef, noRef1, isRef, List.all_cons, List.all_nil, vop, VOp.still, evs, start, asI, vbin, vcells, ntup, setAll, vfill, vress, vres, tup, Nat.reduceEqDiff, ↓reduceIte, Nat.reduceAdd, Nat.reduceMul, Nat.reduceLeDiff, reduceCtorEq, c1, h0, bne_self_eq_false, c2, List.getElem?_toArray]
  · have h0' : (lF p != 0) = true := by simp [h0]
    rw [if_neg h0, if_neg h0]
    simp -implicitDefEqProofs only [v47, VMs, noRef, noRef1, isRef, List.all_cons, List.all_nil, vop, VOp.still, evs, start, asI, vbin, vcells, ntup, setAll, vfill, vress, vres, tup, Nat.reduceEqDiff, ↓reduceIte, Nat.reduceAdd, Nat.reduceMul, Nat.reduceLeDiff, reduceCtorEq, c1, h0']
/-- The law. -/
theorem law_c (d lo : Nat) (H : Hp) {av nv ac nc az nz} {p : Pl} (h : RL H av nv ac nc az nz p) (hF : ArgL p) (vol at_ : Int) (hw1 : (Lit.int .i64 vol).wf = true) (hw2 : (Lit.int .i64 at_).wf = true) : vcall env (d + 7) 11 [.agg #[.int .i64 p.b, .slice av nv (sg av 3), .slice ac nc (sg ac 3), .slice az nz (sg az 1)], .int .i64 vol, .int .i64 at_] lo H = some (.bool true, H) := by
  have hs := hF.sl
  obtain ⟨HB, hHB⟩ : ∃ HB, HB = H ++ [some ⟨[.int .i64 p.b, .slice av nv (sg av 3), .slice ac nc (sg ac 3), .slice az nz (sg az 1)], true, false⟩] := ⟨_, rfl⟩
  have hp : PL HB H.length av nv ac nc az nz p := by rw [hHB]; exact PL.box h []
  have hf0 : Fn H HB := by rw [hHB]; exact Fr.app
  obtain ⟨r, hsz, hr⟩ := szPlain_c (d + 4) H.length HB hp.r hs 1048576 (by unfold Lf; omega) (by omega)
  rw [call_eq find11 _ _ _ rfl]
  by_cases hr0 : r < 0
  · subst hHB
    simp -implicitDefEqProofs only [v11, VMs, noRef, noRef1, isRef, List.all_cons, List.all_nil, vop, VOp.still, evs, start, asI, vbin, vcells, ntup, setAll, vfill, vress, vres, tup, Nat.reduceEqDiff, ↓reduceIte, Nat.reduceAdd, Nat.reduceMul, Nat.reduceLeDiff, reduceCtorEq, hsz, hr0, decide_true]
  · obtain ⟨v1, H1, t1, iv1, ic1, iz1, rfl, f1, o1, _, w1, _⟩ := toPlain_c (d + 3) H.length HB hp.r hF
    obtain ⟨CW, hCW⟩ : ∃ CW : Option Blk, CW = some ⟨[.int .i64 (ceC p vol at_), .int .i64 (ceV p vol at_)], true, false⟩ := ⟨_, rfl⟩
    have p1 := (hp.fn f1).fn (Fr.app (l := [CW]))
    have hle1 : (H.length ≤ H1.length) = True := eq_true (Fr.len (hf0.trans f1))
    obtain ⟨v2, H2, t2, iv2, ic2, iz2, rfl, f2, o2, _, w2, _⟩ := toPlain_c (d + 3) H.length (H1 ++ [CW]) p1.r hF
    have hle2 : (H.length ≤ H2.length) = True := eq_true (Fr.len ((hf0.trans f1).trans (Fr.app.trans f2)))
    have hle3 : (H.length ≤ H2.length + 1) = True := eq_true (Nat.le_succ_of_le (of_eq_true hle2))
    have hl12 : H1.length < H2.length := by have := f2.len; simp at this; omega
    obtain ⟨CG, hCG⟩ : ∃ CG : Option Blk, CG = some ⟨[.int .i64 p.b, .slice (some ⟨iv2, 0, none⟩) p.v.length 3, .slice (some ⟨ic2, 0, none⟩) p.c.length 3, .slice (some ⟨iz2, 0, none⟩) p.s.length 1], true, false⟩ := ⟨_, rfl⟩
    have w0 : rdN (H1 ++ [CW]) ⟨H1.length, 0, none⟩ 2 = some [.int .i64 (ceC p vol at_), .int .i64 (ceV p vol at_)] := by simp [rdN0, hCW]
    have x2 : ∀ l, rdN (H2 ++ l) ⟨H1.length, 0, none⟩ 2 = some [.int .i64 (ceC p vol at_), .int .i64 (ceV p vol at_)] := fun l => ((f2.trans (Fr.app (l := l))).rdN H1.length 0 2 (by simp) (fun hh => hh)).trans w0
    have p2 := fun l => (p1.fn f2).fn (Fr.app (l := l))
    have r2 := fun l => o2.fn (Fr.app (l := l))
    obtain ⟨v3, H3, t3, iv3, ic3, iz3, rfl, f3, o3, _⟩ := toPlain_c (d + 3) (List.length (α := Option Blk) (H2 ++ [CG, CW])) _ (p2 [CG, CW]).r hF
    have s1 := specCellIn_c (d + 1) H.length H1 o1 hs vol at_
    have i2 := implCellIn_c d H.length _ (r2 [CG]) (w2.ex.fn Fr.app) hs vol at_
    have e3 := eqPlain_c (d + 3) H.length H3 ((r2 [CG, CW]).fn f3) o3 hs
    have q1 := p1.rdN
    have q2 := fun l => (p2 l).rdN
    simp only [sgs] at s1 i2 e3
    subst hHB hCG hCW
    simp only [Nat.add_assoc, Nat.reduceAdd, List.length_append, List.length_cons, List.length_nil, Nat.zero_add] at hsz t1 t2 t3 s1 i2 e3 q1
    simp -implicitDefEqProofs only [v11, VMs, noRef, noRef1, isRef, List.all_cons, List.all_nil, vop, VOp.still, evs, start, asI, vbin, vcells, ntup, setAll, vfill, vress, vres, tup, Nat.reduceEqDiff, ↓reduceIte, Nat.reduceAdd, Nat.reduceMul, Nat.reduceLeDiff, reduceCtorEq, hsz, hr0, decide_false, decide_true, t1, s1, hle1, q1, t2, hle2, hle3, i2, x2, eqIntResult_c, vdr, q2, t3, e3]
end Go.Proofs.Ytflddpkmajoeaaa.V
