/- CellsText: the reference, the program, the law. -/
import Derived.Test.YtohanpndekfbgaaDoorVXC
namespace Go.Proofs.YtohanpndekfbgaaDoor.V
open Go
set_option linter.unusedVariables false
set_option linter.unusedSimpArgs false
set_option maxRecDepth 100000
/-- The text that is told of a plain pool. -/
def tx (p : Pl) : List UInt8 := if lF p = 0 then textB p.v p.c else []
theorem specCellsText_c (d lo : Nat) (H : Hp) {av nv ac nc az nz} {p : Pl} (h : RL H av nv ac nc az nz p) (hs : SL p) :
    vcall env (d + 5) 5 [.agg #[.int .i64 p.b, .slice av nv (sg av 3), .slice ac nc (sg ac 3), .slice az nz (sg az 1)]] lo H = some (.agg #[.int .i64 (lF p), str (tx p)], H) := by
  have hp := PL.box h [some ⟨[.int .i64 0, .string ⟨#[]⟩], true, false⟩]
  have hc := l6Fault_c d H.length _ hp hs
  rw [call_eq find5 _ _ _ rfl]
  unfold tx
  by_cases h0 : lF p = 0
  · have ht := l6Text_c d H.length _ hp (lF_good h0)
    rw [if_pos h0]
    rw [h0] at hc ⊢
    simp only [str] at ht ⊢
    simp -implicitDefEqProofs only [v5, VMs, noRef, noRef1, isRef, List.all_cons, List.all_nil, vop, VOp.still, VOp.app, VOp.plain, allP, lof, evs, start, asI, vbin, vcells, ntup, setAll, vfill, vress, vres, tup, Nat.reduceEqDiff, ↓reduceIte, Nat.reduceAdd, Nat.reduceMul, Nat.reduceLeDiff, reduceCtorEq, hc, ht, bne_self_eq_false]
  · rw [if_neg h0]
    have hb : (lF p != 0) = true := bne_iff_ne.2 h0
    generalize lF p = F at *
    simp -implicitDefEqProofs only [v5, VMs, noRef, noRef1, isRef, List.all_cons, List.all_nil, vop, VOp.still, VOp.app, VOp.plain, allP, lof, evs, start, asI, vbin, vcells, ntup, setAll, vfill, vress, vres, tup, Nat.reduceEqDiff, ↓reduceIte, Nat.reduceAdd, Nat.reduceMul, Nat.reduceLeDiff, reduceCtorEq, hc, hb, str]
theorem implCellsText_c (d lo : Nat) (H : Hp) {av nv ac nc az nz} {p : Pl} (h : RL H av nv ac nc az nz p) (hx : Ex H ac) (hs : SL p) :
    vcall env (d + 6) 7 [.agg #[.int .i64 p.b, .slice av nv (sg av 3), .slice ac nc (sg ac 3), .slice az nz (sg az 1)]] lo H = some (.agg #[.int .i64 (lF p), str (tx p)], H) := by
  obtain ⟨l, hl⟩ : ∃ l : List (Option Blk), l = [some ⟨[.int .i64 p.b, .slice av nv (sg av 3), .slice ac nc (sg ac 3), .slice az nz (sg az 1)], true, false⟩, some ⟨[.int .i64 0, .string ⟨#[]⟩], true, false⟩] := ⟨_, rfl⟩
  have fB : Fn H (H ++ l) := Fr.app
  have hc := implPlainFault_c d H.length _ (h.fn fB) (hx.fn fB) hs
  rw [call_eq find7 _ _ _ rfl]
  unfold tx
  by_cases h0 : lF p = 0
  · have ht := cellsText_c d H.length _ (h.fn fB) (hx.fn fB) (lF_good h0)
    rw [if_pos h0]
    rw [h0] at hc ⊢
    subst hl
    simp only [str] at ht ⊢
    simp -implicitDefEqProofs only [v7, VMs, noRef, noRef1, isRef, List.all_cons, List.all_nil, vop, VOp.still, VOp.app, VOp.plain, allP, lof, evs, start, asI, vbin, vcells, ntup, setAll, vfill, vress, vres, tup, Nat.reduceEqDiff, ↓reduceIte, Nat.reduceAdd, Nat.reduceMul, Nat.reduceLeDiff, reduceCtorEq, hc, ht, bne_self_eq_false]
  · rw [if_neg h0]
    have hb : (lF p != 0) = true := bne_iff_ne.2 h0
    subst hl
    generalize lF p = F at *
    simp -implicitDefEqProofs only [v7, VMs, noRef, noRef1, isRef, List.all_cons, List.all_nil, vop, VOp.still, VOp.app, VOp.plain, allP, lof, evs, start, asI, vbin, vcells, ntup, setAll, vfill, vress, vres, tup, Nat.reduceEqDiff, ↓reduceIte, Nat.reduceAdd, Nat.reduceMul, Nat.reduceLeDiff, reduceCtorEq, hc, hb, str]
theorem eqTextResult_c (d lo : Nat) (H : Hp) (F : Int) (t : List UInt8) :
    vcall env (d + 1) 8 [.agg #[.int .i64 F, str t], .agg #[.int .i64 F, str t]] lo H = some (.bool true, H) := by
  rw [call_eq find8 _ _ _ rfl]
  simp only [str]
  simp -implicitDefEqProofs only [v8, VMs, noRef, noRef1, isRef, List.all_cons, List.all_nil, vop, VOp.still, VOp.app, VOp.plain, allP, lof, evs, start, asI, vbin, vcells, ntup, setAll, vfill, vress, vres, tup, Nat.reduceEqDiff, ↓reduceIte, Nat.reduceAdd, Nat.reduceMul, Nat.reduceLeDiff, reduceCtorEq, bne_self_eq_false, vdr, beq_self_eq_true]
/-- The law. -/
theorem law_c (d lo : Nat) (H : Hp) {av nv ac nc az nz} {p : Pl} (h : RL H av nv ac nc az nz p) (hF : ArgL p) : vcall env (d + 7) 3 [.agg #[.int .i64 p.b, .slice av nv (sg av 3), .slice ac nc (sg ac 3), .slice az nz (sg az 1)]] lo H = some (.bool true, H) := by
  have hs := hF.sl
  obtain ⟨HB, hHB⟩ : ∃ HB, HB = H ++ [some ⟨[.int .i64 p.b, .slice av nv (sg av 3), .slice ac nc (sg ac 3), .slice az nz (sg az 1)], true, false⟩] := ⟨_, rfl⟩
  have hp : PL HB H.length av nv ac nc az nz p := by rw [hHB]; exact PL.box h []
  obtain ⟨r, hsz, hr⟩ := szPlain_c (d + 4) H.length HB hp.r hs 1048576 (by unfold Lf; omega) (by omega)
  rw [call_eq find3 _ _ _ rfl]
  by_cases hr0 : r < 0
  · subst hHB
    simp -implicitDefEqProofs only [v3, VMs, noRef, noRef1, isRef, List.all_cons, List.all_nil, vop, VOp.still, VOp.app, VOp.plain, allP, lof, evs, start, asI, vbin, vcells, ntup, setAll, vfill, vress, vres, tup, Nat.reduceEqDiff, ↓reduceIte, Nat.reduceAdd, Nat.reduceMul, Nat.reduceLeDiff, reduceCtorEq, hsz, hr0, decide_true]
  · obtain ⟨v1, H1, t1, iv1, ic1, iz1, rfl, f1, o1, _, w1, _⟩ := toPlain_c (d + 3) H.length HB hp.r hF
    have s1 := specCellsText_c (d + 1) H.length H1 o1 hs
    obtain ⟨CT, hCT⟩ : ∃ CT : Option Blk, CT = some ⟨[.int .i64 (lF p), str (tx p)], true, false⟩ := ⟨_, rfl⟩
    have fT : Fn H1 (H1 ++ [CT]) := Fr.app
    have p1 := (hp.fn f1).fn fT
    obtain ⟨v2, H2, t2, iv2, ic2, iz2, rfl, f2, o2, _, w2, _⟩ := toPlain_c (d + 3) H.length _ p1.r hF
    have hle2 : (H.length ≤ H2.length) = True := eq_true (by have := f1.len; have := f2.len; rw [hHB] at *; simp at *; omega)
    obtain ⟨CG, hCG⟩ : ∃ CG : Option Blk, CG = some ⟨[.int .i64 p.b, .slice (some ⟨iv2, 0, none⟩) p.v.length 3, .slice (some ⟨ic2, 0, none⟩) p.c.length 3, .slice (some ⟨iz2, 0, none⟩) p.s.length 1], true, false⟩ := ⟨_, rfl⟩
    have fG : Fn H2 (H2 ++ [CG]) := Fr.app
    have i2 := implCellsText_c d H.length _ (o2.fn fG) (w2.ex.fn fG) hs
    have fG2 : Fn (H2 ++ [CG]) ((H2 ++ [CG]) ++ [CT]) := Fr.app
    have p2 := ((p1.fn f2).fn fG).fn fG2
    have hT1 : ((H2 ++ [CG]) ++ [CT]).blk H1.length = some ⟨[.int .i64 (lF p), str (tx p)], true, false⟩ :=
      (fG2.blk _ (by have := f2.len; simp at *; omega) id).trans ((fG.blk _ (by have := f2.len; simp at *; omega) id).trans ((f2.blk _ (by simp) id).trans (by rw [hCT]; exact blk0)))
    have hTr : rdN ((H2 ++ [CG]) ++ [CT]) ⟨H1.length, 0, none⟩ 2 = some [.int .i64 (lF p), str (tx p)] := by unfold rdN; rw [hT1]; rfl
    have hle1 : (H.length ≤ H1.length) = True := eq_true (by have := f1.len; rw [hHB] at *; simp at *; omega)
    have hle3 : (H.length ≤ H2.length + 1) = True := eq_true (by have : H.length ≤ H2.length := of_eq_true hle2; omega)
    have e1 := eqTextResult_c (d + 5) H.length ((H2 ++ [CG]) ++ [CT]) (lF p) (tx p)
    obtain ⟨v3, H3, t3, iv3, ic3, iz3, rfl, f3, o3, _⟩ := toPlain_c (d + 3) (List.length (α := Option Blk) ((H2 ++ [CG]) ++ [CT])) _ p2.r hF
    have e3 := eqPlain_c (d + 3) H.length H3 (((o2.fn fG).fn fG2).fn f3) o3 hs
    have q0 := hp.rdN
    have q1 := p1.rdN
    have q2 := p2.rdN
    simp only [sgs] at s1 i2 e3
    generalize lF p = F at *
    generalize tx p = T at *
    simp only [str] at *
    subst hHB hCG hCT
    simp only [Nat.add_assoc, Nat.reduceAdd, List.length_append, List.length_cons, List.length_nil, Nat.zero_add, List.append_assoc, List.cons_append, List.nil_append] at hsz t1 t2 t3 s1 i2 e1 e3 q1 q2 hTr
    simp -implicitDefEqProofs only [v3, VMs, noRef, noRef1, isRef, List.all_cons, List.all_nil, vop, VOp.still, VOp.app, VOp.plain, allP, lof, evs, start, asI, vbin, vcells, ntup, setAll, vfill, vress, vres, tup, Nat.reduceEqDiff, ↓reduceIte, Nat.reduceAdd, Nat.reduceMul, Nat.reduceLeDiff, reduceCtorEq, hsz, hr0, decide_false, decide_true, t1, s1, q1, t2, hle2, i2, bne_self_eq_false, vdr, q2, hTr, hle1, hle3, e1, t3, e3]
end Go.Proofs.YtohanpndekfbgaaDoor.V
