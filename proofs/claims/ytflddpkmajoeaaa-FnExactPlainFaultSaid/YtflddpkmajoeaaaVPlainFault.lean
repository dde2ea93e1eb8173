/- PlainFault: the law. -/
import Derived.Test.YtflddpkmajoeaaaVLF
namespace Go.Proofs.Ytflddpkmajoeaaa.V
open Go
set_option linter.unusedVariables false
set_option linter.unusedSimpArgs false
set_option maxRecDepth 100000
/-- The law. -/
theorem law_c (d lo : Nat) (H : Hp) {av nv ac nc az nz} {p : Pl} (h : RL H av nv ac nc az nz p) (hF : ArgL p) : vcall env (d + 6) 10 [.agg #[.int .i64 p.b, .slice av nv (sg av 3), .slice ac nc (sg ac 3), .slice az nz (sg az 1)]] lo H = some (.bool true, H) := by
  have hs := hF.sl
  obtain ⟨HB, hHB⟩ : ∃ HB, HB = H ++ [some ⟨[.int .i64 p.b, .slice av nv (sg av 3), .slice ac nc (sg ac 3), .slice az nz (sg az 1)], true, false⟩] := ⟨_, rfl⟩
  have hp : PL HB H.length av nv ac nc az nz p := by rw [hHB]; exact PL.box h []
  obtain ⟨r, hsz, hr⟩ := szPlain_c (d + 3) H.length HB hp.r hs 1048576 (by unfold Lf; omega) (by omega)
  rw [call_eq find10 _ _ _ rfl]
  by_cases hr0 : r < 0
  · subst hHB
    simp -implicitDefEqProofs only [v10, VMs, noRef, noRef1, isRef, List.all_cons, List.all_nil, vop, VOp.still, evs, start, asI, vbin, vcells, ntup, setAll, vfill, vress, vres, tup, Nat.reduceEqDiff, ↓reduceIte, Nat.reduceAdd, Nat.reduceMul, Nat.reduceLeDiff, reduceCtorEq, hsz, hr0, decide_true]
  · obtain ⟨v1, H1, t1, iv1, ic1, iz1, rfl, f1, o1, _, w1, _⟩ := toPlain_c (d + 2) H.length HB hp.r hF
    have p1 := hp.fn f1
    obtain ⟨v2, H2, t2, iv2, ic2, iz2, rfl, f2, o2, _, w2, _⟩ := toPlain_c (d + 2) H.length H1 p1.r hF
    have hle2 : (H.length ≤ H2.length) = True := eq_true (by have := f1.len; have := f2.len; rw [hHB] at *; simp at *; omega)
    obtain ⟨CG, hCG⟩ : ∃ CG : Option Blk, CG = some ⟨[.int .i64 p.b, .slice (some ⟨iv2, 0, none⟩) p.v.length 3, .slice (some ⟨ic2, 0, none⟩) p.c.length 3, .slice (some ⟨iz2, 0, none⟩) p.s.length 1], true, false⟩ := ⟨_, rfl⟩
    have fG : Fn H2 (H2 ++ [CG]) := Fr.app
    have p2 := (p1.fn f2).fn fG
    obtain ⟨v3, H3, t3, iv3, ic3, iz3, rfl, f3, o3, _⟩ := toPlain_c (d + 2) (List.length (α := Option Blk) (H2 ++ [CG])) _ p2.r hF
    have s1 := specPlainFault_c d H.length H1 o1 hs
    have i2 := implPlainFault_c d H.length _ (o2.fn fG) (w2.ex.fn fG) hs
    have e3 := eqPlain_c (d + 2) H.length H3 ((o2.fn fG).fn f3) o3 hs
    have q0 := hp.rdN
    have q1 := p1.rdN
    have q2 := p2.rdN
    simp only [sgs] at s1 i2 e3
    subst hHB hCG
    simp only [Nat.add_assoc, Nat.reduceAdd, List.length_append, List.length_cons, List.length_nil, Nat.zero_add] at hsz t1 t2 t3 s1 i2 e3 q1
    simp -implicitDefEqProofs only [v10, VMs, noRef, noRef1, isRef, List.all_cons, List.all_nil, vop, VOp.still, evs, start, asI, vbin, vcells, ntup, setAll, vfill, vress, vres, tup, Nat.reduceEqDiff, ↓reduceIte, Nat.reduceAdd, Nat.reduceMul, Nat.reduceLeDiff, reduceCtorEq, hsz, hr0, decide_false, decide_true, t1, s1, q1, t2, hle2, i2, bne_self_eq_false, vdr, q2, t3, e3]
end Go.Proofs.Ytflddpkmajoeaaa.V
