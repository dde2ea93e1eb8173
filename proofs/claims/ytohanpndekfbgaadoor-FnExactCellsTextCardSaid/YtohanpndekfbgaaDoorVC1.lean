/- The laws' helpers: are two forests the same? -/
import Derived.Test.YtohanpndekfbgaaDoorVB
import Derived.Test.YtohanpndekfbgaaDoorVE
namespace Go.Proofs.YtohanpndekfbgaaDoor.V
open Go
set_option linter.unusedVariables false
set_option linter.unusedSimpArgs false
set_option maxRecDepth 100000
/-- What lengths are never beyond. -/
def Sm (n : Nat) : Prop := n < 4611686018427387904
theorem Sm.w {n i : Nat} (h : Sm n) (hi : i < n) : IntKind.i64.wrap ((i : Int) + 1) = ((i + 1 : Nat) : Int) := by unfold Sm at h; rw [wr (by omega) (by omega)]; rfl
theorem ltc {i n : Nat} (h : i < n) : ((i : Int) < (n : Int)) = True := by simp; exact h
theorem ge0 (i : Nat) : ((0 : Int) ≤ (i : Int)) = True := by simp
theorem getE {α : Type} {l : List α} {i : Nat} (h : i < l.length) : l[i]? = some l[i] := List.getElem?_eq_getElem h

theorem EB.val {H : Hp} {i o : Nat} {b : Bk} (h : EB H i o b) : rdN H ⟨i, o, none⟩ 2 = some [.int .i64 b.r, .int .i64 b.d] := rdN2 h.1 h.2
theorem eqInt64S_c (d lo : Nat) (H : Hp) (a b : Option Addr) (n m : Nat) (la lb : List Int) (ha : Rep EI 1 H a n la) (hb : Rep EI 1 H b m lb) (hn : Sm n) :
    vcall env (d + 1) 22 [.slice a n (sg a 1), .slice b m (sg b 1)] lo H = some (.bool (decide (la = lb)), H) := by
  rw [call_eq find22 _ _ _ rfl]
  by_cases hnm : n = m
  · subst hnm
    have hl := lim_all (f := rnd (vcall env d) H.length [0, 1, 5] [4] l22_0) (R := (.exit 0, [], H)) (E := (.ret, [(4, .bool false)], H)) (by simp) (by simp) (fun i => [(0, .slice a n (sg a 1)), (1, .slice b n (sg b 1)), (5, .int .i64 (i : Nat))]) H n (fun i => la[i]? = lb[i]?)
      (by simp -implicitDefEqProofs only [rnd, l22_0, VMs, noRef, noRef1, isRef, List.all_cons, List.all_nil, vop, VOp.still, VOp.app, VOp.plain, allP, lof, evs, start, asI, vbin, vcells, ntup, setAll, vfill, vress, vres, tup, Nat.reduceEqDiff, ↓reduceIte, Nat.reduceAdd, Nat.reduceMul, Nat.reduceLeDiff, reduceCtorEq, slen, Int.lt_irrefl, decide_false])
      (fun i hi => by
        have hla : i < la.length := by rw [← ha.1]; exact hi
        have hlb : i < lb.length := by rw [← hb.1]; exact hi
        obtain ⟨i1, o1, rfl, e1⟩ := ha.at hla
        obtain ⟨i2, o2, rfl, e2⟩ := hb.at hlb
        simp only [Nat.mul_one, EI] at e1 e2
        simp -implicitDefEqProofs only [rnd, l22_0, VMs, noRef, noRef1, isRef, List.all_cons, List.all_nil, vop, VOp.still, VOp.app, VOp.plain, allP, lof, evs, start, asI, vbin, vcells, ntup, setAll, vfill, vress, vres, tup, Nat.reduceEqDiff, ↓reduceIte, Nat.reduceAdd, Nat.reduceMul, Nat.reduceLeDiff, reduceCtorEq, slen, ltc hi, ge0, decide_true, e1, e2, Int.toNat_natCast, Nat.mul_one, hn.w hi, getE hla, getE hlb, Option.some.injEq]
        by_cases h : la[i] = lb[i] <;> simp [h])
      (all_eq ha.1 hb.1)
    simp only [Int.natCast_zero] at hl
    simp -implicitDefEqProofs only [v22, VMs, noRef, noRef1, isRef, List.all_cons, List.all_nil, vop, VOp.still, VOp.app, VOp.plain, allP, lof, evs, start, asI, vbin, vcells, ntup, setAll, vfill, vress, vres, tup, Nat.reduceEqDiff, ↓reduceIte, Nat.reduceAdd, Nat.reduceMul, Nat.reduceLeDiff, reduceCtorEq, slen, bne_self_eq_false, vlp, hl]
    by_cases h : la = lb <;> simp -implicitDefEqProofs only [h, decide_true, decide_false, VMs, noRef, noRef1, isRef, List.all_cons, List.all_nil, vop, VOp.still, VOp.app, VOp.plain, allP, lof, evs, start, asI, vbin, vcells, ntup, setAll, vfill, vress, vres, tup, Nat.reduceEqDiff, ↓reduceIte, Nat.reduceAdd, Nat.reduceMul, Nat.reduceLeDiff, reduceCtorEq]
  · have hne : la ≠ lb := by intro e; subst e; exact hnm (ha.1.trans hb.1.symm)
    have h1 : ((n : Int) != (m : Int)) = true := by simp; omega
    simp -implicitDefEqProofs only [v22, VMs, noRef, noRef1, isRef, List.all_cons, List.all_nil, vop, VOp.still, VOp.app, VOp.plain, allP, lof, evs, start, asI, vbin, vcells, ntup, setAll, vfill, vress, vres, tup, Nat.reduceEqDiff, ↓reduceIte, Nat.reduceAdd, Nat.reduceMul, Nat.reduceLeDiff, reduceCtorEq, slen, h1, hne, decide_false]

theorem Rep.app {α : Type} {E : Hp → Nat → Nat → α → Prop} {st : Nat} {H : Hp} {l : List (Option Blk)} (hE : ∀ i o x, E H i o x → E (H ++ l) i o x) {a : Option Addr} {n : Nat} {xs : List α} (h : Rep E st H a n xs) : Rep E st (H ++ l) a n xs := h.mono hE
theorem EI.app {H : Hp} {l : List (Option Blk)} {i o : Nat} {x : Int} (h : EI H i o x) : EI (H ++ l) i o x := rd_app h
theorem EB.app {H : Hp} {l : List (Option Blk)} {i o : Nat} {x : Bk} (h : EB H i o x) : EB (H ++ l) i o x := ⟨rd_app h.1, rd_app h.2⟩
theorem EN.app {H : Hp} {l : List (Option Blk)} {i o : Nat} {x : Nd} (h : EN H i o x) : EN (H ++ l) i o x := by
  obtain ⟨h1, h2, a, n, h3, h4⟩ := h
  exact ⟨rd_app h1, rd_app h2, a, n, rd_app h3, h4.app fun _ _ _ => EI.app⟩

/-- A forest in memory: its two slices. -/
structure RF (H : Hp) (an : Option Addr) (nn : Nat) (ab : Option Addr) (nb : Nat) (F : Fo) : Prop where
  n : Rep EN 3 H an nn F.n
  b : Rep EB 2 H ab nb F.b
/-- A forest of no great size. -/
structure SF (F : Fo) : Prop where
  n : Sm F.n.length
  b : Sm F.b.length
  k : ∀ x ∈ F.n, Sm x.k.length
theorem RF.app {H : Hp} {l : List (Option Blk)} {an nn ab nb F} (h : RF H an nn ab nb F) : RF (H ++ l) an nn ab nb F := ⟨h.n.app fun _ _ _ => EN.app, h.b.app fun _ _ _ => EB.app⟩
end Go.Proofs.YtohanpndekfbgaaDoor.V
