/- Volumes: are they the same, marks on them, whether these are held. -/
import Derived.Test.YtohanpndekfbgaaDoorVC4
namespace Go.Proofs.YtohanpndekfbgaaDoor.V
open Go
set_option linter.unusedVariables false
set_option linter.unusedSimpArgs false
set_option maxRecDepth 100000
structure Vo where
  i : Int
  q : Int
  r : Int
  deriving DecidableEq
def VV (b : Vo) : Value := .agg #[.int .i64 b.i, .int .i64 b.q, .int .i64 b.r]
def EV (H : Hp) (i o : Nat) (b : Vo) : Prop := rd H ⟨i, o, none⟩ = some (.int .i64 b.i) ∧ rd H ⟨i, o + 1, none⟩ = some (.int .i64 b.q) ∧ rd H ⟨i, o + 2, none⟩ = some (.int .i64 b.r)
theorem EV.val {H : Hp} {i o : Nat} {b : Vo} (h : EV H i o b) : rdN H ⟨i, o, none⟩ 3 = some [.int .i64 b.i, .int .i64 b.q, .int .i64 b.r] := rdN3 h.1 h.2.1 h.2.2
theorem EV.app {H : Hp} {l : List (Option Blk)} {i o : Nat} {x : Vo} (h : EV H i o x) : EV (H ++ l) i o x := ⟨rd_app h.1, rd_app h.2.1, rd_app h.2.2⟩
theorem Rep.frV {T : Nat → Prop} {H H' : Hp} {a : Option Addr} {n : Nat} {l : List Vo} (h : Rep EV 3 H a n l) (hT : ∀ i, Ad a i → ¬ T i) (hf : Fr T H H') : Rep EV 3 H' a n l :=
  ⟨h.1, fun hl => let ⟨i, o, ha, h2⟩ := h.2 hl; ⟨i, o, ha, fun j x hx => by
    have hi := hT i ⟨o, ha⟩
    obtain ⟨g1, g2, g3⟩ := h2 j x hx
    exact ⟨(hf.rd _ _ (rd_lt g1) hi).trans g1, (hf.rd _ _ (rd_lt g2) hi).trans g2, (hf.rd _ _ (rd_lt g3) hi).trans g3⟩⟩⟩
def mV (n : Nat) (k : Int) : List Vo := (List.range n).map fun (j : Nat) => ⟨k + 3 * (j : Int), k + 3 * (j : Int) + 1, k + 3 * (j : Int) + 2⟩
theorem mV_len (n : Nat) (k : Int) : (mV n k).length = n := by simp [mV]
theorem mV_at {n : Nat} {k : Int} {j : Nat} (h : j < n) : (mV n k)[j]? = some ⟨k + 3 * (j : Int), k + 3 * (j : Int) + 1, k + 3 * (j : Int) + 2⟩ := by simp [mV, h]
theorem eqVol_c (d lo : Nat) (H : Hp) (a b : Vo) : vcall env (d + 1) 39 [VV a, VV b] lo H = some (.bool (decide (a = b)), H) := by
  rw [call_eq find39 _ _ _ rfl]
  obtain ⟨r, x, y⟩ := a
  obtain ⟨r', x', y'⟩ := b
  simp -implicitDefEqProofs only [VV, v39, VMs, noRef, noRef1, isRef, List.all_cons, List.all_nil, vop, VOp.still, VOp.app, VOp.plain, allP, lof, evs, start, asI, vbin, vcells, ntup, setAll, vfill, vress, vres, tup, Nat.reduceEqDiff, ↓reduceIte, Nat.reduceAdd, Nat.reduceMul, Nat.reduceLeDiff, reduceCtorEq]
  by_cases h1 : r = r' <;> by_cases h2 : x = x' <;> by_cases h3 : y = y' <;> simp [h1, h2, h3]
theorem eqVolS_c (d lo : Nat) (H : Hp) (a b : Option Addr) (n m : Nat) (la lb : List Vo) (ha : Rep EV 3 H a n la) (hb : Rep EV 3 H b m lb) (hn : Sm n) :
    vcall env (d + 2) 20 [.slice a n (sg a 3), .slice b m (sg b 3)] lo H = some (.bool (decide (la = lb)), H) := by
  rw [call_eq find20 _ _ _ rfl]
  by_cases hnm : n = m
  · subst hnm
    have hl := lim_all (f := rnd (vcall env (d + 1)) H.length [0, 1, 5] [4] l20_0) (R := (.exit 0, [], H)) (E := (.ret, [(4, .bool false)], H)) (by simp) (by simp) (fun i => [(0, .slice a n (sg a 3)), (1, .slice b n (sg b 3)), (5, .int .i64 (i : Nat))]) H n (fun i => la[i]? = lb[i]?)
      (by simp -implicitDefEqProofs only [rnd, l20_0, VMs, noRef, noRef1, isRef, List.all_cons, List.all_nil, vop, VOp.still, VOp.app, VOp.plain, allP, lof, evs, start, asI, vbin, vcells, ntup, setAll, vfill, vress, vres, tup, Nat.reduceEqDiff, ↓reduceIte, Nat.reduceAdd, Nat.reduceMul, Nat.reduceLeDiff, reduceCtorEq, slen, Int.lt_irrefl, decide_false])
      (fun i hi => by
        have hla : i < la.length := by rw [← ha.1]; exact hi
        have hlb : i < lb.length := by rw [← hb.1]; exact hi
        obtain ⟨i1, o1, rfl, e1⟩ := ha.at hla
        obtain ⟨i2, o2, rfl, e2⟩ := hb.at hlb
        have hc := eqVol_c d H.length H la[i] lb[i]
        simp only [VV] at hc
        simp -implicitDefEqProofs only [rnd, l20_0, VMs, noRef, noRef1, isRef, List.all_cons, List.all_nil, vop, VOp.still, VOp.app, VOp.plain, allP, lof, evs, start, asI, vbin, vcells, ntup, setAll, vfill, vress, vres, tup, Nat.reduceEqDiff, ↓reduceIte, Nat.reduceAdd, Nat.reduceMul, Nat.reduceLeDiff, reduceCtorEq, slen, ltc hi, ge0, decide_true, e1.val, e2.val, Int.toNat_natCast, hc, hn.w hi, getE hla, getE hlb, Option.some.injEq]
        by_cases h : la[i] = lb[i] <;> simp [h])
      (all_eq ha.1 hb.1)
    simp only [Int.natCast_zero] at hl
    simp -implicitDefEqProofs only [v20, VMs, noRef, noRef1, isRef, List.all_cons, List.all_nil, vop, VOp.still, VOp.app, VOp.plain, allP, lof, evs, start, asI, vbin, vcells, ntup, setAll, vfill, vress, vres, tup, Nat.reduceEqDiff, ↓reduceIte, Nat.reduceAdd, Nat.reduceMul, Nat.reduceLeDiff, reduceCtorEq, slen, bne_self_eq_false, vlp, hl]
    by_cases h : la = lb <;> simp -implicitDefEqProofs only [h, decide_true, decide_false, VMs, noRef, noRef1, isRef, List.all_cons, List.all_nil, vop, VOp.still, VOp.app, VOp.plain, allP, lof, evs, start, asI, vbin, vcells, ntup, setAll, vfill, vress, vres, tup, Nat.reduceEqDiff, ↓reduceIte, Nat.reduceAdd, Nat.reduceMul, Nat.reduceLeDiff, reduceCtorEq]
  · have hne : la ≠ lb := by intro e; subst e; exact hnm (ha.1.trans hb.1.symm)
    have h1 : ((n : Int) != (m : Int)) = true := by simp; omega
    simp -implicitDefEqProofs only [v20, VMs, noRef, noRef1, isRef, List.all_cons, List.all_nil, vop, VOp.still, VOp.app, VOp.plain, allP, lof, evs, start, asI, vbin, vcells, ntup, setAll, vfill, vress, vres, tup, Nat.reduceEqDiff, ↓reduceIte, Nat.reduceAdd, Nat.reduceMul, Nat.reduceLeDiff, reduceCtorEq, slen, h1, hne, decide_false]

/-! ### Pools -/
structure Po where
  f : Fo
  v : List Vo
  deriving DecidableEq
structure RPs (U : Nat → Prop) (H : Hp) (an : Option Addr) (nn : Nat) (ab : Option Addr) (nb : Nat) (av : Option Addr) (nv : Nat) (p : Po) : Prop where
  f : RFs U H an nn ab nb p.f
  v : Rep EV 3 H av nv p.v
  a : ∀ i, Ad av i → U i
structure RP' (H : Hp) (an : Option Addr) (nn : Nat) (ab : Option Addr) (nb : Nat) (av : Option Addr) (nv : Nat) (p : Po) : Prop where
  f : RF H an nn ab nb p.f
  v : Rep EV 3 H av nv p.v
theorem RPs.rp {U : Nat → Prop} {H : Hp} {an nn ab nb av nv p} (h : RPs U H an nn ab nb av nv p) : RP' H an nn ab nb av nv p := ⟨h.f.rf, h.v⟩
theorem RPs.fr {U T : Nat → Prop} {H H' : Hp} {an nn ab nb av nv p} (h : RPs U H an nn ab nb av nv p) (hT : ∀ i, U i → ¬ T i) (hf : Fr T H H') : RPs U H' an nn ab nb av nv p :=
  ⟨h.f.fr hT hf, h.v.frV (fun i hi => hT _ (h.a i hi)) hf, h.a⟩
theorem RP'.app {H : Hp} {l : List (Option Blk)} {an nn ab nb av nv p} (h : RP' H an nn ab nb av nv p) : RP' (H ++ l) an nn ab nb av nv p := ⟨h.f.app, h.v.app fun _ _ _ => EV.app⟩
structure SP (p : Po) : Prop where
  f : SF p.f
  v : Sm p.v.length
/-- A pool in own memory. -/
structure PO (lo : Nat) (H : Hp) (S T U : Nat → Prop) (an : Option Addr) (nn : Nat) (ab : Option Addr) (nb : Nat) (av : Option Addr) (nv : Nat) (p : Po) : Prop where
  f : FO lo H S T an nn ab nb p.f
  v : Rep EV 3 H av nv p.v
  o : ∀ i, Ad av i → WB lo H i ∧ U i
  d : ∀ i, S i ∨ T i → ¬ U i
  lt : ∀ i, U i → i < H.length
theorem PO.fr {lo : Nat} {H H' : Hp} {S T U X : Nat → Prop} {an nn ab nb av nv p} (h : PO lo H S T U an nn ab nb av nv p) (hX : ∀ i, S i ∨ T i ∨ U i → ¬ X i) (hf : Fr X H H') : PO lo H' S T U an nn ab nb av nv p :=
  ⟨h.f.fr (fun i hi => hX i (by rcases hi with hi | hi; exact Or.inl hi; exact Or.inr (Or.inl hi))) hf, h.v.frV (fun i hi => hX i (Or.inr (Or.inr (h.o i hi).2))) hf, fun i hi => ⟨hf.wb _ _ (h.o i hi).1, (h.o i hi).2⟩, h.d, fun i hi => Nat.lt_of_lt_of_le (h.lt i hi) hf.len⟩
theorem PO.lo {lo lo' : Nat} {H : Hp} {S T U : Nat → Prop} {an nn ab nb av nv p} (h : PO lo H S T U an nn ab nb av nv p) (hl : lo' ≤ lo) : PO lo' H S T U an nn ab nb av nv p :=
  ⟨h.f.lo hl, h.v, fun i hi => ⟨(h.o i hi).1.lo hl, (h.o i hi).2⟩, h.d, h.lt⟩
theorem PO.rps {lo : Nat} {H : Hp} {S T U : Nat → Prop} {an nn ab nb av nv p} (h : PO lo H S T U an nn ab nb av nv p) : RPs (fun i => S i ∨ T i ∨ U i) H an nn ab nb av nv p :=
  ⟨h.f.rfs.mono fun i hi => by rcases hi with hi | hi; exact Or.inl hi; exact Or.inr (Or.inl hi), h.v, fun i hi => Or.inr (Or.inr (h.o i hi).2)⟩
def mP (p : Po) (k : Int) : Po := ⟨mF p.f k, mV p.v.length (k + sF p.f)⟩
def sP (p : Po) : Int := sF p.f + 3 * (p.v.length : Int)
theorem sP_nonneg (p : Po) : 0 ≤ sP p := by have := sF_nonneg p.f; unfold sP; omega
end Go.Proofs.YtohanpndekfbgaaDoor.V
