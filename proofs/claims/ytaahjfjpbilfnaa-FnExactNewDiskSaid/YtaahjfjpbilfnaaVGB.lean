/- Disks: are two the same, marks, copies, measures. -/
import Derived.Test.YtaahjfjpbilfnaaVGA
namespace Go.Proofs.Ytaahjfjpbilfnaa.V
open Go
set_option linter.unusedVariables false
set_option linter.unusedSimpArgs false
set_option maxRecDepth 100000
/-- A disk: its words, and what was put. -/
structure Dk where
  w : List Int
  p : List Bk
  deriving DecidableEq
structure RD (H : Hp) (aw : Option Addr) (nw : Nat) (ap : Option Addr) (np : Nat) (D : Dk) : Prop where
  w : Rep EI 1 H aw nw D.w
  p : Rep EB 2 H ap np D.p
structure SD (D : Dk) : Prop where
  w : Sm D.w.length
  p : Sm D.p.length
theorem RD.app {H : Hp} {l : List (Option Blk)} {aw nw ap np D} (h : RD H aw nw ap np D) : RD (H ++ l) aw nw ap np D := ⟨h.w.app fun _ _ _ => EI.app, h.p.app fun _ _ _ => EB.app⟩
theorem RD.fn {H H' : Hp} {aw nw ap np D} (h : RD H aw nw ap np D) (hf : Fn H H') : RD H' aw nw ap np D := ⟨h.w.fnI hf, h.p.fnB hf⟩
theorem eqDisk_c (d lo : Nat) (H : Hp) {aw nw ap np aw' nw' ap' np'} {D G : Dk} (hD : RD H aw nw ap np D) (hG : RD H aw' nw' ap' np' G) (hs : SD D) :
    vcall env (d + 3) 20 [.agg #[.slice aw nw (sg aw 1), .slice ap np (sg ap 2)], .agg #[.slice aw' nw' (sg aw' 1), .slice ap' np' (sg ap' 2)]] lo H = some (.bool (decide (D = G)), H) := by
  rw [call_eq find20 _ _ _ rfl]
  have c1 := fun l => eqInt64S_c (d + 1) H.length (H ++ l) aw aw' nw nw' D.w G.w hD.app.w hG.app.w (hD.w.1 ▸ hs.w)
  have c2 := fun l => eqPutS_c d H.length (H ++ l) ap ap' np np' D.p G.p hD.app.p hG.app.p (hD.p.1 ▸ hs.p)
  simp -implicitDefEqProofs only [v20, VMs, noRef, noRef1, isRef, List.all_cons, List.all_nil, vop, VOp.still, VOp.app, VOp.plain, allP, lof, evs, start, asI, vbin, vcells, ntup, setAll, vfill, vress, vres, tup, Nat.reduceEqDiff, ↓reduceIte, Nat.reduceAdd, Nat.reduceMul, Nat.reduceLeDiff, reduceCtorEq, c1, c2]
  obtain ⟨n, b⟩ := D
  obtain ⟨n', b'⟩ := G
  by_cases h1 : n = n' <;> by_cases h2 : b = b' <;> simp [h1, h2]
/-- A disk in own memory. -/
structure DO (lo : Nat) (H : Hp) (S T : Nat → Prop) (aw : Option Addr) (nw : Nat) (ap : Option Addr) (np : Nat) (D : Dk) : Prop where
  w : Rep EI 1 H aw nw D.w
  p : Rep EB 2 H ap np D.p
  ow : ∀ i, Ad aw i → WB lo H i ∧ S i
  op : ∀ i, Ad ap i → WB lo H i ∧ T i
  d : ∀ i, S i → ¬ T i
  lt : ∀ i, S i ∨ T i → i < H.length
theorem DO.rd {lo : Nat} {H : Hp} {S T : Nat → Prop} {aw nw ap np D} (h : DO lo H S T aw nw ap np D) : RD H aw nw ap np D := ⟨h.w, h.p⟩
theorem DO.fr {lo : Nat} {H H' : Hp} {S T U : Nat → Prop} {aw nw ap np D} (h : DO lo H S T aw nw ap np D) (hU : ∀ i, S i ∨ T i → ¬ U i) (hf : Fr U H H') : DO lo H' S T aw nw ap np D :=
  ⟨h.w.fr (fun i hi => hU i (Or.inl (h.ow i hi).2)) hf, h.p.frB (fun i hi => hU i (Or.inr (h.op i hi).2)) hf, fun i hi => ⟨hf.wb _ _ (h.ow i hi).1, (h.ow i hi).2⟩, fun i hi => ⟨hf.wb _ _ (h.op i hi).1, (h.op i hi).2⟩, h.d, fun i hi => Nat.lt_of_lt_of_le (h.lt i hi) hf.len⟩
theorem DO.lo {lo lo' : Nat} {H : Hp} {S T : Nat → Prop} {aw nw ap np D} (h : DO lo H S T aw nw ap np D) (hl : lo' ≤ lo) : DO lo' H S T aw nw ap np D :=
  ⟨h.w, h.p, fun i hi => ⟨(h.ow i hi).1.lo hl, (h.ow i hi).2⟩, fun i hi => ⟨(h.op i hi).1.lo hl, (h.op i hi).2⟩, h.d, h.lt⟩
def sD (D : Dk) : Int := (D.w.length : Int) + 2 * (D.p.length : Int)
theorem markDisk_c (d lo : Nat) (H : Hp) (S T : Nat → Prop) {aw nw ap np D} (k : Int) (h : DO lo H S T aw nw ap np D) (hs : SD D) (hk : 0 ≤ k) (hk' : Km (k + sD D)) :
    ∃ H', vcall env (d + 2) 41 [.agg #[.slice aw nw (sg aw 1), .slice ap np (sg ap 2)], .int .i64 k] lo H = some (.int .i64 (k + sD D), H') ∧ Fr (fun i => S i ∨ T i) H H' := by
  have n1 := h.w.1
  have n2 := h.p.1
  have h1 := h.fr (U := fun _ => False) (fun i _ => id) (Fr.app (l := [some ⟨[.slice aw nw (sg aw 1), .slice ap np (sg ap 2)], true, false⟩]))
  have hk1 : Km (k + (nw : Int)) := hk'.lt (by omega) (by unfold sD; omega)
  have hk2 : Km (k + (nw : Int) + 2 * (np : Int)) := hk'.lt (by omega) (by unfold sD; omega)
  obtain ⟨H1, c1, l1, f1, r1⟩ := markInt64S_c d lo _ S aw nw D.w k h1.w (ON.own h1.ow) (n1 ▸ hs.w) hk hk1
  have hb1 := h1.p.frB (T := S) (fun i hi hs => h.d i hs (h.op i hi).2) f1
  obtain ⟨H2, c2, l2, f2, r2⟩ := markPutS_c d lo H1 T ap np D.p (k + (nw : Int)) hb1 (ON.own fun i hi => ⟨f1.wb _ _ (h1.op i hi).1, (h1.op i hi).2⟩) (n2 ▸ hs.p) (by omega) hk2
  have hrd : rd H1 ⟨H.length, 1, none⟩ = some (.slice ap np (sg ap 2)) := (f1.rd _ _ (by simp) (fun hs => Nat.lt_irrefl _ (h.lt _ (Or.inl hs)))).trans (by simp [rd0])
  refine ⟨H2, ?_, Fr.trans Fr.app ((f1.mono fun i hi => Or.inl hi).trans (f2.mono fun i hi => Or.inr hi))⟩
  rw [call_eq find41 _ _ _ rfl]
  simp -implicitDefEqProofs only [v41, VMs, noRef, noRef1, isRef, List.all_cons, List.all_nil, vop, VOp.still, VOp.app, VOp.plain, allP, lof, evs, start, asI, vbin, vcells, ntup, setAll, vfill, vress, vres, tup, Nat.reduceEqDiff, ↓reduceIte, Nat.reduceAdd, Nat.reduceMul, Nat.reduceLeDiff, reduceCtorEq, c1, c2, hrd, sD]
  rw [n1, n2, Int.add_assoc]
/-- A disk in new memory. -/
def NewD (H H' : Hp) (v : Value) (D : Dk) : Prop := ∃ S T aw nw ap np, v = .agg #[.slice aw nw (sg aw 1), .slice ap np (sg ap 2)] ∧ Fn H H' ∧ (∀ i, S i ∨ T i → H.length ≤ i) ∧ DO H.length H' S T aw nw ap np D
/-- What lengths an argument has at most. -/
structure ArgD (D : Dk) : Prop where
  w : D.w.length * 8 ≤ 140737488351232
  p : D.p.length * 16 ≤ 140737488351232
theorem ArgD.sd {D : Dk} (h : ArgD D) : SD D := ⟨Sm.of8 h.w (by omega), Sm.of8 h.p (by omega)⟩
/-- A pointer to a disk. -/
structure PD (H : Hp) (q : Nat) (aw : Option Addr) (nw : Nat) (ap : Option Addr) (np : Nat) (D : Dk) : Prop where
  a : rd H ⟨q, 0, none⟩ = some (.slice aw nw (sg aw 1))
  b : rd H ⟨q, 1, none⟩ = some (.slice ap np (sg ap 2))
  d : RD H aw nw ap np D
theorem PD.fn {H H' : Hp} {q aw nw ap np D} (h : PD H q aw nw ap np D) (hf : Fn H H') : PD H' q aw nw ap np D := ⟨(hf.rd _ _ (rd_lt h.a) id).trans h.a, (hf.rd _ _ (rd_lt h.b) id).trans h.b, h.d.fn hf⟩
theorem PD.rdN {H : Hp} {q aw nw ap np D} (h : PD H q aw nw ap np D) : V.rdN H ⟨q, 0, none⟩ 2 = some [.slice aw nw (sg aw 1), .slice ap np (sg ap 2)] := rdN2 h.a h.b
end Go.Proofs.Ytaahjfjpbilfnaa.V
