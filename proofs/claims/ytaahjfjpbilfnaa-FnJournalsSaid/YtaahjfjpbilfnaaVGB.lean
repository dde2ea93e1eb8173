/- Disks: are two the same, marks, copies, measures. -/
import Derived.Test.YtaahjfjpbilfnaaVGA
namespace Go.Proofs.Ytaahjfjpbilfnaa.V
open Go
set_option linter.unusedVariables false
set_option linter.unusedSimpArgs false
set_option maxRecDepth 100000
/-- A disk: its words, and what was put. -/
structure Dk where
  w : List Int
  p : List Bk
  deriving DecidableEq
structure RD (H : Hp) (aw : Option Addr) (nw : Nat) (ap : Option Addr) (np : Nat) (D : Dk) : Prop where
  w : Rep EI 1 H aw nw D.w
  p : Rep EB 2 H ap np D.p
structure SD (D : Dk) : Prop where
  w : Sm D.w.length
  p : Sm D.p.length
theorem RD.app {H : Hp} {l : List (Option Blk)} {aw nw ap np D} (h : RD H aw nw ap np D) : RD (H ++ l) aw nw ap np D := ⟨h.w.app fun _ _ _ => EI.app, h.p.app fun _ _ _ => EB.app⟩
theorem RD.fn {H H' : Hp} {aw nw ap np D} (h : RD H aw nw ap np D) (hf : Fn H H') : RD H' aw nw ap np D := ⟨h.w.fnI hf, h.p.fnB hf⟩
/-- A disk in own memory. -/
structure DO (lo : Nat) (H : Hp) (S T : Nat → Prop) (aw : Option Addr) (nw : Nat) (ap : Option Addr) (np : Nat) (D : Dk) : Prop where
  w : Rep EI 1 H aw nw D.w
  p : Rep EB 2 H ap np D.p
  ow : ∀ i, Ad aw i → WB lo H i ∧ S i
  op : ∀ i, Ad ap i → WB lo H i ∧ T i
  d : ∀ i, S i → ¬ T i
  lt : ∀ i, S i ∨ T i → i < H.length
theorem DO.rd {lo : Nat} {H : Hp} {S T : Nat → Prop} {aw nw ap np D} (h : DO lo H S T aw nw ap np D) : RD H aw nw ap np D := ⟨h.w, h.p⟩
theorem DO.fr {lo : Nat} {H H' : Hp} {S T U : Nat → Prop} {aw nw ap np D} (h : DO lo H S T aw nw ap np D) (hU : ∀ i, S i ∨ T i → ¬ U i) (hf : Fr U H H') : DO lo H' S T aw nw ap np D :=
  ⟨h.w.fr (fun i hi => hU i (Or.inl (h.ow i hi).2)) hf, h.p.frB (fun i hi => hU i (Or.inr (h.op i hi).2)) hf, fun i hi => ⟨hf.wb _ _ (h.ow i hi).1, (h.ow i hi).2⟩, fun i hi => ⟨hf.wb _ _ (h.op i hi).1, (h.op i hi).2⟩, h.d, fun i hi => Nat.lt_of_lt_of_le (h.lt i hi) hf.len⟩
theorem DO.lo {lo lo' : Nat} {H : Hp} {S T : Nat → Prop} {aw nw ap np D} (h : DO lo H S T aw nw ap np D) (hl : lo' ≤ lo) : DO lo' H S T aw nw ap np D :=
  ⟨h.w, h.p, fun i hi => ⟨(h.ow i hi).1.lo hl, (h.ow i hi).2⟩, fun i hi => ⟨(h.op i hi).1.lo hl, (h.op i hi).2⟩, h.d, h.lt⟩
def sD (D : Dk) : Int := (D.w.length : Int) + 2 * (D.p.length : Int)
/-- A disk in new memory. -/
def NewD (H H' : Hp) (v : Value) (D : Dk) : Prop := ∃ S T aw nw ap np, v = .agg #[.slice aw nw (sg aw 1), .slice ap np (sg ap 2)] ∧ Fn H H' ∧ (∀ i, S i ∨ T i → H.length ≤ i) ∧ DO H.length H' S T aw nw ap np D
/-- What lengths an argument has at most. -/
structure ArgD (D : Dk) : Prop where
  w : D.w.length * 8 ≤ 140737488351232
  p : D.p.length * 16 ≤ 140737488351232
theorem ArgD.sd {D : Dk} (h : ArgD D) : SD D := ⟨Sm.of8 h.w (by omega), Sm.of8 h.p (by omega)⟩
/-- A pointer to a disk. -/
structure PD (H : Hp) (q : Nat) (aw : Option Addr) (nw : Nat) (ap : Option Addr) (np : Nat) (D : Dk) : Prop where
  a : rd H ⟨q, 0, none⟩ = some (.slice aw nw (sg aw 1))
  b : rd H ⟨q, 1, none⟩ = some (.slice ap np (sg ap 2))
  d : RD H aw nw ap np D
theorem PD.fn {H H' : Hp} {q aw nw ap np D} (h : PD H q aw nw ap np D) (hf : Fn H H') : PD H' q aw nw ap np D := ⟨(hf.rd _ _ (rd_lt h.a) id).trans h.a, (hf.rd _ _ (rd_lt h.b) id).trans h.b, h.d.fn hf⟩
theorem PD.rdN {H : Hp} {q aw nw ap np D} (h : PD H q aw nw ap np D) : V.rdN H ⟨q, 0, none⟩ 2 = some [.slice aw nw (sg aw 1), .slice ap np (sg ap 2)] := rdN2 h.a h.b
end Go.Proofs.Ytaahjfjpbilfnaa.V
