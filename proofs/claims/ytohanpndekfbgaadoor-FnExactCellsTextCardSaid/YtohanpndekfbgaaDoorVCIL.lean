/- What a plain pool among the arguments reads as. -/
import Derived.Test.YtohanpndekfbgaaDoorVMI
import Derived.Test.YtohanpndekfbgaaDoorVLB
import Derived.Test.YtohanpndekfbgaaDoorRows
import Derived.WalkKit
import Derived.ProofKit
import Derived.KernelRfl
namespace Go.Proofs.YtohanpndekfbgaaDoor.V
open Go
set_option linter.unusedVariables false
set_option linter.unusedSimpArgs false
def QI (H : Hp) (vs : List Value) (l : List Int) : Prop := ∃ a, vs = [.slice a l.length (sg a 1)] ∧ Rep EI 1 H a l.length l
def QV (H : Hp) (vs : List Value) (l : List Vo) : Prop := ∃ a, vs = [.slice a l.length (sg a 3)] ∧ Rep EV 3 H a l.length l
def GV (l : List Vo) : Prop := l.length * 24 ≤ 140737488351232
theorem opnVol : Opn Tryd.prog 61 3 (fun _ vs (x : Vo) => vs = [.int .i64 x.i, .int .i64 x.q, .int .i64 x.r]) (fun _ => True) :=
  Opn.conv (OpnF.struct Tryd.underlying61 (by kernel_rfl) (OpnF.cons rfl rfl (Opn.int Tryd.underlying2 (by kernel_rfl)) (OpnF.cons rfl rfl (Opn.int Tryd.underlying2 (by kernel_rfl)) (OpnF.one rfl rfl (Opn.int Tryd.underlying2 (by kernel_rfl))) rfl) rfl)) (fun p => ⟨p.1, p.2.1, p.2.2⟩)
    (by rintro H vs ⟨a, b, c⟩ ⟨v1, v2, rfl, rfl, v3, v4, rfl, rfl, rfl⟩; rfl) id (fun _ _ => trivial)
theorem opnVols : Opn Tryd.prog 22 1 QV GV :=
  Opn.conv (Opn.slice Tryd.underlying22 (by kernel_rfl) (B := 24) (by kernel_rfl) (by omega) opnVol) id
    (by
      rintro H vs l ⟨a, rfl, h2⟩
      refine ⟨a, rfl, rfl, fun hl => ?_⟩
      obtain ⟨i, ha, h3⟩ := h2 hl
      refine ⟨i, 0, ha, fun j x hx => ?_⟩
      obtain ⟨ws, h4, rfl, h6⟩ := h3 j x hx
      have e0 := h6 0 (by omega)
      have e1 := h6 1 (by omega)
      have e2 := h6 2 (by omega)
      rw [Nat.zero_add]
      exact ⟨e0, e1, e2⟩)
    (by rintro H l vs x ⟨a, rfl, h⟩; exact ⟨a, rfl, h.app fun _ _ _ => EV.app⟩) (fun _ h => h.1)
def QL (H : Hp) (vs : List Value) (p : Pl) : Prop := ∃ av ac az, vs = [.int .i64 p.b, .slice av p.v.length (sg av 3), .slice ac p.c.length (sg ac 3), .slice az p.s.length (sg az 1)] ∧ RL H av p.v.length ac p.c.length az p.s.length p
def QC (H : Hp) (vs : List Value) (l : List Vo) : Prop := ∃ a, vs = [.slice a l.length (sg a 3)] ∧ Rep EV 3 H a l.length l
theorem opnCell : Opn Tryd.prog 63 3 (fun _ vs (x : Vo) => vs = [.int .i64 x.i, .int .i64 x.q, .int .i64 x.r]) (fun _ => True) :=
  Opn.conv (OpnF.struct Tryd.underlying63 (by kernel_rfl) (OpnF.cons rfl rfl (Opn.int Tryd.underlying2 (by kernel_rfl)) (OpnF.cons rfl rfl (Opn.int Tryd.underlying2 (by kernel_rfl)) (OpnF.one rfl rfl (Opn.int Tryd.underlying2 (by kernel_rfl))) rfl) rfl)) (fun p => ⟨p.1, p.2.1, p.2.2⟩)
    (by rintro H vs ⟨a, b, c⟩ ⟨v1, v2, rfl, rfl, v3, v4, rfl, rfl, rfl⟩; rfl) id (fun _ _ => trivial)
theorem opnCells : Opn Tryd.prog 23 1 QC GV :=
  Opn.conv (Opn.slice Tryd.underlying23 (by kernel_rfl) (B := 24) (by kernel_rfl) (by omega) opnCell) id
    (by
      rintro H vs l ⟨a, rfl, h2⟩
      refine ⟨a, rfl, rfl, fun hl => ?_⟩
      obtain ⟨i, ha, h3⟩ := h2 hl
      refine ⟨i, 0, ha, fun j x hx => ?_⟩
      obtain ⟨ws, h4, rfl, h6⟩ := h3 j x hx
      have e0 := h6 0 (by omega)
      have e1 := h6 1 (by omega)
      have e2 := h6 2 (by omega)
      rw [Nat.zero_add]
      exact ⟨e0, e1, e2⟩)
    (by rintro H l vs x ⟨a, rfl, h⟩; exact ⟨a, rfl, h.app fun _ _ _ => EV.app⟩) (fun _ h => h.1)
theorem opnShares : Opn Tryd.prog 24 1 QI (fun l => l.length * 8 ≤ 140737488351232) :=
  Opn.conv (Opn.slice Tryd.underlying24 (by kernel_rfl) (B := 8) (by kernel_rfl) (by omega) (Opn.int Tryd.underlying2 (by kernel_rfl))) id
    (by
      rintro H vs l ⟨a, rfl, h2⟩
      refine ⟨a, rfl, rfl, fun hl => ?_⟩
      obtain ⟨i, ha, h3⟩ := h2 hl
      refine ⟨i, 0, ha, fun j x hx => ?_⟩
      obtain ⟨ws, h4, rfl, h6⟩ := h3 j x hx
      have := h6 0 (by omega)
      rw [Nat.zero_add]; exact this)
    (by rintro H l vs x ⟨a, rfl, h⟩; exact ⟨a, rfl, h.app fun _ _ _ => EI.app⟩) (fun _ h => h.1)
def Q1 (H : Hp) (vs : List Value) (n : Int) : Prop := vs = [.int .i64 n]
def GI (n : Int) : Prop := (Lit.int .i64 n).wf = true
def GS (l : List Int) : Prop := l.length * 8 ≤ 140737488351232
theorem opnBlocksN : Opn Tryd.prog 2 1 Q1 GI := Opn.int Tryd.underlying2 (by kernel_rfl)
theorem opnPlain0 : Opn Tryd.prog 26 (1 + (1 + (1 + 1))) (QP Q1 (QP QV (QP QC QI))) (fun p => GI p.1 ∧ GV p.2.1 ∧ GV p.2.2.1 ∧ GS p.2.2.2) :=
  OpnF.struct Tryd.underlying26 (by kernel_rfl)
    (OpnF.cons (sz := 1) (sz' := 1 + (1 + 1)) (o' := 1) (G := GI) (q := Q1) rfl rfl opnBlocksN
      (OpnF.cons (sz := 1) (sz' := 1 + 1) (o' := 2) (G := GV) (q := QV) rfl rfl opnVols
        (OpnF.cons (sz := 1) (sz' := 1) (o' := 3) (G := GV) (q := QC) (G' := GS) (q' := QI) rfl rfl opnCells (OpnF.one rfl rfl opnShares) rfl) rfl) rfl)
theorem QL.of {H : Hp} {vs : List Value} {p : Int × List Vo × List Vo × List Int} (h : QP Q1 (QP QV (QP QC QI)) H vs p) : QL H vs ⟨p.1, p.2.1, p.2.2.1, p.2.2.2⟩ := by
  obtain ⟨v1, v2, rfl, rfl, v3, v4, rfl, ⟨av, rfl, hv⟩, v5, v6, rfl, ⟨ac, rfl, hc⟩, az, rfl, hz⟩ := h
  exact ⟨av, ac, az, rfl, hv, hc, hz⟩
theorem QL.app {H : Hp} {l : List (Option Blk)} {vs : List Value} {p : Pl} (h : QL H vs p) : QL (H ++ l) vs p := by
  obtain ⟨av, ac, az, rfl, h⟩ := h
  exact ⟨av, ac, az, rfl, h.app⟩
theorem opnPlain : Opn Tryd.prog 26 4 QL ArgL := by
  have h : Opn Tryd.prog 26 (1 + (1 + (1 + 1))) QL ArgL := Opn.conv (q' := QL) (G' := ArgL) opnPlain0 (fun p : Int × List Vo × List Vo × List Int => (⟨p.1, p.2.1, p.2.2.1, p.2.2.2⟩ : Pl)) (fun _ _ _ h => QL.of h) (fun h => QL.app h) (fun _ h => ⟨h.2.1, h.2.2.1, h.2.2.2⟩)
  exact h
end Go.Proofs.YtohanpndekfbgaaDoor.V
