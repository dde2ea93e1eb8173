/- What a pool among the arguments reads as. -/
import Derived.Test.YtflddpkmajoeaaaVCI
import Derived.Test.YtflddpkmajoeaaaVPA
namespace Go.Proofs.Ytflddpkmajoeaaa.V
open Go
set_option linter.unusedVariables false
set_option linter.unusedSimpArgs false
def QV (H : Hp) (vs : List Value) (l : List Vo) : Prop := ∃ a, vs = [.slice a l.length (sg a 3)] ∧ Rep EV 3 H a l.length l
def GV (l : List Vo) : Prop := l.length * 24 ≤ 140737488351232
def QP' (H : Hp) (vs : List Value) (p : Po) : Prop := ∃ an ab av, vs = [.slice an p.f.n.length (sg an 3), .slice ab p.f.b.length (sg ab 2), .slice av p.v.length (sg av 3)] ∧ RP' H an p.f.n.length ab p.f.b.length av p.v.length p
theorem opnVol : Opn Try.prog 143 3 (fun _ vs (x : Vo) => vs = [.int .i64 x.i, .int .i64 x.q, .int .i64 x.r]) (fun _ => True) :=
  Opn.conv (OpnF.struct Try.underlying143 (by kernel_rfl) (OpnF.cons rfl rfl (Opn.int Try.underlying2 (by kernel_rfl)) (OpnF.cons rfl rfl (Opn.int Try.underlying2 (by kernel_rfl)) (OpnF.one rfl rfl (Opn.int Try.underlying2 (by kernel_rfl))) rfl) rfl)) (fun p => ⟨p.1, p.2.1, p.2.2⟩)
    (by rintro H vs ⟨a, b, c⟩ ⟨v1, v2, rfl, rfl, v3, v4, rfl, rfl, rfl⟩; rfl) id (fun _ _ => trivial)
theorem opnVols : Opn Try.prog 32 1 QV GV :=
  Opn.conv (Opn.slice Try.underlying32 (by kernel_rfl) (B := 24) (by kernel_rfl) (by omega) opnVol) id
    (by
      rintro H vs l ⟨a, rfl, h2⟩
      refine ⟨a, rfl, rfl, fun hl => ?_⟩
      obtain ⟨i, ha, h3⟩ := h2 hl
      refine ⟨i, 0, ha, fun j x hx => ?_⟩
      obtain ⟨ws, h4, rfl, h6⟩ := h3 j x hx
      have e0 := h6 0 (by omega)
      have e1 := h6 1 (by omega)
      have e2 := h6 2 (by omega)
      rw [Nat.zero_add]
      exact ⟨e0, e1, e2⟩)
    (by rintro H l vs x ⟨a, rfl, h⟩; exact ⟨a, rfl, h.app fun _ _ _ => EV.app⟩) (fun _ h => h.1)
theorem opnPool0 : Opn Try.prog 49 (2 + 1) (QP QF QV) (fun p => ArgF p.1 ∧ GV p.2) :=
  OpnF.struct Try.underlying49 (by kernel_rfl) (OpnF.cons (sz := 2) (sz' := 1) (o' := 2) (G := ArgF) (G' := GV) (q := QF) (q' := QV) rfl rfl opnForest (OpnF.one rfl rfl opnVols) rfl)
theorem QP'.of {H : Hp} {vs : List Value} {p : Fo × List Vo} (h : QP QF QV H vs p) : QP' H vs ⟨p.1, p.2⟩ := by
  obtain ⟨v1, v2, rfl, ⟨an, ab, rfl, hf⟩, av, rfl, hv⟩ := h
  exact ⟨an, ab, av, rfl, hf, hv⟩
theorem QP'.app {H : Hp} {l : List (Option Blk)} {vs : List Value} {p : Po} (h : QP' H vs p) : QP' (H ++ l) vs p := by
  obtain ⟨an, ab, av, rfl, h⟩ := h
  exact ⟨an, ab, av, rfl, h.app⟩
theorem opnPool : Opn Try.prog 49 3 QP' ArgP :=
by
  have h : Opn Try.prog 49 (2 + 1) QP' ArgP := Opn.conv (q' := QP') (G' := ArgP) opnPool0 (fun p : Fo × List Vo => (⟨p.1, p.2⟩ : Po)) (fun _ _ _ h => QP'.of h) (fun h => QP'.app h) (fun _ h => ⟨h.1, h.2⟩)
  exact h
end Go.Proofs.Ytflddpkmajoeaaa.V
