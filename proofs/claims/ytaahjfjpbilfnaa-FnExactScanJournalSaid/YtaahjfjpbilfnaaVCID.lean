/- What a disk among the arguments reads as. -/
import Derived.Test.YtaahjfjpbilfnaaVMI
import Derived.Test.YtaahjfjpbilfnaaVGB
import Derived.Test.YtaahjfjpbilfnaaRows
import Derived.WalkKit
import Derived.ProofKit
import Derived.KernelRfl
namespace Go.Proofs.Ytaahjfjpbilfnaa.V
open Go
set_option linter.unusedVariables false
set_option linter.unusedSimpArgs false
def QI (H : Hp) (vs : List Value) (l : List Int) : Prop := ∃ a, vs = [.slice a l.length (sg a 1)] ∧ Rep EI 1 H a l.length l
def QB (H : Hp) (vs : List Value) (l : List Bk) : Prop := ∃ a, vs = [.slice a l.length (sg a 2)] ∧ Rep EB 2 H a l.length l
def QD (H : Hp) (vs : List Value) (D : Dk) : Prop := ∃ aw ap, vs = [.slice aw D.w.length (sg aw 1), .slice ap D.p.length (sg ap 2)] ∧ RD H aw D.w.length ap D.p.length D
def GW (l : List Int) : Prop := l.length * 8 ≤ 140737488351232
def GP (l : List Bk) : Prop := l.length * 16 ≤ 140737488351232
theorem ArgD.of {w : List Int} {p : List Bk} (h : GW w) (h' : GP p) : ArgD ⟨w, p⟩ := ⟨h, h'⟩
theorem opnPut : Opn Try.prog 115 2 (fun _ vs (x : Bk) => vs = [.int .i64 x.r, .int .i64 x.d]) (fun _ => True) :=
  Opn.conv (OpnF.struct Try.underlying115 (by kernel_rfl) (OpnF.cons rfl rfl (Opn.int Try.underlying2 (by kernel_rfl)) (OpnF.one rfl rfl (Opn.int Try.underlying2 (by kernel_rfl))) rfl)) (fun p => ⟨p.1, p.2⟩)
    (by rintro H vs ⟨a, b⟩ ⟨v1, v2, rfl, rfl, rfl⟩; rfl) id (fun _ _ => trivial)
theorem opnWords : Opn Try.prog 22 1 QI GW :=
  Opn.conv (Opn.slice Try.underlying22 (by kernel_rfl) (B := 8) (by kernel_rfl) (by omega) (Opn.int Try.underlying2 (by kernel_rfl))) id
    (by
      rintro H vs l ⟨a, rfl, h2⟩
      refine ⟨a, rfl, rfl, fun hl => ?_⟩
      obtain ⟨i, ha, h3⟩ := h2 hl
      refine ⟨i, 0, ha, fun j x hx => ?_⟩
      obtain ⟨ws, h4, rfl, h6⟩ := h3 j x hx
      have := h6 0 (by omega)
      rw [Nat.zero_add]; exact this)
    (by rintro H l vs x ⟨a, rfl, h⟩; exact ⟨a, rfl, h.app fun _ _ _ => EI.app⟩) (fun _ h => h.1)
theorem opnPuts : Opn Try.prog 23 1 QB GP :=
  Opn.conv (Opn.slice Try.underlying23 (by kernel_rfl) (B := 16) (by kernel_rfl) (by omega) opnPut) id
    (by
      rintro H vs l ⟨a, rfl, h2⟩
      refine ⟨a, rfl, rfl, fun hl => ?_⟩
      obtain ⟨i, ha, h3⟩ := h2 hl
      refine ⟨i, 0, ha, fun j x hx => ?_⟩
      obtain ⟨ws, h4, rfl, h6⟩ := h3 j x hx
      have e0 := h6 0 (by omega)
      have e1 := h6 1 (by omega)
      rw [Nat.zero_add]
      exact ⟨e0, e1⟩)
    (by rintro H l vs x ⟨a, rfl, h⟩; exact ⟨a, rfl, h.app fun _ _ _ => EB.app⟩) (fun _ h => h.1)
theorem opnDisk0 : Opn Try.prog 25 (1 + 1) (QP QI QB) (fun p => GW p.1 ∧ GP p.2) :=
  OpnF.struct Try.underlying25 (by kernel_rfl) (OpnF.cons (sz := 1) (sz' := 1) (o' := 1) (G := GW) (G' := GP) (q := QI) (q' := QB) rfl rfl opnWords (OpnF.one rfl rfl opnPuts) rfl)
theorem QD.of {H : Hp} {vs : List Value} {p : List Int × List Bk} (h : QP QI QB H vs p) : QD H vs ⟨p.1, p.2⟩ := by
  obtain ⟨v1, v2, rfl, ⟨an, rfl, hn⟩, ab, rfl, hb⟩ := h
  exact ⟨an, ab, rfl, hn, hb⟩
theorem QD.app {H : Hp} {l : List (Option Blk)} {vs : List Value} {D : Dk} (h : QD H vs D) : QD (H ++ l) vs D := by
  obtain ⟨an, ab, rfl, h⟩ := h
  exact ⟨an, ab, rfl, h.app⟩
theorem opnDisk : Opn Try.prog 25 2 QD ArgD :=
  Opn.conv (q' := QD) (G' := ArgD) opnDisk0 (fun p : List Int × List Bk => (⟨p.1, p.2⟩ : Dk)) (fun _ _ _ h => QD.of h) (fun h => QD.app h) (fun _ h => ArgD.of h.1 h.2)
end Go.Proofs.Ytaahjfjpbilfnaa.V
