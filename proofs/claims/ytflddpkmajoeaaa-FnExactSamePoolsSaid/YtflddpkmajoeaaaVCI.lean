/- What a forest among the arguments reads as. -/
import Derived.Test.YtflddpkmajoeaaaVMI
import Derived.Test.YtflddpkmajoeaaaVC5
import Derived.Test.YtflddpkmajoeaaaRows
import Derived.WalkKit
import Derived.ProofKit
import Derived.KernelRfl
namespace Go.Proofs.Ytflddpkmajoeaaa.V
open Go
set_option linter.unusedVariables false
set_option linter.unusedSimpArgs false
def QI (H : Hp) (vs : List Value) (l : List Int) : Prop := ∃ a, vs = [.slice a l.length (sg a 1)] ∧ Rep EI 1 H a l.length l
def QB (H : Hp) (vs : List Value) (l : List Bk) : Prop := ∃ a, vs = [.slice a l.length (sg a 2)] ∧ Rep EB 2 H a l.length l
def QNd (H : Hp) (vs : List Value) (x : Nd) : Prop := ∃ a, vs = [.int .i64 x.r, .bool x.f, .slice a x.k.length (sg a 1)] ∧ Rep EI 1 H a x.k.length x.k
def QN (H : Hp) (vs : List Value) (l : List Nd) : Prop := ∃ a, vs = [.slice a l.length (sg a 3)] ∧ Rep EN 3 H a l.length l
def QF (H : Hp) (vs : List Value) (F : Fo) : Prop := ∃ an ab, vs = [.slice an F.n.length (sg an 3), .slice ab F.b.length (sg ab 2)] ∧ RF H an F.n.length ab F.b.length F
def GN (l : List Nd) : Prop := l.length * 40 ≤ 140737488351232 ∧ ∀ x ∈ l, x.k.length * 8 ≤ 140737488351232
def GB (l : List Bk) : Prop := l.length * 16 ≤ 140737488351232
theorem ArgF.of {n : List Nd} {b : List Bk} (h : GN n) (h' : GB b) : ArgF ⟨n, b⟩ := ⟨h.1, h', h.2⟩
theorem opnBlock : Opn Try.prog 181 2 (fun _ vs (x : Bk) => vs = [.int .i64 x.r, .int .i64 x.d]) (fun _ => True) :=
  Opn.conv (OpnF.struct Try.underlying181 (by kernel_rfl) (OpnF.cons rfl rfl (Opn.int Try.underlying2 (by kernel_rfl)) (OpnF.one rfl rfl (Opn.int Try.underlying2 (by kernel_rfl))) rfl)) (fun p => ⟨p.1, p.2⟩)
    (by rintro H vs ⟨a, b⟩ ⟨v1, v2, rfl, rfl, rfl⟩; rfl) id (fun _ _ => trivial)
theorem opnInts : Opn Try.prog 22 1 QI (fun l => l.length * 8 ≤ 140737488351232) :=
  Opn.conv (Opn.slice Try.underlying22 (by kernel_rfl) (B := 8) (by kernel_rfl) (by omega) (Opn.int Try.underlying2 (by kernel_rfl))) id
    (by
      rintro H vs l ⟨a, rfl, h2⟩
      refine ⟨a, rfl, rfl, fun hl => ?_⟩
      obtain ⟨i, ha, h3⟩ := h2 hl
      refine ⟨i, 0, ha, fun j x hx => ?_⟩
      obtain ⟨ws, h4, rfl, h6⟩ := h3 j x hx
      have := h6 0 (by omega)
      rw [Nat.zero_add]; exact this)
    (by rintro H l vs x ⟨a, rfl, h⟩; exact ⟨a, rfl, h.app fun _ _ _ => EI.app⟩) (fun _ h => h.1)
theorem opnNode : Opn Try.prog 178 3 QNd (fun x => x.k.length * 8 ≤ 140737488351232) :=
  Opn.conv (OpnF.struct Try.underlying178 (by kernel_rfl) (OpnF.cons rfl rfl (Opn.int Try.underlying2 (by kernel_rfl)) (OpnF.cons rfl rfl (Opn.bool Try.underlying4 (by kernel_rfl)) (OpnF.one rfl rfl opnInts) rfl) rfl)) (fun p => ⟨p.1, p.2.1, p.2.2⟩)
    (by rintro H vs ⟨a, b, c⟩ ⟨v1, v2, rfl, rfl, v3, v4, rfl, rfl, ad, rfl, h⟩; exact ⟨ad, rfl, h⟩)
    (by rintro H l vs x ⟨a, rfl, h⟩; exact ⟨a, rfl, h.app fun _ _ _ => EI.app⟩) (fun _ h => h.2.2)
theorem opnNodes : Opn Try.prog 44 1 QN GN :=
  Opn.conv (Opn.slice Try.underlying44 (by kernel_rfl) (B := 40) (by kernel_rfl) (by omega) opnNode) id
    (by
      rintro H vs l ⟨a, rfl, h2⟩
      refine ⟨a, rfl, rfl, fun hl => ?_⟩
      obtain ⟨i, ha, h3⟩ := h2 hl
      refine ⟨i, 0, ha, fun j x hx => ?_⟩
      obtain ⟨ws, h4, ⟨b, rfl, h5⟩, h6⟩ := h3 j x hx
      have e0 := h6 0 (by omega)
      have e1 := h6 1 (by omega)
      have e2 := h6 2 (by omega)
      rw [Nat.zero_add]
      exact ⟨e0, e1, b, _, e2, h5⟩)
    (by rintro H l vs x ⟨a, rfl, h⟩; exact ⟨a, rfl, h.app fun _ _ _ => EN.app⟩) (fun _ h => h)
theorem opnBlocks : Opn Try.prog 45 1 QB GB :=
  Opn.conv (Opn.slice Try.underlying45 (by kernel_rfl) (B := 16) (by kernel_rfl) (by omega) opnBlock) id
    (by
      rintro H vs l ⟨a, rfl, h2⟩
      refine ⟨a, rfl, rfl, fun hl => ?_⟩
      obtain ⟨i, ha, h3⟩ := h2 hl
      refine ⟨i, 0, ha, fun j x hx => ?_⟩
      obtain ⟨ws, h4, rfl, h6⟩ := h3 j x hx
      have e0 := h6 0 (by omega)
      have e1 := h6 1 (by omega)
      rw [Nat.zero_add]
      exact ⟨e0, e1⟩)
    (by rintro H l vs x ⟨a, rfl, h⟩; exact ⟨a, rfl, h.app fun _ _ _ => EB.app⟩) (fun _ h => h.1)
theorem opnForest0 : Opn Try.prog 47 (1 + 1) (QP QN QB) (fun p => GN p.1 ∧ GB p.2) :=
  OpnF.struct Try.underlying47 (by kernel_rfl) (OpnF.cons (sz := 1) (sz' := 1) (o' := 1) (G := GN) (G' := GB) (q := QN) (q' := QB) rfl rfl opnNodes (OpnF.one rfl rfl opnBlocks) rfl)
theorem QF.of {H : Hp} {vs : List Value} {p : List Nd × List Bk} (h : QP QN QB H vs p) : QF H vs ⟨p.1, p.2⟩ := by
  obtain ⟨v1, v2, rfl, ⟨an, rfl, hn⟩, ab, rfl, hb⟩ := h
  exact ⟨an, ab, rfl, hn, hb⟩
theorem QF.app {H : Hp} {l : List (Option Blk)} {vs : List Value} {F : Fo} (h : QF H vs F) : QF (H ++ l) vs F := by
  obtain ⟨an, ab, rfl, h⟩ := h
  exact ⟨an, ab, rfl, h.app⟩
theorem opnForest : Opn Try.prog 47 2 QF ArgF :=
  opnForest0.conv (fun p => ⟨p.1, p.2⟩) (fun _ _ _ h => QF.of h) (fun h => QF.app h) (fun _ h => ArgF.of h.1 h.2)
end Go.Proofs.Ytflddpkmajoeaaa.V
