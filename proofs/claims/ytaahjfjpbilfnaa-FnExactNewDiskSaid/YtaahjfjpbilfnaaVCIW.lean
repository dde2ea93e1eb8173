/- What numbers among the arguments read as. -/
import Derived.Test.YtaahjfjpbilfnaaVMI
import Derived.Test.YtaahjfjpbilfnaaVGB
import Derived.Test.YtaahjfjpbilfnaaRows
import Derived.WalkKit
import Derived.ProofKit
import Derived.KernelRfl
namespace Go.Proofs.Ytaahjfjpbilfnaa.V
open Go
set_option linter.unusedVariables false
set_option linter.unusedSimpArgs false
def QI (H : Hp) (vs : List Value) (l : List Int) : Prop := ∃ a, vs = [.slice a l.length (sg a 1)] ∧ Rep EI 1 H a l.length l
def GW (l : List Int) : Prop := l.length * 8 ≤ 140737488351232
theorem opnWords : Opn Try.prog 22 1 QI GW :=
  Opn.conv (Opn.slice Try.underlying22 (by kernel_rfl) (B := 8) (by kernel_rfl) (by omega) (Opn.int Try.underlying2 (by kernel_rfl))) id
    (by
      rintro H vs l ⟨a, rfl, h2⟩
      refine ⟨a, rfl, rfl, fun hl => ?_⟩
      obtain ⟨i, ha, h3⟩ := h2 hl
      refine ⟨i, 0, ha, fun j x hx => ?_⟩
      obtain ⟨ws, h4, rfl, h6⟩ := h3 j x hx
      have := h6 0 (by omega)
      rw [Nat.zero_add]; exact this)
    (by rintro H l vs x ⟨a, rfl, h⟩; exact ⟨a, rfl, h.app fun _ _ _ => EI.app⟩) (fun _ h => h.1)
theorem not_agg {P : Program} {W : World} {base : Nat} {t e : TypeId} {v : Value} (ht : P.underlying t = some (.slice e)) (h : Value.okWide P W .any base t v) : ∀ cs, v ≠ .agg cs := by
  rintro cs rfl
  simp only [Value.okWide, ht, Cell.okWide, Cell.ok] at h
theorem cells_one {v : Value} (h : ∀ cs, v ≠ .agg cs) : v.cells.toList = [v] := by
  cases v <;> first | rfl | exact absurd rfl (h _)
theorem l2_one {μ : Mu} {a : Option Addr} {n s : Nat} {v : Value} (h : L2 (RC μ) [.slice a n s] [v]) : R2 μ (.slice a n s) v := by
  cases h with | cons h _ => exact h
end Go.Proofs.Ytaahjfjpbilfnaa.V
