/- What a code among the arguments reads as: its bytes. -/
import Derived.Test.YtaahjfjpbilfnaaVMI
import Derived.Test.YtaahjfjpbilfnaaVQA
import Derived.Test.YtaahjfjpbilfnaaRows
import Derived.WalkKit
import Derived.ProofKit
import Derived.KernelRfl
namespace Go.Proofs.Ytaahjfjpbilfnaa.V
open Go
set_option linter.unusedVariables false
set_option linter.unusedSimpArgs false
def QY (H : Hp) (vs : List Value) (l : List Int) : Prop := ∃ a, vs = [.slice a l.length (sg a 1)] ∧ Rep EY 1 H a l.length l
def GY (l : List Int) : Prop := ∀ x ∈ l, 0 ≤ x ∧ x ≤ 255
theorem byte_wf {n : Int} (h : (Lit.int .u8 n).wf = true) : 0 ≤ n ∧ n ≤ 255 := by
  simp only [Lit.wf, Bool.and_eq_true, decide_eq_true_eq] at h
  have h1 : IntKind.u8.min = 0 := rfl
  have h2 : IntKind.u8.max = 255 := rfl
  rw [h1, h2] at h
  exact h
theorem opnBytes : Opn Try.prog 39 1 QY GY :=
  Opn.conv (Opn.slice Try.underlying39 (by kernel_rfl) (B := 1) (by kernel_rfl) (by omega) (Opn.int Try.underlying5 (by kernel_rfl))) id
    (by
      rintro H vs l ⟨a, rfl, h2⟩
      refine ⟨a, rfl, rfl, fun hl => ?_⟩
      obtain ⟨i, ha, h3⟩ := h2 hl
      refine ⟨i, 0, ha, fun j x hx => ?_⟩
      obtain ⟨ws, h4, rfl, h6⟩ := h3 j x hx
      have := h6 0 (by omega)
      rw [Nat.zero_add]; exact this)
    (by rintro H l vs x ⟨a, rfl, h⟩; exact ⟨a, rfl, h.app fun _ _ _ => EY.app⟩) (fun _ h x hx => byte_wf (h.2 x hx))
theorem not_agg {P : Program} {W : World} {base : Nat} {t e : TypeId} {v : Value} (ht : P.underlying t = some (.slice e)) (h : Value.okWide P W .any base t v) : ∀ cs, v ≠ .agg cs := by
  rintro cs rfl
  simp only [Value.okWide, ht, Cell.okWide, Cell.ok] at h
theorem cells_one {v : Value} (h : ∀ cs, v ≠ .agg cs) : v.cells.toList = [v] := by
  cases v <;> first | rfl | exact absurd rfl (h _)
theorem l2_one {μ : Mu} {a : Option Addr} {n s : Nat} {v : Value} (h : L2 (RC μ) [.slice a n s] [v]) : R2 μ (.slice a n s) v := by
  cases h with | cons h _ => exact h
end Go.Proofs.Ytaahjfjpbilfnaa.V
