-- Laid by a program of this session's (wip/xprint.py) over the kit's print. Nothing in it is trusted: Lean checks it.
import Derived.Test.YtflddpkmajoeaaaPPx0
import Derived.Test.YtflddpkmajoeaaaPPx38
namespace Go.Proofs.Ytflddpkmajoeaaa.PP
open Go.RowKit Go.Proofs.YtflddpkmajoeaaaW.PrintWords Go.Proofs.YtflddpkmajoeaaaW.PrintLast Go.Proofs.YtflddpkmajoeaaaW.PrintMore
attribute [local go_sem] max2_int min2_int max_two min_two max_three min_three max_four min_four   -- for this text's walks alone
set_option linter.unusedVariables false
set_option linter.unusedSimpArgs false

/-! ### what the law's arguments read as; the one plain statement -/
def g175 (x : S175) : Prop := True ∧ (Lit.int .i64 x.f1).wf = true ∧ (Lit.int .i64 x.f2).wf = true ∧ (Lit.int .i64 x.f3).wf = true
theorem opens175 : Open.Opens Try.prog 175 k175 g175 := Open.Opens.iso (Open.OpensF.struct Try.underlying175 (by kernel_rfl) (Open.OpensF.cons (t := 4) rfl rfl (Open.Opens.bool Try.underlying4 (by kernel_rfl)) (Open.OpensF.cons (t := 2) rfl rfl (Open.Opens.int Try.underlying2 (by kernel_rfl)) (Open.OpensF.cons (t := 2) rfl rfl (Open.Opens.int Try.underlying2 (by kernel_rfl)) (Open.OpensF.one (t := 2) rfl rfl (Open.Opens.int Try.underlying2 (by kernel_rfl))) rfl) rfl) rfl)) _ (fun y => (⟨y.1, y.2.1, y.2.2.1, y.2.2.2⟩ : S175)) (fun _ => rfl) (fun _ h => h)
def g79 (x : S79) : Prop := (Lit.int .i64 x.f0).wf = true ∧ (Lit.int .i64 x.f1).wf = true ∧ (x.f2.length * 24 ≤ 140737488351232 ∧ ∀ y_ ∈ x.f2, g143 y_) ∧ (x.f3.length * 32 ≤ 140737488351232 ∧ ∀ y_ ∈ x.f3, g175 y_)
theorem opens79 : Open.Opens Try.prog 79 k79 g79 := Open.Opens.iso (Open.OpensF.struct Try.underlying79 (by kernel_rfl) (Open.OpensF.cons (t := 2) rfl rfl (Open.Opens.int Try.underlying2 (by kernel_rfl)) (Open.OpensF.cons (t := 2) rfl rfl (Open.Opens.int Try.underlying2 (by kernel_rfl)) (Open.OpensF.cons (t := 32) rfl rfl (Open.Opens.slice Try.underlying32 (by kernel_rfl) (B := 24) (by kernel_rfl) opens143) (Open.OpensF.one (t := 77) rfl rfl (Open.Opens.slice Try.underlying77 (by kernel_rfl) (B := 32) (by kernel_rfl) opens175)) rfl) rfl) rfl)) _ (fun y => (⟨y.1, y.2.1, y.2.2.1, y.2.2.2⟩ : S79)) (fun _ => rfl) (fun _ h => h)

end Go.Proofs.Ytflddpkmajoeaaa.PP
