-- Laid by a program of this session's (wip/xprint.py) over the kit's print. Nothing in it is trusted: Lean checks it.
import Derived.Test.YtflddpkmajoeaaaPPx0
namespace Go.Proofs.Ytflddpkmajoeaaa.PP
open Go.RowKit Go.Proofs.YtflddpkmajoeaaaW.PrintWords Go.Proofs.YtflddpkmajoeaaaW.PrintLast Go.Proofs.YtflddpkmajoeaaaW.PrintMore
attribute [local go_sem] max2_int min2_int max_two min_two max_three min_three max_four min_four   -- for this text's walks alone
set_option linter.unusedVariables false
set_option linter.unusedSimpArgs false

/-! ### what the law's arguments read as; the one plain statement -/
def g143 (x : S143) : Prop := (Lit.int .i64 x.f0).wf = true ∧ (Lit.int .i64 x.f1).wf = true ∧ (Lit.int .i64 x.f2).wf = true
theorem opens143 : Open.Opens Try.prog 143 k143 g143 := Open.Opens.iso (Open.OpensF.struct Try.underlying143 (by kernel_rfl) (Open.OpensF.cons (t := 2) rfl rfl (Open.Opens.int Try.underlying2 (by kernel_rfl)) (Open.OpensF.cons (t := 2) rfl rfl (Open.Opens.int Try.underlying2 (by kernel_rfl)) (Open.OpensF.one (t := 2) rfl rfl (Open.Opens.int Try.underlying2 (by kernel_rfl))) rfl) rfl)) _ (fun y => (⟨y.1, y.2.1, y.2.2⟩ : S143)) (fun _ => rfl) (fun _ h => h)
def g145 (x : S145) : Prop := (Lit.int .i64 x.f0).wf = true ∧ (Lit.int .i64 x.f1).wf = true ∧ (Lit.int .i64 x.f2).wf = true
theorem opens145 : Open.Opens Try.prog 145 k145 g145 := Open.Opens.iso (Open.OpensF.struct Try.underlying145 (by kernel_rfl) (Open.OpensF.cons (t := 2) rfl rfl (Open.Opens.int Try.underlying2 (by kernel_rfl)) (Open.OpensF.cons (t := 2) rfl rfl (Open.Opens.int Try.underlying2 (by kernel_rfl)) (Open.OpensF.one (t := 2) rfl rfl (Open.Opens.int Try.underlying2 (by kernel_rfl))) rfl) rfl)) _ (fun y => (⟨y.1, y.2.1, y.2.2⟩ : S145)) (fun _ => rfl) (fun _ h => h)
def g35 (x : S35) : Prop := (Lit.int .i64 x.f0).wf = true ∧ (x.f1.length * 24 ≤ 140737488351232 ∧ ∀ y_ ∈ x.f1, g143 y_) ∧ (x.f2.length * 24 ≤ 140737488351232 ∧ ∀ y_ ∈ x.f2, g145 y_) ∧ (x.f3.length * 8 ≤ 140737488351232 ∧ ∀ y_ ∈ x.f3, (Lit.int .i64 y_).wf = true)
theorem opens35 : Open.Opens Try.prog 35 k35 g35 := Open.Opens.iso (Open.OpensF.struct Try.underlying35 (by kernel_rfl) (Open.OpensF.cons (t := 2) rfl rfl (Open.Opens.int Try.underlying2 (by kernel_rfl)) (Open.OpensF.cons (t := 32) rfl rfl (Open.Opens.slice Try.underlying32 (by kernel_rfl) (B := 24) (by kernel_rfl) opens143) (Open.OpensF.cons (t := 33) rfl rfl (Open.Opens.slice Try.underlying33 (by kernel_rfl) (B := 24) (by kernel_rfl) opens145) (Open.OpensF.one (t := 22) rfl rfl (Open.Opens.slice Try.underlying22 (by kernel_rfl) (B := 8) (by kernel_rfl) (Open.Opens.int Try.underlying2 (by kernel_rfl)))) rfl) rfl) rfl)) _ (fun y => (⟨y.1, y.2.1, y.2.2.1, y.2.2.2⟩ : S35)) (fun _ => rfl) (fun _ h => h)

end Go.Proofs.Ytflddpkmajoeaaa.PP
