-- Laid by a program of this session's (wip/xprint.py) over the kit's print. Nothing in it is trusted: Lean checks it.
import Derived.Test.YtaahjfjpbilfnaaPDx0
namespace Go.Proofs.Ytaahjfjpbilfnaa.PD
open Go.RowKit Go.Proofs.YtaahjfjpbilfnaaW.PrintWords Go.Proofs.YtaahjfjpbilfnaaW.PrintLast Go.Proofs.YtaahjfjpbilfnaaW.PrintMore
attribute [local go_sem] max2_int min2_int max_two min_two max_three min_three max_four min_four   -- for this text's walks alone
set_option linter.unusedVariables false
set_option linter.unusedSimpArgs false

/-! ### what the law's arguments read as; the one plain statement -/
def g115 (x : S115) : Prop := (Lit.int .i64 x.f0).wf = true ∧ (Lit.int .i64 x.f1).wf = true
theorem opens115 : Open.Opens Try.prog 115 k115 g115 := Open.Opens.iso (Open.OpensF.struct Try.underlying115 (by kernel_rfl) (Open.OpensF.cons (t := 2) rfl rfl (Open.Opens.int Try.underlying2 (by kernel_rfl)) (Open.OpensF.one (t := 2) rfl rfl (Open.Opens.int Try.underlying2 (by kernel_rfl))) rfl)) _ (fun y => (⟨y.1, y.2⟩ : S115)) (fun _ => rfl) (fun _ h => h)
def g25 (x : S25) : Prop := (x.f0.length * 8 ≤ 140737488351232 ∧ ∀ y_ ∈ x.f0, (Lit.int .i64 y_).wf = true) ∧ (x.f1.length * 16 ≤ 140737488351232 ∧ ∀ y_ ∈ x.f1, g115 y_)
theorem opens25 : Open.Opens Try.prog 25 k25 g25 := Open.Opens.iso (Open.OpensF.struct Try.underlying25 (by kernel_rfl) (Open.OpensF.cons (t := 22) rfl rfl (Open.Opens.slice Try.underlying22 (by kernel_rfl) (B := 8) (by kernel_rfl) (Open.Opens.int Try.underlying2 (by kernel_rfl))) (Open.OpensF.one (t := 23) rfl rfl (Open.Opens.slice Try.underlying23 (by kernel_rfl) (B := 16) (by kernel_rfl) opens115)) rfl)) _ (fun y => (⟨y.1, y.2⟩ : S25)) (fun _ => rfl) (fun _ h => h)

end Go.Proofs.Ytaahjfjpbilfnaa.PD
