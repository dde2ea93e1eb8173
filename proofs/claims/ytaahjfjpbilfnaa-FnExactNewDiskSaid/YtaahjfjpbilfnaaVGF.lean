/- What is behind all that was put: the program's fold and the reference's last put; sums. -/
import Derived.Test.YtaahjfjpbilfnaaVGE
namespace Go.Proofs.Ytaahjfjpbilfnaa.V
open Go
set_option linter.unusedVariables false
set_option linter.unusedSimpArgs false
set_option maxRecDepth 100000
theorem atP_hit {w : List Int} {p : List Bk} {i j : Nat} (hj : j < p.length) (h1 : p[j].r = (i : Int)) (h2 : ∀ (k : Nat) x, j < k → p[k]? = some x → x.r ≠ (i : Int)) : atP w p i = p[j].d := by
  have hp : p = p.take j ++ p[j] :: p.drop (j + 1) := by rw [← List.drop_eq_getElem_cons hj, List.take_append_drop]
  have hn : (p.drop (j + 1)).reverse.find? (fun x => x.r == (i : Int)) = none := by
    rw [List.find?_eq_none]
    intro x hx
    rw [List.mem_reverse] at hx
    obtain ⟨k, hk⟩ := List.mem_iff_getElem?.1 hx
    rw [List.getElem?_drop] at hk
    have := h2 _ x (by omega) hk
    simpa using this
  have hr : p.reverse.find? (fun x => x.r == (i : Int)) = some p[j] := by
    have hb : (p[j].r == (i : Int)) = true := beq_iff_eq.2 h1
    have e : p.reverse = (p.drop (j + 1)).reverse ++ (p[j] :: (p.take j).reverse) := by
      conv => lhs; rw [hp]
      rw [List.reverse_append, List.reverse_cons, List.append_assoc]; rfl
    rw [e, List.find?_append, hn, Option.none_or, List.find?_cons, hb]
  unfold atP
  rw [hr]
theorem atP_no {w : List Int} {p : List Bk} {i : Nat} (h : ∀ x ∈ p, x.r ≠ (i : Int)) : atP w p i = (w[i]?).getD 0 := by
  have hn : p.reverse.find? (fun x => x.r == (i : Int)) = none := by
    rw [List.find?_eq_none]
    intro x hx
    rw [List.mem_reverse] at hx
    simpa using h x hx
  unfold atP
  rw [hn]
/-! ### Sums -/
end Go.Proofs.Ytaahjfjpbilfnaa.V
