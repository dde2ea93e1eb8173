/- How often nodes name a place. -/
import Derived.Test.YtohanpndekfbgaaDoorVC9
namespace Go.Proofs.YtohanpndekfbgaaDoor.V
open Go
set_option linter.unusedVariables false
set_option linter.unusedSimpArgs false
set_option maxRecDepth 100000
def nm (leaf : Bool) (at_ : Int) (x : Nd) : Int := if x.r = 0 ∨ x.f ≠ leaf then 0 else (x.k.count at_ : Int)
def nmS (l : List Nd) (leaf : Bool) (at_ : Int) : Int := (l.map (nm leaf at_)).sum
theorem nmS_take (l : List Nd) (leaf : Bool) (at_ : Int) (j : Nat) (h : j < l.length) : nmS (l.take (j + 1)) leaf at_ = nmS (l.take j) leaf at_ + nm leaf at_ l[j] := by
  unfold nmS
  rw [List.take_succ_eq_append_getElem h, List.map_append, List.sum_append]
  simp only [List.map_cons, List.map_nil, List.sum_cons, List.sum_nil, Int.add_zero]
/-- Nodes as they may be: no more than 60, and those that are referred to have four kids. -/
structure Four (F : Fo) : Prop where
  n : F.n.length ≤ 60
  k : ∀ x ∈ F.n, x.r ≠ 0 → x.k.length = 4
theorem nm_le {F : Fo} (h : Four F) (leaf : Bool) (at_ : Int) (x : Nd) (hx : x ∈ F.n) : 0 ≤ nm leaf at_ x ∧ nm leaf at_ x ≤ 4 := by
  unfold nm
  by_cases h1 : x.r = 0 ∨ x.f ≠ leaf
  · rw [if_pos h1]; omega
  · rw [if_neg h1]
    have h2 : x.r ≠ 0 := fun e => h1 (Or.inl e)
    have h3 := h.k x hx h2
    have h4 := List.count_le_length (a := at_) (l := x.k)
    omega
theorem nmS_le {F : Fo} (h : Four F) (leaf : Bool) (at_ : Int) : ∀ i, i ≤ F.n.length → 0 ≤ nmS (F.n.take i) leaf at_ ∧ nmS (F.n.take i) leaf at_ ≤ 4 * (i : Int)
  | 0, _ => by simp [nmS]
  | i + 1, hi => by
    have h1 := nmS_le h leaf at_ i (by omega)
    have h2 := nm_le h leaf at_ F.n[i] (List.getElem_mem (by omega))
    rw [nmS_take _ _ _ _ (by omega)]
    omega
theorem count_take (l : List Int) (v : Int) (j : Nat) (h : j < l.length) : (l.take (j + 1)).count v = (l.take j).count v + if l[j] = v then 1 else 0 := by
  rw [List.take_succ_eq_append_getElem h, List.count_append]
  congr 1
  simp only [List.count_cons, List.count_nil, beq_iff_eq, Nat.zero_add]
theorem flat1 (v : Value) : ∀ m : Nat, (List.replicate m [v]).flatten = List.replicate m v
  | 0 => rfl
  | m + 1 => by rw [List.replicate_succ, List.flatten_cons, flat1 v m, List.replicate_succ]; rfl
end Go.Proofs.YtohanpndekfbgaaDoor.V
