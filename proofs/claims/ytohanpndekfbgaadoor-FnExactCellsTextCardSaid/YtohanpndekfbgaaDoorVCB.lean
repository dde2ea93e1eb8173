/- What is wrong with a forest? The reference's and the program's answer. -/
import Derived.Test.YtohanpndekfbgaaDoorVCA
namespace Go.Proofs.YtohanpndekfbgaaDoor.V
open Go
set_option linter.unusedVariables false
set_option linter.unusedSimpArgs false
set_option maxRecDepth 100000
def c1 (F : Fo) : List Int := (List.range F.b.length).map fun i => match F.b[i]? with | some b => if b.r = nmS F.n true (i : Int) then 0 else 1 | none => 0
def c2 (F : Fo) : List Int := (List.range F.n.length).map fun i => match F.n[i]? with | some x => if x.f = true ∧ x.r < nmS F.n false (i : Int) then 1 else 0 | none => 0
def fF (F : Fo) : Int := if fB F.b = 0 then (if 60 < F.n.length then 2 else if ff (F.n.map (nodeF F)) = 0 then (if ff (c1 F) = 0 then ff (c2 F) else ff (c1 F)) else ff (F.n.map (nodeF F))) else fB F.b
theorem c1_len (F : Fo) : (c1 F).length = F.b.length := by simp [c1]
theorem c2_len (F : Fo) : (c2 F).length = F.n.length := by simp [c2]
theorem c1_at {F : Fo} {i : Nat} {x : Int} (h : (c1 F)[i]? = some x) : ∃ hi : i < F.b.length, x = if F.b[i].r = nmS F.n true (i : Int) then 0 else 1 := by
  have hi : i < F.b.length := by have := (List.getElem?_eq_some_iff.1 h).1; rw [c1_len] at this; exact this
  refine ⟨hi, ?_⟩
  simp only [c1, List.getElem?_map, List.getElem?_range hi, Option.map_some, getE hi, Option.some.injEq] at h
  exact h.symm
theorem c2_at {F : Fo} {i : Nat} {x : Int} (h : (c2 F)[i]? = some x) : ∃ hi : i < F.n.length, x = if F.n[i].f = true ∧ F.n[i].r < nmS F.n false (i : Int) then 1 else 0 := by
  have hi : i < F.n.length := by have := (List.getElem?_eq_some_iff.1 h).1; rw [c2_len] at this; exact this
  refine ⟨hi, ?_⟩
  simp only [c2, List.getElem?_map, List.getElem?_range hi, Option.map_some, getE hi, Option.some.injEq] at h
  exact h.symm
theorem nodeF_four {F : Fo} {x : Nd} (h : nodeF F x = 0) (hr : x.r ≠ 0) : x.k.length = 4 ∧ x.k.all (kidB F x.f) = true := by
  unfold nodeF at h
  by_cases h1 : 0 ≤ x.r ∧ x.r ≤ 200
  · rw [if_pos h1, if_neg hr] at h
    by_cases h2 : x.k.length = 4
    · rw [if_pos h2] at h
      by_cases h3 : x.k.all (kidB F x.f) = true ∧ x.k.any (fun k => decide (0 ≤ k)) = true
      · exact ⟨h2, h3.1⟩
      · rw [if_neg h3] at h; omega
    · rw [if_neg h2] at h; omega
  · rw [if_neg h1] at h; omega
theorem four_of {F : Fo} (hn : F.n.length ≤ 60) (h : ∀ y ∈ F.n.map (nodeF F), y = 0) : Four F := ⟨hn, fun x hx hr => (nodeF_four (h _ (List.mem_map_of_mem hx)) hr).1⟩
theorem kidB_lt {F : Fo} {leaf : Bool} {k : Int} (h : kidB F leaf k = true) : k < (if leaf = true then F.b.length else F.n.length : Nat) := by
  by_cases h0 : k = -1
  · subst h0; split <;> omega
  · cases leaf with
    | true =>
      by_cases hk : 0 ≤ k ∧ k ≤ (F.b.length : Int) - 1
      · simp only [if_true]; omega
      · rw [kidB_bo h0 hk] at h; cases h
    | false =>
      by_cases hk : 0 ≤ k ∧ k ≤ (F.n.length : Int) - 1
      · simp only [Bool.false_eq_true, if_false]; omega
      · rw [kidB_no h0 hk] at h; cases h
end Go.Proofs.YtohanpndekfbgaaDoor.V
