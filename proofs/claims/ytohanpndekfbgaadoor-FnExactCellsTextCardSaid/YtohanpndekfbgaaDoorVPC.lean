/- What is wrong with a pool? The program's answer. -/
import Derived.Test.YtohanpndekfbgaaDoorVPB
namespace Go.Proofs.YtohanpndekfbgaaDoor.V
open Go
set_option linter.unusedVariables false
set_option linter.unusedSimpArgs false
set_option maxRecDepth 100000
/-- Numbers that count, in a block of their own. -/
structure RT (lo : Nat) (H : Hp) (R n : Nat) (f : Nat → Int) : Prop where
  w : WB lo H R
  s : Sz H R n
  c : ∀ j, j < n → rd H ⟨R, j, none⟩ = some (.int .i64 (f j))
theorem RT.fn {lo : Nat} {H H' : Hp} {R n : Nat} {f : Nat → Int} (h : RT lo H R n f) (hf : Fn H H') : RT lo H' R n f :=
  ⟨h.w.fn _ hf, h.s.fr hf id, fun j hj => (hf.rd _ _ (rd_lt (h.c j hj)) id).trans (h.c j hj)⟩
theorem RT.up {lo : Nat} {H : Hp} {R n : Nat} {f : Nat → Int} (h : RT lo H R n f) {j : Nat} (hj : j < n) (x : Int) : ∃ H', wrN lo H ⟨R, j, none⟩ [.int .i64 x] = some H' ∧ Fr (· = R) H H' ∧ H'.length = H.length ∧ RT lo H' R n (fun k => if k = j then x else f k) := by
  obtain ⟨H', hu, u, hs⟩ := upN (o := j) [.int .i64 x] h.w h.s (by simp; omega)
  refine ⟨H', hu, u.fr, u.len, u.wb _ _ h.w, hs, fun k hk => ?_⟩
  by_cases hkj : k = j
  · subst hkj
    rw [if_pos rfl]
    have := u.at_ 0 (by simp)
    simpa using this
  · rw [if_neg hkj]
    exact (u.oth _ _ (by simp; omega)).trans (h.c k hk)
theorem rcV_zero {F : Fo} {l : List Vo} (h : ∀ v ∈ l, rootB F v.r = true) {i : Nat} (hi : i < F.n.length) (hr : F.n[i].r = 0) : rcV l (i : Int) = 0 := by
  unfold rcV
  rw [List.countP_eq_zero.2]
  · rfl
  · intro v hv e
    have e' : v.r = (i : Int) := by simpa using e
    have := h v hv
    rw [e', rootB_n hi, hr] at this
    simp at this
theorem cV_root {F : Fo} {l : List Vo} (h : ∀ y ∈ cV F l, y = 0) : ∀ v ∈ l, rootB F v.r = true := by
  intro v hv
  obtain ⟨i, hi, rfl⟩ := List.getElem_of_mem hv
  have h1 : vC F l i = 0 := h _ (List.mem_map.2 ⟨i, List.mem_range.2 hi, rfl⟩)
  unfold vC at h1
  rw [getE hi] at h1
  simp only at h1
  by_cases hc : (1 ≤ l[i].i ∧ l[i].i ≤ 99) ∧ (1 ≤ l[i].q ∧ l[i].q ≤ 16) ∧ rootB F l[i].r = true
  · exact hc.2.2
  · rw [if_neg hc] at h1; omega
theorem noLeaf {F : Fo} (g : Good F) {x : Nd} (hx : x ∈ F.n) (hr : x.r = 0) : x.f = false := by
  have := g.n x hx
  unfold nodeF at this
  rw [if_pos (by omega), if_pos hr] at this
  by_cases hf : x.f = true
  · rw [if_pos (Or.inl hf)] at this; omega
  · exact eq_false_of_ne_true hf
end Go.Proofs.YtohanpndekfbgaaDoor.V
