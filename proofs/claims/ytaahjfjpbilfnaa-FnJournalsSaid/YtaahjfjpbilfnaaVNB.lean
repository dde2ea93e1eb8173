/- What comes of an operation on a disk: likeness, marks; disks in new memory. -/
import Derived.Test.YtaahjfjpbilfnaaVNA
namespace Go.Proofs.Ytaahjfjpbilfnaa.V
open Go
set_option linter.unusedVariables false
set_option linter.unusedSimpArgs false
set_option maxRecDepth 100000
def mD (D : Dk) (k : Int) : Dk := ⟨mI D.w.length k, mB D.p.length (k + (D.w.length : Int))⟩
theorem sD_nonneg (D : Dk) : 0 ≤ sD D := by unfold sD; omega
/-- What an operation on a disk gives, in new memory. -/
def NewDR (H H' : Hp) (v : Value) (c : Int) (D : Dk) : Prop := ∃ S T aw nw ap np, v = .agg #[.int .i64 c, .slice aw nw (sg aw 1), .slice ap np (sg ap 2)] ∧ Fn H H' ∧ (∀ i, S i ∨ T i → H.length ≤ i) ∧ DO H.length H' S T aw nw ap np D
theorem DO.nil {lo : Nat} {H : Hp} : DO lo H (fun _ => False) (fun _ => False) none 0 none 0 ⟨[], []⟩ :=
  ⟨Rep.nil, Rep.nil, fun i h => h.no.elim, fun i h => h.no.elim, fun i h => h.elim, fun i h => (or_self_iff.1 h).elim⟩
theorem NewDR.nil (H : Hp) (c : Int) : NewDR H H (.agg #[.int .i64 c, .slice none 0 0, .slice none 0 0]) c ⟨[], []⟩ :=
  ⟨_, _, none, 0, none, 0, rfl, Fr.refl, fun i h => (or_self_iff.1 h).elim, DO.nil⟩
theorem noRefD {a : Value} {an ab : Option Addr} {nn nb s t : Nat} (ha : isRef a = false) : noRef (.agg #[a, .slice an nn s, .slice ab nb t]) = true → an = .none ∧ ab = .none := by
  intro h
  cases an <;> cases ab <;> simp_all [noRef, noRef1, isRef]
theorem Rep.none_nil {α : Type} {E : Hp → Nat → Nat → α → Prop} {st : Nat} {H : Hp} {n : Nat} {l : List α} (h : Rep E st H none n l) : l = [] ∧ n = 0 := by
  have hl : l = [] := by
    cases l with
    | nil => rfl
    | cons x r => obtain ⟨i, o, e, _⟩ := h.2 (by simp); cases e
  exact ⟨hl, by rw [h.1, hl]; rfl⟩
theorem NewDR.done {H H2 : Hp} {v : Value} {c : Int} {D : Dk} (h : NewDR H H2 v c D) : NewDR H (if noRef v = true then H else H2) v c D := by
  by_cases hn : noRef v = true
  · rw [if_pos hn]
    obtain ⟨S, T, aw, nw, ap, np, rfl, f, g, o⟩ := h
    obtain ⟨rfl, rfl⟩ := noRefD rfl hn
    obtain ⟨h1, rfl⟩ := o.w.none_nil
    obtain ⟨h2, rfl⟩ := o.p.none_nil
    obtain ⟨w, p⟩ := D
    simp only at h1 h2
    subst h1 h2
    exact NewDR.nil H c
  · rw [if_neg hn]; exact h
/-- Words in a block of their own, and no puts. -/
theorem NewDR.words {H H' : Hp} {i : Nat} {w : List Int} {k0 : Bool} (hf : Fn H H') (hi : H.length ≤ i) (hb : H'.blk i = some ⟨vI w, true, k0⟩) : NewDR H H' (.agg #[.int .i64 0, .slice (some ⟨i, 0, none⟩) w.length 1, .slice none 0 0]) 0 ⟨w, []⟩ :=
  ⟨(· = i), fun _ => False, some ⟨i, 0, none⟩, w.length, none, 0, rfl, hf, fun j h => by rcases h with h | h; rw [h]; exact hi; exact h.elim, ⟨vI_rep hb rfl, Rep.nil, fun j ⟨o, e⟩ => (by cases e; exact ⟨⟨hi, _, hb, rfl⟩, rfl⟩), fun j h => h.no.elim, fun j _ h => h.elim, fun j h => by rcases h with h | h; rw [h]; exact blk_lt hb; exact h.elim⟩⟩
end Go.Proofs.Ytaahjfjpbilfnaa.V
