/- Rows of numbers: are two the same, marks, and whether they are held. -/
import Derived.Test.YtaahjfjpbilfnaaVGC
namespace Go.Proofs.Ytaahjfjpbilfnaa.V
open Go
set_option linter.unusedVariables false
set_option linter.unusedSimpArgs false
set_option maxRecDepth 100000
/-- A row. -/
def ER (H : Hp) (i o : Nat) (x : List Int) : Prop := ∃ a, rd H ⟨i, o, none⟩ = some (.slice a x.length (sg a 1)) ∧ Rep EI 1 H a x.length x
theorem ER.app {H : Hp} {l : List (Option Blk)} {i o : Nat} {x : List Int} (h : ER H i o x) : ER (H ++ l) i o x := by
  obtain ⟨a, h1, h2⟩ := h
  exact ⟨a, rd_app h1, h2.app fun _ _ _ => EI.app⟩
theorem ER.fn {H H' : Hp} (hf : Fn H H') {i o : Nat} {x : List Int} (h : ER H i o x) : ER H' i o x := by
  obtain ⟨a, h1, h2⟩ := h
  exact ⟨a, (hf.rd _ _ (rd_lt h1) id).trans h1, h2.fnI hf⟩
theorem Rep.fnR {H H' : Hp} {a : Option Addr} {n : Nat} {l : List (List Int)} (h : Rep ER 1 H a n l) (hf : Fn H H') : Rep ER 1 H' a n l := h.mono fun _ _ _ => ER.fn hf
/-! ### Marks -/
/-- Rows in own memory: K j are the numbers of the j-th. -/
structure OKR (S : Nat → Prop) (lo : Nat) (H : Hp) (p o : Nat) (K : Nat → Option Addr) (l : List (List Int)) : Prop where
  s : S p ∧ p < H.length
  e : ∀ j x, l[j]? = some x → rd H ⟨p, o + j, none⟩ = some (.slice (K j) x.length (sg (K j) 1)) ∧ Rep EI 1 H (K j) x.length x
  own : ∀ j x, l[j]? = some x → ∀ i, Ad (K j) i → WB lo H i ∧ S i ∧ i ≠ p
  ne : ∀ j j' x x', l[j]? = some x → l[j']? = some x' → j ≠ j' → ∀ i, Ad (K j) i → ¬ Ad (K j') i
def OR (S : Nat → Prop) (lo : Nat) (H : Hp) (a : Option Addr) (n : Nat) (l : List (List Int)) : Prop := n = l.length ∧ (l ≠ [] → ∃ p o K, a = some ⟨p, o, none⟩ ∧ OKR S lo H p o K l)
theorem OKR.fr {S T : Nat → Prop} {lo : Nat} {H H' : Hp} {p o : Nat} {K : Nat → Option Addr} {l : List (List Int)} (h : OKR S lo H p o K l) (hT : ∀ i, S i → ¬ T i) (hf : Fr T H H') : OKR S lo H' p o K l :=
  ⟨⟨h.s.1, Nat.lt_of_lt_of_le h.s.2 hf.len⟩, fun j x hx => ⟨(hf.rd _ _ (rd_lt (h.e j x hx).1) (hT _ h.s.1)).trans (h.e j x hx).1, (h.e j x hx).2.fr (fun i hi => hT _ (h.own j x hx i hi).2.1) hf⟩, fun j x hx i hi => ⟨hf.wb _ _ (h.own j x hx i hi).1, (h.own j x hx i hi).2⟩, h.ne⟩
theorem OR.fr {S T : Nat → Prop} {lo : Nat} {H H' : Hp} {a : Option Addr} {n : Nat} {l : List (List Int)} (h : OR S lo H a n l) (hT : ∀ i, S i → ¬ T i) (hf : Fr T H H') : OR S lo H' a n l :=
  ⟨h.1, fun hl => let ⟨p, o, K, ha, ok⟩ := h.2 hl; ⟨p, o, K, ha, ok.fr hT hf⟩⟩
theorem OR.lo {S : Nat → Prop} {lo lo' : Nat} {H : Hp} {a : Option Addr} {n : Nat} {l : List (List Int)} (h : OR S lo H a n l) (hl : lo' ≤ lo) : OR S lo' H a n l :=
  ⟨h.1, fun hn => let ⟨p, o, K, ha, ok⟩ := h.2 hn; ⟨p, o, K, ha, ok.s, ok.e, fun j x hx i hi => ⟨(ok.own j x hx i hi).1.lo hl, (ok.own j x hx i hi).2⟩, ok.ne⟩⟩
theorem OR.rep {S : Nat → Prop} {lo : Nat} {H : Hp} {a : Option Addr} {n : Nat} {l : List (List Int)} (h : OR S lo H a n l) : Rep ER 1 H a n l :=
  ⟨h.1, fun hl => let ⟨p, o, K, ha, ok⟩ := h.2 hl; ⟨p, o, ha, fun j x hx => ⟨K j, by rw [Nat.mul_one]; exact (ok.e j x hx).1, (ok.e j x hx).2⟩⟩⟩
def sR (l : List (List Int)) : Int := (l.map fun x => (x.length : Int)).sum
def mR : List (List Int) → Int → List (List Int)
  | [], _ => []
  | x :: r, k => mI x.length k :: mR r (k + (x.length : Int))
theorem mR_len : ∀ (l : List (List Int)) (k : Int), (mR l k).length = l.length
  | [], _ => rfl
  | x :: r, k => by simp [mR, mR_len r]
theorem sR_cons (x : List Int) (r : List (List Int)) : sR (x :: r) = (x.length : Int) + sR r := by simp [sR]
theorem sR_nonneg : ∀ l : List (List Int), 0 ≤ sR l
  | [] => by simp [sR]
  | x :: r => by have := sR_nonneg r; rw [sR_cons]; omega
theorem sR_take : ∀ (l : List (List Int)) (j : Nat) (x : List Int), l[j]? = some x → sR (l.take (j + 1)) = sR (l.take j) + (x.length : Int) ∧ sR (l.take (j + 1)) ≤ sR l
  | [], j, x, h => by simp at h
  | y :: r, 0, x, h => by simp at h; subst h; simp only [List.take_succ_cons, List.take_zero, sR_cons]; have := sR_nonneg r; have e : sR [] = 0 := rfl; omega
  | y :: r, j + 1, x, h => by
    have ⟨h1, h2⟩ := sR_take r j x (by simpa using h)
    simp only [List.take_succ_cons, sR_cons] at h1 h2 ⊢; omega
theorem mR_at : ∀ (l : List (List Int)) (k : Int) (j : Nat) (x : List Int), l[j]? = some x → (mR l k)[j]? = some (mI x.length (k + sR (l.take j)))
  | [], k, j, x, h => by simp at h
  | y :: r, k, 0, x, h => by simp at h; subst h; simp [mR, sR]
  | y :: r, k, j + 1, x, h => by
    have := mR_at r (k + (y.length : Int)) j x (by simpa using h)
    simp only [mR, List.getElem?_cons_succ, List.take_succ_cons, sR_cons, this, Int.add_assoc]
end Go.Proofs.Ytaahjfjpbilfnaa.V
