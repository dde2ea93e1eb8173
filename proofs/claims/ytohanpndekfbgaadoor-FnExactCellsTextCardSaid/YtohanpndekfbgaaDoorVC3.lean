/- Marks on numbers and nodes, and whether they are held. -/
import Derived.Test.YtohanpndekfbgaaDoorVC2
namespace Go.Proofs.YtohanpndekfbgaaDoor.V
open Go
set_option linter.unusedVariables false
set_option linter.unusedSimpArgs false
set_option maxRecDepth 100000
/-! ### Nodes -/
def Ad (a : Option Addr) (i : Nat) : Prop := ∃ o, a = some ⟨i, o, none⟩
structure EK (H : Hp) (p o : Nat) (x : Nd) (a : Option Addr) : Prop where
  r : rd H ⟨p, o, none⟩ = some (.int .i64 x.r)
  f : rd H ⟨p, o + 1, none⟩ = some (.bool x.f)
  s : rd H ⟨p, o + 2, none⟩ = some (.slice a x.k.length (sg a 1))
  k : Rep EI 1 H a x.k.length x.k
theorem Rep.fr {T : Nat → Prop} {H H' : Hp} {a : Option Addr} {n : Nat} {l : List Int} (h : Rep V.EI 1 H a n l) (hT : ∀ i, Ad a i → ¬ T i) (hf : Fr T H H') : Rep V.EI 1 H' a n l :=
  ⟨h.1, fun hl => let ⟨i, o, ha, h2⟩ := h.2 hl; ⟨i, o, ha, fun j x hx => hf.EI (hT i ⟨o, ha⟩) (h2 j x hx)⟩⟩
theorem Rep.frB {T : Nat → Prop} {H H' : Hp} {a : Option Addr} {n : Nat} {l : List Bk} (h : Rep V.EB 2 H a n l) (hT : ∀ i, Ad a i → ¬ T i) (hf : Fr T H H') : Rep V.EB 2 H' a n l :=
  ⟨h.1, fun hl => let ⟨i, o, ha, h2⟩ := h.2 hl; ⟨i, o, ha, fun j x hx => hf.EB (hT i ⟨o, ha⟩) (h2 j x hx)⟩⟩
theorem EK.fr {T : Nat → Prop} {H H' : Hp} {p o : Nat} {x : Nd} {a : Option Addr} (h : EK H p o x a) (hp : ¬ T p) (hT : ∀ i, Ad a i → ¬ T i) (hf : Fr T H H') : EK H' p o x a :=
  ⟨(hf.rd _ _ (rd_lt h.r) hp).trans h.r, (hf.rd _ _ (rd_lt h.f) hp).trans h.f, (hf.rd _ _ (rd_lt h.s) hp).trans h.s, h.k.fr hT hf⟩
/-- Nodes in own memory: K j are the kids of the j-th. -/
structure OKN (S : Nat → Prop) (lo : Nat) (H : Hp) (p o : Nat) (K : Nat → Option Addr) (l : List Nd) : Prop where
  w : WB lo H p ∧ S p
  e : ∀ j x, l[j]? = some x → EK H p (o + j * 3) x (K j)
  own : ∀ j x, l[j]? = some x → ∀ i, Ad (K j) i → WB lo H i ∧ S i ∧ i ≠ p
  ne : ∀ j j' x x', l[j]? = some x → l[j']? = some x' → j ≠ j' → ∀ i, Ad (K j) i → ¬ Ad (K j') i
  z : ∀ j x, l[j]? = some x → ∀ A, K j = some A → A.spot = none ∧ A.off = 0
/-- A node whose kids lie in S. -/
def ENs (S : Nat → Prop) (H : Hp) (i o : Nat) (x : Nd) : Prop := S i ∧ ∃ a, EK H i o x a ∧ ∀ i, Ad a i → S i
theorem ENs.en {S : Nat → Prop} {H : Hp} {i o : Nat} {x : Nd} (h : ENs S H i o x) : EN H i o x := let ⟨_, a, e, _⟩ := h; ⟨e.r, e.f, a, _, e.s, e.k⟩
theorem ENs.fr {S T : Nat → Prop} {H H' : Hp} (hT : ∀ i, S i → ¬ T i) (hf : Fr T H H') {i o : Nat} {x : Nd} (h : ENs S H i o x) : ENs S H' i o x := let ⟨s, a, e, ha⟩ := h; ⟨s, a, e.fr (hT _ s) (fun j hj => hT _ (ha j hj)) hf, ha⟩
def ON (S : Nat → Prop) (lo : Nat) (H : Hp) (a : Option Addr) (n : Nat) (l : List Nd) : Prop := n = l.length ∧ (l ≠ [] → ∃ p o K, a = some ⟨p, o, none⟩ ∧ OKN S lo H p o K l)
def sN : List Nd → Int
  | [] => 0
  | x :: r => 2 + (x.k.length : Int) + sN r
def mN : List Nd → Int → List Nd
  | [], _ => []
  | x :: r, k => ⟨k, (k + 1).tmod 3 == 0, mI x.k.length (k + 2)⟩ :: mN r (k + 2 + (x.k.length : Int))
theorem mN_len : ∀ (l : List Nd) (k : Int), (mN l k).length = l.length
  | [], _ => rfl
  | x :: r, k => by simp [mN, mN_len r]
theorem sN_nonneg : ∀ l : List Nd, 0 ≤ sN l
  | [] => by simp [sN]
  | x :: r => by have := sN_nonneg r; simp only [sN]; omega
theorem sN_take : ∀ (l : List Nd) (j : Nat) (x : Nd), l[j]? = some x → sN (l.take (j + 1)) = sN (l.take j) + (2 + (x.k.length : Int)) ∧ sN (l.take (j + 1)) ≤ sN l
  | [], j, x, h => by simp at h
  | y :: r, 0, x, h => by simp at h; subst h; simp only [List.take_succ_cons, List.take_zero, sN]; have := sN_nonneg r; omega
  | y :: r, j + 1, x, h => by
    have ⟨h1, h2⟩ := sN_take r j x (by simpa using h)
    simp only [List.take_succ_cons, sN] at h1 h2 ⊢; omega
theorem mN_at : ∀ (l : List Nd) (k : Int) (j : Nat) (x : Nd), l[j]? = some x → (mN l k)[j]? = some ⟨k + sN (l.take j), (k + sN (l.take j) + 1).tmod 3 == 0, mI x.k.length (k + sN (l.take j) + 2)⟩
  | [], k, j, x, h => by simp at h
  | y :: r, k, 0, x, h => by simp at h; subst h; simp [mN, sN]
  | y :: r, k, j + 1, x, h => by
    have := mN_at r (k + 2 + (y.k.length : Int)) j x (by simpa using h)
    simp only [mN, List.getElem?_cons_succ, List.take_succ_cons, sN, this]
    have e : k + 2 + (y.k.length : Int) + sN (List.take j r) = k + (2 + (y.k.length : Int) + sN (List.take j r)) := by omega
    rw [e]

end Go.Proofs.YtohanpndekfbgaaDoor.V
