/- Slices that can be read whole; numbers put behind an empty slice. -/
import Derived.Test.YtohanpndekfbgaaDoorVCF
namespace Go.Proofs.YtohanpndekfbgaaDoor.V
open Go
set_option linter.unusedVariables false
set_option linter.unusedSimpArgs false
set_option maxRecDepth 100000
/-- The block is there. -/
def Ex (H : Hp) (a : Option Addr) : Prop := ∀ A, a = some A → A.spot = none ∧ ∃ b, H.blk A.block = some b ∧ A.off ≤ b.cs.length
theorem Ex.fn {H H' : Hp} {a : Option Addr} (h : Ex H a) (hf : Fn H H') : Ex H' a := fun A e => let ⟨hs, b, hb, hl⟩ := h A e; ⟨hs, b, (hf.blk _ (blk_lt hb) id).trans hb, hl⟩
theorem rdN_of {H : Hp} {i o : Nat} {L : List Value} (hx : ∃ b, H.blk i = some b ∧ o ≤ b.cs.length) (h : ∀ j, j < L.length → rd H ⟨i, o + j, none⟩ = L[j]?) : rdN H ⟨i, o, none⟩ L.length = some L := by
  obtain ⟨b, hb, ho⟩ := hx
  have hj : ∀ j, j < L.length → b.cs[o + j]? = L[j]? := fun j hj => by have := h j hj; simpa only [rd, hb, Option.bind_some] using this
  have hle : o + L.length ≤ b.cs.length := by
    rcases Nat.eq_zero_or_pos L.length with h0 | h0
    · omega
    · have := hj (L.length - 1) (by omega)
      rw [List.getElem?_eq_getElem (by omega : L.length - 1 < L.length)] at this
      have := (List.getElem?_eq_some_iff.1 this).1
      omega
  simp only [rdN, hb, Option.bind_some]
  rw [if_pos hle]
  congr 1
  apply List.ext_getElem?
  intro j
  by_cases hjl : j < L.length
  · rw [List.getElem?_take, if_pos hjl, List.getElem?_drop]; exact hj j hjl
  · rw [List.getElem?_eq_none (by simp; omega), List.getElem?_eq_none (by omega)]
theorem Rep.cellsI {H : Hp} {a : Option Addr} {n : Nat} {l : List Int} (h : Rep EI 1 H a n l) (hx : Ex H a) : scells H 1 (.slice a n (sg a 1)) = some (vI l) := by
  have hn := h.1
  cases a with
  | none =>
    have : l = [] := by
      cases l with
      | nil => rfl
      | cons x r => obtain ⟨i, o, e, _⟩ := h.2 (by simp); cases e
    subst this
    have hn0 : n = 0 := hn
    subst hn0; rfl
  | some b =>
    obtain ⟨i, o, s⟩ := b
    have hs := (hx _ rfl).1
    simp only at hs
    subst hs
    by_cases h0 : n = 0
    · have : l = [] := List.length_eq_zero_iff.1 (by omega)
      subst this; subst h0; rfl
    rw [scells, if_neg h0]
    simp only [sgs, if_true]
    have := rdN_of (L := vI l) (hx _ rfl).2 (fun j hj => by
      rw [vI_len] at hj
      obtain ⟨i', o', e, h2⟩ := h.2 (by intro e; rw [e] at hj; simp at hj)
      cases e
      have := h2 j _ (getE hj)
      simp only [EI, Nat.mul_one] at this
      rw [this]; simp [vI, hj])
    rw [vI_len, ← hn] at this
    rw [Nat.mul_one]; exact this
/-- Numbers, put behind an empty slice: a copy. -/
theorem cloneI {lo : Nat} {H : Hp} {a : Option Addr} {n : Nat} {l : List Int} (h : Rep EI 1 H a n l) (hx : Ex H a) (hlo : lo ≤ H.length) (hn : n ≤ 1000) :
    ∃ i H2, vappend 1 8 lo (H ++ [some ⟨[], true, true⟩]) (.slice (some ⟨H.length, 0, none⟩) 0 1) (.slice a n (sg a 1)) = some (.slice (some ⟨i, 0, none⟩) n 1, H2) ∧ Fn H H2 ∧ NI H.length H2 i l ∧ i < H2.length ∧ H2.length ≤ H.length + 2 := by
  have hc := (h.fnI (Fr.app (l := [some ⟨[], true, true⟩]))).cellsI (hx.fn Fr.app)
  have hnl := h.1
  have hb : Hp.blk (H ++ [some ⟨[], true, true⟩]) H.length = some ⟨[], true, true⟩ := blk0
  rcases Nat.eq_zero_or_pos n with h0 | h0
  · subst h0
    have : l = [] := List.length_eq_zero_iff.1 hnl.symm
    subst this
    refine ⟨H.length, H ++ [some ⟨[], true, true⟩], ?_, Fr.app, ⟨⟨true, hb, fun _ => rfl⟩, Nat.le_refl _⟩, by simp, by simp⟩
    have hfit : fits (0 + 0) 8 = true := fits_small (by omega)
    simp only [vappend, slen, hc, Option.bind_some, hb]
    rw [if_pos ⟨trivial, trivial, trivial, rfl, rfl, hfit⟩]
    rfl
  · obtain ⟨H2, ha, hb2, hl2, hf2, _⟩ := app_own (st := 1) (by_ := 8) (lo := lo) (i := H.length) (n := 0) (m := n) (L := []) (M := vI l) (y := .slice a n (sg a 1)) hb rfl (fun _ => rfl) hlo rfl hc h0 (fits_small (by omega))
    simp only [List.length_append, List.length_cons, List.length_nil, Nat.zero_add] at ha hb2 hl2
    refine ⟨H.length + 1, H2, ha, hf2 H Fr.app (Nat.le_refl _), ⟨⟨false, hb2, fun e => ?_⟩, by omega⟩, by omega, by omega⟩
    subst e; simp at hnl; omega
theorem NI.rep' {lo : Nat} {H : Hp} {i : Nat} {l : List Int} (h : NI lo H i l) : Rep EI 1 H (some ⟨i, 0, none⟩) l.length l := let ⟨k0, hb, _⟩ := h.b; vI_rep hb rfl
/-- Numbers in new memory, from the head of a block on, or nil. -/
structure FI (H H2 : Hp) (b : Option Addr) (n : Nat) (l : List Int) : Prop where
  f : Fn H H2
  r : Rep EI 1 H2 b n l
  o : ∀ A, b = some A → A.spot = none ∧ A.off = 0 ∧ WB H.length H2 A.block
theorem FI.ex {H H2 : Hp} {b : Option Addr} {n : Nat} {l : List Int} (h : FI H H2 b n l) : Ex H2 b := fun A e => let ⟨h1, h2, _, c, hc, _⟩ := h.o A e; ⟨h1, c, hc, by omega⟩
theorem FI.of {H H2 : Hp} {i : Nat} {l : List Int} (hf : Fn H H2) (h : NI H.length H2 i l) : FI H H2 (some ⟨i, 0, none⟩) l.length l := ⟨hf, h.rep', fun A e => by
  cases e
  obtain ⟨⟨k0, hb, _⟩, hlo⟩ := h
  exact ⟨rfl, rfl, hlo, _, hb, rfl⟩⟩
end Go.Proofs.YtohanpndekfbgaaDoor.V
