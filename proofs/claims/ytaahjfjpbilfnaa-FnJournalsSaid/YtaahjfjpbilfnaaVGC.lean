/- Slices that grow: numbers, rows of numbers. -/
import Derived.Test.YtaahjfjpbilfnaaVGB
namespace Go.Proofs.Ytaahjfjpbilfnaa.V
open Go
set_option linter.unusedVariables false
set_option linter.unusedSimpArgs false
set_option maxRecDepth 100000
/-- Old memory stays, though a new block dies. -/
theorem Fn.kill {H H1 : Hp} (hf : Fn H H1) {i : Nat} (hi : H.length ≤ i) (l : List (Option Blk)) : Fn H (H1.set i none ++ l) := by
  have key : ∀ j, j < H.length → Hp.blk (H1.set i none ++ l) j = H1.blk j := fun j hj => by
    have := hf.len
    unfold Hp.blk
    rw [List.getElem?_append_left (by simp; omega), List.getElem?_set, if_neg (by omega)]
  refine ⟨by have := hf.len; simp; omega, fun j hj _ => (key j hj).trans (hf.blk j hj id), fun lo j ⟨h1, b, h2, h3⟩ => ⟨h1, b, ?_, h3⟩⟩
  rw [key j (blk_lt h2), hf.blk j (blk_lt h2) id]; exact h2
theorem app_own {st by_ lo : Nat} {H : Hp} {i n m : Nat} {L M : List Value} {k0 : Bool} {y : Value} (hb : H.blk i = some ⟨L, true, k0⟩) (hL : L.length = n * st) (h0 : n = 0 → k0 = true) (hlo : lo ≤ i) (hm : slen y = some m) (hM : scells H st y = some M) (hm0 : 0 < m) (hfit : fits (n + m) by_ = true) :
    ∃ H', vappend st by_ lo H (.slice (some ⟨i, 0, none⟩) n st) y = some (.slice (some ⟨H.length, 0, none⟩) (n + m) st, H') ∧ H'.blk H.length = some ⟨L ++ M, true, false⟩ ∧ H'.length = H.length + 1 ∧ (∀ H0 : Hp, Fn H0 H → H0.length ≤ i → Fn H0 H') ∧ ∀ j, j ≠ i → j < H.length → H'.blk j = H.blk j := by
  have hi := blk_lt hb
  have happ : Blk.app ⟨L, true, k0⟩ n = true := by
    unfold Blk.app
    by_cases hn : n = 0
    · rw [if_pos hn]; exact h0 hn
    · rw [if_neg hn]
  by_cases hn : n = 0
  · subst hn
    have hL0 : L = [] := List.length_eq_zero_iff.1 (by rw [hL, Nat.zero_mul])
    subst hL0
    refine ⟨H ++ [some ⟨M, true, false⟩], ?_, by rw [blk0]; rfl, by simp, fun H0 hf _ => hf.trans Fr.app, fun j _ hj => blk_old hj⟩
    simp only [vappend, hm, hM, Option.bind_some, hb]
    rw [if_pos ⟨trivial, trivial, trivial, by simp, happ, hfit⟩, if_neg (by omega), if_true, Nat.zero_add]
  · refine ⟨H.set i none ++ [some ⟨L ++ M, true, false⟩], ?_, ?_, by simp, fun H0 hf h => Fn.kill hf h _, fun j hj hjl => ?_⟩
    · simp only [vappend, hm, hM, Option.bind_some, hb]
      rw [if_pos ⟨trivial, trivial, trivial, hL, happ, hfit⟩, if_neg (by omega), if_neg hn, if_pos hlo]
    · unfold Hp.blk
      rw [List.getElem?_append_right (by simp)]; simp
    · unfold Hp.blk
      rw [List.getElem?_append_left (by simp; exact hjl), List.getElem?_set, if_neg (fun e => hj e.symm)]
theorem fits_small {n b : Nat} (h : n ≤ 1000 ∧ b ≤ 40) : fits n b = true := by
  have h1 : (n + n / 4 + 192) * b ≤ 1442 * 40 := Nat.mul_le_mul (by omega) h.2
  unfold fits maxLen
  rw [Bool.and_eq_true, decide_eq_true_eq, decide_eq_true_eq]
  exact ⟨Nat.le_trans h.1 (by decide), Nat.le_trans h1 (by decide)⟩
theorem vI_app (a b : List Int) : vI a ++ vI b = vI (a ++ b) := by simp [vI]
theorem vI_len (a : List Int) : (vI a).length = a.length := by simp [vI]
/-- Numbers in own memory. -/
structure NI (lo : Nat) (H : Hp) (i : Nat) (l : List Int) : Prop where
  b : ∃ k0, H.blk i = some ⟨vI l, true, k0⟩ ∧ (l = [] → k0 = true)
  lo : lo ≤ i
/-- The block is there. -/
def Ex (H : Hp) (a : Option Addr) : Prop := ∀ A, a = some A → A.spot = none ∧ ∃ b, H.blk A.block = some b ∧ A.off ≤ b.cs.length
theorem Ex.fn {H H' : Hp} {a : Option Addr} (h : Ex H a) (hf : Fn H H') : Ex H' a := fun A e => let ⟨hs, b, hb, hl⟩ := h A e; ⟨hs, b, (hf.blk _ (blk_lt hb) id).trans hb, hl⟩
theorem rdN_of {H : Hp} {i o : Nat} {L : List Value} (hx : ∃ b, H.blk i = some b ∧ o ≤ b.cs.length) (h : ∀ j, j < L.length → rd H ⟨i, o + j, none⟩ = L[j]?) : rdN H ⟨i, o, none⟩ L.length = some L := by
  obtain ⟨b, hb, ho⟩ := hx
  have hj : ∀ j, j < L.length → b.cs[o + j]? = L[j]? := fun j hj => by have := h j hj; simpa only [rd, hb, Option.bind_some] using this
  have hle : o + L.length ≤ b.cs.length := by
    rcases Nat.eq_zero_or_pos L.length with h0 | h0
    · omega
    · have := hj (L.length - 1) (by omega)
      rw [List.getElem?_eq_getElem (by omega : L.length - 1 < L.length)] at this
      have := (List.getElem?_eq_some_iff.1 this).1
      omega
  simp only [rdN, hb, Option.bind_some]
  rw [if_pos hle]
  congr 1
  apply List.ext_getElem?
  intro j
  by_cases hjl : j < L.length
  · rw [List.getElem?_take, if_pos hjl, List.getElem?_drop]; exact hj j hjl
  · rw [List.getElem?_eq_none (by simp; omega), List.getElem?_eq_none (by omega)]
theorem Rep.cellsI {H : Hp} {a : Option Addr} {n : Nat} {l : List Int} (h : Rep EI 1 H a n l) (hx : Ex H a) : scells H 1 (.slice a n (sg a 1)) = some (vI l) := by
  have hn := h.1
  cases a with
  | none =>
    have : l = [] := by
      cases l with
      | nil => rfl
      | cons x r => obtain ⟨i, o, e, _⟩ := h.2 (by simp); cases e
    subst this
    have hn0 : n = 0 := hn
    subst hn0; rfl
  | some b =>
    obtain ⟨i, o, s⟩ := b
    have hs := (hx _ rfl).1
    simp only at hs
    subst hs
    by_cases h0 : n = 0
    · have : l = [] := List.length_eq_zero_iff.1 (by omega)
      subst this; subst h0; rfl
    rw [scells, if_neg h0]
    simp only [sgs, if_true]
    have := rdN_of (L := vI l) (hx _ rfl).2 (fun j hj => by
      rw [vI_len] at hj
      obtain ⟨i', o', e, h2⟩ := h.2 (by intro e; rw [e] at hj; simp at hj)
      cases e
      have := h2 j _ (getE hj)
      simp only [EI, Nat.mul_one] at this
      rw [this]; simp [vI, hj])
    rw [vI_len, ← hn] at this
    rw [Nat.mul_one]; exact this
/-- Numbers, put behind an empty slice: a copy. -/
theorem cloneI {lo : Nat} {H : Hp} {a : Option Addr} {n : Nat} {l : List Int} (h : Rep EI 1 H a n l) (hx : Ex H a) (hlo : lo ≤ H.length) (hn : n ≤ 1000) :
    ∃ i H2, vappend 1 8 lo (H ++ [some ⟨[], true, true⟩]) (.slice (some ⟨H.length, 0, none⟩) 0 1) (.slice a n (sg a 1)) = some (.slice (some ⟨i, 0, none⟩) n 1, H2) ∧ Fn H H2 ∧ NI H.length H2 i l ∧ i < H2.length ∧ H2.length ≤ H.length + 2 := by
  have hc := (h.fnI (Fr.app (l := [some ⟨[], true, true⟩]))).cellsI (hx.fn Fr.app)
  have hnl := h.1
  have hb : Hp.blk (H ++ [some ⟨[], true, true⟩]) H.length = some ⟨[], true, true⟩ := blk0
  rcases Nat.eq_zero_or_pos n with h0 | h0
  · subst h0
    have : l = [] := List.length_eq_zero_iff.1 hnl.symm
    subst this
    refine ⟨H.length, H ++ [some ⟨[], true, true⟩], ?_, Fr.app, ⟨⟨true, hb, fun _ => rfl⟩, Nat.le_refl _⟩, by simp, by simp⟩
    have hfit : fits (0 + 0) 8 = true := fits_small (by omega)
    simp only [vappend, slen, hc, Option.bind_some, hb]
    rw [if_pos ⟨trivial, trivial, trivial, rfl, rfl, hfit⟩]
    rfl
  · obtain ⟨H2, ha, hb2, hl2, hf2, _⟩ := app_own (st := 1) (by_ := 8) (lo := lo) (i := H.length) (n := 0) (m := n) (L := []) (M := vI l) (y := .slice a n (sg a 1)) hb rfl (fun _ => rfl) hlo rfl hc h0 (fits_small (by omega))
    simp only [List.length_append, List.length_cons, List.length_nil, Nat.zero_add] at ha hb2 hl2
    refine ⟨H.length + 1, H2, ha, hf2 H Fr.app (Nat.le_refl _), ⟨⟨false, hb2, fun e => ?_⟩, by omega⟩, by omega, by omega⟩
    subst e; simp at hnl; omega
theorem NI.rep' {lo : Nat} {H : Hp} {i : Nat} {l : List Int} (h : NI lo H i l) : Rep EI 1 H (some ⟨i, 0, none⟩) l.length l := let ⟨k0, hb, _⟩ := h.b; vI_rep hb rfl
/-- Numbers in new memory, from the head of a block on, or nil. -/
structure FI (H H2 : Hp) (b : Option Addr) (n : Nat) (l : List Int) : Prop where
  f : Fn H H2
  r : Rep EI 1 H2 b n l
  o : ∀ A, b = some A → A.spot = none ∧ A.off = 0 ∧ WB H.length H2 A.block
theorem FI.ex {H H2 : Hp} {b : Option Addr} {n : Nat} {l : List Int} (h : FI H H2 b n l) : Ex H2 b := fun A e => let ⟨h1, h2, _, c, hc, _⟩ := h.o A e; ⟨h1, c, hc, by omega⟩
theorem FI.of {H H2 : Hp} {i : Nat} {l : List Int} (hf : Fn H H2) (h : NI H.length H2 i l) : FI H H2 (some ⟨i, 0, none⟩) l.length l := ⟨hf, h.rep', fun A e => by
  cases e
  obtain ⟨⟨k0, hb, _⟩, hlo⟩ := h
  exact ⟨rfl, rfl, hlo, _, hb, rfl⟩⟩
theorem cloneInts_c (d lo : Nat) (H : Hp) {a : Option Addr} {n : Nat} {l : List Int} (h : Rep EI 1 H a n l) (hx : Ex H a) (hn : n ≤ 1000) :
    ∃ b H2, vcall env (d + 1) 111 [.slice a n (sg a 1)] lo H = some (.slice b n (sg b 1), H2) ∧ FI H H2 b n l := by
  rw [call_eq find111 _ _ _ rfl]
  cases a with
  | none =>
    have hl : l = [] := by
      cases l with
      | nil => rfl
      | cons x r => obtain ⟨i, o, e, _⟩ := h.2 (by simp); cases e
    subst hl
    have hn0 : n = 0 := h.1
    subst hn0
    exact ⟨none, H, by simp -implicitDefEqProofs only [v111, VMs, noRef, noRef1, isRef, List.all_cons, List.all_nil, vop, VOp.still, VOp.app, VOp.plain, allP, lof, evs, start, asI, vbin, vcells, ntup, setAll, vfill, vress, vres, tup, Nat.reduceEqDiff, ↓reduceIte, Nat.reduceAdd, Nat.reduceMul, Nat.reduceLeDiff, reduceCtorEq], Fr.refl, Rep.nil, fun A e => by cases e⟩
  | some A =>
    obtain ⟨i, H2, ha, hf, hni, _, _⟩ := cloneI (lo := H.length) h hx (Nat.le_refl _) hn
    have hnl := h.1
    simp only [sgs] at ha
    refine ⟨some ⟨i, 0, none⟩, H2, by simp -implicitDefEqProofs only [v111, VMs, noRef, noRef1, isRef, List.all_cons, List.all_nil, vop, VOp.still, VOp.app, VOp.plain, allP, lof, evs, start, asI, vbin, vcells, ntup, setAll, vfill, vress, vres, tup, Nat.reduceEqDiff, ↓reduceIte, Nat.reduceAdd, Nat.reduceMul, Nat.reduceLeDiff, reduceCtorEq, beq_self_eq_true, ha], ?_⟩
    rw [hnl]; exact FI.of hf hni
/-- A slice that is nil, or lies in own memory from the head of a block on. -/
def Hd (lo : Nat) (H : Hp) (a : Option Addr) (n st : Nat) (L : List Value) : Prop := (a = none ∧ n = 0 ∧ L = []) ∨ ∃ i k0, a = some ⟨i, 0, none⟩ ∧ H.blk i = some ⟨L, true, k0⟩ ∧ L.length = n * st ∧ (n = 0 → k0 = true) ∧ lo ≤ i
theorem app_hd {st by_ lo : Nat} {H : Hp} {a : Option Addr} {n m : Nat} {L M : List Value} {y : Value} (h : Hd lo H a n st L) (hm : slen y = some m) (hM : scells H st y = some M) (hm0 : 0 < m) (hml : M.length = m * st) (hfit : fits (n + m) by_ = true) (hle : lo ≤ H.length) :
    ∃ H', vappend st by_ lo H (.slice a n (sg a st)) y = some (.slice (some ⟨H.length, 0, none⟩) (n + m) st, H') ∧ H'.length = H.length + 1 ∧ Hd lo H' (some ⟨H.length, 0, none⟩) (n + m) st (L ++ M) ∧ (∀ H0 : Hp, Fn H0 H → H0.length ≤ lo → Fn H0 H') ∧ ∀ j, (∀ o, a ≠ some ⟨j, o, none⟩) → j < H.length → H'.blk j = H.blk j := by
  rcases h with ⟨rfl, rfl, rfl⟩ | ⟨i, k0, rfl, hb, hL, h0, hlo⟩
  · refine ⟨H ++ [some ⟨M, true, false⟩], ?_, by simp, Or.inr ⟨H.length, false, rfl, by rw [blk0]; rfl, by rw [List.nil_append, hml, Nat.zero_add], fun e => by omega, hle⟩, fun H0 hf _ => hf.trans Fr.app, fun j _ hj => blk_old hj⟩
    simp only [vappend, hm, hM, Option.bind_some, if_true]
    rw [if_neg (by omega), if_pos (by rw [Nat.zero_add] at hfit; exact hfit), Nat.zero_add]
  · obtain ⟨H', h1, h2, h3, h4, h5⟩ := app_own (by_ := by_) hb hL h0 hlo hm hM hm0 hfit
    exact ⟨H', h1, h3, Or.inr ⟨H.length, false, rfl, h2, by rw [List.length_append, hL, hml, Nat.add_mul], fun e => by omega, hle⟩, fun H0 hf hl => h4 H0 hf (Nat.le_trans hl hlo), fun j hj hl => h5 j (fun e => hj 0 (by rw [e])) hl⟩
theorem Rep.blkI {H H' : Hp} {a : Option Addr} {n : Nat} {l : List Int} (h : Rep EI 1 H a n l) (hb : ∀ i, Ad a i → H'.blk i = H.blk i) : Rep EI 1 H' a n l :=
  ⟨h.1, fun hl => let ⟨i, o, ha, h2⟩ := h.2 hl; ⟨i, o, ha, fun j x hx => by
    have := h2 j x hx
    simp only [EI, rd] at this ⊢
    rw [hb i ⟨o, ha⟩]; exact this⟩⟩
/-! ### Rows -/
def rV (p : List Int × Option Addr) : Value := .slice p.2 p.1.length (sg p.2 1)
def vR (ps : List (List Int × Option Addr)) : List Value := ps.map rV
theorem vR_len (ps : List (List Int × Option Addr)) : (vR ps).length = ps.length := by simp [vR]
theorem vR_at {ps : List (List Int × Option Addr)} {j : Nat} {p : List Int × Option Addr} (h : ps[j]? = some p) : (vR ps)[j]? = some (rV p) := by simp [vR, h]
/-- Rows in new memory, as they are put one behind the other. -/
structure RQ (lo : Nat) (H : Hp) (a : Option Addr) (ps : List (List Int × Option Addr)) : Prop where
  hd : Hd lo H a ps.length 1 (vR ps)
  k : ∀ (j : Nat) (p : List Int × Option Addr), ps[j]? = some p → Rep EI 1 H p.2 p.1.length p.1 ∧ ∀ A, p.2 = some A → A.spot = none ∧ A.off = 0 ∧ WB lo H A.block ∧ ∀ o, a ≠ some ⟨A.block, o, none⟩
  ne : ∀ (j j' : Nat) (p p' : List Int × Option Addr), ps[j]? = some p → ps[j']? = some p' → j ≠ j' → ∀ A B, p.2 = some A → p'.2 = some B → A.block ≠ B.block
theorem RQ.nil (lo : Nat) (H : Hp) : RQ lo H none [] := ⟨Or.inl ⟨rfl, rfl, rfl⟩, fun j p h => by simp at h, fun j j' p p' h => by simp at h⟩
theorem RQ.new {lo i : Nat} {H : Hp} (hb : H.blk i = some ⟨[], true, true⟩) (hlo : lo ≤ i) : RQ lo H (some ⟨i, 0, none⟩) [] := ⟨Or.inr ⟨i, true, rfl, hb, rfl, fun _ => rfl, hlo⟩, fun j p h => by simp at h, fun j j' p p' h => by simp at h⟩
theorem RQ.fn {lo : Nat} {H H' : Hp} {a : Option Addr} {ps : List (List Int × Option Addr)} (h : RQ lo H a ps) (hf : Fn H H') : RQ lo H' a ps := by
  refine ⟨?_, fun j p hp => ?_, h.ne⟩
  · rcases h.hd with h1 | ⟨i, k0, h1, h2, h3, h4, h5⟩
    · exact Or.inl h1
    · exact Or.inr ⟨i, k0, h1, (hf.blk i (blk_lt h2) id).trans h2, h3, h4, h5⟩
  · obtain ⟨h1, h2⟩ := h.k j p hp
    exact ⟨h1.fnI hf, fun A e => let ⟨u, v, w, z⟩ := h2 A e; ⟨u, v, w.fn _ hf, z⟩⟩
theorem RQ.app {lo by_ : Nat} {H : Hp} {a : Option Addr} {ps : List (List Int × Option Addr)} (h : RQ lo H a ps) {x : List Int} {b : Option Addr} {y : Value} (hr : Rep EI 1 H b x.length x)
    (hb : ∀ A, b = some A → A.spot = none ∧ A.off = 0 ∧ WB lo H A.block ∧ (∀ o, a ≠ some ⟨A.block, o, none⟩) ∧ ∀ (j : Nat) p, ps[j]? = some p → ∀ B, p.2 = some B → B.block ≠ A.block)
    (hm : slen y = some 1) (hM : scells H 1 y = some [rV (x, b)]) (hfit : fits (ps.length + 1) by_ = true) (hle : lo ≤ H.length) :
    ∃ H', vappend 1 by_ lo H (.slice a ps.length (sg a 1)) y = some (.slice (some ⟨H.length, 0, none⟩) (ps.length + 1) 1, H') ∧ H'.length = H.length + 1 ∧ RQ lo H' (some ⟨H.length, 0, none⟩) (ps ++ [(x, b)]) ∧ (∀ H0 : Hp, Fn H0 H → H0.length ≤ lo → Fn H0 H') ∧ ∀ j, (∀ o, a ≠ some ⟨j, o, none⟩) → j < H.length → H'.blk j = H.blk j := by
  obtain ⟨H', h1, h2, h3, h4, h5⟩ := app_hd (by_ := by_) h.hd hm hM (by omega) (by simp) hfit hle
  have hwb : ∀ i, WB lo H i → (∀ o, a ≠ some ⟨i, o, none⟩) → WB lo H' i ∧ i ≠ H.length := fun i ⟨w1, c, w2, w3⟩ hn => ⟨⟨w1, c, (h5 i hn (blk_lt w2)).trans w2, w3⟩, by have := blk_lt w2; omega⟩
  refine ⟨H', h1, h2, ⟨?_, fun j p hp => ?_, fun j j' p p' hp hp' hne A B hA hB => ?_⟩, h4, h5⟩
  · have e : vR (ps ++ [(x, b)]) = vR ps ++ [rV (x, b)] := by simp [vR]
    rw [e, List.length_append]; exact h3
  · have key : ∀ (q : List Int × Option Addr), Rep EI 1 H q.2 q.1.length q.1 → (∀ A, q.2 = some A → A.spot = none ∧ A.off = 0 ∧ WB lo H A.block ∧ ∀ o, a ≠ some ⟨A.block, o, none⟩) → Rep EI 1 H' q.2 q.1.length q.1 ∧ ∀ A, q.2 = some A → A.spot = none ∧ A.off = 0 ∧ WB lo H' A.block ∧ ∀ o, (some ⟨H.length, 0, none⟩ : Option Addr) ≠ some ⟨A.block, o, none⟩ := by
      intro q q1 q2
      refine ⟨q1.blkI fun i ⟨o, e⟩ => ?_, fun A e => ?_⟩
      · obtain ⟨_, _, w, z⟩ := q2 _ e
        obtain ⟨_, c, w2, _⟩ := w
        exact h5 i z (blk_lt w2)
      · obtain ⟨u, v, w, z⟩ := q2 A e
        obtain ⟨w', hn⟩ := hwb _ w z
        exact ⟨u, v, w', fun o e2 => by simp only [Option.some.injEq, Addr.mk.injEq] at e2; exact hn e2.1.symm⟩
    by_cases hj : j < ps.length
    · rw [List.getElem?_append_left hj] at hp
      obtain ⟨q1, q2⟩ := h.k j p hp
      exact key p q1 q2
    · rw [List.getElem?_append_right (by omega)] at hp
      have hj0 : j - ps.length = 0 := by
        have := (List.getElem?_eq_some_iff.1 hp).1
        simpa using this
      rw [hj0] at hp
      simp only [List.getElem?_cons_zero, Option.some.injEq] at hp
      subst hp
      exact key (x, b) hr fun A e => let ⟨u, v, w, z, _⟩ := hb A e; ⟨u, v, w, z⟩
  · by_cases hj : j < ps.length <;> by_cases hj' : j' < ps.length
    · rw [List.getElem?_append_left hj] at hp
      rw [List.getElem?_append_left hj'] at hp'
      exact h.ne j j' p p' hp hp' hne A B hA hB
    · rw [List.getElem?_append_left hj] at hp
      rw [List.getElem?_append_right (by omega)] at hp'
      have hj0 : j' - ps.length = 0 := by have := (List.getElem?_eq_some_iff.1 hp').1; simpa using this
      rw [hj0] at hp'
      simp only [List.getElem?_cons_zero, Option.some.injEq] at hp'
      subst hp'
      exact (hb B hB).2.2.2.2 j p hp A hA
    · rw [List.getElem?_append_left hj'] at hp'
      rw [List.getElem?_append_right (by omega)] at hp
      have hj0 : j - ps.length = 0 := by have := (List.getElem?_eq_some_iff.1 hp).1; simpa using this
      rw [hj0] at hp
      simp only [List.getElem?_cons_zero, Option.some.injEq] at hp
      subst hp
      exact fun e => (hb A hA).2.2.2.2 j' p' hp' B hB e.symm
    · have hj0 := (List.getElem?_eq_some_iff.1 hp).1
      have hj1 := (List.getElem?_eq_some_iff.1 hp').1
      simp at hj0 hj1; omega
end Go.Proofs.Ytaahjfjpbilfnaa.V
