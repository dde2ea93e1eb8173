/- A copy of nodes, one behind the other. -/
import Derived.Test.YtmcljallamhccaaVCG
namespace Go.Proofs.Ytmcljallamhccaa.V
open Go
set_option linter.unusedVariables false
set_option linter.unusedSimpArgs false
set_option maxRecDepth 100000
/-- A slice that is nil, or lies in own memory from the head of a block on. -/
def Hd (lo : Nat) (H : Hp) (a : Option Addr) (n st : Nat) (L : List Value) : Prop := (a = none ∧ n = 0 ∧ L = []) ∨ ∃ i k0, a = some ⟨i, 0, none⟩ ∧ H.blk i = some ⟨L, true, k0⟩ ∧ L.length = n * st ∧ (n = 0 → k0 = true) ∧ lo ≤ i
theorem app_hd {st by_ lo : Nat} {H : Hp} {a : Option Addr} {n m : Nat} {L M : List Value} {y : Value} (h : Hd lo H a n st L) (hm : slen y = some m) (hM : scells H st y = some M) (hm0 : 0 < m) (hml : M.length = m * st) (hfit : fits (n + m) by_ = true) (hle : lo ≤ H.length) :
    ∃ H', vappend st by_ lo H (.slice a n (sg a st)) y = some (.slice (some ⟨H.length, 0, none⟩) (n + m) st, H') ∧ H'.length = H.length + 1 ∧ Hd lo H' (some ⟨H.length, 0, none⟩) (n + m) st (L ++ M) ∧ (∀ H0 : Hp, Fn H0 H → H0.length ≤ lo → Fn H0 H') ∧ ∀ j, (∀ o, a ≠ some ⟨j, o, none⟩) → j < H.length → H'.blk j = H.blk j := by
  rcases h with ⟨rfl, rfl, rfl⟩ | ⟨i, k0, rfl, hb, hL, h0, hlo⟩
  · refine ⟨H ++ [some ⟨M, true, false⟩], ?_, by simp, Or.inr ⟨H.length, false, rfl, by rw [blk0]; rfl, by rw [List.nil_append, hml, Nat.zero_add], fun e => by omega, hle⟩, fun H0 hf _ => hf.trans Fr.app, fun j _ hj => blk_old hj⟩
    simp only [vappend, hm, hM, Option.bind_some, if_true]
    rw [if_neg (by omega), if_pos (by rw [Nat.zero_add] at hfit; exact hfit), Nat.zero_add]
  · obtain ⟨H', h1, h2, h3, h4, h5⟩ := app_own (by_ := by_) hb hL h0 hlo hm hM hm0 hfit
    exact ⟨H', h1, h3, Or.inr ⟨H.length, false, rfl, h2, by rw [List.length_append, hL, hml, Nat.add_mul], fun e => by omega, hle⟩, fun H0 hf hl => h4 H0 hf (Nat.le_trans hl hlo), fun j hj hl => h5 j (fun e => hj 0 (by rw [e])) hl⟩
/-- A node's cells. -/
def nV (x : Nd) (a : Option Addr) : List Value := [.int .i64 x.r, .bool x.f, .slice a x.k.length (sg a 1)]
def vP (ps : List (Nd × Option Addr)) : List Value := (ps.map fun p => nV p.1 p.2).flatten
theorem vP_len (ps : List (Nd × Option Addr)) : (vP ps).length = ps.length * 3 := by
  induction ps with
  | nil => rfl
  | cons p r ih => simp only [vP, List.map_cons, List.flatten_cons, List.length_append] at ih ⊢; rw [ih]; simp [nV, Nat.add_mul]; omega
theorem vP_app (ps qs : List (Nd × Option Addr)) : vP (ps ++ qs) = vP ps ++ vP qs := by simp [vP]
theorem vP_at : ∀ (ps : List (Nd × Option Addr)) (j : Nat) (p : Nd × Option Addr), ps[j]? = some p → ∀ k, k < 3 → (vP ps)[j * 3 + k]? = (nV p.1 p.2)[k]?
  | [], j, p, h, k, hk => by simp at h
  | q :: r, 0, p, h, k, hk => by
    simp only [List.getElem?_cons_zero, Option.some.injEq] at h; subst h
    simp only [vP, List.map_cons, List.flatten_cons, Nat.zero_mul, Nat.zero_add]
    rw [List.getElem?_append_left (by simp [nV]; omega)]
  | q :: r, j + 1, p, h, k, hk => by
    have := vP_at r j p (by simpa using h) k hk
    have e : vP (q :: r) = nV q.1 q.2 ++ vP r := rfl
    have l3 : (nV q.1 q.2).length = 3 := rfl
    rw [e, List.getElem?_append_right (by rw [l3]; omega), l3, show (j + 1) * 3 + k - 3 = j * 3 + k by omega]
    exact this
/-- Nodes in new memory, as they are put one behind the other. -/
structure CP (lo : Nat) (H : Hp) (a : Option Addr) (ps : List (Nd × Option Addr)) : Prop where
  hd : Hd lo H a ps.length 3 (vP ps)
  k : ∀ (j : Nat) (p : Nd × Option Addr), ps[j]? = some p → Rep EI 1 H p.2 p.1.k.length p.1.k ∧ ∀ A, p.2 = some A → A.spot = none ∧ A.off = 0 ∧ WB lo H A.block ∧ ∀ o, a ≠ some ⟨A.block, o, none⟩
  ne : ∀ (j j' : Nat) (p p' : Nd × Option Addr), ps[j]? = some p → ps[j']? = some p' → j ≠ j' → ∀ A B, p.2 = some A → p'.2 = some B → A.block ≠ B.block
theorem CP.nil (lo : Nat) (H : Hp) : CP lo H none [] := ⟨Or.inl ⟨rfl, rfl, rfl⟩, fun j p h => by simp at h, fun j j' p p' h => by simp at h⟩
theorem Rep.blkI {H H' : Hp} {a : Option Addr} {n : Nat} {l : List Int} (h : Rep EI 1 H a n l) (hb : ∀ i, Ad a i → H'.blk i = H.blk i) : Rep EI 1 H' a n l :=
  ⟨h.1, fun hl => let ⟨i, o, ha, h2⟩ := h.2 hl; ⟨i, o, ha, fun j x hx => by
    have := h2 j x hx
    simp only [EI, rd] at this ⊢
    rw [hb i ⟨o, ha⟩]; exact this⟩⟩
theorem CP.fn {lo : Nat} {H H' : Hp} {a : Option Addr} {ps : List (Nd × Option Addr)} (h : CP lo H a ps) (hf : Fn H H') : CP lo H' a ps := by
  refine ⟨?_, fun j p hp => ?_, h.ne⟩
  · rcases h.hd with h1 | ⟨i, k0, h1, h2, h3, h4, h5⟩
    · exact Or.inl h1
    · exact Or.inr ⟨i, k0, h1, (hf.blk i (blk_lt h2) id).trans h2, h3, h4, h5⟩
  · obtain ⟨h1, h2⟩ := h.k j p hp
    exact ⟨h1.fnI hf, fun A e => let ⟨u, v, w, z⟩ := h2 A e; ⟨u, v, w.fn _ hf, z⟩⟩
theorem CP.app {lo by_ : Nat} {H : Hp} {a : Option Addr} {ps : List (Nd × Option Addr)} (h : CP lo H a ps) {x : Nd} {b : Option Addr} {y : Value} (hr : Rep EI 1 H b x.k.length x.k)
    (hb : ∀ A, b = some A → A.spot = none ∧ A.off = 0 ∧ WB lo H A.block ∧ (∀ o, a ≠ some ⟨A.block, o, none⟩) ∧ ∀ (j : Nat) p, ps[j]? = some p → ∀ B, p.2 = some B → B.block ≠ A.block)
    (hm : slen y = some 1) (hM : scells H 3 y = some (nV x b)) (hfit : fits (ps.length + 1) by_ = true) (hle : lo ≤ H.length) :
    ∃ H', vappend 3 by_ lo H (.slice a ps.length (sg a 3)) y = some (.slice (some ⟨H.length, 0, none⟩) (ps.length + 1) 3, H') ∧ H'.length = H.length + 1 ∧ CP lo H' (some ⟨H.length, 0, none⟩) (ps ++ [(x, b)]) ∧ (∀ H0 : Hp, Fn H0 H → H0.length ≤ lo → Fn H0 H') ∧ ∀ j, (∀ o, a ≠ some ⟨j, o, none⟩) → j < H.length → H'.blk j = H.blk j := by
  obtain ⟨H', h1, h2, h3, h4, h5⟩ := app_hd (by_ := by_) h.hd hm hM (by omega) (by simp [nV]) hfit hle
  have hwb : ∀ i, WB lo H i → (∀ o, a ≠ some ⟨i, o, none⟩) → WB lo H' i ∧ i ≠ H.length := fun i ⟨w1, c, w2, w3⟩ hn => ⟨⟨w1, c, (h5 i hn (blk_lt w2)).trans w2, w3⟩, by have := blk_lt w2; omega⟩
  refine ⟨H', h1, h2, ⟨?_, fun j p hp => ?_, fun j j' p p' hp hp' hne A B hA hB => ?_⟩, h4, h5⟩
  · have e : vP (ps ++ [(x, b)]) = vP ps ++ nV x b := by rw [vP_app]; simp [vP]
    rw [e, List.length_append]; exact h3
  · have key : ∀ (q : Nd × Option Addr), Rep EI 1 H q.2 q.1.k.length q.1.k → (∀ A, q.2 = some A → A.spot = none ∧ A.off = 0 ∧ WB lo H A.block ∧ ∀ o, a ≠ some ⟨A.block, o, none⟩) → Rep EI 1 H' q.2 q.1.k.length q.1.k ∧ ∀ A, q.2 = some A → A.spot = none ∧ A.off = 0 ∧ WB lo H' A.block ∧ ∀ o, (some ⟨H.length, 0, none⟩ : Option Addr) ≠ some ⟨A.block, o, none⟩ := by
      intro q q1 q2
      refine ⟨q1.blkI fun i ⟨o, e⟩ => ?_, fun A e => ?_⟩
      · obtain ⟨_, _, w, z⟩ := q2 _ e
        obtain ⟨_, c, w2, _⟩ := w
        exact h5 i z (blk_lt w2)
      · obtain ⟨u, v, w, z⟩ := q2 A e
        obtain ⟨w', hn⟩ := hwb _ w z
        exact ⟨u, v, w', fun o e2 => by simp only [Option.some.injEq, Addr.mk.injEq] at e2; exact hn e2.1.symm⟩
    by_cases hj : j < ps.length
    · rw [List.getElem?_append_left hj] at hp
      obtain ⟨q1, q2⟩ := h.k j p hp
      exact key p q1 q2
    · rw [List.getElem?_append_right (by omega)] at hp
      have hj0 : j - ps.length = 0 := by
        have := (List.getElem?_eq_some_iff.1 hp).1
        simpa using this
      rw [hj0] at hp
      simp only [List.getElem?_cons_zero, Option.some.injEq] at hp
      subst hp
      exact key (x, b) hr fun A e => let ⟨u, v, w, z, _⟩ := hb A e; ⟨u, v, w, z⟩
  · by_cases hj : j < ps.length <;> by_cases hj' : j' < ps.length
    · rw [List.getElem?_append_left hj] at hp
      rw [List.getElem?_append_left hj'] at hp'
      exact h.ne j j' p p' hp hp' hne A B hA hB
    · rw [List.getElem?_append_left hj] at hp
      rw [List.getElem?_append_right (by omega)] at hp'
      have hj0 : j' - ps.length = 0 := by have := (List.getElem?_eq_some_iff.1 hp').1; simpa using this
      rw [hj0] at hp'
      simp only [List.getElem?_cons_zero, Option.some.injEq] at hp'
      subst hp'
      exact (hb B hB).2.2.2.2 j p hp A hA
    · rw [List.getElem?_append_left hj'] at hp'
      rw [List.getElem?_append_right (by omega)] at hp
      have hj0 : j - ps.length = 0 := by have := (List.getElem?_eq_some_iff.1 hp).1; simpa using this
      rw [hj0] at hp
      simp only [List.getElem?_cons_zero, Option.some.injEq] at hp
      subst hp
      exact fun e => (hb A hA).2.2.2.2 j' p' hp' B hB e.symm
    · have hj0 := (List.getElem?_eq_some_iff.1 hp).1
      have hj1 := (List.getElem?_eq_some_iff.1 hp').1
      simp at hj0 hj1; omega
end Go.Proofs.Ytmcljallamhccaa.V
