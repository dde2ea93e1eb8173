/- Forests that are written: what they are in memory, and single writes. -/
import Derived.Test.YtmcljallamhccaaVCH
namespace Go.Proofs.Ytmcljallamhccaa.V
open Go
set_option linter.unusedVariables false
set_option linter.unusedSimpArgs false
set_option maxRecDepth 100000
/-- What is not in S is as before; a block of S may even be gone. -/
structure Fw (S : Nat → Prop) (H H' : Hp) : Prop where
  len : H.length ≤ H'.length
  blk : ∀ i, i < H.length → ¬ S i → H'.blk i = H.blk i
theorem Fr.w {S : Nat → Prop} {H H' : Hp} (h : Fr S H H') : Fw S H H' := ⟨h.len, h.blk⟩
theorem Fw.refl {S : Nat → Prop} {H : Hp} : Fw S H H := Fr.refl.w
theorem Fw.mono {S T : Nat → Prop} {H H' : Hp} (h : Fw S H H') (hst : ∀ i, S i → T i) : Fw T H H' := ⟨h.len, fun i hi ht => h.blk i hi fun hs => ht (hst i hs)⟩
theorem Fw.trans {S : Nat → Prop} {H H' H'' : Hp} (h : Fw S H H') (h' : Fw S H' H'') : Fw S H H'' :=
  ⟨Nat.le_trans h.len h'.len, fun i hi hs => (h'.blk i (Nat.lt_of_lt_of_le hi h.len) hs).trans (h.blk i hi hs)⟩
/-- Behind a step that may turn S, one that turns what S covers or what is new. -/
theorem Fw.then {S T : Nat → Prop} {H H' H'' : Hp} (h : Fw S H H') (h' : Fw T H' H'') (hT : ∀ i, T i → i < H.length → S i) : Fw S H H'' :=
  ⟨Nat.le_trans h.len h'.len, fun i hi hs => (h'.blk i (Nat.lt_of_lt_of_le hi h.len) fun ht => hs (hT i ht hi)).trans (h.blk i hi hs)⟩
theorem Fw.rd {S : Nat → Prop} {H H' : Hp} (h : Fw S H H') (i o : Nat) (hi : i < H.length) (hs : ¬ S i) : V.rd H' ⟨i, o, none⟩ = V.rd H ⟨i, o, none⟩ := by simp only [V.rd, h.blk i hi hs]
theorem Fw.rdN {S : Nat → Prop} {H H' : Hp} (h : Fw S H H') (i o n : Nat) (hi : i < H.length) (hs : ¬ S i) : V.rdN H' ⟨i, o, none⟩ n = V.rdN H ⟨i, o, none⟩ n := by simp only [V.rdN, h.blk i hi hs]
theorem Fw.fn {S : Nat → Prop} {H0 H H' : Hp} (h : Fw S H H') (h0 : Fn H0 H) (hS : ∀ i, S i → H0.length ≤ i) : Fn H0 H' :=
  have key : ∀ i, i < H0.length → H'.blk i = H0.blk i := fun i hi => (h.blk i (Nat.lt_of_lt_of_le hi h0.len) fun hs => by have := hS i hs; omega).trans (h0.blk i hi id)
  ⟨Nat.le_trans h0.len h.len, fun i hi _ => key i hi, fun lo i ⟨h1, b, h2, h3⟩ => ⟨h1, b, (key i (blk_lt h2)).trans h2, h3⟩⟩
theorem Fw.wb {S : Nat → Prop} {H H' : Hp} (h : Fw S H H') {lo i : Nat} (hw : WB lo H i) (hs : ¬ S i) : WB lo H' i := let ⟨h1, b, h2, h3⟩ := hw; ⟨h1, b, (h.blk i (blk_lt h2) hs).trans h2, h3⟩
theorem Rep.lt {α : Type} {E : Hp → Nat → Nat → α → Prop} {st : Nat} {H : Hp} {a : Option Addr} {n : Nat} {l : List α} (h : Rep E st H a n l) (hl : l ≠ []) {i : Nat} (hi : Ad a i) (hE : ∀ i o x, E H i o x → i < H.length) : i < H.length := by
  obtain ⟨i', o, ha, h2⟩ := h.2 hl
  obtain ⟨o', e⟩ := hi
  rw [e] at ha; cases ha
  obtain ⟨x, r, rfl⟩ := List.exists_cons_of_ne_nil hl
  exact hE _ _ _ (h2 0 x rfl)
theorem Rep.fwI {S : Nat → Prop} {H H' : Hp} {a : Option Addr} {n : Nat} {l : List Int} (h : Rep EI 1 H a n l) (hf : Fw S H H') (hS : ∀ i, Ad a i → ¬ S i) : Rep EI 1 H' a n l :=
  ⟨h.1, fun hl => let ⟨i, o, ha, h2⟩ := h.2 hl; ⟨i, o, ha, fun j x hx => (hf.rd _ _ (rd_lt (h2 j x hx)) (hS i ⟨o, ha⟩)).trans (h2 j x hx)⟩⟩
/-! ### Records of one width, one behind the other -/
section
variable {α : Type} {e : α → List Value} {w : Nat}
theorem fl_len (hw : ∀ x, (e x).length = w) : ∀ l : List α, ((l.map e).flatten).length = l.length * w
  | [] => by simp
  | x :: r => by simp only [List.map_cons, List.flatten_cons, List.length_append, List.length_cons, fl_len hw r, hw, Nat.add_mul]; omega
theorem fl_at (hw : ∀ x, (e x).length = w) : ∀ (l : List α) (j : Nat) (x : α), l[j]? = some x → ∀ k, k < w → ((l.map e).flatten)[j * w + k]? = (e x)[k]?
  | [], j, x, h, k, hk => by simp at h
  | y :: r, 0, x, h, k, hk => by
    simp only [List.getElem?_cons_zero, Option.some.injEq] at h; subst h
    simp only [List.map_cons, List.flatten_cons, Nat.zero_mul, Nat.zero_add]
    rw [List.getElem?_append_left (by rw [hw]; exact hk)]
  | y :: r, j + 1, x, h, k, hk => by
    have := fl_at hw r j x (by simpa using h) k hk
    simp only [List.map_cons, List.flatten_cons]
    rw [List.getElem?_append_right (by rw [hw, Nat.add_mul]; omega), hw, show (j + 1) * w + k - w = j * w + k by rw [Nat.add_mul]; omega]
    exact this
theorem fl_set (hw : ∀ x, (e x).length = w) {l : List α} {j o : Nat} {x y : α} {vs : List Value} (hj : l[j]? = some x) (ho : o + vs.length ≤ w) (hs : setAll (e x) o vs = e y) : setAll ((l.map e).flatten) (j * w + o) vs = ((l.set j y).map e).flatten := by
  have hjl : j < l.length := (List.getElem?_eq_some_iff.1 hj).1
  have hb : (j + 1) * w ≤ l.length * w := Nat.mul_le_mul_right w hjl
  rw [Nat.add_mul, Nat.one_mul] at hb
  apply List.ext_getElem?
  intro k
  rw [setAll_at _ _ _ _ (by rw [fl_len hw]; omega)]
  by_cases hw0 : w = 0
  · subst hw0
    have : vs.length = 0 := by omega
    rw [if_neg (by omega), List.getElem?_eq_none (by rw [fl_len hw]; omega), List.getElem?_eq_none (by rw [fl_len hw]; omega)]
  obtain ⟨i, m, hm, rfl⟩ : ∃ i m, m < w ∧ k = i * w + m := ⟨k / w, k % w, Nat.mod_lt _ (by omega), by have := Nat.div_add_mod k w; rw [Nat.mul_comm]; omega⟩
  have hs' : ∀ k : Nat, (setAll (e x) o vs)[k]? = (e y)[k]? := fun k => by rw [hs]
  rcases Nat.lt_trichotomy i j with h | h | h
  · have h1 : (i + 1) * w ≤ j * w := Nat.mul_le_mul_right w h
    rw [Nat.add_mul, Nat.one_mul] at h1
    rw [if_neg (by omega)]
    have hi := getE (l := l) (i := i) (by omega)
    rw [fl_at hw l i _ hi m hm, fl_at hw (l.set j y) i _ (by rw [List.getElem?_set, if_neg (by omega)]; exact hi) m hm]
  · subst h
    rw [fl_at hw (l.set i y) i y (by simp [hjl]) m hm, ← hs', setAll_at _ _ _ _ (by rw [hw]; exact ho)]
    by_cases hc : o ≤ m ∧ m < o + vs.length
    · rw [if_pos (by omega), if_pos hc, show i * w + m - (i * w + o) = m - o by omega]
    · rw [if_neg (by omega), if_neg hc, fl_at hw l i x hj m hm]
  · have h1 : (j + 1) * w ≤ i * w := Nat.mul_le_mul_right w h
    rw [Nat.add_mul, Nat.one_mul] at h1
    rw [if_neg (by omega)]
    by_cases hil : i < l.length
    · have hi := getE hil
      rw [fl_at hw l i _ hi m hm, fl_at hw (l.set j y) i _ (by rw [List.getElem?_set, if_neg (by omega)]; exact hi) m hm]
    · have h2 : l.length * w ≤ i * w := Nat.mul_le_mul_right w (by omega)
      rw [List.getElem?_eq_none (by rw [fl_len hw]; omega), List.getElem?_eq_none (by rw [fl_len hw, List.length_set]; omega)]
end
def vb (b : Bk) : List Value := [.int .i64 b.r, .int .i64 b.d]
def vB (l : List Bk) : List Value := (l.map vb).flatten
def vN (p : Nd × Option Addr) : List Value := nV p.1 p.2
theorem vb_len (b : Bk) : (vb b).length = 2 := rfl
theorem vN_len (p : Nd × Option Addr) : (vN p).length = 3 := rfl
theorem vP_eq (ps : List (Nd × Option Addr)) : vP ps = (ps.map vN).flatten := rfl
/-- A forest in own memory, behind a pointer. -/
structure MF (lo : Nat) (H : Hp) (q : Nat) (a b : Option Addr) (ps : List (Nd × Option Addr)) (B : List Bk) : Prop where
  hd : H.blk q = some ⟨[.slice a ps.length (sg a 3), .slice b B.length (sg b 2)], true, false⟩
  lq : lo ≤ q
  n : CP lo H a ps
  bl : Hd lo H b B.length 2 (vB B)
  ab : ∀ i, Ad a i → ¬ Ad b i
  qa : ¬ Ad a q
  qb : ¬ Ad b q
  kb : ∀ (j : Nat) p, ps[j]? = some p → ∀ i, Ad p.2 i → ¬ Ad b i ∧ i ≠ q
def foP (ps : List (Nd × Option Addr)) (B : List Bk) : Fo := ⟨ps.map (·.1), B⟩
theorem Hd.rep {lo : Nat} {H : Hp} {b : Option Addr} {B : List Bk} (h : Hd lo H b B.length 2 (vB B)) : Rep EB 2 H b B.length B := by
  refine ⟨rfl, fun hB => ?_⟩
  rcases h with ⟨_, h2, _⟩ | ⟨i, k0, h1, h2, h3, _, _⟩
  · exact absurd (List.length_eq_zero_iff.1 h2) hB
  · refine ⟨i, 0, h1, fun j x hx => ?_⟩
    have h0 := fl_at vb_len B j x hx 0 (by omega)
    have h1' := fl_at vb_len B j x hx 1 (by omega)
    simp only [EB, rd, h2, Option.bind_some, Nat.zero_add]
    exact ⟨h0, h1'⟩
theorem CP.rep {lo : Nat} {H : Hp} {a : Option Addr} {ps : List (Nd × Option Addr)} (h : CP lo H a ps) {j : Nat} (hj : j < ps.length) :
    ∃ p, a = some ⟨p, 0, none⟩ ∧ (∃ k0, H.blk p = some ⟨vP ps, true, k0⟩) ∧ lo ≤ p ∧ rd H ⟨p, j * 3, none⟩ = some (.int .i64 ps[j].1.r) ∧ rd H ⟨p, j * 3 + 1, none⟩ = some (.bool ps[j].1.f) ∧ rd H ⟨p, j * 3 + 2, none⟩ = some (.slice ps[j].2 ps[j].1.k.length (sg ps[j].2 1)) := by
  rcases h.hd with ⟨_, h2, _⟩ | ⟨i, k0, h1, h2, h3, _, h5⟩
  · omega
  · refine ⟨i, h1, ⟨k0, h2⟩, h5, ?_⟩
    have hx := getE hj
    have g0 := vP_at ps j _ hx 0 (by omega)
    have g1 := vP_at ps j _ hx 1 (by omega)
    have g2 := vP_at ps j _ hx 2 (by omega)
    simp only [rd, h2, Option.bind_some]
    exact ⟨g0, g1, g2⟩
theorem MF.rf {lo : Nat} {H : Hp} {q : Nat} {a b : Option Addr} {ps : List (Nd × Option Addr)} {B : List Bk} (h : MF lo H q a b ps B) : RF H a ps.length b B.length (foP ps B) := by
  refine ⟨⟨by simp [foP], fun hn => ?_⟩, h.bl.rep⟩
  have hl : 0 < ps.length := by
    rcases Nat.eq_zero_or_pos ps.length with e | e
    · have : ps = [] := List.length_eq_zero_iff.1 e
      subst this; simp [foP] at hn
    · exact e
  obtain ⟨p, ha, _⟩ := h.n.rep hl
  refine ⟨p, 0, ha, fun j x hx => ?_⟩
  simp only [foP, List.getElem?_map] at hx
  obtain ⟨pj, hpj, rfl⟩ := Option.map_eq_some_iff.1 hx
  obtain ⟨hj, e⟩ := List.getElem?_eq_some_iff.1 hpj
  obtain ⟨p', ha', _, _, g0, g1, g2⟩ := h.n.rep hj
  rw [ha] at ha'; cases ha'
  rw [e] at g0 g1 g2
  rw [Nat.zero_add]
  exact ⟨g0, g1, pj.2, _, g2, (h.n.k j pj hpj).1⟩
theorem MF.pf {lo : Nat} {H : Hp} {q : Nat} {a b : Option Addr} {ps : List (Nd × Option Addr)} {B : List Bk} (h : MF lo H q a b ps B) : PF H q 0 a ps.length b B.length (foP ps B) :=
  ⟨by simp only [rd, h.hd, Option.bind_some, getc0], by simp only [rd, h.hd, Option.bind_some, getcs, getc0], h.rf⟩
/-- What a step on a forest may turn. -/
def FP (a b : Option Addr) (i : Nat) : Prop := Ad a i ∨ Ad b i
/-- Memory grows by what is no part of the forest, or other memory is written. -/
theorem MF.fw {lo : Nat} {H H' : Hp} {q : Nat} {a b : Option Addr} {ps : List (Nd × Option Addr)} {B : List Bk} {S : Nat → Prop} (h : MF lo H q a b ps B) (hf : Fw S H H') (hq : ¬ S q) (ha : ∀ i, Ad a i → ¬ S i) (hb : ∀ i, Ad b i → ¬ S i) (hk : ∀ (j : Nat) p, ps[j]? = some p → ∀ i, Ad p.2 i → ¬ S i) : MF lo H' q a b ps B := by
  have hd : ∀ {x : Option Addr} {n st : Nat} {L : List Value}, Hd lo H x n st L → (∀ i, Ad x i → ¬ S i) → Hd lo H' x n st L := by
    intro x n st L hx hS
    rcases hx with h1 | ⟨i, k0, h1, h2, h3, h4, h5⟩
    · exact Or.inl h1
    · exact Or.inr ⟨i, k0, h1, (hf.blk i (blk_lt h2) (hS i ⟨0, h1⟩)).trans h2, h3, h4, h5⟩
  refine ⟨(hf.blk q (blk_lt h.hd) hq).trans h.hd, h.lq, ⟨hd h.n.hd ha, fun j p hp => ?_, h.n.ne⟩, hd h.bl hb, h.ab, h.qa, h.qb, h.kb⟩
  obtain ⟨k1, k2⟩ := h.n.k j p hp
  refine ⟨k1.fwI hf (hk j p hp), fun A e => ?_⟩
  obtain ⟨u, v, w, z⟩ := k2 A e
  exact ⟨u, v, hf.wb w (hk j p hp _ ⟨A.off, by rw [e]; cases A; simp only at u; subst u; rfl⟩), z⟩
theorem MF.new {lo : Nat} {H H' : Hp} {q : Nat} {a b : Option Addr} {ps : List (Nd × Option Addr)} {B : List Bk} (h : MF lo H q a b ps B) (hf : Fn H H') : MF lo H' q a b ps B :=
  h.fw hf.w id (fun _ _ => id) (fun _ _ => id) (fun _ _ _ _ _ => id)
/-- Cells of a block are written. -/
theorem Fr.setC {H : Hp} {i : Nat} {cs cs' : List Value} {k0 : Bool} (hb : H.blk i = some ⟨cs, true, k0⟩) : Fr (· = i) H (H.set i (some ⟨cs', true, k0⟩)) :=
  ⟨by simp, fun j _ hj => by rw [blk_set (blk_lt hb), if_neg hj], fun lo j ⟨h1, b, h2, h3⟩ => by
    by_cases h : j = i
    · exact ⟨h1, _, by rw [blk_set (blk_lt hb), if_pos h], rfl⟩
    · exact ⟨h1, b, by rw [blk_set (blk_lt hb), if_neg h, h2], h3⟩⟩
/-- A node is written, in part. -/
theorem MF.node {lo : Nat} {H : Hp} {q : Nat} {a b : Option Addr} {ps : List (Nd × Option Addr)} {B : List Bk} (h : MF lo H q a b ps B) {j : Nat} {x : Nd × Option Addr} (hx : ps[j]? = some x) {o : Nat} {vs : List Value} (ho : o + vs.length ≤ 3) (y : Nd × Option Addr) (hs : setAll (vN x) o vs = vN y)
    (hy : Rep EI 1 H y.2 y.1.k.length y.1.k) (hy2 : ∀ A, y.2 = some A → A.spot = none ∧ A.off = 0 ∧ WB lo H A.block ∧ ¬ Ad a A.block ∧ ¬ Ad b A.block ∧ A.block ≠ q ∧ ∀ (i : Nat) p, ps[i]? = some p → i ≠ j → ∀ A', p.2 = some A' → A'.block ≠ A.block) :
    ∃ p H', a = some ⟨p, 0, none⟩ ∧ wrN lo H ⟨p, j * 3 + o, none⟩ vs = some H' ∧ MF lo H' q a b (ps.set j y) B ∧ Fr (Ad a) H H' ∧ H'.length = H.length := by
  have hj : j < ps.length := (List.getElem?_eq_some_iff.1 hx).1
  obtain ⟨p, rfl, ⟨k0, hb⟩, hlo, _⟩ := h.n.rep hj
  have hpl : p < H.length := blk_lt hb
  have hset := fl_set (l := ps) (e := vN) vN_len hx ho hs
  have hfl := fl_len (e := vN) vN_len ps
  obtain ⟨H', hH'⟩ : ∃ H' : Hp, H' = H.set p (some ⟨vP (ps.set j y), true, k0⟩) := ⟨_, rfl⟩
  have hfr : Fr (· = p) H H' := hH' ▸ Fr.setC hb
  have hadp : ∀ i, Ad (some ⟨p, 0, none⟩) i ↔ i = p := fun i => ⟨fun ⟨o, e⟩ => by cases e; rfl, fun e => ⟨0, by rw [e]⟩⟩
  have hblk : ∀ i, i < H.length → i ≠ p → H'.blk i = H.blk i := fun i hi hn => hfr.blk i hi hn
  have hle : j * 3 + 3 ≤ ps.length * 3 := by omega
  refine ⟨p, H', rfl, ?_, ⟨?_, h.lq, ⟨?_, fun i z hz => ?_, fun i i' z z' hz hz' hne A C hA hC => ?_⟩, ?_, h.ab, h.qa, h.qb, fun i z hz k hk => ?_⟩, hfr.mono (fun i e => (hadp i).2 e), by rw [hH']; simp⟩
  · simp only [wrN, hb, Option.bind_some]
    rw [if_pos ⟨hlo, trivial, by rw [vP_eq, hfl]; omega⟩, vP_eq, hset, hH']; rfl
  · rw [hblk q (blk_lt h.hd) (fun e => h.qa ((hadp q).2 e)), h.hd, List.length_set]
  · rcases h.n.hd with ⟨e, _⟩ | ⟨i, k0', e, h2, h3, h4, h5⟩
    · cases e
    · cases e
      rw [hb] at h2; cases h2
      exact Or.inr ⟨p, k0, rfl, by rw [hH', blk_set hpl, if_pos rfl], by rw [vP_eq, fl_len vN_len], by rw [List.length_set]; exact h4, h5⟩
  · rw [List.getElem?_set] at hz
    by_cases hij : j = i
    · rw [if_pos hij, if_pos hj] at hz; cases hz
      refine ⟨hy.fr (fun k hk e => ?_) hfr, fun A e => ?_⟩
      · obtain ⟨o', e'⟩ := hk
        obtain ⟨_, _, _, g, _⟩ := hy2 _ e'
        exact g ((hadp _).2 e)
      · obtain ⟨g1, g2, g3, g4, _⟩ := hy2 A e
        exact ⟨g1, g2, hfr.wb _ _ g3, fun o' e' => g4 ⟨o', e'⟩⟩
    · rw [if_neg hij] at hz
      obtain ⟨k1, k2⟩ := h.n.k i z hz
      refine ⟨k1.fr (fun k hk e => ?_) hfr, fun A e => ?_⟩
      · obtain ⟨o', e'⟩ := hk
        obtain ⟨_, _, _, g⟩ := k2 _ e'
        exact g 0 (by rw [e])
      · obtain ⟨g1, g2, g3, g4⟩ := k2 A e
        exact ⟨g1, g2, hfr.wb _ _ g3, g4⟩
  · rw [List.getElem?_set] at hz hz'
    by_cases h1 : j = i
    · rw [if_pos h1, if_pos hj] at hz; cases hz
      rw [if_neg (by omega)] at hz'
      obtain ⟨_, _, _, _, _, _, g⟩ := hy2 A hA
      exact fun e => g i' z' hz' (by omega) C hC e.symm
    · rw [if_neg h1] at hz
      by_cases h2 : j = i'
      · rw [if_pos h2, if_pos hj] at hz'; cases hz'
        obtain ⟨_, _, _, _, _, _, g⟩ := hy2 C hC
        exact g i z hz (by omega) A hA
      · rw [if_neg h2] at hz'
        exact h.n.ne i i' z z' hz hz' hne A C hA hC
  · rcases h.bl with h1 | ⟨i, k0', h1, h2, h3, h4, h5⟩
    · exact Or.inl h1
    · refine Or.inr ⟨i, k0', h1, ?_, h3, h4, h5⟩
      rw [hblk i (blk_lt h2) (fun e => h.ab i ((hadp i).2 e) ⟨0, h1⟩)]; exact h2
  · rw [List.getElem?_set] at hz
    by_cases h1 : j = i
    · rw [if_pos h1, if_pos hj] at hz; cases hz
      obtain ⟨o', e'⟩ := hk
      obtain ⟨_, _, _, _, g5, g6, _⟩ := hy2 _ e'
      exact ⟨g5, g6⟩
    · rw [if_neg h1] at hz
      exact h.kb i z hz k hk
/-- A block is written, in part. -/
theorem MF.block {lo : Nat} {H : Hp} {q : Nat} {a b : Option Addr} {ps : List (Nd × Option Addr)} {B : List Bk} (h : MF lo H q a b ps B) {j : Nat} {x : Bk} (hx : B[j]? = some x) {o : Nat} {vs : List Value} (ho : o + vs.length ≤ 2) (y : Bk) (hs : setAll (vb x) o vs = vb y) :
    ∃ t H', b = some ⟨t, 0, none⟩ ∧ wrN lo H ⟨t, j * 2 + o, none⟩ vs = some H' ∧ MF lo H' q a b ps (B.set j y) ∧ Fr (Ad b) H H' ∧ H'.length = H.length := by
  have hj : j < B.length := (List.getElem?_eq_some_iff.1 hx).1
  rcases h.bl with ⟨_, e, _⟩ | ⟨t, k0, rfl, hb, hl, h0, hlo⟩
  · omega
  have htl : t < H.length := blk_lt hb
  have hset := fl_set (l := B) (e := vb) vb_len hx ho hs
  have hfl := fl_len (e := vb) vb_len B
  obtain ⟨H', hH'⟩ : ∃ H' : Hp, H' = H.set t (some ⟨vB (B.set j y), true, k0⟩) := ⟨_, rfl⟩
  have hfr : Fr (· = t) H H' := hH' ▸ Fr.setC hb
  have hadt : ∀ i, Ad (some ⟨t, 0, none⟩) i ↔ i = t := fun i => ⟨fun ⟨o, e⟩ => by cases e; rfl, fun e => ⟨0, by rw [e]⟩⟩
  have hle : j * 2 + 2 ≤ B.length * 2 := by omega
  have h1 : MF lo H q a (some ⟨t, 0, none⟩) ps B := h
  refine ⟨t, H', rfl, ?_, ?_, hfr.mono (fun i e => (hadt i).2 e), by rw [hH']; simp⟩
  · simp only [wrN, hb, Option.bind_some]
    rw [if_pos ⟨hlo, trivial, by unfold vB; rw [hfl]; omega⟩, hH']
    unfold vB
    rw [hset]
  · have hblk : ∀ i, i < H.length → i ≠ t → H'.blk i = H.blk i := fun i hi hn => hfr.blk i hi hn
    refine ⟨?_, h.lq, ⟨?_, fun i z hz => ?_, h.n.ne⟩, ?_, h.ab, h.qa, h.qb, h.kb⟩
    · rw [hblk q (blk_lt h.hd) (fun e => h.qb ((hadt q).2 e)), h.hd, List.length_set]
    · rcases h.n.hd with h1 | ⟨i, k0', h1, h2, h3, h4, h5⟩
      · exact Or.inl h1
      · refine Or.inr ⟨i, k0', h1, ?_, h3, h4, h5⟩
        rw [hblk i (blk_lt h2) (fun e => h.ab i ⟨0, h1⟩ ((hadt i).2 e))]; exact h2
    · obtain ⟨k1, k2⟩ := h.n.k i z hz
      refine ⟨k1.fr (fun k hk e => (h.kb i z hz k hk).1 ((hadt k).2 e)) hfr, fun A e => ?_⟩
      obtain ⟨g1, g2, g3, g4⟩ := k2 A e
      exact ⟨g1, g2, hfr.wb _ _ g3, g4⟩
    · exact Or.inr ⟨t, k0, rfl, by rw [hH', blk_set htl, if_pos rfl], by unfold vB; rw [fl_len vb_len], by rw [List.length_set]; exact h0, hlo⟩
end Go.Proofs.Ytmcljallamhccaa.V
