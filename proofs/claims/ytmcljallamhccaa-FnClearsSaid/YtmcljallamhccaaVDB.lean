/- Forests, copied: the reference's and the program's. -/
import Derived.Test.YtmcljallamhccaaVDA
namespace Go.Proofs.Ytmcljallamhccaa.V
open Go
set_option linter.unusedVariables false
set_option linter.unusedSimpArgs false
set_option maxRecDepth 100000
/-- What reads as a forest, and can be read whole. -/
structure RX (H : Hp) (an : Option Addr) (nn : Nat) (ab : Option Addr) (nb : Nat) (F : Fo) : Prop where
  r : RF H an nn ab nb F
  b : Ex H ab
  k : ∀ p o, an = some ⟨p, o, none⟩ → ∀ (j : Nat) (x : Nd), F.n[j]? = some x → ∃ ad, rd H ⟨p, o + j * 3 + 2, none⟩ = some (.slice ad x.k.length (sg ad 1)) ∧ Ex H ad
theorem RX.fn {H H' : Hp} {an nn ab nb F} (h : RX H an nn ab nb F) (hf : Fn H H') : RX H' an nn ab nb F :=
  ⟨h.r.fn hf, h.b.fn hf, fun p o e j x hx => let ⟨ad, h1, h2⟩ := h.k p o e j x hx; ⟨ad, (hf.rd _ _ (rd_lt h1) id).trans h1, h2.fn hf⟩⟩
theorem WB.ex {lo : Nat} {H : Hp} {i : Nat} (h : WB lo H i) : Ex H (some ⟨i, 0, none⟩) := fun A e => by
  cases e
  obtain ⟨_, b, hb, _⟩ := h
  exact ⟨rfl, b, hb, by simp⟩
theorem FO.rx {lo : Nat} {H : Hp} {S T : Nat → Prop} {an nn ab nb F} (h : FO lo H S T an nn ab nb F) : RX H an nn ab nb F := by
  refine ⟨h.rfs.rf, fun A e => ?_, fun p o e j x hx => ?_⟩
  · obtain ⟨z1, z2⟩ := h.x A e
    obtain ⟨⟨_, b, hb, _⟩, _⟩ := h.o A.block ⟨0, by rw [e]; cases A; simp only at z1 z2; subst z1; subst z2; rfl⟩
    exact ⟨z1, b, hb, by omega⟩
  obtain ⟨p', o', K, e', ok⟩ := h.n.2 (by intro e; rw [e] at hx; simp at hx)
  rw [e] at e'; cases e'
  refine ⟨K j, (ok.e j x hx).s, fun A hA => ?_⟩
  obtain ⟨z1, z2⟩ := ok.z j x hx A hA
  obtain ⟨⟨_, b, hb, _⟩, _⟩ := ok.own j x hx A.block ⟨0, by rw [hA]; cases A; simp only at z1 z2; subst z1; subst z2; rfl⟩
  exact ⟨z1, b, hb, by omega⟩
theorem Rep.cellsB {H : Hp} {a : Option Addr} {n : Nat} {l : List Bk} (h : Rep EB 2 H a n l) (hx : Ex H a) : scells H 2 (.slice a n (sg a 2)) = some (vB l) := by
  have hn := h.1
  cases a with
  | none =>
    have : l = [] := by
      cases l with
      | nil => rfl
      | cons x r => obtain ⟨i, o, e, _⟩ := h.2 (by simp); cases e
    subst this
    have hn0 : n = 0 := hn
    subst hn0; rfl
  | some b =>
    obtain ⟨i, o, s⟩ := b
    have hs := (hx _ rfl).1
    simp only at hs
    subst hs
    by_cases h0 : n = 0
    · have : l = [] := List.length_eq_zero_iff.1 (by omega)
      subst this; subst h0; rfl
    rw [scells, if_neg h0]
    simp only [sgs, if_true]
    have hfl := fl_len vb_len l
    have := rdN_of (L := vB l) (hx _ rfl).2 (fun j hj => by
      unfold vB at hj ⊢
      rw [hfl] at hj
      obtain ⟨k, m, hm, rfl⟩ : ∃ k m, m < 2 ∧ j = k * 2 + m := ⟨j / 2, j % 2, Nat.mod_lt _ (by omega), by have := Nat.div_add_mod j 2; omega⟩
      have hk : k < l.length := by omega
      obtain ⟨i', o', e, h2⟩ := h.2 (by intro e; rw [e] at hk; simp at hk)
      cases e
      obtain ⟨e0, e1⟩ := h2 k _ (getE hk)
      rw [fl_at vb_len l k _ (getE hk) m hm]
      rcases (by omega : m = 0 ∨ m = 1) with rfl | rfl
      · exact e0
      · rw [← Nat.add_assoc]; exact e1)
    unfold vB at this ⊢
    rw [hfl, ← hn] at this
    exact this
/-- Blocks, put behind an empty slice: a copy. -/
theorem cloneB {lo : Nat} {H : Hp} {a : Option Addr} {n : Nat} {l : List Bk} (h : Rep EB 2 H a n l) (hx : Ex H a) (hlo : lo ≤ H.length) (hn : n ≤ 1000) :
    ∃ i H2, vappend 2 16 lo (H ++ [some ⟨[], true, true⟩]) (.slice (some ⟨H.length, 0, none⟩) 0 2) (.slice a n (sg a 2)) = some (.slice (some ⟨i, 0, none⟩) n 2, H2) ∧ Fn H H2 ∧ H.length ≤ i ∧ Hd H.length H2 (some ⟨i, 0, none⟩) n 2 (vB l) := by
  have hc := (h.fnB (Fr.app (l := [some ⟨[], true, true⟩]))).cellsB (hx.fn Fr.app)
  have hnl := h.1
  have hfl := fl_len vb_len l
  have hb : Hp.blk (H ++ [some ⟨[], true, true⟩]) H.length = some ⟨[], true, true⟩ := blk0
  rcases Nat.eq_zero_or_pos n with h0 | h0
  · subst h0
    have : l = [] := List.length_eq_zero_iff.1 hnl.symm
    subst this
    refine ⟨H.length, H ++ [some ⟨[], true, true⟩], ?_, Fr.app, Nat.le_refl _, Or.inr ⟨H.length, true, rfl, hb, rfl, fun _ => rfl, Nat.le_refl _⟩⟩
    have hfit : fits (0 + 0) 16 = true := fits_small (by omega)
    simp only [vappend, slen, hc, Option.bind_some, hb]
    rw [if_pos ⟨trivial, trivial, trivial, rfl, rfl, hfit⟩]
    rfl
  · obtain ⟨H2, ha, hb2, hl2, hf2, _⟩ := app_own (st := 2) (by_ := 16) (lo := lo) (i := H.length) (n := 0) (m := n) (L := []) (M := vB l) (y := .slice a n (sg a 2)) hb rfl (fun _ => rfl) hlo rfl hc h0 (fits_small (by omega))
    simp only [List.length_append, List.length_cons, List.length_nil, Nat.zero_add] at ha hb2 hl2
    exact ⟨H.length + 1, H2, ha, hf2 H Fr.app (Nat.le_refl _), by omega, Or.inr ⟨H.length + 1, false, rfl, hb2, by unfold vB; rw [hfl, ← hnl], fun e => by omega, by omega⟩⟩
theorem cloneBlocks_c (d lo : Nat) (H : Hp) {a : Option Addr} {n : Nat} {l : List Bk} (h : Rep EB 2 H a n l) (hx : Ex H a) (hn : n ≤ 1000) :
    ∃ b H2, vcall env (d + 1) 91 [.slice a n (sg a 2)] lo H = some (.slice b n (sg b 2), H2) ∧ Fn H H2 ∧ Hd H.length H2 b n 2 (vB l) := by
  rw [call_eq find91 _ _ _ rfl]
  cases a with
  | none =>
    have hl : l = [] := by
      cases l with
      | nil => rfl
      | cons x r => obtain ⟨i, o, e, _⟩ := h.2 (by simp); cases e
    subst hl
    have hn0 : n = 0 := h.1
    subst hn0
    exact ⟨none, H, by simp -implicitDefEqProofs only [v91, VMs, noRef, noRef1, isRef, List.all_cons, List.all_nil, vop, VOp.still, VOp.app, VOp.plain, allP, lof, evs, start, asI, vbin, vcells, ntup, setAll, vfill, vress, vres, tup, Nat.reduceEqDiff, ↓reduceIte, Nat.reduceAdd, Nat.reduceMul, Nat.reduceLeDiff, reduceCtorEq], Fr.refl, Or.inl ⟨rfl, rfl, rfl⟩⟩
  | some A =>
    obtain ⟨i, H2, ha, hf, hi, hd⟩ := cloneB (lo := H.length) h hx (Nat.le_refl _) hn
    simp only [sgs] at ha
    exact ⟨some ⟨i, 0, none⟩, H2, by simp -implicitDefEqProofs only [v91, VMs, noRef, noRef1, isRef, List.all_cons, List.all_nil, vop, VOp.still, VOp.app, VOp.plain, allP, lof, evs, start, asI, vbin, vcells, ntup, setAll, vfill, vress, vres, tup, Nat.reduceEqDiff, ↓reduceIte, Nat.reduceAdd, Nat.reduceMul, Nat.reduceLeDiff, reduceCtorEq, beq_self_eq_true, ha], hf, hd⟩
theorem Hd.fw {S : Nat → Prop} {lo : Nat} {H H' : Hp} {x : Option Addr} {n st : Nat} {L : List Value} (hx : Hd lo H x n st L) (hf : Fw S H H') (hS : ∀ i, Ad x i → ¬ S i) : Hd lo H' x n st L := by
  rcases hx with h1 | ⟨i, k0, h1, h2, h3, h4, h5⟩
  · exact Or.inl h1
  · exact Or.inr ⟨i, k0, h1, (hf.blk i (blk_lt h2) (hS i ⟨0, h1⟩)).trans h2, h3, h4, h5⟩
theorem Hd.lt {lo : Nat} {H : Hp} {x : Option Addr} {n st : Nat} {L : List Value} (hx : Hd lo H x n st L) {i : Nat} (hi : Ad x i) : lo ≤ i ∧ i < H.length := by
  obtain ⟨o, e⟩ := hi
  rcases hx with ⟨h1, _⟩ | ⟨j, k0, h1, h2, h3, h4, h5⟩
  · rw [h1] at e; cases e
  · rw [h1] at e; cases e; exact ⟨h5, blk_lt h2⟩
theorem Hd.lo {lo lo' : Nat} {H : Hp} {x : Option Addr} {n st : Nat} {L : List Value} (hx : Hd lo H x n st L) (h : lo' ≤ lo) : Hd lo' H x n st L := by
  rcases hx with h1 | ⟨j, k0, h1, h2, h3, h4, h5⟩
  · exact Or.inl h1
  · exact Or.inr ⟨j, k0, h1, h2, h3, h4, Nat.le_trans h h5⟩
theorem CP.lt {lo : Nat} {H : Hp} {a : Option Addr} {ps : List (Nd × Option Addr)} (h : CP lo H a ps) {j : Nat} {p : Nd × Option Addr} (hp : ps[j]? = some p) {i : Nat} (hi : Ad p.2 i) : lo ≤ i ∧ i < H.length := by
  obtain ⟨o, e⟩ := hi
  obtain ⟨_, _, ⟨w1, b, w2, _⟩, _⟩ := (h.k j p hp).2 _ e
  exact ⟨w1, blk_lt w2⟩
theorem CP.fw {S : Nat → Prop} {lo : Nat} {H H' : Hp} {a : Option Addr} {ps : List (Nd × Option Addr)} (h : CP lo H a ps) (hf : Fw S H H') (ha : ∀ i, Ad a i → ¬ S i) (hk : ∀ (j : Nat) p, ps[j]? = some p → ∀ i, Ad p.2 i → ¬ S i) : CP lo H' a ps := by
  refine ⟨h.hd.fw hf ha, fun j p hp => ?_, h.ne⟩
  obtain ⟨k1, k2⟩ := h.k j p hp
  refine ⟨k1.fwI hf (hk j p hp), fun A e => ?_⟩
  obtain ⟨u, v, w, z⟩ := k2 A e
  exact ⟨u, v, hf.wb w (hk j p hp _ ⟨A.off, by rw [e]; cases A; simp only at u; subst u; rfl⟩), z⟩
theorem CP.lo {lo lo' : Nat} {H : Hp} {a : Option Addr} {ps : List (Nd × Option Addr)} (h : CP lo H a ps) (hl : lo' ≤ lo) : CP lo' H a ps :=
  ⟨h.hd.lo hl, fun j p hp => let ⟨k1, k2⟩ := h.k j p hp; ⟨k1, fun A e => let ⟨u, v, w, z⟩ := k2 A e; ⟨u, v, w.lo hl, z⟩⟩, h.ne⟩
/-- A forest in new memory, as a copy makes it. -/
def NewM (H H' : Hp) (v : Value) (F : Fo) : Prop := ∃ a b ps, v = .agg #[.slice a ps.length (sg a 3), .slice b F.b.length (sg b 2)] ∧ Fn H H' ∧ ps.map (·.1) = F.n ∧ CP H.length H' a ps ∧ Hd H.length H' b F.b.length 2 (vB F.b) ∧ (∀ i, Ad a i → ¬ Ad b i) ∧ ∀ (j : Nat) p, ps[j]? = some p → ∀ i, Ad p.2 i → ¬ Ad b i
/-- Its pointer. -/
theorem NewM.box {H H' : Hp} {v : Value} {F : Fo} (h : NewM H H' v F) : ∃ a b ps, v = .agg #[.slice a ps.length (sg a 3), .slice b F.b.length (sg b 2)] ∧ Fn H H' ∧ ps.map (·.1) = F.n ∧ MF H.length (H' ++ [some ⟨[.slice a ps.length (sg a 3), .slice b F.b.length (sg b 2)], true, false⟩]) H'.length a b ps F.b := by
  obtain ⟨a, b, ps, hv, hf, hps, hc, hb, hab, hkb⟩ := h
  refine ⟨a, b, ps, hv, hf, hps, blk0, hf.len, hc.fn Fr.app, hb.fw (S := fun _ => False) Fr.app.w (fun _ _ => id), hab, fun hh => ?_, fun hh => ?_, fun j p hp i hi => ⟨hkb j p hp i hi, ?_⟩⟩
  · have := (hc.hd.lt hh).2; omega
  · have := (hb.lt hh).2; omega
  · have := (hc.lt hp hi).2; omega
/-- One more node, behind those that are copied. -/
theorem pushN {lo L0 O : Nat} {H1 H2 : Hp} {a b c : Option Addr} {ps : List (Nd × Option Addr)} {nb : Nat} {x : Nd} (hc : CP L0 H1 a ps) (hlo : lo ≤ O) (hO : O < L0) (hLl : L0 ≤ H1.length)
    (hbO : H1.blk O = some ⟨[.slice a ps.length (sg a 3), .slice b nb (sg b 2)], true, false⟩) (hf : Fn H1 H2) (N : Nat) (hN : H1.length ≤ N) (n0 : Option Addr) (hbN : H2.blk N = some ⟨[.int .i64 x.r, .bool x.f, .slice n0 x.k.length (sg n0 1)], true, false⟩)
    (hk : Rep EI 1 H2 c x.k.length x.k) (hk2 : ∀ A, c = some A → A.spot = none ∧ A.off = 0 ∧ WB H1.length H2 A.block ∧ A.block ≠ N) (hsz : ps.length < 999) :
    wrN lo H2 ⟨N, 2, none⟩ [.slice c x.k.length (sg c 1)] = some (setB H2 N (nV x c)) ∧ rdN (setB H2 N (nV x c)) ⟨N, 0, none⟩ 3 = some (nV x c) ∧ rd (setB H2 N (nV x c)) ⟨O, 0, none⟩ = some (.slice a ps.length (sg a 3)) ∧
    ∃ H4, vappend 3 40 lo (setB H2 N (nV x c) ++ [some ⟨nV x c, true, false⟩]) (.slice a ps.length (sg a 3)) (.slice (some ⟨H2.length, 0, none⟩) 1 3) = some (.slice (some ⟨H2.length + 1, 0, none⟩) (ps.length + 1) 3, H4) ∧
    wrN lo H4 ⟨O, 0, none⟩ [.slice (some ⟨H2.length + 1, 0, none⟩) (ps.length + 1) 3] = some (setB H4 O [.slice (some ⟨H2.length + 1, 0, none⟩) (ps.length + 1) 3, .slice b nb (sg b 2)]) ∧
    (∀ H0 : Hp, Fn H0 H1 → H0.length ≤ O → Fn H0 (setB H4 O [.slice (some ⟨H2.length + 1, 0, none⟩) (ps.length + 1) 3, .slice b nb (sg b 2)])) ∧
    Fw (fun i => i = O ∨ Ad a i) H1 (setB H4 O [.slice (some ⟨H2.length + 1, 0, none⟩) (ps.length + 1) 3, .slice b nb (sg b 2)]) ∧
    CP L0 (setB H4 O [.slice (some ⟨H2.length + 1, 0, none⟩) (ps.length + 1) 3, .slice b nb (sg b 2)]) (some ⟨H2.length + 1, 0, none⟩) (ps ++ [(x, c)]) ∧
    Hp.blk (setB H4 O [.slice (some ⟨H2.length + 1, 0, none⟩) (ps.length + 1) 3, .slice b nb (sg b 2)]) O = some ⟨[.slice (some ⟨H2.length + 1, 0, none⟩) (ps.length + 1) 3, .slice b nb (sg b 2)], true, false⟩ := by
  have hl12 := hf.len
  have w2 : wrN lo H2 ⟨N, 2, none⟩ [.slice c x.k.length (sg c 1)] = some (setB H2 N (nV x c)) := wr_at (o := 2) hbN (by omega) _ (by simp)
  obtain ⟨H3, hH3⟩ : ∃ H3, H3 = setB H2 N (nV x c) := ⟨_, rfl⟩
  have l3 : H3.length = H2.length := by rw [hH3, setB_len]
  have f13 : Fn H1 H3 := hH3 ▸ Fn.setB hf hN hbN _
  have g3 : rdN H3 ⟨N, 0, none⟩ 3 = some (nV x c) := hH3 ▸ rdN_setB hbN 3 _ rfl
  have hOl := blk_lt hbO
  have hO3 : H3.blk O = some ⟨[.slice a ps.length (sg a 3), .slice b nb (sg b 2)], true, false⟩ := (f13.blk O hOl id).trans hbO
  have fr23 : Fr (· = N) H2 H3 := hH3 ▸ Fr.setB hbN _
  obtain ⟨HM, hHM⟩ : ∃ HM : Hp, HM = H3 ++ [some ⟨nV x c, true, false⟩] := ⟨_, rfl⟩
  have f3M : Fn H3 HM := hHM ▸ Fr.app
  have hkM : Rep EI 1 HM c x.k.length x.k := (hk.fr (fun i ⟨o, e⟩ => by obtain ⟨_, _, _, g⟩ := hk2 _ e; exact g) fr23).fnI f3M
  have lM : HM.length = H2.length + 1 := by rw [hHM]; simp [l3]
  obtain ⟨H4, ha, l4, c4, f4, b4⟩ := CP.app (lo := L0) (by_ := 40) (hc.fn (f13.trans f3M)) (x := x) (b := c) (y := .slice (some ⟨H3.length, 0, none⟩) 1 3) hkM (fun A e => by
      obtain ⟨g1, g2, g3, g4⟩ := hk2 A e
      have hlt := blk_lt g3.2.choose_spec.1
      refine ⟨g1, g2, (f3M.wb _ _ (fr23.wb _ _ g3)).lo hLl, fun o e' => ?_, fun j p hp B hB e' => ?_⟩
      · have := (hc.hd.lt ⟨o, e'⟩).2
        have := g3.1; omega
      · obtain ⟨_, _, ⟨_, bb, w2, _⟩, _⟩ := (hc.k j p hp).2 B hB
        have := blk_lt w2
        have := g3.1; omega) rfl (by rw [hHM]; simp [scells, rdN0, nV]) (fits_small (by omega)) (by omega)
  -- the machine's lo is below
  have ha' : vappend 3 40 lo HM (.slice a ps.length (sg a 3)) (.slice (some ⟨H3.length, 0, none⟩) 1 3) = some (.slice (some ⟨HM.length, 0, none⟩) (ps.length + 1) 3, H4) := by
    have hlow : ∀ {x y z r}, vappend 3 40 L0 x y z = some r → vappend 3 40 lo x y z = some r := by
      intro x y z r h
      unfold vappend at h ⊢
      simp only [Option.bind_eq_some_iff] at h ⊢
      obtain ⟨m, hm, new, hn, h⟩ := h
      refine ⟨m, hm, new, hn, ?_⟩
      cases y <;> try exact h
      rename_i xa xn xs
      cases xa <;> try exact h
      rename_i A
      simp only [Option.bind_eq_some_iff] at h ⊢
      obtain ⟨bb, hb, h⟩ := h
      refine ⟨bb, hb, ?_⟩
      split at h
      · rename_i hc
        rw [if_pos hc]
        split at h
        · rename_i hm0; rw [if_pos hm0]; exact h
        · rename_i hm0
          rw [if_neg hm0]
          split at h
          · rename_i hn0; rw [if_pos hn0]; exact h
          · rename_i hn0
            rw [if_neg hn0]
            split at h
            · rename_i hl; rw [if_pos (by omega)]; exact h
            · cases h
      · cases h
    exact hlow ha
  rw [lM] at ha' c4
  rw [l3] at ha'
  have hO4 : H4.blk O = some ⟨[.slice a ps.length (sg a 3), .slice b nb (sg b 2)], true, false⟩ := (b4 O (fun o e => by have := (hc.hd.lt ⟨o, e⟩).1; omega) (by omega)).trans ((f3M.blk O (by omega) id).trans hO3)
  have w5 := wr_at (lo := lo) (o := 0) hO4 hlo [.slice (some ⟨H2.length + 1, 0, none⟩) (ps.length + 1) 3] (by simp)
  have hfr5 := Fr.setB hO4 [.slice (some ⟨H2.length + 1, 0, none⟩) (ps.length + 1) 3, .slice b nb (sg b 2)]
  have hfw : Fw (fun i => i = O ∨ Ad a i) H1 H4 := by
    refine ⟨by rw [l4, lM]; omega, fun i hi hS => ?_⟩
    rw [b4 i (fun o e => hS (Or.inr ⟨o, e⟩)) (by rw [lM]; omega)]
    exact (f3M.blk i (by omega) id).trans (f13.blk i hi id)
  refine ⟨w2, hH3 ▸ g3, ?_, H4, by rw [← hH3, ← hHM]; exact ha', w5, fun H0 h0 hle => ?_, ?_, ?_, ?_⟩
  · rw [← hH3]; simp only [rd, hO3, Option.bind_some, getc0]
  · have := f4 H0 (h0.trans (f13.trans f3M)) (by omega)
    exact (this.no.trans hfr5).new (fun i e => by rw [e]; exact hle)
  · exact hfw.then hfr5.w (fun i e _ => Or.inl e)
  · refine c4.fw hfr5.w (fun i ⟨o, e⟩ e' => ?_) (fun j p hp i hi e' => ?_)
    · cases e; omega
    · have := (c4.lt hp hi).1; omega
  · rw [blk_setB hO4, if_pos rfl]
/-- What holds ahead of each round of a copy: O is the cell of what is made. -/
structure CI (L0 : Nat) (H0 H1 : Hp) (O R : Nat) (b : Option Addr) (B : List Bk) (a : Option Addr) (ps : List (Nd × Option Addr)) (l : List Nd) : Prop where
  f : Fn H0 H1
  le : L0 ≤ H1.length
  o : H1.blk O = some ⟨[.slice a ps.length (sg a 3), .slice b B.length (sg b 2)], true, false⟩
  r : H1.blk R = some ⟨[.slice none 0 0, .slice none 0 0], true, false⟩
  c : CP L0 H1 a ps
  b : Hd H0.length H1 b B.length 2 (vB B)
  p : ps.map (·.1) = l
theorem CI.next {lo L0 O R : Nat} {H0 H1 H2 : Hp} {a b c : Option Addr} {ps : List (Nd × Option Addr)} {B : List Bk} {l : List Nd} {x : Nd} (h : CI L0 H0 H1 O R b B a ps l) (hlo : lo ≤ O) (h0 : H0.length ≤ O) (hR : R < O) (hO : O < L0) (hbO : ∀ i, Ad b i → i < L0 ∧ i ≠ O) (hf : Fn H1 H2) (N : Nat) (hN : H1.length ≤ N) (n0 : Option Addr) (hbN : H2.blk N = some ⟨[.int .i64 x.r, .bool x.f, .slice n0 x.k.length (sg n0 1)], true, false⟩)
    (hk : Rep EI 1 H2 c x.k.length x.k) (hk2 : ∀ A, c = some A → A.spot = none ∧ A.off = 0 ∧ WB H1.length H2 A.block ∧ A.block ≠ N) (hsz : ps.length < 999) :
    wrN lo H2 ⟨N, 2, none⟩ [.slice c x.k.length (sg c 1)] = some (setB H2 N (nV x c)) ∧ rdN (setB H2 N (nV x c)) ⟨N, 0, none⟩ 3 = some (nV x c) ∧ rd (setB H2 N (nV x c)) ⟨O, 0, none⟩ = some (.slice a ps.length (sg a 3)) ∧
    ∃ H4, vappend 3 40 lo (setB H2 N (nV x c) ++ [some ⟨nV x c, true, false⟩]) (.slice a ps.length (sg a 3)) (.slice (some ⟨H2.length, 0, none⟩) 1 3) = some (.slice (some ⟨H2.length + 1, 0, none⟩) (ps.length + 1) 3, H4) ∧
    ∃ H5, wrN lo H4 ⟨O, 0, none⟩ [.slice (some ⟨H2.length + 1, 0, none⟩) (ps.length + 1) 3] = some H5 ∧ CI L0 H0 H5 O R b B (some ⟨H2.length + 1, 0, none⟩) (ps ++ [(x, c)]) (l ++ [x]) := by
  obtain ⟨w2, g2, r2, H4, ha, w5, f5, fw, c5, o5⟩ := pushN (lo := lo) h.c hlo hO h.le h.o hf N hN n0 hbN hk hk2 hsz
  refine ⟨w2, g2, r2, H4, ha, _, w5, f5 H0 h.f h0, Nat.le_trans h.le fw.len, by rw [o5, List.length_append]; rfl, ?_, c5, h.b.fw fw (fun i hi hS => ?_), by rw [List.map_append, h.p]; rfl⟩
  · refine (fw.blk R (blk_lt h.r) (fun hS => ?_)).trans h.r
    rcases hS with e | e
    · omega
    · have := (h.c.hd.lt e).1; omega
  · have := hbO i hi
    rcases hS with e | e
    · omega
    · have := (h.c.hd.lt e).1; omega
theorem NewM.old {H H0 H' : Hp} {v : Value} {F : Fo} (h : NewM H0 H' v F) (hf : Fn H H0) : NewM H H' v F := by
  obtain ⟨a, b, ps, hv, hf', hps, hc, hb, hab, hkb⟩ := h
  exact ⟨a, b, ps, hv, hf.trans hf', hps, hc.lo hf.len, hb.lo hf.len, hab, hkb⟩
theorem CI.done {lo L0 O R : Nat} {H0 H1 : Hp} {a b : Option Addr} {ps : List (Nd × Option Addr)} {F : Fo} (h : CI L0 H0 H1 O R b F.b a ps F.n) (hlo : lo ≤ R) (h0 : H0.length ≤ R) (hRO : R < O) (hO : O < L0) (hbO : ∀ i, Ad b i → i < L0 ∧ i ≠ O ∧ i ≠ R) :
    rdN H1 ⟨O, 0, none⟩ 2 = some [.slice a ps.length (sg a 3), .slice b F.b.length (sg b 2)] ∧ wrN lo H1 ⟨R, 0, none⟩ [.slice a ps.length (sg a 3), .slice b F.b.length (sg b 2)] = some (setB H1 R [.slice a ps.length (sg a 3), .slice b F.b.length (sg b 2)]) ∧
    rdN (setB H1 R [.slice a ps.length (sg a 3), .slice b F.b.length (sg b 2)]) ⟨R, 0, none⟩ 2 = some [.slice a ps.length (sg a 3), .slice b F.b.length (sg b 2)] ∧ NewM H0 (setB H1 R [.slice a ps.length (sg a 3), .slice b F.b.length (sg b 2)]) (.agg #[.slice a ps.length (sg a 3), .slice b F.b.length (sg b 2)]) F := by
  have hfr := Fr.setB h.r [.slice a ps.length (sg a 3), .slice b F.b.length (sg b 2)]
  refine ⟨by simp [rdN, h.o], wr_setB h.r hlo _ rfl, rdN_setB h.r 2 _ rfl, a, b, ps, rfl, (h.f.no.trans hfr).new (fun i e => by rw [e]; exact h0), h.p, ?_, h.b.fw hfr.w (fun i hi e => (hbO i hi).2.2 e), fun i hi hi' => ?_, fun j p hp i hi hi' => ?_⟩
  · refine (h.c.fw hfr.w (fun i hi e => ?_) (fun j p hp i hi e => ?_)).lo (by omega)
    · have := (h.c.hd.lt hi).1; omega
    · have := (h.c.lt hp hi).1; omega
  · have := (h.c.hd.lt hi).1
    have := (hbO i hi').1; omega
  · have := (h.c.lt hp hi).1
    have := (hbO i hi').1; omega
theorem take_map_succ {l : List Nd} {i : Nat} (h : i < l.length) : l.take i ++ [l[i]] = l.take (i + 1) := (List.take_succ_eq_append_getElem h).symm
theorem kid_new {H H3 : Hp} {ik : Nat} {l : List Int} (h : NI H.length H3 ik l) {N m : Nat} (hN : N < H.length) (hm : m ≤ H.length) : ∀ A, (some ⟨ik, 0, none⟩ : Option Addr) = some A → A.spot = none ∧ A.off = 0 ∧ WB m H3 A.block ∧ A.block ≠ N := fun A e => by
  cases e
  obtain ⟨⟨k0, hb, _⟩, hlo⟩ := h
  exact ⟨rfl, rfl, ⟨(show m ≤ ik by omega), _, hb, rfl⟩, (show ik ≠ N by omega)⟩
/-- A copy of a forest: the reference's. -/
theorem l4Copy_c (d lo : Nat) (H : Hp) {an nn ab nb F} (h : RX H an nn ab nb F) (hn : F.n.length ≤ 60) (hb : F.b.length ≤ 24) (hk : ∀ x ∈ F.n, x.k.length ≤ 4) :
    ∃ v H', vcall env (d + 1) 123 [.agg #[.slice an nn (sg an 3), .slice ab nb (sg ab 2)]] lo H = some (v, H') ∧ NewM H H' v F := by
  have n1 := h.r.n.1
  have n2 := h.r.b.1
  subst n1 n2
  have hsm : Sm F.n.length := by unfold Sm; omega
  obtain ⟨H0, hH0⟩ : ∃ H0 : Hp, H0 = H ++ [some ⟨[.slice an F.n.length (sg an 3), .slice ab F.b.length (sg ab 2)], true, false⟩] := ⟨_, rfl⟩
  have f0 : Fn H H0 := hH0 ▸ Fr.app
  have l0 : H0.length = H.length + 1 := by rw [hH0]; simp
  have p0 : PF H0 H.length 0 an F.n.length ab F.b.length F := by rw [hH0]; exact ⟨by simp [rd0], by simp [rd0], h.r.app⟩
  obtain ⟨HA, hHA⟩ : ∃ HA : Hp, HA = H0 ++ [some ⟨[.slice none 0 0, .slice none 0 0], true, false⟩] := ⟨_, rfl⟩
  have fA : Fn H0 HA := hHA ▸ Fr.app
  have lA : HA.length = H.length + 2 := by rw [hHA]; simp [l0]
  have rA : HA.blk (H.length + 1) = some ⟨[.slice none 0 0, .slice none 0 0], true, false⟩ := by rw [hHA, ← l0]; exact blk0
  obtain ⟨ib, H1, ha, f1, hib, hd1⟩ := cloneB (lo := H.length) (h.fn (f0.trans fA)).r.b (h.b.fn (f0.trans fA)) (by omega) (by omega : F.b.length ≤ 1000)
  have l1 := f1.len
  have hdl := hd1.lt (i := ib) ⟨0, rfl⟩
  have eb := (p0.fn fA).b
  -- the cell of what is made
  obtain ⟨HO, hHO⟩ : ∃ HO : Hp, HO = H1 ++ [some ⟨[.slice none 0 0, .slice (some ⟨ib, 0, none⟩) F.b.length 2], true, false⟩] := ⟨_, rfl⟩
  have fO : Fn H1 HO := hHO ▸ Fr.app
  have lO : HO.length = H1.length + 1 := by rw [hHO]; simp
  have hloop : ∃ r, lim (rnd (vcall env d) H.length [1, 2, 3, 4] [2, 3] l123_0) [(1, .pointer (some ⟨H.length, 0, none⟩)), (2, .pointer (some ⟨H.length + 1, 0, none⟩)), (3, .pointer (some ⟨H1.length, 0, none⟩)), (4, .int .i64 0)] HO = some r ∧
      ∃ H2 a ps, r = (.exit 0, [(2, .pointer (some ⟨H.length + 1, 0, none⟩)), (3, .pointer (some ⟨H1.length, 0, none⟩))], H2) ∧ CI HO.length H0 H2 H1.length (H.length + 1) (some ⟨ib, 0, none⟩) F.b a ps F.n := by
    refine lim_inv (fun i ts H2 => ∃ a ps, ts = [(1, .pointer (some ⟨H.length, 0, none⟩)), (2, .pointer (some ⟨H.length + 1, 0, none⟩)), (3, .pointer (some ⟨H1.length, 0, none⟩)), (4, .int .i64 (i : Nat))] ∧ CI HO.length H0 H2 H1.length (H.length + 1) (some ⟨ib, 0, none⟩) F.b a ps (F.n.take i)) F.n.length ?_ ?_ ?_
    · rintro i ts H2 hi ⟨a, ps, rfl, ci⟩
      have hmem := List.getElem_mem hi
      have p2 := p0.fn ci.f
      have hpl : ps.length = i := by have := congrArg List.length ci.p; rw [List.length_map, List.length_take] at this; omega
      have g0 := p2.n
      have rx2 := (h.fn (f0.trans ci.f))
      obtain ⟨q0, qo, rfl, e1, e2, a3, n3, e3, e4⟩ := p2.f.n.at hi
      obtain ⟨ad, e3', hex⟩ := rx2.k q0 qo rfl i _ (getE hi)
      rw [e3] at e3'
      injection e3' with e3'
      injection e3' with q1 q2 q3
      subst q1 q2
      have he := rdN3 e1 e2 e3
      have hk4 := hk _ hmem
      have hp999 : ps.length < 999 := by omega
      have htk := take_map_succ hi
      have l2 := ci.f.len
      have l2' := ci.le
      simp only [sgs] at g0
      generalize F.n[i] = x at *
      obtain ⟨HN, hHN⟩ : ∃ HN : Hp, HN = H2 ++ [some ⟨[.int .i64 x.r, .bool x.f, .slice a3 x.k.length (sg a3 1)], true, false⟩] := ⟨_, rfl⟩
      have fN : Fn H2 HN := hHN ▸ Fr.app
      have lN : HN.length = H2.length + 1 := by rw [hHN]; simp
      have hkid : rd HN ⟨H2.length, 2, none⟩ = some (.slice a3 x.k.length (sg a3 1)) := by rw [hHN]; simp [rd0]
      obtain ⟨ik, H3, hak, f3, hni, hil3, _⟩ := cloneI (lo := H.length) (e4.fnI fN) (hex.fn fN) (by omega) (by omega : x.k.length ≤ 1000)
      have hbN : H3.blk H2.length = some ⟨[.int .i64 x.r, .bool x.f, .slice a3 x.k.length (sg a3 1)], true, false⟩ := (f3.blk _ (by omega) id).trans (by rw [hHN]; exact blk0)
      obtain ⟨w2, g2, r2, H4, ha4, H5, w5, ci5⟩ := ci.next (lo := H.length) (c := some ⟨ik, 0, none⟩) (by omega) (by omega) (by omega) (by omega) (fun k ⟨o, e⟩ => by cases e; omega) (fN.trans f3) H2.length (Nat.le_refl _) a3 hbN hni.rep' (kid_new hni (by omega) (by omega)) hp999
      have hw : IntKind.i64.wrap ((i : Int) + 1) = ((i + 1 : Nat) : Int) := hsm.w hi
      have hgN := rdN_setB hbN 3 (nV x (some ⟨ik, 0, none⟩)) rfl
      have hle : (H.length ≤ H2.length) = True := eq_true (by omega)
      rw [htk] at ci5
      refine ⟨[(1, .pointer (some ⟨H.length, 0, none⟩)), (2, .pointer (some ⟨H.length + 1, 0, none⟩)), (3, .pointer (some ⟨H1.length, 0, none⟩)), (4, .int .i64 ((i + 1 : Nat) : Int))], H5, ?_, some ⟨H3.length + 1, 0, none⟩, ps ++ [(x, some ⟨ik, 0, none⟩)], rfl, ci5⟩
      subst hHN
      simp only [List.length_append, List.length_cons, List.length_nil, Nat.zero_add, List.append_assoc, List.cons_append, List.nil_append] at hak
      simp only [nV, sgs] at w2 g2 r2 ha4 w5
      have h10 : (1 == 0) = false := rfl
      simp -implicitDefEqProofs only [rnd, l123_0, VMs, noRef, noRef1, isRef, List.all_cons, List.all_nil, vop, VOp.still, VOp.app, VOp.plain, allP, lof, evs, start, asI, vbin, vcells, ntup, setAll, vfill, vress, vres, tup, Nat.reduceEqDiff, ↓reduceIte, Nat.reduceAdd, Nat.reduceMul, Nat.reduceLeDiff, reduceCtorEq, slen, g0, ltc hi, ge0, hle, decide_true, Int.toNat_natCast, he, beq_self_eq_true, hak, w2, g2, r2, setB_len, h10, ha4, w5, hw]
    · rintro ts H2 ⟨a, ps, rfl, ci⟩
      rw [List.take_length] at ci
      have g0 := (p0.fn ci.f).n
      exact ⟨(.exit 0, [(2, .pointer (some ⟨H.length + 1, 0, none⟩)), (3, .pointer (some ⟨H1.length, 0, none⟩))], H2), by simp -implicitDefEqProofs only [rnd, l123_0, VMs, noRef, noRef1, isRef, List.all_cons, List.all_nil, vop, VOp.still, VOp.app, VOp.plain, allP, lof, evs, start, asI, vbin, vcells, ntup, setAll, vfill, vress, vres, tup, Nat.reduceEqDiff, ↓reduceIte, Nat.reduceAdd, Nat.reduceMul, Nat.reduceLeDiff, reduceCtorEq, g0, slen, Int.lt_irrefl, decide_false], by simp, H2, a, ps, rfl, ci⟩
    · refine ⟨none, [], rfl, ⟨fA.trans (f1.trans fO), Nat.le_refl _, by rw [hHO]; exact blk0, ((f1.trans fO).blk _ (by omega) id).trans rA, CP.nil _ _, (hd1.fw (S := fun _ => False) fO.w (fun _ _ => id)).lo (by omega), rfl⟩⟩
  obtain ⟨_, hl, H2, a, ps, rfl, ci⟩ := hloop
  obtain ⟨x1, x2, x3, x4⟩ := ci.done (lo := H.length) (by omega) (by omega) (by omega) (by omega) (fun k ⟨o, e⟩ => by cases e; omega)
  refine ⟨_, _, ?_, x4.old f0⟩
  rw [call_eq find123 _ _ _ rfl]
  subst hHO hHA hH0
  simp only [List.length_append, List.length_cons, List.length_nil, Nat.zero_add, Nat.reduceAdd, List.append_assoc, List.cons_append, List.nil_append] at ha hl eb
  have hle1 : (H.length ≤ H1.length) = True := eq_true (by have := f1.len; simp at this; omega)
  simp only [sgs] at x1 x2 x3
  simp -implicitDefEqProofs only [v123, VMs, vop, VOp.still, VOp.app, VOp.plain, allP, lof, evs, start, asI, vbin, vcells, ntup, setAll, vfill, vress, vres, tup, Nat.reduceEqDiff, ↓reduceIte, Nat.reduceAdd, Nat.reduceMul, Nat.reduceLeDiff, reduceCtorEq, beq_self_eq_true, ha, vlp, hl, x1, x2, x3, hle1, noRef, noRef1, isRef_some, List.all_cons, List.all_nil]
theorem NewM.done {H H2 : Hp} {v : Value} {F : Fo} (h : NewM H H2 v F) : NewM H (if noRef v = true then H else H2) v F := by
  by_cases hn : noRef v = true
  · rw [if_pos hn]
    obtain ⟨a, b, ps, rfl, f, hp, hc, hb, _⟩ := h
    have hab : a = none ∧ b = none := by cases a <;> cases b <;> simp_all [noRef, noRef1, isRef]
    obtain ⟨rfl, rfl⟩ := hab
    have hps : ps = [] := by
      rcases hc.hd with ⟨_, e, _⟩ | ⟨i, _, e, _⟩
      · exact List.length_eq_zero_iff.1 e
      · cases e
    subst hps
    exact ⟨none, none, [], rfl, Fr.refl, hp, CP.nil _ _, (by
      rcases hb with h1 | ⟨i, _, e, _⟩
      · exact Or.inl h1
      · cases e), fun i hi => hi.no.elim, fun j p hp => by simp at hp⟩
  · rw [if_neg hn]; exact h
/-- A copy of a forest: the program's. -/
theorem ownForest_c (d lo : Nat) (H : Hp) {an nn ab nb F} (h : RX H an nn ab nb F) (hn : F.n.length ≤ 60) (hb : F.b.length ≤ 24) (hk : ∀ x ∈ F.n, x.k.length ≤ 4) :
    ∃ v H', vcall env (d + 2) 124 [.agg #[.slice an nn (sg an 3), .slice ab nb (sg ab 2)]] lo H = some (v, H') ∧ NewM H H' v F := by
  have n1 := h.r.n.1
  have n2 := h.r.b.1
  subst n1 n2
  have hsm : Sm F.n.length := by unfold Sm; omega
  obtain ⟨H0, hH0⟩ : ∃ H0 : Hp, H0 = H ++ [some ⟨[.slice an F.n.length (sg an 3), .slice ab F.b.length (sg ab 2)], true, false⟩] := ⟨_, rfl⟩
  have f0 : Fn H H0 := hH0 ▸ Fr.app
  have l0 : H0.length = H.length + 1 := by rw [hH0]; simp
  have p0 : PF H0 H.length 0 an F.n.length ab F.b.length F := by rw [hH0]; exact ⟨by simp [rd0], by simp [rd0], h.r.app⟩
  obtain ⟨HA, hHA⟩ : ∃ HA : Hp, HA = H0 ++ [some ⟨[.slice none 0 0, .slice none 0 0], true, false⟩] := ⟨_, rfl⟩
  have fA : Fn H0 HA := hHA ▸ Fr.app
  have lA : HA.length = H.length + 2 := by rw [hHA]; simp [l0]
  have rA : HA.blk (H.length + 1) = some ⟨[.slice none 0 0, .slice none 0 0], true, false⟩ := by rw [hHA, ← l0]; exact blk0
  obtain ⟨b, H1, ha, f1, hd1⟩ := cloneBlocks_c d H.length HA (h.fn (f0.trans fA)).r.b (h.b.fn (f0.trans fA)) (by omega : F.b.length ≤ 1000)
  have l1 := f1.len
  have hdl := fun i (hi : Ad b i) => hd1.lt hi
  have eb := (p0.fn fA).b
  have en1 := (p0.fn (fA.trans f1)).n
  -- the cell of what is made
  obtain ⟨HO, hHO⟩ : ∃ HO : Hp, HO = H1 ++ [some ⟨[.slice none 0 0, .slice b F.b.length (sg b 2)], true, false⟩] := ⟨_, rfl⟩
  have fO : Fn H1 HO := hHO ▸ Fr.app
  have lO : HO.length = H1.length + 1 := by rw [hHO]; simp
  have hloop : ∃ r, lim (rnd (vcall env (d + 1)) H.length [2, 3, 11, 12, 13] [2, 3] l124_0) [(2, .pointer (some ⟨H.length + 1, 0, none⟩)), (3, .pointer (some ⟨H1.length, 0, none⟩)), (11, .slice an F.n.length (sg an 3)), (12, .int .i64 (F.n.length : Nat)), (13, .int .i64 0)] HO = some r ∧
      ∃ H2 a ps, r = (.exit 0, [(2, .pointer (some ⟨H.length + 1, 0, none⟩)), (3, .pointer (some ⟨H1.length, 0, none⟩))], H2) ∧ CI HO.length H0 H2 H1.length (H.length + 1) b F.b a ps F.n := by
    refine lim_inv (fun i ts H2 => ∃ a ps, ts = [(2, .pointer (some ⟨H.length + 1, 0, none⟩)), (3, .pointer (some ⟨H1.length, 0, none⟩)), (11, .slice an F.n.length (sg an 3)), (12, .int .i64 (F.n.length : Nat)), (13, .int .i64 (i : Nat))] ∧ CI HO.length H0 H2 H1.length (H.length + 1) b F.b a ps (F.n.take i)) F.n.length ?_ ?_ ?_
    · rintro i ts H2 hi ⟨a, ps, rfl, ci⟩
      have hmem := List.getElem_mem hi
      have p2 := p0.fn ci.f
      have hpl : ps.length = i := by have := congrArg List.length ci.p; rw [List.length_map, List.length_take] at this; omega
      have rx2 := (h.fn (f0.trans ci.f))
      obtain ⟨q0, qo, rfl, e1, e2, a3, n3, e3, e4⟩ := p2.f.n.at hi
      obtain ⟨ad, e3', hex⟩ := rx2.k q0 qo rfl i _ (getE hi)
      rw [e3] at e3'
      injection e3' with e3'
      injection e3' with q1 q2 q3
      subst q1 q2
      have he := rdN3 e1 e2 e3
      have hk4 := hk _ hmem
      have hp999 : ps.length < 999 := by omega
      have htk := take_map_succ hi
      have l2 := ci.f.len
      have l2' := ci.le
      generalize F.n[i] = x at *
      obtain ⟨HN, hHN⟩ : ∃ HN : Hp, HN = H2 ++ [some ⟨[.int .i64 x.r, .bool x.f, .slice a3 x.k.length (sg a3 1)], true, false⟩] := ⟨_, rfl⟩
      have fN : Fn H2 HN := hHN ▸ Fr.app
      have lN : HN.length = H2.length + 1 := by rw [hHN]; simp
      obtain ⟨c, H3, hak, hfi⟩ := cloneInts_c d H.length HN (e4.fnI fN) (hex.fn fN) (by omega : x.k.length ≤ 1000)
      have f3 := hfi.f
      have hbN : H3.blk H2.length = some ⟨[.int .i64 x.r, .bool x.f, .slice a3 x.k.length (sg a3 1)], true, false⟩ := (f3.blk _ (by omega) id).trans (by rw [hHN]; exact blk0)
      obtain ⟨w2, g2, r2, H4, ha4, H5, w5, ci5⟩ := ci.next (lo := H.length) (c := c) (by omega) (by omega) (by omega) (by omega) (fun k hk => by have := hdl k hk; omega) (fN.trans f3) H2.length (Nat.le_refl _) a3 hbN hfi.r (fun A e => by
        obtain ⟨g1, g2, g3⟩ := hfi.o A e
        have := g3.1
        exact ⟨g1, g2, g3.lo (by omega), by omega⟩) hp999
      have hw : IntKind.i64.wrap ((i : Int) + 1) = ((i + 1 : Nat) : Int) := hsm.w hi
      have hle : (H.length ≤ H2.length) = True := eq_true (by omega)
      rw [htk] at ci5
      refine ⟨[(2, .pointer (some ⟨H.length + 1, 0, none⟩)), (3, .pointer (some ⟨H1.length, 0, none⟩)), (11, .slice (some ⟨q0, qo, none⟩) F.n.length 3), (12, .int .i64 (F.n.length : Nat)), (13, .int .i64 ((i + 1 : Nat) : Int))], H5, ?_, some ⟨H3.length + 1, 0, none⟩, ps ++ [(x, c)], rfl, ci5⟩
      subst hHN
      simp only [nV] at w2 g2 r2 ha4 w5
      have h10 : (1 == 0) = false := rfl
      simp -implicitDefEqProofs only [rnd, l124_0, VMs, noRef, noRef1, isRef, List.all_cons, List.all_nil, vop, VOp.still, VOp.app, VOp.plain, allP, lof, evs, start, asI, vbin, vcells, ntup, setAll, vfill, vress, vres, tup, Nat.reduceEqDiff, ↓reduceIte, Nat.reduceAdd, Nat.reduceMul, Nat.reduceLeDiff, reduceCtorEq, slen, ltc hi, ge0, hle, decide_true, Int.toNat_natCast, he, hak, w2, g2, r2, setB_len, h10, ha4, w5, hw]
    · rintro ts H2 ⟨a, ps, rfl, ci⟩
      rw [List.take_length] at ci
      exact ⟨(.exit 0, [(2, .pointer (some ⟨H.length + 1, 0, none⟩)), (3, .pointer (some ⟨H1.length, 0, none⟩))], H2), by simp -implicitDefEqProofs only [rnd, l124_0, VMs, noRef, noRef1, isRef, List.all_cons, List.all_nil, vop, VOp.still, VOp.app, VOp.plain, allP, lof, evs, start, asI, vbin, vcells, ntup, setAll, vfill, vress, vres, tup, Nat.reduceEqDiff, ↓reduceIte, Nat.reduceAdd, Nat.reduceMul, Nat.reduceLeDiff, reduceCtorEq, slen, Int.lt_irrefl, decide_false], by simp, H2, a, ps, rfl, ci⟩
    · refine ⟨none, [], rfl, ⟨fA.trans (f1.trans fO), Nat.le_refl _, by rw [hHO]; exact blk0, ((f1.trans fO).blk _ (by omega) id).trans rA, CP.nil _ _, (hd1.fw (S := fun _ => False) fO.w (fun _ _ => id)).lo (by omega), rfl⟩⟩
  obtain ⟨_, hl, H2, a, ps, rfl, ci⟩ := hloop
  obtain ⟨x1, x2, x3, x4⟩ := ci.done (lo := H.length) (by omega) (by omega) (by omega) (by omega) (fun k hk => by have := hdl k hk; omega)
  refine ⟨_, _, ?_, (x4.old f0).done⟩
  have en : rd HO ⟨H.length, 0, none⟩ = some (.slice an F.n.length (sg an 3)) := (p0.fn (fA.trans (f1.trans fO))).n
  rw [call_eq find124 _ _ _ rfl]
  subst hHA hH0
  simp only [List.append_assoc, List.cons_append, List.nil_append] at ha hl eb
  rw [hHO] at en hl
  have hle1 : (H.length ≤ H1.length) = True := eq_true (by simp at l1; omega)
  simp -implicitDefEqProofs only [v124, VMs, vop, VOp.still, VOp.app, VOp.plain, allP, lof, evs, start, asI, vbin, vcells, ntup, setAll, vfill, vress, vres, tup, Nat.reduceEqDiff, ↓reduceIte, Nat.reduceAdd, Nat.reduceMul, Nat.reduceLeDiff, reduceCtorEq, ha, hle1, en, slen, vlp, hl, x1, x2, x3]
end Go.Proofs.Ytmcljallamhccaa.V
