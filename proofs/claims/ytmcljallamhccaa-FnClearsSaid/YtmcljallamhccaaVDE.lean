/- ShareTree: the program's and the reference's. -/
import Derived.Test.YtmcljallamhccaaVDB
namespace Go.Proofs.Ytmcljallamhccaa.V
open Go
set_option linter.unusedVariables false
set_option linter.unusedSimpArgs false
set_option maxRecDepth 100000
/-- A small forest. -/
structure Sml (F : Fo) : Prop where
  n : F.n.length ≤ 60
  b : F.b.length ≤ 24
  k : ∀ x ∈ F.n, x.k.length ≤ 4
theorem Sml.nil : Sml ⟨[], []⟩ := ⟨by simp, by simp, fun x hx => by simp at hx⟩
theorem Sml.sf {F : Fo} (h : Sml F) : SF F := ⟨by have := h.n; unfold Sm; omega, by have := h.b; unfold Sm; omega, fun x hx => by have := h.k x hx; unfold Sm; omega⟩
theorem Sml.km {F : Fo} (h : Sml F) : Km (1 + sF F) := by
  have key : ∀ l : List Nd, (∀ x ∈ l, x.k.length ≤ 4) → sN l ≤ 6 * (l.length : Int) := by
    intro l
    induction l with
    | nil => intro _; simp [sN]
    | cons x r ih =>
      intro hl
      have h1 := ih fun y hy => hl y (by simp [hy])
      have h2 := hl x (by simp)
      simp only [sN, List.length_cons]; omega
  have h1 := key F.n h.k
  have h2 := sN_nonneg F.n
  have h3 := h.n
  have h4 := h.b
  unfold Km sF
  omega
theorem Good.sml {F : Fo} (g : Good F) : Sml F := by
  refine ⟨g.l, ?_, fun x hx => ?_⟩
  · have := g.b
    unfold fB at this
    by_cases h24 : 24 < F.b.length
    · rw [if_pos h24] at this; omega
    · omega
  · have := g.n x hx
    by_cases hr : x.r = 0
    · unfold nodeF at this
      rw [if_pos (by omega), if_pos hr] at this
      by_cases hc : x.f = true ∨ 0 < x.k.length
      · rw [if_pos hc] at this; omega
      · have : ¬ 0 < x.k.length := fun e => hc (Or.inr e)
        omega
    · have := (nodeF_four this hr).1; omega
theorem Sml.set {F : Fo} (h : Sml F) (i : Nat) (y : Nd) (hy : y.k.length ≤ 4) : Sml ⟨F.n.set i y, F.b⟩ :=
  ⟨by simpa using h.n, h.b, fun x hx => by
    rcases List.mem_or_eq_of_mem_set hx with e | e
    · exact h.k x e
    · rw [e]; exact hy⟩
/-- The result, out of what is behind the pointer. -/
theorem MF.newR {lo : Nat} {H H1 : Hp} {q : Nat} {a b : Option Addr} {ps : List (Nd × Option Addr)} {B : List Bk} (h : MF lo H1 q a b ps B) (hf : Fn H H1) (hlo : H.length ≤ lo) {R : Nat} {cs : List Value} (hR : H1.blk R = some ⟨cs, true, false⟩) (hR0 : H.length ≤ R) (hR1 : R < lo) (c r : Int) :
    NewR H (setB H1 R [.int .i64 c, .int .i64 r, .slice a ps.length (sg a 3), .slice b B.length (sg b 2)]) (.agg #[.int .i64 c, .int .i64 r, .slice a ps.length (sg a 3), .slice b B.length (sg b 2)]) c r (foP ps B) := by
  have hfr := Fr.setB hR [.int .i64 c, .int .i64 r, .slice a ps.length (sg a 3), .slice b B.length (sg b 2)]
  obtain ⟨H2, hH2⟩ : ∃ H2, H2 = setB H1 R [.int .i64 c, .int .i64 r, .slice a ps.length (sg a 3), .slice b B.length (sg b 2)] := ⟨_, rfl⟩
  rw [← hH2] at hfr ⊢
  have hc := h.n.fw hfr.w (fun i hi e => by have := (h.n.hd.lt hi).1; omega) (fun j p hp i hi e => by have := (h.n.lt hp hi).1; omega)
  have hb := h.bl.fw hfr.w (fun i hi e => by have := (h.bl.lt hi).1; omega)
  refine ⟨fun i => Ad a i ∨ ∃ (j : Nat) (p : Nd × Option Addr), ps[j]? = some p ∧ Ad p.2 i, fun i => Ad b i, a, ps.length, b, B.length, rfl, (hf.no.trans hfr).new (fun i e => by rw [e]; exact hR0), fun i hi => ?_, ⟨⟨by simp [foP], fun hn => ?_⟩, hb.rep, fun i hi => ⟨?_, hi⟩, fun i hi hi' => ?_, fun i hi => ?_, fun A e => ?_⟩⟩
  · rcases hi with (hi | ⟨j, p, hp, hi⟩) | hi
    · have := (hc.hd.lt hi).1; omega
    · have := (hc.lt hp hi).1; omega
    · have := (hb.lt hi).1; omega
  · have hl : 0 < ps.length := by
      rcases Nat.eq_zero_or_pos ps.length with e | e
      · have : ps = [] := List.length_eq_zero_iff.1 e
        subst this; simp [foP] at hn
      · exact e
    obtain ⟨p, rfl, ⟨k0, hbp⟩, hlop, _⟩ := hc.rep hl
    refine ⟨p, 0, fun j => (ps[j]?).bind (·.2), rfl, ⟨⟨by omega, _, hbp, rfl⟩, Or.inl ⟨0, rfl⟩⟩, fun j x hx => ?_, fun j x hx i hi => ?_, fun j j' x x' hx hx' hne i hi hi' => ?_, fun j x hx A hA => ?_⟩
    · simp only [foP, List.getElem?_map] at hx
      obtain ⟨pj, hpj, rfl⟩ := Option.map_eq_some_iff.1 hx
      obtain ⟨hj, e⟩ := List.getElem?_eq_some_iff.1 hpj
      obtain ⟨p', e', _, _, g0, g1, g2⟩ := hc.rep hj
      cases e'
      rw [e] at g0 g1 g2
      simp only [hpj, Option.bind_some, Nat.zero_add]
      exact ⟨g0, g1, g2, (hc.k j pj hpj).1⟩
    · simp only [foP, List.getElem?_map] at hx
      obtain ⟨pj, hpj, rfl⟩ := Option.map_eq_some_iff.1 hx
      simp only [hpj, Option.bind_some] at hi
      obtain ⟨o, e⟩ := hi
      obtain ⟨_, _, w, z⟩ := (hc.k j pj hpj).2 _ e
      exact ⟨w.lo hlo, Or.inr ⟨j, pj, hpj, o, e⟩, fun e' => z 0 (by simp only at e' ⊢; rw [e'])⟩
    · simp only [foP, List.getElem?_map] at hx hx'
      obtain ⟨pj, hpj, rfl⟩ := Option.map_eq_some_iff.1 hx
      obtain ⟨pj', hpj', rfl⟩ := Option.map_eq_some_iff.1 hx'
      simp only [hpj, hpj', Option.bind_some] at hi hi'
      obtain ⟨o, e⟩ := hi
      obtain ⟨o', e'⟩ := hi'
      exact hc.ne j j' pj pj' hpj hpj' hne _ _ e e' rfl
    · simp only [foP, List.getElem?_map] at hx
      obtain ⟨pj, hpj, rfl⟩ := Option.map_eq_some_iff.1 hx
      simp only [hpj, Option.bind_some] at hA
      obtain ⟨u, v, _⟩ := (hc.k j pj hpj).2 A hA
      exact ⟨u, v⟩
  · obtain ⟨o, e⟩ := hi
    rcases hb with ⟨h1, _⟩ | ⟨i', k0, h1, h2, h3, h4, h5⟩
    · rw [h1] at e; cases e
    · rw [h1] at e; cases e; exact ⟨by omega, _, h2, rfl⟩
  · rcases hi with hi | ⟨j, p, hp, hi⟩
    · exact h.ab i hi hi'
    · exact (h.kb j p hp i hi).1 hi'
  · rcases hi with (hi | ⟨j, p, hp, hi⟩) | hi
    · exact (hc.hd.lt hi).2
    · exact (hc.lt hp hi).2
    · exact (hb.lt hi).2
  · rcases hb with ⟨h1, _⟩ | ⟨i', k0, h1, _⟩
    · rw [h1] at e; cases e
    · rw [h1] at e; cases e; exact ⟨rfl, rfl⟩
/-- The code and the root of a shared tree, and the forest. -/
def resShareTree (F : Fo) (root : Int) : Int × Int × Fo :=
  if askF F root true = 0 then
    if root = -1 then (0, -1, F)
    else match F.n[root.toNat]? with
      | some x => if 200 ≤ x.r then (2, 0, ⟨[], []⟩) else (0, root, ⟨F.n.set root.toNat ⟨x.r + 1, x.f, x.k⟩, F.b⟩)
      | none => (0, 0, ⟨[], []⟩)
  else (askF F root true, 0, ⟨[], []⟩)
theorem resShareTree_sml (F : Fo) (root : Int) : Sml (resShareTree F root).2.2 := by
  unfold resShareTree
  by_cases h0 : askF F root true = 0
  · rw [if_pos h0]
    obtain ⟨g, _⟩ := ask_zero h0
    by_cases h1 : root = -1
    · rw [if_pos h1]; exact g.sml
    · rw [if_neg h1]
      cases hx : F.n[root.toNat]? with
      | none => exact Sml.nil
      | some x =>
        simp only
        by_cases h2 : 200 ≤ x.r
        · rw [if_pos h2]; exact Sml.nil
        · rw [if_neg h2]; exact g.sml.set _ _ (g.sml.k x (List.mem_of_getElem? hx))
  · rw [if_neg h0]; exact Sml.nil
theorem resShareTree_sz (F : Fo) (root : Int) : SF (resShareTree F root).2.2 ∧ Km (1 + sF (resShareTree F root).2.2) := ⟨(resShareTree_sml F root).sf, (resShareTree_sml F root).km⟩
theorem foP_set {ps : List (Nd × Option Addr)} {B : List Bk} {F : Fo} (h : ps.map (·.1) = F.n) (hb : B = F.b) (j : Nat) (x : Nd) (ad : Option Addr) : foP (ps.set j (x, ad)) B = ⟨F.n.set j x, F.b⟩ := by
  unfold foP; rw [List.map_set, h, hb]
theorem ps_at {ps : List (Nd × Option Addr)} {l : List Nd} (h : ps.map (·.1) = l) {j : Nat} (hj : j < l.length) : ∃ ad, ps[j]? = some (l[j], ad) ∧ ps.length = l.length := by
  subst h
  have hl : (ps.map (·.1)).length = ps.length := List.length_map _
  refine ⟨(ps[j]'(by omega)).2, ?_, hl.symm⟩
  rw [getE (by omega : j < ps.length), List.getElem_map]
theorem MF.kid2 {lo : Nat} {H : Hp} {q : Nat} {a b : Option Addr} {ps : List (Nd × Option Addr)} {B : List Bk} (h : MF lo H q a b ps B) {j : Nat} {x : Nd × Option Addr} (hx : ps[j]? = some x) : ∀ A, x.2 = some A → A.spot = none ∧ A.off = 0 ∧ WB lo H A.block ∧ ¬ Ad a A.block ∧ ¬ Ad b A.block ∧ A.block ≠ q ∧ ∀ (i : Nat) p, ps[i]? = some p → i ≠ j → ∀ A', p.2 = some A' → A'.block ≠ A.block := by
  intro A hA
  obtain ⟨u, v, w, z⟩ := (h.n.k j x hx).2 A hA
  have hAd : Ad x.2 A.block := ⟨A.off, by rw [hA]; cases A; simp only at u; subst u; rfl⟩
  obtain ⟨k1, k2⟩ := h.kb j x hx _ hAd
  exact ⟨u, v, w, fun ⟨o, e⟩ => z o e, k1, k2, fun i p hp hi A' hA' => h.n.ne i j p x hp hx hi A' A hA' hA⟩
/-- How many refer to a node. -/
theorem MF.refs {lo : Nat} {H : Hp} {q : Nat} {a b : Option Addr} {ps : List (Nd × Option Addr)} {B : List Bk} (h : MF lo H q a b ps B) {j : Nat} {x : Nd} {ad : Option Addr} (hx : ps[j]? = some (x, ad)) (r : Int) :
    ∃ p H', a = some ⟨p, 0, none⟩ ∧ rd H ⟨p, j * 3, none⟩ = some (.int .i64 x.r) ∧ wrN lo H ⟨p, j * 3, none⟩ [.int .i64 r] = some H' ∧ MF lo H' q a b (ps.set j (⟨r, x.f, x.k⟩, ad)) B ∧ Fr (Ad a) H H' ∧ H'.length = H.length := by
  have hj : j < ps.length := (List.getElem?_eq_some_iff.1 hx).1
  obtain ⟨p', e', _, _, g0, _⟩ := h.n.rep hj
  have hpx : ps[j] = (x, ad) := by rw [getE hj] at hx; exact Option.some.inj hx
  rw [hpx] at g0
  obtain ⟨p, H', ha, w, m, f, l⟩ := h.node hx (o := 0) (vs := [.int .i64 r]) (by simp) (⟨r, x.f, x.k⟩, ad) (by simp [vN, nV, setAll]) (h.n.k j _ hx).1 (fun A e => h.kid2 hx A e)
  rw [e'] at ha; cases ha
  exact ⟨p', H', e', g0, w, m, f, l⟩
theorem nodeLe {F : Fo} (g : Good F) {x : Nd} (hx : x ∈ F.n) : 0 ≤ x.r ∧ x.r ≤ 200 := by
  have := g.n x hx
  unfold nodeF at this
  by_cases h : 0 ≤ x.r ∧ x.r ≤ 200
  · exact h
  · rw [if_neg h] at this; omega
theorem wr_lo {lo lo' : Nat} {H H' : Hp} {A : Addr} {vs : List Value} (h : wrN lo H A vs = some H') (hl : lo' ≤ lo) : wrN lo' H A vs = some H' := by
  unfold wrN at h ⊢
  simp only [Option.bind_eq_some_iff] at h ⊢
  obtain ⟨bb, hb, hc⟩ := h
  refine ⟨bb, hb, ?_⟩
  split at hc
  · rename_i hcond
    rw [if_pos ⟨by omega, hcond.2⟩]; exact hc
  · cases hc
theorem specShareTree_c (d lo : Nat) (H : Hp) {an nn ab nb F} (h : RX H an nn ab nb F) (hs : SF F) (root : Int) :
    ∃ v H', vcall env (d + 6) 64 [.agg #[.slice an nn (sg an 3), .slice ab nb (sg ab 2)], .int .i64 root] lo H = some (v, H') ∧ NewR H H' v (resShareTree F root).1 (resShareTree F root).2.1 (resShareTree F root).2.2 := by
  have n1 := h.r.n.1
  have n2 := h.r.b.1
  subst n1 n2
  obtain ⟨HA, hHA⟩ : ∃ HA : Hp, HA = H ++ [some ⟨[.slice an F.n.length (sg an 3), .slice ab F.b.length (sg ab 2)], true, false⟩, some ⟨[.int .i64 0, .int .i64 0, .slice none 0 0, .slice none 0 0], true, false⟩] := ⟨_, rfl⟩
  have fA : Fn H HA := hHA ▸ Fr.app
  have lA : HA.length = H.length + 2 := by rw [hHA]; simp
  have hp : PF HA H.length 0 an F.n.length ab F.b.length F := by rw [hHA]; exact ⟨by simp [rd0], by simp [rd0], h.r.app⟩
  have rA : HA.blk (H.length + 1) = some ⟨[.int .i64 0, .int .i64 0, .slice none 0 0, .slice none 0 0], true, false⟩ := by rw [hHA]; exact blkn 1
  have c1 := l4Asked_c d H.length HA hp hs root 0
  have h015 : decide ((0 : Int) ≤ 0 ∧ (0 : Int) ≤ 15) = true := rfl
  rw [h015] at c1
  rw [call_eq find64 _ _ _ rfl]
  unfold resShareTree
  by_cases h0 : askF F root true = 0
  · obtain ⟨g, hr, _, _⟩ := ask_zero h0
    have sm := g.sml
    rw [if_pos h0]
    rw [h0] at c1
    obtain ⟨v, H1, c2, hm⟩ := l4Copy_c (d + 4) H.length HA (h.fn fA) sm.n sm.b sm.k
    obtain ⟨a, b, ps, rfl, f1, hps, mf⟩ := hm.box
    obtain ⟨HQ, hHQ⟩ : ∃ HQ : Hp, HQ = H1 ++ [some ⟨[.slice a ps.length (sg a 3), .slice b F.b.length (sg b 2)], true, false⟩] := ⟨_, rfl⟩
    rw [← hHQ] at mf
    have fQ : Fn HA HQ := f1.trans (hHQ ▸ Fr.app)
    have l1 := f1.len
    have lQ := fQ.len
    have hRQ := (fQ.blk (H.length + 1) (by omega) id).trans rA
    have hle : (H.length ≤ H1.length) = True := eq_true (by omega)
    rcases root_at hr with rfl | ⟨j, hj, rfl, hr0, hf0⟩
    · rw [if_pos rfl]
      have hd : decide ((-1 : Int) ≥ 0) = false := rfl
      have w5 := fun vs hv => wr_setB (lo := H.length) hRQ (by omega) vs hv
      have w6 := fun vs hv => rdN_setB hRQ 4 vs hv
      have hn := mf.newR (fA.trans fQ) (by omega) hRQ (by omega) (by omega) 0 (-1)
      have hfo : foP ps F.b = F := by unfold foP; rw [hps]
      rw [hfo] at hn
      subst hHQ hHA
      simp -implicitDefEqProofs only [v64, VMs, vop, VOp.still, VOp.app, VOp.plain, allP, lof, evs, start, asI, vbin, vcells, ntup, setAll, vfill, vress, vres, tup, Nat.reduceEqDiff, ↓reduceIte, Nat.reduceAdd, Nat.reduceMul, Nat.reduceLeDiff, reduceCtorEq, c1, bne_self_eq_false, c2, hle, hd, w5, w6]
      exact ⟨_, _, rfl, hn.done⟩
    · have hne : ¬ (j : Int) = -1 := by omega
      have hd : decide ((j : Int) ≥ 0) = true := decide_eq_true (by omega)
      rw [if_neg hne, Int.toNat_natCast, getE hj]
      simp only
      obtain ⟨ad, hpj, hpl⟩ := ps_at hps hj
      obtain ⟨p, H3, rfl, rr, w3, m3, fr3, l3⟩ := mf.refs hpj (F.n[j].r + 1)
      have pQ := hp.fn fQ
      have gn := pQ.n
      have gq := mf.pf.n
      have hb200 := nodeLe g (List.getElem_mem hj)
      obtain ⟨p0, po, rfl, e1, _⟩ := pQ.f.n.at hj
      have hpsl : j < ps.length := by omega
      by_cases h200 : 200 ≤ F.n[j].r
      · rw [if_pos h200]
        have h2' : decide (F.n[j].r ≥ 200) = true := decide_eq_true h200
        have w5 := fun vs hv => wr_setB (lo := H.length) hRQ (by omega) vs hv
        have w6 := fun vs hv => rdN_setB hRQ 4 vs hv
        simp only [sgs] at gn gq c1 c2 hHQ hHA
        subst hHQ hHA
        simp -implicitDefEqProofs only [v64, VMs, noRef, noRef1, isRef, List.all_cons, List.all_nil, vop, VOp.still, VOp.app, VOp.plain, allP, lof, evs, start, asI, vbin, vcells, ntup, setAll, vfill, vress, vres, tup, Nat.reduceEqDiff, ↓reduceIte, Nat.reduceAdd, Nat.reduceMul, Nat.reduceLeDiff, reduceCtorEq, c1, bne_self_eq_false, c2, hle, hd, gn, slen, ltc hj, ge0, Int.toNat_natCast, e1, decide_true, h2', l4Bad_c, w5, w6]
        exact ⟨_, _, rfl, NewR.nil _ _ _⟩
      · rw [if_neg h200]
        have h2' : decide (F.n[j].r ≥ 200) = false := decide_eq_false h200
        have hw : IntKind.i64.wrap (F.n[j].r + 1) = F.n[j].r + 1 := wr (by omega) (by omega)
        have hR3 := (fr3.blk (H.length + 1) (by omega) (fun hh => by have := (mf.n.hd.lt hh).1; omega)).trans hRQ
        have w5 := fun vs hv => wr_setB (lo := H.length) hR3 (by omega) vs hv
        have w6 := fun vs hv => rdN_setB hR3 4 vs hv
        have g3 := m3.pf.rdN
        have f3 : Fn H H3 := fr3.w.fn (fA.trans fQ) (fun i hi => by have := (mf.n.hd.lt hi).1; omega)
        have hn := m3.newR f3 (by omega) hR3 (by omega) (by omega) 0 (j : Int)
        rw [foP_set hps rfl] at hn
        simp only [List.length_set] at hn g3
        have w3' := wr_lo w3 (by omega : H.length ≤ HA.length)
        simp only [sgs] at gn gq c1 c2 hHQ hHA g3 hn
        subst hHQ hHA
        have gh : rd (H1 ++ [some ⟨[.slice (some ⟨p, 0, none⟩) ps.length 3, .slice b F.b.length (sg b 2)], true, false⟩]) ⟨H1.length, 0, none⟩ = some (.slice (some ⟨p, 0, none⟩) ps.length 3) := gq
        simp -implicitDefEqProofs only [v64, VMs, vop, VOp.still, VOp.app, VOp.plain, allP, lof, evs, start, asI, vbin, vcells, ntup, setAll, vfill, vress, vres, tup, Nat.reduceEqDiff, ↓reduceIte, Nat.reduceAdd, Nat.reduceMul, Nat.reduceLeDiff, reduceCtorEq, c1, bne_self_eq_false, c2, hle, hd, gn, slen, ltc hj, ltc hpsl, ge0, Int.toNat_natCast, e1, decide_true, h2', rr, hw, w3', g3, w5, w6]
        exact ⟨_, _, rfl, hn.done⟩
  · have h0' : (askF F root true != 0) = true := by rw [bne_iff_ne]; exact h0
    rw [if_neg h0]
    subst hHA
    simp -implicitDefEqProofs only [v64, VMs, noRef, noRef1, isRef, List.all_cons, List.all_nil, vop, VOp.still, VOp.app, VOp.plain, allP, lof, evs, start, asI, vbin, vcells, ntup, setAll, vfill, vress, vres, tup, Nat.reduceEqDiff, ↓reduceIte, Nat.reduceAdd, Nat.reduceMul, Nat.reduceLeDiff, reduceCtorEq, c1, h0', l4Bad_c]
    exact ⟨_, _, rfl, NewR.nil _ _ _⟩
/-- One more refers to a node: the program's. -/
theorem more_c (d lo L : Nat) (H : Hp) {q : Nat} {a b : Option Addr} {ps : List (Nd × Option Addr)} {B : List Bk} (h : MF L H q a b ps B) (hL : lo ≤ L) {j : Nat} {x : Nd} {ad : Option Addr} (hx : ps[j]? = some (x, ad)) (hr : 0 ≤ x.r ∧ x.r ≤ 200) :
    (x.r = 200 → vcall env (d + 1) 125 [.pointer (some ⟨q, 0, none⟩), .int .i64 (j : Nat)] lo H = some (.int .i64 2, H)) ∧
    (x.r ≠ 200 → ∃ H', vcall env (d + 1) 125 [.pointer (some ⟨q, 0, none⟩), .int .i64 (j : Nat)] lo H = some (.int .i64 0, H') ∧ MF L H' q a b (ps.set j (⟨x.r + 1, x.f, x.k⟩, ad)) B ∧ Fr (Ad a) H H' ∧ H'.length = H.length) := by
  have hj : j < ps.length := (List.getElem?_eq_some_iff.1 hx).1
  obtain ⟨p, H', rfl, rr, w3, m3, fr3, l3⟩ := h.refs hx (x.r + 1)
  have gq := h.pf.n
  simp only [sgs] at gq
  have w3' := wr_lo w3 hL
  rw [call_eq find125 _ _ _ rfl]
  refine ⟨fun e => ?_, fun e => ⟨H', ?_, m3, fr3, l3⟩⟩
  · have hb : (x.r == 200) = true := by simp [e]
    simp -implicitDefEqProofs only [v125, VMs, noRef, noRef1, isRef, List.all_cons, List.all_nil, vop, VOp.still, VOp.app, VOp.plain, allP, lof, evs, start, asI, vbin, vcells, ntup, setAll, vfill, vress, vres, tup, Nat.reduceEqDiff, ↓reduceIte, Nat.reduceAdd, Nat.reduceMul, Nat.reduceLeDiff, reduceCtorEq, gq, slen, ltc hj, ge0, decide_true, Int.toNat_natCast, rr, hb]
  · have hb : (x.r == 200) = false := by simp [e]
    have hw : IntKind.i64.wrap (x.r + 1) = x.r + 1 := wr (by omega) (by omega)
    simp -implicitDefEqProofs only [v125, VMs, noRef, noRef1, isRef, List.all_cons, List.all_nil, vop, VOp.still, VOp.app, VOp.plain, allP, lof, evs, start, asI, vbin, vcells, ntup, setAll, vfill, vress, vres, tup, Nat.reduceEqDiff, ↓reduceIte, Nat.reduceAdd, Nat.reduceMul, Nat.reduceLeDiff, reduceCtorEq, gq, slen, ltc hj, ge0, decide_true, Int.toNat_natCast, rr, hb, hw, w3']
theorem implShareTree_c (d lo : Nat) (H : Hp) {an nn ab nb F} (h : RX H an nn ab nb F) (hs : SF F) (root : Int) :
    ∃ v H', vcall env (d + 8) 65 [.agg #[.slice an nn (sg an 3), .slice ab nb (sg ab 2)], .int .i64 root] lo H = some (v, H') ∧ NewR H H' v (resShareTree F root).1 (resShareTree F root).2.1 (resShareTree F root).2.2 := by
  have n1 := h.r.n.1
  have n2 := h.r.b.1
  subst n1 n2
  obtain ⟨HA, hHA⟩ : ∃ HA : Hp, HA = H ++ [some ⟨[.slice an F.n.length (sg an 3), .slice ab F.b.length (sg ab 2)], true, false⟩, some ⟨[.int .i64 0, .int .i64 0, .slice none 0 0, .slice none 0 0], true, false⟩] := ⟨_, rfl⟩
  have fA : Fn H HA := hHA ▸ Fr.app
  have lA : HA.length = H.length + 2 := by rw [hHA]; simp
  have rA : HA.blk (H.length + 1) = some ⟨[.int .i64 0, .int .i64 0, .slice none 0 0, .slice none 0 0], true, false⟩ := by rw [hHA]; exact blkn 1
  have c1 := forestCode_c d H.length HA (h.fn fA).r hs root true
  rw [call_eq find65 _ _ _ rfl]
  unfold resShareTree
  by_cases h0 : askF F root true = 0
  · obtain ⟨g, hr, _, _⟩ := ask_zero h0
    have sm := g.sml
    rw [if_pos h0]
    rw [h0] at c1
    obtain ⟨v, H1, c2, hm⟩ := ownForest_c (d + 5) H.length HA (h.fn fA) sm.n sm.b sm.k
    obtain ⟨a, b, ps, rfl, f1, hps, mf⟩ := hm.box
    obtain ⟨HQ, hHQ⟩ : ∃ HQ : Hp, HQ = H1 ++ [some ⟨[.slice a ps.length (sg a 3), .slice b F.b.length (sg b 2)], true, false⟩] := ⟨_, rfl⟩
    rw [← hHQ] at mf
    have fQ : Fn HA HQ := f1.trans (hHQ ▸ Fr.app)
    have l1 := f1.len
    have lQ := fQ.len
    have hRQ := (fQ.blk (H.length + 1) (by omega) id).trans rA
    have hle : (H.length ≤ H1.length) = True := eq_true (by omega)
    rcases root_at hr with rfl | ⟨j, hj, rfl, hr0, hf0⟩
    · rw [if_pos rfl]
      have hd : ((-1 : Int) != -1) = false := rfl
      have w5 := fun vs hv => wr_setB (lo := H.length) hRQ (by omega) vs hv
      have w6 := fun vs hv => rdN_setB hRQ 4 vs hv
      have hn := mf.newR (fA.trans fQ) (by omega) hRQ (by omega) (by omega) 0 (-1)
      have hfo : foP ps F.b = F := by unfold foP; rw [hps]
      rw [hfo] at hn
      subst hHQ hHA
      simp -implicitDefEqProofs only [v65, VMs, vop, VOp.still, VOp.app, VOp.plain, allP, lof, evs, start, asI, vbin, vcells, ntup, setAll, vfill, vress, vres, tup, Nat.reduceEqDiff, ↓reduceIte, Nat.reduceAdd, Nat.reduceMul, Nat.reduceLeDiff, reduceCtorEq, c1, bne_self_eq_false, c2, hle, w5, w6]
      exact ⟨_, _, rfl, hn.done⟩
    · have hne : ¬ (j : Int) = -1 := by omega
      have hd : ((j : Int) != -1) = true := bne_iff_ne.2 hne
      rw [if_neg hne, Int.toNat_natCast, getE hj]
      simp only
      obtain ⟨ad, hpj, hpl⟩ := ps_at hps hj
      have hb200 := nodeLe g (List.getElem_mem hj)
      have hmore := more_c (d + 6) H.length HA.length HQ mf (by omega) hpj hb200
      by_cases h200 : 200 ≤ F.n[j].r
      · rw [if_pos h200]
        have c3 := hmore.1 (by omega)
        have w5 := fun vs hv => wr_setB (lo := H.length) hRQ (by omega) vs hv
        have w6 := fun vs hv => rdN_setB hRQ 4 vs hv
        have h20 : ((2 : Int) != 0) = true := rfl
        subst hHQ hHA
        simp -implicitDefEqProofs only [v65, VMs, noRef, noRef1, isRef, List.all_cons, List.all_nil, vop, VOp.still, VOp.app, VOp.plain, allP, lof, evs, start, asI, vbin, vcells, ntup, setAll, vfill, vress, vres, tup, Nat.reduceEqDiff, ↓reduceIte, Nat.reduceAdd, Nat.reduceMul, Nat.reduceLeDiff, reduceCtorEq, c1, bne_self_eq_false, c2, hle, hd, c3, h20, w5, w6]
        exact ⟨_, _, rfl, NewR.nil _ _ _⟩
      · rw [if_neg h200]
        obtain ⟨H3, c3, m3, fr3, l3⟩ := hmore.2 (by omega)
        have hR3 := (fr3.blk (H.length + 1) (by omega) (fun hh => by have := (mf.n.hd.lt hh).1; omega)).trans hRQ
        have w5 := fun vs hv => wr_setB (lo := H.length) hR3 (by omega) vs hv
        have w6 := fun vs hv => rdN_setB hR3 4 vs hv
        have g3 := m3.pf.rdN
        have f3 : Fn H H3 := fr3.w.fn (fA.trans fQ) (fun i hi => by have := (mf.n.hd.lt hi).1; omega)
        have hn := m3.newR f3 (by omega) hR3 (by omega) (by omega) 0 (j : Int)
        rw [foP_set hps rfl] at hn
        simp only [List.length_set] at hn g3
        subst hHQ hHA
        simp -implicitDefEqProofs only [v65, VMs, vop, VOp.still, VOp.app, VOp.plain, allP, lof, evs, start, asI, vbin, vcells, ntup, setAll, vfill, vress, vres, tup, Nat.reduceEqDiff, ↓reduceIte, Nat.reduceAdd, Nat.reduceMul, Nat.reduceLeDiff, reduceCtorEq, c1, bne_self_eq_false, c2, hle, hd, c3, g3, w5, w6]
        exact ⟨_, _, rfl, hn.done⟩
  · have h0' : (askF F root true != 0) = true := by rw [bne_iff_ne]; exact h0
    rw [if_neg h0]
    subst hHA
    simp -implicitDefEqProofs only [v65, VMs, noRef, noRef1, isRef, List.all_cons, List.all_nil, vop, VOp.still, VOp.app, VOp.plain, allP, lof, evs, start, asI, vbin, vcells, ntup, setAll, vfill, vress, vres, tup, Nat.reduceEqDiff, ↓reduceIte, Nat.reduceAdd, Nat.reduceMul, Nat.reduceLeDiff, reduceCtorEq, c1, h0']
    exact ⟨_, _, rfl, NewR.nil _ _ _⟩
end Go.Proofs.Ytmcljallamhccaa.V
