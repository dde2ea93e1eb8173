/- DropTree: the program's and the reference's. -/
import Derived.Test.YtmcljallamhccaaVDG
namespace Go.Proofs.Ytmcljallamhccaa.V
open Go
set_option linter.unusedVariables false
set_option linter.unusedSimpArgs false
set_option maxRecDepth 100000
theorem Inv.sml {F : Fo} {eB eN : Nat → Int} (h : Inv F eB eN) : Sml F := ⟨h.n60, h.b24, fun x hx => by
  by_cases hr : x.r = 0
  · rw [(h.n0 x hx hr).2]; simp
  · have := (h.n4 x hx hr).1; omega⟩
theorem ask_inv {F : Fo} {root : Int} {u : Bool} (h : askF F root u = 0) : Inv F z0 z0 := by
  refine inv_of ?_
  unfold askF at h
  by_cases h0 : fF F = 0
  · exact h0
  · rw [if_neg (by exact h0)] at h; exact absurd h h0
/-- The code and the root, and the forest. -/
def resDropTree (F : Fo) (root : Int) : Int × Int × Fo :=
  if askF F root true = 0 then (0, -1, if root = -1 then F else lessR F root.toNat)
  else (askF F root true, 0, ⟨[], []⟩)
theorem live_of {F : Fo} {j : Nat} (hj : j < F.n.length) (h : 0 < F.n[j].r) : F.n[j].r ≠ 0 := by omega
theorem resDropTree_sml (F : Fo) (root : Int) : Sml (resDropTree F root).2.2 := by
  unfold resDropTree
  by_cases h0 : askF F root true = 0
  · rw [if_pos h0]
    have hi := ask_inv h0
    obtain ⟨g, hr, _, _⟩ := ask_zero h0
    rcases root_at hr with rfl | ⟨j, hj, rfl, hr0, hf0⟩
    · simp only [if_true]; exact hi.sml
    · simp only
      rw [if_neg (by omega), Int.toNat_natCast]
      exact (hi.lessR (fun _ => Int.le_refl _) (fun _ => Int.le_refl _) hj (by simpa using hf0) (by simpa using live_of hj (by simpa using hr0))).sml
  · rw [if_neg h0]; exact Sml.nil
theorem resDropTree_sz (F : Fo) (root : Int) : SF (resDropTree F root).2.2 ∧ Km (1 + sF (resDropTree F root).2.2) := ⟨(resDropTree_sml F root).sf, (resDropTree_sml F root).km⟩
theorem specDropTree_c (d lo : Nat) (H : Hp) {an nn ab nb F} (h : RX H an nn ab nb F) (hs : SF F) (root : Int) :
    ∃ v H', vcall env (d + 6) 66 [.agg #[.slice an nn (sg an 3), .slice ab nb (sg ab 2)], .int .i64 root] lo H = some (v, H') ∧ NewR H H' v (resDropTree F root).1 (resDropTree F root).2.1 (resDropTree F root).2.2 := by
  have n1 := h.r.n.1
  have n2 := h.r.b.1
  subst n1 n2
  obtain ⟨HA, hHA⟩ : ∃ HA : Hp, HA = H ++ [some ⟨[.slice an F.n.length (sg an 3), .slice ab F.b.length (sg ab 2)], true, false⟩, some ⟨[.int .i64 0, .int .i64 0, .slice none 0 0, .slice none 0 0], true, false⟩] := ⟨_, rfl⟩
  have fA : Fn H HA := hHA ▸ Fr.app
  have lA : HA.length = H.length + 2 := by rw [hHA]; simp
  have hp : PF HA H.length 0 an F.n.length ab F.b.length F := by rw [hHA]; exact ⟨by simp [rd0], by simp [rd0], h.r.app⟩
  have rA : HA.blk (H.length + 1) = some ⟨[.int .i64 0, .int .i64 0, .slice none 0 0, .slice none 0 0], true, false⟩ := by rw [hHA]; exact blkn 1
  have c1 := l4Asked_c d H.length HA hp hs root 0
  have h015 : decide ((0 : Int) ≤ 0 ∧ (0 : Int) ≤ 15) = true := rfl
  rw [h015] at c1
  rw [call_eq find66 _ _ _ rfl]
  unfold resDropTree
  by_cases h0 : askF F root true = 0
  · have hi := ask_inv h0
    obtain ⟨g, hr, _, _⟩ := ask_zero h0
    have sm := g.sml
    rw [if_pos h0]
    rw [h0] at c1
    obtain ⟨v, H1, c2, hm⟩ := l4Copy_c (d + 4) H.length HA (h.fn fA) sm.n sm.b sm.k
    obtain ⟨a, b, ps, rfl, f1, hps, mf⟩ := hm.box
    have hfo : foP ps F.b = F := by unfold foP; rw [hps]
    obtain ⟨HQ, hHQ⟩ : ∃ HQ : Hp, HQ = H1 ++ [some ⟨[.slice a ps.length (sg a 3), .slice b F.b.length (sg b 2)], true, false⟩] := ⟨_, rfl⟩
    rw [← hHQ] at mf
    have fQ : Fn HA HQ := f1.trans (hHQ ▸ Fr.app)
    have l1 := f1.len
    have lQ := fQ.len
    have hRQ := (fQ.blk (H.length + 1) (by omega) id).trans rA
    have hle : (H.length ≤ H1.length) = True := eq_true (by omega)
    rcases root_at hr with rfl | ⟨j, hj, rfl, hr0, hf0⟩
    · rw [if_pos rfl]
      have hd : decide ((-1 : Int) ≥ 0) = false := rfl
      have w5 := fun vs hv => wr_setB (lo := H.length) hRQ (by omega) vs hv
      have w6 := fun vs hv => rdN_setB hRQ 4 vs hv
      have g3 := mf.pf.rdN
      have hn := mf.newR (fA.trans fQ) (by omega) hRQ (by omega) (by omega) 0 (-1)
      rw [hfo] at hn
      subst hHQ hHA
      simp -implicitDefEqProofs only [v66, VMs, vop, VOp.still, VOp.app, VOp.plain, allP, lof, evs, start, asI, vbin, vcells, ntup, setAll, vfill, vress, vres, tup, Nat.reduceEqDiff, ↓reduceIte, Nat.reduceAdd, Nat.reduceMul, Nat.reduceLeDiff, reduceCtorEq, c1, bne_self_eq_false, c2, hle, hd, w5, w6]
      exact ⟨_, _, rfl, hn.done⟩
    · have hne : ¬ (j : Int) = -1 := by omega
      have hd : decide ((j : Int) ≥ 0) = true := decide_eq_true (by omega)
      rw [if_neg hne, Int.toNat_natCast]
      obtain ⟨ad, hpj, hpl⟩ := ps_at hps hj
      obtain ⟨H3, ps', B', c3, m3, e3, fr3⟩ := l4LessR_c (d + 2) H.length HA.length HQ mf (by omega) (by rw [hfo]; exact hi) (fun _ => Int.le_refl _) (fun _ => Int.le_refl _) hpj (by simpa using hf0) (by simpa using live_of hj (by simpa using hr0))
      rw [hfo] at e3
      have nA : ∀ i, FP a b i → HA.length ≤ i := fun i hh => hh.elim (fun hh => (mf.n.hd.lt hh).1) (fun hh => (mf.bl.lt hh).1)
      have hR3 := (fr3.blk (H.length + 1) (by omega) (fun hh => by have := nA _ hh; omega)).trans hRQ
      have w5 := fun vs hv => wr_setB (lo := H.length) hR3 (by omega) vs hv
      have w6 := fun vs hv => rdN_setB hR3 4 vs hv
      have g3 := m3.pf.rdN
      have f3 : Fn H H3 := fr3.w.fn (fA.trans fQ) (fun i hi => by have := nA i hi; omega)
      have hn := m3.newR f3 (by omega) hR3 (by omega) (by omega) 0 (-1)
      rw [e3] at hn
      subst hHQ hHA
      simp -implicitDefEqProofs only [v66, VMs, vop, VOp.still, VOp.app, VOp.plain, allP, lof, evs, start, asI, vbin, vcells, ntup, setAll, vfill, vress, vres, tup, Nat.reduceEqDiff, ↓reduceIte, Nat.reduceAdd, Nat.reduceMul, Nat.reduceLeDiff, reduceCtorEq, c1, bne_self_eq_false, c2, hle, hd, c3, g3, w5, w6]
      exact ⟨_, _, rfl, hn.done⟩
  · have h0' : (askF F root true != 0) = true := by rw [bne_iff_ne]; exact h0
    rw [if_neg h0]
    subst hHA
    simp -implicitDefEqProofs only [v66, VMs, noRef, noRef1, isRef, List.all_cons, List.all_nil, vop, VOp.still, VOp.app, VOp.plain, allP, lof, evs, start, asI, vbin, vcells, ntup, setAll, vfill, vress, vres, tup, Nat.reduceEqDiff, ↓reduceIte, Nat.reduceAdd, Nat.reduceMul, Nat.reduceLeDiff, reduceCtorEq, c1, h0', l4Bad_c]
    exact ⟨_, _, rfl, NewR.nil _ _ _⟩
theorem implDropTree_c (d lo : Nat) (H : Hp) {an nn ab nb F} (h : RX H an nn ab nb F) (hs : SF F) (root : Int) :
    ∃ v H', vcall env (d + 8) 67 [.agg #[.slice an nn (sg an 3), .slice ab nb (sg ab 2)], .int .i64 root] lo H = some (v, H') ∧ NewR H H' v (resDropTree F root).1 (resDropTree F root).2.1 (resDropTree F root).2.2 := by
  have n1 := h.r.n.1
  have n2 := h.r.b.1
  subst n1 n2
  obtain ⟨HA, hHA⟩ : ∃ HA : Hp, HA = H ++ [some ⟨[.slice an F.n.length (sg an 3), .slice ab F.b.length (sg ab 2)], true, false⟩, some ⟨[.int .i64 0, .int .i64 0, .slice none 0 0, .slice none 0 0], true, false⟩] := ⟨_, rfl⟩
  have fA : Fn H HA := hHA ▸ Fr.app
  have lA : HA.length = H.length + 2 := by rw [hHA]; simp
  have rA : HA.blk (H.length + 1) = some ⟨[.int .i64 0, .int .i64 0, .slice none 0 0, .slice none 0 0], true, false⟩ := by rw [hHA]; exact blkn 1
  have c1 := forestCode_c d H.length HA (h.fn fA).r hs root true
  rw [call_eq find67 _ _ _ rfl]
  unfold resDropTree
  by_cases h0 : askF F root true = 0
  · have hi := ask_inv h0
    obtain ⟨g, hr, _, _⟩ := ask_zero h0
    have sm := g.sml
    rw [if_pos h0]
    rw [h0] at c1
    obtain ⟨v, H1, c2, hm⟩ := ownForest_c (d + 5) H.length HA (h.fn fA) sm.n sm.b sm.k
    obtain ⟨a, b, ps, rfl, f1, hps, mf⟩ := hm.box
    have hfo : foP ps F.b = F := by unfold foP; rw [hps]
    obtain ⟨HQ, hHQ⟩ : ∃ HQ : Hp, HQ = H1 ++ [some ⟨[.slice a ps.length (sg a 3), .slice b F.b.length (sg b 2)], true, false⟩] := ⟨_, rfl⟩
    rw [← hHQ] at mf
    have fQ : Fn HA HQ := f1.trans (hHQ ▸ Fr.app)
    have l1 := f1.len
    have lQ := fQ.len
    have hRQ := (fQ.blk (H.length + 1) (by omega) id).trans rA
    have hle : (H.length ≤ H1.length) = True := eq_true (by omega)
    rcases root_at hr with rfl | ⟨j, hj, rfl, hr0, hf0⟩
    · rw [if_pos rfl]
      have hd : ((-1 : Int) != -1) = false := rfl
      have w5 := fun vs hv => wr_setB (lo := H.length) hRQ (by omega) vs hv
      have w6 := fun vs hv => rdN_setB hRQ 4 vs hv
      have hn := mf.newR (fA.trans fQ) (by omega) hRQ (by omega) (by omega) 0 (-1)
      rw [hfo] at hn
      subst hHQ hHA
      simp -implicitDefEqProofs only [v67, VMs, vop, VOp.still, VOp.app, VOp.plain, allP, lof, evs, start, asI, vbin, vcells, ntup, setAll, vfill, vress, vres, tup, Nat.reduceEqDiff, ↓reduceIte, Nat.reduceAdd, Nat.reduceMul, Nat.reduceLeDiff, reduceCtorEq, c1, bne_self_eq_false, c2, hle, w5, w6]
      exact ⟨_, _, rfl, hn.done⟩
    · have hne : ¬ (j : Int) = -1 := by omega
      have hd : ((j : Int) != -1) = true := bne_iff_ne.2 hne
      rw [if_neg hne, Int.toNat_natCast]
      obtain ⟨ad, hpj, hpl⟩ := ps_at hps hj
      obtain ⟨H3, ps', B', c3, m3, e3, fr3⟩ := lessR_c (d + 4) H.length HA.length HQ mf (by omega) (by rw [hfo]; exact hi) (fun _ => Int.le_refl _) (fun _ => Int.le_refl _) hpj (by simpa using hf0) (by simpa using live_of hj (by simpa using hr0))
      rw [hfo] at e3
      have nA : ∀ i, FP a b i → HA.length ≤ i := fun i hh => hh.elim (fun hh => (mf.n.hd.lt hh).1) (fun hh => (mf.bl.lt hh).1)
      have hR3 := (fr3.blk (H.length + 1) (by omega) (fun hh => by have := nA _ hh; omega)).trans hRQ
      have w5 := fun vs hv => wr_setB (lo := H.length) hR3 (by omega) vs hv
      have w6 := fun vs hv => rdN_setB hR3 4 vs hv
      have g3 := m3.pf.rdN
      have f3 : Fn H H3 := fr3.w.fn (fA.trans fQ) (fun i hi => by have := nA i hi; omega)
      have hn := m3.newR f3 (by omega) hR3 (by omega) (by omega) 0 (-1)
      rw [e3] at hn
      subst hHQ hHA
      simp -implicitDefEqProofs only [v67, VMs, vop, VOp.still, VOp.app, VOp.plain, allP, lof, evs, start, asI, vbin, vcells, ntup, setAll, vfill, vress, vres, tup, Nat.reduceEqDiff, ↓reduceIte, Nat.reduceAdd, Nat.reduceMul, Nat.reduceLeDiff, reduceCtorEq, c1, bne_self_eq_false, c2, hle, hd, c3, g3, w5, w6]
      exact ⟨_, _, rfl, hn.done⟩
  · have h0' : (askF F root true != 0) = true := by rw [bne_iff_ne]; exact h0
    rw [if_neg h0]
    subst hHA
    simp -implicitDefEqProofs only [v67, VMs, noRef, noRef1, isRef, List.all_cons, List.all_nil, vop, VOp.still, VOp.app, VOp.plain, allP, lof, evs, start, asI, vbin, vcells, ntup, setAll, vfill, vress, vres, tup, Nat.reduceEqDiff, ↓reduceIte, Nat.reduceAdd, Nat.reduceMul, Nat.reduceLeDiff, reduceCtorEq, c1, h0']
    exact ⟨_, _, rfl, NewR.nil _ _ _⟩
end Go.Proofs.Ytmcljallamhccaa.V
