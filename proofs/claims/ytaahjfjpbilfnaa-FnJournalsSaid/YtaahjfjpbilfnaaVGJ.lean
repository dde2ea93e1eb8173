/- ScanJournal: the program's and the reference's. -/
import Derived.Test.YtaahjfjpbilfnaaVGI
namespace Go.Proofs.Ytaahjfjpbilfnaa.V
open Go
set_option linter.unusedVariables false
set_option linter.unusedSimpArgs false
set_option maxRecDepth 100000
/-- Records with a code and a number, in new memory. -/
def NewRec (H H' : Hp) (v : Value) (c u : Int) (R : List (List Int)) : Prop := ∃ a ps, v = .agg #[.int .i64 c, .int .i64 u, .slice a ps.length (sg a 1)] ∧ Fn H H' ∧ RQ H.length H' a ps ∧ ps.map (·.1) = R
theorem NewRec.nil (H : Hp) (c u : Int) : NewRec H H (.agg #[.int .i64 c, .int .i64 u, .slice none 0 0]) c u [] := ⟨none, [], rfl, Fr.refl, RQ.nil _ _, rfl⟩
theorem noRef3 {a b : Value} {an : Option Addr} {nn s : Nat} (ha : isRef a = false) (hb : isRef b = false) : noRef (.agg #[a, b, .slice an nn s]) = true → an = .none := by
  intro h
  cases an <;> simp_all [noRef, noRef1, isRef]
theorem NewRec.done {H H2 : Hp} {v : Value} {c u : Int} {R : List (List Int)} (h : NewRec H H2 v c u R) : NewRec H (if noRef v = true then H else H2) v c u R := by
  by_cases hn : noRef v = true
  · rw [if_pos hn]
    obtain ⟨a, ps, rfl, f, g, o⟩ := h
    obtain rfl := noRef3 rfl rfl hn
    have hp0 : ps = [] := by
      rcases g.hd with ⟨_, e, _⟩ | ⟨_, _, e, _⟩
      · exact List.length_eq_zero_iff.1 e
      · cases e
    subst hp0
    exact ⟨none, [], rfl, Fr.refl, RQ.nil _ _, o⟩
  · rw [if_neg hn]; exact h
theorem RQ.or {lo : Nat} {H : Hp} {a : Option Addr} {ps : List (List Int × Option Addr)} (h : RQ lo H a ps) : OR (fun i => lo ≤ i ∧ i < H.length) lo H a ps.length (ps.map (·.1)) := by
  refine ⟨by simp, fun hn => ?_⟩
  rcases h.hd with ⟨_, e, _⟩ | ⟨p, k0, rfl, hb, hl, _, hlo⟩
  · have : ps = [] := List.length_eq_zero_iff.1 e
    subst this; exact absurd rfl hn
  have hpl := blk_lt hb
  have at_ : ∀ (j : Nat) x, (ps.map (·.1))[j]? = some x → ∃ q, ps[j]? = some q ∧ x = q.1 := fun j x hx => by
    rw [List.getElem?_map] at hx
    obtain ⟨q, h1, rfl⟩ := Option.map_eq_some_iff.1 hx
    exact ⟨q, h1, rfl⟩
  refine ⟨p, 0, fun j => (ps[j]?).bind (·.2), rfl, ⟨⟨⟨hlo, hpl⟩, hpl⟩, fun j x hx => ?_, fun j x hx i hi => ?_, fun j j' x x' hx hx' hne i hi hi' => ?_⟩⟩
  · obtain ⟨q, h1, rfl⟩ := at_ j x hx
    simp only [h1, Option.bind_some]
    refine ⟨?_, (h.k j q h1).1⟩
    simp only [rd, hb, Option.bind_some, Nat.zero_add]
    exact vR_at h1
  · obtain ⟨q, h1, rfl⟩ := at_ j x hx
    simp only [h1, Option.bind_some] at hi
    obtain ⟨o, e⟩ := hi
    obtain ⟨_, _, w, z⟩ := (h.k j q h1).2 _ e
    obtain ⟨w1, bb, w2, w3⟩ := w
    exact ⟨⟨w1, bb, w2, w3⟩, ⟨w1, blk_lt w2⟩, fun e2 => z 0 (by rw [e2])⟩
  · obtain ⟨q, h1, rfl⟩ := at_ j x hx
    obtain ⟨q', h1', rfl⟩ := at_ j' x' hx'
    simp only [h1, h1', Option.bind_some] at hi hi'
    obtain ⟨o, e⟩ := hi
    obtain ⟨o', e'⟩ := hi'
    exact h.ne j j' q q' h1 h1' hne _ _ e e' rfl
theorem RQ.lt {lo : Nat} {H : Hp} {a : Option Addr} {ps : List (List Int × Option Addr)} (h : RQ lo H a ps) {i : Nat} (hi : Ad a i) : lo ≤ i ∧ i < H.length := by
  obtain ⟨o, e⟩ := hi
  rcases h.hd with ⟨e2, _⟩ | ⟨p, k0, e2, hb, _, _, hlo⟩
  · rw [e2] at e; cases e
  · rw [e2] at e; cases e
    exact ⟨hlo, blk_lt hb⟩
theorem RQ.fr {lo : Nat} {H H' : Hp} {T : Nat → Prop} {a : Option Addr} {ps : List (List Int × Option Addr)} (h : RQ lo H a ps) (hf : Fr T H H') (hT : ∀ i, lo ≤ i → i < H.length → ¬ T i) : RQ lo H' a ps := by
  refine ⟨?_, fun j p hp => ?_, h.ne⟩
  · rcases h.hd with h1 | ⟨i, k0, h1, h2, h3, h4, h5⟩
    · exact Or.inl h1
    · exact Or.inr ⟨i, k0, h1, (hf.blk i (blk_lt h2) (hT i h5 (blk_lt h2))).trans h2, h3, h4, h5⟩
  · obtain ⟨h1, h2⟩ := h.k j p hp
    refine ⟨h1.fr (fun i ⟨o, e⟩ => ?_) hf, fun A e => let ⟨u, v, w, z⟩ := h2 A e; ⟨u, v, hf.wb _ _ w, z⟩⟩
    obtain ⟨_, _, ⟨w1, bb, w2, _⟩, _⟩ := h2 _ e
    exact hT i w1 (blk_lt w2)
/-- The code, how many words, and the records. -/
def scanC (D : Dk) : Int := dF D
def scanU (D : Dk) : Int := if dF D = 0 then ((scanR (flP D.w D.p) 65 0 []).2 : Nat) else 0
def scanL (D : Dk) : List (List Int) := if dF D = 0 then (scanR (flP D.w D.p) 65 0 []).1 else []
theorem scanL_le (D : Dk) : (scanL D).length ≤ 64 ∧ ∀ x ∈ scanL D, x.length ≤ 8 := by
  unfold scanL
  by_cases h : dF D = 0
  · rw [if_pos h]
    have h64 : (flP D.w D.p).length = 64 := by rw [flP_len, (dF_zero h).w]
    have := scanR_le (flP D.w D.p) 65 0 [] (by omega) (by simp) (by simp)
    rw [h64] at this
    exact this.2
  · rw [if_neg h]; simp
theorem implScanJournal_c (d lo : Nat) (H : Hp) {aw nw ap np D} (h : RD H aw nw ap np D) (hs : SD D) :
    ∃ v H', vcall env (d + 8) 55 [.agg #[.slice aw nw (sg aw 1), .slice ap np (sg ap 2)]] lo H = some (v, H') ∧ NewRec H H' v (scanC D) (scanU D) (scanL D) := by
  obtain ⟨HA, hHA⟩ : ∃ HA : Hp, HA = H ++ [some ⟨[.slice aw nw (sg aw 1), .slice ap np (sg ap 2)], true, false⟩, some ⟨[.int .i64 0, .int .i64 0, .slice none 0 0], true, false⟩] := ⟨_, rfl⟩
  have fA : Fn H HA := hHA ▸ Fr.app
  have lA : HA.length = H.length + 2 := by rw [hHA]; simp
  have bA : HA.blk (H.length + 1) = some ⟨[.int .i64 0, .int .i64 0, .slice none 0 0], true, false⟩ := by rw [hHA]; exact blkn 1
  have c1 := implDiskFault_c d H.length HA (h.fn fA) hs
  unfold scanC scanU scanL
  by_cases h0 : dF D = 0
  · obtain ⟨a, ps, H1, c2, f1, r1, e1⟩ := implScan_c (d + 4) H.length HA (h.fn fA) (dF_zero h0) ((h.w.exI (by intro e; have := (dF_zero h0).w; rw [e] at this; simp at this)).fn fA)
    have b1 : H1.blk (H.length + 1) = some ⟨[.int .i64 0, .int .i64 0, .slice none 0 0], true, false⟩ := (f1.blk _ (by omega) id).trans bA
    have g3 := fun vs hv => wr_setB (lo := H.length) b1 (by omega) vs hv
    have g4 := fun vs hv => rdN_setB b1 3 vs hv
    rw [h0] at c1
    rw [if_pos h0, if_pos h0]
    generalize scanR (flP D.w D.p) 65 0 [] = S at *
    have hN : NewRec H (setB H1 (H.length + 1) [.int .i64 0, .int .i64 (S.2 : Nat), .slice a ps.length (sg a 1)]) (.agg #[.int .i64 0, .int .i64 (S.2 : Nat), .slice a ps.length (sg a 1)]) 0 (S.2 : Nat) S.1 := by
      refine ⟨a, ps, rfl, Fn.setB (fA.trans f1) (by omega) b1 _, ?_, e1⟩
      have := r1.fr (Fr.setB b1 [.int .i64 0, .int .i64 (S.2 : Nat), .slice a ps.length (sg a 1)]) (fun i hi hl e => by omega)
      refine ⟨?_, fun j p hp => ?_, this.ne⟩
      · rcases this.hd with h1 | ⟨i, k0, h1, h2, h3, h4, h5⟩
        · exact Or.inl h1
        · exact Or.inr ⟨i, k0, h1, h2, h3, h4, by omega⟩
      · obtain ⟨h1, h2⟩ := this.k j p hp
        exact ⟨h1, fun A e => let ⟨u, v, w, z⟩ := h2 A e; ⟨u, v, w.lo (by omega), z⟩⟩
    rw [h0]
    refine ⟨_, _, ?_, hN.done⟩
    subst hHA
    rw [call_eq find55 _ _ _ rfl]
    simp -implicitDefEqProofs only [v55, VMs, vop, VOp.still, VOp.app, VOp.plain, allP, lof, evs, start, asI, vbin, vcells, ntup, setAll, vfill, vress, vres, tup, Nat.reduceEqDiff, ↓reduceIte, Nat.reduceAdd, Nat.reduceMul, Nat.reduceLeDiff, reduceCtorEq, List.getElem?_toArray, c1, bne_self_eq_false, c2, g3, g4, beq_self_eq_true]
  · have h0' : (dF D != 0) = true := by rw [bne_iff_ne]; exact h0
    rw [if_neg h0, if_neg h0]
    refine ⟨_, _, ?_, NewRec.nil H _ _⟩
    subst hHA
    rw [call_eq find55 _ _ _ rfl]
    simp -implicitDefEqProofs only [v55, VMs, noRef, noRef1, isRef, List.all_cons, List.all_nil, vop, VOp.still, VOp.app, VOp.plain, allP, lof, evs, start, asI, vbin, vcells, ntup, setAll, vfill, vress, vres, tup, Nat.reduceEqDiff, ↓reduceIte, Nat.reduceAdd, Nat.reduceMul, Nat.reduceLeDiff, reduceCtorEq, c1, h0']
end Go.Proofs.Ytaahjfjpbilfnaa.V
