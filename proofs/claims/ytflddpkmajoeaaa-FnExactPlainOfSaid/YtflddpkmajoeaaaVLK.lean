/- PlainOf: the program's and the reference's. -/
import Derived.Test.YtflddpkmajoeaaaVLJ
namespace Go.Proofs.Ytflddpkmajoeaaa.V
open Go
set_option linter.unusedVariables false
set_option linter.unusedSimpArgs false
set_option maxRecDepth 100000
theorem pF_six {p : Po} (h : pF p = 0) : p.v.length ≤ 6 ∧ p.f.b.length ≤ 24 := by
  obtain ⟨g, _⟩ := pF_ok h
  refine ⟨?_, (fB_ok.1 g.b).1⟩
  unfold pF at h
  by_cases hz : fF p.f = 0
  · rw [if_pos hz] at h
    by_cases h6 : 6 < p.v.length
    · rw [if_pos h6] at h; omega
    · omega
  · rw [if_neg hz] at h; exact absurd h hz
def resP (p : Po) : Int × Pl := if pF p = 0 then (0, plainP p) else (pF p, ⟨0, [], [], []⟩)
theorem resP_sz (p : Po) : SL (resP p).2 ∧ Km (1 + sL (resP p).2) := by
  unfold resP
  by_cases h : pF p = 0
  · rw [if_pos h]
    obtain ⟨h6, h24⟩ := pF_six h
    have hc := cellsP_len p.f p.v
    have hs : (if 0 < busyF p.f.b then [busyF p.f.b] else []).length ≤ 1 := by split <;> simp
    refine ⟨⟨?_, ?_, ?_⟩, ?_⟩
    · simp only [plainP, List.length_map]; unfold Sm; omega
    · simp only [plainP]; unfold Sm; omega
    · simp only [plainP]; unfold Sm; omega
    · simp only [plainP, sL, List.length_map]; unfold Km; omega
  · rw [if_neg h]
    refine ⟨⟨?_, ?_, ?_⟩, ?_⟩ <;> simp [Sm, sL, Km]
/-- The answer, out of the plain pool. -/
theorem NewLP.res {H HA H1 : Hp} {v : Value} {p : Pl} (h : NewLP HA H1 v p) (hf : Fn H HA) {R : Nat} (hR0 : H.length ≤ R) (hR : R < HA.length) {cs : List Value} (hb : HA.blk R = some ⟨cs, true, false⟩) :
    ∃ av nv ac nc az nz, v = .agg #[.int .i64 p.b, .slice av nv (sg av 3), .slice ac nc (sg ac 3), .slice az nz (sg az 1)] ∧ H1.blk R = some ⟨cs, true, false⟩ ∧
      NewPR H (setB H1 R [.int .i64 0, .int .i64 0, .int .i64 0, .int .i64 p.b, .slice av nv (sg av 3), .slice ac nc (sg ac 3), .slice az nz (sg az 1)]) (.agg #[.int .i64 0, .int .i64 0, .int .i64 0, .int .i64 p.b, .slice av nv (sg av 3), .slice ac nc (sg ac 3), .slice az nz (sg az 1)]) 0 p := by
  obtain ⟨U, V, W, av, nv, ac, nc, az, nz, rfl, f, g, o⟩ := h
  have b1 := (f.blk R hR id).trans hb
  have fr := Fr.setB b1 [.int .i64 0, .int .i64 0, .int .i64 0, .int .i64 p.b, .slice av nv (sg av 3), .slice ac nc (sg ac 3), .slice az nz (sg az 1)]
  refine ⟨av, nv, ac, nc, az, nz, rfl, b1, U, V, W, av, nv, ac, nc, az, nz, rfl, fr.w.fn (hf.trans f) (fun i e => by omega), fun i hi => Nat.le_trans hf.len (g i hi), (o.fr (fun i hi e => by have := g i hi; omega) fr).lo hf.len⟩
theorem specPlainOf_c (d lo : Nat) (H : Hp) {an nn ab nb av nv p} (h : RP' H an nn ab nb av nv p) (hs : SP p) :
    ∃ v H', vcall env (d + 6) 38 [.agg #[.slice an nn (sg an 3), .slice ab nb (sg ab 2), .slice av nv (sg av 3)]] lo H = some (v, H') ∧ NewPR H H' v (resP p).1 (resP p).2 := by
  obtain ⟨HA, hHA⟩ : ∃ HA : Hp, HA = H ++ [some ⟨[.slice an nn (sg an 3), .slice ab nb (sg ab 2), .slice av nv (sg av 3)], true, false⟩, some ⟨[.int .i64 0, .int .i64 0, .int .i64 0, .int .i64 0, .slice none 0 0, .slice none 0 0, .slice none 0 0], true, false⟩] := ⟨_, rfl⟩
  have fA : Fn H HA := hHA ▸ Fr.app
  have lA : HA.length = H.length + 2 := by rw [hHA]; simp
  have hp : PP HA H.length an nn ab nb av nv p := by rw [hHA]; exact ⟨⟨by simp [rd0], by simp [rd0], h.f.app⟩, by simp [rd0], h.v.app fun _ _ _ => EV.app⟩
  have rA : HA.blk (H.length + 1) = some ⟨[.int .i64 0, .int .i64 0, .int .i64 0, .int .i64 0, .slice none 0 0, .slice none 0 0, .slice none 0 0], true, false⟩ := by rw [hHA]; exact blkn 1
  have c1 := l5Fault_c d H.length HA hp hs
  rw [call_eq find38 _ _ _ rfl]
  unfold resP
  by_cases h0 : pF p = 0
  · obtain ⟨g, hroot⟩ := pF_ok h0
    obtain ⟨h6, h24⟩ := pF_six h0
    rw [if_pos h0]
    rw [h0] at c1
    obtain ⟨v, H1, c2, hn⟩ := l6Plain_c (d + 1) H.length HA hp g hroot h6 h24
    obtain ⟨av', nv', ac', nc', az', nz', rfl, hR1, hn'⟩ := hn.res fA (R := H.length + 1) (by omega) (by omega) rA
    have w5 := fun vs hv => wr_setB (lo := H.length) hR1 (by omega) vs hv
    have w6 := fun vs hv => rdN_setB hR1 7 vs hv
    subst hHA
    simp -implicitDefEqProofs only [v38, VMs, vop, VOp.still, VOp.app, VOp.plain, allP, lof, evs, start, asI, vbin, vcells, ntup, setAll, vfill, vress, vres, tup, Nat.reduceEqDiff, ↓reduceIte, Nat.reduceAdd, Nat.reduceMul, Nat.reduceLeDiff, reduceCtorEq, c1, bne_self_eq_false, c2, vfill, ev, lk, setAll, ntup, vcells, w5, w6]
    exact ⟨_, _, rfl, hn'.done⟩
  · have h0' : (pF p != 0) = true := by rw [bne_iff_ne]; exact h0
    rw [if_neg h0]
    subst hHA
    simp -implicitDefEqProofs only [v38, VMs, noRef, noRef1, isRef, List.all_cons, List.all_nil, vop, VOp.still, VOp.app, VOp.plain, allP, lof, evs, start, asI, vbin, vcells, ntup, setAll, vfill, vress, vres, tup, Nat.reduceEqDiff, ↓reduceIte, Nat.reduceAdd, Nat.reduceMul, Nat.reduceLeDiff, reduceCtorEq, c1, h0']
    exact ⟨_, _, rfl, NewPR.nil _ _⟩
theorem implPlainOf_c (d lo : Nat) (H : Hp) {an nn ab nb av nv p} (h : RP' H an nn ab nb av nv p) (hs : SP p) :
    ∃ v H', vcall env (d + 8) 39 [.agg #[.slice an nn (sg an 3), .slice ab nb (sg ab 2), .slice av nv (sg av 3)]] lo H = some (v, H') ∧ NewPR H H' v (resP p).1 (resP p).2 := by
  obtain ⟨HA, hHA⟩ : ∃ HA : Hp, HA = H ++ [some ⟨[.slice an nn (sg an 3), .slice ab nb (sg ab 2), .slice av nv (sg av 3)], true, false⟩, some ⟨[.int .i64 0, .int .i64 0, .int .i64 0, .int .i64 0, .slice none 0 0, .slice none 0 0, .slice none 0 0], true, false⟩] := ⟨_, rfl⟩
  have fA : Fn H HA := hHA ▸ Fr.app
  have lA : HA.length = H.length + 2 := by rw [hHA]; simp
  have rA : HA.blk (H.length + 1) = some ⟨[.int .i64 0, .int .i64 0, .int .i64 0, .int .i64 0, .slice none 0 0, .slice none 0 0, .slice none 0 0], true, false⟩ := by rw [hHA]; exact blkn 1
  have hA := h.fn fA
  have c1 := implPoolFault_c d H.length HA hA hs
  rw [call_eq find39 _ _ _ rfl]
  unfold resP
  by_cases h0 : pF p = 0
  · obtain ⟨g, hroot⟩ := pF_ok h0
    obtain ⟨h6, h24⟩ := pF_six h0
    rw [if_pos h0]
    rw [h0] at c1
    obtain ⟨v, H1, c2, hn⟩ := plainOf_c (d + 3) H.length HA hA g hroot h6 h24
    obtain ⟨av', nv', ac', nc', az', nz', rfl, hR1, hn'⟩ := hn.res fA (R := H.length + 1) (by omega) (by omega) rA
    have w5 := fun vs hv => wr_setB (lo := H.length) hR1 (by omega) vs hv
    have w6 := fun vs hv => rdN_setB hR1 7 vs hv
    subst hHA
    simp -implicitDefEqProofs only [v39, VMs, vop, VOp.still, VOp.app, VOp.plain, allP, lof, evs, start, asI, vbin, vcells, ntup, setAll, vfill, vress, vres, tup, Nat.reduceEqDiff, ↓reduceIte, Nat.reduceAdd, Nat.reduceMul, Nat.reduceLeDiff, reduceCtorEq, c1, bne_self_eq_false, c2, vfill, ev, lk, setAll, ntup, vcells, w5, w6]
    exact ⟨_, _, rfl, hn'.done⟩
  · have h0' : (pF p != 0) = true := by rw [bne_iff_ne]; exact h0
    rw [if_neg h0]
    subst hHA
    simp -implicitDefEqProofs only [v39, VMs, noRef, noRef1, isRef, List.all_cons, List.all_nil, vop, VOp.still, VOp.app, VOp.plain, allP, lof, evs, start, asI, vbin, vcells, ntup, setAll, vfill, vress, vres, tup, Nat.reduceEqDiff, ↓reduceIte, Nat.reduceAdd, Nat.reduceMul, Nat.reduceLeDiff, reduceCtorEq, c1, h0']
    exact ⟨_, _, rfl, NewPR.nil _ _⟩
end Go.Proofs.Ytflddpkmajoeaaa.V
