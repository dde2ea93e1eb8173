/- WalkTree: the program's and the reference's. -/
import Derived.Test.YtmcljallamhccaaVCF
namespace Go.Proofs.Ytmcljallamhccaa.V
open Go
set_option linter.unusedVariables false
set_option linter.unusedSimpArgs false
set_option maxRecDepth 100000
/-- A list of numbers, with a code, in new memory. -/
def NewI (H H' : Hp) (v : Value) (c : Int) (l : List Int) : Prop := ∃ a, v = .agg #[.int .i64 c, .slice a l.length (sg a 1)] ∧ Fn H H' ∧ Rep EI 1 H' a l.length l ∧ ∀ i, Ad a i → H.length ≤ i ∧ WB H.length H' i
theorem NewI.nil (H : Hp) (c : Int) : NewI H H (.agg #[.int .i64 c, .slice none 0 0]) c [] := ⟨none, rfl, Fr.refl, Rep.nil, fun i h => h.no.elim⟩
theorem NI.rep {lo : Nat} {H : Hp} {i : Nat} {l : List Int} (h : NI lo H i l) : Rep EI 1 H (some ⟨i, 0, none⟩) l.length l := let ⟨k0, hb, _⟩ := h.b; vI_rep hb rfl
def walkC (F : Fo) (root : Int) : Int := askF F root true
def walkR (F : Fo) (root : Int) : List Int := if askF F root true = 0 then walkL F root 16 else []
theorem specWalkTree_c (d lo : Nat) (H : Hp) {an nn ab nb F} (h : RF H an nn ab nb F) (hs : SF F) (root : Int) :
    ∃ v H', vcall env (d + 6) 58 [.agg #[.slice an nn (sg an 3), .slice ab nb (sg ab 2)], .int .i64 root] lo H = some (v, H') ∧ NewI H H' v (walkC F root) (walkR F root) := by
  have hp : PF (H ++ [some ⟨[.slice an nn (sg an 3), .slice ab nb (sg ab 2)], true, false⟩, some ⟨[.int .i64 0, .slice none 0 0], true, false⟩]) H.length 0 an nn ab nb F := ⟨by simp [rd0], by simp [rd0], h.app⟩
  have c1 := l4Asked_c d H.length _ hp hs root 0
  have h015 : decide ((0 : Int) ≤ 0 ∧ (0 : Int) ≤ 15) = true := rfl
  rw [h015] at c1
  rw [call_eq find58 _ _ _ rfl]
  unfold walkC walkR
  by_cases h0 : askF F root true = 0
  · obtain ⟨g, hr, _, _⟩ := ask_zero h0
    obtain ⟨i, H1, c2, f1, ni⟩ := l4Walk_c (d + 2) H.length _ hp g root hr
    have b1 : H1.blk (H.length + 1) = some ⟨[.int .i64 0, .slice none 0 0], true, false⟩ := (f1.blk (H.length + 1) (by simp) id).trans (blkn 1)
    have g3 := fun vs hv => wr_setB (lo := H.length) b1 (by omega) vs hv
    have g4 := fun vs hv => rdN_setB b1 2 vs hv
    have hlo := ni.lo
    simp only [List.length_append, List.length_cons, List.length_nil] at hlo
    obtain ⟨k0, hb, hk0⟩ := ni.b
    have r1 := ni.rep
    rw [h0] at c1
    rw [if_pos h0]
    generalize walkL F root 16 = L at *
    refine ⟨.agg #[.int .i64 0, .slice (some ⟨i, 0, none⟩) L.length 1], setB H1 (H.length + 1) [.int .i64 0, .slice (some ⟨i, 0, none⟩) L.length 1], ?_, some ⟨i, 0, none⟩, by rw [h0]; rfl, Fn.setB (Fr.app.trans f1) (by omega) b1 _, r1.fr (fun j ⟨o', e⟩ => by cases e; omega) (Fr.setB b1 _), fun j ⟨o', e⟩ => ?_⟩
    · simp only [Nat.add_assoc, Nat.reduceAdd] at c2
      simp -implicitDefEqProofs only [v58, VMs, noRef, noRef1, isRef, List.all_cons, List.all_nil, vop, VOp.still, VOp.app, VOp.plain, allP, lof, evs, start, asI, vbin, vcells, ntup, setAll, vfill, vress, vres, tup, Nat.reduceEqDiff, ↓reduceIte, Nat.reduceAdd, Nat.reduceMul, Nat.reduceLeDiff, reduceCtorEq, c1, bne_self_eq_false, c2, g3, g4]
    · cases e
      exact ⟨by omega, by omega, _, by rw [blk_setB b1, if_neg (by omega)]; exact hb, rfl⟩
  · have h0' : (askF F root true != 0) = true := by rw [bne_iff_ne]; exact h0
    rw [if_neg h0]
    refine ⟨_, _, ?_, NewI.nil H _⟩
    simp -implicitDefEqProofs only [v58, VMs, noRef, noRef1, isRef, List.all_cons, List.all_nil, vop, VOp.still, VOp.app, VOp.plain, allP, lof, evs, start, asI, vbin, vcells, ntup, setAll, vfill, vress, vres, tup, Nat.reduceEqDiff, ↓reduceIte, Nat.reduceAdd, Nat.reduceMul, Nat.reduceLeDiff, reduceCtorEq, c1, h0']
theorem implWalkTree_c (d lo : Nat) (H : Hp) {an nn ab nb F} (h : RF H an nn ab nb F) (hs : SF F) (root : Int) :
    ∃ v H', vcall env (d + 8) 59 [.agg #[.slice an nn (sg an 3), .slice ab nb (sg ab 2)], .int .i64 root] lo H = some (v, H') ∧ NewI H H' v (walkC F root) (walkR F root) := by
  have hp : PF (H ++ [some ⟨[.slice an nn (sg an 3), .slice ab nb (sg ab 2)], true, false⟩, some ⟨[.int .i64 0, .slice none 0 0], true, false⟩]) H.length 0 an nn ab nb F := ⟨by simp [rd0], by simp [rd0], h.app⟩
  have c1 := forestCode_c d H.length _ hp.f hs root true
  rw [call_eq find59 _ _ _ rfl]
  unfold walkC walkR
  by_cases h0 : askF F root true = 0
  · obtain ⟨g, hr, _, _⟩ := ask_zero h0
    obtain ⟨i, H1, c2, f1, ni⟩ := walk_c (d + 4) H.length _ hp g root hr
    have b1 : H1.blk (H.length + 1) = some ⟨[.int .i64 0, .slice none 0 0], true, false⟩ := (f1.blk (H.length + 1) (by simp) id).trans (blkn 1)
    have g3 := fun vs hv => wr_setB (lo := H.length) b1 (by omega) vs hv
    have g4 := fun vs hv => rdN_setB b1 2 vs hv
    have hlo := ni.lo
    simp only [List.length_append, List.length_cons, List.length_nil] at hlo
    obtain ⟨k0, hb, hk0⟩ := ni.b
    have r1 := ni.rep
    rw [h0] at c1
    rw [if_pos h0]
    generalize walkL F root 16 = L at *
    refine ⟨.agg #[.int .i64 0, .slice (some ⟨i, 0, none⟩) L.length 1], setB H1 (H.length + 1) [.int .i64 0, .slice (some ⟨i, 0, none⟩) L.length 1], ?_, some ⟨i, 0, none⟩, by rw [h0]; rfl, Fn.setB (Fr.app.trans f1) (by omega) b1 _, r1.fr (fun j ⟨o', e⟩ => by cases e; omega) (Fr.setB b1 _), fun j ⟨o', e⟩ => ?_⟩
    · simp only [Nat.add_assoc, Nat.reduceAdd] at c2
      simp -implicitDefEqProofs only [v59, VMs, noRef, noRef1, isRef, List.all_cons, List.all_nil, vop, VOp.still, VOp.app, VOp.plain, allP, lof, evs, start, asI, vbin, vcells, ntup, setAll, vfill, vress, vres, tup, Nat.reduceEqDiff, ↓reduceIte, Nat.reduceAdd, Nat.reduceMul, Nat.reduceLeDiff, reduceCtorEq, c1, bne_self_eq_false, c2, g3, g4]
    · cases e
      exact ⟨by omega, by omega, _, by rw [blk_setB b1, if_neg (by omega)]; exact hb, rfl⟩
  · have h0' : (askF F root true != 0) = true := by rw [bne_iff_ne]; exact h0
    rw [if_neg h0]
    refine ⟨_, _, ?_, NewI.nil H _⟩
    simp -implicitDefEqProofs only [v59, VMs, noRef, noRef1, isRef, List.all_cons, List.all_nil, vop, VOp.still, VOp.app, VOp.plain, allP, lof, evs, start, asI, vbin, vcells, ntup, setAll, vfill, vress, vres, tup, Nat.reduceEqDiff, ↓reduceIte, Nat.reduceAdd, Nat.reduceMul, Nat.reduceLeDiff, reduceCtorEq, c1, h0']
end Go.Proofs.Ytmcljallamhccaa.V
