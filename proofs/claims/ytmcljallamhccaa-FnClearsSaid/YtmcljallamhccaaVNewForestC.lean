/- NewForest: the program's and the reference's. -/
import Derived.Test.YtmcljallamhccaaVC4
namespace Go.Proofs.Ytmcljallamhccaa.V
open Go
set_option linter.unusedVariables false
set_option linter.unusedSimpArgs false
set_option maxRecDepth 100000
theorem zB_rd (H : Hp) (i : Nat) (n : Nat) (b : Blk) (hb : H.blk i = some b) (hc : b.cs = zB n) : Rep EB 2 H (some ⟨i, 0, none⟩) n (List.replicate n ⟨0, 0⟩) := by
  refine ⟨by simp, fun _ => ⟨i, 0, rfl, fun j x hx => ?_⟩⟩
  obtain ⟨hj, hx⟩ := List.getElem?_eq_some_iff.1 hx
  rw [List.getElem_replicate] at hx; subst hx
  rw [List.length_replicate] at hj
  have key : ∀ n j : Nat, j < n → (zB n)[j * 2]? = some (.int .i64 0) ∧ (zB n)[j * 2 + 1]? = some (.int .i64 0) := by
    intro n
    induction n with
    | zero => intro j hj; omega
    | succ n ih =>
      intro j hj
      have e : zB (n + 1) = .int .i64 0 :: .int .i64 0 :: zB n := by simp [zB, List.replicate_succ]
      rw [e]
      rcases j with _ | j
      · exact ⟨rfl, rfl⟩
      · have := ih j (by omega)
        rw [Nat.add_mul, Nat.one_mul]
        exact ⟨this.1, this.2⟩
  obtain ⟨h1, h2⟩ := key n j hj
  exact ⟨by simp only [rd, hb, Option.bind_some, hc, Nat.zero_add]; exact h1, by simp only [rd, hb, Option.bind_some, hc, Nat.zero_add]; exact h2⟩
def newF (n : Int) : Int × Int × Fo := if 0 ≤ n ∧ n ≤ 24 then (0, -1, ⟨[], List.replicate n.toNat ⟨0, 0⟩⟩) else (3, 0, ⟨[], []⟩)
theorem newF_sm (n : Int) : SF (newF n).2.2 := by
  unfold newF
  split
  · exact ⟨by simp [Sm], by simp [Sm]; omega, by simp⟩
  · exact ⟨by simp [Sm], by simp [Sm], by simp⟩
theorem newF_km (n : Int) : Km (1 + sF (newF n).2.2) := by
  unfold newF
  split
  · simp [sF, sN, Km]; omega
  · simp [sF, sN, Km]
theorem NewR.zB {H H' : Hp} (c r : Int) (n i : Nat) (k0 : Bool) (hf : Fr (fun _ => False) H H') (hi : H.length ≤ i) (hb : H'.blk i = some ⟨zB n, true, k0⟩) : NewR H H' (.agg #[.int .i64 c, .int .i64 r, .slice none 0 0, .slice (some ⟨i, 0, none⟩) n 2]) c r ⟨[], List.replicate n ⟨0, 0⟩⟩ :=
  ⟨fun _ => False, fun j => j = i, none, 0, some ⟨i, 0, none⟩, n, rfl, hf, fun j h => by rcases h with h | h; exact h.elim; rw [h]; exact hi, ON.nil, zB_rd _ _ _ _ hb rfl, fun j ⟨o, h⟩ => (by cases h; exact ⟨⟨hi, _, hb, rfl⟩, rfl⟩), fun j h => h.elim, fun j h => by rcases h with h | h; exact h.elim; rw [h]; exact blk_lt hb, fun A e => by cases e; exact ⟨rfl, rfl⟩⟩
theorem specNewForest_c (d lo : Nat) (H : Hp) (n : Int) : ∃ v H', vcall env (d + 3) 41 [.int .i64 n] lo H = some (v, H') ∧ NewR H H' v (newF n).1 (newF n).2.1 (newF n).2.2 := by
  by_cases h : 0 ≤ n ∧ n ≤ 24
  · simp only [newF, if_pos h]
    obtain ⟨x, c1⟩ := specNewBlocks_ok d H.length (H ++ [some ⟨[.int .i64 0, .int .i64 0, .slice none 0 0, .slice none 0 0], true, false⟩]) n h
    rw [call_eq find41 _ _ _ rfl]
    simp only [List.append_assoc, List.length_append, List.cons_append, List.nil_append, List.length_cons, List.length_nil] at c1
    simp -implicitDefEqProofs only [v41, VMs, noRef, noRef1, isRef, List.all_cons, List.all_nil, vop, VOp.still, VOp.app, VOp.plain, allP, lof, evs, start, asI, vbin, vcells, ntup, setAll, vfill, vress, vres, tup, Nat.reduceEqDiff, ↓reduceIte, Nat.reduceAdd, Nat.reduceMul, Nat.reduceLeDiff, reduceCtorEq, c1, bne_self_eq_false]
    exact ⟨_, _, rfl, NewR.zB _ _ _ _ _ Fr.app (by omega) (by rw [Nat.add_assoc, blkn]; rfl)⟩
  · simp only [newF, if_neg h]
    have c1 := fun l => specNewBlocks_bad d H.length (H ++ l) n h
    rw [call_eq find41 _ _ _ rfl]
    simp -implicitDefEqProofs only [v41, VMs, noRef, noRef1, isRef, List.all_cons, List.all_nil, vop, VOp.still, VOp.app, VOp.plain, allP, lof, evs, start, asI, vbin, vcells, ntup, setAll, vfill, vress, vres, tup, Nat.reduceEqDiff, ↓reduceIte, Nat.reduceAdd, Nat.reduceMul, Nat.reduceLeDiff, reduceCtorEq, c1, l4Bad_c, bne, Int.reduceBEq]
    exact ⟨_, _, rfl, NewR.nil _ _ _⟩
theorem implNewForest_c (d lo : Nat) (H : Hp) (n : Int) : ∃ v H', vcall env (d + 3) 42 [.int .i64 n] lo H = some (v, H') ∧ NewR H H' v (newF n).1 (newF n).2.1 (newF n).2.2 := by
  by_cases h : 0 ≤ n ∧ n ≤ 24
  · simp only [newF, if_pos h]
    obtain ⟨x, c1⟩ := implNewBlocks_ok d H.length (H ++ [some ⟨[.int .i64 0, .int .i64 0, .slice none 0 0, .slice none 0 0], true, false⟩]) n h
    rw [call_eq find42 _ _ _ rfl]
    simp only [List.append_assoc, List.length_append, List.cons_append, List.nil_append, List.length_cons, List.length_nil] at c1
    simp -implicitDefEqProofs only [v42, VMs, noRef, noRef1, isRef, List.all_cons, List.all_nil, vop, VOp.still, VOp.app, VOp.plain, allP, lof, evs, start, asI, vbin, vcells, ntup, setAll, vfill, vress, vres, tup, Nat.reduceEqDiff, ↓reduceIte, Nat.reduceAdd, Nat.reduceMul, Nat.reduceLeDiff, reduceCtorEq, c1, bne_self_eq_false]
    exact ⟨_, _, rfl, NewR.zB _ _ _ _ _ Fr.app (by omega) (by rw [Nat.add_assoc, blkn]; rfl)⟩
  · simp only [newF, if_neg h]
    have c1 := fun l => implNewBlocks_bad d H.length (H ++ l) n h
    rw [call_eq find42 _ _ _ rfl]
    simp -implicitDefEqProofs only [v42, VMs, noRef, noRef1, isRef, List.all_cons, List.all_nil, vop, VOp.still, VOp.app, VOp.plain, allP, lof, evs, start, asI, vbin, vcells, ntup, setAll, vfill, vress, vres, tup, Nat.reduceEqDiff, ↓reduceIte, Nat.reduceAdd, Nat.reduceMul, Nat.reduceLeDiff, reduceCtorEq, c1, bne, Int.reduceBEq]
    exact ⟨_, _, rfl, NewR.nil _ _ _⟩
end Go.Proofs.Ytmcljallamhccaa.V
