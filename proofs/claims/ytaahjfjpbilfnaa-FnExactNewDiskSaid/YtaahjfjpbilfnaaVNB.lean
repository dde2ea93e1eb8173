/- What comes of an operation on a disk: likeness, marks; disks in new memory. -/
import Derived.Test.YtaahjfjpbilfnaaVNA
namespace Go.Proofs.Ytaahjfjpbilfnaa.V
open Go
set_option linter.unusedVariables false
set_option linter.unusedSimpArgs false
set_option maxRecDepth 100000
def mD (D : Dk) (k : Int) : Dk := ⟨mI D.w.length k, mB D.p.length (k + (D.w.length : Int))⟩
theorem sD_nonneg (D : Dk) : 0 ≤ sD D := by unfold sD; omega
theorem eqDiskResult_c (d lo : Nat) (H : Hp) {aw nw ap np aw' nw' ap' np'} {D G : Dk} (c c' : Int) (hD : RD H aw nw ap np D) (hG : RD H aw' nw' ap' np' G) (hs : SD D) :
    vcall env (d + 4) 34 [.agg #[.int .i64 c, .slice aw nw (sg aw 1), .slice ap np (sg ap 2)], .agg #[.int .i64 c', .slice aw' nw' (sg aw' 1), .slice ap' np' (sg ap' 2)]] lo H = some (.bool (decide (c = c' ∧ D = G)), H) := by
  rw [call_eq find34 _ _ _ rfl]
  have c1 := fun l => eqDisk_c d H.length (H ++ l) hD.app hG.app hs
  by_cases h1 : c = c' <;> by_cases h2 : D = G <;> simp -implicitDefEqProofs only [v34, VMs, noRef, noRef1, isRef, List.all_cons, List.all_nil, vop, VOp.still, VOp.app, VOp.plain, allP, lof, evs, start, asI, vbin, vcells, ntup, setAll, vfill, vress, vres, tup, Nat.reduceEqDiff, ↓reduceIte, Nat.reduceAdd, Nat.reduceMul, Nat.reduceLeDiff, reduceCtorEq, c1, h1, h2, bne_self_eq_false, decide_true, decide_false, (bne_iff_ne (a := c) (b := c')).2, ne_eq, not_false_eq_true]
theorem markDiskR_c (d lo : Nat) (H : Hp) (S T : Nat → Prop) {aw nw ap np D} (k : Int) (h : DO lo H S T aw nw ap np D) (hs : SD D) (hk : 0 ≤ k) (hk' : Km (k + sD D)) :
    ∃ H', vcall env (d + 2) 41 [.agg #[.slice aw nw (sg aw 1), .slice ap np (sg ap 2)], .int .i64 k] lo H = some (.int .i64 (k + sD D), H') ∧ Fr (fun i => S i ∨ T i) H H' ∧ RD H' aw nw ap np (mD D k) := by
  have n1 := h.w.1
  have n2 := h.p.1
  have h1 := h.fr (U := fun _ => False) (fun i _ => id) (Fr.app (l := [some ⟨[.slice aw nw (sg aw 1), .slice ap np (sg ap 2)], true, false⟩]))
  have hk1 : Km (k + (nw : Int)) := hk'.lt (by omega) (by unfold sD; omega)
  have hk2 : Km (k + (nw : Int) + 2 * (np : Int)) := hk'.lt (by omega) (by unfold sD; omega)
  obtain ⟨H1, c1, l1, f1, r1⟩ := markInt64S_c d lo _ S aw nw D.w k h1.w (ON.own h1.ow) (n1 ▸ hs.w) hk hk1
  have hb1 := h1.p.frB (T := S) (fun i hi hs => h.d i hs (h.op i hi).2) f1
  obtain ⟨H2, c2, l2, f2, r2⟩ := markPutS_c d lo H1 T ap np D.p (k + (nw : Int)) hb1 (ON.own fun i hi => ⟨f1.wb _ _ (h1.op i hi).1, (h1.op i hi).2⟩) (n2 ▸ hs.p) (by omega) hk2
  have hrd : rd H1 ⟨H.length, 1, none⟩ = some (.slice ap np (sg ap 2)) := (f1.rd _ _ (by simp) (fun hs => Nat.lt_irrefl _ (h.lt _ (Or.inl hs)))).trans (by simp [rd0])
  refine ⟨H2, ?_, Fr.trans Fr.app ((f1.mono fun i hi => Or.inl hi).trans (f2.mono fun i hi => Or.inr hi)), ⟨?_, ?_⟩⟩
  · rw [call_eq find41 _ _ _ rfl]
    simp -implicitDefEqProofs only [v41, VMs, noRef, noRef1, isRef, List.all_cons, List.all_nil, vop, VOp.still, VOp.app, VOp.plain, allP, lof, evs, start, asI, vbin, vcells, ntup, setAll, vfill, vress, vres, tup, Nat.reduceEqDiff, ↓reduceIte, Nat.reduceAdd, Nat.reduceMul, Nat.reduceLeDiff, reduceCtorEq, c1, c2, hrd, sD]
    rw [n1, n2, Int.add_assoc]
  · have := r1.fr (T := T) (fun i hi => h.d i (h.ow i hi).2) f2
    unfold mD; rw [← n1]; exact this
  · unfold mD; simp only; rw [← n1, ← n2]; exact r2
theorem markDiskResult_c (d lo : Nat) (H : Hp) (S T : Nat → Prop) {aw nw ap np D} (c k : Int) (h : DO lo H S T aw nw ap np D) (hs : SD D) (hk : 0 ≤ k) (hk' : Km (k + sD D)) :
    ∃ H', vcall env (d + 3) 37 [.agg #[.int .i64 c, .slice aw nw (sg aw 1), .slice ap np (sg ap 2)], .int .i64 k] lo H = some (.int .i64 (k + sD D), H') ∧ Fr (fun i => S i ∨ T i) H H' ∧ RD H' aw nw ap np (mD D k) := by
  have h1 := h.fr (U := fun _ => False) (fun i _ => id) (Fr.app (l := [some ⟨[.int .i64 c, .slice aw nw (sg aw 1), .slice ap np (sg ap 2)], true, false⟩]))
  obtain ⟨H1, c1, f1, r1⟩ := markDiskR_c d lo _ S T k h1 hs hk hk'
  refine ⟨H1, ?_, Fr.trans Fr.app f1, r1⟩
  rw [call_eq find37 _ _ _ rfl]
  simp -implicitDefEqProofs only [v37, VMs, noRef, noRef1, isRef, List.all_cons, List.all_nil, vop, VOp.still, VOp.app, VOp.plain, allP, lof, evs, start, asI, vbin, vcells, ntup, setAll, vfill, vress, vres, tup, Nat.reduceEqDiff, ↓reduceIte, Nat.reduceAdd, Nat.reduceMul, Nat.reduceLeDiff, reduceCtorEq, c1]
theorem heldDisk_c (d lo : Nat) (H : Hp) {aw nw ap np D} (k : Int) (h : RD H aw nw ap np (mD D k)) (hs : SD D) (hk : 0 ≤ k) (hk' : Km (k + sD D)) :
    vcall env (d + 2) 86 [.agg #[.slice aw nw (sg aw 1), .slice ap np (sg ap 2)], .int .i64 k] lo H = some (.int .i64 (k + sD D), H) := by
  have n1 : nw = D.w.length := by rw [h.w.1, mD, mI_len]
  have n2 : np = D.p.length := by rw [h.p.1, mD, mB_len]
  have hw := fun l => (h.app (l := l)).w
  have hp := fun l => (h.app (l := l)).p
  simp only [mD, ← n1, ← n2] at hw hp
  have hk1 : Km (k + (nw : Int)) := hk'.lt (by omega) (by unfold sD; omega)
  have hk2 : Km (k + (nw : Int) + 2 * (np : Int)) := hk'.lt (by omega) (by unfold sD; omega)
  have c1 := fun l => heldInt64S_c d H.length (H ++ l) aw nw k (hw l) (n1 ▸ hs.w) hk hk1
  have c2 := fun l => heldPutS_c d H.length (H ++ l) ap np (k + (nw : Int)) (hp l) (n2 ▸ hs.p) (by omega) hk2
  have e1 : decide (k + (nw : Int) < 0) = false := decide_eq_false (by omega)
  have e2 : decide (k + (nw : Int) + 2 * (np : Int) < 0) = false := decide_eq_false (by omega)
  rw [call_eq find86 _ _ _ rfl]
  simp -implicitDefEqProofs only [v86, VMs, noRef, noRef1, isRef, List.all_cons, List.all_nil, vop, VOp.still, VOp.app, VOp.plain, allP, lof, evs, start, asI, vbin, vcells, ntup, setAll, vfill, vress, vres, tup, Nat.reduceEqDiff, ↓reduceIte, Nat.reduceAdd, Nat.reduceMul, Nat.reduceLeDiff, reduceCtorEq, c1, c2, e1, e2, sD]
  rw [n1, n2, Int.add_assoc]
theorem heldDiskResult_c (d lo : Nat) (H : Hp) {aw nw ap np D} (c k : Int) (h : RD H aw nw ap np (mD D k)) (hs : SD D) (hk : 0 ≤ k) (hk' : Km (k + sD D)) :
    vcall env (d + 3) 38 [.agg #[.int .i64 c, .slice aw nw (sg aw 1), .slice ap np (sg ap 2)], .int .i64 k] lo H = some (.int .i64 (k + sD D), H) := by
  have sn := sD_nonneg D
  have c1 := fun l => heldDisk_c d H.length (H ++ l) k h.app hs hk hk'
  have e1 : decide (k + sD D < 0) = false := decide_eq_false (by omega)
  rw [call_eq find38 _ _ _ rfl]
  simp -implicitDefEqProofs only [v38, VMs, noRef, noRef1, isRef, List.all_cons, List.all_nil, vop, VOp.still, VOp.app, VOp.plain, allP, lof, evs, start, asI, vbin, vcells, ntup, setAll, vfill, vress, vres, tup, Nat.reduceEqDiff, ↓reduceIte, Nat.reduceAdd, Nat.reduceMul, Nat.reduceLeDiff, reduceCtorEq, c1, e1]
/-- What an operation on a disk gives, in new memory. -/
def NewDR (H H' : Hp) (v : Value) (c : Int) (D : Dk) : Prop := ∃ S T aw nw ap np, v = .agg #[.int .i64 c, .slice aw nw (sg aw 1), .slice ap np (sg ap 2)] ∧ Fn H H' ∧ (∀ i, S i ∨ T i → H.length ≤ i) ∧ DO H.length H' S T aw nw ap np D
theorem DO.nil {lo : Nat} {H : Hp} : DO lo H (fun _ => False) (fun _ => False) none 0 none 0 ⟨[], []⟩ :=
  ⟨Rep.nil, Rep.nil, fun i h => h.no.elim, fun i h => h.no.elim, fun i h => h.elim, fun i h => (or_self_iff.1 h).elim⟩
theorem NewDR.nil (H : Hp) (c : Int) : NewDR H H (.agg #[.int .i64 c, .slice none 0 0, .slice none 0 0]) c ⟨[], []⟩ :=
  ⟨_, _, none, 0, none, 0, rfl, Fr.refl, fun i h => (or_self_iff.1 h).elim, DO.nil⟩
theorem noRefD {a : Value} {an ab : Option Addr} {nn nb s t : Nat} (ha : isRef a = false) : noRef (.agg #[a, .slice an nn s, .slice ab nb t]) = true → an = .none ∧ ab = .none := by
  intro h
  cases an <;> cases ab <;> simp_all [noRef, noRef1, isRef]
theorem Rep.none_nil {α : Type} {E : Hp → Nat → Nat → α → Prop} {st : Nat} {H : Hp} {n : Nat} {l : List α} (h : Rep E st H none n l) : l = [] ∧ n = 0 := by
  have hl : l = [] := by
    cases l with
    | nil => rfl
    | cons x r => obtain ⟨i, o, e, _⟩ := h.2 (by simp); cases e
  exact ⟨hl, by rw [h.1, hl]; rfl⟩
theorem NewDR.done {H H2 : Hp} {v : Value} {c : Int} {D : Dk} (h : NewDR H H2 v c D) : NewDR H (if noRef v = true then H else H2) v c D := by
  by_cases hn : noRef v = true
  · rw [if_pos hn]
    obtain ⟨S, T, aw, nw, ap, np, rfl, f, g, o⟩ := h
    obtain ⟨rfl, rfl⟩ := noRefD rfl hn
    obtain ⟨h1, rfl⟩ := o.w.none_nil
    obtain ⟨h2, rfl⟩ := o.p.none_nil
    obtain ⟨w, p⟩ := D
    simp only at h1 h2
    subst h1 h2
    exact NewDR.nil H c
  · rw [if_neg hn]; exact h
/-- Words in a block of their own, and no puts. -/
theorem NewDR.words {H H' : Hp} {i : Nat} {w : List Int} {k0 : Bool} (hf : Fn H H') (hi : H.length ≤ i) (hb : H'.blk i = some ⟨vI w, true, k0⟩) : NewDR H H' (.agg #[.int .i64 0, .slice (some ⟨i, 0, none⟩) w.length 1, .slice none 0 0]) 0 ⟨w, []⟩ :=
  ⟨(· = i), fun _ => False, some ⟨i, 0, none⟩, w.length, none, 0, rfl, hf, fun j h => by rcases h with h | h; rw [h]; exact hi; exact h.elim, ⟨vI_rep hb rfl, Rep.nil, fun j ⟨o, e⟩ => (by cases e; exact ⟨⟨hi, _, hb, rfl⟩, rfl⟩), fun j h => h.no.elim, fun j _ h => h.elim, fun j h => by rcases h with h | h; rw [h]; exact blk_lt hb; exact h.elim⟩⟩
end Go.Proofs.Ytaahjfjpbilfnaa.V
