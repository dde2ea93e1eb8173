/- What the laws' helpers measure. -/
import Derived.Test.YtohanpndekfbgaaDoorVC5
namespace Go.Proofs.YtohanpndekfbgaaDoor.V
open Go
set_option linter.unusedVariables false
set_option linter.unusedSimpArgs false
set_option maxRecDepth 100000
/-- Loops by what holds before each round; a round may leave the loop. -/
theorem lim_inv2 {f : Ts → Hp → Option (VE × Ts × Hp)} {Q : VE × Ts × Hp → Prop} (I : Nat → Ts → Hp → Prop) (n : Nat) (hround : ∀ i ts H, i < n → I i ts H → (∃ ts' H', f ts H = some (.normal, ts', H') ∧ I (i + 1) ts' H') ∨ ∃ r, f ts H = some r ∧ r.1 ≠ .normal ∧ Q r) (hend : ∀ ts H, I n ts H → ∃ r, f ts H = some r ∧ r.1 ≠ .normal ∧ Q r) {ts : Ts} {H : Hp} (h0 : I 0 ts H) : ∃ r, lim f ts H = some r ∧ Q r := by
  have key : ∀ k i ts H, n - i = k → i ≤ n → I i ts H → ∃ r, lim f ts H = some r ∧ Q r := by
    intro k
    induction k with
    | zero =>
      intro i ts H hk hi hI
      obtain rfl : i = n := by omega
      obtain ⟨⟨e, ts', H'⟩, h1, h2, h3⟩ := hend ts H hI
      exact ⟨_, lim_end h1 h2, h3⟩
    | succ k ih =>
      intro i ts H hk hi hI
      rcases hround i ts H (by omega) hI with ⟨ts', H', h1, h2⟩ | ⟨⟨e, ts', H'⟩, h1, h2, h3⟩
      · obtain ⟨r, h3, h4⟩ := ih (i + 1) ts' H' (by omega) (by omega) h2
        exact ⟨r, lim_step h1 h3, h4⟩
      · exact ⟨_, lim_end h1 h2, h3⟩
  exact key n 0 ts H (by omega) (by omega) h0
/-- What is left of a number of places. -/
def Lf (k : Int) : Prop := k ≤ 4611686018427387904
theorem Lf.w {k : Int} {n : Nat} (h : Lf k) (h0 : 0 ≤ k) (hn : Sm n) : IntKind.i64.wrap (k - (n : Int)) = k - (n : Int) := by unfold Lf at h; unfold Sm at hn; exact wr (by omega) (by omega)
theorem szInt64S_c (d lo : Nat) (H : Hp) (a : Option Addr) (n s : Nat) (k : Int) (hn : Sm n) (hk : Lf k) (h0 : 0 ≤ k) : vcall env (d + 1) 12 [.slice a n s, .int .i64 k] lo H = some (.int .i64 (if k - (n : Int) < 0 then -1 else k - (n : Int)), H) := by
  rw [call_eq find12 _ _ _ rfl]
  by_cases h : k - (n : Int) < 0
  · simp -implicitDefEqProofs only [v12, VMs, noRef, noRef1, isRef, List.all_cons, List.all_nil, vop, VOp.still, VOp.app, VOp.plain, allP, lof, evs, start, asI, vbin, vcells, ntup, setAll, vfill, vress, vres, tup, Nat.reduceEqDiff, ↓reduceIte, Nat.reduceAdd, Nat.reduceMul, Nat.reduceLeDiff, reduceCtorEq, slen, hk.w h0 hn, h, decide_true]
  · simp -implicitDefEqProofs only [v12, VMs, noRef, noRef1, isRef, List.all_cons, List.all_nil, vop, VOp.still, VOp.app, VOp.plain, allP, lof, evs, start, asI, vbin, vcells, ntup, setAll, vfill, vress, vres, tup, Nat.reduceEqDiff, ↓reduceIte, Nat.reduceAdd, Nat.reduceMul, Nat.reduceLeDiff, reduceCtorEq, slen, hk.w h0 hn, h, decide_false]
def kN' (l : List Nd) : Int := (l.map fun x => (x.k.length : Int)).sum
theorem kN'_take (l : List Nd) (j : Nat) (x : Nd) (h : l[j]? = some x) : kN' (l.take (j + 1)) = kN' (l.take j) + (x.k.length : Int) := by
  obtain ⟨hj, rfl⟩ := List.getElem?_eq_some_iff.1 h
  simp only [kN', List.map_take]
  rw [List.take_add_one]
  simp [hj]
end Go.Proofs.YtohanpndekfbgaaDoor.V
