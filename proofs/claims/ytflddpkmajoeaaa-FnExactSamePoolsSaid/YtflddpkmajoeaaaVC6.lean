/- What the laws' helpers measure. -/
import Derived.Test.YtflddpkmajoeaaaVC5
namespace Go.Proofs.Ytflddpkmajoeaaa.V
open Go
set_option linter.unusedVariables false
set_option linter.unusedSimpArgs false
set_option maxRecDepth 100000
/-- Loops by what holds before each round; a round may leave the loop. -/
theorem lim_inv2 {f : Ts → Hp → Option (VE × Ts × Hp)} {Q : VE × Ts × Hp → Prop} (I : Nat → Ts → Hp → Prop) (n : Nat) (hround : ∀ i ts H, i < n → I i ts H → (∃ ts' H', f ts H = some (.normal, ts', H') ∧ I (i + 1) ts' H') ∨ ∃ r, f ts H = some r ∧ r.1 ≠ .normal ∧ Q r) (hend : ∀ ts H, I n ts H → ∃ r, f ts H = some r ∧ r.1 ≠ .normal ∧ Q r) {ts : Ts} {H : Hp} (h0 : I 0 ts H) : ∃ r, lim f ts H = some r ∧ Q r := by
  have key : ∀ k i ts H, n - i = k → i ≤ n → I i ts H → ∃ r, lim f ts H = some r ∧ Q r := by
    intro k
    induction k with
    | zero =>
      intro i ts H hk hi hI
      obtain rfl : i = n := by omega
      obtain ⟨⟨e, ts', H'⟩, h1, h2, h3⟩ := hend ts H hI
      exact ⟨_, lim_end h1 h2, h3⟩
    | succ k ih =>
      intro i ts H hk hi hI
      rcases hround i ts H (by omega) hI with ⟨ts', H', h1, h2⟩ | ⟨⟨e, ts', H'⟩, h1, h2, h3⟩
      · obtain ⟨r, h3, h4⟩ := ih (i + 1) ts' H' (by omega) (by omega) h2
        exact ⟨r, lim_step h1 h3, h4⟩
      · exact ⟨_, lim_end h1 h2, h3⟩
  exact key n 0 ts H (by omega) (by omega) h0
/-- What is left of a number of places. -/
def Lf (k : Int) : Prop := k ≤ 4611686018427387904
theorem Lf.w {k : Int} {n : Nat} (h : Lf k) (h0 : 0 ≤ k) (hn : Sm n) : IntKind.i64.wrap (k - (n : Int)) = k - (n : Int) := by unfold Lf at h; unfold Sm at hn; exact wr (by omega) (by omega)
theorem szInt64S_c (d lo : Nat) (H : Hp) (a : Option Addr) (n s : Nat) (k : Int) (hn : Sm n) (hk : Lf k) (h0 : 0 ≤ k) : vcall env (d + 1) 60 [.slice a n s, .int .i64 k] lo H = some (.int .i64 (if k - (n : Int) < 0 then -1 else k - (n : Int)), H) := by
  rw [call_eq find60 _ _ _ rfl]
  by_cases h : k - (n : Int) < 0
  · simp -implicitDefEqProofs only [v60, VMs, noRef, noRef1, isRef, List.all_cons, List.all_nil, vop, VOp.still, VOp.app, VOp.plain, allP, lof, evs, start, asI, vbin, vcells, ntup, setAll, vfill, vress, vres, tup, Nat.reduceEqDiff, ↓reduceIte, Nat.reduceAdd, Nat.reduceMul, Nat.reduceLeDiff, reduceCtorEq, slen, hk.w h0 hn, h, decide_true]
  · simp -implicitDefEqProofs only [v60, VMs, noRef, noRef1, isRef, List.all_cons, List.all_nil, vop, VOp.still, VOp.app, VOp.plain, allP, lof, evs, start, asI, vbin, vcells, ntup, setAll, vfill, vress, vres, tup, Nat.reduceEqDiff, ↓reduceIte, Nat.reduceAdd, Nat.reduceMul, Nat.reduceLeDiff, reduceCtorEq, slen, hk.w h0 hn, h, decide_false]
theorem szBlockS_c (d lo : Nat) (H : Hp) (a : Option Addr) (n s : Nat) (k : Int) (hn : Sm n) (hk : Lf k) (h0 : 0 ≤ k) : vcall env (d + 1) 113 [.slice a n s, .int .i64 k] lo H = some (.int .i64 (if k - (n : Int) < 0 then -1 else k - (n : Int)), H) := by
  rw [call_eq find113 _ _ _ rfl]
  by_cases h : k - (n : Int) < 0
  · simp -implicitDefEqProofs only [v113, VMs, noRef, noRef1, isRef, List.all_cons, List.all_nil, vop, VOp.still, VOp.app, VOp.plain, allP, lof, evs, start, asI, vbin, vcells, ntup, setAll, vfill, vress, vres, tup, Nat.reduceEqDiff, ↓reduceIte, Nat.reduceAdd, Nat.reduceMul, Nat.reduceLeDiff, reduceCtorEq, slen, hk.w h0 hn, h, decide_true]
  · simp -implicitDefEqProofs only [v113, VMs, noRef, noRef1, isRef, List.all_cons, List.all_nil, vop, VOp.still, VOp.app, VOp.plain, allP, lof, evs, start, asI, vbin, vcells, ntup, setAll, vfill, vress, vres, tup, Nat.reduceEqDiff, ↓reduceIte, Nat.reduceAdd, Nat.reduceMul, Nat.reduceLeDiff, reduceCtorEq, slen, hk.w h0 hn, h, decide_false]
theorem szNode_c (d lo : Nat) (H : Hp) (a : Option Addr) (n : Nat) (x : Nd) (k : Int) (hn : Sm n) (hk : Lf k) (h0 : 0 ≤ k) : vcall env (d + 2) 148 [NV a n x, .int .i64 k] lo H = some (.int .i64 (if k - (n : Int) < 0 then -1 else k - (n : Int)), H) := by
  have c1 := fun l => szInt64S_c d H.length (H ++ l) a n (sg a 1) k hn hk h0
  rw [call_eq find148 _ _ _ rfl]
  by_cases h : k - (n : Int) < 0
  · have hd : decide ((-1 : Int) < 0) = true := rfl
    simp -implicitDefEqProofs only [NV, v148, VMs, noRef, noRef1, isRef, List.all_cons, List.all_nil, vop, VOp.still, VOp.app, VOp.plain, allP, lof, evs, start, asI, vbin, vcells, ntup, setAll, vfill, vress, vres, tup, Nat.reduceEqDiff, ↓reduceIte, Nat.reduceAdd, Nat.reduceMul, Nat.reduceLeDiff, reduceCtorEq, c1, h, hd]
  · simp -implicitDefEqProofs only [NV, v148, VMs, noRef, noRef1, isRef, List.all_cons, List.all_nil, vop, VOp.still, VOp.app, VOp.plain, allP, lof, evs, start, asI, vbin, vcells, ntup, setAll, vfill, vress, vres, tup, Nat.reduceEqDiff, ↓reduceIte, Nat.reduceAdd, Nat.reduceMul, Nat.reduceLeDiff, reduceCtorEq, c1, h, decide_false]
def kN' (l : List Nd) : Int := (l.map fun x => (x.k.length : Int)).sum
theorem kN'_take (l : List Nd) (j : Nat) (x : Nd) (h : l[j]? = some x) : kN' (l.take (j + 1)) = kN' (l.take j) + (x.k.length : Int) := by
  obtain ⟨hj, rfl⟩ := List.getElem?_eq_some_iff.1 h
  simp only [kN', List.map_take]
  rw [List.take_add_one]
  simp [hj]
theorem szNodeS_c (d lo : Nat) (H : Hp) (a : Option Addr) (n : Nat) (l : List Nd) (k : Int) (hr : Rep EN 3 H a n l) (hn : Sm n) (hs : ∀ x ∈ l, Sm x.k.length) (hk : Lf k) (h0 : 0 ≤ k) :
    ∃ r : Int, vcall env (d + 3) 112 [.slice a n (sg a 3), .int .i64 k] lo H = some (.int .i64 r, H) ∧ (0 ≤ r → r = k - (n : Int) - kN' l) := by
  rw [call_eq find112 _ _ _ rfl]
  by_cases h : k - (n : Int) < 0
  · exact ⟨-1, by simp -implicitDefEqProofs only [v112, VMs, noRef, noRef1, isRef, List.all_cons, List.all_nil, vop, VOp.still, VOp.app, VOp.plain, allP, lof, evs, start, asI, vbin, vcells, ntup, setAll, vfill, vress, vres, tup, Nat.reduceEqDiff, ↓reduceIte, Nat.reduceAdd, Nat.reduceMul, Nat.reduceLeDiff, reduceCtorEq, slen, hk.w h0 hn, h, decide_true], fun h => by omega⟩
  have hd : decide ((-1 : Int) < 0) = true := rfl
  have hloop : ∃ r, lim (rnd (vcall env (d + 2)) H.length [0, 1, 5] [1, 4] l112_0) [(0, .slice a n (sg a 3)), (1, .int .i64 (k - (n : Int))), (5, .int .i64 0)] H = some r ∧ (r = (.ret, [(1, .int .i64 (-1)), (4, .int .i64 (-1))], H) ∨ r = (.exit 0, [(1, .int .i64 (k - (n : Int) - kN' l))], H)) := by
    refine lim_inv2 (fun i ts H1 => ts = [(0, .slice a n (sg a 3)), (1, .int .i64 (k - (n : Int) - kN' (l.take i))), (5, .int .i64 (i : Int))] ∧ H1 = H ∧ 0 ≤ k - (n : Int) - kN' (l.take i) ∧ Lf (k - (n : Int) - kN' (l.take i))) n ?_ ?_ ?_
    · rintro i ts H1 hi ⟨rfl, rfl, hp, hlf⟩
      have hil : i < l.length := by rw [← hr.1]; exact hi
      obtain ⟨p, o, rfl, e1, e2, a', n', e3, e4⟩ := hr.at hil
      have hn' := e4.1
      subst hn'
      have hx := hs _ (List.getElem_mem hil)
      have hc := szNode_c d H1.length H1 a' l[i].k.length l[i] _ hx hlf hp
      have hnext := kN'_take l i _ (getE hil)
      generalize hkj : k - (n : Int) - kN' (l.take i) = kj at *
      simp only [NV] at hc
      by_cases h2 : kj - (l[i].k.length : Int) < 0
      · exact Or.inr ⟨_, by simp -implicitDefEqProofs only [rnd, l112_0, VMs, noRef, noRef1, isRef, List.all_cons, List.all_nil, vop, VOp.still, VOp.app, VOp.plain, allP, lof, evs, start, asI, vbin, vcells, ntup, setAll, vfill, vress, vres, tup, Nat.reduceEqDiff, ↓reduceIte, Nat.reduceAdd, Nat.reduceMul, Nat.reduceLeDiff, reduceCtorEq, slen, ltc hi, ge0, decide_true, Int.toNat_natCast, rdN3 e1 e2 e3, hc, h2, hd], by simp, Or.inl rfl⟩
      · have h3 : kj - (l[i].k.length : Int) = k - (n : Int) - kN' (l.take (i + 1)) := by omega
        exact Or.inl ⟨[(0, .slice (some ⟨p, o, none⟩) n 3), (1, .int .i64 (kj - (l[i].k.length : Int))), (5, .int .i64 ((i + 1 : Nat) : Int))], H1, by simp -implicitDefEqProofs only [rnd, l112_0, VMs, noRef, noRef1, isRef, List.all_cons, List.all_nil, vop, VOp.still, VOp.app, VOp.plain, allP, lof, evs, start, asI, vbin, vcells, ntup, setAll, vfill, vress, vres, tup, Nat.reduceEqDiff, ↓reduceIte, Nat.reduceAdd, Nat.reduceMul, Nat.reduceLeDiff, reduceCtorEq, slen, ltc hi, ge0, decide_true, Int.toNat_natCast, rdN3 e1 e2 e3, hc, h2, decide_false, hn.w hi], by rw [h3]; rfl, rfl, by omega, by unfold Lf at *; omega⟩
    · rintro ts H1 ⟨rfl, rfl, hp, hlf⟩
      refine ⟨(.exit 0, [(1, .int .i64 (k - (n : Int) - kN' (l.take n)))], H1), by simp -implicitDefEqProofs only [rnd, l112_0, VMs, noRef, noRef1, isRef, List.all_cons, List.all_nil, vop, VOp.still, VOp.app, VOp.plain, allP, lof, evs, start, asI, vbin, vcells, ntup, setAll, vfill, vress, vres, tup, Nat.reduceEqDiff, ↓reduceIte, Nat.reduceAdd, Nat.reduceMul, Nat.reduceLeDiff, reduceCtorEq, slen, Int.lt_irrefl, decide_false], by simp, Or.inr ?_⟩
      rw [hr.1, List.take_length]
    · refine ⟨by simp [kN'], rfl, by simp [kN']; omega, by unfold Lf at *; simp [kN']; omega⟩
  obtain ⟨r, hl, rfl | rfl⟩ := hloop
  · exact ⟨-1, by simp -implicitDefEqProofs only [v112, VMs, noRef, noRef1, isRef, List.all_cons, List.all_nil, vop, VOp.still, VOp.app, VOp.plain, allP, lof, evs, start, asI, vbin, vcells, ntup, setAll, vfill, vress, vres, tup, Nat.reduceEqDiff, ↓reduceIte, Nat.reduceAdd, Nat.reduceMul, Nat.reduceLeDiff, reduceCtorEq, slen, hk.w h0 hn, h, decide_false, vlp, hl], fun h => by omega⟩
  · exact ⟨_, by simp -implicitDefEqProofs only [v112, VMs, noRef, noRef1, isRef, List.all_cons, List.all_nil, vop, VOp.still, VOp.app, VOp.plain, allP, lof, evs, start, asI, vbin, vcells, ntup, setAll, vfill, vress, vres, tup, Nat.reduceEqDiff, ↓reduceIte, Nat.reduceAdd, Nat.reduceMul, Nat.reduceLeDiff, reduceCtorEq, slen, hk.w h0 hn, h, decide_false, vlp, hl], fun _ => rfl⟩
theorem szForest_c (d lo : Nat) (H : Hp) {an nn ab nb F} (h : RF H an nn ab nb F) (hF : SF F) (k : Int) (hk : Lf k) (h0 : 0 ≤ k) :
    ∃ r : Int, vcall env (d + 4) 67 [.agg #[.slice an nn (sg an 3), .slice ab nb (sg ab 2)], .int .i64 k] lo H = some (.int .i64 r, H) ∧ (0 ≤ r → r = k - (F.n.length : Int) - kN' F.n - (F.b.length : Int)) := by
  have n1 := h.n.1
  have n2 := h.b.1
  obtain ⟨r1, c1, e1⟩ := szNodeS_c d H.length (H ++ [some ⟨[.slice an nn (sg an 3), .slice ab nb (sg ab 2)], true, false⟩]) an nn F.n k (h.n.fnN Fr.app) (n1 ▸ hF.n) hF.k hk h0
  rw [call_eq find67 _ _ _ rfl]
  by_cases hr : r1 < 0
  · exact ⟨-1, by simp -implicitDefEqProofs only [v67, VMs, noRef, noRef1, isRef, List.all_cons, List.all_nil, vop, VOp.still, VOp.app, VOp.plain, allP, lof, evs, start, asI, vbin, vcells, ntup, setAll, vfill, vress, vres, tup, Nat.reduceEqDiff, ↓reduceIte, Nat.reduceAdd, Nat.reduceMul, Nat.reduceLeDiff, reduceCtorEq, c1, hr, decide_true], fun h => by omega⟩
  · have e1' := e1 (by omega)
    have hkn : 0 ≤ kN' F.n := by
      unfold kN'
      generalize F.n = l
      induction l with
      | nil => simp
      | cons x r ih => simp only [List.map_cons, List.sum_cons]; omega
    have c2 := fun l => szBlockS_c (d + 2) H.length (H ++ l) ab nb (sg ab 2) r1 (n2 ▸ hF.b) (by unfold Lf at *; omega) (by omega)
    by_cases h2 : r1 - (nb : Int) < 0
    · have hd : decide ((-1 : Int) < 0) = true := rfl
      exact ⟨-1, by simp -implicitDefEqProofs only [v67, VMs, noRef, noRef1, isRef, List.all_cons, List.all_nil, vop, VOp.still, VOp.app, VOp.plain, allP, lof, evs, start, asI, vbin, vcells, ntup, setAll, vfill, vress, vres, tup, Nat.reduceEqDiff, ↓reduceIte, Nat.reduceAdd, Nat.reduceMul, Nat.reduceLeDiff, reduceCtorEq, c1, hr, decide_false, c2, h2, hd], fun h => by omega⟩
    · exact ⟨r1 - (nb : Int), by simp -implicitDefEqProofs only [v67, VMs, noRef, noRef1, isRef, List.all_cons, List.all_nil, vop, VOp.still, VOp.app, VOp.plain, allP, lof, evs, start, asI, vbin, vcells, ntup, setAll, vfill, vress, vres, tup, Nat.reduceEqDiff, ↓reduceIte, Nat.reduceAdd, Nat.reduceMul, Nat.reduceLeDiff, reduceCtorEq, c1, hr, decide_false, c2, h2], fun _ => by rw [e1', n1, n2]⟩
end Go.Proofs.Ytflddpkmajoeaaa.V
