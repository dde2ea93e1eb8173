/- Volumes and pools, copied and measured. -/
import Derived.Test.YtflddpkmajoeaaaVC6
import Derived.Test.YtflddpkmajoeaaaVCV
namespace Go.Proofs.Ytflddpkmajoeaaa.V
open Go
set_option linter.unusedVariables false
set_option linter.unusedSimpArgs false
set_option maxRecDepth 100000
theorem Rep.fnV {H H' : Hp} {a : Option Addr} {n : Nat} {l : List Vo} (h : Rep EV 3 H a n l) (hf : Fn H H') : Rep EV 3 H' a n l := h.frV (fun _ _ => id) hf
theorem toVol_c (d lo : Nat) (H : Hp) (x : Vo) : vcall env (d + 1) 108 [VV x] lo H = some (VV x, H) := by
  rw [call_eq find108 _ _ _ rfl]
  simp -implicitDefEqProofs only [VV, v108, VMs, noRef, noRef1, isRef, List.all_cons, List.all_nil, vop, VOp.still, VOp.app, VOp.plain, allP, lof, evs, start, asI, vbin, vcells, ntup, setAll, vfill, vress, vres, tup, Nat.reduceEqDiff, ↓reduceIte, Nat.reduceAdd, Nat.reduceMul, Nat.reduceLeDiff, reduceCtorEq]
theorem toVolS_c (d lo : Nat) (H : Hp) (a : Option Addr) (n : Nat) (l : List Vo) (h : Rep EV 3 H a n l) (hn : Sm n) (hb : n * 24 ≤ 140737488351232) :
    ∃ H', vcall env (d + 2) 61 [.slice a n (sg a 3)] lo H = some (.slice (some ⟨H.length, 0, none⟩) n 3, H') ∧ Fn H H' ∧ H'.length = H.length + 1 ∧ WB H.length H' H.length ∧ Rep EV 3 H' (some ⟨H.length, 0, none⟩) n l := by
  have m1 : (((24 : Nat) : Int) * (n : Int) ≤ 281474976710656) = True := eq_true (by omega)
  have hloop : ∃ r, lim (rnd (vcall env (d + 1)) H.length [0, 3, 4] [2, 3] l61_0) [(0, .slice a n (sg a 3)), (3, .slice (some ⟨H.length, 0, none⟩) n 3), (4, .int .i64 0)] (H ++ [some ⟨(List.replicate n [Value.int .i64 0, Value.int .i64 0, Value.int .i64 0]).flatten, true, (n : Int) == 0⟩]) = some r ∧ ∃ H', r = (.exit 0, [(3, .slice (some ⟨H.length, 0, none⟩) n 3)], H') ∧ Fn H H' ∧ H'.length = H.length + 1 ∧ WB H.length H' H.length ∧ Rep EV 3 H' (some ⟨H.length, 0, none⟩) n l := by
    refine lim_inv (fun i ts H1 => ts = [(0, .slice a n (sg a 3)), (3, .slice (some ⟨H.length, 0, none⟩) n 3), (4, .int .i64 (i : Int))] ∧ Fn H H1 ∧ H1.length = H.length + 1 ∧ WB H.length H1 H.length ∧ Sz H1 H.length (n * 3) ∧ ∀ j x, j < i → l[j]? = some x → EV H1 H.length (j * 3) x) n ?_ ?_ ?_
    · rintro i ts H1 hi ⟨rfl, hf, hlen, hwb, hsz, hcs⟩
      have hil : i < l.length := by rw [← h.1]; exact hi
      obtain ⟨p, o, rfl, e⟩ := (h.fnV hf).at hil
      obtain ⟨H2, hu, u, hsz2⟩ := upN (o := i * 3) [.int .i64 l[i].i, .int .i64 l[i].q, .int .i64 l[i].r] hwb hsz (by simp; omega)
      have hc := toVol_c d H.length H1 l[i]
      simp only [VV] at hc
      refine ⟨_, H2, by simp -implicitDefEqProofs only [rnd, l61_0, VMs, noRef, noRef1, isRef, List.all_cons, List.all_nil, vop, VOp.still, VOp.app, VOp.plain, allP, lof, evs, start, asI, vbin, vcells, ntup, setAll, vfill, vress, vres, tup, Nat.reduceEqDiff, ↓reduceIte, Nat.reduceAdd, Nat.reduceMul, Nat.reduceLeDiff, reduceCtorEq, slen, ltc hi, ge0, decide_true, Int.toNat_natCast, Nat.zero_add, e.val, hc, hu, hn.w hi], rfl, (hf.no.trans u.fr).new fun i e => Nat.le_of_eq e.symm, by rw [u.len, hlen], u.wb _ _ hwb, hsz2, ?_⟩
      intro j x hj hx
      rcases Nat.lt_succ_iff_lt_or_eq.1 hj with h' | h'
      · obtain ⟨g1, g2, g3⟩ := hcs j x h' hx
        exact ⟨(u.oth _ _ (by simp; omega)).trans g1, (u.oth _ _ (by simp; omega)).trans g2, (u.oth _ _ (by simp; omega)).trans g3⟩
      · subst h'
        rw [getE hil] at hx; cases hx
        exact ⟨u.at_ 0 (by simp), u.at_ 1 (by simp), u.at_ 2 (by simp)⟩
    · rintro ts H1 ⟨rfl, hf, hlen, hwb, hsz, hcs⟩
      refine ⟨_, by simp -implicitDefEqProofs only [rnd, l61_0, VMs, noRef, noRef1, isRef, List.all_cons, List.all_nil, vop, VOp.still, VOp.app, VOp.plain, allP, lof, evs, start, asI, vbin, vcells, ntup, setAll, vfill, vress, vres, tup, Nat.reduceEqDiff, ↓reduceIte, Nat.reduceAdd, Nat.reduceMul, Nat.reduceLeDiff, reduceCtorEq, slen, Int.lt_irrefl, decide_false], by simp, H1, rfl, hf, hlen, hwb, h.1, fun _ => ⟨H.length, 0, rfl, fun j x hx => ?_⟩⟩
      rw [Nat.zero_add]
      exact hcs j x (by rw [h.1]; exact (List.getElem?_eq_some_iff.1 hx).1) hx
    · exact ⟨rfl, Fr.app, by simp, wb_new rfl, sz_new (zI_len n 3 _ rfl), fun j x hj => by omega⟩
  obtain ⟨_, hl, H', rfl, h1, h2, h3, h4⟩ := hloop
  refine ⟨H', ?_, h1, h2, h3, h4⟩
  rw [call_eq find61 _ _ _ rfl]
  simp -implicitDefEqProofs only [v61, VMs, noRef, noRef1, isRef, List.all_cons, List.all_nil, vop, VOp.still, VOp.app, VOp.plain, allP, lof, evs, start, asI, vbin, vcells, ntup, setAll, vfill, vress, vres, tup, Nat.reduceEqDiff, ↓reduceIte, Nat.reduceAdd, Nat.reduceMul, Nat.reduceLeDiff, reduceCtorEq, slen, ge0, m1, hn.le, Int.toNat_natCast, vlp, hl]
theorem szVolS_c (d lo : Nat) (H : Hp) (a : Option Addr) (n s : Nat) (k : Int) (hn : Sm n) (hk : Lf k) (h0 : 0 ≤ k) : vcall env (d + 1) 58 [.slice a n s, .int .i64 k] lo H = some (.int .i64 (if k - (n : Int) < 0 then -1 else k - (n : Int)), H) := by
  rw [call_eq find58 _ _ _ rfl]
  by_cases h : k - (n : Int) < 0
  · simp -implicitDefEqProofs only [v58, VMs, noRef, noRef1, isRef, List.all_cons, List.all_nil, vop, VOp.still, VOp.app, VOp.plain, allP, lof, evs, start, asI, vbin, vcells, ntup, setAll, vfill, vress, vres, tup, Nat.reduceEqDiff, ↓reduceIte, Nat.reduceAdd, Nat.reduceMul, Nat.reduceLeDiff, reduceCtorEq, slen, hk.w h0 hn, h, decide_true]
  · simp -implicitDefEqProofs only [v58, VMs, noRef, noRef1, isRef, List.all_cons, List.all_nil, vop, VOp.still, VOp.app, VOp.plain, allP, lof, evs, start, asI, vbin, vcells, ntup, setAll, vfill, vress, vres, tup, Nat.reduceEqDiff, ↓reduceIte, Nat.reduceAdd, Nat.reduceMul, Nat.reduceLeDiff, reduceCtorEq, slen, hk.w h0 hn, h, decide_false]
/-! ### Pools -/
theorem RP'.fn {H H' : Hp} {an nn ab nb av nv p} (h : RP' H an nn ab nb av nv p) (hf : Fn H H') : RP' H' an nn ab nb av nv p := ⟨h.f.fn hf, h.v.fnV hf⟩
structure ArgP (p : Po) : Prop where
  f : ArgF p.f
  v : p.v.length * 24 ≤ 140737488351232
theorem ArgP.sp {p : Po} (h : ArgP p) : SP p := ⟨h.f.sf, Sm.of8 h.v (by omega)⟩
theorem szPool_c (d lo : Nat) (H : Hp) {an nn ab nb av nv p} (h : RP' H an nn ab nb av nv p) (hF : SP p) (k : Int) (hk : Lf k) (h0 : 0 ≤ k) :
    ∃ r : Int, vcall env (d + 5) 26 [.agg #[.slice an nn (sg an 3), .slice ab nb (sg ab 2), .slice av nv (sg av 3)], .int .i64 k] lo H = some (.int .i64 r, H) ∧ (0 ≤ r → r = k - (p.f.n.length : Int) - kN' p.f.n - (p.f.b.length : Int) - (p.v.length : Int)) := by
  have n2 := h.v.1
  obtain ⟨r1, c1, e1⟩ := szForest_c d H.length (H ++ [some ⟨[.slice an nn (sg an 3), .slice ab nb (sg ab 2), .slice av nv (sg av 3)], true, false⟩]) (h.f.fn Fr.app) hF.f k hk h0
  rw [call_eq find26 _ _ _ rfl]
  by_cases hr : r1 < 0
  · exact ⟨-1, by simp -implicitDefEqProofs only [v26, VMs, noRef, noRef1, isRef, List.all_cons, List.all_nil, vop, VOp.still, VOp.app, VOp.plain, allP, lof, evs, start, asI, vbin, vcells, ntup, setAll, vfill, vress, vres, tup, Nat.reduceEqDiff, ↓reduceIte, Nat.reduceAdd, Nat.reduceMul, Nat.reduceLeDiff, reduceCtorEq, c1, hr, decide_true], fun h => by omega⟩
  · have e1' := e1 (by omega)
    have hkn : 0 ≤ kN' p.f.n := by
      unfold kN'
      generalize p.f.n = l
      induction l with
      | nil => simp
      | cons x r ih => simp only [List.map_cons, List.sum_cons]; omega
    have c2 := fun l => szVolS_c (d + 3) H.length (H ++ l) av nv (sg av 3) r1 (n2 ▸ hF.v) (by unfold Lf at *; omega) (by omega)
    by_cases h2 : r1 - (nv : Int) < 0
    · have hd : decide ((-1 : Int) < 0) = true := rfl
      exact ⟨-1, by simp -implicitDefEqProofs only [v26, VMs, noRef, noRef1, isRef, List.all_cons, List.all_nil, vop, VOp.still, VOp.app, VOp.plain, allP, lof, evs, start, asI, vbin, vcells, ntup, setAll, vfill, vress, vres, tup, Nat.reduceEqDiff, ↓reduceIte, Nat.reduceAdd, Nat.reduceMul, Nat.reduceLeDiff, reduceCtorEq, c1, hr, decide_false, c2, h2, hd], fun h => by omega⟩
    · exact ⟨r1 - (nv : Int), by simp -implicitDefEqProofs only [v26, VMs, noRef, noRef1, isRef, List.all_cons, List.all_nil, vop, VOp.still, VOp.app, VOp.plain, allP, lof, evs, start, asI, vbin, vcells, ntup, setAll, vfill, vress, vres, tup, Nat.reduceEqDiff, ↓reduceIte, Nat.reduceAdd, Nat.reduceMul, Nat.reduceLeDiff, reduceCtorEq, c1, hr, decide_false, c2, h2], fun _ => by rw [e1', n2]⟩
/-- A pool in new memory. -/
def NewPo (H H' : Hp) (v : Value) (p : Po) : Prop := ∃ S T U an nn ab nb av nv, v = .agg #[.slice an nn (sg an 3), .slice ab nb (sg ab 2), .slice av nv (sg av 3)] ∧ Fn H H' ∧ (∀ i, S i ∨ T i ∨ U i → H.length ≤ i) ∧ PO H.length H' S T U an nn ab nb av nv p
theorem toPool_c (d lo : Nat) (H : Hp) {an nn ab nb av nv p} (h : RP' H an nn ab nb av nv p) (hF : ArgP p) :
    ∃ v H', vcall env (d + 5) 28 [.agg #[.slice an nn (sg an 3), .slice ab nb (sg ab 2), .slice av nv (sg av 3)]] lo H = some (v, H') ∧ NewPo H H' v p := by
  have n2 := h.v.1
  obtain ⟨v1, H1, c1, S, T, an1, nn1, ab1, nb1, rfl, f1, g1, o1⟩ := toForest_c d H.length (H ++ [some ⟨[.slice an nn (sg an 3), .slice ab nb (sg ab 2), .slice av nv (sg av 3)], true, false⟩, some ⟨[.slice none 0 0, .slice none 0 0, .slice none 0 0], true, false⟩, some ⟨[.slice none 0 0, .slice none 0 0, .slice none 0 0], true, false⟩]) (h.app.f) hF.f
  simp only [List.length_append, List.length_cons, List.length_nil, Nat.zero_add, Nat.reduceAdd] at c1 o1 g1
  have l1 : H.length + 3 ≤ H1.length := by have := f1.len; simpa using this
  have b0 : H1.blk H.length = some ⟨[.slice an nn (sg an 3), .slice ab nb (sg ab 2), .slice av nv (sg av 3)], true, false⟩ := (f1.blk H.length (by simp) id).trans blk0
  have b2 : H1.blk (H.length + 2) = some ⟨[.slice none 0 0, .slice none 0 0, .slice none 0 0], true, false⟩ := (f1.blk (H.length + 2) (by simp) id).trans (blkn 2)
  have b1 : H1.blk (H.length + 1) = some ⟨[.slice none 0 0, .slice none 0 0, .slice none 0 0], true, false⟩ := (f1.blk (H.length + 1) (by simp) id).trans (blkn 1)
  have k1 := fun vs hv => wr_at (lo := H.length) (o := 0) b2 (by omega) vs hv
  obtain ⟨H2, hH2⟩ : ∃ H2, H2 = setB H1 (H.length + 2) [.slice an1 nn1 (sg an1 3), .slice ab1 nb1 (sg ab1 2), .slice none 0 0] := ⟨_, rfl⟩
  have F2 : Fr (· = H.length + 2) H1 H2 := hH2 ▸ Fr.setB b2 _
  have f2 : Fn H H2 := hH2 ▸ Fn.setB (Fr.app.trans f1) (by omega) b2 _
  have e2 : rd H2 ⟨H.length, 2, none⟩ = some (.slice av nv (sg av 3)) := by
    rw [hH2]; simp only [rd, blk_setB b2]; rw [if_neg (by omega), b0]; rfl
  obtain ⟨H3, c3, f3, l3, w3, r3⟩ := toVolS_c (d + 2) H.length H2 av nv p.v (h.v.fnV f2) (n2 ▸ hF.sp.v) (n2 ▸ hF.v)
  have l2 : H2.length = H1.length := by rw [hH2, setB_len]
  have b3 : H3.blk (H.length + 2) = some ⟨[.slice an1 nn1 (sg an1 3), .slice ab1 nb1 (sg ab1 2), .slice none 0 0], true, false⟩ := (f3.blk _ (by omega) id).trans (by rw [hH2, blk_setB b2, if_pos rfl])
  have b4 : H3.blk (H.length + 1) = some ⟨[.slice none 0 0, .slice none 0 0, .slice none 0 0], true, false⟩ := (f3.blk _ (by omega) id).trans (by rw [hH2, blk_setB b2, if_neg (by omega), b1])
  have b4' : ∀ cs, (setB H3 (H.length + 2) cs).blk (H.length + 1) = some ⟨[.slice none 0 0, .slice none 0 0, .slice none 0 0], true, false⟩ := fun cs => by rw [blk_setB b3, if_neg (by omega), b4]
  have g3 := fun vs hv => wr_at (lo := H.length) (o := 2) b3 (by omega) vs hv
  have g4 := fun cs hc => rdN_setB b3 3 cs hc
  have g5 := fun cs vs hv => wr_setB (lo := H.length) (b4' cs) (by omega) vs hv
  have g6 := fun cs vs hv => rdN_setB (b4' cs) 3 vs hv
  have FF := fun cs vs => ((Fr.setB b3 cs).mono (T := fun i => i = H.length + 2 ∨ i = H.length + 1) fun _ => Or.inl).trans ((Fr.setB (b4' cs) vs).mono fun _ => Or.inr)
  have fF := fun cs vs => ((f2.trans f3).no.trans (FF cs vs)).new (fun i e => by omega)
  refine ⟨.agg #[.slice an1 nn1 (sg an1 3), .slice ab1 nb1 (sg ab1 2), .slice (some ⟨H2.length, 0, none⟩) nv 3], setB (setB H3 (H.length + 2) [.slice an1 nn1 (sg an1 3), .slice ab1 nb1 (sg ab1 2), .slice (some ⟨H2.length, 0, none⟩) nv 3]) (H.length + 1) [.slice an1 nn1 (sg an1 3), .slice ab1 nb1 (sg ab1 2), .slice (some ⟨H2.length, 0, none⟩) nv 3], ?_, S, T, (· = H2.length), an1, nn1, ab1, nb1, some ⟨H2.length, 0, none⟩, nv, rfl, ?_, fun i hi => ?_, ?_⟩
  · rw [call_eq find28 _ _ _ rfl]
    simp -implicitDefEqProofs only [v28, VMs, vop, VOp.still, VOp.app, VOp.plain, allP, lof, evs, start, asI, vbin, vcells, ntup, setAll, vfill, vress, vres, tup, Nat.reduceEqDiff, ↓reduceIte, Nat.reduceAdd, Nat.reduceMul, Nat.reduceLeDiff, reduceCtorEq, c1, k1, ← hH2, e2, c3, g3, g4, g5, g6, Nat.le_add_right, isRef_some, noRef, noRef1, List.toList_toArray, List.all_cons, List.all_nil, Bool.not_true, Bool.false_and, Bool.and_false, Bool.true_and, Bool.and_true, isRef, Bool.not_false, if_false, Bool.false_eq_true]
    try rfl
  · exact fF _ _
  · rcases hi with hi | hi | hi
    · have := g1 i (Or.inl hi); omega
    · have := g1 i (Or.inr hi); omega
    · omega
  · have tot := fun cs vs => (F2.mono (T := fun i => i = H.length + 2 ∨ i = H.length + 1) fun _ => Or.inl).trans (f3.no.trans (FF cs vs))
    have hST : ∀ i, S i ∨ T i → H.length + 3 ≤ i := fun i hi => g1 i hi
    have hlt : ∀ i, S i ∨ T i → i < H1.length := fun i hi => o1.lt i hi
    refine ⟨(o1.fr (fun i hi => by have := hST i hi; omega) (tot _ _)).lo (by omega), r3.frV (fun i ⟨o, e⟩ => by cases e; omega) (FF _ _), fun i ⟨o, e⟩ => ?_, fun i hi => by have := hlt i hi; omega, fun i hi => ?_⟩
    · cases e
      exact ⟨(FF _ _).wb _ _ (w3.lo (by omega)), rfl⟩
    · rw [setB_len, setB_len, l3]; omega
theorem PO.rp {lo : Nat} {H : Hp} {S T U : Nat → Prop} {an nn ab nb av nv p} (h : PO lo H S T U an nn ab nb av nv p) : RP' H an nn ab nb av nv p := h.rps.rp
end Go.Proofs.Ytflddpkmajoeaaa.V
