/- Volumes and pools, copied and measured. -/
import Derived.Test.YtohanpndekfbgaaDoorVC6
import Derived.Test.YtohanpndekfbgaaDoorVCV
namespace Go.Proofs.YtohanpndekfbgaaDoor.V
open Go
set_option linter.unusedVariables false
set_option linter.unusedSimpArgs false
set_option maxRecDepth 100000
theorem Rep.fnV {H H' : Hp} {a : Option Addr} {n : Nat} {l : List Vo} (h : Rep EV 3 H a n l) (hf : Fn H H') : Rep EV 3 H' a n l := h.frV (fun _ _ => id) hf
theorem toVol_c (d lo : Nat) (H : Hp) (x : Vo) : vcall env (d + 1) 28 [VV x] lo H = some (VV x, H) := by
  rw [call_eq find28 _ _ _ rfl]
  simp -implicitDefEqProofs only [VV, v28, VMs, noRef, noRef1, isRef, List.all_cons, List.all_nil, vop, VOp.still, VOp.app, VOp.plain, allP, lof, evs, start, asI, vbin, vcells, ntup, setAll, vfill, vress, vres, tup, Nat.reduceEqDiff, ↓reduceIte, Nat.reduceAdd, Nat.reduceMul, Nat.reduceLeDiff, reduceCtorEq]
theorem toVolS_c (d lo : Nat) (H : Hp) (a : Option Addr) (n : Nat) (l : List Vo) (h : Rep EV 3 H a n l) (hn : Sm n) (hb : n * 24 ≤ 140737488351232) :
    ∃ H', vcall env (d + 2) 15 [.slice a n (sg a 3)] lo H = some (.slice (some ⟨H.length, 0, none⟩) n 3, H') ∧ Fn H H' ∧ H'.length = H.length + 1 ∧ WB H.length H' H.length ∧ Rep EV 3 H' (some ⟨H.length, 0, none⟩) n l := by
  have m1 : (((24 : Nat) : Int) * (n : Int) ≤ 281474976710656) = True := eq_true (by omega)
  have hloop : ∃ r, lim (rnd (vcall env (d + 1)) H.length [0, 3, 4] [2, 3] l15_0) [(0, .slice a n (sg a 3)), (3, .slice (some ⟨H.length, 0, none⟩) n 3), (4, .int .i64 0)] (H ++ [some ⟨(List.replicate n [Value.int .i64 0, Value.int .i64 0, Value.int .i64 0]).flatten, true, (n : Int) == 0⟩]) = some r ∧ ∃ H', r = (.exit 0, [(3, .slice (some ⟨H.length, 0, none⟩) n 3)], H') ∧ Fn H H' ∧ H'.length = H.length + 1 ∧ WB H.length H' H.length ∧ Rep EV 3 H' (some ⟨H.length, 0, none⟩) n l := by
    refine lim_inv (fun i ts H1 => ts = [(0, .slice a n (sg a 3)), (3, .slice (some ⟨H.length, 0, none⟩) n 3), (4, .int .i64 (i : Int))] ∧ Fn H H1 ∧ H1.length = H.length + 1 ∧ WB H.length H1 H.length ∧ Sz H1 H.length (n * 3) ∧ ∀ j x, j < i → l[j]? = some x → EV H1 H.length (j * 3) x) n ?_ ?_ ?_
    · rintro i ts H1 hi ⟨rfl, hf, hlen, hwb, hsz, hcs⟩
      have hil : i < l.length := by rw [← h.1]; exact hi
      obtain ⟨p, o, rfl, e⟩ := (h.fnV hf).at hil
      obtain ⟨H2, hu, u, hsz2⟩ := upN (o := i * 3) [.int .i64 l[i].i, .int .i64 l[i].q, .int .i64 l[i].r] hwb hsz (by simp; omega)
      have hc := toVol_c d H.length H1 l[i]
      simp only [VV] at hc
      refine ⟨_, H2, by simp -implicitDefEqProofs only [rnd, l15_0, VMs, noRef, noRef1, isRef, List.all_cons, List.all_nil, vop, VOp.still, VOp.app, VOp.plain, allP, lof, evs, start, asI, vbin, vcells, ntup, setAll, vfill, vress, vres, tup, Nat.reduceEqDiff, ↓reduceIte, Nat.reduceAdd, Nat.reduceMul, Nat.reduceLeDiff, reduceCtorEq, slen, ltc hi, ge0, decide_true, Int.toNat_natCast, Nat.zero_add, e.val, hc, hu, hn.w hi], rfl, (hf.no.trans u.fr).new fun i e => Nat.le_of_eq e.symm, by rw [u.len, hlen], u.wb _ _ hwb, hsz2, ?_⟩
      intro j x hj hx
      rcases Nat.lt_succ_iff_lt_or_eq.1 hj with h' | h'
      · obtain ⟨g1, g2, g3⟩ := hcs j x h' hx
        exact ⟨(u.oth _ _ (by simp; omega)).trans g1, (u.oth _ _ (by simp; omega)).trans g2, (u.oth _ _ (by simp; omega)).trans g3⟩
      · subst h'
        rw [getE hil] at hx; cases hx
        exact ⟨u.at_ 0 (by simp), u.at_ 1 (by simp), u.at_ 2 (by simp)⟩
    · rintro ts H1 ⟨rfl, hf, hlen, hwb, hsz, hcs⟩
      refine ⟨_, by simp -implicitDefEqProofs only [rnd, l15_0, VMs, noRef, noRef1, isRef, List.all_cons, List.all_nil, vop, VOp.still, VOp.app, VOp.plain, allP, lof, evs, start, asI, vbin, vcells, ntup, setAll, vfill, vress, vres, tup, Nat.reduceEqDiff, ↓reduceIte, Nat.reduceAdd, Nat.reduceMul, Nat.reduceLeDiff, reduceCtorEq, slen, Int.lt_irrefl, decide_false], by simp, H1, rfl, hf, hlen, hwb, h.1, fun _ => ⟨H.length, 0, rfl, fun j x hx => ?_⟩⟩
      rw [Nat.zero_add]
      exact hcs j x (by rw [h.1]; exact (List.getElem?_eq_some_iff.1 hx).1) hx
    · exact ⟨rfl, Fr.app, by simp, wb_new rfl, sz_new (zI_len n 3 _ rfl), fun j x hj => by omega⟩
  obtain ⟨_, hl, H', rfl, h1, h2, h3, h4⟩ := hloop
  refine ⟨H', ?_, h1, h2, h3, h4⟩
  rw [call_eq find15 _ _ _ rfl]
  simp -implicitDefEqProofs only [v15, VMs, noRef, noRef1, isRef, List.all_cons, List.all_nil, vop, VOp.still, VOp.app, VOp.plain, allP, lof, evs, start, asI, vbin, vcells, ntup, setAll, vfill, vress, vres, tup, Nat.reduceEqDiff, ↓reduceIte, Nat.reduceAdd, Nat.reduceMul, Nat.reduceLeDiff, reduceCtorEq, slen, ge0, m1, hn.le, Int.toNat_natCast, vlp, hl]
theorem szVolS_c (d lo : Nat) (H : Hp) (a : Option Addr) (n s : Nat) (k : Int) (hn : Sm n) (hk : Lf k) (h0 : 0 ≤ k) : vcall env (d + 1) 10 [.slice a n s, .int .i64 k] lo H = some (.int .i64 (if k - (n : Int) < 0 then -1 else k - (n : Int)), H) := by
  rw [call_eq find10 _ _ _ rfl]
  by_cases h : k - (n : Int) < 0
  · simp -implicitDefEqProofs only [v10, VMs, noRef, noRef1, isRef, List.all_cons, List.all_nil, vop, VOp.still, VOp.app, VOp.plain, allP, lof, evs, start, asI, vbin, vcells, ntup, setAll, vfill, vress, vres, tup, Nat.reduceEqDiff, ↓reduceIte, Nat.reduceAdd, Nat.reduceMul, Nat.reduceLeDiff, reduceCtorEq, slen, hk.w h0 hn, h, decide_true]
  · simp -implicitDefEqProofs only [v10, VMs, noRef, noRef1, isRef, List.all_cons, List.all_nil, vop, VOp.still, VOp.app, VOp.plain, allP, lof, evs, start, asI, vbin, vcells, ntup, setAll, vfill, vress, vres, tup, Nat.reduceEqDiff, ↓reduceIte, Nat.reduceAdd, Nat.reduceMul, Nat.reduceLeDiff, reduceCtorEq, slen, hk.w h0 hn, h, decide_false]
/-! ### Pools -/
theorem RP'.fn {H H' : Hp} {an nn ab nb av nv p} (h : RP' H an nn ab nb av nv p) (hf : Fn H H') : RP' H' an nn ab nb av nv p := ⟨h.f.fn hf, h.v.fnV hf⟩
structure ArgP (p : Po) : Prop where
  f : ArgF p.f
  v : p.v.length * 24 ≤ 140737488351232
theorem ArgP.sp {p : Po} (h : ArgP p) : SP p := ⟨h.f.sf, Sm.of8 h.v (by omega)⟩
/-- A pool in new memory. -/
def NewPo (H H' : Hp) (v : Value) (p : Po) : Prop := ∃ S T U an nn ab nb av nv, v = .agg #[.slice an nn (sg an 3), .slice ab nb (sg ab 2), .slice av nv (sg av 3)] ∧ Fn H H' ∧ (∀ i, S i ∨ T i ∨ U i → H.length ≤ i) ∧ PO H.length H' S T U an nn ab nb av nv p
theorem PO.rp {lo : Nat} {H : Hp} {S T U : Nat → Prop} {an nn ab nb av nv p} (h : PO lo H S T U an nn ab nb av nv p) : RP' H an nn ab nb av nv p := h.rps.rp
end Go.Proofs.YtohanpndekfbgaaDoor.V
