/- FnJournals: what the law asks beside its draws. -/
import Derived.Test.YtaahjfjpbilfnaaVJK
namespace Go.Proofs.Ytaahjfjpbilfnaa.V
open Go
set_option linter.unusedVariables false
set_option linter.unusedSimpArgs false
set_option maxRecDepth 100000
theorem lwBig_c (d lo : Nat) (H : Hp) (a : Option Addr) (n s : Nat) : vcall env (d + 1) 24 [.slice a n s] lo H = some (.bool (decide (1048576 < n)), H) := by
  have e : decide ((n : Int) > 1048576) = decide (1048576 < n) := by
    by_cases h : 1048576 < n
    · rw [decide_eq_true h]; exact decide_eq_true (by omega)
    · rw [decide_eq_false h]; exact decide_eq_false (by omega)
  rw [call_eq find24 _ _ _ rfl]
  simp -implicitDefEqProofs only [v24, VMs, noRef, noRef1, isRef, List.all_cons, List.all_nil, vop, VOp.still, VOp.app, VOp.plain, allP, lof, evs, start, asI, vbin, vcells, ntup, setAll, vfill, vress, vres, tup, Nat.reduceEqDiff, ↓reduceIte, Nat.reduceAdd, Nat.reduceMul, Nat.reduceLeDiff, reduceCtorEq, slen, e]
theorem lwNums_c (d lo : Nat) (H : Hp) {a b : Option Addr} {n : Nat} {l : List Int} (h : Rep EI 1 H a n l) (h' : Rep EI 1 H b n l) (hs : Sm n) :
    vcall env (d + 1) 29 [.slice a n (sg a 1), .slice b n (sg b 1)] lo H = some (.bool true, H) := by
  have hn := h.1
  subst hn
  have hloop := fun lo' => lim_up (f := rnd (vcall env d) lo' [0, 1, 5] [4] l29_0) (r := (.exit 0, [], H)) (by simp)
    (fun i => [(0, .slice a l.length (sg a 1)), (1, .slice b l.length (sg b 1)), (5, .int .i64 (i : Nat))]) (fun _ => H) l.length
    (by simp -implicitDefEqProofs only [rnd, l29_0, VMs, noRef, noRef1, isRef, List.all_cons, List.all_nil, vop, VOp.still, VOp.app, VOp.plain, allP, lof, evs, start, asI, vbin, vcells, ntup, setAll, vfill, vress, vres, tup, Nat.reduceEqDiff, ↓reduceIte, Nat.reduceAdd, Nat.reduceMul, Nat.reduceLeDiff, reduceCtorEq, slen, Int.lt_irrefl, decide_false])
    (fun i hi => by
      obtain ⟨p, o, rfl, e⟩ := h.at hi
      obtain ⟨p', o', rfl, e'⟩ := h'.at hi
      simp only [EI, Nat.mul_one] at e e'
      simp -implicitDefEqProofs only [rnd, l29_0, VMs, noRef, noRef1, isRef, List.all_cons, List.all_nil, vop, VOp.still, VOp.app, VOp.plain, allP, lof, evs, start, asI, vbin, vcells, ntup, setAll, vfill, vress, vres, tup, Nat.reduceEqDiff, ↓reduceIte, Nat.reduceAdd, Nat.reduceMul, Nat.reduceLeDiff, reduceCtorEq, vdr, slen, ltc hi, ge0, decide_true, Int.toNat_natCast, Nat.mul_one, e, e', bne_self_eq_false, hs.w hi])
  simp only [Int.natCast_zero] at hloop
  rw [call_eq find29 _ _ _ rfl]
  simp -implicitDefEqProofs only [v29, VMs, noRef, noRef1, isRef, List.all_cons, List.all_nil, vop, VOp.still, VOp.app, VOp.plain, allP, lof, evs, start, asI, vbin, vcells, ntup, setAll, vfill, vress, vres, tup, Nat.reduceEqDiff, ↓reduceIte, Nat.reduceAdd, Nat.reduceMul, Nat.reduceLeDiff, reduceCtorEq, slen, bne_self_eq_false, vlp, hloop]
theorem Fr.cell {H H' : Hp} {cs : List Value} (hf : Fn (H ++ [some ⟨cs, true, false⟩]) H') (k : Nat) : V.rd H' ⟨H.length, k, none⟩ = cs[k]? := by
  rw [hf.rd H.length k (by simp) id]; simp [rd0]
theorem lwAt_c (d lo : Nat) (H : Hp) {ac : Option Addr} {code : List Int} (hc : Rep EY 1 H ac code.length code) (hy : ∀ x ∈ code, 0 ≤ x ∧ x ≤ 255) (hn : code.length ≤ 1048576) {k : Nat} (hk : k ≤ 20) :
    ∃ v : Int, vcall env (d + 1) 63 [.slice ac code.length (sg ac 1), .int .i64 (k : Nat), .int .i64 2] lo H = some (.int .i64 v, H) := by
  rw [call_eq find63 _ _ _ rfl]
  have d1 : decide ((2 : Int) ≤ 1) = false := rfl
  have d2 : decide ((2 : Int) > 200) = false := rfl
  have n2 : ((2 : Int) = 0) = False := eq_false (by omega)
  by_cases h0 : code.length = 0
  · have k3 : IntKind.i64.wrap ((k : Int) * 7) = ((k * 7 : Nat) : Int) := by rw [wr (by omega) (by omega)]; omega
    have hb : (((code.length : Nat) : Int) == 0) = true := beq_iff_eq.2 (by omega)
    exact ⟨_, by simp -implicitDefEqProofs only [v63, VMs, noRef, noRef1, isRef, List.all_cons, List.all_nil, vop, VOp.still, VOp.app, VOp.plain, allP, lof, evs, start, asI, vbin, vcells, ntup, setAll, vfill, vress, vres, tup, Nat.reduceEqDiff, ↓reduceIte, Nat.reduceAdd, Nat.reduceMul, Nat.reduceLeDiff, reduceCtorEq, slen, d1, hb, k3, n2]; rfl⟩
  have hb : (((code.length : Nat) : Int) == 0) = false := beq_eq_false_iff_ne.2 (by omega)
  have hc0 : (((code.length : Nat) : Int) = 0) = False := eq_false (by omega)
  have hlt := Nat.mod_lt k (show 0 < code.length by omega)
  have hrem : ((k : Nat) : Int).tmod ((code.length : Nat) : Int) = ((k % code.length : Nat) : Int) := rfl
  have hdiv : ((k : Nat) : Int).tdiv ((code.length : Nat) : Int) = ((k / code.length : Nat) : Int) := rfl
  have hq := Nat.div_le_self k code.length
  generalize k / code.length = w at *
  have k4 : IntKind.i64.wrap ((w : Nat) : Int) = ((w : Nat) : Int) := wr (by omega) (by omega)
  have k5 : IntKind.i64.wrap (((w : Nat) : Int) * 3) = ((w * 3 : Nat) : Int) := by rw [wr (by omega) (by omega)]; omega
  obtain ⟨i, o, rfl, ex⟩ := hc.at hlt
  simp only [EY, Nat.mul_one] at ex
  have hx := hy _ (List.getElem_mem hlt)
  generalize code[k % code.length] = x at *
  have lk := ltc hlt
  have gk := ge0 (k % code.length)
  generalize k % code.length = z at *
  have c1 : IntKind.i64.wrap x = x := wr (by omega) (by omega)
  have c3 : IntKind.i64.wrap (x + ((w * 3 : Nat) : Int)) = x + ((w * 3 : Nat) : Int) := wr (by omega) (by omega)
  exact ⟨_, by simp -implicitDefEqProofs only [v63, VMs, noRef, noRef1, isRef, List.all_cons, List.all_nil, vop, VOp.still, VOp.app, VOp.plain, allP, lof, evs, start, asI, vbin, vcells, ntup, setAll, vfill, vress, vres, tup, Nat.reduceEqDiff, ↓reduceIte, Nat.reduceAdd, Nat.reduceMul, Nat.reduceLeDiff, reduceCtorEq, vdr, slen, d1, d2, hb, hc0, hrem, hdiv, k4, k5, lk, gk, Int.toNat_natCast, Nat.mul_one, ex, c1, c3, n2]; rfl⟩
/-- The records of a scan, read. -/
theorem NewRec.rep {H H' : Hp} {v : Value} {c u : Int} {R : List (List Int)} (h : NewRec H H' v c u R) : ∃ a, v = .agg #[.int .i64 c, .int .i64 u, .slice a R.length (sg a 1)] ∧ Fn H H' ∧ Rep ER 1 H' a R.length R := by
  obtain ⟨a, ps, rfl, f, r, e⟩ := h
  have hl : ps.length = R.length := by rw [← e, List.length_map]
  have := r.or.rep
  rw [e, hl] at this
  exact ⟨a, by rw [hl], f, this⟩
theorem scan_eq {D : Dk} (h : dF D = 0) : scanC D = 0 ∧ scanU D = ((uRD D : Nat) : Int) ∧ scanL D = (scanR (flP D.w D.p) 65 0 []).1 := by
  unfold scanC scanU scanL
  rw [if_pos h, if_pos h]
  exact ⟨h, rfl, rfl⟩
theorem apC_full {D : Dk} {w : List Int} (h0 : dF D = 0) (hr : rF w = 0) (h : apC D w ≠ 0) : apC D w = 8 := by
  unfold apC at h ⊢
  rw [if_pos h0, if_pos hr] at h ⊢
  by_cases hf : 64 < uRD D + 2 + w.length ∨ 200 < D.p.length + 3 + w.length
  · rw [if_pos hf]
  · rw [if_neg hf] at h; exact absurd rfl h
end Go.Proofs.Ytaahjfjpbilfnaa.V
