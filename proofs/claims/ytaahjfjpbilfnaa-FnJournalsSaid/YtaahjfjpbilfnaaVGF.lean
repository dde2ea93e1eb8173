/- What is behind all that was put: the program's fold and the reference's last put; sums. -/
import Derived.Test.YtaahjfjpbilfnaaVGE
namespace Go.Proofs.Ytaahjfjpbilfnaa.V
open Go
set_option linter.unusedVariables false
set_option linter.unusedSimpArgs false
set_option maxRecDepth 100000
theorem flushed_c (d lo : Nat) (H : Hp) {aw nw ap np D} (h : RD H aw nw ap np D) (g : DGood D) (hx : Ex H aw) :
    ∃ i H', vcall env (d + 2) 79 [.agg #[.slice aw nw (sg aw 1), .slice ap np (sg ap 2)]] lo H = some (.slice (some ⟨i, 0, none⟩) 64 1, H') ∧ Fn H H' ∧ WB H.length H' i ∧ Rep EI 1 H' (some ⟨i, 0, none⟩) 64 (flP D.w D.p) := by
  have n1 : nw = 64 := h.w.1.trans g.w
  have n2 := h.p.1
  have hpn : Sm np := by have := g.p; unfold Sm; omega
  subst n1
  obtain ⟨HA, hHA⟩ : ∃ HA : Hp, HA = H ++ [some ⟨[.slice aw 64 (sg aw 1), .slice ap np (sg ap 2)], true, false⟩] := ⟨_, rfl⟩
  have fA : Fn H HA := hHA ▸ Fr.app
  have lA : HA.length = H.length + 1 := by rw [hHA]; simp
  have g2 : rd HA ⟨H.length, 1, none⟩ = some (.slice ap np (sg ap 2)) := by rw [hHA]; simp [rd0]
  obtain ⟨b, H1, c1, F1⟩ := cloneInts_c d H.length HA (h.w.fnI fA) (hx.fn fA) (by omega)
  have hw0 : D.w ≠ [] := by intro e; have := g.w; rw [e] at this; simp at this
  obtain ⟨i, o, rfl, _⟩ := F1.r.2 hw0
  obtain ⟨_, ho, hwb⟩ := F1.o _ rfl
  simp only at ho hwb
  subst ho
  have g2' : rd H1 ⟨H.length, 1, none⟩ = some (.slice ap np (sg ap 2)) := (F1.f.rd _ _ (by omega) id).trans g2
  have hil := hwb.1
  have hloop : ∃ r, lim (rnd (vcall env (d + 1)) H.length [3, 10, 11, 12] [2, 3] l79_0) [(3, .slice (some ⟨i, 0, none⟩) 64 1), (10, .slice ap np (sg ap 2)), (11, .int .i64 (np : Nat)), (12, .int .i64 0)] H1 = some r ∧ ∃ H', r = (.exit 0, [(3, .slice (some ⟨i, 0, none⟩) 64 1)], H') ∧ Fn HA H' ∧ WB H.length H' i ∧ Rep EI 1 H' (some ⟨i, 0, none⟩) 64 (flP D.w D.p) := by
    refine lim_inv (fun j ts H2 => ts = [(3, .slice (some ⟨i, 0, none⟩) 64 1), (10, .slice ap np (sg ap 2)), (11, .int .i64 (np : Nat)), (12, .int .i64 (j : Nat))] ∧ Fn HA H2 ∧ WB H.length H2 i ∧ Rep EI 1 H2 (some ⟨i, 0, none⟩) 64 (flP D.w (D.p.take j))) np ?_ ?_ ?_
    · rintro j ts H2 hj ⟨rfl, f2, w2, r2⟩
      have hjl : j < D.p.length := by omega
      obtain ⟨p, o, rfl, ep⟩ := (h.p.fnB (fA.trans f2)).at hjl
      obtain ⟨a1, a2⟩ := g.a _ (List.getElem_mem hjl)
      obtain ⟨z, hz⟩ : ∃ z : Nat, D.p[j].r = (z : Int) := ⟨D.p[j].r.toNat, by omega⟩
      have hz64 : z < 64 := by omega
      obtain ⟨H3, hH3⟩ : ∃ H3 : Hp, H3 = H2 ++ [some ⟨[.int .i64 D.p[j].r, .int .i64 D.p[j].d], true, false⟩] := ⟨_, rfl⟩
      have f3 : Fn H2 H3 := hH3 ▸ Fr.app
      have hfl : z < (flP D.w (D.p.take j)).length := by rw [flP_len, g.w]; exact hz64
      obtain ⟨_, _, e', ez⟩ := (r2.fnI f3).at hfl
      cases e'
      simp only [EI, Nat.zero_add, Nat.mul_one] at ez
      obtain ⟨H4, hu, u⟩ := up1 (v := .int .i64 D.p[j].d) (w2.fn _ f3) ez
      have ev := ep.val
      have hlt : ((z : Int) < ((64 : Nat) : Int)) = True := eq_true (by omega)
      have hle2 : (H.length ≤ H2.length) = True := eq_true (by have := f2.len; omega)
      have f4 : Fn HA H4 := ((f2.trans f3).no.trans u.fr).new fun k e => by rw [e]; omega
      refine ⟨_, H4, ?_, rfl, f4, u.wb _ _ (w2.fn _ f3), ?_⟩
      · subst hH3
        rw [hz] at hu
        simp -implicitDefEqProofs only [rnd, l79_0, VMs, noRef, noRef1, isRef, List.all_cons, List.all_nil, vop, VOp.still, VOp.app, VOp.plain, allP, lof, evs, start, asI, vbin, vcells, ntup, setAll, vfill, vress, vres, tup, Nat.reduceEqDiff, ↓reduceIte, Nat.reduceAdd, Nat.reduceMul, Nat.reduceLeDiff, reduceCtorEq, slen, ltc hj, ge0, decide_true, Int.toNat_natCast, Nat.mul_one, Nat.zero_add, ev, hz, hlt, hu, hpn.w hj, hle2]
      · rw [flP_take _ _ _ hjl, hz, Int.toNat_natCast]
        refine ⟨by rw [List.length_set]; exact r2.1, fun _ => ⟨i, 0, rfl, fun k x hx => ?_⟩⟩
        simp only [EI, Nat.zero_add, Nat.mul_one]
        rw [List.getElem?_set] at hx
        by_cases hzk : z = k
        · subst hzk
          rw [if_pos rfl, if_pos hfl] at hx; cases hx
          exact u.at_
        · rw [if_neg hzk] at hx
          obtain ⟨_, _, e2, h2⟩ := (r2.fnI f3).2 (by intro e; rw [e] at hx; simp at hx)
          cases e2
          have := h2 k x hx
          simp only [EI, Nat.zero_add, Nat.mul_one] at this
          exact (u.oth _ _ (by omega)).trans this
    · rintro ts H2 ⟨rfl, f2, w2, r2⟩
      rw [n2, List.take_length] at r2
      exact ⟨(.exit 0, [(3, .slice (some ⟨i, 0, none⟩) 64 1)], H2), by simp -implicitDefEqProofs only [rnd, l79_0, VMs, noRef, noRef1, isRef, List.all_cons, List.all_nil, vop, VOp.still, VOp.app, VOp.plain, allP, lof, evs, start, asI, vbin, vcells, ntup, setAll, vfill, vress, vres, tup, Nat.reduceEqDiff, ↓reduceIte, Nat.reduceAdd, Nat.reduceMul, Nat.reduceLeDiff, reduceCtorEq, slen, Int.lt_irrefl, decide_false], by simp, H2, rfl, f2, w2, r2⟩
    · exact ⟨rfl, F1.f, hwb.lo (by omega), F1.r⟩
  obtain ⟨_, hl, H', rfl, f2, w2, r2⟩ := hloop
  refine ⟨i, H', ?_, fA.trans f2, w2, r2⟩
  subst hHA
  rw [call_eq find79 _ _ _ rfl]
  simp only [sgs] at c1
  simp -implicitDefEqProofs only [v79, VMs, noRef, noRef1, isRef, List.all_cons, List.all_nil, vop, VOp.still, VOp.app, VOp.plain, allP, lof, evs, start, asI, vbin, vcells, ntup, setAll, vfill, vress, vres, tup, Nat.reduceEqDiff, ↓reduceIte, Nat.reduceAdd, Nat.reduceMul, Nat.reduceLeDiff, reduceCtorEq, c1, g2', slen, vlp, hl]
theorem atP_hit {w : List Int} {p : List Bk} {i j : Nat} (hj : j < p.length) (h1 : p[j].r = (i : Int)) (h2 : ∀ (k : Nat) x, j < k → p[k]? = some x → x.r ≠ (i : Int)) : atP w p i = p[j].d := by
  have hp : p = p.take j ++ p[j] :: p.drop (j + 1) := by rw [← List.drop_eq_getElem_cons hj, List.take_append_drop]
  have hn : (p.drop (j + 1)).reverse.find? (fun x => x.r == (i : Int)) = none := by
    rw [List.find?_eq_none]
    intro x hx
    rw [List.mem_reverse] at hx
    obtain ⟨k, hk⟩ := List.mem_iff_getElem?.1 hx
    rw [List.getElem?_drop] at hk
    have := h2 _ x (by omega) hk
    simpa using this
  have hr : p.reverse.find? (fun x => x.r == (i : Int)) = some p[j] := by
    have hb : (p[j].r == (i : Int)) = true := beq_iff_eq.2 h1
    have e : p.reverse = (p.drop (j + 1)).reverse ++ (p[j] :: (p.take j).reverse) := by
      conv => lhs; rw [hp]
      rw [List.reverse_append, List.reverse_cons, List.append_assoc]; rfl
    rw [e, List.find?_append, hn, Option.none_or, List.find?_cons, hb]
  unfold atP
  rw [hr]
theorem atP_no {w : List Int} {p : List Bk} {i : Nat} (h : ∀ x ∈ p, x.r ≠ (i : Int)) : atP w p i = (w[i]?).getD 0 := by
  have hn : p.reverse.find? (fun x => x.r == (i : Int)) = none := by
    rw [List.find?_eq_none]
    intro x hx
    rw [List.mem_reverse] at hx
    simpa using h x hx
  unfold atP
  rw [hn]
theorem l1At_c (d lo : Nat) (H : Hp) {q aw nw ap np D} (h : PD H q aw nw ap np D) (g : DGood D) (z : Nat) (hz : z < 64) :
    vcall env (d + 1) 77 [.pointer (some ⟨q, 0, none⟩), .int .i64 (z : Nat)] lo H = some (.int .i64 (atP D.w D.p z), H) := by
  have n1 : nw = 64 := h.d.w.1.trans g.w
  have n2 := h.d.p.1
  have g1 := h.a
  have g2 := h.b
  have gp := g.p
  subst n1
  have hloop : ∃ r, lim (rnd (vcall env d) H.length [0, 1, 5] [0, 1, 4] l77_0) [(0, .pointer (some ⟨q, 0, none⟩)), (1, .int .i64 (z : Nat)), (5, .int .i64 ((np : Int) - 1))] H = some r ∧ ((∃ (j : Nat) (hj : j < D.p.length), r = (.ret, [(0, .pointer (some ⟨q, 0, none⟩)), (1, .int .i64 (z : Nat)), (4, .int .i64 D.p[j].d)], H) ∧ D.p[j].r = (z : Int) ∧ ∀ (k : Nat) x, j < k → D.p[k]? = some x → x.r ≠ (z : Int)) ∨ (r = (.exit 0, [(0, .pointer (some ⟨q, 0, none⟩)), (1, .int .i64 (z : Nat))], H) ∧ ∀ x ∈ D.p, x.r ≠ (z : Int))) := by
    refine lim_inv2 (fun k ts H2 => ts = [(0, .pointer (some ⟨q, 0, none⟩)), (1, .int .i64 (z : Nat)), (5, .int .i64 ((np : Int) - 1 - (k : Int)))] ∧ H2 = H ∧ ∀ (j : Nat) x, np - k ≤ j → D.p[j]? = some x → x.r ≠ (z : Int)) np ?_ ?_ ?_
    · rintro k ts H2 hk ⟨rfl, rfl, hp⟩
      obtain ⟨j, hj⟩ : ∃ j : Nat, (np : Int) - 1 - (k : Int) = (j : Int) := ⟨np - 1 - k, by omega⟩
      have hjn : j < np := by omega
      have hjl : j < D.p.length := by omega
      rw [hj]
      obtain ⟨p, o, rfl, ep⟩ := h.d.p.at hjl
      have e1 := ep.1
      have e2 := ep.2
      have hg : decide ((j : Int) ≥ 0) = true := decide_eq_true (by omega)
      by_cases hr : D.p[j].r = (z : Int)
      · have hb : (D.p[j].r == (z : Int)) = true := beq_iff_eq.2 hr
        refine Or.inr ⟨(.ret, [(0, .pointer (some ⟨q, 0, none⟩)), (1, .int .i64 (z : Nat)), (4, .int .i64 D.p[j].d)], H2), ?_, by simp, Or.inl ⟨j, hjl, rfl, hr, fun k' x hk' hx => hp k' x (by omega) hx⟩⟩
        simp -implicitDefEqProofs only [rnd, l77_0, VMs, noRef, noRef1, isRef, List.all_cons, List.all_nil, vop, VOp.still, VOp.app, VOp.plain, allP, lof, evs, start, asI, vbin, vcells, ntup, setAll, vfill, vress, vres, tup, Nat.reduceEqDiff, ↓reduceIte, Nat.reduceAdd, Nat.reduceMul, Nat.reduceLeDiff, reduceCtorEq, hg, g2, slen, ltc hjn, ge0, decide_true, Int.toNat_natCast, e1, e2, hb]
      · have hb : (D.p[j].r == (z : Int)) = false := beq_eq_false_iff_ne.2 hr
        have hw : IntKind.i64.wrap ((j : Int) - 1) = (np : Int) - 1 - ((k + 1 : Nat) : Int) := by rw [wr (by omega) (by omega)]; omega
        refine Or.inl ⟨_, H2, by simp -implicitDefEqProofs only [rnd, l77_0, VMs, noRef, noRef1, isRef, List.all_cons, List.all_nil, vop, VOp.still, VOp.app, VOp.plain, allP, lof, evs, start, asI, vbin, vcells, ntup, setAll, vfill, vress, vres, tup, Nat.reduceEqDiff, ↓reduceIte, Nat.reduceAdd, Nat.reduceMul, Nat.reduceLeDiff, reduceCtorEq, hg, g2, slen, ltc hjn, ge0, decide_true, Int.toNat_natCast, e1, e2, hb, hw], rfl, rfl, fun j' x hj' hx => ?_⟩
        by_cases e : j' = j
        · subst e
          rw [getE hjl] at hx; cases hx
          exact hr
        · exact hp j' x (by omega) hx
    · rintro ts H2 ⟨rfl, rfl, hp⟩
      have hg : decide ((np : Int) - 1 - (np : Int) ≥ 0) = false := decide_eq_false (by omega)
      refine ⟨(.exit 0, [(0, .pointer (some ⟨q, 0, none⟩)), (1, .int .i64 (z : Nat))], H2), by simp -implicitDefEqProofs only [rnd, l77_0, VMs, noRef, noRef1, isRef, List.all_cons, List.all_nil, vop, VOp.still, VOp.app, VOp.plain, allP, lof, evs, start, asI, vbin, vcells, ntup, setAll, vfill, vress, vres, tup, Nat.reduceEqDiff, ↓reduceIte, Nat.reduceAdd, Nat.reduceMul, Nat.reduceLeDiff, reduceCtorEq, hg], by simp, Or.inr ⟨rfl, fun x hx => ?_⟩⟩
      obtain ⟨j, hj⟩ := List.mem_iff_getElem?.1 hx
      exact hp j x (by omega) hj
    · refine ⟨by simp, rfl, fun j x hj hx => ?_⟩
      have := (List.getElem?_eq_some_iff.1 hx).1
      omega
  have hw0 : IntKind.i64.wrap ((np : Int) - 1) = (np : Int) - 1 := wr (by omega) (by omega)
  obtain ⟨r, hl, ⟨j, hj, rfl, h1, h2⟩ | ⟨rfl, h1⟩⟩ := hloop
  · rw [atP_hit hj h1 h2, call_eq find77 _ _ _ rfl]
    simp -implicitDefEqProofs only [v77, VMs, noRef, noRef1, isRef, List.all_cons, List.all_nil, vop, VOp.still, VOp.app, VOp.plain, allP, lof, evs, start, asI, vbin, vcells, ntup, setAll, vfill, vress, vres, tup, Nat.reduceEqDiff, ↓reduceIte, Nat.reduceAdd, Nat.reduceMul, Nat.reduceLeDiff, reduceCtorEq, g2, slen, hw0, vlp, hl]
  · have hzl : z < D.w.length := by rw [g.w]; exact hz
    obtain ⟨i, o, rfl, e⟩ := h.d.w.at hzl
    simp only [EI, Nat.mul_one] at e
    have hlt : ((z : Int) < ((64 : Nat) : Int)) = True := eq_true (by omega)
    rw [atP_no h1, getE hzl, Option.getD_some, call_eq find77 _ _ _ rfl]
    simp -implicitDefEqProofs only [v77, VMs, noRef, noRef1, isRef, List.all_cons, List.all_nil, vop, VOp.still, VOp.app, VOp.plain, allP, lof, evs, start, asI, vbin, vcells, ntup, setAll, vfill, vress, vres, tup, Nat.reduceEqDiff, ↓reduceIte, Nat.reduceAdd, Nat.reduceMul, Nat.reduceLeDiff, reduceCtorEq, g2, slen, hw0, vlp, hl, g1, ge0, hlt, Int.toNat_natCast, Nat.mul_one, e]
theorem l1All_c (d lo : Nat) (H : Hp) {q aw nw ap np D} (h : PD H q aw nw ap np D) (g : DGood D) :
    ∃ i H', vcall env (d + 2) 87 [.pointer (some ⟨q, 0, none⟩)] lo H = some (.slice (some ⟨i, 0, none⟩) 64 1, H') ∧ Fn H H' ∧ WB H.length H' i ∧ Rep EI 1 H' (some ⟨i, 0, none⟩) 64 (flP D.w D.p) := by
  have hall : ∀ k, ((List.range k).map (atP D.w D.p)).length = k := fun k => by simp
  have hsucc : ∀ k, (List.range (k + 1)).map (atP D.w D.p) = (List.range k).map (atP D.w D.p) ++ [atP D.w D.p k] := fun k => by rw [List.range_succ, List.map_append]; rfl
  have hloop : ∃ r, lim (rnd (vcall env (d + 1)) H.length [0, 3, 4] [2, 3] l87_0) [(0, .pointer (some ⟨q, 0, none⟩)), (3, .slice (some ⟨H.length, 0, none⟩) 0 1), (4, .int .i64 0)] (H ++ [some ⟨[], true, true⟩]) = some r ∧ ∃ i H', r = (.exit 0, [(3, .slice (some ⟨i, 0, none⟩) 64 1)], H') ∧ Fn H H' ∧ NI H.length H' i ((List.range 64).map (atP D.w D.p)) := by
    refine lim_inv (fun k ts H1 => ∃ i, ts = [(0, .pointer (some ⟨q, 0, none⟩)), (3, .slice (some ⟨i, 0, none⟩) k 1), (4, .int .i64 (k : Nat))] ∧ Fn H H1 ∧ NI H.length H1 i ((List.range k).map (atP D.w D.p))) 64 ?_ ?_ ?_
    · rintro k ts H1 hk ⟨i, rfl, hf, ⟨k0, hb, hk0⟩, hlo⟩
      have hk64 : ((k : Int) < 64) = True := eq_true (by omega)
      have hw : IntKind.i64.wrap ((k : Int) + 1) = ((k + 1 : Nat) : Int) := by rw [wr (by omega) (by omega)]; rfl
      have c := l1At_c d H.length H1 (h.fn hf) g k hk
      have hs := hsucc k
      have hl := hall k
      generalize (List.range k).map (atP D.w D.p) = L at *
      generalize atP D.w D.p k = v at *
      obtain ⟨H3, ha, hb3, hl3, hf3, _⟩ := app_own (st := 1) (by_ := 8) (lo := H.length) (H := H1 ++ [some ⟨[.int .i64 v], true, false⟩]) (i := i) (n := k) (m := 1) (M := [.int .i64 v]) (y := .slice (some ⟨H1.length, 0, none⟩) 1 1) (blk_keep hb) (by rw [vI_len, Nat.mul_one]; exact hl) (fun h0 => hk0 (List.length_eq_zero_iff.1 (hl.trans h0))) hlo rfl (by simp [scells, rdN0]) (by omega) (fits_small (by omega))
      simp only [List.length_append, List.length_cons, List.length_nil, Nat.zero_add] at ha hb3 hl3
      refine ⟨_, H3, by simp -implicitDefEqProofs only [rnd, l87_0, VMs, noRef, noRef1, isRef, List.all_cons, List.all_nil, vop, VOp.still, VOp.app, VOp.plain, allP, lof, evs, start, asI, vbin, vcells, ntup, setAll, vfill, vress, vres, tup, Nat.reduceEqDiff, ↓reduceIte, Nat.reduceAdd, Nat.reduceMul, Nat.reduceLeDiff, reduceCtorEq, hk64, decide_true, c, Nat.reduceBEq, ha, hw], H1.length + 1, rfl, hf3 H (hf.trans Fr.app) hlo, ⟨⟨false, ?_, fun e => ?_⟩, by have := hf.len; omega⟩⟩
      · rw [hs, ← vI_app]; exact hb3
      · rw [hs] at e; simp at e
    · rintro ts H1 ⟨i, rfl, hf, hni⟩
      have h64 : (((64 : Nat) : Int) < 64) = False := eq_false (by omega)
      exact ⟨(.exit 0, [(3, .slice (some ⟨i, 0, none⟩) 64 1)], H1), by simp -implicitDefEqProofs only [rnd, l87_0, VMs, noRef, noRef1, isRef, List.all_cons, List.all_nil, vop, VOp.still, VOp.app, VOp.plain, allP, lof, evs, start, asI, vbin, vcells, ntup, setAll, vfill, vress, vres, tup, Nat.reduceEqDiff, ↓reduceIte, Nat.reduceAdd, Nat.reduceMul, Nat.reduceLeDiff, reduceCtorEq, h64, decide_false], by simp, i, H1, rfl, hf, hni⟩
    · exact ⟨H.length, rfl, Fr.app, ⟨true, by rw [blk0]; rfl, fun _ => rfl⟩, Nat.le_refl _⟩
  obtain ⟨_, hl, i, H', rfl, h1, h2⟩ := hloop
  have e : (List.range 64).map (atP D.w D.p) = flP D.w D.p := by rw [flP_all _ _ (fun x hx => (g.a x hx).1), g.w]
  have hr := h2.rep'
  rw [hall, e] at hr
  obtain ⟨⟨k0, hb, _⟩, hlo⟩ := h2
  refine ⟨i, H', ?_, h1, ⟨hlo, _, hb, rfl⟩, hr⟩
  rw [call_eq find87 _ _ _ rfl]
  simp -implicitDefEqProofs only [v87, VMs, noRef, noRef1, isRef, List.all_cons, List.all_nil, vop, VOp.still, VOp.app, VOp.plain, allP, lof, evs, start, asI, vbin, vcells, ntup, setAll, vfill, vress, vres, tup, Nat.reduceEqDiff, ↓reduceIte, Nat.reduceAdd, Nat.reduceMul, Nat.reduceLeDiff, reduceCtorEq, beq_self_eq_true, vlp, hl]
/-! ### Sums -/
theorem specSum_c (d lo : Nat) (H : Hp) (a : Option Addr) (n : Nat) (l : List Int) (h : Rep EI 1 H a n l) (hn : Sm n) : vcall env (d + 1) 65 [.slice a n (sg a 1)] lo H = some (.int .i64 (sumW l 9), H) := by
  have n1 := h.1
  have hl := lim_up (f := rnd (vcall env d) H.length [0, 3, 4] [2, 3] l65_0) (r := (.exit 0, [(3, .int .i64 (sumW (l.take n) 9))], H)) (by simp) (fun j => [(0, .slice a n (sg a 1)), (3, .int .i64 (sumW (l.take j) 9)), (4, .int .i64 (j : Nat))]) (fun _ => H) n
    (by simp -implicitDefEqProofs only [rnd, l65_0, VMs, noRef, noRef1, isRef, List.all_cons, List.all_nil, vop, VOp.still, VOp.app, VOp.plain, allP, lof, evs, start, asI, vbin, vcells, ntup, setAll, vfill, vress, vres, tup, Nat.reduceEqDiff, ↓reduceIte, Nat.reduceAdd, Nat.reduceMul, Nat.reduceLeDiff, reduceCtorEq, slen, Int.lt_irrefl, decide_false])
    (fun j hj => by
      have hjl : j < l.length := by omega
      obtain ⟨i, o, rfl, e⟩ := h.at hjl
      simp only [EI, Nat.mul_one] at e
      obtain ⟨r0, r1⟩ := sumW_range (l.take j) 9 (by omega) (by omega)
      have hs := spec_step (w := l[j]) r0 r1
      have ht := sumW_take l j hjl
      simp -implicitDefEqProofs only [rnd, l65_0, VMs, noRef, noRef1, isRef, List.all_cons, List.all_nil, vop, VOp.still, VOp.app, VOp.plain, allP, lof, evs, start, asI, vbin, vcells, ntup, setAll, vfill, vress, vres, tup, Nat.reduceEqDiff, ↓reduceIte, Nat.reduceAdd, Nat.reduceMul, Nat.reduceLeDiff, reduceCtorEq, slen, ltc hj, ge0, decide_true, Int.toNat_natCast, Nat.mul_one, e, Int.reduceEq, hs, ht, hn.w hj])
  have h0 : sumW (l.take 0) 9 = 9 := rfl
  rw [n1, List.take_length] at hl
  simp only [Int.natCast_zero, h0] at hl
  rw [call_eq find65 _ _ _ rfl]
  rw [n1]
  simp -implicitDefEqProofs only [v65, VMs, noRef, noRef1, isRef, List.all_cons, List.all_nil, vop, VOp.still, VOp.app, VOp.plain, allP, lof, evs, start, asI, vbin, vcells, ntup, setAll, vfill, vress, vres, tup, Nat.reduceEqDiff, ↓reduceIte, Nat.reduceAdd, Nat.reduceMul, Nat.reduceLeDiff, reduceCtorEq, vlp, hl]
theorem implSum_c (d lo : Nat) (H : Hp) (a : Option Addr) (n : Nat) (l : List Int) (h : Rep EI 1 H a n l) (hn : Sm n) : vcall env (d + 1) 64 [.slice a n (sg a 1)] lo H = some (.int .i64 (sumW l 9), H) := by
  have n1 := h.1
  have hl := lim_up (f := rnd (vcall env d) H.length [3, 7, 8, 9] [2, 3] l64_0) (r := (.exit 0, [(3, .int .i64 (sumW (l.take n) 9))], H)) (by simp) (fun j => [(3, .int .i64 (sumW (l.take j) 9)), (7, .slice a n (sg a 1)), (8, .int .i64 (n : Nat)), (9, .int .i64 (j : Nat))]) (fun _ => H) n
    (by simp -implicitDefEqProofs only [rnd, l64_0, VMs, noRef, noRef1, isRef, List.all_cons, List.all_nil, vop, VOp.still, VOp.app, VOp.plain, allP, lof, evs, start, asI, vbin, vcells, ntup, setAll, vfill, vress, vres, tup, Nat.reduceEqDiff, ↓reduceIte, Nat.reduceAdd, Nat.reduceMul, Nat.reduceLeDiff, reduceCtorEq, slen, Int.lt_irrefl, decide_false])
    (fun j hj => by
      have hjl : j < l.length := by omega
      obtain ⟨i, o, rfl, e⟩ := h.at hjl
      simp only [EI, Nat.mul_one] at e
      obtain ⟨r0, r1⟩ := sumW_range (l.take j) 9 (by omega) (by omega)
      have ht := sumW_take l j hjl
      by_cases hneg : Int.tmod l[j] 65521 < 0
      · have hs := impl_step1 r0 r1 hneg
        have hd : decide (Int.tmod l[j] 65521 < 0) = true := decide_eq_true hneg
        simp -implicitDefEqProofs only [rnd, l64_0, VMs, noRef, noRef1, isRef, List.all_cons, List.all_nil, vop, VOp.still, VOp.app, VOp.plain, allP, lof, evs, start, asI, vbin, vcells, ntup, setAll, vfill, vress, vres, tup, Nat.reduceEqDiff, ↓reduceIte, Nat.reduceAdd, Nat.reduceMul, Nat.reduceLeDiff, reduceCtorEq, slen, ltc hj, ge0, decide_true, Int.toNat_natCast, Nat.mul_one, e, Int.reduceEq, hd, hs, ht, hn.w hj]
      · have hs := impl_step2 r0 r1 hneg
        have hd : decide (Int.tmod l[j] 65521 < 0) = false := decide_eq_false hneg
        simp -implicitDefEqProofs only [rnd, l64_0, VMs, noRef, noRef1, isRef, List.all_cons, List.all_nil, vop, VOp.still, VOp.app, VOp.plain, allP, lof, evs, start, asI, vbin, vcells, ntup, setAll, vfill, vress, vres, tup, Nat.reduceEqDiff, ↓reduceIte, Nat.reduceAdd, Nat.reduceMul, Nat.reduceLeDiff, reduceCtorEq, slen, ltc hj, ge0, decide_true, Int.toNat_natCast, Nat.mul_one, e, Int.reduceEq, hd, hs, ht, hn.w hj])
  have h0 : sumW (l.take 0) 9 = 9 := rfl
  rw [n1, List.take_length] at hl
  simp only [Int.natCast_zero, h0] at hl
  rw [call_eq find64 _ _ _ rfl]
  rw [n1]
  simp -implicitDefEqProofs only [v64, VMs, noRef, noRef1, isRef, List.all_cons, List.all_nil, vop, VOp.still, VOp.app, VOp.plain, allP, lof, evs, start, asI, vbin, vcells, ntup, setAll, vfill, vress, vres, tup, Nat.reduceEqDiff, ↓reduceIte, Nat.reduceAdd, Nat.reduceMul, Nat.reduceLeDiff, reduceCtorEq, slen, vlp, hl]
end Go.Proofs.Ytaahjfjpbilfnaa.V
