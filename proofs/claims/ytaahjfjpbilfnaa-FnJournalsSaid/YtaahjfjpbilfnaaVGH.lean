/- The records of a journal: the program's scan. -/
import Derived.Test.YtaahjfjpbilfnaaVGG
namespace Go.Proofs.Ytaahjfjpbilfnaa.V
open Go
set_option linter.unusedVariables false
set_option linter.unusedSimpArgs false
set_option maxRecDepth 100000
theorem Rep.lt {α : Type} {E : Hp → Nat → Nat → α → Prop} {st : Nat} {H : Hp} {a : Option Addr} {n : Nat} {l : List α} (h : Rep E st H a n l) (hl : l ≠ []) {i : Nat} (hi : Ad a i) (hE : ∀ i o x, E H i o x → i < H.length) : i < H.length := by
  obtain ⟨i', o, ha, h2⟩ := h.2 hl
  obtain ⟨o', e⟩ := hi
  rw [e] at ha; cases ha
  obtain ⟨x, r, rfl⟩ := List.exists_cons_of_ne_nil hl
  exact hE _ _ _ (h2 0 x rfl)
theorem vslice_cut {b n i j : Nat} (h1 : i ≤ j) (h2 : j ≤ n) : vslice 1 (.slice (some ⟨b, 0, none⟩) n 1) (some (.int .i64 (i : Nat))) (some (.int .i64 (j : Nat))) none = some (.slice (some ⟨b, i, none⟩) (j - i) 1) := by
  have e : ((j : Int) - (i : Int)).toNat = j - i := by omega
  simp only [vslice, asI, Option.bind_some]
  rw [if_pos ⟨trivial, by omega, by omega, by omega⟩]
  simp only [Nat.zero_add, Int.toNat_natCast, Nat.mul_one, e]
theorem recN_fit {all : List Int} {i m : Nat} (h64 : all.length = 64) (hf : i + 2 + m ≤ 64) (hn : all[i]? = some (m : Int)) : (all.drop i).take (2 + m) = (m : Int) :: (all[i + 1]?).getD 0 :: recL all i m := by
  have h1 : i < all.length := by omega
  have h2 : i + 1 < all.length := by omega
  rw [getE h1] at hn
  rw [List.drop_eq_getElem_cons h1, List.drop_eq_getElem_cons h2, getE h2, Option.getD_some, Option.some.inj hn, show 2 + m = m + 1 + 1 by omega, List.take_succ_cons, List.take_succ_cons]
  rfl
/-- Where a scan stands. -/
structure SC (L : Nat) (H : Hp) (all : List Int) (f i : Nat) (o : List (List Int)) (a : Option Addr) (ps : List (List Int × Option Addr)) : Prop where
  hr : RQ L H a ps
  ho : ps.map (·.1) = o
  hi : i ≤ 64
  hl : o.length ≤ i
  hf : scanR all f i o = scanR all 65 0 []
theorem implScan_c (d lo : Nat) (H : Hp) {aw nw ap np D} (h : RD H aw nw ap np D) (g : DGood D) (hx : Ex H aw) :
    ∃ a ps H', vcall env (d + 3) 94 [.agg #[.slice aw nw (sg aw 1), .slice ap np (sg ap 2)]] lo H = some (.tuple #[.slice a ps.length (sg a 1), .int .i64 ((scanR (flP D.w D.p) 65 0 []).2 : Nat)], H') ∧ Fn H H' ∧ RQ H.length H' a ps ∧ ps.map (·.1) = (scanR (flP D.w D.p) 65 0 []).1 := by
  obtain ⟨HA, hHA⟩ : ∃ HA : Hp, HA = H ++ [some ⟨[.slice aw nw (sg aw 1), .slice ap np (sg ap 2)], true, false⟩, some ⟨[], true, true⟩] := ⟨_, rfl⟩
  have fA : Fn H HA := hHA ▸ Fr.app
  have lA : HA.length = H.length + 2 := by rw [hHA]; simp
  have bA : HA.blk (H.length + 1) = some ⟨[], true, true⟩ := by rw [hHA]; exact blkn 1
  obtain ⟨b, H1, c1, f1, w1, r1⟩ := flushed_c d H.length HA (h.fn fA) g (hx.fn fA)
  have h64 : (flP D.w D.p).length = 64 := by rw [flP_len, g.w]
  generalize flP D.w D.p = all at *
  have r0 : RQ H.length H1 (some ⟨H.length + 1, 0, none⟩) [] := RQ.new ((f1.blk _ (by omega) id).trans bA) (by omega)
  have hloop : ∃ r, lim (rnd (vcall env (d + 2)) H.length [4, 5, 6] [2, 3, 4, 6] l94_0) [(4, .slice (some ⟨H.length + 1, 0, none⟩) 0 1), (5, .slice (some ⟨b, 0, none⟩) 64 1), (6, .int .i64 0)] H1 = some r ∧
      ∃ i o a ps H', r = (.exit 0, [(4, .slice a ps.length (sg a 1)), (6, .int .i64 ((i : Nat) : Int))], H') ∧ Fn H H' ∧ RQ H.length H' a ps ∧ ps.map (·.1) = o ∧ (o, i) = scanR all 65 0 [] := by
    refine lim_inv2 (fun k ts H2 => ∃ (i : Nat) (o : List (List Int)) (a : Option Addr) (ps : List (List Int × Option Addr)), ts = [(4, .slice a ps.length (sg a 1)), (5, .slice (some ⟨b, 0, none⟩) 64 1), (6, .int .i64 (i : Nat))] ∧ Fn H H2 ∧ Rep EI 1 H2 (some ⟨b, 0, none⟩) 64 all ∧ SC H.length H2 all (65 - k) i o a ps ∧ k ≤ i ∧ ∀ o', a ≠ some ⟨b, o', none⟩) 65 ?_ ?_ ?_
    · rintro k ts H2 hk ⟨i, o, a, ps, rfl, f2, r2, s, hki, hab⟩
      obtain ⟨z, hz⟩ : ∃ z, 65 - k = z + 1 := ⟨64 - k, by omega⟩
      have hsf := s.hf
      rw [hz] at hsf
      have hlp : ps.length = o.length := by rw [← s.ho, List.length_map]
      have hile := s.hi
      have hol := s.hl
      have hle2 : (H.length ≤ H2.length) = True := eq_true f2.len
      have stop : recN all i o.length = 0 → (o, i) = scanR all 65 0 [] := fun e => by rw [← hsf]; unfold scanR; rw [if_pos e]
      by_cases hi64 : i < 64
      · have hi64' : ((i : Int) < 64) = True := eq_true (by omega)
        have hia : ((i : Int) < ((64 : Nat) : Int)) = True := eq_true (by omega)
        have hil : i < all.length := by omega
        obtain ⟨_, _, e', ex⟩ := r2.at hil
        cases e'
        simp only [EI, Nat.zero_add, Nat.mul_one] at ex
        by_cases hin : 1 ≤ all[i] ∧ all[i] ≤ 8
        · obtain ⟨m, hm⟩ : ∃ m : Nat, all[i] = (m : Int) := ⟨all[i].toNat, by omega⟩
          rw [hm] at hin ex
          have hat : all[i]? = some (m : Int) := by rw [getE hil, hm]
          have w1 : IntKind.i64.wrap (64 - (i : Int)) = 64 - (i : Int) := wr (by omega) (by omega)
          have w2 : IntKind.i64.wrap (64 - (i : Int) - 2) = 62 - (i : Int) := by rw [wr (by omega) (by omega)]; omega
          by_cases hfit : i + 2 + m ≤ 64
          · have hg : decide ((m : Int) > 62 - (i : Int)) = false := decide_eq_false (by omega)
            have w3 : IntKind.i64.wrap ((i : Int) + 2) = ((i + 2 : Nat) : Int) := by rw [wr (by omega) (by omega)]; rfl
            have w4 : IntKind.i64.wrap (((i + 2 : Nat) : Int) + (m : Int)) = ((i + 2 + m : Nat) : Int) := by rw [wr (by omega) (by omega)]; rfl
            have q1 : (((i + 2 : Nat) : Int) ≤ ((i + 2 + m : Nat) : Int)) = True := eq_true (by omega)
            have q2 : (((i + 2 + m : Nat) : Int) ≤ ((64 : Nat) : Int)) = True := eq_true (by omega)
            have q3 : ((i : Int) ≤ ((i + 2 + m : Nat) : Int)) = True := eq_true (by omega)
            have q4 : (i + 2 + m) - (i + 2) = m := by omega
            have q5 : (i + 2 + m) - i = 2 + m := by omega
            have v1 := vslice_cut (b := b) (n := 64) (i := i + 2) (j := i + 2 + m) (by omega) hfit
            have v2 := vslice_cut (b := b) (n := 64) (i := i) (j := i + 2 + m) (by omega) hfit
            rw [q4] at v1
            rw [q5] at v2
            have hrl : (recL all i m).length = m := recL_len (by omega)
            have hne : recL all i m ≠ [] := by intro e; rw [e] at hrl; simp at hrl; omega
            have cut1 : Rep EI 1 H2 (some ⟨b, i + 2, none⟩) m (recL all i m) := r2.cut (i + 2) m (by omega)
            have cut2 : Rep EI 1 H2 (some ⟨b, i, none⟩) (2 + m) ((m : Int) :: (all[i + 1]?).getD 0 :: recL all i m) := by
              have := r2.cut i (2 + m) (by omega)
              rw [recN_fit h64 hfit hat] at this; exact this
            have hi1 : i + 1 < all.length := by omega
            obtain ⟨j3, H3, c3, f3, r3⟩ := stands_c d H2.length H2 (o.length : Int) cut1 (cut1.exI hne) (by omega) (by omega)
            have c4 := equalI_c (d + 1) H.length H3 _ _ _ _ _ _ r3 (cut2.fnI f3) (by unfold Sm; omega)
            have hrec := recN_sum (k := o.length) hat (by omega) (by omega) (by omega : i + 2 + m ≤ all.length)
            rw [getE hi1] at hrec c4
            simp only [Option.getD_some, Option.some.injEq] at hrec c4
            simp only [sgs, hlp] at c3 c4
            by_cases hs : all[i + 1] = sumW ((o.length : Int) :: recL all i m) 9
            · rw [if_pos hs] at hrec
              rw [← hs, decide_eq_true rfl] at c4
              have cut3 := cut1.fnI f3
              obtain ⟨cb, H4, c5, F4⟩ := cloneInts_c (d + 1) H.length H3 cut3 (cut3.exI hne) (by omega)
              obtain ⟨cc, oc, rfl, _⟩ := F4.r.2 hne
              obtain ⟨_, ho, hwc⟩ := F4.o _ rfl
              simp only at ho hwc
              subst ho
              have hcc : H3.length ≤ cc := hwc.1
              obtain ⟨H5, hH5⟩ : ∃ H5 : Hp, H5 = H4 ++ [some ⟨[.slice (some ⟨cc, 0, none⟩) m 1], true, false⟩] := ⟨_, rfl⟩
              have f5 : Fn H4 H5 := hH5 ▸ Fr.app
              have f25 := (f3.trans F4.f).trans f5
              have l3 := f3.len
              have l2 := f2.len
              have rr5 := s.hr.fn f25
              have l4 := F4.f.len
              have l5 := f5.len
              obtain ⟨H6, ha, l6, rr6, f6, b6⟩ := RQ.app (by_ := 24) rr5 (x := recL all i m) (b := some ⟨cc, 0, none⟩) (y := .slice (some ⟨H4.length, 0, none⟩) 1 1) (by rw [hrl]; exact F4.r.fnI f5)
                (fun A e => by
                  cases e
                  refine ⟨rfl, rfl, (hwc.fn _ f5).lo (by omega), fun o' e' => ?_, fun j p hp B hB e' => ?_⟩
                  · rcases s.hr.hd with ⟨e2, _⟩ | ⟨i', k0, e2, hb2, _⟩
                    · rw [e2] at e'; cases e'
                    · rw [e2] at e'; cases e'
                      have := blk_lt hb2
                      simp only at *; omega
                  · obtain ⟨_, _, ⟨_, bb, w2, _⟩, _⟩ := (s.hr.k j p hp).2 B hB
                    have := blk_lt w2
                    simp only at e'
                    omega) rfl (by rw [hH5]; simp [scells, rdN0, rV, hrl, sg]) (fits_small (by omega)) (by omega)
              have cut0 := r2
              have hbl : b < H2.length := r2.lt (by intro e; rw [e] at h64; simp at h64) ⟨0, rfl⟩ (fun i o x hx => rd_lt hx)
              have hb6 : Rep EI 1 H6 (some ⟨b, 0, none⟩) 64 all := by
                refine (cut0.fnI f25).blkI fun i' ⟨o', e⟩ => ?_
                cases e
                exact b6 b hab (Nat.lt_of_lt_of_le hbl f25.len)
              refine Or.inl ⟨[(4, .slice (some ⟨H5.length, 0, none⟩) (ps ++ [(recL all i m, (some ⟨cc, 0, none⟩ : Option Addr))]).length 1), (5, .slice (some ⟨b, 0, none⟩) 64 1), (6, .int .i64 ((i + 2 + m : Nat) : Int))], H6, ?_, i + 2 + m, o ++ [recL all i m], some ⟨H5.length, 0, none⟩, ps ++ [(recL all i m, some ⟨cc, 0, none⟩)], rfl, f6 H (f2.trans f25) (Nat.le_refl _), hb6, ⟨rr6, ?_, hfit, ?_, ?_⟩, by omega, fun o' e => by cases e; omega⟩
              · subst hH5
                simp only [List.length_append, List.length_cons, List.length_nil, Nat.zero_add, sgs, hlp] at ha c5
                simp -implicitDefEqProofs only [rnd, l94_0, VMs, vop, VOp.still, VOp.app, VOp.plain, allP, lof, evs, start, asI, vbin, vcells, ntup, setAll, vfill, vress, vres, tup, Nat.reduceEqDiff, ↓reduceIte, Nat.reduceAdd, Nat.reduceMul, Nat.reduceLeDiff, reduceCtorEq, slen, vdr, hi64', hia, ge0, decide_true, Int.toNat_natCast, Nat.mul_one, Nat.zero_add, ex, within_c, hin, w1, w2, hg, w3, w4, v1, v2, c3, c4, c5, ha, hlp, Nat.reduceBEq]
              · rw [List.map_append, s.ho]; rfl
              · simp; have := s.hl; omega
              · rw [show 65 - (k + 1) = z by omega, ← hsf]
                conv => rhs; unfold scanR
                rw [if_neg (by omega), hrec]
            · rw [if_neg hs] at hrec
              have hc4 : ¬ ((m : Int) :: sumW ((o.length : Int) :: recL all i m) 9 :: recL all i m = (m : Int) :: all[i + 1] :: recL all i m) := fun e => hs (List.cons.inj (List.cons.inj e).2).1.symm
              rw [decide_eq_false hc4] at c4
              refine Or.inr ⟨(.exit 0, [(4, .slice a ps.length (sg a 1)), (6, .int .i64 ((i : Nat) : Int))], H3), ?_, by simp, i, o, a, ps, H3, rfl, f2.trans f3, s.hr.fn f3, s.ho, stop hrec⟩
              simp -implicitDefEqProofs only [rnd, l94_0, VMs, vop, VOp.still, VOp.app, VOp.plain, allP, lof, evs, start, asI, vbin, vcells, ntup, setAll, vfill, vress, vres, tup, Nat.reduceEqDiff, ↓reduceIte, Nat.reduceAdd, Nat.reduceMul, Nat.reduceLeDiff, reduceCtorEq, slen, vdr, hi64', hia, ge0, decide_true, Int.toNat_natCast, Nat.mul_one, Nat.zero_add, ex, within_c, hin, w1, w2, hg, w3, w4, v1, v2, c3, c4, hlp]
          · have hg : decide ((m : Int) > 62 - (i : Int)) = true := decide_eq_true (by omega)
            refine Or.inr ⟨(.exit 0, [(4, .slice a ps.length (sg a 1)), (6, .int .i64 ((i : Nat) : Int))], H2), by simp -implicitDefEqProofs only [rnd, l94_0, VMs, vop, VOp.still, VOp.app, VOp.plain, allP, lof, evs, start, asI, vbin, vcells, ntup, setAll, vfill, vress, vres, tup, Nat.reduceEqDiff, ↓reduceIte, Nat.reduceAdd, Nat.reduceMul, Nat.reduceLeDiff, reduceCtorEq, slen, hi64', hia, ge0, decide_true, Int.toNat_natCast, Nat.mul_one, Nat.zero_add, ex, within_c, hin, w1, w2, hg], by simp, i, o, a, ps, H2, rfl, f2, s.hr, s.ho, stop (recN_bad hat (by omega))⟩
        · have hat : all[i]? = some all[i] := getE hil
          refine Or.inr ⟨(.exit 0, [(4, .slice a ps.length (sg a 1)), (6, .int .i64 ((i : Nat) : Int))], H2), by simp -implicitDefEqProofs only [rnd, l94_0, VMs, vop, VOp.still, VOp.app, VOp.plain, allP, lof, evs, start, asI, vbin, vcells, ntup, setAll, vfill, vress, vres, tup, Nat.reduceEqDiff, ↓reduceIte, Nat.reduceAdd, Nat.reduceMul, Nat.reduceLeDiff, reduceCtorEq, slen, hi64', hia, ge0, decide_true, Int.toNat_natCast, Nat.mul_one, Nat.zero_add, ex, within_c, hin, decide_false], by simp, i, o, a, ps, H2, rfl, f2, s.hr, s.ho, stop (recN_bad hat (by omega))⟩
      · have hi64' : ((i : Int) < 64) = False := eq_false (by omega)
        exact Or.inr ⟨(.exit 0, [(4, .slice a ps.length (sg a 1)), (6, .int .i64 ((i : Nat) : Int))], H2), by simp -implicitDefEqProofs only [rnd, l94_0, VMs, vop, VOp.still, VOp.app, VOp.plain, allP, lof, evs, start, asI, vbin, vcells, ntup, setAll, vfill, vress, vres, tup, Nat.reduceEqDiff, ↓reduceIte, Nat.reduceAdd, Nat.reduceMul, Nat.reduceLeDiff, reduceCtorEq, hi64', decide_false], by simp, i, o, a, ps, H2, rfl, f2, s.hr, s.ho, stop (recN_far (by omega))⟩
    · rintro ts H2 ⟨i, o, a, ps, rfl, f2, r2, s, hki, hab⟩
      have := s.hi
      omega
    · exact ⟨0, [], some ⟨H.length + 1, 0, none⟩, [], rfl, fA.trans f1, r1, ⟨r0, rfl, by omega, by simp, rfl⟩, by omega, fun o' e => by cases e; have := w1.1; omega⟩
  obtain ⟨_, hl, i, o, a, ps, H', rfl, f2, rq, ho, hsc⟩ := hloop
  rw [← hsc]
  subst hHA
  cases a with
  | some A =>
    refine ⟨some A, ps, H', ?_, f2, rq, ho⟩
    rw [call_eq find94 _ _ _ rfl]
    simp -implicitDefEqProofs only [v94, VMs, noRef, noRef1, isRef, List.all_cons, List.all_nil, vop, VOp.still, VOp.app, VOp.plain, allP, lof, evs, start, asI, vbin, vcells, ntup, setAll, vfill, vress, vres, tup, Nat.reduceEqDiff, ↓reduceIte, Nat.reduceAdd, Nat.reduceMul, Nat.reduceLeDiff, reduceCtorEq, Nat.reduceBEq, c1, vlp, hl]
  | none =>
    have hp0 : ps = [] := by
      rcases rq.hd with ⟨_, e, _⟩ | ⟨_, _, e, _⟩
      · exact List.length_eq_zero_iff.1 e
      · cases e
    subst hp0
    refine ⟨none, [], H, ?_, Fr.refl, RQ.nil _ _, ho⟩
    rw [call_eq find94 _ _ _ rfl]
    simp -implicitDefEqProofs only [v94, VMs, noRef, noRef1, isRef, List.all_cons, List.all_nil, vop, VOp.still, VOp.app, VOp.plain, allP, lof, evs, start, asI, vbin, vcells, ntup, setAll, vfill, vress, vres, tup, Nat.reduceEqDiff, ↓reduceIte, Nat.reduceAdd, Nat.reduceMul, Nat.reduceLeDiff, reduceCtorEq, Nat.reduceBEq, c1, vlp, hl]
end Go.Proofs.Ytaahjfjpbilfnaa.V
