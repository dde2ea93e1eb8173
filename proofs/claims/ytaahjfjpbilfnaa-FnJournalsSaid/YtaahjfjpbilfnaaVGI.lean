/- The records of a journal: the reference's scan. -/
import Derived.Test.YtaahjfjpbilfnaaVGH
namespace Go.Proofs.Ytaahjfjpbilfnaa.V
open Go
set_option linter.unusedVariables false
set_option linter.unusedSimpArgs false
set_option maxRecDepth 100000
theorem specScan_c (d lo : Nat) (H : Hp) {b : Nat} {all : List Int} (r1 : Rep EI 1 H (some ⟨b, 0, none⟩) 64 all) (h64 : all.length = 64) :
    ∃ a ps H', vcall env (d + 3) 92 [.slice (some ⟨b, 0, none⟩) 64 1] lo H = some (.tuple #[.slice a ps.length (sg a 1), .int .i64 ((scanR all 65 0 []).2 : Nat)], H') ∧ Fn H H' ∧ RQ H.length H' a ps ∧ ps.map (·.1) = (scanR all 65 0 []).1 := by
  obtain ⟨H1, hH1⟩ : ∃ H1 : Hp, H1 = H ++ [some ⟨[], true, true⟩] := ⟨_, rfl⟩
  have f1 : Fn H H1 := hH1 ▸ Fr.app
  have bA : H1.blk H.length = some ⟨[], true, true⟩ := by rw [hH1]; exact blk0
  have hbl : b < H.length := r1.lt (by intro e; rw [e] at h64; simp at h64) ⟨0, rfl⟩ (fun i o x hx => rd_lt hx)
  have r0 : RQ H.length H1 (some ⟨H.length, 0, none⟩) [] := RQ.new bA (Nat.le_refl _)
  have hloop : ∃ r, lim (rnd (vcall env (d + 2)) H.length [0, 4, 5] [2, 3, 4, 5] l92_0) [(0, .slice (some ⟨b, 0, none⟩) 64 1), (4, .slice (some ⟨H.length, 0, none⟩) 0 1), (5, .int .i64 0)] H1 = some r ∧
      ∃ i o a ps H', (r = (.exit 0, [(4, .slice a ps.length (sg a 1)), (5, .int .i64 ((i : Nat) : Int))], H') ∨ r = (.ret, [(2, .slice a ps.length (sg a 1)), (3, .int .i64 ((i : Nat) : Int)), (4, .slice a ps.length (sg a 1)), (5, .int .i64 ((i : Nat) : Int))], H')) ∧ Fn H H' ∧ RQ H.length H' a ps ∧ ps.map (·.1) = o ∧ (o, i) = scanR all 65 0 [] := by
    refine lim_inv2 (fun k ts H2 => ∃ (i : Nat) (o : List (List Int)) (a : Option Addr) (ps : List (List Int × Option Addr)), ts = [(0, .slice (some ⟨b, 0, none⟩) 64 1), (4, .slice a ps.length (sg a 1)), (5, .int .i64 (i : Nat))] ∧ Fn H H2 ∧ SC H.length H2 all (65 - k) i o a ps ∧ k ≤ i) 65 ?_ ?_ ?_
    · rintro k ts H2 hk ⟨i, o, a, ps, rfl, f2, s, hki⟩
      obtain ⟨z, hz⟩ : ∃ z, 65 - k = z + 1 := ⟨64 - k, by omega⟩
      have r2 := r1.fnI f2
      have hsf := s.hf
      rw [hz] at hsf
      have hlp : ps.length = o.length := by rw [← s.ho, List.length_map]
      have hile := s.hi
      have hol := s.hl
      have hle2 : (H.length ≤ H2.length) = True := eq_true f2.len
      have stop : recN all i o.length = 0 → (o, i) = scanR all 65 0 [] := fun e => by rw [← hsf]; unfold scanR; rw [if_pos e]
      have w3 : IntKind.i64.wrap ((i : Int) + 2) = ((i + 2 : Nat) : Int) := by rw [wr (by omega) (by omega)]; rfl
      by_cases hi64 : i + 2 < 64
      · have hi64' : (((i + 2 : Nat) : Int) < ((64 : Nat) : Int)) = True := eq_true (by omega)
        have hia : ((i : Int) < ((64 : Nat) : Int)) = True := eq_true (by omega)
        have hib : (((i + 1 : Nat) : Int) < ((64 : Nat) : Int)) = True := eq_true (by omega)
        have hi0 : ((0 : Int) ≤ ((i + 1 : Nat) : Int)) = True := eq_true (by omega)
        have hil : i < all.length := by omega
        obtain ⟨_, _, e', ex⟩ := r2.at hil
        cases e'
        simp only [EI, Nat.zero_add, Nat.mul_one] at ex
        by_cases hin : 1 ≤ all[i] ∧ all[i] ≤ 8
        · obtain ⟨m, hm⟩ : ∃ m : Nat, all[i] = (m : Int) := ⟨all[i].toNat, by omega⟩
          rw [hm] at hin ex
          have hat : all[i]? = some (m : Int) := by rw [getE hil, hm]
          have w4 : IntKind.i64.wrap (((i + 2 : Nat) : Int) + (m : Int)) = ((i + 2 + m : Nat) : Int) := by rw [wr (by omega) (by omega)]; rfl
          have w5 : IntKind.i64.wrap ((i : Int) + 1) = ((i + 1 : Nat) : Int) := by rw [wr (by omega) (by omega)]; rfl
          by_cases hfit : i + 2 + m ≤ 64
          · have hg : decide (((i + 2 + m : Nat) : Int) > ((64 : Nat) : Int)) = false := decide_eq_false (by omega)
            have v1 := vslice_cut (b := b) (n := 64) (i := i + 2) (j := i + 2 + m) (by omega) hfit
            rw [show (i + 2 + m) - (i + 2) = m by omega] at v1
            have hrl : (recL all i m).length = m := recL_len (by omega)
            have hne : recL all i m ≠ [] := by intro e; rw [e] at hrl; simp at hrl; omega
            have cut1 : Rep EI 1 H2 (some ⟨b, i + 2, none⟩) m (recL all i m) := r2.cut (i + 2) m (by omega)
            have hi1 : i + 1 < all.length := by omega
            obtain ⟨cc, H3, c5, f3, n3, hc3, hl3⟩ := cloneI (lo := H.length) cut1 (cut1.exI hne) f2.len (by omega)
            have hcc := n3.lo
            have rr3 := n3.rep'
            rw [hrl] at rr3
            have wc3 : WB H.length H3 cc := by
              obtain ⟨⟨k0, hb3, _⟩, _⟩ := n3
              exact ⟨by have := f2.len; omega, _, hb3, rfl⟩
            have ex3 : rd H3 ⟨b, i + 1, none⟩ = some (.int .i64 all[i + 1]) := by
              obtain ⟨_, _, e', ex1⟩ := (r2.fnI f3).at hi1
              cases e'
              simpa only [EI, Nat.zero_add, Nat.mul_one] using ex1
            have c3 := fun lo H => l2Sum_c d lo H (a := some ⟨cc, 0, none⟩) (n := m) (l := recL all i m) (o.length : Int)
            have c3 := fun lo => c3 lo H3 rr3 (rr3.exI hne) (by omega) (by omega)
            have hrec := recN_sum (k := o.length) hat (by omega) (by omega) (by omega : i + 2 + m ≤ all.length)
            rw [getE hi1] at hrec
            simp only [Option.some.injEq] at hrec
            simp only [sgs] at c3 c5
            by_cases hs : all[i + 1] = sumW ((o.length : Int) :: recL all i m) 9
            · rw [if_pos hs] at hrec
              have hb : (all[i + 1] != sumW ((o.length : Int) :: recL all i m) 9) = false := by rw [hs]; exact bne_self_eq_false _
              obtain ⟨H5, hH5⟩ : ∃ H5 : Hp, H5 = H3 ++ [some ⟨[.slice (some ⟨cc, 0, none⟩) m 1], true, false⟩] := ⟨_, rfl⟩
              have f5 : Fn H3 H5 := hH5 ▸ Fr.app
              have f25 := f3.trans f5
              have l3 := f3.len
              have l2 := f2.len
              have rr5 := s.hr.fn f25
              have l5 := f5.len
              obtain ⟨H6, ha, l6, rr6, f6, b6⟩ := RQ.app (by_ := 24) rr5 (x := recL all i m) (b := some ⟨cc, 0, none⟩) (y := .slice (some ⟨H3.length, 0, none⟩) 1 1) (by rw [hrl]; exact rr3.fnI f5)
                (fun A e => by
                  cases e
                  refine ⟨rfl, rfl, wc3.fn _ f5, fun o' e' => ?_, fun j p hp B hB e' => ?_⟩
                  · rcases s.hr.hd with ⟨e2, _⟩ | ⟨i', k0, e2, hb2, _⟩
                    · rw [e2] at e'; cases e'
                    · rw [e2] at e'; cases e'
                      have := blk_lt hb2
                      simp only at *; omega
                  · obtain ⟨_, _, ⟨_, bb, w2, _⟩, _⟩ := (s.hr.k j p hp).2 B hB
                    have := blk_lt w2
                    simp only at e'
                    omega) rfl (by rw [hH5]; simp [scells, rdN0, rV, hrl, sg]) (fits_small (by omega)) (by omega)
              refine Or.inl ⟨[(0, .slice (some ⟨b, 0, none⟩) 64 1), (4, .slice (some ⟨H5.length, 0, none⟩) (ps ++ [(recL all i m, (some ⟨cc, 0, none⟩ : Option Addr))]).length 1), (5, .int .i64 ((i + 2 + m : Nat) : Int))], H6, ?_, i + 2 + m, o ++ [recL all i m], some ⟨H5.length, 0, none⟩, ps ++ [(recL all i m, some ⟨cc, 0, none⟩)], rfl, f6 H (f2.trans f25) (Nat.le_refl _), ⟨rr6, ?_, hfit, ?_, ?_⟩, by omega⟩
              · subst hH5
                simp only [List.length_append, List.length_cons, List.length_nil, Nat.zero_add, sgs, hlp] at ha
                simp -implicitDefEqProofs only [rnd, l92_0, VMs, vop, VOp.still, VOp.app, VOp.plain, allP, lof, evs, start, asI, vbin, vcells, ntup, setAll, vfill, vress, vres, tup, Nat.reduceEqDiff, ↓reduceIte, Nat.reduceAdd, Nat.reduceMul, Nat.reduceLeDiff, reduceCtorEq, slen, vdr, hi64', hia, hib, hi0, ge0, decide_true, Int.toNat_natCast, Nat.mul_one, Nat.zero_add, ex, ex3, l1In_c, hin, hg, w3, w4, w5, v1, c3, c5, hb, ha, hlp, Nat.reduceBEq, beq_self_eq_true]
              · rw [List.map_append, s.ho]; rfl
              · simp; omega
              · rw [show 65 - (k + 1) = z by omega, ← hsf]
                conv => rhs; unfold scanR
                rw [if_neg (by omega), hrec]
            · rw [if_neg hs] at hrec
              have hb : (all[i + 1] != sumW ((o.length : Int) :: recL all i m) 9) = true := bne_iff_ne.2 hs
              refine Or.inr ⟨(.ret, [(2, .slice a ps.length (sg a 1)), (3, .int .i64 ((i : Nat) : Int)), (4, .slice a ps.length (sg a 1)), (5, .int .i64 ((i : Nat) : Int))], H3), ?_, by simp, i, o, a, ps, H3, Or.inr rfl, f2.trans f3, s.hr.fn f3, s.ho, stop hrec⟩
              simp -implicitDefEqProofs only [rnd, l92_0, VMs, vop, VOp.still, VOp.app, VOp.plain, allP, lof, evs, start, asI, vbin, vcells, ntup, setAll, vfill, vress, vres, tup, Nat.reduceEqDiff, ↓reduceIte, Nat.reduceAdd, Nat.reduceMul, Nat.reduceLeDiff, reduceCtorEq, slen, vdr, hi64', hia, hib, hi0, ge0, decide_true, Int.toNat_natCast, Nat.mul_one, Nat.zero_add, ex, ex3, l1In_c, hin, hg, w3, w4, w5, v1, c3, c5, hb, hlp, Nat.reduceBEq, beq_self_eq_true]
          · have hg : decide (((i + 2 + m : Nat) : Int) > ((64 : Nat) : Int)) = true := decide_eq_true (by omega)
            refine Or.inr ⟨(.ret, [(2, .slice a ps.length (sg a 1)), (3, .int .i64 ((i : Nat) : Int)), (4, .slice a ps.length (sg a 1)), (5, .int .i64 ((i : Nat) : Int))], H2), by simp -implicitDefEqProofs only [rnd, l92_0, VMs, vop, VOp.still, VOp.app, VOp.plain, allP, lof, evs, start, asI, vbin, vcells, ntup, setAll, vfill, vress, vres, tup, Nat.reduceEqDiff, ↓reduceIte, Nat.reduceAdd, Nat.reduceMul, Nat.reduceLeDiff, reduceCtorEq, slen, hi64', hia, ge0, decide_true, Int.toNat_natCast, Nat.mul_one, Nat.zero_add, ex, l1In_c, hin, w3, w4, hg], by simp, i, o, a, ps, H2, Or.inr rfl, f2, s.hr, s.ho, stop (recN_bad hat (by omega))⟩
        · have hat : all[i]? = some all[i] := getE hil
          refine Or.inr ⟨(.ret, [(2, .slice a ps.length (sg a 1)), (3, .int .i64 ((i : Nat) : Int)), (4, .slice a ps.length (sg a 1)), (5, .int .i64 ((i : Nat) : Int))], H2), by simp -implicitDefEqProofs only [rnd, l92_0, VMs, vop, VOp.still, VOp.app, VOp.plain, allP, lof, evs, start, asI, vbin, vcells, ntup, setAll, vfill, vress, vres, tup, Nat.reduceEqDiff, ↓reduceIte, Nat.reduceAdd, Nat.reduceMul, Nat.reduceLeDiff, reduceCtorEq, slen, hi64', hia, ge0, decide_true, Int.toNat_natCast, Nat.mul_one, Nat.zero_add, ex, l1In_c, hin, decide_false, w3], by simp, i, o, a, ps, H2, Or.inr rfl, f2, s.hr, s.ho, stop (recN_bad hat (by omega))⟩
      · have hi64' : (((i + 2 : Nat) : Int) < ((64 : Nat) : Int)) = False := eq_false (by omega)
        exact Or.inr ⟨(.exit 0, [(4, .slice a ps.length (sg a 1)), (5, .int .i64 ((i : Nat) : Int))], H2), by simp -implicitDefEqProofs only [rnd, l92_0, VMs, vop, VOp.still, VOp.app, VOp.plain, allP, lof, evs, start, asI, vbin, vcells, ntup, setAll, vfill, vress, vres, tup, Nat.reduceEqDiff, ↓reduceIte, Nat.reduceAdd, Nat.reduceMul, Nat.reduceLeDiff, reduceCtorEq, slen, hi64', w3, decide_false], by simp, i, o, a, ps, H2, Or.inl rfl, f2, s.hr, s.ho, stop (recN_far (by omega))⟩
    · rintro ts H2 ⟨i, o, a, ps, rfl, f2, s, hki⟩
      have := s.hi
      omega
    · exact ⟨0, [], some ⟨H.length, 0, none⟩, [], rfl, f1, ⟨r0, rfl, by omega, by simp, rfl⟩, by omega⟩
  obtain ⟨r, hl, i, o, a, ps, H', hr, f2, rq, ho, hsc⟩ := hloop
  rw [← hsc]
  subst hH1
  cases a with
  | some A =>
    refine ⟨some A, ps, H', ?_, f2, rq, ho⟩
    rw [call_eq find92 _ _ _ rfl]
    rcases hr with rfl | rfl <;> simp -implicitDefEqProofs only [v92, VMs, noRef, noRef1, isRef, List.all_cons, List.all_nil, vop, VOp.still, VOp.app, VOp.plain, allP, lof, evs, start, asI, vbin, vcells, ntup, setAll, vfill, vress, vres, tup, Nat.reduceEqDiff, ↓reduceIte, Nat.reduceAdd, Nat.reduceMul, Nat.reduceLeDiff, reduceCtorEq, beq_self_eq_true, vlp, hl]
  | none =>
    have hp0 : ps = [] := by
      rcases rq.hd with ⟨_, e, _⟩ | ⟨_, _, e, _⟩
      · exact List.length_eq_zero_iff.1 e
      · cases e
    subst hp0
    refine ⟨none, [], H, ?_, Fr.refl, RQ.nil _ _, ho⟩
    rw [call_eq find92 _ _ _ rfl]
    rcases hr with rfl | rfl <;> simp -implicitDefEqProofs only [v92, VMs, noRef, noRef1, isRef, List.all_cons, List.all_nil, vop, VOp.still, VOp.app, VOp.plain, allP, lof, evs, start, asI, vbin, vcells, ntup, setAll, vfill, vress, vres, tup, Nat.reduceEqDiff, ↓reduceIte, Nat.reduceAdd, Nat.reduceMul, Nat.reduceLeDiff, reduceCtorEq, beq_self_eq_true, vlp, hl]
end Go.Proofs.Ytaahjfjpbilfnaa.V
