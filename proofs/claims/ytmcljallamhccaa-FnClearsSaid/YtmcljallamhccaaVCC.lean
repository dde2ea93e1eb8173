/- What is wrong with a forest? The program's answer. -/
import Derived.Test.YtmcljallamhccaaVCB
namespace Go.Proofs.Ytmcljallamhccaa.V
open Go
set_option linter.unusedVariables false
set_option linter.unusedSimpArgs false
set_option maxRecDepth 100000
theorem PF.rdN {H : Hp} {q o an nn ab nb F} (h : PF H q o an nn ab nb F) : V.rdN H ⟨q, o, none⟩ 2 = some [.slice an nn (sg an 3), .slice ab nb (sg ab 2)] := rdN2 h.n h.b
theorem ffault1_c (d lo : Nat) (H : Hp) {q an nn ab nb F} (h : PF H q 0 an nn ab nb F) (hs : SF F) {p : Nat} {r : Int} {x : Nd} {a : Option Addr} {n : Nat} (hx : V.rdN H ⟨p, 0, none⟩ 3 = some [.int .i64 x.r, .bool x.f, .slice a n (sg a 1)]) (k : Int) :
    vcall env (d + 3) 108 [.int .i64 k, .pointer (some ⟨q, 0, none⟩), .pointer (some ⟨p, 0, none⟩)] lo H = some (.bool (!kidB F x.f k), H) := by
  have hc := isKid_c d H.length H h.f hs a n x k
  simp only [NV] at hc
  have hr := h.rdN
  rw [call_eq find108 _ _ _ rfl]
  simp -implicitDefEqProofs only [v108, VMs, noRef, noRef1, isRef, List.all_cons, List.all_nil, vop, VOp.still, VOp.app, VOp.plain, allP, lof, evs, start, asI, vbin, vcells, ntup, setAll, vfill, vress, vres, tup, Nat.reduceEqDiff, ↓reduceIte, Nat.reduceAdd, Nat.reduceMul, Nat.reduceLeDiff, reduceCtorEq, hr, hx, hc]
theorem any_kid {F : Fo} {leaf : Bool} {l : List Int} (h : l.all (kidB F leaf) = true) : l.any (fun k => decide (0 ≤ k)) = l.any fun k => k != -1 := by
  rw [List.all_eq_true] at h
  apply Bool.eq_iff_iff.2
  rw [List.any_eq_true, List.any_eq_true]
  constructor
  · rintro ⟨k, hk, h1⟩
    have : 0 ≤ k := by simpa using h1
    exact ⟨k, hk, by simp; omega⟩
  · rintro ⟨k, hk, h1⟩
    refine ⟨k, hk, ?_⟩
    have h2 := h k hk
    have h3 : k ≠ -1 := by simpa using h1
    by_cases h0 : 0 ≤ k
    · simp [h0]
    · simp only [kidB, decide_eq_false h3, decide_eq_false h0, Bool.false_or, Bool.false_and, Bool.false_eq_true] at h2
theorem any_not (l : List Int) (f : Int → Bool) : l.any (fun k => !f k) = !l.all f := by
  induction l with
  | nil => rfl
  | cons x r ih => simp only [List.any_cons, List.all_cons, ih, Bool.not_and]
/-- A round of the program's walk over the nodes. -/
theorem forestFault0_c (d LO : Nat) (H : Hp) {q an nn ab nb F} (h : PF H q 0 an nn ab nb F) (hs : SF F) (hlo : LO ≤ H.length) (i : Nat) (hi : i < F.n.length) :
    ∃ H'', rnd (vcall env (d + 5)) LO [1, 21, 22, 23] [1, 2] l54_0 [(1, .pointer (some ⟨q, 0, none⟩)), (21, .slice an nn (sg an 3)), (22, .int .i64 (nn : Nat)), (23, .int .i64 (i : Nat))] H = some (if nodeF F F.n[i] = 0 then (.normal, [(1, .pointer (some ⟨q, 0, none⟩)), (21, .slice an nn (sg an 3)), (22, .int .i64 (nn : Nat)), (23, .int .i64 ((i + 1 : Nat) : Int))], H'') else (.ret, [(1, .pointer (some ⟨q, 0, none⟩)), (2, .int .i64 (nodeF F F.n[i]))], H'')) ∧ Fn H H'' := by
  have n1 := h.f.n.1
  have hin : i < nn := by omega
  have hsn : Sm nn := n1 ▸ hs.n
  have hk := hs.k _ (List.getElem_mem hi)
  obtain ⟨p, po, rfl, e1, e2, a, n, e3, e4⟩ := h.f.n.at hi
  have he := rdN3 e1 e2 e3
  have hle : (LO ≤ H.length) = True := eq_true hlo
  generalize F.n[i] = x at *
  refine ⟨H ++ [some ⟨[.int .i64 x.r, .bool x.f, .slice a n (sg a 1)], true, false⟩], ?_, Fr.app⟩
  have hpf := h.fn (Fr.app (l := [some ⟨[.int .i64 x.r, .bool x.f, .slice a n (sg a 1)], true, false⟩]))
  have e4' := e4.fnI (Fr.app (l := [some ⟨[.int .i64 x.r, .bool x.f, .slice a n (sg a 1)], true, false⟩]))
  have hcell : V.rdN (H ++ [some ⟨[.int .i64 x.r, .bool x.f, .slice a n (sg a 1)], true, false⟩]) ⟨H.length, 0, none⟩ 3 = some [.int .i64 x.r, .bool x.f, .slice a n (sg a 1)] := by simp [rdN0]
  have hn := e4.1
  have hemp := isEmpty_c (d + 1) LO _ a n x.k e4' (hn ▸ hk)
  have hcon := containsI_c (d + 3) LO _ a n x.k e4' (hn ▸ hk) 108 #[.pointer (some ⟨q, 0, none⟩), .pointer (some ⟨H.length, 0, none⟩)] (fun k => !kidB F x.f k) (fun y _ lo => ffault1_c d lo _ hpf hs (r := 0) hcell y)
  rw [any_not] at hcon
  have hn0 : (n : Int) = (x.k.length : Int) := by rw [hn]
  unfold nodeF
  by_cases h1 : ¬ (0 ≤ x.r ∧ x.r ≤ 200)
  · simp -implicitDefEqProofs only [rnd, l54_0, VMs, noRef, noRef1, isRef, List.all_cons, List.all_nil, vop, VOp.still, VOp.app, VOp.plain, allP, lof, evs, start, asI, vbin, vcells, ntup, setAll, vfill, vress, vres, tup, Nat.reduceEqDiff, ↓reduceIte, Nat.reduceAdd, Nat.reduceMul, Nat.reduceLeDiff, reduceCtorEq, slen, ltc hin, ge0, hle, decide_true, decide_false, Int.toNat_natCast, he, areRefs_c, h1, Int.reduceEq]
  replace h1 := Decidable.not_not.1 h1
  by_cases h2 : x.r = 0
  · have h2' : (x.r == 0) = true := by simp [h2]
    cases hf : x.f with
    | true => simp -implicitDefEqProofs only [rnd, l54_0, VMs, noRef, noRef1, isRef, List.all_cons, List.all_nil, vop, VOp.still, VOp.app, VOp.plain, allP, lof, evs, start, asI, vbin, vcells, ntup, setAll, vfill, vress, vres, tup, Nat.reduceEqDiff, ↓reduceIte, Nat.reduceAdd, Nat.reduceMul, Nat.reduceLeDiff, reduceCtorEq, slen, ltc hin, ge0, hle, decide_true, decide_false, Int.toNat_natCast, he, areRefs_c, h1, h2, hf, beq_self_eq_true, Int.reduceEq, Int.reduceLE, true_or]
    | false =>
      by_cases h3 : 0 < x.k.length
      · have h3' : ((n : Int) > 0) = True := eq_true (by omega)
        simp -implicitDefEqProofs only [rnd, l54_0, VMs, noRef, noRef1, isRef, List.all_cons, List.all_nil, vop, VOp.still, VOp.app, VOp.plain, allP, lof, evs, start, asI, vbin, vcells, ntup, setAll, vfill, vress, vres, tup, Nat.reduceEqDiff, ↓reduceIte, Nat.reduceAdd, Nat.reduceMul, Nat.reduceLeDiff, reduceCtorEq, slen, ltc hin, ge0, hle, decide_true, decide_false, Int.toNat_natCast, he, areRefs_c, h1, h2, hf, h3, h3', beq_self_eq_true, Int.reduceEq, Int.reduceLE, false_or]
      · have h3' : ((n : Int) > 0) = False := eq_false (by omega)
        simp -implicitDefEqProofs only [rnd, l54_0, VMs, noRef, noRef1, isRef, List.all_cons, List.all_nil, vop, VOp.still, VOp.app, VOp.plain, allP, lof, evs, start, asI, vbin, vcells, ntup, setAll, vfill, vress, vres, tup, Nat.reduceEqDiff, ↓reduceIte, Nat.reduceAdd, Nat.reduceMul, Nat.reduceLeDiff, reduceCtorEq, slen, ltc hin, ge0, hle, decide_true, decide_false, Int.toNat_natCast, he, areRefs_c, h1, h2, hf, h3, h3', beq_self_eq_true, Int.reduceEq, Int.reduceLE, false_or, hsn.w hin]
  have h2' : (x.r == 0) = false := by simp [h2]
  by_cases h4 : ¬ x.k.length = 4
  · have h4' : ((n : Int) != 4) = true := by simp; omega
    simp -implicitDefEqProofs only [rnd, l54_0, VMs, noRef, noRef1, isRef, List.all_cons, List.all_nil, vop, VOp.still, VOp.app, VOp.plain, allP, lof, evs, start, asI, vbin, vcells, ntup, setAll, vfill, vress, vres, tup, Nat.reduceEqDiff, ↓reduceIte, Nat.reduceAdd, Nat.reduceMul, Nat.reduceLeDiff, reduceCtorEq, slen, ltc hin, ge0, hle, decide_true, decide_false, Int.toNat_natCast, he, areRefs_c, h1, h2, h2', h4, h4', Int.reduceEq]
  replace h4 := Decidable.not_not.1 h4
  have h4' : ((n : Int) != 4) = false := by simp; omega
  cases hem : x.k.any fun k => k != -1 with
  | false =>
    have hno : ¬ (x.k.all (kidB F x.f) = true ∧ (x.k.any fun k => decide (0 ≤ k)) = true) := fun ⟨u, v⟩ => by rw [any_kid u, hem] at v; cases v
    rw [hem] at hemp
    simp -implicitDefEqProofs only [rnd, l54_0, VMs, noRef, noRef1, isRef, List.all_cons, List.all_nil, vop, VOp.still, VOp.app, VOp.plain, allP, lof, evs, start, asI, vbin, vcells, ntup, setAll, vfill, vress, vres, tup, Nat.reduceEqDiff, ↓reduceIte, Nat.reduceAdd, Nat.reduceMul, Nat.reduceLeDiff, reduceCtorEq, slen, ltc hin, ge0, hle, decide_true, decide_false, Int.toNat_natCast, he, areRefs_c, h1, h2, h2', h4, h4', hemp, hno, Int.reduceEq]
  | true =>
    rw [hem] at hemp
    cases hall : x.k.all (kidB F x.f) with
    | false =>
      rw [hall] at hcon
      simp -implicitDefEqProofs only [rnd, l54_0, VMs, noRef, noRef1, isRef, List.all_cons, List.all_nil, vop, VOp.still, VOp.app, VOp.plain, allP, lof, evs, start, asI, vbin, vcells, ntup, setAll, vfill, vress, vres, tup, Nat.reduceEqDiff, ↓reduceIte, Nat.reduceAdd, Nat.reduceMul, Nat.reduceLeDiff, reduceCtorEq, slen, ltc hin, ge0, hle, decide_true, decide_false, Int.toNat_natCast, he, areRefs_c, h1, h2, h2', h4, h4', hemp, hcon, isPtr, Int.reduceEq, false_and]
    | true =>
      have hany := (any_kid hall).trans hem
      rw [hall] at hcon
      simp -implicitDefEqProofs only [rnd, l54_0, VMs, noRef, noRef1, isRef, List.all_cons, List.all_nil, vop, VOp.still, VOp.app, VOp.plain, allP, lof, evs, start, asI, vbin, vcells, ntup, setAll, vfill, vress, vres, tup, Nat.reduceEqDiff, ↓reduceIte, Nat.reduceAdd, Nat.reduceMul, Nat.reduceLeDiff, reduceCtorEq, slen, ltc hin, ge0, hle, decide_true, decide_false, Int.toNat_natCast, he, areRefs_c, h1, h2, h2', h4, h4', hemp, hcon, isPtr, hany, hsn.w hin]

theorem implForestFault_c (d lo : Nat) (H : Hp) {an nn ab nb F} (h : RF H an nn ab nb F) (hs : SF F) :
    vcall env (d + 6) 54 [.agg #[.slice an nn (sg an 3), .slice ab nb (sg ab 2)]] lo H = some (.int .i64 (fF F), H) := by
  have n1 := h.n.1
  have n2 := h.b.1
  have hsn : Sm nn := n1 ▸ hs.n
  have hsb : Sm nb := n2 ▸ hs.b
  obtain ⟨HB, hHB⟩ : ∃ HB, HB = H ++ [some ⟨[.slice an nn (sg an 3), .slice ab nb (sg ab 2)], true, false⟩] := ⟨_, rfl⟩
  have hp : PF HB H.length 0 an nn ab nb F := by rw [hHB]; exact ⟨by simp [rd0], by simp [rd0], h.app⟩
  have hf0 : Fn H HB := by rw [hHB]; exact Fr.app
  have hB := implBlocksFault_c (d + 2) H.length HB ab nb F.b hp.f.b
  rw [call_eq find54 _ _ _ rfl]
  unfold fF
  by_cases hz : fB F.b = 0
  · by_cases h60 : 60 < F.n.length
    · have h60' : ((nn : Int) > 60) = True := eq_true (by omega)
      subst hHB
      simp -implicitDefEqProofs only [v54, VMs, noRef, noRef1, isRef, List.all_cons, List.all_nil, vop, VOp.still, VOp.app, VOp.plain, allP, lof, evs, start, asI, vbin, vcells, ntup, setAll, vfill, vress, vres, tup, Nat.reduceEqDiff, ↓reduceIte, Nat.reduceAdd, Nat.reduceMul, Nat.reduceLeDiff, reduceCtorEq, hB, hz, slen, bne_self_eq_false, h60, h60', decide_true]
    · have h60' : ((nn : Int) > 60) = False := eq_false (by omega)
      obtain ⟨H2, l0, f2⟩ := lim_first (f := rnd (vcall env (d + 5)) H.length [1, 21, 22, 23] [1, 2] l54_0) (H := HB) (R := fun H' => (.exit 0, [(1, .pointer (some ⟨H.length, 0, none⟩))], H')) (E := fun x H' => (.ret, [(1, .pointer (some ⟨H.length, 0, none⟩)), (2, .int .i64 x)], H')) (by simp) (by simp) (fun i => [(1, .pointer (some ⟨H.length, 0, none⟩)), (21, .slice an nn (sg an 3)), (22, .int .i64 (nn : Nat)), (23, .int .i64 (i : Nat))]) (F.n.map (nodeF F))
        (fun i x H' hx hf h0 => by
          obtain ⟨hi, rfl⟩ := map_at hx
          obtain ⟨H'', hr, hf'⟩ := forestFault0_c d H.length H' (hp.fn hf) hs (hf0.trans hf).len i hi
          exact ⟨H'', hr, hf.trans hf'⟩)
        (fun H' hf h0 => by
          rw [List.length_map, ← n1]
          simp -implicitDefEqProofs only [rnd, l54_0, VMs, noRef, noRef1, isRef, List.all_cons, List.all_nil, vop, VOp.still, VOp.app, VOp.plain, allP, lof, evs, start, asI, vbin, vcells, ntup, setAll, vfill, vress, vres, tup, Nat.reduceEqDiff, ↓reduceIte, Nat.reduceAdd, Nat.reduceMul, Nat.reduceLeDiff, reduceCtorEq, slen, Int.lt_irrefl, decide_false]) Fr.refl
      simp only [Int.natCast_zero] at l0
      by_cases hz0 : ff (F.n.map (nodeF F)) = 0
      · rw [if_pos hz0] at l0
        have hall := ff_zero hz0
        have h4 := four_of (by omega) hall
        have hkid : ∀ leaf, ∀ x ∈ F.n, x.r ≠ 0 → x.f = leaf → ∀ k ∈ x.k, k < ((if leaf = true then F.b.length else F.n.length : Nat) : Int) := fun leaf x hx hr hl k hk => by
          have := (nodeF_four (hall _ (List.mem_map_of_mem hx)) hr).2
          rw [List.all_eq_true] at this
          rw [← hl]; exact kidB_lt (this k hk)
        have hb24 : F.b.length ≤ 24 := by
          have := hz; unfold fB at this
          by_cases h24 : 24 < F.b.length
          · rw [if_pos h24] at this; omega
          · omega
        have p2 := hp.fn f2
        obtain ⟨ob, H3, cn1, f3, o3, r3⟩ := named_c (d + 4) H.length H2 p2.f h4 true nb (by omega) (by have := hkid true; simp only [if_true] at this; rw [n2]; exact this)
        have p3 := p2.fn f3
        have g2 := p2.rdN
        have g2b := p2.b
        have g3n := p3.n
        have g3b := p3.b
        have g3 := p3.rdN
        have l1 : lim (rnd (vcall env (d + 5)) H.length [1, 71, 72, 73] [1, 2] l54_1) [(1, .pointer (some ⟨H.length, 0, none⟩)), (71, .slice (some ⟨ob, 0, none⟩) nb 1), (72, .int .i64 (nb : Nat)), (73, .int .i64 0)] H3 = some (if ff (c1 F) = 0 then (.exit 3, [(1, .pointer (some ⟨H.length, 0, none⟩))], H3) else (.ret, [(1, .pointer (some ⟨H.length, 0, none⟩)), (2, .int .i64 (ff (c1 F)))], H3)) := by
          have := lim_firstC (f := rnd (vcall env (d + 5)) H.length [1, 71, 72, 73] [1, 2] l54_1) (H := H3) (R := (.exit 3, [(1, .pointer (some ⟨H.length, 0, none⟩))], H3)) (E := fun x => (.ret, [(1, .pointer (some ⟨H.length, 0, none⟩)), (2, .int .i64 x)], H3)) (by simp) (by simp) (fun i => [(1, .pointer (some ⟨H.length, 0, none⟩)), (71, .slice (some ⟨ob, 0, none⟩) nb 1), (72, .int .i64 (nb : Nat)), (73, .int .i64 (i : Nat))]) (c1 F)
            (fun i x hx h0 => by
              obtain ⟨hi, rfl⟩ := c1_at hx
              have hin : i < nb := by omega
              have hri := r3 i hin
              obtain ⟨p, po, rfl, e1, e2⟩ := p3.f.b.at hi
              simp only [sgs] at g3b
              by_cases hx0 : F.b[i].r = nmS F.n true (i : Int)
              · simp -implicitDefEqProofs only [rnd, l54_1, VMs, noRef, noRef1, isRef, List.all_cons, List.all_nil, vop, VOp.still, VOp.app, VOp.plain, allP, lof, evs, start, asI, vbin, vcells, ntup, setAll, vfill, vress, vres, tup, Nat.reduceEqDiff, ↓reduceIte, Nat.reduceAdd, Nat.reduceMul, Nat.reduceLeDiff, reduceCtorEq, g3b, slen, ltc hin, ge0, decide_true, Int.toNat_natCast, Nat.mul_one, hri, e1, hx0, bne_self_eq_false, hsb.w hin]
              · have hx0' : (F.b[i].r != nmS F.n true (i : Int)) = true := by simp [hx0]
                simp -implicitDefEqProofs only [rnd, l54_1, VMs, noRef, noRef1, isRef, List.all_cons, List.all_nil, vop, VOp.still, VOp.app, VOp.plain, allP, lof, evs, start, asI, vbin, vcells, ntup, setAll, vfill, vress, vres, tup, Nat.reduceEqDiff, ↓reduceIte, Nat.reduceAdd, Nat.reduceMul, Nat.reduceLeDiff, reduceCtorEq, g3b, slen, ltc hin, ge0, decide_true, Int.toNat_natCast, Nat.mul_one, hri, e1, hx0, hx0', Int.reduceEq])
            (fun h0 => by
              rw [c1_len, ← n2]
              simp -implicitDefEqProofs only [rnd, l54_1, VMs, noRef, noRef1, isRef, List.all_cons, List.all_nil, vop, VOp.still, VOp.app, VOp.plain, allP, lof, evs, start, asI, vbin, vcells, ntup, setAll, vfill, vress, vres, tup, Nat.reduceEqDiff, ↓reduceIte, Nat.reduceAdd, Nat.reduceMul, Nat.reduceLeDiff, reduceCtorEq, slen, Int.lt_irrefl, decide_false])
          exact this
        by_cases hz1 : ff (c1 F) = 0
        · rw [if_pos hz1] at l1
          obtain ⟨oc, H4, cn2, f4, o4, r4⟩ := named_c (d + 4) H.length H3 p3.f h4 false nn (by omega) (by have := hkid false; simp only [Bool.false_eq_true, if_false] at this; rw [n1]; exact this)
          have p4 := p3.fn f4
          have g4n := p4.n
          have l2 : lim (rnd (vcall env (d + 5)) H.length [1, 91, 92, 93] [2] l54_2) [(1, .pointer (some ⟨H.length, 0, none⟩)), (91, .slice (some ⟨oc, 0, none⟩) nn 1), (92, .int .i64 (nn : Nat)), (93, .int .i64 0)] H4 = some (if ff (c2 F) = 0 then (.exit 5, [], H4) else (.ret, [(2, .int .i64 (ff (c2 F)))], H4)) := by
            have := lim_firstC (f := rnd (vcall env (d + 5)) H.length [1, 91, 92, 93] [2] l54_2) (H := H4) (R := (.exit 5, [], H4)) (E := fun x => (.ret, [(2, .int .i64 x)], H4)) (by simp) (by simp) (fun i => [(1, .pointer (some ⟨H.length, 0, none⟩)), (91, .slice (some ⟨oc, 0, none⟩) nn 1), (92, .int .i64 (nn : Nat)), (93, .int .i64 (i : Nat))]) (c2 F)
              (fun i x hx h0 => by
                obtain ⟨hi, rfl⟩ := c2_at hx
                have hin : i < nn := by omega
                have hri := r4 i hin
                obtain ⟨p, po, rfl, e1, e2, a3, n3, e3, e4⟩ := p4.f.n.at hi
                simp only [sgs] at g4n
                cases hf : F.n[i].f with
                | false =>
                  rw [hf] at e2
                  simp -implicitDefEqProofs only [rnd, l54_2, VMs, noRef, noRef1, isRef, List.all_cons, List.all_nil, vop, VOp.still, VOp.app, VOp.plain, allP, lof, evs, start, asI, vbin, vcells, ntup, setAll, vfill, vress, vres, tup, Nat.reduceEqDiff, ↓reduceIte, Nat.reduceAdd, Nat.reduceMul, Nat.reduceLeDiff, reduceCtorEq, g4n, slen, ltc hin, ge0, decide_true, Int.toNat_natCast, Nat.mul_one, hri, e1, e2, hsn.w hin, false_and]
                | true =>
                  rw [hf] at e2
                  by_cases hx0 : F.n[i].r < nmS F.n false (i : Int)
                  · simp -implicitDefEqProofs only [rnd, l54_2, VMs, noRef, noRef1, isRef, List.all_cons, List.all_nil, vop, VOp.still, VOp.app, VOp.plain, allP, lof, evs, start, asI, vbin, vcells, ntup, setAll, vfill, vress, vres, tup, Nat.reduceEqDiff, ↓reduceIte, Nat.reduceAdd, Nat.reduceMul, Nat.reduceLeDiff, reduceCtorEq, g4n, slen, ltc hin, ge0, decide_true, Int.toNat_natCast, Nat.mul_one, hri, e1, e2, hx0, Int.reduceEq]
                  · simp -implicitDefEqProofs only [rnd, l54_2, VMs, noRef, noRef1, isRef, List.all_cons, List.all_nil, vop, VOp.still, VOp.app, VOp.plain, allP, lof, evs, start, asI, vbin, vcells, ntup, setAll, vfill, vress, vres, tup, Nat.reduceEqDiff, ↓reduceIte, Nat.reduceAdd, Nat.reduceMul, Nat.reduceLeDiff, reduceCtorEq, g4n, slen, ltc hin, ge0, decide_true, decide_false, Int.toNat_natCast, Nat.mul_one, hri, e1, e2, hx0, hsn.w hin])
              (fun h0 => by
                rw [c2_len, ← n1]
                simp -implicitDefEqProofs only [rnd, l54_2, VMs, noRef, noRef1, isRef, List.all_cons, List.all_nil, vop, VOp.still, VOp.app, VOp.plain, allP, lof, evs, start, asI, vbin, vcells, ntup, setAll, vfill, vress, vres, tup, Nat.reduceEqDiff, ↓reduceIte, Nat.reduceAdd, Nat.reduceMul, Nat.reduceLeDiff, reduceCtorEq, slen, Int.lt_irrefl, decide_false])
            exact this
          subst hHB
          by_cases hz2 : ff (c2 F) = 0
          · rw [if_pos hz2] at l2
            simp -implicitDefEqProofs only [v54, VMs, noRef, noRef1, isRef, List.all_cons, List.all_nil, vop, VOp.still, VOp.app, VOp.plain, allP, lof, evs, start, asI, vbin, vcells, ntup, setAll, vfill, vress, vres, tup, Nat.reduceEqDiff, ↓reduceIte, Nat.reduceAdd, Nat.reduceMul, Nat.reduceLeDiff, reduceCtorEq, hB, hz, slen, bne_self_eq_false, h60, h60', decide_false, vlp, l0, g2, g2b, cn1, l1, g3, g3n, cn2, l2, hz0, hz1, hz2]
          · rw [if_neg hz2] at l2
            simp -implicitDefEqProofs only [v54, VMs, noRef, noRef1, isRef, List.all_cons, List.all_nil, vop, VOp.still, VOp.app, VOp.plain, allP, lof, evs, start, asI, vbin, vcells, ntup, setAll, vfill, vress, vres, tup, Nat.reduceEqDiff, ↓reduceIte, Nat.reduceAdd, Nat.reduceMul, Nat.reduceLeDiff, reduceCtorEq, hB, hz, slen, bne_self_eq_false, h60, h60', decide_false, vlp, l0, g2, g2b, cn1, l1, g3, g3n, cn2, l2, hz0, hz1, hz2]
        · rw [if_neg hz1] at l1
          subst hHB
          simp -implicitDefEqProofs only [v54, VMs, noRef, noRef1, isRef, List.all_cons, List.all_nil, vop, VOp.still, VOp.app, VOp.plain, allP, lof, evs, start, asI, vbin, vcells, ntup, setAll, vfill, vress, vres, tup, Nat.reduceEqDiff, ↓reduceIte, Nat.reduceAdd, Nat.reduceMul, Nat.reduceLeDiff, reduceCtorEq, hB, hz, slen, bne_self_eq_false, h60, h60', decide_false, vlp, l0, g2, g2b, cn1, l1, hz0, hz1]
      · rw [if_neg hz0] at l0
        subst hHB
        simp -implicitDefEqProofs only [v54, VMs, noRef, noRef1, isRef, List.all_cons, List.all_nil, vop, VOp.still, VOp.app, VOp.plain, allP, lof, evs, start, asI, vbin, vcells, ntup, setAll, vfill, vress, vres, tup, Nat.reduceEqDiff, ↓reduceIte, Nat.reduceAdd, Nat.reduceMul, Nat.reduceLeDiff, reduceCtorEq, hB, hz, slen, bne_self_eq_false, h60, h60', decide_false, vlp, l0, hz0]
  · have hz' : (fB F.b != 0) = true := by simp [hz]
    subst hHB
    simp -implicitDefEqProofs only [v54, VMs, noRef, noRef1, isRef, List.all_cons, List.all_nil, vop, VOp.still, VOp.app, VOp.plain, allP, lof, evs, start, asI, vbin, vcells, ntup, setAll, vfill, vress, vres, tup, Nat.reduceEqDiff, ↓reduceIte, Nat.reduceAdd, Nat.reduceMul, Nat.reduceLeDiff, reduceCtorEq, hB, hz, hz']
end Go.Proofs.Ytmcljallamhccaa.V
