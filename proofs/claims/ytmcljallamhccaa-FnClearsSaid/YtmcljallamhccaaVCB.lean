/- What is wrong with a forest? The reference's and the program's answer. -/
import Derived.Test.YtmcljallamhccaaVCA
namespace Go.Proofs.Ytmcljallamhccaa.V
open Go
set_option linter.unusedVariables false
set_option linter.unusedSimpArgs false
set_option maxRecDepth 100000
def c1 (F : Fo) : List Int := (List.range F.b.length).map fun i => match F.b[i]? with | some b => if b.r = nmS F.n true (i : Int) then 0 else 1 | none => 0
def c2 (F : Fo) : List Int := (List.range F.n.length).map fun i => match F.n[i]? with | some x => if x.f = true ∧ x.r < nmS F.n false (i : Int) then 1 else 0 | none => 0
def fF (F : Fo) : Int := if fB F.b = 0 then (if 60 < F.n.length then 2 else if ff (F.n.map (nodeF F)) = 0 then (if ff (c1 F) = 0 then ff (c2 F) else ff (c1 F)) else ff (F.n.map (nodeF F))) else fB F.b
theorem c1_len (F : Fo) : (c1 F).length = F.b.length := by simp [c1]
theorem c2_len (F : Fo) : (c2 F).length = F.n.length := by simp [c2]
theorem c1_at {F : Fo} {i : Nat} {x : Int} (h : (c1 F)[i]? = some x) : ∃ hi : i < F.b.length, x = if F.b[i].r = nmS F.n true (i : Int) then 0 else 1 := by
  have hi : i < F.b.length := by have := (List.getElem?_eq_some_iff.1 h).1; rw [c1_len] at this; exact this
  refine ⟨hi, ?_⟩
  simp only [c1, List.getElem?_map, List.getElem?_range hi, Option.map_some, getE hi, Option.some.injEq] at h
  exact h.symm
theorem c2_at {F : Fo} {i : Nat} {x : Int} (h : (c2 F)[i]? = some x) : ∃ hi : i < F.n.length, x = if F.n[i].f = true ∧ F.n[i].r < nmS F.n false (i : Int) then 1 else 0 := by
  have hi : i < F.n.length := by have := (List.getElem?_eq_some_iff.1 h).1; rw [c2_len] at this; exact this
  refine ⟨hi, ?_⟩
  simp only [c2, List.getElem?_map, List.getElem?_range hi, Option.map_some, getE hi, Option.some.injEq] at h
  exact h.symm
theorem nodeF_four {F : Fo} {x : Nd} (h : nodeF F x = 0) (hr : x.r ≠ 0) : x.k.length = 4 ∧ x.k.all (kidB F x.f) = true := by
  unfold nodeF at h
  by_cases h1 : 0 ≤ x.r ∧ x.r ≤ 200
  · rw [if_pos h1, if_neg hr] at h
    by_cases h2 : x.k.length = 4
    · rw [if_pos h2] at h
      by_cases h3 : x.k.all (kidB F x.f) = true ∧ x.k.any (fun k => decide (0 ≤ k)) = true
      · exact ⟨h2, h3.1⟩
      · rw [if_neg h3] at h; omega
    · rw [if_neg h2] at h; omega
  · rw [if_neg h1] at h; omega
theorem four_of {F : Fo} (hn : F.n.length ≤ 60) (h : ∀ y ∈ F.n.map (nodeF F), y = 0) : Four F := ⟨hn, fun x hx hr => (nodeF_four (h _ (List.mem_map_of_mem hx)) hr).1⟩
theorem kidB_lt {F : Fo} {leaf : Bool} {k : Int} (h : kidB F leaf k = true) : k < (if leaf = true then F.b.length else F.n.length : Nat) := by
  by_cases h0 : k = -1
  · subst h0; split <;> omega
  · cases leaf with
    | true =>
      by_cases hk : 0 ≤ k ∧ k ≤ (F.b.length : Int) - 1
      · simp only [if_true]; omega
      · rw [kidB_bo h0 hk] at h; cases h
    | false =>
      by_cases hk : 0 ≤ k ∧ k ≤ (F.n.length : Int) - 1
      · simp only [Bool.false_eq_true, if_false]; omega
      · rw [kidB_no h0 hk] at h; cases h
theorem l4Fault_c (d lo : Nat) (H : Hp) {q o an nn ab nb F} (h : PF H q o an nn ab nb F) (hs : SF F) :
    vcall env (d + 4) 104 [.pointer (some ⟨q, o, none⟩)] lo H = some (.int .i64 (fF F), H) := by
  have n1 := h.f.n.1
  have n2 := h.f.b.1
  have hn := h.n
  have hb := h.b
  have hsn : Sm nn := n1 ▸ hs.n
  have hsb : Sm nb := n2 ▸ hs.b
  have hB := specBlocksFault_c d H.length H ab nb F.b h.f.b
  rw [call_eq find104 _ _ _ rfl]
  unfold fF
  by_cases hz : fB F.b = 0
  · by_cases h60 : 60 < F.n.length
    · have h60' : ((nn : Int) > 60) = True := eq_true (by omega)
      simp -implicitDefEqProofs only [v104, VMs, noRef, noRef1, isRef, List.all_cons, List.all_nil, vop, VOp.still, VOp.app, VOp.plain, allP, lof, evs, start, asI, vbin, vcells, ntup, setAll, vfill, vress, vres, tup, Nat.reduceEqDiff, ↓reduceIte, Nat.reduceAdd, Nat.reduceMul, Nat.reduceLeDiff, reduceCtorEq, hn, hb, hB, hz, slen, bne_self_eq_false, h60, h60', decide_true]
    · have h60' : ((nn : Int) > 60) = False := eq_false (by omega)
      have l0 : lim (rnd (vcall env (d + 3)) H.length [0, 4] [0, 2] l104_0) [(0, .pointer (some ⟨q, o, none⟩)), (4, .int .i64 0)] H = some (if ff (F.n.map (nodeF F)) = 0 then (.exit 0, [(0, .pointer (some ⟨q, o, none⟩))], H) else (.ret, [(0, .pointer (some ⟨q, o, none⟩)), (2, .int .i64 (ff (F.n.map (nodeF F))))], H)) := by
        have := lim_firstC (f := rnd (vcall env (d + 3)) H.length [0, 4] [0, 2] l104_0) (H := H) (R := (.exit 0, [(0, .pointer (some ⟨q, o, none⟩))], H)) (E := fun x => (.ret, [(0, .pointer (some ⟨q, o, none⟩)), (2, .int .i64 x)], H)) (by simp) (by simp) (fun i => [(0, .pointer (some ⟨q, o, none⟩)), (4, .int .i64 (i : Nat))]) (F.n.map (nodeF F))
          (fun i x hx h0 => by
            obtain ⟨hi, rfl⟩ := map_at hx
            have hin : i < nn := by omega
            obtain ⟨p, po, rfl, e⟩ := h.f.n.at hi
            have hc := l4Node_c d H.length H h hs e (hs.k _ (List.getElem_mem hi))
            by_cases hx0 : nodeF F F.n[i] = 0
            · simp -implicitDefEqProofs only [rnd, l104_0, VMs, noRef, noRef1, isRef, List.all_cons, List.all_nil, vop, VOp.still, VOp.app, VOp.plain, allP, lof, evs, start, asI, vbin, vcells, ntup, setAll, vfill, vress, vres, tup, Nat.reduceEqDiff, ↓reduceIte, Nat.reduceAdd, Nat.reduceMul, Nat.reduceLeDiff, reduceCtorEq, hn, slen, ltc hin, ge0, decide_true, Int.toNat_natCast, hc, hx0, bne_self_eq_false, hsn.w hin]
            · have hx0' : (nodeF F F.n[i] != 0) = true := by simp [hx0]
              simp -implicitDefEqProofs only [rnd, l104_0, VMs, noRef, noRef1, isRef, List.all_cons, List.all_nil, vop, VOp.still, VOp.app, VOp.plain, allP, lof, evs, start, asI, vbin, vcells, ntup, setAll, vfill, vress, vres, tup, Nat.reduceEqDiff, ↓reduceIte, Nat.reduceAdd, Nat.reduceMul, Nat.reduceLeDiff, reduceCtorEq, hn, slen, ltc hin, ge0, decide_true, Int.toNat_natCast, hc, hx0, hx0'])
          (fun h0 => by
            rw [List.length_map, ← n1]
            simp -implicitDefEqProofs only [rnd, l104_0, VMs, noRef, noRef1, isRef, List.all_cons, List.all_nil, vop, VOp.still, VOp.app, VOp.plain, allP, lof, evs, start, asI, vbin, vcells, ntup, setAll, vfill, vress, vres, tup, Nat.reduceEqDiff, ↓reduceIte, Nat.reduceAdd, Nat.reduceMul, Nat.reduceLeDiff, reduceCtorEq, hn, slen, Int.lt_irrefl, decide_false])
        exact this
      by_cases hz0 : ff (F.n.map (nodeF F)) = 0
      · rw [if_pos hz0] at l0
        have h4 := four_of (by omega) (ff_zero hz0)
        have hc := fun leaf at_ => l4Named_c (d + 2) H.length H h h4 leaf at_
        have l1 : lim (rnd (vcall env (d + 3)) H.length [0, 6] [0, 2] l104_1) [(0, .pointer (some ⟨q, o, none⟩)), (6, .int .i64 0)] H = some (if ff (c1 F) = 0 then (.exit 2, [(0, .pointer (some ⟨q, o, none⟩))], H) else (.ret, [(0, .pointer (some ⟨q, o, none⟩)), (2, .int .i64 (ff (c1 F)))], H)) := by
          have := lim_firstC (f := rnd (vcall env (d + 3)) H.length [0, 6] [0, 2] l104_1) (H := H) (R := (.exit 2, [(0, .pointer (some ⟨q, o, none⟩))], H)) (E := fun x => (.ret, [(0, .pointer (some ⟨q, o, none⟩)), (2, .int .i64 x)], H)) (by simp) (by simp) (fun i => [(0, .pointer (some ⟨q, o, none⟩)), (6, .int .i64 (i : Nat))]) (c1 F)
            (fun i x hx h0 => by
              obtain ⟨hi, rfl⟩ := c1_at hx
              have hin : i < nb := by omega
              obtain ⟨p, po, rfl, e1, e2⟩ := h.f.b.at hi
              by_cases hx0 : F.b[i].r = nmS F.n true (i : Int)
              · simp -implicitDefEqProofs only [rnd, l104_1, VMs, noRef, noRef1, isRef, List.all_cons, List.all_nil, vop, VOp.still, VOp.app, VOp.plain, allP, lof, evs, start, asI, vbin, vcells, ntup, setAll, vfill, vress, vres, tup, Nat.reduceEqDiff, ↓reduceIte, Nat.reduceAdd, Nat.reduceMul, Nat.reduceLeDiff, reduceCtorEq, hb, slen, ltc hin, ge0, decide_true, Int.toNat_natCast, e1, hc, hx0, bne_self_eq_false, hsb.w hin]
              · have hx0' : (F.b[i].r != nmS F.n true (i : Int)) = true := by simp [hx0]
                simp -implicitDefEqProofs only [rnd, l104_1, VMs, noRef, noRef1, isRef, List.all_cons, List.all_nil, vop, VOp.still, VOp.app, VOp.plain, allP, lof, evs, start, asI, vbin, vcells, ntup, setAll, vfill, vress, vres, tup, Nat.reduceEqDiff, ↓reduceIte, Nat.reduceAdd, Nat.reduceMul, Nat.reduceLeDiff, reduceCtorEq, hb, slen, ltc hin, ge0, decide_true, Int.toNat_natCast, e1, hc, hx0, hx0', Int.reduceEq])
            (fun h0 => by
              rw [c1_len, ← n2]
              simp -implicitDefEqProofs only [rnd, l104_1, VMs, noRef, noRef1, isRef, List.all_cons, List.all_nil, vop, VOp.still, VOp.app, VOp.plain, allP, lof, evs, start, asI, vbin, vcells, ntup, setAll, vfill, vress, vres, tup, Nat.reduceEqDiff, ↓reduceIte, Nat.reduceAdd, Nat.reduceMul, Nat.reduceLeDiff, reduceCtorEq, hb, slen, Int.lt_irrefl, decide_false])
          exact this
        by_cases hz1 : ff (c1 F) = 0
        · rw [if_pos hz1] at l1
          have l2 : lim (rnd (vcall env (d + 3)) H.length [0, 7] [2] l104_2) [(0, .pointer (some ⟨q, o, none⟩)), (7, .int .i64 0)] H = some (if ff (c2 F) = 0 then (.exit 4, [], H) else (.ret, [(2, .int .i64 (ff (c2 F)))], H)) := by
            have := lim_firstC (f := rnd (vcall env (d + 3)) H.length [0, 7] [2] l104_2) (H := H) (R := (.exit 4, [], H)) (E := fun x => (.ret, [(2, .int .i64 x)], H)) (by simp) (by simp) (fun i => [(0, .pointer (some ⟨q, o, none⟩)), (7, .int .i64 (i : Nat))]) (c2 F)
              (fun i x hx h0 => by
                obtain ⟨hi, rfl⟩ := c2_at hx
                have hin : i < nn := by omega
                obtain ⟨p, po, rfl, e1, e2, a3, n3, e3, e4⟩ := h.f.n.at hi
                cases hf : F.n[i].f with
                | false =>
                  rw [hf] at e2
                  simp -implicitDefEqProofs only [rnd, l104_2, VMs, noRef, noRef1, isRef, List.all_cons, List.all_nil, vop, VOp.still, VOp.app, VOp.plain, allP, lof, evs, start, asI, vbin, vcells, ntup, setAll, vfill, vress, vres, tup, Nat.reduceEqDiff, ↓reduceIte, Nat.reduceAdd, Nat.reduceMul, Nat.reduceLeDiff, reduceCtorEq, hn, slen, ltc hin, ge0, decide_true, Int.toNat_natCast, e1, e2, hc, hsn.w hin, false_and]
                | true =>
                  rw [hf] at e2
                  by_cases hx0 : F.n[i].r < nmS F.n false (i : Int)
                  · simp -implicitDefEqProofs only [rnd, l104_2, VMs, noRef, noRef1, isRef, List.all_cons, List.all_nil, vop, VOp.still, VOp.app, VOp.plain, allP, lof, evs, start, asI, vbin, vcells, ntup, setAll, vfill, vress, vres, tup, Nat.reduceEqDiff, ↓reduceIte, Nat.reduceAdd, Nat.reduceMul, Nat.reduceLeDiff, reduceCtorEq, hn, slen, ltc hin, ge0, decide_true, Int.toNat_natCast, e1, e2, hc, hx0, Int.reduceEq]
                  · simp -implicitDefEqProofs only [rnd, l104_2, VMs, noRef, noRef1, isRef, List.all_cons, List.all_nil, vop, VOp.still, VOp.app, VOp.plain, allP, lof, evs, start, asI, vbin, vcells, ntup, setAll, vfill, vress, vres, tup, Nat.reduceEqDiff, ↓reduceIte, Nat.reduceAdd, Nat.reduceMul, Nat.reduceLeDiff, reduceCtorEq, hn, slen, ltc hin, ge0, decide_true, decide_false, Int.toNat_natCast, e1, e2, hc, hx0, hsn.w hin])
              (fun h0 => by
                rw [c2_len, ← n1]
                simp -implicitDefEqProofs only [rnd, l104_2, VMs, noRef, noRef1, isRef, List.all_cons, List.all_nil, vop, VOp.still, VOp.app, VOp.plain, allP, lof, evs, start, asI, vbin, vcells, ntup, setAll, vfill, vress, vres, tup, Nat.reduceEqDiff, ↓reduceIte, Nat.reduceAdd, Nat.reduceMul, Nat.reduceLeDiff, reduceCtorEq, hn, slen, Int.lt_irrefl, decide_false])
            exact this
          by_cases hz2 : ff (c2 F) = 0
          · rw [if_pos hz2] at l2
            simp -implicitDefEqProofs only [v104, VMs, noRef, noRef1, isRef, List.all_cons, List.all_nil, vop, VOp.still, VOp.app, VOp.plain, allP, lof, evs, start, asI, vbin, vcells, ntup, setAll, vfill, vress, vres, tup, Nat.reduceEqDiff, ↓reduceIte, Nat.reduceAdd, Nat.reduceMul, Nat.reduceLeDiff, reduceCtorEq, hn, hb, hB, hz, slen, bne_self_eq_false, h60, h60', decide_false, vlp, l0, l1, l2, hz0, hz1, hz2]
          · rw [if_neg hz2] at l2
            simp -implicitDefEqProofs only [v104, VMs, noRef, noRef1, isRef, List.all_cons, List.all_nil, vop, VOp.still, VOp.app, VOp.plain, allP, lof, evs, start, asI, vbin, vcells, ntup, setAll, vfill, vress, vres, tup, Nat.reduceEqDiff, ↓reduceIte, Nat.reduceAdd, Nat.reduceMul, Nat.reduceLeDiff, reduceCtorEq, hn, hb, hB, hz, slen, bne_self_eq_false, h60, h60', decide_false, vlp, l0, l1, l2, hz0, hz1, hz2]
        · rw [if_neg hz1] at l1
          simp -implicitDefEqProofs only [v104, VMs, noRef, noRef1, isRef, List.all_cons, List.all_nil, vop, VOp.still, VOp.app, VOp.plain, allP, lof, evs, start, asI, vbin, vcells, ntup, setAll, vfill, vress, vres, tup, Nat.reduceEqDiff, ↓reduceIte, Nat.reduceAdd, Nat.reduceMul, Nat.reduceLeDiff, reduceCtorEq, hn, hb, hB, hz, slen, bne_self_eq_false, h60, h60', decide_false, vlp, l0, l1, hz0, hz1]
      · rw [if_neg hz0] at l0
        simp -implicitDefEqProofs only [v104, VMs, noRef, noRef1, isRef, List.all_cons, List.all_nil, vop, VOp.still, VOp.app, VOp.plain, allP, lof, evs, start, asI, vbin, vcells, ntup, setAll, vfill, vress, vres, tup, Nat.reduceEqDiff, ↓reduceIte, Nat.reduceAdd, Nat.reduceMul, Nat.reduceLeDiff, reduceCtorEq, hn, hb, hB, hz, slen, bne_self_eq_false, h60, h60', decide_false, vlp, l0, hz0]
  · have hz' : (fB F.b != 0) = true := by simp [hz]
    simp -implicitDefEqProofs only [v104, VMs, noRef, noRef1, isRef, List.all_cons, List.all_nil, vop, VOp.still, VOp.app, VOp.plain, allP, lof, evs, start, asI, vbin, vcells, ntup, setAll, vfill, vress, vres, tup, Nat.reduceEqDiff, ↓reduceIte, Nat.reduceAdd, Nat.reduceMul, Nat.reduceLeDiff, reduceCtorEq, hn, hb, hB, hz, hz']
end Go.Proofs.Ytmcljallamhccaa.V
