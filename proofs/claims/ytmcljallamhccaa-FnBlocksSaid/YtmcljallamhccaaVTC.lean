/- Lists of blocks: what is taken, shared, dropped; how many are free. -/
import Derived.Test.YtmcljallamhccaaVTB
namespace Go.Proofs.Ytmcljallamhccaa.V
open Go
set_option linter.unusedVariables false
set_option linter.unusedSimpArgs false
set_option maxRecDepth 100000
/-- A result with a list of blocks, in new memory. -/
def NewBl (H H' : Hp) (v : Value) (c at_ : Int) (l : List Bk) : Prop := ∃ a, v = .agg #[.int .i64 c, .int .i64 at_, .slice a l.length (sg a 2)] ∧ Fn H H' ∧ Hd H.length H' a l.length 2 (vB l)
theorem NewBl.nil (H : Hp) (c r : Int) : NewBl H H (.agg #[.int .i64 c, .int .i64 r, .slice none 0 0]) c r [] := ⟨none, rfl, Fr.refl, Or.inl ⟨rfl, rfl, rfl⟩⟩
theorem noRef3 {a b : Value} {an : Option Addr} {nn s : Nat} (ha : isRef a = false) (hb : isRef b = false) : noRef (.agg #[a, b, .slice an nn s]) = true → an = .none := by
  intro h
  cases an <;> simp_all [noRef, noRef1, isRef]
theorem NewBl.done {H H2 : Hp} {v : Value} {c u : Int} {R : List Bk} (h : NewBl H H2 v c u R) : NewBl H (if noRef v = true then H else H2) v c u R := by
  by_cases hn : noRef v = true
  · rw [if_pos hn]
    obtain ⟨a, rfl, f, g⟩ := h
    obtain rfl := noRef3 rfl rfl hn
    rcases g with ⟨_, e, e'⟩ | ⟨_, _, e, _⟩
    · have : R = [] := List.length_eq_zero_iff.1 e
      subst this
      exact ⟨none, rfl, Fr.refl, Or.inl ⟨rfl, rfl, rfl⟩⟩
    · cases e
  · rw [if_neg hn]; exact h
theorem Hd.ex {L : Nat} {H : Hp} {a : Option Addr} {n st : Nat} {vs : List Value} (h : Hd L H a n st vs) : Ex H a := fun A e => by
  rcases h with ⟨h1, _⟩ | ⟨i, k0, h1, h2, _⟩
  · rw [h1] at e; cases e
  · rw [h1] at e; cases e
    exact ⟨rfl, _, h2, by simp⟩
def resTake (l : List Bk) (data : Int) : Int × Int × List Bk :=
  if fB l = 0 then (if 0 ≤ data ∧ data ≤ 255 then (if slotB l < l.length then (0, (slotB l : Nat), l.set (slotB l) ⟨1, data⟩) else (8, 0, [])) else (3, 0, [])) else (fB l, 0, [])
theorem fB_len {l : List Bk} (h : fB l = 0) : l.length ≤ 24 := (fB_ok.1 h).1
theorem implTakeBlock_c (d lo : Nat) (H : Hp) {a : Option Addr} {l : List Bk} (h : Rep EB 2 H a l.length l) (hx : Ex H a) (data : Int) (hs : Sm l.length) :
    ∃ v H', vcall env (d + 4) 37 [.slice a l.length (sg a 2), .int .i64 data] lo H = some (v, H') ∧ NewBl H H' v (resTake l data).1 (resTake l data).2.1 (resTake l data).2.2 := by
  obtain ⟨HA, hHA⟩ : ∃ HA : Hp, HA = H ++ [some ⟨[.int .i64 0, .int .i64 0, .slice none 0 0], true, false⟩] := ⟨_, rfl⟩
  have fA : Fn H HA := hHA ▸ Fr.app
  have lA : HA.length = H.length + 1 := by rw [hHA]; simp
  have bA : HA.blk H.length = some ⟨[.int .i64 0, .int .i64 0, .slice none 0 0], true, false⟩ := by rw [hHA]; exact blk0
  have c1 := fun L => implBlocksFault_c d H.length (H ++ L) a l.length l (h.fnB Fr.app)
  unfold resTake
  by_cases h0 : fB l = 0
  · rw [if_pos h0]
    by_cases hd : 0 ≤ data ∧ data ≤ 255
    · rw [if_pos hd]
      have hl24 := fB_len h0
      obtain ⟨b, H1, c2, f1, d1⟩ := cloneBlocks_c (d + 2) H.length HA (h.fnB fA) (hx.fn fA) (by omega)
      have b1 : H1.blk H.length = some ⟨[.int .i64 0, .int .i64 0, .slice none 0 0], true, false⟩ := (f1.blk _ (by omega) id).trans bA
      obtain ⟨r, hc, hr⟩ := indexB_c (d + 1) H.length H1 b l.length l d1.rep hs 132 #[] (fun x => x.r == 0) (fun y _ lo => take1_c d lo H1 y)
      by_cases hsl : slotB l < l.length
      · rw [if_pos hsl]
        obtain ⟨i, x, rfl, h1, h2, h3⟩ : ∃ (i : Nat) (x : Bk), r = (i : Int) ∧ l[i]? = some x ∧ (x.r == 0) = true ∧ ∀ (j : Nat) (y : Bk), j < i → l[j]? = some y → (y.r == 0) = false := by
          rcases hr with e | ⟨_, e⟩
          · exact e
          · have := e _ (List.getElem_mem hsl)
            rw [slotB_dead hsl] at this; cases this
        obtain ⟨hi, rfl⟩ := List.getElem?_eq_some_iff.1 h1
        have hsi : slotB l = i := slotB_eq hi (beq_iff_eq.1 h2) (fun j hj => by
          have := h3 j _ hj (getE (by omega))
          exact beq_eq_false_iff_ne.1 this)
        rw [hsi]
        obtain ⟨t, H2, rfl, ht, hw, d2, f2, l2⟩ := d1.wrB (lo := H.length) (by omega) h1 (o := 0) (vs := [.int .i64 1, .int .i64 data]) (by simp) ⟨1, data⟩ rfl
        have hdi : decide ((i : Int) < 0) = false := decide_eq_false (by omega)
        simp only [sgs] at hc
        have c3 : vcall env (d + 3) 92 [.slice (some ⟨t, 0, none⟩) l.length 2, .int .i64 data] H.length H1 = some (.tuple #[.int .i64 (i : Nat), .int .i64 0], H2) := by
          rw [call_eq find92 _ _ _ rfl]
          simp only [Nat.add_zero] at hw
          simp -implicitDefEqProofs only [v92, VMs, noRef, noRef1, isRef, List.all_cons, List.all_nil, vop, VOp.still, VOp.app, VOp.plain, allP, lof, evs, start, asI, vbin, vcells, ntup, setAll, vfill, vress, vres, tup, Nat.reduceEqDiff, ↓reduceIte, Nat.reduceAdd, Nat.reduceMul, Nat.reduceLeDiff, reduceCtorEq, sgs, hc, hdi, slen, ltc hi, ge0, decide_true, Int.toNat_natCast, vfill, ev, lk, setAll, ntup, vcells, hw]
        have b2 : H2.blk H.length = some ⟨[.int .i64 0, .int .i64 0, .slice none 0 0], true, false⟩ := (f2.blk _ (by have := f1.len; omega) (by omega)).trans b1
        have g3 := fun vs hv => wr_setB (lo := H.length) b2 (by omega) vs hv
        have g4 := fun vs hv => rdN_setB b2 3 vs hv
        have hN : NewBl H (setB H2 H.length [.int .i64 0, .int .i64 (i : Nat), .slice (some ⟨t, 0, none⟩) l.length 2]) (.agg #[.int .i64 0, .int .i64 (i : Nat), .slice (some ⟨t, 0, none⟩) l.length 2]) 0 (i : Nat) (l.set i ⟨1, data⟩) := by
          have ff : Fn H H2 := ((fA.trans f1).no.trans f2).new fun k e => by omega
          exact ⟨some ⟨t, 0, none⟩, by rw [List.length_set]; rfl, Fn.setB ff (by omega) b2 _, (d2.fw (Fr.setB b2 _).w (fun k ⟨o, e⟩ e2 => by cases e; omega)).lo (by omega)⟩
        refine ⟨_, _, ?_, hN.done⟩
        subst hHA
        simp only [sgs] at c2
        rw [call_eq find37 _ _ _ rfl]
        simp -implicitDefEqProofs only [v37, VMs, vop, VOp.still, VOp.app, VOp.plain, allP, lof, evs, start, asI, vbin, vcells, ntup, setAll, vfill, vress, vres, tup, Nat.reduceEqDiff, ↓reduceIte, Nat.reduceAdd, Nat.reduceMul, Nat.reduceLeDiff, reduceCtorEq, List.getElem?_toArray, c1, h0, bne_self_eq_false, isByte_c, hd, decide_true, c2, c3, g3, g4]
      · rw [if_neg hsl]
        obtain rfl : r = -1 := by
          rcases hr with ⟨i, x, rfl, h1, h2, h3⟩ | ⟨e, _⟩
          · obtain ⟨hi, rfl⟩ := List.getElem?_eq_some_iff.1 h1
            have hsi : slotB l = i := slotB_eq hi (beq_iff_eq.1 h2) (fun j hj => by
              have := h3 j _ hj (getE (by omega))
              exact beq_eq_false_iff_ne.1 this)
            omega
          · exact e
        have hdi : decide ((-1 : Int) < 0) = true := rfl
        have c3 : vcall env (d + 3) 92 [.slice b l.length (sg b 2), .int .i64 data] H.length H1 = some (.tuple #[.int .i64 0, .int .i64 8], H1) := by
          rw [call_eq find92 _ _ _ rfl]
          simp -implicitDefEqProofs only [v92, VMs, noRef, noRef1, isRef, List.all_cons, List.all_nil, vop, VOp.still, VOp.app, VOp.plain, allP, lof, evs, start, asI, vbin, vcells, ntup, setAll, vfill, vress, vres, tup, Nat.reduceEqDiff, ↓reduceIte, Nat.reduceAdd, Nat.reduceMul, Nat.reduceLeDiff, reduceCtorEq, hc, hdi]
        have h80 : ((8 : Int) != 0) = true := rfl
        have g3 := fun vs hv => wr_setB (lo := H.length) b1 (by omega) vs hv
        have g4 := fun vs hv => rdN_setB b1 3 vs hv
        refine ⟨_, _, ?_, NewBl.nil H _ _⟩
        subst hHA
        rw [call_eq find37 _ _ _ rfl]
        simp -implicitDefEqProofs only [v37, VMs, noRef, noRef1, isRef, List.all_cons, List.all_nil, vop, VOp.still, VOp.app, VOp.plain, allP, lof, evs, start, asI, vbin, vcells, ntup, setAll, vfill, vress, vres, tup, Nat.reduceEqDiff, ↓reduceIte, Nat.reduceAdd, Nat.reduceMul, Nat.reduceLeDiff, reduceCtorEq, List.getElem?_toArray, c1, h0, bne_self_eq_false, isByte_c, hd, decide_true, c2, c3, h80, g3, g4]
    · rw [if_neg hd]
      refine ⟨_, _, ?_, NewBl.nil H _ _⟩
      rw [call_eq find37 _ _ _ rfl]
      simp -implicitDefEqProofs only [v37, VMs, noRef, noRef1, isRef, List.all_cons, List.all_nil, vop, VOp.still, VOp.app, VOp.plain, allP, lof, evs, start, asI, vbin, vcells, ntup, setAll, vfill, vress, vres, tup, Nat.reduceEqDiff, ↓reduceIte, Nat.reduceAdd, Nat.reduceMul, Nat.reduceLeDiff, reduceCtorEq, c1, h0, bne_self_eq_false, isByte_c, hd, decide_false]
  · have h0' : (fB l != 0) = true := by rw [bne_iff_ne]; exact h0
    rw [if_neg h0]
    refine ⟨_, _, ?_, NewBl.nil H _ _⟩
    rw [call_eq find37 _ _ _ rfl]
    simp -implicitDefEqProofs only [v37, VMs, noRef, noRef1, isRef, List.all_cons, List.all_nil, vop, VOp.still, VOp.app, VOp.plain, allP, lof, evs, start, asI, vbin, vcells, ntup, setAll, vfill, vress, vres, tup, Nat.reduceEqDiff, ↓reduceIte, Nat.reduceAdd, Nat.reduceMul, Nat.reduceLeDiff, reduceCtorEq, c1, h0']
/-- The reference's code. -/
theorem specTakeBlock_c (d lo : Nat) (H : Hp) {a : Option Addr} {l : List Bk} (h : Rep EB 2 H a l.length l) (hx : Ex H a) (data : Int) (hs : Sm l.length) (hne : (resTake l data).1 ≠ 0) :
    vcall env (d + 4) 36 [.slice a l.length (sg a 2), .int .i64 data] lo H = some (.agg #[.int .i64 (resTake l data).1, .int .i64 0, .slice none 0 0], H) := by
  have c1 := fun L => specBlocksFault_c d H.length (H ++ L) a l.length l (h.fnB Fr.app)
  have c2 := fun L => l3Free_c (d + 2) H.length (H ++ L) (h.fnB Fr.app) hs
  unfold resTake at hne ⊢
  by_cases h0 : fB l = 0
  · rw [if_pos h0] at hne ⊢
    by_cases hd : 0 ≤ data ∧ data ≤ 255
    · rw [if_pos hd] at hne ⊢
      by_cases hsl : slotB l < l.length
      · rw [if_pos hsl] at hne; exact absurd rfl hne
      · rw [if_neg hsl]
        simp only [if_neg hsl] at c2
        have hdi : decide ((-1 : Int) < 0) = true := rfl
        rw [call_eq find36 _ _ _ rfl]
        simp -implicitDefEqProofs only [v36, VMs, noRef, noRef1, isRef, List.all_cons, List.all_nil, vop, VOp.still, VOp.app, VOp.plain, allP, lof, evs, start, asI, vbin, vcells, ntup, setAll, vfill, vress, vres, tup, Nat.reduceEqDiff, ↓reduceIte, Nat.reduceAdd, Nat.reduceMul, Nat.reduceLeDiff, reduceCtorEq, c1, h0, bne_self_eq_false, l3Data_c, hd, decide_true, c2, hdi, l3Bad_c]
    · rw [if_neg hd]
      rw [call_eq find36 _ _ _ rfl]
      simp -implicitDefEqProofs only [v36, VMs, noRef, noRef1, isRef, List.all_cons, List.all_nil, vop, VOp.still, VOp.app, VOp.plain, allP, lof, evs, start, asI, vbin, vcells, ntup, setAll, vfill, vress, vres, tup, Nat.reduceEqDiff, ↓reduceIte, Nat.reduceAdd, Nat.reduceMul, Nat.reduceLeDiff, reduceCtorEq, c1, h0, bne_self_eq_false, l3Data_c, hd, decide_false, l3Bad_c]
  · have h0' : (fB l != 0) = true := by rw [bne_iff_ne]; exact h0
    rw [if_neg h0]
    rw [call_eq find36 _ _ _ rfl]
    simp -implicitDefEqProofs only [v36, VMs, noRef, noRef1, isRef, List.all_cons, List.all_nil, vop, VOp.still, VOp.app, VOp.plain, allP, lof, evs, start, asI, vbin, vcells, ntup, setAll, vfill, vress, vres, tup, Nat.reduceEqDiff, ↓reduceIte, Nat.reduceAdd, Nat.reduceMul, Nat.reduceLeDiff, reduceCtorEq, c1, h0', l3Bad_c]
end Go.Proofs.Ytmcljallamhccaa.V
