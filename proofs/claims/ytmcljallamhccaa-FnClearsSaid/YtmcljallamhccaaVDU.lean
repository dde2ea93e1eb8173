/- SetTree and ClearTree: the program's and the reference's. -/
import Derived.Test.YtmcljallamhccaaVDT
namespace Go.Proofs.Ytmcljallamhccaa.V
open Go
set_option linter.unusedVariables false
set_option linter.unusedSimpArgs false
set_option maxRecDepth 100000
theorem ask_and {F : Fo} {root : Int} {A D : Bool} (h : askF F root A ≠ 0) : askF F root (A && D) = askF F root A := by
  unfold askF at h ⊢
  by_cases h0 : fF F = 0
  · rw [if_pos h0] at h
    rw [if_pos h0, if_pos h0]
    cases hr : rootB F root <;> cases A <;> simp_all
  · rw [if_neg h0, if_neg h0]
theorem ask_no {F : Fo} {root : Int} {A : Bool} (h : askF F root A = 0) : askF F root false = 3 := by
  obtain ⟨_, _, _, h0⟩ := ask_zero h
  unfold askF
  rw [if_pos h0]
  simp
/-- The first free block taken. -/
def takeF (F : Fo) (data : Int) : Fo := ⟨F.n, F.b.set (slotB F.b) ⟨1, data⟩⟩
theorem take_inv {F : Fo} {data : Int} (h : Inv F z0 z0) (hs : slotB F.b < F.b.length) (hd : 0 ≤ data ∧ data ≤ 255) : Inv (takeF F data) (kI (slotB F.b : Int)) z0 := by
  have h0 := slotB_dead hs
  refine h.blk hs _ _ ⟨by simp, hd, fun e => by simp at e⟩ (fun i hi => by unfold kI; rw [if_neg (by omega)]) (by rw [h0]; unfold kI; rw [if_pos rfl]; (try simp))
theorem ask_root {F : Fo} {root : Int} {A : Bool} (h : askF F root A = 0) : RootOK F root := by
  obtain ⟨_, hr, _, _⟩ := ask_zero h
  rcases root_at hr with e | ⟨j, hj, e, h1, h2⟩
  · exact Or.inl e
  · exact Or.inr ⟨j, hj, e, h2, by omega⟩
def resPut (F : Fo) (root : Int) (p : Nat) (block : Int) : Int × Int × Fo := match putF F root p block with
  | some (r, F') => (0, r, F')
  | none => (2, 0, ⟨[], []⟩)
def resSetTree (F : Fo) (root at_ data : Int) : Int × Int × Fo :=
  if askF F root (decide (0 ≤ at_ ∧ at_ ≤ 15)) = 0 then
    if 0 ≤ data ∧ data ≤ 255 then
      if slotB F.b < F.b.length then resPut (takeF F data) root at_.toNat (slotB F.b : Int) else (8, 0, ⟨[], []⟩)
    else (3, 0, ⟨[], []⟩)
  else (askF F root (decide (0 ≤ at_ ∧ at_ ≤ 15)), 0, ⟨[], []⟩)
def resClearTree (F : Fo) (root at_ : Int) : Int × Int × Fo :=
  if askF F root (decide (0 ≤ at_ ∧ at_ ≤ 15)) = 0 then
    if blkOf F root at_.toNat < 0 then (4, 0, ⟨[], []⟩) else resPut F root at_.toNat (-1)
  else (askF F root (decide (0 ≤ at_ ∧ at_ ≤ 15)), 0, ⟨[], []⟩)
theorem place_of {F : Fo} {root at_ : Int} (h : askF F root (decide (0 ≤ at_ ∧ at_ ≤ 15)) = 0) : ∃ p : Nat, at_ = (p : Int) ∧ p ≤ 15 := by
  obtain ⟨_, _, hf, _⟩ := ask_zero h
  have := of_decide_eq_true hf
  exact ⟨at_.toNat, by omega, by omega⟩
theorem resPut_sml {F : Fo} {root block : Int} {p : Nat} (hi : Inv F (kI block) z0) (hr : RootOK F root) (hb : BlockOK F block) (hp : p ≤ 15) : Sml (resPut F root p block).2.2 := by
  unfold resPut
  cases h : putF F root p block with
  | none => exact Sml.nil
  | some x => obtain ⟨r, F'⟩ := x; exact putF_sml hi hr hb hp h
theorem Inv.toB {F : Fo} (h : Inv F z0 z0) : Inv F (kI (-1)) z0 := h.eq (fun i _ => by unfold kI; rw [if_neg (by omega)]) (fun _ _ => Int.le_refl _)
theorem resSetTree_sml (F : Fo) (root at_ data : Int) : Sml (resSetTree F root at_ data).2.2 := by
  unfold resSetTree
  by_cases h0 : askF F root (decide (0 ≤ at_ ∧ at_ ≤ 15)) = 0
  · rw [if_pos h0]
    obtain ⟨p, rfl, hp⟩ := place_of h0
    by_cases h1 : 0 ≤ data ∧ data ≤ 255
    · rw [if_pos h1]
      by_cases h2 : slotB F.b < F.b.length
      · rw [if_pos h2, Int.toNat_natCast]
        exact resPut_sml (take_inv (ask_inv h0) h2 h1) (show RootOK F root from ask_root h0) (Or.inr ⟨by omega, by simp only [takeF, List.length_set]; omega⟩) hp
      · rw [if_neg h2]; exact Sml.nil
    · rw [if_neg h1]; exact Sml.nil
  · rw [if_neg h0]; exact Sml.nil
theorem resClearTree_sml (F : Fo) (root at_ : Int) : Sml (resClearTree F root at_).2.2 := by
  unfold resClearTree
  by_cases h0 : askF F root (decide (0 ≤ at_ ∧ at_ ≤ 15)) = 0
  · rw [if_pos h0]
    obtain ⟨p, rfl, hp⟩ := place_of h0
    by_cases h1 : blkOf F root (p : Int).toNat < 0
    · rw [if_pos h1]; exact Sml.nil
    · rw [if_neg h1, Int.toNat_natCast]
      exact resPut_sml (ask_inv h0).toB (ask_root h0) (Or.inl rfl) hp
  · rw [if_neg h0]; exact Sml.nil
theorem resSetTree_sz (F : Fo) (root at_ data : Int) : SF (resSetTree F root at_ data).2.2 ∧ Km (1 + sF (resSetTree F root at_ data).2.2) := ⟨(resSetTree_sml F root at_ data).sf, (resSetTree_sml F root at_ data).km⟩
theorem resClearTree_sz (F : Fo) (root at_ : Int) : SF (resClearTree F root at_).2.2 ∧ Km (1 + sF (resClearTree F root at_).2.2) := ⟨(resClearTree_sml F root at_).sf, (resClearTree_sml F root at_).km⟩
/-- What a step that turns the forest leaves. -/
theorem FQ.ge {L : Nat} {H : Hp} {q : Nat} {a b : Option Addr} {ps : List (Nd × Option Addr)} {B : List Bk} (h : MF L H q a b ps B) : ∀ i, FQ q a b i → L ≤ i := fun i hh => by
  rcases hh with e | e | e
  · rw [e]; exact h.lq
  · exact (h.n.hd.lt e).1
  · exact (h.bl.lt e).1
theorem specSetTree_c (d lo : Nat) (H : Hp) {an nn ab nb F} (h : RX H an nn ab nb F) (hs : SF F) (root at_ data : Int) :
    ∃ v H', vcall env (d + 6) 70 [.agg #[.slice an nn (sg an 3), .slice ab nb (sg ab 2)], .int .i64 root, .int .i64 at_, .int .i64 data] lo H = some (v, H') ∧ NewR H H' v (resSetTree F root at_ data).1 (resSetTree F root at_ data).2.1 (resSetTree F root at_ data).2.2 := by
  have n1 := h.r.n.1
  have n2 := h.r.b.1
  subst n1 n2
  obtain ⟨HA, hHA⟩ : ∃ HA : Hp, HA = H ++ [some ⟨[.slice an F.n.length (sg an 3), .slice ab F.b.length (sg ab 2)], true, false⟩, some ⟨[.int .i64 0, .int .i64 0, .slice none 0 0, .slice none 0 0], true, false⟩] := ⟨_, rfl⟩
  have fA : Fn H HA := hHA ▸ Fr.app
  have lA : HA.length = H.length + 2 := by rw [hHA]; simp
  have hp : PF HA H.length 0 an F.n.length ab F.b.length F := by rw [hHA]; exact ⟨by simp [rd0], by simp [rd0], h.r.app⟩
  have rA : HA.blk (H.length + 1) = some ⟨[.int .i64 0, .int .i64 0, .slice none 0 0, .slice none 0 0], true, false⟩ := by rw [hHA]; exact blkn 1
  have c1 := l4Asked_c d H.length HA hp hs root at_
  have cD := fun lo H => l3Data_c (d + 3) lo H data
  rw [call_eq find70 _ _ _ rfl]
  unfold resSetTree
  by_cases h0 : askF F root (decide (0 ≤ at_ ∧ at_ ≤ 15)) = 0
  · have hi := ask_inv h0
    have hro := ask_root h0
    obtain ⟨g, hr, _, _⟩ := ask_zero h0
    obtain ⟨p, rfl, hp15⟩ := place_of h0
    have sm := g.sml
    rw [if_pos h0]
    rw [h0] at c1
    by_cases hd : 0 ≤ data ∧ data ≤ 255
    · rw [if_pos hd]
      have hdd : decide (0 ≤ data ∧ data ≤ 255) = true := decide_eq_true hd
      rw [hdd] at cD
      obtain ⟨v, H1, c2, hm⟩ := l4Copy_c (d + 4) H.length HA (h.fn fA) sm.n sm.b sm.k
      obtain ⟨a, b, ps, rfl, f1, hps, mf⟩ := hm.box
      have hfo : foP ps F.b = F := by unfold foP; rw [hps]
      obtain ⟨HQ, hHQ⟩ : ∃ HQ : Hp, HQ = H1 ++ [some ⟨[.slice a ps.length (sg a 3), .slice b F.b.length (sg b 2)], true, false⟩] := ⟨_, rfl⟩
      rw [← hHQ] at mf
      have fQ : Fn HA HQ := f1.trans (hHQ ▸ Fr.app)
      have l1 := f1.len
      have lQ := fQ.len
      have hRQ := (fQ.blk (H.length + 1) (by omega) id).trans rA
      have hle : (H.length ≤ H1.length) = True := eq_true (by omega)
      have gb := mf.pf.b
      have cF := l3Free_c (d + 4) H.length HQ mf.bl.rep hs.b
      by_cases h2 : slotB F.b < F.b.length
      · rw [if_pos h2, Int.toNat_natCast]
        rw [if_pos h2] at cF
        obtain ⟨t, H3, rfl, w3, m3, f3, l3⟩ := mf.reblk (getE h2) 1 data
        have w3' := wr_lo w3 (by omega : H.length ≤ HA.length)
        have hf3 : foP ps (F.b.set (slotB F.b) ⟨1, data⟩) = takeF F data := by unfold foP takeF; rw [hps]
        have hi3 := take_inv hi h2 hd
        rw [← hf3] at hi3
        have hbk : BlockOK (foP ps (F.b.set (slotB F.b) ⟨1, data⟩)) (slotB F.b : Int) := Or.inr ⟨by omega, by simp only [foP, List.length_set]; omega⟩
        have hro3 : RootOK (foP ps (F.b.set (slotB F.b) ⟨1, data⟩)) root := by
          rcases hro with e | ⟨j, hj, e, e1, e2⟩
          · exact Or.inl e
          · rw [hf3]; exact Or.inr ⟨j, hj, e, e1, e2⟩
        obtain ⟨s1, s2⟩ := l4Set_c d H.length HA.length H3 m3 (by omega) hi3 hro3 hbk hp15
        rw [hf3] at s1 s2
        have lt0 : decide ((slotB F.b : Int) < 0) = false := decide_eq_false (by omega)
        have z20 : ((2 : Int) != 0) = true := rfl
        have hR3 := (f3.blk (H.length + 1) (by omega) (fun hh => by have := (mf.bl.lt hh).1; omega)).trans hRQ
        have nA := FQ.ge m3
        have l3' := f3.len
        simp only [sgs] at gb cF c2 hHQ
        unfold resPut
        cases hpf : putF (takeF F data) root p (slotB F.b : Int) with
        | none =>
          obtain ⟨H4, c4, f4⟩ := s1 hpf
          have hR4 := (f4.blk (H.length + 1) (by omega) (fun hh => by have := nA _ hh; omega)).trans hR3
          have w5 := fun vs hv => wr_setB (lo := H.length) hR4 (by omega) vs hv
          have w6 := fun vs hv => rdN_setB hR4 4 vs hv
          subst hHQ hHA
          simp -implicitDefEqProofs only [v70, VMs, noRef, noRef1, isRef, List.all_cons, List.all_nil, vop, VOp.still, VOp.app, VOp.plain, allP, lof, evs, start, asI, vbin, vcells, ntup, setAll, vfill, vress, vres, tup, Nat.reduceEqDiff, ↓reduceIte, Nat.reduceAdd, Nat.reduceMul, Nat.reduceLeDiff, reduceCtorEq, List.getElem?_toArray, c1, bne_self_eq_false, cD, c2, hle, gb, cF, lt0, slen, ltc h2, ge0, decide_true, Int.toNat_natCast, vfill, ev, lk, setAll, ntup, vcells, w3', c4, z20, l4Bad_c, w5, w6]
          exact ⟨_, _, rfl, NewR.nil _ _ _⟩
        | some x =>
          obtain ⟨r, F'⟩ := x
          obtain ⟨H4, a', ps', B', c4, m4, e4, f4, _⟩ := s2 r F' hpf
          have hR4 := (f4.blk (H.length + 1) (by omega) (fun hh => by have := nA _ hh; omega)).trans hR3
          have w5 := fun vs hv => wr_setB (lo := H.length) hR4 (by omega) vs hv
          have w6 := fun vs hv => rdN_setB hR4 4 vs hv
          have g4 := m4.pf.rdN
          have fH4 : Fn H H4 := f4.fn (f3.w.fn (fA.trans fQ) (fun i hi => by have := (mf.bl.lt hi).1; omega)) (fun i hi => by have := nA i hi; omega)
          have hn := m4.newR fH4 (by omega) hR4 (by omega) (by omega) 0 r
          rw [e4] at hn
          subst hHQ hHA
          simp -implicitDefEqProofs only [v70, VMs, vop, VOp.still, VOp.app, VOp.plain, allP, lof, evs, start, asI, vbin, vcells, ntup, setAll, vfill, vress, vres, tup, Nat.reduceEqDiff, ↓reduceIte, Nat.reduceAdd, Nat.reduceMul, Nat.reduceLeDiff, reduceCtorEq, List.getElem?_toArray, c1, bne_self_eq_false, cD, c2, hle, gb, cF, lt0, slen, ltc h2, ge0, decide_true, Int.toNat_natCast, vfill, ev, lk, setAll, ntup, vcells, w3', c4, g4, w5, w6]
          exact ⟨_, _, rfl, hn.done⟩
      · rw [if_neg h2]
        rw [if_neg h2] at cF
        have lt0 : decide ((-1 : Int) < 0) = true := rfl
        have w5 := fun vs hv => wr_setB (lo := H.length) hRQ (by omega) vs hv
        have w6 := fun vs hv => rdN_setB hRQ 4 vs hv
        subst hHQ hHA
        simp -implicitDefEqProofs only [v70, VMs, noRef, noRef1, isRef, List.all_cons, List.all_nil, vop, VOp.still, VOp.app, VOp.plain, allP, lof, evs, start, asI, vbin, vcells, ntup, setAll, vfill, vress, vres, tup, Nat.reduceEqDiff, ↓reduceIte, Nat.reduceAdd, Nat.reduceMul, Nat.reduceLeDiff, reduceCtorEq, c1, bne_self_eq_false, cD, c2, hle, gb, cF, lt0, l4Bad_c, w5, w6]
        exact ⟨_, _, rfl, NewR.nil _ _ _⟩
    · rw [if_neg hd]
      have hdd : decide (0 ≤ data ∧ data ≤ 255) = false := decide_eq_false hd
      rw [hdd] at cD
      subst hHA
      simp -implicitDefEqProofs only [v70, VMs, noRef, noRef1, isRef, List.all_cons, List.all_nil, vop, VOp.still, VOp.app, VOp.plain, allP, lof, evs, start, asI, vbin, vcells, ntup, setAll, vfill, vress, vres, tup, Nat.reduceEqDiff, ↓reduceIte, Nat.reduceAdd, Nat.reduceMul, Nat.reduceLeDiff, reduceCtorEq, c1, bne_self_eq_false, cD, l4Bad_c]
      exact ⟨_, _, rfl, NewR.nil _ _ _⟩
  · have h0' : (askF F root (decide (0 ≤ at_ ∧ at_ ≤ 15)) != 0) = true := by rw [bne_iff_ne]; exact h0
    rw [if_neg h0]
    subst hHA
    simp -implicitDefEqProofs only [v70, VMs, noRef, noRef1, isRef, List.all_cons, List.all_nil, vop, VOp.still, VOp.app, VOp.plain, allP, lof, evs, start, asI, vbin, vcells, ntup, setAll, vfill, vress, vres, tup, Nat.reduceEqDiff, ↓reduceIte, Nat.reduceAdd, Nat.reduceMul, Nat.reduceLeDiff, reduceCtorEq, c1, h0', l4Bad_c]
    exact ⟨_, _, rfl, NewR.nil _ _ _⟩
theorem implSetTree_c (d lo : Nat) (H : Hp) {an nn ab nb F} (h : RX H an nn ab nb F) (hs : SF F) (root at_ data : Int) :
    ∃ v H', vcall env (d + 8) 71 [.agg #[.slice an nn (sg an 3), .slice ab nb (sg ab 2)], .int .i64 root, .int .i64 at_, .int .i64 data] lo H = some (v, H') ∧ NewR H H' v (resSetTree F root at_ data).1 (resSetTree F root at_ data).2.1 (resSetTree F root at_ data).2.2 := by
  have n1 := h.r.n.1
  have n2 := h.r.b.1
  subst n1 n2
  obtain ⟨HA, hHA⟩ : ∃ HA : Hp, HA = H ++ [some ⟨[.slice an F.n.length (sg an 3), .slice ab F.b.length (sg ab 2)], true, false⟩, some ⟨[.int .i64 0, .int .i64 0, .slice none 0 0, .slice none 0 0], true, false⟩] := ⟨_, rfl⟩
  have fA : Fn H HA := hHA ▸ Fr.app
  have lA : HA.length = H.length + 2 := by rw [hHA]; simp
  have rA : HA.blk (H.length + 1) = some ⟨[.int .i64 0, .int .i64 0, .slice none 0 0, .slice none 0 0], true, false⟩ := by rw [hHA]; exact blkn 1
  have c1 := fun A => forestCode_c d H.length HA (h.fn fA).r hs root A
  have cP := fun lo H => isTreePlace_c (d + 5) lo H at_
  have cD := fun lo H => isByte_c (d + 5) lo H data
  rw [call_eq find71 _ _ _ rfl]
  unfold resSetTree
  by_cases h0 : askF F root (decide (0 ≤ at_ ∧ at_ ≤ 15)) = 0
  · have hi := ask_inv h0
    have hro := ask_root h0
    obtain ⟨g, hr, hA, _⟩ := ask_zero h0
    rw [hA] at cP h0
    obtain ⟨p, rfl, hp15⟩ : ∃ p : Nat, at_ = (p : Int) ∧ p ≤ 15 := by have := of_decide_eq_true hA; exact ⟨at_.toNat, by omega, by omega⟩
    have sm := g.sml
    rw [hA, if_pos h0]
    by_cases hd : 0 ≤ data ∧ data ≤ 255
    · rw [if_pos hd]
      have hdd : decide (0 ≤ data ∧ data ≤ 255) = true := decide_eq_true hd
      rw [hdd] at cD
      have c1 := c1 true
      rw [h0] at c1
      obtain ⟨v, H1, c2, hm⟩ := ownForest_c (d + 5) H.length HA (h.fn fA) sm.n sm.b sm.k
      obtain ⟨a, b, ps, rfl, f1, hps, mf⟩ := hm.box
      have hfo : foP ps F.b = F := by unfold foP; rw [hps]
      obtain ⟨HQ, hHQ⟩ : ∃ HQ : Hp, HQ = H1 ++ [some ⟨[.slice a ps.length (sg a 3), .slice b F.b.length (sg b 2)], true, false⟩] := ⟨_, rfl⟩
      rw [← hHQ] at mf
      have fQ : Fn HA HQ := f1.trans (hHQ ▸ Fr.app)
      have l1 := f1.len
      have lQ := fQ.len
      have hRQ := (fQ.blk (H.length + 1) (by omega) id).trans rA
      have hle : (H.length ≤ H1.length) = True := eq_true (by omega)
      have gb := mf.pf.b
      obtain ⟨t1, t2⟩ := take_c (d + 4) H.length HA.length HQ mf (by omega) hs.b data
      by_cases h2 : slotB F.b < F.b.length
      · rw [if_pos h2, Int.toNat_natCast]
        obtain ⟨H3, c3, m3, f3, l3⟩ := t2 h2
        have hf3 : foP ps (F.b.set (slotB F.b) ⟨1, data⟩) = takeF F data := by unfold foP takeF; rw [hps]
        have hi3 := take_inv hi h2 hd
        rw [← hf3] at hi3
        have hbk : BlockOK (foP ps (F.b.set (slotB F.b) ⟨1, data⟩)) (slotB F.b : Int) := Or.inr ⟨by omega, by simp only [foP, List.length_set]; omega⟩
        have hro3 : RootOK (foP ps (F.b.set (slotB F.b) ⟨1, data⟩)) root := by
          rcases hro with e | ⟨j, hj, e, e1, e2⟩
          · exact Or.inl e
          · rw [hf3]; exact Or.inr ⟨j, hj, e, e1, e2⟩
        obtain ⟨s1, s2⟩ := put_c (d + 2) H.length HA.length H3 m3 (by omega) hi3 hro3 hbk hp15 (Or.inl (by omega))
        rw [hf3] at s1 s2
        have z20 : ((2 : Int) != 0) = true := rfl
        have hR3 := (f3.blk (H.length + 1) (by omega) (fun hh => by have := (mf.bl.lt hh).1; omega)).trans hRQ
        have nA := FQ.ge m3
        have l3' := f3.len
        unfold resPut
        cases hpf : putF (takeF F data) root p (slotB F.b : Int) with
        | none =>
          obtain ⟨H4, c4, f4⟩ := s1 hpf
          have hR4 := (f4.blk (H.length + 1) (by omega) (fun hh => by have := nA _ hh; omega)).trans hR3
          have w5 := fun vs hv => wr_setB (lo := H.length) hR4 (by omega) vs hv
          have w6 := fun vs hv => rdN_setB hR4 4 vs hv
          subst hHQ hHA
          simp -implicitDefEqProofs only [v71, VMs, noRef, noRef1, isRef, List.all_cons, List.all_nil, vop, VOp.still, VOp.app, VOp.plain, allP, lof, evs, start, asI, vbin, vcells, ntup, setAll, vfill, vress, vres, tup, Nat.reduceEqDiff, ↓reduceIte, Nat.reduceAdd, Nat.reduceMul, Nat.reduceLeDiff, reduceCtorEq, List.getElem?_toArray, vdr, cP, cD, c1, bne_self_eq_false, c2, hle, gb, c3, c4, z20, w5, w6]
          exact ⟨_, _, rfl, NewR.nil _ _ _⟩
        | some x =>
          obtain ⟨r, F'⟩ := x
          obtain ⟨H4, a', ps', B', c4, m4, e4, f4, _⟩ := s2 r F' hpf
          have hR4 := (f4.blk (H.length + 1) (by omega) (fun hh => by have := nA _ hh; omega)).trans hR3
          have w5 := fun vs hv => wr_setB (lo := H.length) hR4 (by omega) vs hv
          have w6 := fun vs hv => rdN_setB hR4 4 vs hv
          have g4 := m4.pf.rdN
          have fH4 : Fn H H4 := f4.fn (f3.w.fn (fA.trans fQ) (fun i hi => by have := (mf.bl.lt hi).1; omega)) (fun i hi => by have := nA i hi; omega)
          have hn := m4.newR fH4 (by omega) hR4 (by omega) (by omega) 0 r
          rw [e4] at hn
          subst hHQ hHA
          simp -implicitDefEqProofs only [v71, VMs, vop, VOp.still, VOp.app, VOp.plain, allP, lof, evs, start, asI, vbin, vcells, ntup, setAll, vfill, vress, vres, tup, Nat.reduceEqDiff, ↓reduceIte, Nat.reduceAdd, Nat.reduceMul, Nat.reduceLeDiff, reduceCtorEq, List.getElem?_toArray, vdr, cP, cD, c1, bne_self_eq_false, c2, hle, gb, c3, c4, g4, w5, w6]
          exact ⟨_, _, rfl, hn.done⟩
      · rw [if_neg h2]
        have c3 := t1 (by have := slotB_le F.b; omega)
        have z80 : ((8 : Int) != 0) = true := rfl
        have w5 := fun vs hv => wr_setB (lo := H.length) hRQ (by omega) vs hv
        have w6 := fun vs hv => rdN_setB hRQ 4 vs hv
        subst hHQ hHA
        simp -implicitDefEqProofs only [v71, VMs, noRef, noRef1, isRef, List.all_cons, List.all_nil, vop, VOp.still, VOp.app, VOp.plain, allP, lof, evs, start, asI, vbin, vcells, ntup, setAll, vfill, vress, vres, tup, Nat.reduceEqDiff, ↓reduceIte, Nat.reduceAdd, Nat.reduceMul, Nat.reduceLeDiff, reduceCtorEq, List.getElem?_toArray, vdr, cP, cD, c1, bne_self_eq_false, c2, hle, gb, c3, z80, w5, w6]
        exact ⟨_, _, rfl, NewR.nil _ _ _⟩
    · rw [if_neg hd]
      have hdd : decide (0 ≤ data ∧ data ≤ 255) = false := decide_eq_false hd
      rw [hdd] at cD
      have c1 := c1 false
      rw [ask_no h0] at c1
      have z30 : ((3 : Int) != 0) = true := rfl
      subst hHA
      simp -implicitDefEqProofs only [v71, VMs, noRef, noRef1, isRef, List.all_cons, List.all_nil, vop, VOp.still, VOp.app, VOp.plain, allP, lof, evs, start, asI, vbin, vcells, ntup, setAll, vfill, vress, vres, tup, Nat.reduceEqDiff, ↓reduceIte, Nat.reduceAdd, Nat.reduceMul, Nat.reduceLeDiff, reduceCtorEq, vdr, cP, cD, c1, z30]
      exact ⟨_, _, rfl, NewR.nil _ _ _⟩
  · have h0' : (askF F root (decide (0 ≤ at_ ∧ at_ ≤ 15)) != 0) = true := by rw [bne_iff_ne]; exact h0
    rw [if_neg h0]
    have hand := ask_and (D := decide (0 ≤ data ∧ data ≤ 255)) h0
    have c1 := c1 (decide (0 ≤ at_ ∧ at_ ≤ 15) && decide (0 ≤ data ∧ data ≤ 255))
    rw [hand] at c1
    generalize hq : askF F root (decide (0 ≤ at_ ∧ at_ ≤ 15)) = qq at *
    cases hA : decide (0 ≤ at_ ∧ at_ ≤ 15) with
    | true =>
      rw [hA] at cP c1
      rw [Bool.true_and] at c1
      subst hHA
      simp -implicitDefEqProofs only [v71, VMs, noRef, noRef1, isRef, List.all_cons, List.all_nil, vop, VOp.still, VOp.app, VOp.plain, allP, lof, evs, start, asI, vbin, vcells, ntup, setAll, vfill, vress, vres, tup, Nat.reduceEqDiff, ↓reduceIte, Nat.reduceAdd, Nat.reduceMul, Nat.reduceLeDiff, reduceCtorEq, vdr, cP, cD, c1, h0']
      exact ⟨_, _, rfl, NewR.nil _ _ _⟩
    | false =>
      rw [hA] at cP c1
      rw [Bool.false_and] at c1
      subst hHA
      simp -implicitDefEqProofs only [v71, VMs, noRef, noRef1, isRef, List.all_cons, List.all_nil, vop, VOp.still, VOp.app, VOp.plain, allP, lof, evs, start, asI, vbin, vcells, ntup, setAll, vfill, vress, vres, tup, Nat.reduceEqDiff, ↓reduceIte, Nat.reduceAdd, Nat.reduceMul, Nat.reduceLeDiff, reduceCtorEq, vdr, cP, cD, c1, h0']
      exact ⟨_, _, rfl, NewR.nil _ _ _⟩
theorem specClearTree_c (d lo : Nat) (H : Hp) {an nn ab nb F} (h : RX H an nn ab nb F) (hs : SF F) (root at_ : Int) :
    ∃ v H', vcall env (d + 6) 68 [.agg #[.slice an nn (sg an 3), .slice ab nb (sg ab 2)], .int .i64 root, .int .i64 at_] lo H = some (v, H') ∧ NewR H H' v (resClearTree F root at_).1 (resClearTree F root at_).2.1 (resClearTree F root at_).2.2 := by
  have n1 := h.r.n.1
  have n2 := h.r.b.1
  subst n1 n2
  obtain ⟨HA, hHA⟩ : ∃ HA : Hp, HA = H ++ [some ⟨[.slice an F.n.length (sg an 3), .slice ab F.b.length (sg ab 2)], true, false⟩, some ⟨[.int .i64 0, .int .i64 0, .slice none 0 0, .slice none 0 0], true, false⟩] := ⟨_, rfl⟩
  have fA : Fn H HA := hHA ▸ Fr.app
  have lA : HA.length = H.length + 2 := by rw [hHA]; simp
  have hp : PF HA H.length 0 an F.n.length ab F.b.length F := by rw [hHA]; exact ⟨by simp [rd0], by simp [rd0], h.r.app⟩
  have rA : HA.blk (H.length + 1) = some ⟨[.int .i64 0, .int .i64 0, .slice none 0 0, .slice none 0 0], true, false⟩ := by rw [hHA]; exact blkn 1
  have c1 := l4Asked_c d H.length HA hp hs root at_
  rw [call_eq find68 _ _ _ rfl]
  unfold resClearTree
  by_cases h0 : askF F root (decide (0 ≤ at_ ∧ at_ ≤ 15)) = 0
  · have hi := ask_inv h0
    have hro := ask_root h0
    obtain ⟨g, hr, _, _⟩ := ask_zero h0
    obtain ⟨p, rfl, hp15⟩ := place_of h0
    have sm := g.sml
    rw [if_pos h0, Int.toNat_natCast]
    rw [h0] at c1
    have cB := l4Block_c (d + 3) H.length HA hp g root hr p hp15
    rcases blk_at (blkOf_ok g hr hp15) with hb | ⟨jb, hjb, hb, _⟩
    · rw [if_pos (show blkOf F root p < 0 by omega)]
      rw [hb] at cB
      have lt0 : decide ((-1 : Int) < 0) = true := rfl
      subst hHA
      simp -implicitDefEqProofs only [v68, VMs, noRef, noRef1, isRef, List.all_cons, List.all_nil, vop, VOp.still, VOp.app, VOp.plain, allP, lof, evs, start, asI, vbin, vcells, ntup, setAll, vfill, vress, vres, tup, Nat.reduceEqDiff, ↓reduceIte, Nat.reduceAdd, Nat.reduceMul, Nat.reduceLeDiff, reduceCtorEq, c1, bne_self_eq_false, cB, lt0, l4Bad_c]
      exact ⟨_, _, rfl, NewR.nil _ _ _⟩
    · rw [if_neg (show ¬ blkOf F root p < 0 by omega)]
      have lt0 : decide ((jb : Int) < 0) = false := decide_eq_false (by omega)
      obtain ⟨v, H1, c2, hm⟩ := l4Copy_c (d + 4) H.length HA (h.fn fA) sm.n sm.b sm.k
      obtain ⟨a, b, ps, rfl, f1, hps, mf⟩ := hm.box
      have hfo : foP ps F.b = F := by unfold foP; rw [hps]
      obtain ⟨HQ, hHQ⟩ : ∃ HQ : Hp, HQ = H1 ++ [some ⟨[.slice a ps.length (sg a 3), .slice b F.b.length (sg b 2)], true, false⟩] := ⟨_, rfl⟩
      rw [← hHQ] at mf
      have fQ : Fn HA HQ := f1.trans (hHQ ▸ Fr.app)
      have l1 := f1.len
      have lQ := fQ.len
      have hRQ := (fQ.blk (H.length + 1) (by omega) id).trans rA
      have hle : (H.length ≤ H1.length) = True := eq_true (by omega)
      have hrm : root ≠ -1 := fun e => by
        rw [e] at hb
        unfold blkOf at hb
        rw [kidOf_m, kidOf_m] at hb; omega
      obtain ⟨s1, s2⟩ := l4Set_c d H.length HA.length HQ mf (by omega) (root := root) (block := -1) (by rw [hfo]; exact hi.toB) (by rw [hfo]; exact hro) (Or.inl rfl) hp15
      rw [hfo] at s1 s2
      have z20 : ((2 : Int) != 0) = true := rfl
      have nA := FQ.ge mf
      unfold resPut
      rw [hb] at cB
      cases hpf : putF F root p (-1) with
      | none =>
        obtain ⟨H4, c4, f4⟩ := s1 hpf
        have hR4 := (f4.blk (H.length + 1) (by omega) (fun hh => by have := nA _ hh; omega)).trans hRQ
        have w5 := fun vs hv => wr_setB (lo := H.length) hR4 (by omega) vs hv
        have w6 := fun vs hv => rdN_setB hR4 4 vs hv
        subst hHQ hHA
        simp -implicitDefEqProofs only [v68, VMs, noRef, noRef1, isRef, List.all_cons, List.all_nil, vop, VOp.still, VOp.app, VOp.plain, allP, lof, evs, start, asI, vbin, vcells, ntup, setAll, vfill, vress, vres, tup, Nat.reduceEqDiff, ↓reduceIte, Nat.reduceAdd, Nat.reduceMul, Nat.reduceLeDiff, reduceCtorEq, List.getElem?_toArray, c1, bne_self_eq_false, cB, lt0, c2, hle, c4, z20, l4Bad_c, w5, w6]
        exact ⟨_, _, rfl, NewR.nil _ _ _⟩
      | some x =>
        obtain ⟨r, F'⟩ := x
        obtain ⟨H4, a', ps', B', c4, m4, e4, f4, _⟩ := s2 r F' hpf
        have hR4 := (f4.blk (H.length + 1) (by omega) (fun hh => by have := nA _ hh; omega)).trans hRQ
        have w5 := fun vs hv => wr_setB (lo := H.length) hR4 (by omega) vs hv
        have w6 := fun vs hv => rdN_setB hR4 4 vs hv
        have g4 := m4.pf.rdN
        have fH4 : Fn H H4 := f4.fn (fA.trans fQ) (fun i hi => by have := nA i hi; omega)
        have hn := m4.newR fH4 (by omega) hR4 (by omega) (by omega) 0 r
        rw [e4] at hn
        subst hHQ hHA
        simp -implicitDefEqProofs only [v68, VMs, vop, VOp.still, VOp.app, VOp.plain, allP, lof, evs, start, asI, vbin, vcells, ntup, setAll, vfill, vress, vres, tup, Nat.reduceEqDiff, ↓reduceIte, Nat.reduceAdd, Nat.reduceMul, Nat.reduceLeDiff, reduceCtorEq, List.getElem?_toArray, c1, bne_self_eq_false, cB, lt0, c2, hle, c4, g4, w5, w6]
        exact ⟨_, _, rfl, hn.done⟩
  · have h0' : (askF F root (decide (0 ≤ at_ ∧ at_ ≤ 15)) != 0) = true := by rw [bne_iff_ne]; exact h0
    rw [if_neg h0]
    subst hHA
    simp -implicitDefEqProofs only [v68, VMs, noRef, noRef1, isRef, List.all_cons, List.all_nil, vop, VOp.still, VOp.app, VOp.plain, allP, lof, evs, start, asI, vbin, vcells, ntup, setAll, vfill, vress, vres, tup, Nat.reduceEqDiff, ↓reduceIte, Nat.reduceAdd, Nat.reduceMul, Nat.reduceLeDiff, reduceCtorEq, c1, h0', l4Bad_c]
    exact ⟨_, _, rfl, NewR.nil _ _ _⟩
theorem implClearTree_c (d lo : Nat) (H : Hp) {an nn ab nb F} (h : RX H an nn ab nb F) (hs : SF F) (root at_ : Int) :
    ∃ v H', vcall env (d + 8) 69 [.agg #[.slice an nn (sg an 3), .slice ab nb (sg ab 2)], .int .i64 root, .int .i64 at_] lo H = some (v, H') ∧ NewR H H' v (resClearTree F root at_).1 (resClearTree F root at_).2.1 (resClearTree F root at_).2.2 := by
  have n1 := h.r.n.1
  have n2 := h.r.b.1
  subst n1 n2
  obtain ⟨HA, hHA⟩ : ∃ HA : Hp, HA = H ++ [some ⟨[.slice an F.n.length (sg an 3), .slice ab F.b.length (sg ab 2)], true, false⟩, some ⟨[.int .i64 0, .int .i64 0, .slice none 0 0, .slice none 0 0], true, false⟩] := ⟨_, rfl⟩
  have fA : Fn H HA := hHA ▸ Fr.app
  have lA : HA.length = H.length + 2 := by rw [hHA]; simp
  have hp : PF HA H.length 0 an F.n.length ab F.b.length F := by rw [hHA]; exact ⟨by simp [rd0], by simp [rd0], h.r.app⟩
  have rA : HA.blk (H.length + 1) = some ⟨[.int .i64 0, .int .i64 0, .slice none 0 0, .slice none 0 0], true, false⟩ := by rw [hHA]; exact blkn 1
  have c1 := forestCode_c d H.length HA (h.fn fA).r hs root (decide (0 ≤ at_ ∧ at_ ≤ 15))
  have cP := fun lo H => isTreePlace_c (d + 5) lo H at_
  rw [call_eq find69 _ _ _ rfl]
  unfold resClearTree
  by_cases h0 : askF F root (decide (0 ≤ at_ ∧ at_ ≤ 15)) = 0
  · have hi := ask_inv h0
    have hro := ask_root h0
    obtain ⟨g, hr, _, _⟩ := ask_zero h0
    obtain ⟨p, rfl, hp15⟩ := place_of h0
    have sm := g.sml
    rw [if_pos h0, Int.toNat_natCast]
    rw [h0] at c1
    have cB := block_c (d + 5) H.length HA hp g root hr p hp15
    rcases blk_at (blkOf_ok g hr hp15) with hb | ⟨jb, hjb, hb, _⟩
    · rw [if_pos (show blkOf F root p < 0 by omega)]
      rw [hb] at cB
      have lt0 : ((-1 : Int) == -1) = true := rfl
      subst hHA
      simp -implicitDefEqProofs only [v69, VMs, noRef, noRef1, isRef, List.all_cons, List.all_nil, vop, VOp.still, VOp.app, VOp.plain, allP, lof, evs, start, asI, vbin, vcells, ntup, setAll, vfill, vress, vres, tup, Nat.reduceEqDiff, ↓reduceIte, Nat.reduceAdd, Nat.reduceMul, Nat.reduceLeDiff, reduceCtorEq, vdr, cP, c1, bne_self_eq_false, cB, lt0, l4Bad_c]
      exact ⟨_, _, rfl, NewR.nil _ _ _⟩
    · rw [if_neg (show ¬ blkOf F root p < 0 by omega)]
      have lt0 : ((jb : Int) == -1) = false := by rw [beq_eq_false_iff_ne]; omega
      obtain ⟨v, H1, c2, hm⟩ := ownForest_c (d + 5) H.length HA (h.fn fA) sm.n sm.b sm.k
      obtain ⟨a, b, ps, rfl, f1, hps, mf⟩ := hm.box
      have hfo : foP ps F.b = F := by unfold foP; rw [hps]
      obtain ⟨HQ, hHQ⟩ : ∃ HQ : Hp, HQ = H1 ++ [some ⟨[.slice a ps.length (sg a 3), .slice b F.b.length (sg b 2)], true, false⟩] := ⟨_, rfl⟩
      rw [← hHQ] at mf
      have fQ : Fn HA HQ := f1.trans (hHQ ▸ Fr.app)
      have l1 := f1.len
      have lQ := fQ.len
      have hRQ := (fQ.blk (H.length + 1) (by omega) id).trans rA
      have hle : (H.length ≤ H1.length) = True := eq_true (by omega)
      have hrm : root ≠ -1 := fun e => by
        rw [e] at hb
        unfold blkOf at hb
        rw [kidOf_m, kidOf_m] at hb; omega
      obtain ⟨s1, s2⟩ := put_c (d + 2) H.length HA.length HQ mf (by omega) (root := root) (block := -1) (by rw [hfo]; exact hi.toB) (by rw [hfo]; exact hro) (Or.inl rfl) hp15 (Or.inr hrm)
      rw [hfo] at s1 s2
      have z20 : ((2 : Int) != 0) = true := rfl
      have nA := FQ.ge mf
      unfold resPut
      rw [hb] at cB
      cases hpf : putF F root p (-1) with
      | none =>
        obtain ⟨H4, c4, f4⟩ := s1 hpf
        have hR4 := (f4.blk (H.length + 1) (by omega) (fun hh => by have := nA _ hh; omega)).trans hRQ
        have w5 := fun vs hv => wr_setB (lo := H.length) hR4 (by omega) vs hv
        have w6 := fun vs hv => rdN_setB hR4 4 vs hv
        subst hHQ hHA
        simp -implicitDefEqProofs only [v69, VMs, noRef, noRef1, isRef, List.all_cons, List.all_nil, vop, VOp.still, VOp.app, VOp.plain, allP, lof, evs, start, asI, vbin, vcells, ntup, setAll, vfill, vress, vres, tup, Nat.reduceEqDiff, ↓reduceIte, Nat.reduceAdd, Nat.reduceMul, Nat.reduceLeDiff, reduceCtorEq, List.getElem?_toArray, vdr, cP, c1, bne_self_eq_false, cB, lt0, c2, hle, c4, z20, l4Bad_c, w5, w6]
        exact ⟨_, _, rfl, NewR.nil _ _ _⟩
      | some x =>
        obtain ⟨r, F'⟩ := x
        obtain ⟨H4, a', ps', B', c4, m4, e4, f4, _⟩ := s2 r F' hpf
        have hR4 := (f4.blk (H.length + 1) (by omega) (fun hh => by have := nA _ hh; omega)).trans hRQ
        have w5 := fun vs hv => wr_setB (lo := H.length) hR4 (by omega) vs hv
        have w6 := fun vs hv => rdN_setB hR4 4 vs hv
        have g4 := m4.pf.rdN
        have fH4 : Fn H H4 := f4.fn (fA.trans fQ) (fun i hi => by have := nA i hi; omega)
        have hn := m4.newR fH4 (by omega) hR4 (by omega) (by omega) 0 r
        rw [e4] at hn
        subst hHQ hHA
        simp -implicitDefEqProofs only [v69, VMs, vop, VOp.still, VOp.app, VOp.plain, allP, lof, evs, start, asI, vbin, vcells, ntup, setAll, vfill, vress, vres, tup, Nat.reduceEqDiff, ↓reduceIte, Nat.reduceAdd, Nat.reduceMul, Nat.reduceLeDiff, reduceCtorEq, List.getElem?_toArray, vdr, cP, c1, bne_self_eq_false, cB, lt0, c2, hle, c4, g4, w5, w6]
        exact ⟨_, _, rfl, hn.done⟩
  · have h0' : (askF F root (decide (0 ≤ at_ ∧ at_ ≤ 15)) != 0) = true := by rw [bne_iff_ne]; exact h0
    rw [if_neg h0]
    subst hHA
    simp -implicitDefEqProofs only [v69, VMs, noRef, noRef1, isRef, List.all_cons, List.all_nil, vop, VOp.still, VOp.app, VOp.plain, allP, lof, evs, start, asI, vbin, vcells, ntup, setAll, vfill, vress, vres, tup, Nat.reduceEqDiff, ↓reduceIte, Nat.reduceAdd, Nat.reduceMul, Nat.reduceLeDiff, reduceCtorEq, vdr, cP, c1, h0', l4Bad_c]
    exact ⟨_, _, rfl, NewR.nil _ _ _⟩
end Go.Proofs.Ytmcljallamhccaa.V
