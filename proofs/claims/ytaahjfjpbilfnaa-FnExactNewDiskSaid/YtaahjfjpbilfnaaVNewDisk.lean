/- NewDisk: the law. -/
import Derived.Test.YtaahjfjpbilfnaaVNC
namespace Go.Proofs.Ytaahjfjpbilfnaa.V
open Go
set_option linter.unusedVariables false
set_option linter.unusedSimpArgs false
set_option maxRecDepth 100000
theorem cellN {H H' : Hp} {cs : List Value} (hf : Fn (H ++ [some ⟨cs, true, false⟩]) H') (n : Nat) (h : n = cs.length) : V.rdN H' ⟨H.length, 0, none⟩ n = some cs := by
  rw [hf.rdN H.length 0 n (by simp) id]; simp [rdN0, h]
set_option maxHeartbeats 4000000 in
/-- The law. -/
theorem law_c (d lo : Nat) (H : Hp) {a : Option Addr} {w : List Int} (h : Rep EI 1 H a w.length w) (hw : w.length * 8 ≤ 140737488351232) : vcall env (d + 9) 6 [.slice a w.length (sg a 1)] lo H = some (.bool true, H) := by
  rw [call_eq find6 _ _ _ rfl]
  by_cases hbig : 1048576 < w.length
  · have hb : decide (((w.length : Nat) : Int) > 1048576) = true := decide_eq_true (by omega)
    simp -implicitDefEqProofs only [v6, VMs, noRef, noRef1, isRef, List.all_cons, List.all_nil, vop, VOp.still, VOp.app, VOp.plain, allP, lof, evs, start, asI, vbin, vcells, ntup, setAll, vfill, vress, vres, tup, Nat.reduceEqDiff, ↓reduceIte, Nat.reduceAdd, Nat.reduceMul, Nat.reduceLeDiff, reduceCtorEq, slen, hb]
  have hn : w.length ≤ 1048576 := by omega
  have hb : decide (((w.length : Nat) : Int) > 1048576) = false := decide_eq_false (by omega)
  have hsm : Sm w.length := by unfold Sm; omega
  have sdD := resND_sd hn
  have km := resND_km hn
  obtain ⟨H1, c1, f1, l1, _, r1⟩ := toInt64S_c (d + 7) H.length H a w.length w h hsm hw
  obtain ⟨v2, H2, c2, S2, T2, aw2, nw2, ap2, np2, rfl, f2, g2, o2⟩ := specNewDisk_c (d + 4) H.length H1 r1 hn
  generalize hc : (resND w).1 = c at *
  generalize hD : (resND w).2 = D at *
  have l2 := f2.len
  obtain ⟨C3, hC3⟩ : ∃ C3 : List Value, C3 = [.int .i64 c, .slice aw2 nw2 (sg aw2 1), .slice ap2 np2 (sg ap2 2)] := ⟨_, rfl⟩
  obtain ⟨H3, hH3⟩ : ∃ H3 : Hp, H3 = H2 ++ [some ⟨C3, true, false⟩] := ⟨_, rfl⟩
  have f3 : Fn H2 H3 := hH3 ▸ Fr.app
  have l3 : H3.length = H2.length + 1 := by rw [hH3]; simp
  have F3 : Fn H H3 := f1.trans (f2.trans f3)
  have k3 : ∀ X, Fn H3 X → rdN X ⟨H2.length, 0, none⟩ 3 = some [.int .i64 c, .slice aw2 nw2 (sg aw2 1), .slice ap2 np2 (sg ap2 2)] := fun X f => by
    rw [hH3] at f; rw [cellN f 3 (by rw [hC3]; rfl), hC3]
  obtain ⟨H4, c4, f4, l4, wb4, r4⟩ := toInt64S_c (d + 7) H.length H3 a w.length w (h.fnI F3) hsm hw
  obtain ⟨v5, H5, c5, S5, T5, aw5, nw5, ap5, np5, rfl, f5, g5, o5⟩ := implNewDisk_c d H.length H4 r4 hn
  rw [hc] at c5
  rw [hD] at o5
  have l5 := f5.len
  obtain ⟨C5, hC5⟩ : ∃ C5 : List Value, C5 = [.int .i64 c, .slice aw5 nw5 (sg aw5 1), .slice ap5 np5 (sg ap5 2)] := ⟨_, rfl⟩
  obtain ⟨H6, hH6⟩ : ∃ H6 : Hp, H6 = H5 ++ [some ⟨C5, true, false⟩] := ⟨_, rfl⟩
  have f6 : Fn H5 H6 := hH6 ▸ Fr.app
  have l6 : H6.length = H5.length + 1 := by rw [hH6]; simp
  have F36 : Fn H3 H6 := f4.trans (f5.trans f6)
  have k6 : ∀ X, Fn H6 X → rdN X ⟨H5.length, 0, none⟩ 3 = some [.int .i64 c, .slice aw5 nw5 (sg aw5 1), .slice ap5 np5 (sg ap5 2)] := fun X f => by
    rw [hH6] at f; rw [cellN f 3 (by rw [hC5]; rfl), hC5]
  have b6 : H6.blk H5.length = some ⟨C5, true, false⟩ := by rw [hH6]; exact blk0
  have b3 : H3.blk H2.length = some ⟨C3, true, false⟩ := by rw [hH3]; exact blk0
  have rd2 := o2.rd.fn f3
  have rd26 := rd2.fn F36
  have rd56 := o5.rd.fn f6
  have e6 := eqDiskResult_c (d + 4) H.length H6 c c rd56 rd26 sdD
  obtain ⟨H7, c7, f7, l7, _, r7⟩ := toInt64S_c (d + 7) H.length H6 a w.length w (h.fnI (F3.trans F36)) hsm hw
  have r47 := r4.fnI (f5.trans (f6.trans f7))
  have e7 := eqInt64S_c (d + 7) H.length H7 _ _ _ _ _ _ r47 r7 hsm
  -- marks on the argument's copy
  have wb7 : WB H.length H7 H3.length := (((wb4.fn _ f5).fn _ f6).fn _ f7).lo (by omega)
  obtain ⟨H8, c8, l8, f8, r8⟩ := markInt64S_c (d + 7) H.length H7 (· = H3.length) (some ⟨H3.length, 0, none⟩) w.length w 1 r47 (fun _ i o e => by cases e; exact ⟨wb7, rfl⟩) hsm (by omega) (by unfold Km; omega)
  have p8 : decide ((1 : Int) + ((w.length : Nat) : Int) < 0) = false := decide_eq_false (by omega)
  have o57 := (o5.fr (U := fun _ => False) (fun _ _ => id) f6).fr (U := fun _ => False) (fun _ _ => id) f7
  have o58 := (o57.fr (U := (· = H3.length)) (fun j hj e => by have := g5 j hj; omega) f8).lo (show H.length ≤ H4.length by omega)
  have o27 : DO H1.length H7 S2 T2 aw2 nw2 ap2 np2 D := o2.fr (U := fun _ => False) (fun _ _ => id) (f3.trans (F36.trans f7))
  have o28 := o27.fr (U := (· = H3.length)) (fun j hj e => by have := o2.lt j hj; omega) f8
  have e8 := eqDiskResult_c (d + 4) H.length H8 c c o58.rd o28.rd sdD
  have k38 : rdN H8 ⟨H2.length, 0, none⟩ 3 = some [.int .i64 c, .slice aw2 nw2 (sg aw2 1), .slice ap2 np2 (sg ap2 2)] := by
    rw [f8.rdN _ _ _ (by omega) (by omega)]; exact k3 H7 (F36.trans f7)
  have k68 : rdN H8 ⟨H5.length, 0, none⟩ 3 = some [.int .i64 c, .slice aw5 nw5 (sg aw5 1), .slice ap5 np5 (sg ap5 2)] := by
    rw [f8.rdN _ _ _ (by omega) (by omega)]; exact k6 H7 f7
  -- marks on the program's disk
  obtain ⟨H9, c9, f9, r9⟩ := markDiskResult_c (d + 5) H.length H8 S5 T5 c 1 o58 sdD (by omega) km
  have l9 := f9.len
  have h9 := heldDiskResult_c (d + 5) H.length H9 c 1 r9 sdD (by omega) km
  have sn := sD_nonneg D
  have p9 : decide ((1 : Int) + sD D < 0) = false := decide_eq_false (by omega)
  have hS5 : ∀ j, S5 j ∨ T5 j → H4.length ≤ j ∧ j < H5.length := fun j hj => ⟨g5 j hj, o5.lt j hj⟩
  have k39 : rdN H9 ⟨H2.length, 0, none⟩ 3 = some [.int .i64 c, .slice aw2 nw2 (sg aw2 1), .slice ap2 np2 (sg ap2 2)] := by
    rw [f9.rdN _ _ _ (by omega) (fun hj => by have := hS5 _ hj; omega)]; exact k38
  have k69 : rdN H9 ⟨H5.length, 0, none⟩ 3 = some [.int .i64 c, .slice aw5 nw5 (sg aw5 1), .slice ap5 np5 (sg ap5 2)] := by
    rw [f9.rdN _ _ _ (by omega) (fun hj => by have := hS5 _ hj; omega)]; exact k68
  have o29 := o28.fr (U := fun i => S5 i ∨ T5 i) (fun j hj hu => by have := hS5 _ hu; have := o2.lt j hj; omega) f9
  have F09 : Fn H H9 := by
    have hA : Fr (fun i => i = H3.length ∨ S5 i ∨ T5 i) H7 H9 := (f8.mono fun i e => Or.inl e).trans (f9.mono fun i e => Or.inr e)
    exact (((F3.trans F36).trans f7).no.trans hA).new (fun j hj => by
      rcases hj with e | e
      · omega
      · have := hS5 _ e; omega)
  obtain ⟨H10, c10, f10, l10, _, r10⟩ := toInt64S_c (d + 7) H.length H9 a w.length w (h.fnI F09) hsm hw
  obtain ⟨v11, H11, c11, S11, T11, aw11, nw11, ap11, np11, rfl, f11, g11, o11⟩ := implNewDisk_c d H.length H10 r10 hn
  rw [hc] at c11
  rw [hD] at o11
  have l11 := f11.len
  obtain ⟨C11, hC11⟩ : ∃ C11 : List Value, C11 = [.int .i64 c, .slice aw11 nw11 (sg aw11 1), .slice ap11 np11 (sg ap11 2)] := ⟨_, rfl⟩
  obtain ⟨H12, hH12⟩ : ∃ H12 : Hp, H12 = H11 ++ [some ⟨C11, true, false⟩] := ⟨_, rfl⟩
  have f12 : Fn H11 H12 := hH12 ▸ Fr.app
  have F912 : Fn H9 H12 := f10.trans (f11.trans f12)
  have k12 : rdN H12 ⟨H11.length, 0, none⟩ 3 = some [.int .i64 c, .slice aw11 nw11 (sg aw11 1), .slice ap11 np11 (sg ap11 2)] := by
    rw [cellN (H := H11) (cs := C11) (by rw [← hH12]; exact Fr.refl) 3 (by rw [hC11]; rfl), hC11]
  have k312 := (F912.rdN H2.length 0 3 (by omega) id).trans k39
  have k612 := (F912.rdN H5.length 0 3 (by omega) id).trans k69
  have e12 := eqDiskResult_c (d + 4) H.length H12 c c (o11.rd.fn f12) (o29.rd.fn F912) sdD
  have h12 := heldDiskResult_c (d + 5) H.length H12 c 1 (r9.fn F912) sdD (by omega) km
  have k66 := k6 H6 Fr.refl
  have k36 := k3 H6 F36
  have hle2 : (H.length ≤ H2.length) = True := eq_true (by omega)
  have hle5 : (H.length ≤ H5.length) = True := eq_true (by omega)
  have hle11 : (H.length ≤ H11.length) = True := eq_true (by omega)
  clear k3 k6
  subst hH12 hH6 hH3 hC3 hC5 hC11
  simp only [sgs, and_self, decide_true] at e6 e7 e8 e12 c2 c5 c8 c11
  simp only [List.length_append, List.length_cons, List.length_nil, Nat.zero_add] at c4 c5 e7 c8 c7
  simp -implicitDefEqProofs only [v6, VMs, noRef, noRef1, isRef, List.all_cons, List.all_nil, vop, VOp.still, VOp.app, VOp.plain, allP, lof, evs, start, asI, vbin, vcells, ntup, setAll, vfill, vress, vres, tup, Nat.reduceEqDiff, ↓reduceIte, Nat.reduceAdd, Nat.reduceMul, Nat.reduceLeDiff, reduceCtorEq, slen, hb, c1, c2, hle2, c4, c5, hle5, k66, k36, e6, c7, e7, c8, p8, k68, k38, e8, c9, h9, k69, p9, bne_self_eq_false, c10, c11, hle11, k12, k312, e12, k612, h12]
end Go.Proofs.Ytaahjfjpbilfnaa.V
