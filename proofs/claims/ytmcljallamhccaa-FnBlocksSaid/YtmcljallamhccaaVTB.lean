/- Choices that the bytes make; lists of blocks that they draw. -/
import Derived.Test.YtmcljallamhccaaVTA
namespace Go.Proofs.Ytmcljallamhccaa.V
open Go
set_option linter.unusedVariables false
set_option linter.unusedSimpArgs false
set_option maxRecDepth 100000
theorem l1Chance_c (d lo : Nat) (H : Hp) {q : Nat} {ac : Option Addr} {code : List Int} {k : Nat} (h : Src H q ac code k) (hlo : lo ≤ q) (hk : k ≤ 1000000000) (n : Int) :
    vcall env (d + 2) 133 [.pointer (some ⟨q, 0, none⟩), .int .i64 n] lo H = some (.bool (nextV code k n == 0), srcB H q ac code (k + 1)) := by
  rw [call_eq find133 _ _ _ rfl]
  simp -implicitDefEqProofs only [v133, VMs, noRef, noRef1, isRef, List.all_cons, List.all_nil, vop, VOp.still, VOp.app, VOp.plain, allP, lof, evs, start, asI, vbin, vcells, ntup, setAll, vfill, vress, vres, tup, Nat.reduceEqDiff, ↓reduceIte, Nat.reduceAdd, Nat.reduceMul, Nat.reduceLeDiff, reduceCtorEq, l1Next_c d lo H h hlo hk n]
def pickV (code : List Int) (k : Nat) (L : List Int) : Int := (L[(nextV code k (L.length : Int)).toNat]?).getD 0
theorem l1Pick_c (d lo : Nat) (H : Hp) {q : Nat} {ac al : Option Addr} {code L : List Int} {k : Nat} (h : Src H q ac code k) (hlo : lo ≤ q) (hk : k ≤ 1000000000) (hL : Rep EI 1 H al L.length L) (hL0 : 0 < L.length) (hq : ∀ i, Ad al i → i ≠ q) :
    vcall env (d + 2) 95 [.pointer (some ⟨q, 0, none⟩), .slice al L.length (sg al 1)] lo H = some (.int .i64 (pickV code k L), srcB H q ac code (k + 1)) := by
  obtain ⟨s1, f1, l1⟩ := h.next (k + 1)
  obtain ⟨a1, a2⟩ := nextV_in h.y k (n := (L.length : Int)) (by omega)
  have c := l1Next_c d lo H h hlo hk (L.length : Int)
  unfold pickV
  obtain ⟨z, hz⟩ : ∃ z : Nat, nextV code k (L.length : Int) = (z : Int) := ⟨_, (Int.toNat_of_nonneg a1).symm⟩
  rw [hz] at a2 c ⊢
  have hzl : z < L.length := by omega
  obtain ⟨i, o, rfl, e⟩ := (hL.fr hq f1).at hzl
  simp only [EI, Nat.mul_one] at e
  rw [Int.toNat_natCast, getE hzl, Option.getD_some, call_eq find95 _ _ _ rfl]
  simp -implicitDefEqProofs only [v95, VMs, noRef, noRef1, isRef, List.all_cons, List.all_nil, vop, VOp.still, VOp.app, VOp.plain, allP, lof, evs, start, asI, vbin, vcells, ntup, setAll, vfill, vress, vres, tup, Nat.reduceEqDiff, ↓reduceIte, Nat.reduceAdd, Nat.reduceMul, Nat.reduceLeDiff, reduceCtorEq, slen, c, ltc hzl, ge0, Int.toNat_natCast, Nat.mul_one, e]
theorem l1Source_c (d lo : Nat) (H : Hp) {ac : Option Addr} {code : List Int} (hc : Rep EY 1 H ac code.length code) (hy : ∀ x ∈ code, 0 ≤ x ∧ x ≤ 255) (hn : code.length ≤ 1048577) :
    ∃ H', vcall env (d + 1) 93 [.slice ac code.length (sg ac 1)] lo H = some (.pointer (some ⟨H.length, 0, none⟩), H') ∧ Fn H H' ∧ H'.length = H.length + 1 ∧ Src H' H.length ac code 0 := by
  refine ⟨H ++ [some ⟨[.slice ac code.length (sg ac 1), .int .i64 0], true, false⟩], ?_, Fr.app, by simp, by rw [blk0]; rfl, hc.app fun _ _ _ => EY.app, hy, hn, fun i hi hl => ?_⟩
  · rw [call_eq find93 _ _ _ rfl]
    simp -implicitDefEqProofs only [v93, VMs, noRef, noRef1, isRef, List.all_cons, List.all_nil, vop, VOp.still, VOp.app, VOp.plain, allP, lof, evs, start, asI, vbin, vcells, ntup, setAll, vfill, vress, vres, tup, Nat.reduceEqDiff, ↓reduceIte, Nat.reduceAdd, Nat.reduceMul, Nat.reduceLeDiff, reduceCtorEq]
  · obtain ⟨i', o, ha, h2⟩ := hc.2 hl
    obtain ⟨o', e⟩ := hi
    rw [ha] at e; cases e
    obtain ⟨x, r, rfl⟩ := List.exists_cons_of_ne_nil hl
    have := rd_lt (h2 0 x rfl)
    omega
/-- A block of a list in own memory is written, in part. -/
theorem Hd.wrB {lo L : Nat} {H : Hp} {a : Option Addr} {l : List Bk} (h : Hd L H a l.length 2 (vB l)) (hL : lo ≤ L) {j : Nat} {x : Bk} (hx : l[j]? = some x) {o : Nat} {vs : List Value} (ho : o + vs.length ≤ 2) (y : Bk) (hs : setAll (vb x) o vs = vb y) :
    ∃ t H', a = some ⟨t, 0, none⟩ ∧ L ≤ t ∧ wrN lo H ⟨t, j * 2 + o, none⟩ vs = some H' ∧ Hd L H' a (l.set j y).length 2 (vB (l.set j y)) ∧ Fr (· = t) H H' ∧ H'.length = H.length := by
  have hj : j < l.length := (List.getElem?_eq_some_iff.1 hx).1
  rcases h with ⟨_, e, _⟩ | ⟨t, k0, rfl, hb, hl, h0, hlo⟩
  · omega
  have hset := fl_set (l := l) (e := vb) vb_len hx ho hs
  have hfl := fl_len (e := vb) vb_len l
  obtain ⟨H', hH'⟩ : ∃ H' : Hp, H' = H.set t (some ⟨vB (l.set j y), true, k0⟩) := ⟨_, rfl⟩
  have hfr : Fr (· = t) H H' := hH' ▸ Fr.setC hb
  refine ⟨t, H', rfl, hlo, ?_, Or.inr ⟨t, k0, rfl, by rw [hH', blk_set (blk_lt hb), if_pos rfl], by unfold vB; rw [fl_len vb_len], by rw [List.length_set]; exact h0, hlo⟩, hfr, by rw [hH']; simp⟩
  simp only [wrN, hb, Option.bind_some]
  rw [if_pos ⟨by omega, trivial, by unfold vB; rw [hfl]; omega⟩, hH']
  unfold vB
  rw [hset]
theorem zB_vB (n : Nat) : zB n = vB (List.replicate n ⟨0, 0⟩) := by
  unfold zB vB
  rw [List.map_replicate]; rfl
/-- A list of blocks in new memory; but for what the bytes are read from, old memory stays. -/
structure DB (H H' : Hp) (q : Nat) (ac : Option Addr) (code : List Int) (k : Nat) (a : Option Addr) (l : List Bk) : Prop where
  f : Fw (· = q) H H'
  s : ∃ k', k ≤ k' ∧ k' ≤ k + 100 ∧ Src H' q ac code k'
  h : Hd H.length H' a l.length 2 (vB l)
  n : l.length ≤ 25
theorem Src.lt {H : Hp} {q : Nat} {ac : Option Addr} {code : List Int} {k : Nat} (h : Src H q ac code k) (i : Nat) (hi : Ad ac i) (hc : code ≠ []) : i < H.length := by
  obtain ⟨i', o, ha, h2⟩ := h.c.2 hc
  obtain ⟨o', e⟩ := hi
  rw [ha] at e; cases e
  obtain ⟨x, r, rfl⟩ := List.exists_cons_of_ne_nil hc
  exact rd_lt (h2 0 x rfl)
theorem Fw.q {q : Nat} {H H' : Hp} (h : Fn H H') : Fw (· = q) H H' := h.w.mono fun _ => False.elim
theorem h50 : ((5 : Nat) == 0) = false := rfl
theorem h30 : ((3 : Nat) == 0) = false := rfl
set_option maxHeartbeats 1000000 in
theorem l3Blocks_c (d lo : Nat) (H : Hp) {q : Nat} {ac : Option Addr} {code : List Int} {k : Nat} (h : Src H q ac code k) (hlo : lo ≤ q) (hk : k ≤ 900000000) :
    ∃ a l H', vcall env (d + 3) 94 [.pointer (some ⟨q, 0, none⟩)] lo H = some (.slice a l.length (sg a 2), H') ∧ DB H H' q ac code k a l := by
  have hqH := blk_lt h.b
  obtain ⟨H1, hH1⟩ : ∃ H1 : Hp, H1 = H ++ [some ⟨[], true, true⟩] := ⟨_, rfl⟩
  have f1 : Fn H H1 := hH1 ▸ Fr.app
  have l1 : H1.length = H.length + 1 := by rw [hH1]; simp
  have b1 : H1.blk H.length = some ⟨[], true, true⟩ := by rw [hH1]; exact blk0
  have c1 := l1Next_c (d + 1) lo H1 (h.fn f1) hlo (by omega) 9
  obtain ⟨s2, f2, l2⟩ := (h.fn f1).next (k + 1)
  obtain ⟨n1, n2⟩ := nextV_in h.y k (n := 9) (by omega)
  obtain ⟨m, hm⟩ : ∃ m : Nat, nextV code k 9 = (m : Int) := ⟨_, (Int.toNat_of_nonneg n1).symm⟩
  rw [hm] at n2 c1
  have b2 : (srcB H1 q ac code (k + 1)).blk H.length = some ⟨[], true, true⟩ := (f2.blk _ (by omega) (by omega)).trans b1
  have h2 : Hd H.length (srcB H1 q ac code (k + 1)) (some ⟨H.length, 0, none⟩) 0 2 (vB []) := Or.inr ⟨_, true, rfl, b2, rfl, fun _ => rfl, Nat.le_refl _⟩
  have w2 : Fw (· = q) H (srcB H1 q ac code (k + 1)) := (Fw.q f1).trans f2.w
  generalize srcB H1 q ac code (k + 1) = H2 at *
  have hloop : ∃ r, lim (rnd (vcall env (d + 2)) lo [0, 3, 4] [0, 2, 3] l94_0) [(0, .pointer (some ⟨q, 0, none⟩)), (3, .slice (some ⟨H.length, 0, none⟩) 0 2), (4, .int .i64 (m : Nat))] H2 = some r ∧
      ∃ a l H', r = (.exit 0, [(0, .pointer (some ⟨q, 0, none⟩)), (3, .slice a l.length (sg a 2))], H') ∧ Fw (· = q) H H' ∧ (∃ k', k ≤ k' ∧ k' ≤ k + 50 ∧ Src H' q ac code k') ∧ Hd H.length H' a l.length 2 (vB l) ∧ l.length ≤ 8 := by
    refine lim_inv (fun j ts H3 => ∃ a l k', ts = [(0, .pointer (some ⟨q, 0, none⟩)), (3, .slice a l.length (sg a 2)), (4, .int .i64 ((m - j : Nat) : Int))] ∧ Fw (· = q) H H3 ∧ k ≤ k' ∧ k' ≤ k + 1 + 2 * j ∧ Src H3 q ac code k' ∧ Hd H.length H3 a l.length 2 (vB l) ∧ l.length = j) m ?_ ?_ ?_
    · rintro j ts H3 hj ⟨a, l, k', rfl, w3, ka, kb, s3, hd3, hl⟩
      obtain ⟨H4, hH4⟩ : ∃ H4 : Hp, H4 = H3 ++ [some ⟨vI [0, 1, 1, 2, 200], true, false⟩] := ⟨_, rfl⟩
      have f4 : Fn H3 H4 := hH4 ▸ Fr.app
      have l4 : H4.length = H3.length + 1 := by rw [hH4]; simp
      have s4 := s3.fn f4
      have hq3 := blk_lt s3.b
      have rp : Rep EI 1 H4 (some ⟨H3.length, 0, none⟩) [0, 1, 1, 2, (200 : Int)].length [0, 1, 1, 2, 200] := repI (by rw [hH4]; exact blk0)
      have c5 := l1Pick_c d lo H4 s4 hlo (by omega) rp (by simp) (fun i ⟨o, e⟩ => by cases e; omega)
      generalize hpv : pickV code k' [0, 1, 1, 2, 200] = pv at *
      obtain ⟨s5, f5, l5⟩ := s4.next (k' + 1)
      obtain ⟨H5, hH5⟩ : ∃ H5 : Hp, H5 = srcB H4 q ac code (k' + 1) := ⟨_, rfl⟩
      rw [← hH5] at s5 f5 l5 c5
      have hlo5 : (lo ≤ H5.length) = True := eq_true (by omega)
      have hpos : ∃ z : Nat, (m - j : Nat) = z + 1 := ⟨m - j - 1, by omega⟩
      obtain ⟨z, hz⟩ := hpos
      have hg : decide (((m - j : Nat) : Int) > 0) = true := decide_eq_true (by omega)
      have hw : IntKind.i64.wrap (((m - j : Nat) : Int) - 1) = ((m - (j + 1) : Nat) : Int) := by rw [wr (by omega) (by omega)]; omega
      obtain ⟨H6, hH6⟩ : ∃ H6 : Hp, H6 = H5 ++ [some ⟨[.int .i64 pv, .int .i64 0], true, false⟩] := ⟨_, rfl⟩
      have f6 : Fn H5 H6 := hH6 ▸ Fr.app
      have l6 : H6.length = H5.length + 1 := by rw [hH6]; simp
      have b6 : H6.blk H5.length = some ⟨[.int .i64 pv, .int .i64 0], true, false⟩ := by rw [hH6]; exact blk0
      have s6 := s5.fn f6
      have w36 : Fw (· = q) H3 H6 := ((Fw.q f4).trans f5.w).trans (Fw.q f6)
      have fin : ∀ (x : Bk) (H7 : Hp) (k7 : Nat), Fw (· = q) H3 H7 → Src H7 q ac code k7 → k ≤ k7 → k7 ≤ k + 1 + 2 * (j + 1) → H5.length < H7.length → rdN H7 ⟨H5.length, 0, none⟩ 2 = some [.int .i64 x.r, .int .i64 x.d] → H3.length ≤ H7.length →
          ∃ H9, vappend 2 16 lo (H7 ++ [some ⟨[.int .i64 x.r, .int .i64 x.d], true, false⟩]) (.slice a l.length (sg a 2)) (.slice (some ⟨H7.length, 0, none⟩) 1 2) = some (.slice (some ⟨H7.length + 1, 0, none⟩) (l.length + 1) 2, H9) ∧
            ∃ a' l' k'', (some ⟨H7.length + 1, 0, none⟩ : Option Addr) = a' ∧ l'.length = l.length + 1 ∧ Fw (· = q) H H9 ∧ k ≤ k'' ∧ k'' ≤ k + 1 + 2 * (j + 1) ∧ Src H9 q ac code k'' ∧ Hd H.length H9 a' l'.length 2 (vB l') ∧ l'.length = j + 1 := by
        intro x H7 k7 w7 s7 k7a k7b l7 r7 l37
        obtain ⟨H8, hH8⟩ : ∃ H8 : Hp, H8 = H7 ++ [some ⟨[.int .i64 x.r, .int .i64 x.d], true, false⟩] := ⟨_, rfl⟩
        have f8 : Fn H7 H8 := hH8 ▸ Fr.app
        have l8 : H8.length = H7.length + 1 := by rw [hH8]; simp
        have hl3 := w3.len
        have hd8 : Hd H.length H8 a l.length 2 (vB l) := hd3.fw (w7.trans (Fw.q f8)) (fun i hi e => by have := (hd3.lt hi).1; omega)
        obtain ⟨H9, ha, l9, hd9, f9, b9⟩ := app_hd (st := 2) (by_ := 16) (m := 1) (M := vb x) (y := .slice (some ⟨H7.length, 0, none⟩) 1 2) hd8 rfl (by rw [hH8]; simp [scells, rdN0, vb]) (by omega) rfl (fits_small (by omega)) (by omega)
        have w9 : Fw (· = q) H H9 := by
          refine ⟨by have := w3.len; omega, fun i hi hs => ?_⟩
          have e1 := b9 i (fun o e => by have := (hd3.lt ⟨o, e⟩).1; omega) (by omega)
          exact e1.trans (((w3.trans w7).trans (Fw.q f8)).blk i hi hs)
        have s9 : Src H9 q ac code k7 := by
          have s8 := s7.fn f8
          have key : Fw (fun i => Ad a i ∨ H8.length ≤ i) H8 H9 := ⟨by omega, fun i hi hs => b9 i (fun o e => hs (Or.inl ⟨o, e⟩)) hi⟩
          refine s8.fw key (fun hh => ?_) (fun i hi hc hh => ?_)
          · rcases hh with hh | hh
            · have := (hd3.lt hh).1; omega
            · omega
          · have hic := h.lt i hi hc
            rcases hh with hh | hh
            · have := (hd3.lt hh).1; omega
            · omega
        rw [l8] at ha
        subst hH8
        refine ⟨H9, vappend_lo (by omega) ha, some ⟨H7.length + 1, 0, none⟩, l ++ [x], k7, rfl, by simp, w9, k7a, k7b, s9, ?_, by simp; omega⟩
        have e : vB (l ++ [x]) = vB l ++ vb x := by simp [vB]
        rw [e, List.length_append]
        rw [l8] at hd9
        exact hd9
      have e60 : rd H6 ⟨H5.length, 0, none⟩ = some (.int .i64 pv) := by simp only [rd, b6, Option.bind_some, getc0]
      by_cases hp : pv > 0
      · have hd : decide (pv > 0) = true := decide_eq_true hp
        have c7 := l1Next_c (d + 1) lo H6 s6 hlo (by omega) 256
        obtain ⟨s7, f7, l7⟩ := s6.next (k' + 2)
        rw [show k' + 1 + 1 = k' + 2 by omega] at c7
        generalize nextV code (k' + 1) 256 = dv at *
        obtain ⟨H7, hH7⟩ : ∃ H7 : Hp, H7 = srcB H6 q ac code (k' + 2) := ⟨_, rfl⟩
        rw [← hH7] at s7 f7 l7 c7
        have b7 : H7.blk H5.length = some ⟨[.int .i64 pv, .int .i64 0], true, false⟩ := (f7.blk _ (by omega) (by omega)).trans b6
        have w8 := wr_at (lo := lo) (o := 1) b7 (by omega) [.int .i64 dv] (by simp)
        obtain ⟨H8, hH8⟩ : ∃ H8 : Hp, H8 = setB H7 H5.length (setAll [.int .i64 pv, .int .i64 0] 1 [.int .i64 dv]) := ⟨_, rfl⟩
        have f8 : Fr (· = H5.length) H7 H8 := hH8 ▸ Fr.setB b7 _
        have l8 : H8.length = H7.length := by rw [hH8, setB_len]
        have r8 : rdN H8 ⟨H5.length, 0, none⟩ 2 = some [.int .i64 pv, .int .i64 dv] := hH8 ▸ rdN_setB b7 2 _ rfl
        rw [← hH8] at w8
        have w38 : Fw (· = q) H3 H8 := (w36.trans f7.w).then f8.w (fun i hi hl => by omega)
        have s8 : Src H8 q ac code (k' + 2) := s7.fw f8.w (by omega) (fun i hi hc => by have := h.lt i hi hc; have := w3.len; omega)
        obtain ⟨H9, ha, a', l', k'', rfl, hl', w9, k9a, k9b, s9, hd9, hl9⟩ := fin ⟨pv, dv⟩ H8 (k' + 2) w38 s8 (by omega) (by omega) (by omega) r8 (by omega)
        refine ⟨_, H9, ?_, _, l', k'', rfl, w9, k9a, k9b, s9, hd9, hl9⟩
        subst hH6 hH4
        simp only [List.length_append, List.length_cons, List.length_nil, Nat.zero_add, sgs, vI, List.map_cons, List.map_nil, List.append_assoc, List.cons_append, List.nil_append] at c5 c7 ha w8 e60 r8 l5
        simp -implicitDefEqProofs only [rnd, l94_0, VMs, noRef, noRef1, isRef, List.all_cons, List.all_nil, vop, VOp.still, VOp.app, VOp.plain, allP, lof, evs, start, asI, vbin, vcells, ntup, setAll, vfill, vress, vres, tup, Nat.reduceEqDiff, ↓reduceIte, Nat.reduceAdd, Nat.reduceMul, Nat.reduceLeDiff, reduceCtorEq, hg, h50, Nat.reduceBEq, c5, hd, e60, c7, w8, r8, ha, hw, hl', hlo5, sgs]
      · have hd : decide (pv > 0) = false := decide_eq_false hp
        have r6 : rdN H6 ⟨H5.length, 0, none⟩ 2 = some [.int .i64 pv, .int .i64 0] := rdN2 e60 (by simp only [rd, b6, Option.bind_some, getcs, getc0])
        obtain ⟨H9, ha, a', l', k'', rfl, hl', w9, k9a, k9b, s9, hd9, hl9⟩ := fin ⟨pv, 0⟩ H6 (k' + 1) w36 s6 (by omega) (by omega) (by omega) r6 (by omega)
        refine ⟨_, H9, ?_, _, l', k'', rfl, w9, k9a, k9b, s9, hd9, hl9⟩
        subst hH6 hH4
        simp only [List.length_append, List.length_cons, List.length_nil, Nat.zero_add, sgs, vI, List.map_cons, List.map_nil, List.append_assoc, List.cons_append, List.nil_append] at c5 ha e60 r6 l5
        simp -implicitDefEqProofs only [rnd, l94_0, VMs, noRef, noRef1, isRef, List.all_cons, List.all_nil, vop, VOp.still, VOp.app, VOp.plain, allP, lof, evs, start, asI, vbin, vcells, ntup, setAll, vfill, vress, vres, tup, Nat.reduceEqDiff, ↓reduceIte, Nat.reduceAdd, Nat.reduceMul, Nat.reduceLeDiff, reduceCtorEq, hg, h50, Nat.reduceBEq, c5, hd, e60, r6, ha, hw, hl', hlo5, sgs]
    · rintro ts H3 ⟨a, l, k', rfl, w3, ka, kb, s3, hd3, hl⟩
      have hg : decide (((m - m : Nat) : Int) > 0) = false := decide_eq_false (by omega)
      exact ⟨(.exit 0, [(0, .pointer (some ⟨q, 0, none⟩)), (3, .slice a l.length (sg a 2))], H3), by simp -implicitDefEqProofs only [rnd, l94_0, VMs, noRef, noRef1, isRef, List.all_cons, List.all_nil, vop, VOp.still, VOp.app, VOp.plain, allP, lof, evs, start, asI, vbin, vcells, ntup, setAll, vfill, vress, vres, tup, Nat.reduceEqDiff, ↓reduceIte, Nat.reduceAdd, Nat.reduceMul, Nat.reduceLeDiff, reduceCtorEq, hg], by simp, a, l, H3, rfl, w3, ⟨k', ka, by omega, s3⟩, hd3, by omega⟩
    · exact ⟨some ⟨H.length, 0, none⟩, [], k + 1, rfl, w2, by omega, by omega, s2, h2, rfl⟩
  obtain ⟨_, hl, a, l, H3, rfl, w3, ⟨k3, ka, kb, s3⟩, hd3, hl3⟩ := hloop
  have finB : ∀ (a4 : Option Addr) (l4 : List Bk) (H4 : Hp) (k4 : Nat), Fw (· = q) H H4 → Src H4 q ac code k4 → Hd H.length H4 a4 l4.length 2 (vB l4) → l4.length ≤ 25 → k ≤ k4 → k4 ≤ k + 60 →
      ∃ H5, vcall env (d + 2) 133 [.pointer (some ⟨q, 0, none⟩), .int .i64 40] lo H4 = some (.bool (nextV code k4 40 == 0), H5) ∧ DB H H5 q ac code k a4 l4 ∧ DB H (H5 ++ [some ⟨zB 25, true, false⟩]) q ac code k (some ⟨H5.length, 0, none⟩) (List.replicate 25 ⟨0, 0⟩) := by
    intro a4 l4 H4 k4 w4 s4 h4 n4 k4a k4b
    obtain ⟨s5, f5, l5⟩ := s4.next (k4 + 1)
    have w5 : Fw (· = q) H (srcB H4 q ac code (k4 + 1)) := w4.trans f5.w
    refine ⟨_, l1Chance_c d lo H4 s4 hlo (by omega) 40, ⟨w5, ⟨k4 + 1, by omega, by omega, s5⟩, h4.fw f5.w (fun i hi e => by have := (h4.lt hi).1; omega), n4⟩, ⟨w5.trans (Fw.q Fr.app), ⟨k4 + 1, by omega, by omega, s5.fn Fr.app⟩, Or.inr ⟨_, false, rfl, by rw [blk0, zB_vB]; rfl, by unfold vB; rw [fl_len vb_len], fun e => by simp at e, w5.len⟩, by simp⟩⟩
  have hm0 : (vcall env (d + 2) 96 [.pointer (some ⟨q, 0, none⟩), .int .i64 9] lo H1) = some (.int .i64 (m : Nat), H2) := c1
  have z1 : ((25 : Int)).toNat = 25 := rfl
  have z2 : ((25 : Int) == 0) = false := rfl
  have z3 : (List.replicate 25 [Value.int .i64 0, Value.int .i64 0]).flatten = zB 25 := rfl
  have z4 : (((16 : Nat) : Int) * 25 ≤ 281474976710656) = True := eq_true (by omega)
  have z5 : ((25 : Int) ≤ 4611686018427387904) = True := eq_true (by omega)
  have z6 : ((0 : Int) ≤ 25) = True := eq_true (by omega)
  have hq3 := blk_lt s3.b
  have hl3' := w3.len
  rw [call_eq find94 _ _ _ rfl]
  by_cases h0 : l.length = 0
  · have hg : decide ((l.length : Int) > 0) = false := decide_eq_false (by omega)
    obtain ⟨H5, cb, d1, d2⟩ := finB a l H3 k3 w3 s3 hd3 (by omega) (by omega) (by omega)
    subst hH1
    cases hb : (nextV code k3 40 == 0) with
    | true =>
      rw [hb] at cb
      refine ⟨_, List.replicate 25 ⟨0, 0⟩, _, ?_, d2⟩
      simp -implicitDefEqProofs only [v94, VMs, noRef, noRef1, isRef, List.all_cons, List.all_nil, vop, VOp.still, VOp.app, VOp.plain, allP, lof, evs, start, asI, vbin, vcells, ntup, setAll, vfill, vress, vres, tup, Nat.reduceEqDiff, ↓reduceIte, Nat.reduceAdd, Nat.reduceMul, Nat.reduceLeDiff, reduceCtorEq, h00, c1, vlp, hl, slen, hg, cb, z1, z2, z3, z4, z5, z6, List.length_replicate, sgs]
    | false =>
      rw [hb] at cb
      refine ⟨_, l, _, ?_, d1⟩
      simp -implicitDefEqProofs only [v94, VMs, noRef, noRef1, isRef, List.all_cons, List.all_nil, vop, VOp.still, VOp.app, VOp.plain, allP, lof, evs, start, asI, vbin, vcells, ntup, setAll, vfill, vress, vres, tup, Nat.reduceEqDiff, ↓reduceIte, Nat.reduceAdd, Nat.reduceMul, Nat.reduceLeDiff, reduceCtorEq, h00, c1, vlp, hl, slen, hg, cb]
  have hg : decide ((l.length : Int) > 0) = true := decide_eq_true (by omega)
  have c2 := l1Next_c (d + 1) lo H3 s3 hlo (by omega) 16
  obtain ⟨s4, f4, l4⟩ := s3.next (k3 + 1)
  obtain ⟨H4, hH4⟩ : ∃ H4 : Hp, H4 = srcB H3 q ac code (k3 + 1) := ⟨_, rfl⟩
  rw [← hH4] at s4 f4 l4 c2
  have w4 : Fw (· = q) H H4 := w3.trans f4.w
  have hd4 : Hd H.length H4 a l.length 2 (vB l) := hd3.fw f4.w (fun i hi e => by have := (hd3.lt hi).1; omega)
  generalize nextV code k3 16 = v at *
  have mend : ∀ (L : List Int), L.length = 3 → ∃ pv H6, vcall env (d + 2) 95 [.pointer (some ⟨q, 0, none⟩), .slice (some ⟨H4.length, 0, none⟩) 3 1] lo (H4 ++ [some ⟨vI L, true, false⟩]) = some (.int .i64 pv, H6) ∧ Fw (· = q) H H6 ∧ Src H6 q ac code (k3 + 2) ∧ Hd H.length H6 a l.length 2 (vB l) := by
    intro L hL
    have s5 := s4.fn (Fr.app (l := [some ⟨vI L, true, false⟩]))
    have rp : Rep EI 1 (H4 ++ [some ⟨vI L, true, false⟩]) (some ⟨H4.length, 0, none⟩) L.length L := repI blk0
    have c5 := l1Pick_c d lo _ s5 hlo (by omega) (al := some ⟨H4.length, 0, none⟩) rp (by omega) (fun i hi => by obtain ⟨o, e⟩ := hi; simp only [Option.some.injEq, Addr.mk.injEq] at e; omega)
    obtain ⟨s6, f6, l6⟩ := s5.next (k3 + 1 + 1)
    rw [hL] at c5
    exact ⟨_, _, c5, (w4.trans (Fw.q Fr.app)).trans f6.w, s6, (hd4.fw (Fw.q (q := q) Fr.app) (fun i hi e => by have := (hd4.lt hi).1; omega)).fw f6.w (fun i hi e => by have := (hd4.lt hi).1; omega)⟩
  obtain ⟨x, r, hxr⟩ := List.exists_cons_of_ne_nil (show l ≠ [] by intro e; rw [e] at h0; simp at h0)
  have hx : l[0]? = some x := by rw [hxr]; rfl
  have hlt0 : ((0 : Int) < (l.length : Int)) = True := eq_true (by omega)
  have h0i : ((0 : Int) ≤ 0) = True := eq_true (by omega)
  have t0 : ((0 : Int)).toNat = 0 := rfl
  subst hH1
  by_cases v0 : v = 0
  · have hb0 : (v == 0) = true := beq_iff_eq.2 v0
    obtain ⟨pv, H6, c5, w6, s6, hd6⟩ := mend [-1, 201, 0] rfl
    obtain ⟨t, H7, rfl, ht, hw7, hd7, f7, l7⟩ := hd6.wrB (lo := lo) (by omega) hx (o := 0) (vs := [.int .i64 pv]) (by simp) ⟨pv, x.d⟩ rfl
    have w7 : Fw (· = q) H H7 := w6.then f7.w (fun i hi hl => by omega)
    have s7 : Src H7 q ac code (k3 + 2) := s6.fw f7.w (by omega) (fun i hi hc => by have := h.lt i hi hc; omega)
    obtain ⟨H8, cb, d1, d2⟩ := finB _ _ H7 (k3 + 2) w7 s7 hd7 (by simp; omega) (by omega) (by omega)
    simp only [vI, List.map_cons, List.map_nil, Nat.zero_mul, Nat.add_zero, sgs] at c5 hw7
    cases hb : (nextV code (k3 + 2) 40 == 0) with
    | true =>
      rw [hb] at cb
      refine ⟨_, List.replicate 25 ⟨0, 0⟩, _, ?_, d2⟩
      simp -implicitDefEqProofs only [v94, VMs, noRef, noRef1, isRef, List.all_cons, List.all_nil, vop, VOp.still, VOp.app, VOp.plain, allP, lof, evs, start, asI, vbin, vcells, ntup, setAll, vfill, vress, vres, tup, Nat.reduceEqDiff, ↓reduceIte, Nat.reduceAdd, Nat.reduceMul, Nat.reduceLeDiff, reduceCtorEq, h00, h30, c1, vlp, hl, slen, hg, c2, hb0, c5, hlt0, decide_true, h0i, t0, hw7, cb, z1, z2, z3, z4, z5, z6, List.length_replicate, sgs]
    | false =>
      rw [hb] at cb
      refine ⟨some ⟨t, 0, none⟩, l.set 0 ⟨pv, x.d⟩, _, ?_, d1⟩
      simp -implicitDefEqProofs only [v94, VMs, noRef, noRef1, isRef, List.all_cons, List.all_nil, vop, VOp.still, VOp.app, VOp.plain, allP, lof, evs, start, asI, vbin, vcells, ntup, setAll, vfill, vress, vres, tup, Nat.reduceEqDiff, ↓reduceIte, Nat.reduceAdd, Nat.reduceMul, Nat.reduceLeDiff, reduceCtorEq, h00, h30, c1, vlp, hl, slen, hg, c2, hb0, c5, hlt0, decide_true, h0i, t0, hw7, cb, List.length_set, sgs]
  have hb0 : (v == 0) = false := beq_eq_false_iff_ne.2 v0
  by_cases v1 : v = 1
  · have hb1 : (v == 1) = true := beq_iff_eq.2 v1
    obtain ⟨pv, H6, c5, w6, s6, hd6⟩ := mend [-1, 256, 5] rfl
    obtain ⟨t, H7, rfl, ht, hw7, hd7, f7, l7⟩ := hd6.wrB (lo := lo) (by omega) hx (o := 1) (vs := [.int .i64 pv]) (by simp) ⟨x.r, pv⟩ rfl
    have w7 : Fw (· = q) H H7 := w6.then f7.w (fun i hi hl => by omega)
    have s7 : Src H7 q ac code (k3 + 2) := s6.fw f7.w (by omega) (fun i hi hc => by have := h.lt i hi hc; omega)
    obtain ⟨H8, cb, d1, d2⟩ := finB _ _ H7 (k3 + 2) w7 s7 hd7 (by simp; omega) (by omega) (by omega)
    simp only [vI, List.map_cons, List.map_nil, Nat.zero_mul, Nat.zero_add, sgs] at c5 hw7
    cases hb : (nextV code (k3 + 2) 40 == 0) with
    | true =>
      rw [hb] at cb
      refine ⟨_, List.replicate 25 ⟨0, 0⟩, _, ?_, d2⟩
      simp -implicitDefEqProofs only [v94, VMs, noRef, noRef1, isRef, List.all_cons, List.all_nil, vop, VOp.still, VOp.app, VOp.plain, allP, lof, evs, start, asI, vbin, vcells, ntup, setAll, vfill, vress, vres, tup, Nat.reduceEqDiff, ↓reduceIte, Nat.reduceAdd, Nat.reduceMul, Nat.reduceLeDiff, reduceCtorEq, h00, h30, c1, vlp, hl, slen, hg, c2, hb0, hb1, c5, hlt0, decide_true, h0i, t0, hw7, cb, z1, z2, z3, z4, z5, z6, List.length_replicate, sgs]
    | false =>
      rw [hb] at cb
      refine ⟨some ⟨t, 0, none⟩, l.set 0 ⟨x.r, pv⟩, _, ?_, d1⟩
      simp -implicitDefEqProofs only [v94, VMs, noRef, noRef1, isRef, List.all_cons, List.all_nil, vop, VOp.still, VOp.app, VOp.plain, allP, lof, evs, start, asI, vbin, vcells, ntup, setAll, vfill, vress, vres, tup, Nat.reduceEqDiff, ↓reduceIte, Nat.reduceAdd, Nat.reduceMul, Nat.reduceLeDiff, reduceCtorEq, h00, h30, c1, vlp, hl, slen, hg, c2, hb0, hb1, c5, hlt0, decide_true, h0i, t0, hw7, cb, List.length_set, sgs]
  have hb1 : (v == 1) = false := beq_eq_false_iff_ne.2 v1
  obtain ⟨H8, cb, d1, d2⟩ := finB _ _ H4 (k3 + 1) w4 s4 hd4 (by omega) (by omega) (by omega)
  cases hb : (nextV code (k3 + 1) 40 == 0) with
  | true =>
    rw [hb] at cb
    refine ⟨_, List.replicate 25 ⟨0, 0⟩, _, ?_, d2⟩
    simp -implicitDefEqProofs only [v94, VMs, noRef, noRef1, isRef, List.all_cons, List.all_nil, vop, VOp.still, VOp.app, VOp.plain, allP, lof, evs, start, asI, vbin, vcells, ntup, setAll, vfill, vress, vres, tup, Nat.reduceEqDiff, ↓reduceIte, Nat.reduceAdd, Nat.reduceMul, Nat.reduceLeDiff, reduceCtorEq, h00, c1, vlp, hl, slen, hg, c2, hb0, hb1, cb, z1, z2, z3, z4, z5, z6, List.length_replicate, sgs]
  | false =>
    rw [hb] at cb
    refine ⟨a, l, _, ?_, d1⟩
    simp -implicitDefEqProofs only [v94, VMs, noRef, noRef1, isRef, List.all_cons, List.all_nil, vop, VOp.still, VOp.app, VOp.plain, allP, lof, evs, start, asI, vbin, vcells, ntup, setAll, vfill, vress, vres, tup, Nat.reduceEqDiff, ↓reduceIte, Nat.reduceAdd, Nat.reduceMul, Nat.reduceLeDiff, reduceCtorEq, h00, c1, vlp, hl, slen, hg, c2, hb0, hb1, cb]
end Go.Proofs.Ytmcljallamhccaa.V
