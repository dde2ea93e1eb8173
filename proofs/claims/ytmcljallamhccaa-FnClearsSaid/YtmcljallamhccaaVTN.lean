import Derived.Test.YtmcljallamhccaaVDU
import Derived.Test.YtmcljallamhccaaVNewForestC
import Derived.Test.YtmcljallamhccaaVWalkTreeC
/-! The bytes of a code, read one by one. -/
namespace Go.Proofs.Ytmcljallamhccaa.V
open Go
set_option linter.unusedVariables false
set_option linter.unusedSimpArgs false
set_option maxRecDepth 100000
def EY (H : Hp) (i o : Nat) (x : Int) : Prop := rd H ⟨i, o, none⟩ = some (.int .u8 x)
theorem EY.app {H : Hp} {l : List (Option Blk)} {i o : Nat} {x : Int} (h : EY H i o x) : EY (H ++ l) i o x := rd_app h
/-- What a code's bytes are read from: a pointer to the code and to how many were read. -/
structure Src (H : Hp) (q : Nat) (ac : Option Addr) (code : List Int) (k : Nat) : Prop where
  b : H.blk q = some ⟨[.slice ac code.length (sg ac 1), .int .i64 (k : Nat)], true, false⟩
  c : Rep EY 1 H ac code.length code
  y : ∀ x ∈ code, 0 ≤ x ∧ x ≤ 255
  n : code.length ≤ 1048577
  ne : ∀ i, Ad ac i → code ≠ [] → i ≠ q
theorem Src.fw {S : Nat → Prop} {H H' : Hp} {q : Nat} {ac : Option Addr} {code : List Int} {k : Nat} (h : Src H q ac code k) (hf : Fw S H H') (hq : ¬ S q) (hc : ∀ i, Ad ac i → code ≠ [] → ¬ S i) : Src H' q ac code k :=
  ⟨(hf.blk q (blk_lt h.b) hq).trans h.b, ⟨h.c.1, fun hl => let ⟨i, o, ha, h2⟩ := h.c.2 hl; ⟨i, o, ha, fun j x hx => (hf.rd _ _ (rd_lt (h2 j x hx)) (hc i ⟨o, ha⟩ hl)).trans (h2 j x hx)⟩⟩, h.y, h.n, h.ne⟩
theorem Src.fn {H H' : Hp} {q : Nat} {ac : Option Addr} {code : List Int} {k : Nat} (h : Src H q ac code k) (hf : Fn H H') : Src H' q ac code k := h.fw hf.w id (fun _ _ _ => id)
/-- One more was read. -/
def srcB (H : Hp) (q : Nat) (ac : Option Addr) (code : List Int) (k : Nat) : Hp := setB H q [.slice ac code.length (sg ac 1), .int .i64 (k : Nat)]
theorem Src.next {H : Hp} {q : Nat} {ac : Option Addr} {code : List Int} {k : Nat} (h : Src H q ac code k) (k' : Nat) : Src (srcB H q ac code k') q ac code k' ∧ Fr (· = q) H (srcB H q ac code k') ∧ (srcB H q ac code k').length = H.length := by
  have hf := Fr.setB h.b [.slice ac code.length (sg ac 1), .int .i64 (k' : Nat)]
  exact ⟨⟨by unfold srcB; rw [blk_setB h.b, if_pos rfl], ⟨h.c.1, fun hl => let ⟨i, o, ha, h2⟩ := h.c.2 hl; ⟨i, o, ha, fun j x hx => (hf.rd _ _ (rd_lt (h2 j x hx)) (h.ne i ⟨o, ha⟩ hl)).trans (h2 j x hx)⟩⟩, h.y, h.n, h.ne⟩, hf, setB_len⟩
def byteAt (code : List Int) (k : Nat) : Int := (code[k % code.length]?).getD 0
def nextV (code : List Int) (k : Nat) (n : Int) : Int :=
  if n < 1 then 0 else if code.length = 0 then ((k * 7 : Nat) : Int).tmod n
  else if n > 200 then ((byteAt code k + ((k / code.length * 37 : Nat) : Int)) * 251 + byteAt code (k + 1) * 13 + (k : Int)).tmod n
  else (byteAt code k + ((k / code.length * 37 : Nat) : Int)).tmod n
theorem byteAt_le {code : List Int} (h : ∀ x ∈ code, 0 ≤ x ∧ x ≤ 255) (k : Nat) : 0 ≤ byteAt code k ∧ byteAt code k ≤ 255 := by
  unfold byteAt
  cases hx : code[k % code.length]? with
  | none => simp
  | some x => exact h x (List.mem_of_getElem? hx)
theorem tmod_in {a n : Int} (ha : 0 ≤ a) (hn : 1 ≤ n) : 0 ≤ a.tmod n ∧ a.tmod n < n := ⟨Int.tmod_nonneg _ ha, Int.tmod_lt_of_pos _ (by omega)⟩
theorem nextV_in {code : List Int} (h : ∀ x ∈ code, 0 ≤ x ∧ x ≤ 255) (k : Nat) {n : Int} (hn : 1 ≤ n) : 0 ≤ nextV code k n ∧ nextV code k n < n := by
  have h1 := byteAt_le h k
  have h2 := byteAt_le h (k + 1)
  unfold nextV
  rw [if_neg (by omega)]
  by_cases h0 : code.length = 0
  · rw [if_pos h0]; exact tmod_in (by omega) hn
  · rw [if_neg h0]
    generalize k / code.length * 37 = z
    by_cases h3 : n > 200
    · rw [if_pos h3]; exact tmod_in (by omega) hn
    · rw [if_neg h3]; exact tmod_in (by omega) hn
theorem l1Next_c (d lo : Nat) (H : Hp) {q : Nat} {ac : Option Addr} {code : List Int} {k : Nat} (h : Src H q ac code k) (hlo : lo ≤ q) (hk : k ≤ 1000000000) (n : Int) :
    vcall env (d + 1) 96 [.pointer (some ⟨q, 0, none⟩), .int .i64 n] lo H = some (.int .i64 (nextV code k n), srcB H q ac code (k + 1)) := by
  obtain ⟨s1, f1, l1⟩ := h.next (k + 1)
  have g0 : rd H ⟨q, 1, none⟩ = some (.int .i64 (k : Nat)) := by simp only [rd, h.b, Option.bind_some, getcs, getc0]
  have w0 := fun vs hv => wr_at (lo := lo) (o := 1) h.b hlo vs hv
  have hset : setB H q [.slice ac code.length (sg ac 1), .int .i64 ((k + 1 : Nat) : Int)] = srcB H q ac code (k + 1) := rfl
  generalize srcB H q ac code (k + 1) = H1 at *
  have e0 : rd H1 ⟨q, 0, none⟩ = some (.slice ac code.length (sg ac 1)) := by simp only [rd, s1.b, Option.bind_some, getc0]
  have e1 : rd H1 ⟨q, 1, none⟩ = some (.int .i64 ((k + 1 : Nat) : Int)) := by simp only [rd, s1.b, Option.bind_some, getcs, getc0]
  have k1 : IntKind.i64.wrap ((k : Int) + 1) = ((k + 1 : Nat) : Int) := by rw [wr (by omega) (by omega)]; rfl
  have k2 : IntKind.i64.wrap (((k + 1 : Nat) : Int) - 1) = (k : Int) := by rw [wr (by omega) (by omega)]; omega
  rw [call_eq find96 _ _ _ rfl]
  unfold nextV
  by_cases hn : n < 1
  · have hd : decide (n < 1) = true := decide_eq_true hn
    rw [if_pos hn]
    simp -implicitDefEqProofs only [v96, VMs, noRef, noRef1, isRef, List.all_cons, List.all_nil, vop, VOp.still, VOp.app, VOp.plain, allP, lof, evs, start, asI, vbin, vcells, ntup, setAll, vfill, vress, vres, tup, Nat.reduceEqDiff, ↓reduceIte, Nat.reduceAdd, Nat.reduceMul, Nat.reduceLeDiff, reduceCtorEq, g0, k1, w0, hset, hd]
  have hd : decide (n < 1) = false := decide_eq_false hn
  rw [if_neg hn]
  have hn0 : (n = 0) = False := eq_false (by omega)
  by_cases h0 : code.length = 0
  · have k3 : IntKind.i64.wrap ((k : Int) * 7) = ((k * 7 : Nat) : Int) := by rw [wr (by omega) (by omega)]; omega
    have hb : (((code.length : Nat) : Int) == 0) = true := beq_iff_eq.2 (by omega)
    rw [if_pos h0]
    simp -implicitDefEqProofs only [v96, VMs, noRef, noRef1, isRef, List.all_cons, List.all_nil, vop, VOp.still, VOp.app, VOp.plain, allP, lof, evs, start, asI, vbin, vcells, ntup, setAll, vfill, vress, vres, tup, Nat.reduceEqDiff, ↓reduceIte, Nat.reduceAdd, Nat.reduceMul, Nat.reduceLeDiff, reduceCtorEq, g0, k1, w0, hset, hd, e0, e1, k2, slen, hb, k3, hn0]
  rw [if_neg h0]
  have hb : (((code.length : Nat) : Int) == 0) = false := beq_eq_false_iff_ne.2 (by omega)
  have hc0 : (((code.length : Nat) : Int) = 0) = False := eq_false (by omega)
  have hlt := fun z : Nat => Nat.mod_lt z (show 0 < code.length by omega)
  have hrem : ∀ z : Nat, ((z : Nat) : Int).tmod ((code.length : Nat) : Int) = ((z % code.length : Nat) : Int) := fun _ => rfl
  have hdiv : ((k : Nat) : Int).tdiv ((code.length : Nat) : Int) = ((k / code.length : Nat) : Int) := rfl
  have hq := Nat.div_le_self k code.length
  generalize k / code.length = w at *
  have k4 : IntKind.i64.wrap ((w : Nat) : Int) = ((w : Nat) : Int) := wr (by omega) (by omega)
  have k5 : IntKind.i64.wrap (((w : Nat) : Int) * 37) = ((w * 37 : Nat) : Int) := by rw [wr (by omega) (by omega)]; omega
  have hat : ∀ z : Nat, ∃ i o, ac = some ⟨i, o, none⟩ ∧ rd H1 ⟨i, o + z % code.length, none⟩ = some (.int .u8 (byteAt code z)) := fun z => by
    obtain ⟨i, o, e, ex⟩ := s1.c.at (hlt z)
    refine ⟨i, o, e, ?_⟩
    unfold byteAt
    rw [getE (hlt z), Option.getD_some]
    simpa only [EY, Nat.mul_one] using ex
  obtain ⟨i, o, rfl, r0⟩ := hat k
  obtain ⟨_, _, e', r1⟩ := hat (k + 1)
  cases e'
  obtain ⟨a1, a2⟩ := byteAt_le h.y k
  obtain ⟨b1, b2⟩ := byteAt_le h.y (k + 1)
  generalize byteAt code k = x at *
  generalize byteAt code (k + 1) = y at *
  have hz : w * 37 ≤ 37000000000 := by omega
  have lk := ltc (hlt k)
  have lk1 := ltc (hlt (k + 1))
  have gk := ge0 (k % code.length)
  have gk1 := ge0 ((k + 1) % code.length)
  generalize w * 37 = z at *
  have c1 : IntKind.i64.wrap x = x := wr (by omega) (by omega)
  have c2 : IntKind.i64.wrap y = y := wr (by omega) (by omega)
  have c3 : IntKind.i64.wrap (x + (z : Int)) = x + (z : Int) := wr (by omega) (by omega)
  simp only [sgs] at e0 hset
  by_cases h2 : n > 200
  · have hd2 : decide (n > 200) = true := decide_eq_true h2
    rw [if_pos h2]
    have c4 : IntKind.i64.wrap ((x + (z : Int)) * 251) = (x + (z : Int)) * 251 := wr (by omega) (by omega)
    have c5 : IntKind.i64.wrap (y * 13) = y * 13 := wr (by omega) (by omega)
    have c6 : IntKind.i64.wrap ((x + (z : Int)) * 251 + y * 13) = (x + (z : Int)) * 251 + y * 13 := wr (by omega) (by omega)
    have c7 : IntKind.i64.wrap ((x + (z : Int)) * 251 + y * 13 + (k : Int)) = (x + (z : Int)) * 251 + y * 13 + (k : Int) := wr (by omega) (by omega)
    simp -implicitDefEqProofs only [v96, VMs, noRef, noRef1, isRef, List.all_cons, List.all_nil, vop, VOp.still, VOp.app, VOp.plain, allP, lof, evs, start, asI, vbin, vcells, ntup, setAll, vfill, vress, vres, tup, Nat.reduceEqDiff, ↓reduceIte, Nat.reduceAdd, Nat.reduceMul, Nat.reduceLeDiff, reduceCtorEq, vdr, g0, k1, w0, hset, hd, e0, e1, k2, slen, hb, hc0, hrem, hdiv, k4, k5, lk, lk1, gk, gk1, Int.toNat_natCast, Nat.mul_one, r0, r1, c1, c2, c3, c4, c5, c6, c7, hn0, hd2]
  · have hd2 : decide (n > 200) = false := decide_eq_false h2
    rw [if_neg h2]
    simp -implicitDefEqProofs only [v96, VMs, noRef, noRef1, isRef, List.all_cons, List.all_nil, vop, VOp.still, VOp.app, VOp.plain, allP, lof, evs, start, asI, vbin, vcells, ntup, setAll, vfill, vress, vres, tup, Nat.reduceEqDiff, ↓reduceIte, Nat.reduceAdd, Nat.reduceMul, Nat.reduceLeDiff, reduceCtorEq, vdr, g0, k1, w0, hset, hd, e0, e1, k2, slen, hb, hc0, hrem, hdiv, k4, k5, lk, lk1, gk, gk1, Int.toNat_natCast, Nat.mul_one, r0, c1, c3, hn0, hd2]
end Go.Proofs.Ytmcljallamhccaa.V
/-! Choices that the bytes make; lists of blocks that they draw. -/
namespace Go.Proofs.Ytmcljallamhccaa.V
open Go
set_option linter.unusedVariables false
set_option linter.unusedSimpArgs false
set_option maxRecDepth 100000
theorem l1Chance_c (d lo : Nat) (H : Hp) {q : Nat} {ac : Option Addr} {code : List Int} {k : Nat} (h : Src H q ac code k) (hlo : lo ≤ q) (hk : k ≤ 1000000000) (n : Int) :
    vcall env (d + 2) 133 [.pointer (some ⟨q, 0, none⟩), .int .i64 n] lo H = some (.bool (nextV code k n == 0), srcB H q ac code (k + 1)) := by
  rw [call_eq find133 _ _ _ rfl]
  simp -implicitDefEqProofs only [v133, VMs, noRef, noRef1, isRef, List.all_cons, List.all_nil, vop, VOp.still, VOp.app, VOp.plain, allP, lof, evs, start, asI, vbin, vcells, ntup, setAll, vfill, vress, vres, tup, Nat.reduceEqDiff, ↓reduceIte, Nat.reduceAdd, Nat.reduceMul, Nat.reduceLeDiff, reduceCtorEq, l1Next_c d lo H h hlo hk n]
def pickV (code : List Int) (k : Nat) (L : List Int) : Int := (L[(nextV code k (L.length : Int)).toNat]?).getD 0
theorem l1Pick_c (d lo : Nat) (H : Hp) {q : Nat} {ac al : Option Addr} {code L : List Int} {k : Nat} (h : Src H q ac code k) (hlo : lo ≤ q) (hk : k ≤ 1000000000) (hL : Rep EI 1 H al L.length L) (hL0 : 0 < L.length) (hq : ∀ i, Ad al i → i ≠ q) :
    vcall env (d + 2) 95 [.pointer (some ⟨q, 0, none⟩), .slice al L.length (sg al 1)] lo H = some (.int .i64 (pickV code k L), srcB H q ac code (k + 1)) := by
  obtain ⟨s1, f1, l1⟩ := h.next (k + 1)
  obtain ⟨a1, a2⟩ := nextV_in h.y k (n := (L.length : Int)) (by omega)
  have c := l1Next_c d lo H h hlo hk (L.length : Int)
  unfold pickV
  obtain ⟨z, hz⟩ : ∃ z : Nat, nextV code k (L.length : Int) = (z : Int) := ⟨_, (Int.toNat_of_nonneg a1).symm⟩
  rw [hz] at a2 c ⊢
  have hzl : z < L.length := by omega
  obtain ⟨i, o, rfl, e⟩ := (hL.fr hq f1).at hzl
  simp only [EI, Nat.mul_one] at e
  rw [Int.toNat_natCast, getE hzl, Option.getD_some, call_eq find95 _ _ _ rfl]
  simp -implicitDefEqProofs only [v95, VMs, noRef, noRef1, isRef, List.all_cons, List.all_nil, vop, VOp.still, VOp.app, VOp.plain, allP, lof, evs, start, asI, vbin, vcells, ntup, setAll, vfill, vress, vres, tup, Nat.reduceEqDiff, ↓reduceIte, Nat.reduceAdd, Nat.reduceMul, Nat.reduceLeDiff, reduceCtorEq, slen, c, ltc hzl, ge0, Int.toNat_natCast, Nat.mul_one, e]
theorem l1Source_c (d lo : Nat) (H : Hp) {ac : Option Addr} {code : List Int} (hc : Rep EY 1 H ac code.length code) (hy : ∀ x ∈ code, 0 ≤ x ∧ x ≤ 255) (hn : code.length ≤ 1048577) :
    ∃ H', vcall env (d + 1) 93 [.slice ac code.length (sg ac 1)] lo H = some (.pointer (some ⟨H.length, 0, none⟩), H') ∧ Fn H H' ∧ H'.length = H.length + 1 ∧ Src H' H.length ac code 0 := by
  refine ⟨H ++ [some ⟨[.slice ac code.length (sg ac 1), .int .i64 0], true, false⟩], ?_, Fr.app, by simp, by rw [blk0]; rfl, hc.app fun _ _ _ => EY.app, hy, hn, fun i hi hl => ?_⟩
  · rw [call_eq find93 _ _ _ rfl]
    simp -implicitDefEqProofs only [v93, VMs, noRef, noRef1, isRef, List.all_cons, List.all_nil, vop, VOp.still, VOp.app, VOp.plain, allP, lof, evs, start, asI, vbin, vcells, ntup, setAll, vfill, vress, vres, tup, Nat.reduceEqDiff, ↓reduceIte, Nat.reduceAdd, Nat.reduceMul, Nat.reduceLeDiff, reduceCtorEq]
  · obtain ⟨i', o, ha, h2⟩ := hc.2 hl
    obtain ⟨o', e⟩ := hi
    rw [ha] at e; cases e
    obtain ⟨x, r, rfl⟩ := List.exists_cons_of_ne_nil hl
    have := rd_lt (h2 0 x rfl)
    omega
/-- A block of a list in own memory is written, in part. -/
theorem Hd.wrB {lo L : Nat} {H : Hp} {a : Option Addr} {l : List Bk} (h : Hd L H a l.length 2 (vB l)) (hL : lo ≤ L) {j : Nat} {x : Bk} (hx : l[j]? = some x) {o : Nat} {vs : List Value} (ho : o + vs.length ≤ 2) (y : Bk) (hs : setAll (vb x) o vs = vb y) :
    ∃ t H', a = some ⟨t, 0, none⟩ ∧ L ≤ t ∧ wrN lo H ⟨t, j * 2 + o, none⟩ vs = some H' ∧ Hd L H' a (l.set j y).length 2 (vB (l.set j y)) ∧ Fr (· = t) H H' ∧ H'.length = H.length := by
  have hj : j < l.length := (List.getElem?_eq_some_iff.1 hx).1
  rcases h with ⟨_, e, _⟩ | ⟨t, k0, rfl, hb, hl, h0, hlo⟩
  · omega
  have hset := fl_set (l := l) (e := vb) vb_len hx ho hs
  have hfl := fl_len (e := vb) vb_len l
  obtain ⟨H', hH'⟩ : ∃ H' : Hp, H' = H.set t (some ⟨vB (l.set j y), true, k0⟩) := ⟨_, rfl⟩
  have hfr : Fr (· = t) H H' := hH' ▸ Fr.setC hb
  refine ⟨t, H', rfl, hlo, ?_, Or.inr ⟨t, k0, rfl, by rw [hH', blk_set (blk_lt hb), if_pos rfl], by unfold vB; rw [fl_len vb_len], by rw [List.length_set]; exact h0, hlo⟩, hfr, by rw [hH']; simp⟩
  simp only [wrN, hb, Option.bind_some]
  rw [if_pos ⟨by omega, trivial, by unfold vB; rw [hfl]; omega⟩, hH']
  unfold vB
  rw [hset]
theorem zB_vB (n : Nat) : zB n = vB (List.replicate n ⟨0, 0⟩) := by
  unfold zB vB
  rw [List.map_replicate]; rfl
/-- A list of blocks in new memory; but for what the bytes are read from, old memory stays. -/
structure DB (H H' : Hp) (q : Nat) (ac : Option Addr) (code : List Int) (k : Nat) (a : Option Addr) (l : List Bk) : Prop where
  f : Fw (· = q) H H'
  s : ∃ k', k ≤ k' ∧ k' ≤ k + 100 ∧ Src H' q ac code k'
  h : Hd H.length H' a l.length 2 (vB l)
  n : l.length ≤ 25
theorem Src.lt {H : Hp} {q : Nat} {ac : Option Addr} {code : List Int} {k : Nat} (h : Src H q ac code k) (i : Nat) (hi : Ad ac i) (hc : code ≠ []) : i < H.length := by
  obtain ⟨i', o, ha, h2⟩ := h.c.2 hc
  obtain ⟨o', e⟩ := hi
  rw [ha] at e; cases e
  obtain ⟨x, r, rfl⟩ := List.exists_cons_of_ne_nil hc
  exact rd_lt (h2 0 x rfl)
theorem Fw.q {q : Nat} {H H' : Hp} (h : Fn H H') : Fw (· = q) H H' := h.w.mono fun _ => False.elim
theorem h50 : ((5 : Nat) == 0) = false := rfl
theorem h30 : ((3 : Nat) == 0) = false := rfl
set_option maxHeartbeats 1000000 in
theorem l3Blocks_c (d lo : Nat) (H : Hp) {q : Nat} {ac : Option Addr} {code : List Int} {k : Nat} (h : Src H q ac code k) (hlo : lo ≤ q) (hk : k ≤ 900000000) :
    ∃ a l H', vcall env (d + 3) 94 [.pointer (some ⟨q, 0, none⟩)] lo H = some (.slice a l.length (sg a 2), H') ∧ DB H H' q ac code k a l := by
  have hqH := blk_lt h.b
  obtain ⟨H1, hH1⟩ : ∃ H1 : Hp, H1 = H ++ [some ⟨[], true, true⟩] := ⟨_, rfl⟩
  have f1 : Fn H H1 := hH1 ▸ Fr.app
  have l1 : H1.length = H.length + 1 := by rw [hH1]; simp
  have b1 : H1.blk H.length = some ⟨[], true, true⟩ := by rw [hH1]; exact blk0
  have c1 := l1Next_c (d + 1) lo H1 (h.fn f1) hlo (by omega) 9
  obtain ⟨s2, f2, l2⟩ := (h.fn f1).next (k + 1)
  obtain ⟨n1, n2⟩ := nextV_in h.y k (n := 9) (by omega)
  obtain ⟨m, hm⟩ : ∃ m : Nat, nextV code k 9 = (m : Int) := ⟨_, (Int.toNat_of_nonneg n1).symm⟩
  rw [hm] at n2 c1
  have b2 : (srcB H1 q ac code (k + 1)).blk H.length = some ⟨[], true, true⟩ := (f2.blk _ (by omega) (by omega)).trans b1
  have h2 : Hd H.length (srcB H1 q ac code (k + 1)) (some ⟨H.length, 0, none⟩) 0 2 (vB []) := Or.inr ⟨_, true, rfl, b2, rfl, fun _ => rfl, Nat.le_refl _⟩
  have w2 : Fw (· = q) H (srcB H1 q ac code (k + 1)) := (Fw.q f1).trans f2.w
  generalize srcB H1 q ac code (k + 1) = H2 at *
  have hloop : ∃ r, lim (rnd (vcall env (d + 2)) lo [0, 3, 4] [0, 2, 3] l94_0) [(0, .pointer (some ⟨q, 0, none⟩)), (3, .slice (some ⟨H.length, 0, none⟩) 0 2), (4, .int .i64 (m : Nat))] H2 = some r ∧
      ∃ a l H', r = (.exit 0, [(0, .pointer (some ⟨q, 0, none⟩)), (3, .slice a l.length (sg a 2))], H') ∧ Fw (· = q) H H' ∧ (∃ k', k ≤ k' ∧ k' ≤ k + 50 ∧ Src H' q ac code k') ∧ Hd H.length H' a l.length 2 (vB l) ∧ l.length ≤ 8 := by
    refine lim_inv (fun j ts H3 => ∃ a l k', ts = [(0, .pointer (some ⟨q, 0, none⟩)), (3, .slice a l.length (sg a 2)), (4, .int .i64 ((m - j : Nat) : Int))] ∧ Fw (· = q) H H3 ∧ k ≤ k' ∧ k' ≤ k + 1 + 2 * j ∧ Src H3 q ac code k' ∧ Hd H.length H3 a l.length 2 (vB l) ∧ l.length = j) m ?_ ?_ ?_
    · rintro j ts H3 hj ⟨a, l, k', rfl, w3, ka, kb, s3, hd3, hl⟩
      obtain ⟨H4, hH4⟩ : ∃ H4 : Hp, H4 = H3 ++ [some ⟨vI [0, 1, 1, 2, 200], true, false⟩] := ⟨_, rfl⟩
      have f4 : Fn H3 H4 := hH4 ▸ Fr.app
      have l4 : H4.length = H3.length + 1 := by rw [hH4]; simp
      have s4 := s3.fn f4
      have hq3 := blk_lt s3.b
      have rp : Rep EI 1 H4 (some ⟨H3.length, 0, none⟩) [0, 1, 1, 2, (200 : Int)].length [0, 1, 1, 2, 200] := repI (by rw [hH4]; exact blk0)
      have c5 := l1Pick_c d lo H4 s4 hlo (by omega) rp (by simp) (fun i ⟨o, e⟩ => by cases e; omega)
      generalize hpv : pickV code k' [0, 1, 1, 2, 200] = pv at *
      obtain ⟨s5, f5, l5⟩ := s4.next (k' + 1)
      obtain ⟨H5, hH5⟩ : ∃ H5 : Hp, H5 = srcB H4 q ac code (k' + 1) := ⟨_, rfl⟩
      rw [← hH5] at s5 f5 l5 c5
      have hlo5 : (lo ≤ H5.length) = True := eq_true (by omega)
      have hpos : ∃ z : Nat, (m - j : Nat) = z + 1 := ⟨m - j - 1, by omega⟩
      obtain ⟨z, hz⟩ := hpos
      have hg : decide (((m - j : Nat) : Int) > 0) = true := decide_eq_true (by omega)
      have hw : IntKind.i64.wrap (((m - j : Nat) : Int) - 1) = ((m - (j + 1) : Nat) : Int) := by rw [wr (by omega) (by omega)]; omega
      obtain ⟨H6, hH6⟩ : ∃ H6 : Hp, H6 = H5 ++ [some ⟨[.int .i64 pv, .int .i64 0], true, false⟩] := ⟨_, rfl⟩
      have f6 : Fn H5 H6 := hH6 ▸ Fr.app
      have l6 : H6.length = H5.length + 1 := by rw [hH6]; simp
      have b6 : H6.blk H5.length = some ⟨[.int .i64 pv, .int .i64 0], true, false⟩ := by rw [hH6]; exact blk0
      have s6 := s5.fn f6
      have w36 : Fw (· = q) H3 H6 := ((Fw.q f4).trans f5.w).trans (Fw.q f6)
      have fin : ∀ (x : Bk) (H7 : Hp) (k7 : Nat), Fw (· = q) H3 H7 → Src H7 q ac code k7 → k ≤ k7 → k7 ≤ k + 1 + 2 * (j + 1) → H5.length < H7.length → rdN H7 ⟨H5.length, 0, none⟩ 2 = some [.int .i64 x.r, .int .i64 x.d] → H3.length ≤ H7.length →
          ∃ H9, vappend 2 16 lo (H7 ++ [some ⟨[.int .i64 x.r, .int .i64 x.d], true, false⟩]) (.slice a l.length (sg a 2)) (.slice (some ⟨H7.length, 0, none⟩) 1 2) = some (.slice (some ⟨H7.length + 1, 0, none⟩) (l.length + 1) 2, H9) ∧
            ∃ a' l' k'', (some ⟨H7.length + 1, 0, none⟩ : Option Addr) = a' ∧ l'.length = l.length + 1 ∧ Fw (· = q) H H9 ∧ k ≤ k'' ∧ k'' ≤ k + 1 + 2 * (j + 1) ∧ Src H9 q ac code k'' ∧ Hd H.length H9 a' l'.length 2 (vB l') ∧ l'.length = j + 1 := by
        intro x H7 k7 w7 s7 k7a k7b l7 r7 l37
        obtain ⟨H8, hH8⟩ : ∃ H8 : Hp, H8 = H7 ++ [some ⟨[.int .i64 x.r, .int .i64 x.d], true, false⟩] := ⟨_, rfl⟩
        have f8 : Fn H7 H8 := hH8 ▸ Fr.app
        have l8 : H8.length = H7.length + 1 := by rw [hH8]; simp
        have hl3 := w3.len
        have hd8 : Hd H.length H8 a l.length 2 (vB l) := hd3.fw (w7.trans (Fw.q f8)) (fun i hi e => by have := (hd3.lt hi).1; omega)
        obtain ⟨H9, ha, l9, hd9, f9, b9⟩ := app_hd (st := 2) (by_ := 16) (m := 1) (M := vb x) (y := .slice (some ⟨H7.length, 0, none⟩) 1 2) hd8 rfl (by rw [hH8]; simp [scells, rdN0, vb]) (by omega) rfl (fits_small (by omega)) (by omega)
        have w9 : Fw (· = q) H H9 := by
          refine ⟨by have := w3.len; omega, fun i hi hs => ?_⟩
          have e1 := b9 i (fun o e => by have := (hd3.lt ⟨o, e⟩).1; omega) (by omega)
          exact e1.trans (((w3.trans w7).trans (Fw.q f8)).blk i hi hs)
        have s9 : Src H9 q ac code k7 := by
          have s8 := s7.fn f8
          have key : Fw (fun i => Ad a i ∨ H8.length ≤ i) H8 H9 := ⟨by omega, fun i hi hs => b9 i (fun o e => hs (Or.inl ⟨o, e⟩)) hi⟩
          refine s8.fw key (fun hh => ?_) (fun i hi hc hh => ?_)
          · rcases hh with hh | hh
            · have := (hd3.lt hh).1; omega
            · omega
          · have hic := h.lt i hi hc
            rcases hh with hh | hh
            · have := (hd3.lt hh).1; omega
            · omega
        rw [l8] at ha
        subst hH8
        refine ⟨H9, vappend_lo (by omega) ha, some ⟨H7.length + 1, 0, none⟩, l ++ [x], k7, rfl, by simp, w9, k7a, k7b, s9, ?_, by simp; omega⟩
        have e : vB (l ++ [x]) = vB l ++ vb x := by simp [vB]
        rw [e, List.length_append]
        rw [l8] at hd9
        exact hd9
      have e60 : rd H6 ⟨H5.length, 0, none⟩ = some (.int .i64 pv) := by simp only [rd, b6, Option.bind_some, getc0]
      by_cases hp : pv > 0
      · have hd : decide (pv > 0) = true := decide_eq_true hp
        have c7 := l1Next_c (d + 1) lo H6 s6 hlo (by omega) 256
        obtain ⟨s7, f7, l7⟩ := s6.next (k' + 2)
        rw [show k' + 1 + 1 = k' + 2 by omega] at c7
        generalize nextV code (k' + 1) 256 = dv at *
        obtain ⟨H7, hH7⟩ : ∃ H7 : Hp, H7 = srcB H6 q ac code (k' + 2) := ⟨_, rfl⟩
        rw [← hH7] at s7 f7 l7 c7
        have b7 : H7.blk H5.length = some ⟨[.int .i64 pv, .int .i64 0], true, false⟩ := (f7.blk _ (by omega) (by omega)).trans b6
        have w8 := wr_at (lo := lo) (o := 1) b7 (by omega) [.int .i64 dv] (by simp)
        obtain ⟨H8, hH8⟩ : ∃ H8 : Hp, H8 = setB H7 H5.length (setAll [.int .i64 pv, .int .i64 0] 1 [.int .i64 dv]) := ⟨_, rfl⟩
        have f8 : Fr (· = H5.length) H7 H8 := hH8 ▸ Fr.setB b7 _
        have l8 : H8.length = H7.length := by rw [hH8, setB_len]
        have r8 : rdN H8 ⟨H5.length, 0, none⟩ 2 = some [.int .i64 pv, .int .i64 dv] := hH8 ▸ rdN_setB b7 2 _ rfl
        rw [← hH8] at w8
        have w38 : Fw (· = q) H3 H8 := (w36.trans f7.w).then f8.w (fun i hi hl => by omega)
        have s8 : Src H8 q ac code (k' + 2) := s7.fw f8.w (by omega) (fun i hi hc => by have := h.lt i hi hc; have := w3.len; omega)
        obtain ⟨H9, ha, a', l', k'', rfl, hl', w9, k9a, k9b, s9, hd9, hl9⟩ := fin ⟨pv, dv⟩ H8 (k' + 2) w38 s8 (by omega) (by omega) (by omega) r8 (by omega)
        refine ⟨_, H9, ?_, _, l', k'', rfl, w9, k9a, k9b, s9, hd9, hl9⟩
        subst hH6 hH4
        simp only [List.length_append, List.length_cons, List.length_nil, Nat.zero_add, sgs, vI, List.map_cons, List.map_nil, List.append_assoc, List.cons_append, List.nil_append] at c5 c7 ha w8 e60 r8 l5
        simp -implicitDefEqProofs only [rnd, l94_0, VMs, noRef, noRef1, isRef, List.all_cons, List.all_nil, vop, VOp.still, VOp.app, VOp.plain, allP, lof, evs, start, asI, vbin, vcells, ntup, setAll, vfill, vress, vres, tup, Nat.reduceEqDiff, ↓reduceIte, Nat.reduceAdd, Nat.reduceMul, Nat.reduceLeDiff, reduceCtorEq, hg, h50, Nat.reduceBEq, c5, hd, e60, c7, w8, r8, ha, hw, hl', hlo5, sgs]
      · have hd : decide (pv > 0) = false := decide_eq_false hp
        have r6 : rdN H6 ⟨H5.length, 0, none⟩ 2 = some [.int .i64 pv, .int .i64 0] := rdN2 e60 (by simp only [rd, b6, Option.bind_some, getcs, getc0])
        obtain ⟨H9, ha, a', l', k'', rfl, hl', w9, k9a, k9b, s9, hd9, hl9⟩ := fin ⟨pv, 0⟩ H6 (k' + 1) w36 s6 (by omega) (by omega) (by omega) r6 (by omega)
        refine ⟨_, H9, ?_, _, l', k'', rfl, w9, k9a, k9b, s9, hd9, hl9⟩
        subst hH6 hH4
        simp only [List.length_append, List.length_cons, List.length_nil, Nat.zero_add, sgs, vI, List.map_cons, List.map_nil, List.append_assoc, List.cons_append, List.nil_append] at c5 ha e60 r6 l5
        simp -implicitDefEqProofs only [rnd, l94_0, VMs, noRef, noRef1, isRef, List.all_cons, List.all_nil, vop, VOp.still, VOp.app, VOp.plain, allP, lof, evs, start, asI, vbin, vcells, ntup, setAll, vfill, vress, vres, tup, Nat.reduceEqDiff, ↓reduceIte, Nat.reduceAdd, Nat.reduceMul, Nat.reduceLeDiff, reduceCtorEq, hg, h50, Nat.reduceBEq, c5, hd, e60, r6, ha, hw, hl', hlo5, sgs]
    · rintro ts H3 ⟨a, l, k', rfl, w3, ka, kb, s3, hd3, hl⟩
      have hg : decide (((m - m : Nat) : Int) > 0) = false := decide_eq_false (by omega)
      exact ⟨(.exit 0, [(0, .pointer (some ⟨q, 0, none⟩)), (3, .slice a l.length (sg a 2))], H3), by simp -implicitDefEqProofs only [rnd, l94_0, VMs, noRef, noRef1, isRef, List.all_cons, List.all_nil, vop, VOp.still, VOp.app, VOp.plain, allP, lof, evs, start, asI, vbin, vcells, ntup, setAll, vfill, vress, vres, tup, Nat.reduceEqDiff, ↓reduceIte, Nat.reduceAdd, Nat.reduceMul, Nat.reduceLeDiff, reduceCtorEq, hg], by simp, a, l, H3, rfl, w3, ⟨k', ka, by omega, s3⟩, hd3, by omega⟩
    · exact ⟨some ⟨H.length, 0, none⟩, [], k + 1, rfl, w2, by omega, by omega, s2, h2, rfl⟩
  obtain ⟨_, hl, a, l, H3, rfl, w3, ⟨k3, ka, kb, s3⟩, hd3, hl3⟩ := hloop
  have finB : ∀ (a4 : Option Addr) (l4 : List Bk) (H4 : Hp) (k4 : Nat), Fw (· = q) H H4 → Src H4 q ac code k4 → Hd H.length H4 a4 l4.length 2 (vB l4) → l4.length ≤ 25 → k ≤ k4 → k4 ≤ k + 60 →
      ∃ H5, vcall env (d + 2) 133 [.pointer (some ⟨q, 0, none⟩), .int .i64 40] lo H4 = some (.bool (nextV code k4 40 == 0), H5) ∧ DB H H5 q ac code k a4 l4 ∧ DB H (H5 ++ [some ⟨zB 25, true, false⟩]) q ac code k (some ⟨H5.length, 0, none⟩) (List.replicate 25 ⟨0, 0⟩) := by
    intro a4 l4 H4 k4 w4 s4 h4 n4 k4a k4b
    obtain ⟨s5, f5, l5⟩ := s4.next (k4 + 1)
    have w5 : Fw (· = q) H (srcB H4 q ac code (k4 + 1)) := w4.trans f5.w
    refine ⟨_, l1Chance_c d lo H4 s4 hlo (by omega) 40, ⟨w5, ⟨k4 + 1, by omega, by omega, s5⟩, h4.fw f5.w (fun i hi e => by have := (h4.lt hi).1; omega), n4⟩, ⟨w5.trans (Fw.q Fr.app), ⟨k4 + 1, by omega, by omega, s5.fn Fr.app⟩, Or.inr ⟨_, false, rfl, by rw [blk0, zB_vB]; rfl, by unfold vB; rw [fl_len vb_len], fun e => by simp at e, w5.len⟩, by simp⟩⟩
  have hm0 : (vcall env (d + 2) 96 [.pointer (some ⟨q, 0, none⟩), .int .i64 9] lo H1) = some (.int .i64 (m : Nat), H2) := c1
  have z1 : ((25 : Int)).toNat = 25 := rfl
  have z2 : ((25 : Int) == 0) = false := rfl
  have z3 : (List.replicate 25 [Value.int .i64 0, Value.int .i64 0]).flatten = zB 25 := rfl
  have z4 : (((16 : Nat) : Int) * 25 ≤ 281474976710656) = True := eq_true (by omega)
  have z5 : ((25 : Int) ≤ 4611686018427387904) = True := eq_true (by omega)
  have z6 : ((0 : Int) ≤ 25) = True := eq_true (by omega)
  have hq3 := blk_lt s3.b
  have hl3' := w3.len
  rw [call_eq find94 _ _ _ rfl]
  by_cases h0 : l.length = 0
  · have hg : decide ((l.length : Int) > 0) = false := decide_eq_false (by omega)
    obtain ⟨H5, cb, d1, d2⟩ := finB a l H3 k3 w3 s3 hd3 (by omega) (by omega) (by omega)
    subst hH1
    cases hb : (nextV code k3 40 == 0) with
    | true =>
      rw [hb] at cb
      refine ⟨_, List.replicate 25 ⟨0, 0⟩, _, ?_, d2⟩
      simp -implicitDefEqProofs only [v94, VMs, noRef, noRef1, isRef, List.all_cons, List.all_nil, vop, VOp.still, VOp.app, VOp.plain, allP, lof, evs, start, asI, vbin, vcells, ntup, setAll, vfill, vress, vres, tup, Nat.reduceEqDiff, ↓reduceIte, Nat.reduceAdd, Nat.reduceMul, Nat.reduceLeDiff, reduceCtorEq, h00, c1, vlp, hl, slen, hg, cb, z1, z2, z3, z4, z5, z6, List.length_replicate, sgs]
    | false =>
      rw [hb] at cb
      refine ⟨_, l, _, ?_, d1⟩
      simp -implicitDefEqProofs only [v94, VMs, noRef, noRef1, isRef, List.all_cons, List.all_nil, vop, VOp.still, VOp.app, VOp.plain, allP, lof, evs, start, asI, vbin, vcells, ntup, setAll, vfill, vress, vres, tup, Nat.reduceEqDiff, ↓reduceIte, Nat.reduceAdd, Nat.reduceMul, Nat.reduceLeDiff, reduceCtorEq, h00, c1, vlp, hl, slen, hg, cb]
  have hg : decide ((l.length : Int) > 0) = true := decide_eq_true (by omega)
  have c2 := l1Next_c (d + 1) lo H3 s3 hlo (by omega) 16
  obtain ⟨s4, f4, l4⟩ := s3.next (k3 + 1)
  obtain ⟨H4, hH4⟩ : ∃ H4 : Hp, H4 = srcB H3 q ac code (k3 + 1) := ⟨_, rfl⟩
  rw [← hH4] at s4 f4 l4 c2
  have w4 : Fw (· = q) H H4 := w3.trans f4.w
  have hd4 : Hd H.length H4 a l.length 2 (vB l) := hd3.fw f4.w (fun i hi e => by have := (hd3.lt hi).1; omega)
  generalize nextV code k3 16 = v at *
  have mend : ∀ (L : List Int), L.length = 3 → ∃ pv H6, vcall env (d + 2) 95 [.pointer (some ⟨q, 0, none⟩), .slice (some ⟨H4.length, 0, none⟩) 3 1] lo (H4 ++ [some ⟨vI L, true, false⟩]) = some (.int .i64 pv, H6) ∧ Fw (· = q) H H6 ∧ Src H6 q ac code (k3 + 2) ∧ Hd H.length H6 a l.length 2 (vB l) := by
    intro L hL
    have s5 := s4.fn (Fr.app (l := [some ⟨vI L, true, false⟩]))
    have rp : Rep EI 1 (H4 ++ [some ⟨vI L, true, false⟩]) (some ⟨H4.length, 0, none⟩) L.length L := repI blk0
    have c5 := l1Pick_c d lo _ s5 hlo (by omega) (al := some ⟨H4.length, 0, none⟩) rp (by omega) (fun i hi => by obtain ⟨o, e⟩ := hi; simp only [Option.some.injEq, Addr.mk.injEq] at e; omega)
    obtain ⟨s6, f6, l6⟩ := s5.next (k3 + 1 + 1)
    rw [hL] at c5
    exact ⟨_, _, c5, (w4.trans (Fw.q Fr.app)).trans f6.w, s6, (hd4.fw (Fw.q (q := q) Fr.app) (fun i hi e => by have := (hd4.lt hi).1; omega)).fw f6.w (fun i hi e => by have := (hd4.lt hi).1; omega)⟩
  obtain ⟨x, r, hxr⟩ := List.exists_cons_of_ne_nil (show l ≠ [] by intro e; rw [e] at h0; simp at h0)
  have hx : l[0]? = some x := by rw [hxr]; rfl
  have hlt0 : ((0 : Int) < (l.length : Int)) = True := eq_true (by omega)
  have h0i : ((0 : Int) ≤ 0) = True := eq_true (by omega)
  have t0 : ((0 : Int)).toNat = 0 := rfl
  subst hH1
  by_cases v0 : v = 0
  · have hb0 : (v == 0) = true := beq_iff_eq.2 v0
    obtain ⟨pv, H6, c5, w6, s6, hd6⟩ := mend [-1, 201, 0] rfl
    obtain ⟨t, H7, rfl, ht, hw7, hd7, f7, l7⟩ := hd6.wrB (lo := lo) (by omega) hx (o := 0) (vs := [.int .i64 pv]) (by simp) ⟨pv, x.d⟩ rfl
    have w7 : Fw (· = q) H H7 := w6.then f7.w (fun i hi hl => by omega)
    have s7 : Src H7 q ac code (k3 + 2) := s6.fw f7.w (by omega) (fun i hi hc => by have := h.lt i hi hc; omega)
    obtain ⟨H8, cb, d1, d2⟩ := finB _ _ H7 (k3 + 2) w7 s7 hd7 (by simp; omega) (by omega) (by omega)
    simp only [vI, List.map_cons, List.map_nil, Nat.zero_mul, Nat.add_zero, sgs] at c5 hw7
    cases hb : (nextV code (k3 + 2) 40 == 0) with
    | true =>
      rw [hb] at cb
      refine ⟨_, List.replicate 25 ⟨0, 0⟩, _, ?_, d2⟩
      simp -implicitDefEqProofs only [v94, VMs, noRef, noRef1, isRef, List.all_cons, List.all_nil, vop, VOp.still, VOp.app, VOp.plain, allP, lof, evs, start, asI, vbin, vcells, ntup, setAll, vfill, vress, vres, tup, Nat.reduceEqDiff, ↓reduceIte, Nat.reduceAdd, Nat.reduceMul, Nat.reduceLeDiff, reduceCtorEq, h00, h30, c1, vlp, hl, slen, hg, c2, hb0, c5, hlt0, decide_true, h0i, t0, hw7, cb, z1, z2, z3, z4, z5, z6, List.length_replicate, sgs]
    | false =>
      rw [hb] at cb
      refine ⟨some ⟨t, 0, none⟩, l.set 0 ⟨pv, x.d⟩, _, ?_, d1⟩
      simp -implicitDefEqProofs only [v94, VMs, noRef, noRef1, isRef, List.all_cons, List.all_nil, vop, VOp.still, VOp.app, VOp.plain, allP, lof, evs, start, asI, vbin, vcells, ntup, setAll, vfill, vress, vres, tup, Nat.reduceEqDiff, ↓reduceIte, Nat.reduceAdd, Nat.reduceMul, Nat.reduceLeDiff, reduceCtorEq, h00, h30, c1, vlp, hl, slen, hg, c2, hb0, c5, hlt0, decide_true, h0i, t0, hw7, cb, List.length_set, sgs]
  have hb0 : (v == 0) = false := beq_eq_false_iff_ne.2 v0
  by_cases v1 : v = 1
  · have hb1 : (v == 1) = true := beq_iff_eq.2 v1
    obtain ⟨pv, H6, c5, w6, s6, hd6⟩ := mend [-1, 256, 5] rfl
    obtain ⟨t, H7, rfl, ht, hw7, hd7, f7, l7⟩ := hd6.wrB (lo := lo) (by omega) hx (o := 1) (vs := [.int .i64 pv]) (by simp) ⟨x.r, pv⟩ rfl
    have w7 : Fw (· = q) H H7 := w6.then f7.w (fun i hi hl => by omega)
    have s7 : Src H7 q ac code (k3 + 2) := s6.fw f7.w (by omega) (fun i hi hc => by have := h.lt i hi hc; omega)
    obtain ⟨H8, cb, d1, d2⟩ := finB _ _ H7 (k3 + 2) w7 s7 hd7 (by simp; omega) (by omega) (by omega)
    simp only [vI, List.map_cons, List.map_nil, Nat.zero_mul, Nat.zero_add, sgs] at c5 hw7
    cases hb : (nextV code (k3 + 2) 40 == 0) with
    | true =>
      rw [hb] at cb
      refine ⟨_, List.replicate 25 ⟨0, 0⟩, _, ?_, d2⟩
      simp -implicitDefEqProofs only [v94, VMs, noRef, noRef1, isRef, List.all_cons, List.all_nil, vop, VOp.still, VOp.app, VOp.plain, allP, lof, evs, start, asI, vbin, vcells, ntup, setAll, vfill, vress, vres, tup, Nat.reduceEqDiff, ↓reduceIte, Nat.reduceAdd, Nat.reduceMul, Nat.reduceLeDiff, reduceCtorEq, h00, h30, c1, vlp, hl, slen, hg, c2, hb0, hb1, c5, hlt0, decide_true, h0i, t0, hw7, cb, z1, z2, z3, z4, z5, z6, List.length_replicate, sgs]
    | false =>
      rw [hb] at cb
      refine ⟨some ⟨t, 0, none⟩, l.set 0 ⟨x.r, pv⟩, _, ?_, d1⟩
      simp -implicitDefEqProofs only [v94, VMs, noRef, noRef1, isRef, List.all_cons, List.all_nil, vop, VOp.still, VOp.app, VOp.plain, allP, lof, evs, start, asI, vbin, vcells, ntup, setAll, vfill, vress, vres, tup, Nat.reduceEqDiff, ↓reduceIte, Nat.reduceAdd, Nat.reduceMul, Nat.reduceLeDiff, reduceCtorEq, h00, h30, c1, vlp, hl, slen, hg, c2, hb0, hb1, c5, hlt0, decide_true, h0i, t0, hw7, cb, List.length_set, sgs]
  have hb1 : (v == 1) = false := beq_eq_false_iff_ne.2 v1
  obtain ⟨H8, cb, d1, d2⟩ := finB _ _ H4 (k3 + 1) w4 s4 hd4 (by omega) (by omega) (by omega)
  cases hb : (nextV code (k3 + 1) 40 == 0) with
  | true =>
    rw [hb] at cb
    refine ⟨_, List.replicate 25 ⟨0, 0⟩, _, ?_, d2⟩
    simp -implicitDefEqProofs only [v94, VMs, noRef, noRef1, isRef, List.all_cons, List.all_nil, vop, VOp.still, VOp.app, VOp.plain, allP, lof, evs, start, asI, vbin, vcells, ntup, setAll, vfill, vress, vres, tup, Nat.reduceEqDiff, ↓reduceIte, Nat.reduceAdd, Nat.reduceMul, Nat.reduceLeDiff, reduceCtorEq, h00, c1, vlp, hl, slen, hg, c2, hb0, hb1, cb, z1, z2, z3, z4, z5, z6, List.length_replicate, sgs]
  | false =>
    rw [hb] at cb
    refine ⟨a, l, _, ?_, d1⟩
    simp -implicitDefEqProofs only [v94, VMs, noRef, noRef1, isRef, List.all_cons, List.all_nil, vop, VOp.still, VOp.app, VOp.plain, allP, lof, evs, start, asI, vbin, vcells, ntup, setAll, vfill, vress, vres, tup, Nat.reduceEqDiff, ↓reduceIte, Nat.reduceAdd, Nat.reduceMul, Nat.reduceLeDiff, reduceCtorEq, h00, c1, vlp, hl, slen, hg, c2, hb0, hb1, cb]
end Go.Proofs.Ytmcljallamhccaa.V
/-! Lists of blocks: what is taken, shared, dropped; how many are free. -/
namespace Go.Proofs.Ytmcljallamhccaa.V
open Go
set_option linter.unusedVariables false
set_option linter.unusedSimpArgs false
set_option maxRecDepth 100000
/-- A result with a list of blocks, in new memory. -/
def NewBl (H H' : Hp) (v : Value) (c at_ : Int) (l : List Bk) : Prop := ∃ a, v = .agg #[.int .i64 c, .int .i64 at_, .slice a l.length (sg a 2)] ∧ Fn H H' ∧ Hd H.length H' a l.length 2 (vB l)
theorem NewBl.nil (H : Hp) (c r : Int) : NewBl H H (.agg #[.int .i64 c, .int .i64 r, .slice none 0 0]) c r [] := ⟨none, rfl, Fr.refl, Or.inl ⟨rfl, rfl, rfl⟩⟩
theorem noRef3 {a b : Value} {an : Option Addr} {nn s : Nat} (ha : isRef a = false) (hb : isRef b = false) : noRef (.agg #[a, b, .slice an nn s]) = true → an = .none := by
  intro h
  cases an <;> simp_all [noRef, noRef1, isRef]
theorem NewBl.done {H H2 : Hp} {v : Value} {c u : Int} {R : List Bk} (h : NewBl H H2 v c u R) : NewBl H (if noRef v = true then H else H2) v c u R := by
  by_cases hn : noRef v = true
  · rw [if_pos hn]
    obtain ⟨a, rfl, f, g⟩ := h
    obtain rfl := noRef3 rfl rfl hn
    rcases g with ⟨_, e, e'⟩ | ⟨_, _, e, _⟩
    · have : R = [] := List.length_eq_zero_iff.1 e
      subst this
      exact ⟨none, rfl, Fr.refl, Or.inl ⟨rfl, rfl, rfl⟩⟩
    · cases e
  · rw [if_neg hn]; exact h
theorem Hd.ex {L : Nat} {H : Hp} {a : Option Addr} {n st : Nat} {vs : List Value} (h : Hd L H a n st vs) : Ex H a := fun A e => by
  rcases h with ⟨h1, _⟩ | ⟨i, k0, h1, h2, _⟩
  · rw [h1] at e; cases e
  · rw [h1] at e; cases e
    exact ⟨rfl, _, h2, by simp⟩
def resTake (l : List Bk) (data : Int) : Int × Int × List Bk :=
  if fB l = 0 then (if 0 ≤ data ∧ data ≤ 255 then (if slotB l < l.length then (0, (slotB l : Nat), l.set (slotB l) ⟨1, data⟩) else (8, 0, [])) else (3, 0, [])) else (fB l, 0, [])
theorem fB_len {l : List Bk} (h : fB l = 0) : l.length ≤ 24 := (fB_ok.1 h).1
theorem implTakeBlock_c (d lo : Nat) (H : Hp) {a : Option Addr} {l : List Bk} (h : Rep EB 2 H a l.length l) (hx : Ex H a) (data : Int) (hs : Sm l.length) :
    ∃ v H', vcall env (d + 4) 37 [.slice a l.length (sg a 2), .int .i64 data] lo H = some (v, H') ∧ NewBl H H' v (resTake l data).1 (resTake l data).2.1 (resTake l data).2.2 := by
  obtain ⟨HA, hHA⟩ : ∃ HA : Hp, HA = H ++ [some ⟨[.int .i64 0, .int .i64 0, .slice none 0 0], true, false⟩] := ⟨_, rfl⟩
  have fA : Fn H HA := hHA ▸ Fr.app
  have lA : HA.length = H.length + 1 := by rw [hHA]; simp
  have bA : HA.blk H.length = some ⟨[.int .i64 0, .int .i64 0, .slice none 0 0], true, false⟩ := by rw [hHA]; exact blk0
  have c1 := fun L => implBlocksFault_c d H.length (H ++ L) a l.length l (h.fnB Fr.app)
  unfold resTake
  by_cases h0 : fB l = 0
  · rw [if_pos h0]
    by_cases hd : 0 ≤ data ∧ data ≤ 255
    · rw [if_pos hd]
      have hl24 := fB_len h0
      obtain ⟨b, H1, c2, f1, d1⟩ := cloneBlocks_c (d + 2) H.length HA (h.fnB fA) (hx.fn fA) (by omega)
      have b1 : H1.blk H.length = some ⟨[.int .i64 0, .int .i64 0, .slice none 0 0], true, false⟩ := (f1.blk _ (by omega) id).trans bA
      obtain ⟨r, hc, hr⟩ := indexB_c (d + 1) H.length H1 b l.length l d1.rep hs 132 #[] (fun x => x.r == 0) (fun y _ lo => take1_c d lo H1 y)
      by_cases hsl : slotB l < l.length
      · rw [if_pos hsl]
        obtain ⟨i, x, rfl, h1, h2, h3⟩ : ∃ (i : Nat) (x : Bk), r = (i : Int) ∧ l[i]? = some x ∧ (x.r == 0) = true ∧ ∀ (j : Nat) (y : Bk), j < i → l[j]? = some y → (y.r == 0) = false := by
          rcases hr with e | ⟨_, e⟩
          · exact e
          · have := e _ (List.getElem_mem hsl)
            rw [slotB_dead hsl] at this; cases this
        obtain ⟨hi, rfl⟩ := List.getElem?_eq_some_iff.1 h1
        have hsi : slotB l = i := slotB_eq hi (beq_iff_eq.1 h2) (fun j hj => by
          have := h3 j _ hj (getE (by omega))
          exact beq_eq_false_iff_ne.1 this)
        rw [hsi]
        obtain ⟨t, H2, rfl, ht, hw, d2, f2, l2⟩ := d1.wrB (lo := H.length) (by omega) h1 (o := 0) (vs := [.int .i64 1, .int .i64 data]) (by simp) ⟨1, data⟩ rfl
        have hdi : decide ((i : Int) < 0) = false := decide_eq_false (by omega)
        simp only [sgs] at hc
        have c3 : vcall env (d + 3) 92 [.slice (some ⟨t, 0, none⟩) l.length 2, .int .i64 data] H.length H1 = some (.tuple #[.int .i64 (i : Nat), .int .i64 0], H2) := by
          rw [call_eq find92 _ _ _ rfl]
          simp only [Nat.add_zero] at hw
          simp -implicitDefEqProofs only [v92, VMs, noRef, noRef1, isRef, List.all_cons, List.all_nil, vop, VOp.still, VOp.app, VOp.plain, allP, lof, evs, start, asI, vbin, vcells, ntup, setAll, vfill, vress, vres, tup, Nat.reduceEqDiff, ↓reduceIte, Nat.reduceAdd, Nat.reduceMul, Nat.reduceLeDiff, reduceCtorEq, sgs, hc, hdi, slen, ltc hi, ge0, decide_true, Int.toNat_natCast, vfill, ev, lk, setAll, ntup, vcells, hw]
        have b2 : H2.blk H.length = some ⟨[.int .i64 0, .int .i64 0, .slice none 0 0], true, false⟩ := (f2.blk _ (by have := f1.len; omega) (by omega)).trans b1
        have g3 := fun vs hv => wr_setB (lo := H.length) b2 (by omega) vs hv
        have g4 := fun vs hv => rdN_setB b2 3 vs hv
        have hN : NewBl H (setB H2 H.length [.int .i64 0, .int .i64 (i : Nat), .slice (some ⟨t, 0, none⟩) l.length 2]) (.agg #[.int .i64 0, .int .i64 (i : Nat), .slice (some ⟨t, 0, none⟩) l.length 2]) 0 (i : Nat) (l.set i ⟨1, data⟩) := by
          have ff : Fn H H2 := ((fA.trans f1).no.trans f2).new fun k e => by omega
          exact ⟨some ⟨t, 0, none⟩, by rw [List.length_set]; rfl, Fn.setB ff (by omega) b2 _, (d2.fw (Fr.setB b2 _).w (fun k ⟨o, e⟩ e2 => by cases e; omega)).lo (by omega)⟩
        refine ⟨_, _, ?_, hN.done⟩
        subst hHA
        simp only [sgs] at c2
        rw [call_eq find37 _ _ _ rfl]
        simp -implicitDefEqProofs only [v37, VMs, vop, VOp.still, VOp.app, VOp.plain, allP, lof, evs, start, asI, vbin, vcells, ntup, setAll, vfill, vress, vres, tup, Nat.reduceEqDiff, ↓reduceIte, Nat.reduceAdd, Nat.reduceMul, Nat.reduceLeDiff, reduceCtorEq, List.getElem?_toArray, c1, h0, bne_self_eq_false, isByte_c, hd, decide_true, c2, c3, g3, g4]
      · rw [if_neg hsl]
        obtain rfl : r = -1 := by
          rcases hr with ⟨i, x, rfl, h1, h2, h3⟩ | ⟨e, _⟩
          · obtain ⟨hi, rfl⟩ := List.getElem?_eq_some_iff.1 h1
            have hsi : slotB l = i := slotB_eq hi (beq_iff_eq.1 h2) (fun j hj => by
              have := h3 j _ hj (getE (by omega))
              exact beq_eq_false_iff_ne.1 this)
            omega
          · exact e
        have hdi : decide ((-1 : Int) < 0) = true := rfl
        have c3 : vcall env (d + 3) 92 [.slice b l.length (sg b 2), .int .i64 data] H.length H1 = some (.tuple #[.int .i64 0, .int .i64 8], H1) := by
          rw [call_eq find92 _ _ _ rfl]
          simp -implicitDefEqProofs only [v92, VMs, noRef, noRef1, isRef, List.all_cons, List.all_nil, vop, VOp.still, VOp.app, VOp.plain, allP, lof, evs, start, asI, vbin, vcells, ntup, setAll, vfill, vress, vres, tup, Nat.reduceEqDiff, ↓reduceIte, Nat.reduceAdd, Nat.reduceMul, Nat.reduceLeDiff, reduceCtorEq, hc, hdi]
        have h80 : ((8 : Int) != 0) = true := rfl
        have g3 := fun vs hv => wr_setB (lo := H.length) b1 (by omega) vs hv
        have g4 := fun vs hv => rdN_setB b1 3 vs hv
        refine ⟨_, _, ?_, NewBl.nil H _ _⟩
        subst hHA
        rw [call_eq find37 _ _ _ rfl]
        simp -implicitDefEqProofs only [v37, VMs, noRef, noRef1, isRef, List.all_cons, List.all_nil, vop, VOp.still, VOp.app, VOp.plain, allP, lof, evs, start, asI, vbin, vcells, ntup, setAll, vfill, vress, vres, tup, Nat.reduceEqDiff, ↓reduceIte, Nat.reduceAdd, Nat.reduceMul, Nat.reduceLeDiff, reduceCtorEq, List.getElem?_toArray, c1, h0, bne_self_eq_false, isByte_c, hd, decide_true, c2, c3, h80, g3, g4]
    · rw [if_neg hd]
      refine ⟨_, _, ?_, NewBl.nil H _ _⟩
      rw [call_eq find37 _ _ _ rfl]
      simp -implicitDefEqProofs only [v37, VMs, noRef, noRef1, isRef, List.all_cons, List.all_nil, vop, VOp.still, VOp.app, VOp.plain, allP, lof, evs, start, asI, vbin, vcells, ntup, setAll, vfill, vress, vres, tup, Nat.reduceEqDiff, ↓reduceIte, Nat.reduceAdd, Nat.reduceMul, Nat.reduceLeDiff, reduceCtorEq, c1, h0, bne_self_eq_false, isByte_c, hd, decide_false]
  · have h0' : (fB l != 0) = true := by rw [bne_iff_ne]; exact h0
    rw [if_neg h0]
    refine ⟨_, _, ?_, NewBl.nil H _ _⟩
    rw [call_eq find37 _ _ _ rfl]
    simp -implicitDefEqProofs only [v37, VMs, noRef, noRef1, isRef, List.all_cons, List.all_nil, vop, VOp.still, VOp.app, VOp.plain, allP, lof, evs, start, asI, vbin, vcells, ntup, setAll, vfill, vress, vres, tup, Nat.reduceEqDiff, ↓reduceIte, Nat.reduceAdd, Nat.reduceMul, Nat.reduceLeDiff, reduceCtorEq, c1, h0']
/-- The reference's code. -/
theorem specTakeBlock_c (d lo : Nat) (H : Hp) {a : Option Addr} {l : List Bk} (h : Rep EB 2 H a l.length l) (hx : Ex H a) (data : Int) (hs : Sm l.length) (hne : (resTake l data).1 ≠ 0) :
    vcall env (d + 4) 36 [.slice a l.length (sg a 2), .int .i64 data] lo H = some (.agg #[.int .i64 (resTake l data).1, .int .i64 0, .slice none 0 0], H) := by
  have c1 := fun L => specBlocksFault_c d H.length (H ++ L) a l.length l (h.fnB Fr.app)
  have c2 := fun L => l3Free_c (d + 2) H.length (H ++ L) (h.fnB Fr.app) hs
  unfold resTake at hne ⊢
  by_cases h0 : fB l = 0
  · rw [if_pos h0] at hne ⊢
    by_cases hd : 0 ≤ data ∧ data ≤ 255
    · rw [if_pos hd] at hne ⊢
      by_cases hsl : slotB l < l.length
      · rw [if_pos hsl] at hne; exact absurd rfl hne
      · rw [if_neg hsl]
        simp only [if_neg hsl] at c2
        have hdi : decide ((-1 : Int) < 0) = true := rfl
        rw [call_eq find36 _ _ _ rfl]
        simp -implicitDefEqProofs only [v36, VMs, noRef, noRef1, isRef, List.all_cons, List.all_nil, vop, VOp.still, VOp.app, VOp.plain, allP, lof, evs, start, asI, vbin, vcells, ntup, setAll, vfill, vress, vres, tup, Nat.reduceEqDiff, ↓reduceIte, Nat.reduceAdd, Nat.reduceMul, Nat.reduceLeDiff, reduceCtorEq, c1, h0, bne_self_eq_false, l3Data_c, hd, decide_true, c2, hdi, l3Bad_c]
    · rw [if_neg hd]
      rw [call_eq find36 _ _ _ rfl]
      simp -implicitDefEqProofs only [v36, VMs, noRef, noRef1, isRef, List.all_cons, List.all_nil, vop, VOp.still, VOp.app, VOp.plain, allP, lof, evs, start, asI, vbin, vcells, ntup, setAll, vfill, vress, vres, tup, Nat.reduceEqDiff, ↓reduceIte, Nat.reduceAdd, Nat.reduceMul, Nat.reduceLeDiff, reduceCtorEq, c1, h0, bne_self_eq_false, l3Data_c, hd, decide_false, l3Bad_c]
  · have h0' : (fB l != 0) = true := by rw [bne_iff_ne]; exact h0
    rw [if_neg h0]
    rw [call_eq find36 _ _ _ rfl]
    simp -implicitDefEqProofs only [v36, VMs, noRef, noRef1, isRef, List.all_cons, List.all_nil, vop, VOp.still, VOp.app, VOp.plain, allP, lof, evs, start, asI, vbin, vcells, ntup, setAll, vfill, vress, vres, tup, Nat.reduceEqDiff, ↓reduceIte, Nat.reduceAdd, Nat.reduceMul, Nat.reduceLeDiff, reduceCtorEq, c1, h0', l3Bad_c]
end Go.Proofs.Ytmcljallamhccaa.V
/-! Lists of blocks: one more refers, one less; how many are free; what is drawn. -/
namespace Go.Proofs.Ytmcljallamhccaa.V
open Go
set_option linter.unusedVariables false
set_option linter.unusedSimpArgs false
set_option maxRecDepth 100000
theorem implShare_c (d lo L : Nat) (H : Hp) {a : Option Addr} {l : List Bk} (h : Hd L H a l.length 2 (vB l)) (hL : lo ≤ L) {j : Nat} {x : Bk} (hx : l[j]? = some x) (hr : 1 ≤ x.r ∧ x.r < 200) :
    ∃ H', vcall env (d + 1) 85 [.slice a l.length (sg a 2), .int .i64 (j : Nat)] lo H = some (.int .i64 0, H') ∧ Hd L H' a (l.set j ⟨x.r + 1, x.d⟩).length 2 (vB (l.set j ⟨x.r + 1, x.d⟩)) ∧ Fr (Ad a) H H' := by
  obtain ⟨hj, ex⟩ := List.getElem?_eq_some_iff.1 hx
  obtain ⟨t, H2, rfl, ht, hw, d2, f2, l2⟩ := h.wrB hL hx (o := 0) (vs := [.int .i64 (x.r + 1)]) (by simp) ⟨x.r + 1, x.d⟩ rfl
  obtain ⟨_, _, e', e⟩ := h.rep.at hj
  cases e'
  have e0 := e.1
  rw [ex] at e0
  simp only [Nat.zero_add] at e0
  simp only [Nat.add_zero] at hw
  have w : IntKind.i64.wrap (x.r + 1) = x.r + 1 := wr (by omega) (by omega)
  have b0 : (x.r == 0) = false := beq_eq_false_iff_ne.2 (by omega)
  have b2 : (x.r == 200) = false := beq_eq_false_iff_ne.2 (by omega)
  refine ⟨H2, ?_, d2, f2.mono fun i e => ⟨0, by rw [e]⟩⟩
  rw [call_eq find85 _ _ _ rfl]
  simp -implicitDefEqProofs only [v85, VMs, noRef, noRef1, isRef, List.all_cons, List.all_nil, vop, VOp.still, VOp.app, VOp.plain, allP, lof, evs, start, asI, vbin, vcells, ntup, setAll, vfill, vress, vres, tup, Nat.reduceEqDiff, ↓reduceIte, Nat.reduceAdd, Nat.reduceMul, Nat.reduceLeDiff, reduceCtorEq, sgs, slen, ltc hj, ge0, Int.toNat_natCast, e0, b0, b2, w, hw]
theorem implDrop_c (d lo L : Nat) (H : Hp) {a : Option Addr} {l : List Bk} (h : Hd L H a l.length 2 (vB l)) (hL : lo ≤ L) {j : Nat} {x : Bk} (hx : l[j]? = some x) (hr : 1 ≤ x.r ∧ x.r ≤ 200) :
    ∃ H', vcall env (d + 1) 87 [.slice a l.length (sg a 2), .int .i64 (j : Nat)] lo H = some (.int .i64 0, H') ∧ Hd L H' a (l.set j (decB x)).length 2 (vB (l.set j (decB x))) ∧ Fr (Ad a) H H' := by
  obtain ⟨hj, ex⟩ := List.getElem?_eq_some_iff.1 hx
  obtain ⟨t, H2, rfl, ht, hw, d2, f2, l2⟩ := h.wrB hL hx (o := 0) (vs := [.int .i64 (x.r - 1)]) (by simp) ⟨x.r - 1, x.d⟩ rfl
  obtain ⟨_, _, e', e⟩ := h.rep.at hj
  cases e'
  have e0 := e.1
  rw [ex] at e0
  simp only [Nat.zero_add] at e0
  simp only [Nat.add_zero] at hw
  have w : IntKind.i64.wrap (x.r - 1) = x.r - 1 := wr (by omega) (by omega)
  have b0 : (x.r == 0) = false := beq_eq_false_iff_ne.2 (by omega)
  have hx2 : (l.set j (⟨x.r - 1, x.d⟩ : Bk))[j]? = some ⟨x.r - 1, x.d⟩ := by simp [hj]
  have e2 : rd H2 ⟨t, j * 2, none⟩ = some (.int .i64 (x.r - 1)) := by
    obtain ⟨hj', ex'⟩ := List.getElem?_eq_some_iff.1 hx2
    obtain ⟨_, _, e', e⟩ := d2.rep.at hj'
    cases e'
    have := e.1
    rw [ex'] at this
    simpa only [Nat.zero_add] using this
  by_cases h1 : x.r = 1
  · obtain ⟨t', H3, e3, ht3, hw3, d3, f3, l3⟩ := d2.wrB hL hx2 (o := 1) (vs := [.int .i64 0]) (by simp) ⟨x.r - 1, 0⟩ rfl
    cases e3
    rw [List.set_set] at d3
    have hdec : decB x = ⟨x.r - 1, 0⟩ := by unfold decB; rw [if_pos h1]
    have b1 : (x.r - 1 == 0) = true := beq_iff_eq.2 (by omega)
    rw [hdec]
    refine ⟨H3, ?_, d3, (f2.trans f3).mono fun i e => ⟨0, by rw [e]⟩⟩
    rw [call_eq find87 _ _ _ rfl]
    simp -implicitDefEqProofs only [v87, VMs, noRef, noRef1, isRef, List.all_cons, List.all_nil, vop, VOp.still, VOp.app, VOp.plain, allP, lof, evs, start, asI, vbin, vcells, ntup, setAll, vfill, vress, vres, tup, Nat.reduceEqDiff, ↓reduceIte, Nat.reduceAdd, Nat.reduceMul, Nat.reduceLeDiff, reduceCtorEq, sgs, slen, ltc hj, ge0, Int.toNat_natCast, e0, b0, w, hw, e2, b1, hw3]
  · have hdec : decB x = ⟨x.r - 1, x.d⟩ := by unfold decB; rw [if_neg h1]
    have b1 : (x.r - 1 == 0) = false := beq_eq_false_iff_ne.2 (by omega)
    rw [hdec]
    refine ⟨H2, ?_, d2, f2.mono fun i e => ⟨0, by rw [e]⟩⟩
    rw [call_eq find87 _ _ _ rfl]
    simp -implicitDefEqProofs only [v87, VMs, noRef, noRef1, isRef, List.all_cons, List.all_nil, vop, VOp.still, VOp.app, VOp.plain, allP, lof, evs, start, asI, vbin, vcells, ntup, setAll, vfill, vress, vres, tup, Nat.reduceEqDiff, ↓reduceIte, Nat.reduceAdd, Nat.reduceMul, Nat.reduceLeDiff, reduceCtorEq, sgs, slen, ltc hj, ge0, Int.toNat_natCast, e0, b0, w, hw, e2, b1]
theorem referred_c (d lo : Nat) (H : Hp) {a : Option Addr} {l : List Bk} (h : Rep EB 2 H a l.length l) (hx : Ex H a) (h0 : fB l = 0) {j : Nat} {x : Bk} (hj : l[j]? = some x) (g : Nat) (y : Bk)
    (hg : ∀ lo L H a, Hd L H a l.length 2 (vB l) → lo ≤ L → ∃ H', vcall env (d + 3) g [.slice a l.length (sg a 2), .int .i64 (j : Nat)] lo H = some (.int .i64 0, H') ∧ Hd L H' a (l.set j y).length 2 (vB (l.set j y)) ∧ Fr (Ad a) H H') :
    ∃ v H', vcall env (d + 4) 84 [.slice a l.length (sg a 2), .int .i64 (j : Nat), .func (.func g) #[] #[]] lo H = some (v, H') ∧ NewBl H H' v 0 (j : Nat) (l.set j y) := by
  obtain ⟨HA, hHA⟩ : ∃ HA : Hp, HA = H ++ [some ⟨[.int .i64 0, .int .i64 0, .slice none 0 0], true, false⟩] := ⟨_, rfl⟩
  have fA : Fn H HA := hHA ▸ Fr.app
  have lA : HA.length = H.length + 1 := by rw [hHA]; simp
  have bA : HA.blk H.length = some ⟨[.int .i64 0, .int .i64 0, .slice none 0 0], true, false⟩ := by rw [hHA]; exact blk0
  have c1 := fun L => implBlocksFault_c d H.length (H ++ L) a l.length l (h.fnB Fr.app)
  have hl24 := fB_len h0
  obtain ⟨hjl, _⟩ := List.getElem?_eq_some_iff.1 hj
  obtain ⟨b, H1, c2, f1, d1⟩ := cloneBlocks_c (d + 2) H.length HA (h.fnB fA) (hx.fn fA) (by omega)
  have b1 : H1.blk H.length = some ⟨[.int .i64 0, .int .i64 0, .slice none 0 0], true, false⟩ := (f1.blk _ (by omega) id).trans bA
  obtain ⟨H2, c3, d2, f2⟩ := hg H.length HA.length H1 b d1 (by omega)
  have b2 : H2.blk H.length = some ⟨[.int .i64 0, .int .i64 0, .slice none 0 0], true, false⟩ := (f2.blk _ (by have := f1.len; omega) (fun hh => by have := (d1.lt hh).1; omega)).trans b1
  have g3 := fun vs hv => wr_setB (lo := H.length) b2 (by omega) vs hv
  have g4 := fun vs hv => rdN_setB b2 3 vs hv
  have hw : IntKind.i64.wrap ((l.length : Int) - 1) = (l.length : Int) - 1 := wr (by omega) (by omega)
  have hin : (0 ≤ (j : Int) ∧ (j : Int) ≤ (l.length : Int) - 1) = True := eq_true ⟨by omega, by omega⟩
  have hN : NewBl H (setB H2 H.length [.int .i64 0, .int .i64 (j : Nat), .slice b l.length (sg b 2)]) (.agg #[.int .i64 0, .int .i64 (j : Nat), .slice b l.length (sg b 2)]) 0 (j : Nat) (l.set j y) := by
    have ff : Fn H H2 := ((fA.trans f1).no.trans f2).new fun k e => by have := (d1.lt e).1; omega
    exact ⟨b, by rw [List.length_set], Fn.setB ff (by omega) b2 _, (d2.fw (Fr.setB b2 _).w (fun k hk e2 => by have := (d2.lt hk).1; omega)).lo (by omega)⟩
  refine ⟨_, _, ?_, hN.done⟩
  subst hHA
  rw [call_eq find84 _ _ _ rfl]
  simp -implicitDefEqProofs only [v84, VMs, vop, VOp.still, VOp.app, VOp.plain, allP, lof, evs, start, asI, vbin, vcells, ntup, setAll, vfill, vress, vres, tup, Nat.reduceEqDiff, ↓reduceIte, Nat.reduceAdd, Nat.reduceMul, Nat.reduceLeDiff, reduceCtorEq, c1, h0, bne_self_eq_false, slen, hw, within_c, hin, decide_true, List.size_toArray, c2, c3, g3, g4]
theorem implShareBlock_c (d lo : Nat) (H : Hp) {a : Option Addr} {l : List Bk} (h : Rep EB 2 H a l.length l) (hx : Ex H a) (h0 : fB l = 0) {j : Nat} {x : Bk} (hj : l[j]? = some x) (hr : 1 ≤ x.r ∧ x.r < 200) :
    ∃ v H', vcall env (d + 5) 32 [.slice a l.length (sg a 2), .int .i64 (j : Nat)] lo H = some (v, H') ∧ NewBl H H' v 0 (j : Nat) (l.set j ⟨x.r + 1, x.d⟩) := by
  obtain ⟨HA, hHA⟩ : ∃ HA : Hp, HA = H ++ [some ⟨[.int .i64 0, .int .i64 0, .slice none 0 0], true, false⟩] := ⟨_, rfl⟩
  have fA : Fn H HA := hHA ▸ Fr.app
  have lA : HA.length = H.length + 1 := by rw [hHA]; simp
  have bA : HA.blk H.length = some ⟨[.int .i64 0, .int .i64 0, .slice none 0 0], true, false⟩ := by rw [hHA]; exact blk0
  obtain ⟨v, H1, c1, a1, rfl, f1, d1⟩ := referred_c d H.length HA (h.fnB fA) (hx.fn fA) h0 hj 85 _ (fun lo L H a hd hL => implShare_c (d + 2) lo L H hd hL hj hr)
  have b1 : H1.blk H.length = some ⟨[.int .i64 0, .int .i64 0, .slice none 0 0], true, false⟩ := (f1.blk _ (by omega) id).trans bA
  have g3 := fun vs hv => wr_setB (lo := H.length) b1 (by omega) vs hv
  have g4 := fun vs hv => rdN_setB b1 3 vs hv
  generalize l.set j ⟨x.r + 1, x.d⟩ = R at *
  have hN : NewBl H (setB H1 H.length [.int .i64 0, .int .i64 (j : Nat), .slice a1 R.length (sg a1 2)]) (.agg #[.int .i64 0, .int .i64 (j : Nat), .slice a1 R.length (sg a1 2)]) 0 (j : Nat) R :=
    ⟨a1, rfl, Fn.setB (fA.trans f1) (by omega) b1 _, (d1.fw (Fr.setB b1 _).w (fun k hk e2 => by have := (d1.lt hk).1; omega)).lo (by omega)⟩
  refine ⟨_, _, ?_, hN.done⟩
  subst hHA
  rw [call_eq find32 _ _ _ rfl]
  simp -implicitDefEqProofs only [v32, VMs, vop, VOp.still, VOp.app, VOp.plain, allP, lof, evs, start, asI, vbin, vcells, ntup, setAll, vfill, vress, vres, tup, Nat.reduceEqDiff, ↓reduceIte, Nat.reduceAdd, Nat.reduceMul, Nat.reduceLeDiff, reduceCtorEq, c1, g3, g4]
theorem implDropBlock_c (d lo : Nat) (H : Hp) {a : Option Addr} {l : List Bk} (h : Rep EB 2 H a l.length l) (hx : Ex H a) (h0 : fB l = 0) {j : Nat} {x : Bk} (hj : l[j]? = some x) (hr : 1 ≤ x.r ∧ x.r ≤ 200) :
    ∃ v H', vcall env (d + 5) 35 [.slice a l.length (sg a 2), .int .i64 (j : Nat)] lo H = some (v, H') ∧ NewBl H H' v 0 (j : Nat) (l.set j (decB x)) := by
  obtain ⟨HA, hHA⟩ : ∃ HA : Hp, HA = H ++ [some ⟨[.int .i64 0, .int .i64 0, .slice none 0 0], true, false⟩] := ⟨_, rfl⟩
  have fA : Fn H HA := hHA ▸ Fr.app
  have lA : HA.length = H.length + 1 := by rw [hHA]; simp
  have bA : HA.blk H.length = some ⟨[.int .i64 0, .int .i64 0, .slice none 0 0], true, false⟩ := by rw [hHA]; exact blk0
  obtain ⟨v, H1, c1, a1, rfl, f1, d1⟩ := referred_c d H.length HA (h.fnB fA) (hx.fn fA) h0 hj 87 _ (fun lo L H a hd hL => implDrop_c (d + 2) lo L H hd hL hj hr)
  have b1 : H1.blk H.length = some ⟨[.int .i64 0, .int .i64 0, .slice none 0 0], true, false⟩ := (f1.blk _ (by omega) id).trans bA
  have g3 := fun vs hv => wr_setB (lo := H.length) b1 (by omega) vs hv
  have g4 := fun vs hv => rdN_setB b1 3 vs hv
  generalize l.set j (decB x) = R at *
  have hN : NewBl H (setB H1 H.length [.int .i64 0, .int .i64 (j : Nat), .slice a1 R.length (sg a1 2)]) (.agg #[.int .i64 0, .int .i64 (j : Nat), .slice a1 R.length (sg a1 2)]) 0 (j : Nat) R :=
    ⟨a1, rfl, Fn.setB (fA.trans f1) (by omega) b1 _, (d1.fw (Fr.setB b1 _).w (fun k hk e2 => by have := (d1.lt hk).1; omega)).lo (by omega)⟩
  refine ⟨_, _, ?_, hN.done⟩
  subst hHA
  rw [call_eq find35 _ _ _ rfl]
  simp -implicitDefEqProofs only [v35, VMs, vop, VOp.still, VOp.app, VOp.plain, allP, lof, evs, start, asI, vbin, vcells, ntup, setAll, vfill, vress, vres, tup, Nat.reduceEqDiff, ↓reduceIte, Nat.reduceAdd, Nat.reduceMul, Nat.reduceLeDiff, reduceCtorEq, c1, g3, g4]
/-- How many blocks are free. -/
def freeN (l : List Bk) : Nat := l.countP fun b => b.r == 0
theorem freeN_take (l : List Bk) (j : Nat) (hj : j < l.length) : freeN (l.take (j + 1)) = freeN (l.take j) + if l[j].r = 0 then 1 else 0 := by
  unfold freeN
  rw [List.take_succ_eq_append_getElem hj, List.countP_append, List.countP_cons, List.countP_nil, Nat.zero_add]
  simp only [beq_iff_eq]
theorem freeN_le (l : List Bk) : freeN l ≤ l.length := List.countP_le_length
theorem implFreeOf_c (d lo : Nat) (H : Hp) {a : Option Addr} {n : Nat} {l : List Bk} (h : Rep EB 2 H a n l) (h0 : fB l = 0) :
    vcall env (d + 4) 28 [.slice a n (sg a 2)] lo H = some (.agg #[.int .i64 0, .int .i64 (freeN l : Nat)], H) := by
  have n1 := h.1
  have hl24 := fB_len h0
  have hsm : Sm n := by unfold Sm; omega
  have c1 := fun L => implBlocksFault_c d H.length (H ++ L) a n l (h.fnB Fr.app)
  obtain ⟨HA, hHA⟩ : ∃ HA : Hp, HA = H ++ [some ⟨[.int .i64 0, .int .i64 0], true, false⟩] := ⟨_, rfl⟩
  have fA : Fn H HA := hHA ▸ Fr.app
  have lA : HA.length = H.length + 1 := by rw [hHA]; simp
  have bA : HA.blk H.length = some ⟨[.int .i64 0, .int .i64 0], true, false⟩ := by rw [hHA]; exact blk0
  have hloop : ∃ r, lim (rnd (vcall env (d + 3)) H.length [2, 4, 13, 14, 15] [2, 4] l28_0) [(2, .pointer (some ⟨H.length, 0, none⟩)), (4, .int .i64 0), (13, .slice a n (sg a 2)), (14, .int .i64 (n : Nat)), (15, .int .i64 0)] HA = some r ∧
      ∃ H', r = (.exit 0, [(2, .pointer (some ⟨H.length, 0, none⟩)), (4, .int .i64 (freeN l : Nat))], H') ∧ Fn HA H' := by
    refine lim_inv (fun j ts H2 => ts = [(2, .pointer (some ⟨H.length, 0, none⟩)), (4, .int .i64 (freeN (l.take j) : Nat)), (13, .slice a n (sg a 2)), (14, .int .i64 (n : Nat)), (15, .int .i64 (j : Nat))] ∧ Fn HA H2) n ?_ ?_ ?_
    · rintro j ts H2 hj ⟨rfl, f2⟩
      have hjl : j < l.length := by omega
      obtain ⟨p, o, rfl, ep⟩ := (h.fnB (fA.trans f2)).at hjl
      have ev := ep.val
      have ht := freeN_take l j hjl
      have hfl := freeN_le (l.take j)
      rw [List.length_take] at hfl
      have hle2 : (H.length ≤ H2.length) = True := eq_true (by have := f2.len; omega)
      refine ⟨_, H2 ++ [some ⟨[.int .i64 l[j].r, .int .i64 l[j].d], true, false⟩], ?_, rfl, f2.trans Fr.app⟩
      by_cases hr : l[j].r = 0
      · rw [if_pos hr] at ht
        have hb : (l[j].r == 0) = true := beq_iff_eq.2 hr
        have hw : IntKind.i64.wrap (((freeN (l.take j) : Nat) : Int) + 1) = ((freeN (l.take (j + 1)) : Nat) : Int) := by rw [wr (by omega) (by omega)]; omega
        simp -implicitDefEqProofs only [rnd, l28_0, VMs, noRef, noRef1, isRef, List.all_cons, List.all_nil, vop, VOp.still, VOp.app, VOp.plain, allP, lof, evs, start, asI, vbin, vcells, ntup, setAll, vfill, vress, vres, tup, Nat.reduceEqDiff, ↓reduceIte, Nat.reduceAdd, Nat.reduceMul, Nat.reduceLeDiff, reduceCtorEq, slen, ltc hj, ge0, decide_true, Int.toNat_natCast, ev, hle2, hb, hw, hsm.w hj]
      · rw [if_neg hr, Nat.add_zero] at ht
        have hb : (l[j].r == 0) = false := beq_eq_false_iff_ne.2 hr
        simp -implicitDefEqProofs only [rnd, l28_0, VMs, noRef, noRef1, isRef, List.all_cons, List.all_nil, vop, VOp.still, VOp.app, VOp.plain, allP, lof, evs, start, asI, vbin, vcells, ntup, setAll, vfill, vress, vres, tup, Nat.reduceEqDiff, ↓reduceIte, Nat.reduceAdd, Nat.reduceMul, Nat.reduceLeDiff, reduceCtorEq, slen, ltc hj, ge0, decide_true, Int.toNat_natCast, ev, hle2, hb, ht, hsm.w hj]
    · rintro ts H2 ⟨rfl, f2⟩
      rw [n1, List.take_length]
      exact ⟨_, by simp -implicitDefEqProofs only [rnd, l28_0, VMs, noRef, noRef1, isRef, List.all_cons, List.all_nil, vop, VOp.still, VOp.app, VOp.plain, allP, lof, evs, start, asI, vbin, vcells, ntup, setAll, vfill, vress, vres, tup, Nat.reduceEqDiff, ↓reduceIte, Nat.reduceAdd, Nat.reduceMul, Nat.reduceLeDiff, reduceCtorEq, slen, Int.lt_irrefl, decide_false], by simp, H2, rfl, f2⟩
    · exact ⟨rfl, Fr.refl⟩
  obtain ⟨_, hl, H1, rfl, f1⟩ := hloop
  have b1 : H1.blk H.length = some ⟨[.int .i64 0, .int .i64 0], true, false⟩ := (f1.blk _ (by omega) id).trans bA
  have g3 := fun vs hv => wr_setB (lo := H.length) b1 (by omega) vs hv
  have g4 := fun vs hv => rdN_setB b1 2 vs hv
  subst hHA
  rw [call_eq find28 _ _ _ rfl]
  simp -implicitDefEqProofs only [v28, VMs, noRef, noRef1, isRef, List.all_cons, List.all_nil, vop, VOp.still, VOp.app, VOp.plain, allP, lof, evs, start, asI, vbin, vcells, ntup, setAll, vfill, vress, vres, tup, Nat.reduceEqDiff, ↓reduceIte, Nat.reduceAdd, Nat.reduceMul, Nat.reduceLeDiff, reduceCtorEq, c1, h0, bne_self_eq_false, slen, vlp, hl, g3, g4]
theorem drawTake_c (d lo : Nat) (H : Hp) {ac : Option Addr} {code : List Int} (hc : Rep EY 1 H ac code.length code) (hy : ∀ x ∈ code, 0 ≤ x ∧ x ≤ 255) (hn : code.length ≤ 1048576) :
    ∃ a l w H', vcall env (d + 4) 39 [.slice ac code.length (sg ac 1)] lo H = some (.tuple #[.slice a l.length (sg a 2), .int .i64 w], H') ∧ Fn H H' ∧ Rep EB 2 H' a l.length l ∧ Ex H' a ∧ l.length ≤ 25 := by
  obtain ⟨H1, c1, f1, l1, s1⟩ := l1Source_c (d + 2) H.length H hc hy (by omega)
  obtain ⟨a, l, H2, c2, b2⟩ := l3Blocks_c d H.length H1 s1 (Nat.le_refl _) (by omega)
  obtain ⟨k2, _, hk2, s2⟩ := b2.s
  have c3 := l1Next_c (d + 2) H.length H2 s2 (Nat.le_refl _) (by omega) 256
  obtain ⟨s3, f3, l3⟩ := s2.next (k2 + 1)
  generalize srcB H2 H.length ac code (k2 + 1) = H3 at *
  have c4 := l1Next_c (d + 2) H.length H3 s3 (Nat.le_refl _) (by omega) 256
  obtain ⟨s4, f4, l4⟩ := s3.next (k2 + 1 + 1)
  generalize srcB H3 H.length ac code (k2 + 1 + 1) = H4 at *
  generalize nextV code k2 256 = v1 at *
  generalize nextV code (k2 + 1) 256 = v2 at *
  obtain ⟨H5, hH5⟩ : ∃ H5 : Hp, H5 = H4 ++ [some ⟨vI [v1, v2, 256, -1], true, false⟩] := ⟨_, rfl⟩
  have f5 : Fn H4 H5 := hH5 ▸ Fr.app
  have rp : Rep EI 1 H5 (some ⟨H4.length, 0, none⟩) [v1, v2, 256, -1].length [v1, v2, 256, -1] := repI (by rw [hH5]; exact blk0)
  have hq4 := blk_lt s4.b
  have c5 := l1Pick_c (d + 1) H.length H5 (s4.fn f5) (Nat.le_refl _) (by omega) rp (by simp) (fun i hi => by obtain ⟨o, e⟩ := hi; simp only [Option.some.injEq, Addr.mk.injEq] at e; omega)
  obtain ⟨s6, f6, l6⟩ := (s4.fn f5).next (k2 + 1 + 1 + 1)
  generalize srcB H5 H.length ac code (k2 + 1 + 1 + 1) = H6 at *
  generalize pickV code (k2 + 1 + 1) [v1, v2, 256, -1] = w at *
  have w26 : Fw (· = H.length) H2 H6 := ((f3.w.trans f4.w).trans (Fw.q f5)).trans f6.w
  have hd6 : Hd H1.length H6 a l.length 2 (vB l) := b2.h.fw w26 (fun i hi e => by have := (b2.h.lt hi).1; omega)
  have F6 : Fn H H6 := (b2.f.trans w26).fn f1 (fun i e => by omega)
  subst hH5
  simp only [vI, List.map_cons, List.map_nil, List.length_cons, List.length_nil, Nat.zero_add, Nat.reduceAdd, sgs] at c5
  cases a with
  | some A =>
    refine ⟨some A, l, w, H6, ?_, F6, hd6.rep, hd6.ex, b2.n⟩
    rw [call_eq find39 _ _ _ rfl]
    simp -implicitDefEqProofs only [v39, VMs, noRef, noRef1, isRef, List.all_cons, List.all_nil, vop, VOp.still, VOp.app, VOp.plain, allP, lof, evs, start, asI, vbin, vcells, ntup, setAll, vfill, vress, vres, tup, Nat.reduceEqDiff, ↓reduceIte, Nat.reduceAdd, Nat.reduceMul, Nat.reduceLeDiff, reduceCtorEq, c1, c2, c3, c4, h40, c5]
  | none =>
    have hl0 : l = [] := by
      rcases hd6 with ⟨_, e, _⟩ | ⟨_, _, e, _⟩
      · exact List.length_eq_zero_iff.1 e
      · cases e
    subst hl0
    refine ⟨none, [], w, H, ?_, Fr.refl, Rep.nil, (fun A e => by cases e), by simp⟩
    rw [call_eq find39 _ _ _ rfl]
    simp -implicitDefEqProofs only [v39, VMs, noRef, noRef1, isRef, List.all_cons, List.all_nil, vop, VOp.still, VOp.app, VOp.plain, allP, lof, evs, start, asI, vbin, vcells, ntup, setAll, vfill, vress, vres, tup, Nat.reduceEqDiff, ↓reduceIte, Nat.reduceAdd, Nat.reduceMul, Nat.reduceLeDiff, reduceCtorEq, c1, c2, c3, c4, h40, c5]
end Go.Proofs.Ytmcljallamhccaa.V
/-! What comes of a right forest is right; plain law. -/
namespace Go.Proofs.Ytmcljallamhccaa.V
open Go
set_option linter.unusedVariables false
set_option linter.unusedSimpArgs false
set_option maxRecDepth 100000
/-- A leaf that is the root's alone gets another block. -/
theorem setLeaf_inv {F : Fo} {block : Int} {i p : Nat} (h : Inv F (kI block) z0) (hi : i < F.n.length) (hf : F.n[i].f = true) (hr : F.n[i].r = 1) (hb : BlockOK F block) (hp : p < 4) (hn : noK (withK F.n[i].k p block) = false) (h4 : p < F.n[i].k.length) :
    Inv ⟨F.n.set i ⟨1, true, withK F.n[i].k p block⟩, dropB F.b F.n[i].k[p]⟩ z0 z0 := by
  have hx := List.getElem_mem hi
  have hk4 := (h.n4 _ hx (by omega)).1
  have hkb : ∀ k ∈ withK F.n[i].k p block, k = -1 ∨ (0 ≤ k ∧ k < (F.b.length : Int)) := fun k hk => by
    rcases withK_mem hk with e | e | e
    · exact Or.inl e
    · exact h.kl _ hx hf k e
    · rw [e]; exact hb
  have hnf : ∀ z : Nat, nm false (z : Int) ⟨1, true, withK F.n[i].k p block⟩ = 0 := fun z => nm_oth (Or.inr (by simp))
  have hnt : ∀ z : Nat, nm true (z : Int) ⟨1, true, withK F.n[i].k p block⟩ = ((withK F.n[i].k p block).count (z : Int) : Int) := fun z => nm_live (by simp) rfl
  have hof : ∀ z : Nat, nm false (z : Int) F.n[i] = 0 := fun z => nm_oth (Or.inr (by rw [hf]; simp))
  have hot : ∀ z : Nat, nm true (z : Int) F.n[i] = (F.n[i].k.count (z : Int) : Int) := fun z => nm_live (by omega) hf
  have hcn := h.cn i hi hf
  have h1 : Inv ⟨F.n.set i ⟨1, true, withK F.n[i].k p block⟩, F.b⟩ (kI F.n[i].k[p]) z0 := by
    refine h.upd hi _ _ _ ⟨by simp, by simp⟩ (fun e => by simp at e) (fun _ => ⟨withK_len (Or.inr hk4), noK_has hn (fun k hk => (hkb k hk).imp id (fun e => e.1))⟩) (fun _ => hkb) (fun e => by cases e) (fun _ => Or.inl rfl) (fun z _ => ?_) (fun z _ _ => ?_) (fun _ => ?_)
    · rw [hot, hnt]
      have := withK_old block hk4 h4 z
      omega
    · rw [hof, hnf]; simp
    · rw [hof, hnf]; simp only [z0] at hcn ⊢; omega
  have h2 := Inv.dropK (k := F.n[i].k[p]) h1 (h.kl _ hx hf _ (List.getElem_mem h4)) (fun z e => by unfold kI; rw [if_pos e]; exact Int.le_refl _)
  exact h2.eq (fun z _ => by simp only [z0]; omega) (fun _ _ => Int.le_refl _)
theorem put_inv {F F' : Fo} {root block r : Int} {pa : Nat} (hi : Inv F (kI block) z0) (hr : RootOK F root) (hb : BlockOK F block) (hpa : pa ≤ 15) (h : putF F root pa block = some (r, F')) : Inv F' z0 z0 := by
  by_cases hn : noK (leafF F root pa block) = true
  · have hbm := noK_block hi hr hpa hn
    subst hbm
    rw [putF_n hn] at h
    exact setRoot_inv (hi.kB_m.eq (fun _ _ => rfl) (fun i _ => by unfold kI; rw [if_neg (by omega)]; exact Int.le_refl _)) hr (Or.inl rfl) (by omega) h
  · replace hn := eq_false_of_ne_true hn
    by_cases hal : aloneF F root = true ∧ aloneF F (kidOf F root (pa / 4)) = true
    · rw [putF_a hn hal] at h
      cases h
      obtain ⟨j, i, hj, hii, rfl, e2, hjf, hjr, hif, hir, hij, hk4, hkj⟩ := alone_at hi hr (by omega : pa / 4 < 4) hal
      have hk4' := (hi.n4 _ (List.getElem_mem hii) (by omega)).1
      have hl : leafF F (j : Int) pa block = withK F.n[i].k (pa % 4) block := by unfold leafF; rw [e2, kidsF_n hii]
      rw [hl] at hn ⊢
      rw [e2, Int.toNat_natCast, kidOf_n hii (by omega)]
      exact setLeaf_inv hi hii hif hir hb (by omega) hn (by omega)
    · rw [putF_f hn hal] at h
      obtain ⟨⟨m, F1⟩, h1, h2⟩ := Option.bind_eq_some_iff.1 h
      obtain ⟨i1, i2, i3, i4, _⟩ := leaf_fresh hi hr hb hn hpa h1
      exact setRoot_inv i1 i2 i3 (by omega) h2
theorem resPut_inv {F : Fo} {root block : Int} {p : Nat} (hi : Inv F (kI block) z0) (hr : RootOK F root) (hb : BlockOK F block) (hp : p ≤ 15) (h0 : (resPut F root p block).1 = 0) : Inv (resPut F root p block).2.2 z0 z0 := by
  unfold resPut at h0 ⊢
  cases h : putF F root p block with
  | none => rw [h] at h0; cases h0
  | some x => obtain ⟨r, F'⟩ := x; exact put_inv hi hr hb hp h
theorem resSetTree_at {F : Fo} {root at_ data : Int} (h : (resSetTree F root at_ data).1 = 0) : ∃ p : Nat, at_ = (p : Int) ∧ p ≤ 15 ∧ Inv F z0 z0 ∧ RootOK F root ∧ (0 ≤ data ∧ data ≤ 255) ∧ slotB F.b < F.b.length ∧ resSetTree F root at_ data = resPut (takeF F data) root p (slotB F.b : Int) := by
  unfold resSetTree at h ⊢
  by_cases h0 : askF F root (decide (0 ≤ at_ ∧ at_ ≤ 15)) = 0
  · rw [if_pos h0] at h ⊢
    obtain ⟨p, rfl, hp⟩ := place_of h0
    by_cases h1 : 0 ≤ data ∧ data ≤ 255
    · rw [if_pos h1] at h ⊢
      by_cases h2 : slotB F.b < F.b.length
      · rw [if_pos h2, Int.toNat_natCast]
        exact ⟨p, rfl, hp, ask_inv h0, ask_root h0, h1, h2, rfl⟩
      · rw [if_neg h2] at h; cases h
    · rw [if_neg h1] at h; cases h
  · rw [if_neg h0] at h; exact absurd h h0
theorem resSetTree_inv {F : Fo} {root at_ data : Int} (h : (resSetTree F root at_ data).1 = 0) : Inv (resSetTree F root at_ data).2.2 z0 z0 := by
  obtain ⟨p, rfl, hp, hi, hr, hd, hs, e⟩ := resSetTree_at h
  rw [e] at h ⊢
  exact resPut_inv (take_inv hi hs hd) (show RootOK F root from hr) (Or.inr ⟨by omega, by simp only [takeF, List.length_set]; omega⟩) hp h
theorem resClearTree_at {F : Fo} {root at_ : Int} (h : (resClearTree F root at_).1 = 0) : ∃ p : Nat, at_ = (p : Int) ∧ p ≤ 15 ∧ Inv F z0 z0 ∧ RootOK F root ∧ 0 ≤ blkOf F root p ∧ resClearTree F root at_ = resPut F root p (-1) := by
  unfold resClearTree at h ⊢
  by_cases h0 : askF F root (decide (0 ≤ at_ ∧ at_ ≤ 15)) = 0
  · rw [if_pos h0] at h ⊢
    obtain ⟨p, rfl, hp⟩ := place_of h0
    by_cases h1 : blkOf F root (p : Int).toNat < 0
    · rw [if_pos h1] at h; cases h
    · rw [if_neg h1, Int.toNat_natCast]
      rw [Int.toNat_natCast] at h1
      exact ⟨p, rfl, hp, ask_inv h0, ask_root h0, by omega, rfl⟩
  · rw [if_neg h0] at h; exact absurd h h0
theorem resClearTree_inv {F : Fo} {root at_ : Int} (h : (resClearTree F root at_).1 = 0) : Inv (resClearTree F root at_).2.2 z0 z0 := by
  obtain ⟨p, rfl, hp, hi, hr, hb, e⟩ := resClearTree_at h
  rw [e] at h ⊢
  exact resPut_inv hi.toB hr (Or.inl rfl) hp h
theorem resDropTree_inv {F : Fo} {root : Int} (h : (resDropTree F root).1 = 0) : Inv (resDropTree F root).2.2 z0 z0 := by
  unfold resDropTree at h ⊢
  by_cases h0 : askF F root true = 0
  · rw [if_pos h0]
    exact (ask_inv h0).lessRoot (ask_root h0)
  · rw [if_neg h0] at h; exact absurd h h0
theorem Inv.moreRoot {F : Fo} (h : Inv F z0 z0) {j : Nat} (hj : j < F.n.length) (hf : F.n[j].f = false) (hr : F.n[j].r ≠ 0) (h2 : F.n[j].r < 200) : Inv ⟨F.n.set j ⟨F.n[j].r + 1, F.n[j].f, F.n[j].k⟩, F.b⟩ z0 z0 := by
  have h1 := h.nr _ (List.getElem_mem hj)
  have h2 := h.refs hj 1 hr (by omega) (by omega)
  refine ⟨h2.n60, h2.b24, h2.bd, h2.nr, h2.n0, h2.n4, h2.kl, h2.kr, h2.cb, fun i hi hfi => ?_⟩
  have h3 := h2.cn i hi hfi
  by_cases e : i = j
  · subst e
    simp only [List.getElem_set, if_true] at hfi
    rw [hf] at hfi; cases hfi
  · rw [if_neg e] at h3
    simp only [z0, Int.add_zero] at h3 ⊢
    exact h3
theorem resShareTree_at {F : Fo} {root : Int} (h : (resShareTree F root).1 = 0) : Inv F z0 z0 ∧ RootOK F root ∧ ((root = -1 ∧ resShareTree F root = (0, -1, F)) ∨ ∃ (j : Nat) (hj : j < F.n.length), root = (j : Int) ∧ F.n[j].f = false ∧ 0 < F.n[j].r ∧ F.n[j].r < 200 ∧ resShareTree F root = (0, root, ⟨F.n.set j ⟨F.n[j].r + 1, F.n[j].f, F.n[j].k⟩, F.b⟩)) := by
  unfold resShareTree at h ⊢
  by_cases h0 : askF F root true = 0
  · rw [if_pos h0] at h ⊢
    have hi := ask_inv h0
    refine ⟨hi, ask_root h0, ?_⟩
    rcases ask_root h0 with rfl | ⟨j, hj, rfl, hf, hr⟩
    · rw [if_pos rfl]; exact Or.inl ⟨rfl, rfl⟩
    · rw [if_neg (by omega)] at h ⊢
      rw [Int.toNat_natCast, getE hj] at h ⊢
      simp only at h ⊢
      by_cases h2 : 200 ≤ F.n[j].r
      · rw [if_pos h2] at h; cases h
      · rw [if_neg h2]
        have := hi.nr _ (List.getElem_mem hj)
        exact Or.inr ⟨j, hj, rfl, hf, by omega, by omega, rfl⟩
  · rw [if_neg h0] at h; exact absurd h h0
theorem resShareTree_inv {F : Fo} {root : Int} (h : (resShareTree F root).1 = 0) : Inv (resShareTree F root).2.2 z0 z0 := by
  obtain ⟨hi, hr, ⟨rfl, e⟩ | ⟨j, hj, rfl, hf, h1, h2, e⟩⟩ := resShareTree_at h
  · rw [e]; exact hi
  · rw [e]; exact hi.moreRoot hj hf (by omega) h2
/-! ### What lives on -/
/-- What is referred to is so on, and is what it was. -/
structure Lives (F F' : Fo) : Prop where
  n : ∀ (i : Nat) x, F.n[i]? = some x → 0 < x.r → ∃ r, F'.n[i]? = some ⟨r, x.f, x.k⟩ ∧ 0 < r
  b : ∀ (i : Nat) x, F.b[i]? = some x → 0 < x.r → ∃ r, F'.b[i]? = some ⟨r, x.d⟩ ∧ 0 < r
theorem Lives.refl (F : Fo) : Lives F F := ⟨fun i x h hr => ⟨x.r, h, hr⟩, fun i x h hr => ⟨x.r, h, hr⟩⟩
theorem Lives.trans {F F' F'' : Fo} (h : Lives F F') (h' : Lives F' F'') : Lives F F'' :=
  ⟨fun i x hx hr => let ⟨r, h1, h2⟩ := h.n i x hx hr; h'.n i ⟨r, x.f, x.k⟩ h1 h2, fun i x hx hr => let ⟨r, h1, h2⟩ := h.b i x hx hr; h'.b i ⟨r, x.d⟩ h1 h2⟩
theorem Lives.kid {F F' : Fo} (h : Lives F F') {j : Nat} (hj : j < F.n.length) (hr : 0 < F.n[j].r) (i : Nat) : kidOf F' (j : Int) i = kidOf F (j : Int) i := by
  obtain ⟨r, h1, _⟩ := h.n j _ (getE hj) hr
  have h0 : ¬ (j : Int) = -1 := by omega
  unfold kidOf
  rw [if_neg h0, if_neg h0, Int.toNat_natCast, h1, getE hj]; rfl
theorem Lives.kidR {F F' : Fo} {eB eN : Nat → Int} (h : Lives F F') (hi : Inv F eB eN) {root : Int} (hr : RootOK F root) (i : Nat) : kidOf F' root i = kidOf F root i := by
  rcases hr with rfl | ⟨j, hj, rfl, hf, hr⟩
  · rfl
  · have := hi.nr _ (List.getElem_mem hj)
    exact h.kid hj (by omega) i
theorem Lives.kidL {F F' : Fo} {eB eN : Nat → Int} (h : Lives F F') (hi : Inv F eB eN) {k : Int} (hk : LeafOK F k) (i : Nat) : kidOf F' k i = kidOf F k i := by
  rcases hk with rfl | ⟨j, hj, rfl, hf⟩
  · rfl
  · have := hi.nr _ (List.getElem_mem hj)
    have := hi.live (List.getElem_mem hj) hf
    exact h.kid hj (by omega) i
theorem Lives.blk {F F' : Fo} {eB eN : Nat → Int} (h : Lives F F') (hi : Inv F eB eN) {root : Int} (hr : RootOK F root) (p : Nat) (hp : p ≤ 15) : blkOf F' root p = blkOf F root p := by
  unfold blkOf
  rw [h.kidR hi hr, h.kidL hi (kidLeaf hi hr (by omega))]
/-- The data of a block. -/
def datF (F : Fo) (k : Int) : Int := ((F.b[k.toNat]?).map Bk.d).getD 0
theorem Lives.dat {F F' : Fo} (h : Lives F F') {k : Int} (hk : kidB F true k = true) (h0 : k ≠ -1) : datF F' k = datF F k := by
  rcases blk_at hk with e | ⟨j, hj, rfl, hr⟩
  · exact absurd e h0
  · obtain ⟨r, h1, _⟩ := h.b j _ (getE hj) hr
    unfold datF
    rw [Int.toNat_natCast, h1, getE hj]; rfl
theorem walkF_eq (F : Fo) (root : Int) (p : Nat) : walkF F root p = if blkOf F root p = -1 then [] else [(p : Int), datF F (blkOf F root p)] := rfl
/-- A tree of a right forest is walked as before. -/
theorem Lives.walk {F F' : Fo} (h : Lives F F') (hi : Inv F z0 z0) {root : Int} (hr : RootOK F root) : walkL F' root 16 = walkL F root 16 := by
  have hg : Good F := hi.good (fun _ => Int.le_refl _)
  have key : ∀ n, n ≤ 16 → walkL F' root n = walkL F root n := by
    intro n
    induction n with
    | zero => intro _; rfl
    | succ n ih =>
      intro hn
      rw [walkL_succ, walkL_succ, ih (by omega)]
      congr 1
      rw [walkF_eq, walkF_eq, h.blk hi hr n (by omega)]
      by_cases h0 : blkOf F root n = -1
      · rw [if_pos h0, if_pos h0]
      · rw [if_neg h0, if_neg h0, h.dat (blkOf_ok hg (hr.b hi) (by omega)) h0]
  exact key 16 (Nat.le_refl _)
theorem look_ok {F : Fo} (hi : Inv F z0 z0) {root : Int} (hr : RootOK F root) (p : Nat) (hp : p ≤ 15) : askF F root (decide (0 ≤ (p : Int) ∧ (p : Int) ≤ 15)) = 0 := by
  unfold askF
  rw [if_pos hi.fF, hr.b hi, decide_eq_true (show 0 ≤ (p : Int) ∧ (p : Int) ≤ 15 by omega)]; rfl
theorem ask_true {F : Fo} (hi : Inv F z0 z0) {root : Int} (hr : RootOK F root) : askF F root true = 0 := by
  unfold askF
  rw [if_pos hi.fF, hr.b hi]; rfl
theorem Lives.root {F F' : Fo} {eB eN : Nat → Int} (h : Lives F F') (hi : Inv F eB eN) {root : Int} (hr : RootOK F root) : RootOK F' root := by
  rcases hr with rfl | ⟨j, hj, rfl, hf, hr⟩
  · exact Or.inl rfl
  · have := hi.nr _ (List.getElem_mem hj)
    obtain ⟨r, h1, h2⟩ := h.n j _ (getE hj) (by omega)
    obtain ⟨hj', e⟩ := List.getElem?_eq_some_iff.1 h1
    exact Or.inr ⟨j, hj', rfl, by rw [e]; exact hf, by rw [e]; simp only; omega⟩
theorem lives_kept {F F' : Fo} (h : Kept F F') (hb : F'.b = F.b) : Lives F F' :=
  ⟨fun i x hx hr => let ⟨r, h1, h2⟩ := h.2 i x hx (by omega); ⟨r, h1, by omega⟩, fun i x hx hr => ⟨x.r, by rw [hb]; exact hx, hr⟩⟩
end Go.Proofs.Ytmcljallamhccaa.V
/-! A place of a shared tree is set, and the new tree is dropped: what all trees have then; plain law. -/
namespace Go.Proofs.Ytmcljallamhccaa.V
open Go
set_option linter.unusedVariables false
set_option linter.unusedSimpArgs false
set_option maxRecDepth 100000
theorem moreK_lives {leaf : Bool} {F F' : Fo} {k : Int} (hm : moreK leaf F k = some F') : Lives F F' := by
  unfold moreK at hm
  by_cases h0 : k < 0
  · rw [if_pos h0] at hm; cases hm; exact Lives.refl _
  · rw [if_neg h0] at hm
    by_cases hl : leaf = true
    · rw [if_pos hl] at hm
      split at hm
      · rename_i b hb
        split at hm
        · cases hm
        · cases hm
          refine ⟨fun i x h hr => ⟨x.r, h, hr⟩, fun i x h hr => ?_⟩
          obtain ⟨hi, e⟩ := List.getElem?_eq_some_iff.1 h
          simp only [List.getElem?_set]
          by_cases hki : k.toNat = i
          · rw [if_pos hki, if_pos (by omega)]
            rw [hki, h] at hb
            cases hb
            exact ⟨_, rfl, by omega⟩
          · rw [if_neg hki]; exact ⟨x.r, h, hr⟩
      · cases hm
    · rw [if_neg hl] at hm
      split at hm
      · rename_i y hy
        split at hm
        · cases hm
        · cases hm
          refine ⟨fun i x h hr => ?_, fun i x h hr => ⟨x.r, h, hr⟩⟩
          obtain ⟨hi, e⟩ := List.getElem?_eq_some_iff.1 h
          simp only [List.getElem?_set]
          by_cases hki : k.toNat = i
          · rw [if_pos hki, if_pos (by omega)]
            rw [hki, h] at hy
            cases hy
            exact ⟨_, rfl, by omega⟩
          · rw [if_neg hki]; exact ⟨x.r, h, hr⟩
      · cases hm
theorem moreAll_lives {leaf : Bool} : ∀ (ks : List Int) (F F' : Fo), moreAll leaf F ks = some F' → Lives F F'
  | [], F, F', hm => by rw [moreAll_nil] at hm; cases hm; exact Lives.refl _
  | k :: ks, F, F', hm => by
    rw [moreAll_cons] at hm
    obtain ⟨F1, h1, h2⟩ := Option.bind_eq_some_iff.1 hm
    exact (moreK_lives h1).trans (moreAll_lives ks F1 F' h2)
theorem put_lives {F : Fo} (l : Bool) (ks : List Int) : Lives F (putF1 F l ks) := ⟨fun i x hx hr => by
  obtain ⟨hi, rfl⟩ := List.getElem?_eq_some_iff.1 hx
  exact ⟨_, putN_old _ hi (by omega), hr⟩, fun i x hx hr => ⟨x.r, hx, hr⟩⟩
theorem take_lives {F : Fo} (data : Int) (hs : slotB F.b < F.b.length) : Lives F (takeF F data) := ⟨fun i x hx hr => ⟨x.r, hx, hr⟩, fun i x hx hr => by
  have h0 := slotB_dead hs
  refine ⟨x.r, ?_, hr⟩
  simp only [takeF, List.getElem?_set]
  rw [if_neg, hx]
  intro e
  subst e
  rw [getE hs] at hx
  cases hx
  omega⟩
theorem kidOf_kids (F : Fo) (n : Int) (i : Nat) : kidOf F n i = ((kidsF F n)[i]?).getD (-1) := by
  unfold kidOf kidsF
  by_cases h : n = -1
  · rw [if_pos h, if_pos h]; rfl
  · rw [if_neg h, if_neg h]
    cases F.n[n.toNat]? with
    | none => rfl
    | some x => rfl
theorem withK_get {ks : List Int} {p i : Nat} (k : Int) (h : ks = [] ∨ ks.length = 4) (hp : p < 4) (hi : i < 4) : ((withK ks p k)[i]?).getD (-1) = if i = p then k else (ks[i]?).getD (-1) := by
  unfold withK
  have hl : (if ks = [] then [-1, -1, -1, -1] else ks).length = 4 := by
    rcases h with rfl | h
    · rfl
    · have : ks ≠ [] := by intro e; rw [e] at h; simp at h
      rw [if_neg this]; exact h
  rw [List.getElem?_set]
  by_cases e : i = p
  · subst e
    rw [if_pos rfl, if_pos (by omega), if_pos rfl]; rfl
  · rw [if_neg (fun e' => e e'.symm), if_neg e]
    by_cases hk : ks = []
    · subst hk
      rw [if_pos rfl]
      rcases (by omega : i = 0 ∨ i = 1 ∨ i = 2 ∨ i = 3) with rfl | rfl | rfl | rfl <;> rfl
    · rw [if_neg hk]
theorem kid_at {F : Fo} {m : Nat} {r : Int} {f : Bool} {ks : List Int} (h : F.n[m]? = some ⟨r, f, ks⟩) (i : Nat) : kidOf F (m : Int) i = (ks[i]?).getD (-1) := by
  have h0 : ¬ (m : Int) = -1 := by omega
  unfold kidOf
  rw [if_neg h0, Int.toNat_natCast, h]; rfl
theorem lessR_dec {F : Fo} {j : Nat} {x : Nd} (hx : F.n[j]? = some x) (h : 1 < x.r) : lessR F j = ⟨F.n.set j ⟨x.r - 1, x.f, x.k⟩, F.b⟩ := by
  unfold lessR; rw [hx]; simp only; rw [if_pos h]
theorem dec_lives {F : Fo} {j : Nat} {x : Nd} (hx : F.n[j]? = some x) (h : 1 < x.r) : Lives F ⟨F.n.set j ⟨x.r - 1, x.f, x.k⟩, F.b⟩ := ⟨fun i y hy hr => by
  obtain ⟨hi, e⟩ := List.getElem?_eq_some_iff.1 hy
  simp only [List.getElem?_set]
  by_cases hji : j = i
  · subst hji
    rw [hx] at hy; cases hy
    rw [if_pos rfl, if_pos hi]
    exact ⟨_, rfl, by omega⟩
  · rw [if_neg hji]; exact ⟨y.r, hy, hr⟩, fun i y hy hr => ⟨y.r, hy, hr⟩⟩
/-- What setting a place of a tree that is not alone makes. -/
structure SetR (F : Fo) (root : Int) (p : Nat) (data : Int) (m : Nat) (F' : Fo) : Prop where
  inv : Inv F' z0 z0
  new : RootOK F' (m : Int)
  ne : (m : Int) ≠ root
  old : Lives F F'
  blk : ∀ q, q ≤ 15 → blkOf F' (m : Int) q = if q = p then (slotB F.b : Int) else blkOf F root q
  dat : datF F' (slotB F.b : Int) = data
theorem setR_of {F F' : Fo} {root data r : Int} {p : Nat} (hi : Inv F z0 z0) (hr : RootOK F root) (hna : aloneF F root = false) (hp : p ≤ 15) (hd : 0 ≤ data ∧ data ≤ 255) (hs : slotB F.b < F.b.length) (h : resPut (takeF F data) root p (slotB F.b : Int) = (0, r, F')) : ∃ m : Nat, r = (m : Int) ∧ SetR F root p data m F' := by
  have hiG := take_inv hi hs hd
  have hrG : RootOK (takeF F data) root := hr
  have hbG : BlockOK (takeF F data) (slotB F.b : Int) := Or.inr ⟨by omega, by simp only [takeF, List.length_set]; omega⟩
  have hF' := resPut_inv hiG hrG hbG hp (by rw [h])
  rw [h] at hF'
  simp only at hF'
  have l0 := take_lives data hs
  have hbs : (takeF F data).b[slotB F.b]? = some ⟨1, data⟩ := by simp [takeF, hs]
  have kF : ∀ n i, kidOf (takeF F data) n i = kidOf F n i := fun _ _ => rfl
  have bF : ∀ n i, blkOf (takeF F data) n i = blkOf F n i := fun _ _ => rfl
  have hnaG : aloneF (takeF F data) root = false := hna
  generalize takeF F data = G at *
  unfold resPut at h
  cases hput : putF G root p (slotB F.b : Int) with
  | none => rw [hput] at h; cases h
  | some x =>
    rw [hput] at h
    obtain ⟨r0, F0⟩ := x
    cases h
    have hn : noK (leafF G root p (slotB F.b : Int)) = false := by
      cases hb : noK (leafF G root p (slotB F.b : Int)) with
      | false => rfl
      | true => have := noK_block hiG hrG hp hb; omega
    rw [putF_f hn (fun e => by rw [hnaG] at e; cases e.1)] at hput
    obtain ⟨⟨m, G1⟩, h1, h2⟩ := Option.bind_eq_some_iff.1 hput
    obtain ⟨i1, i2, i3, i4, i5, i6, i7⟩ := leaf_fresh hiG hrG hbG hn hp h1
    obtain ⟨hs1, hme, hm1⟩ := freshF_some h1
    have lG1 : Lives G G1 := (put_lives true _).trans (moreAll_lives _ _ _ hm1)
    have hn1 := moreAll_n_same _ _ _ hm1
    have hleaf : G1.n[m]? = some ⟨1, true, leafF G root p (slotB F.b : Int)⟩ := by
      rw [hn1, hme]; exact putN_at _ _
    have k4 := kids4 i1 i2
    have hn2 : noK (withK (kidsF G1 root) (p / 4) (m : Int)) = false := by
      cases hb : noK (withK (kidsF G1 root) (p / 4) (m : Int)) with
      | false => rfl
      | true => have := noK_leaf k4 (by omega) hb; omega
    rw [setRootF_f hn2 (i6.trans hnaG)] at h2
    obtain ⟨⟨m2, G2⟩, h3, h4⟩ := Option.map_eq_some_iff.1 h2
    cases h4
    obtain ⟨hs2, hme2, hm2⟩ := freshF_some h3
    have lG2 : Lives (putF1 G1 false (withK (kidsF G1 root) (p / 4) (m : Int))) G2 := moreAll_lives _ _ _ hm2
    obtain ⟨r2, hroot2, hr2⟩ := lG2.n m2 ⟨1, false, withK (kidsF G1 root) (p / 4) (m : Int)⟩ (by rw [hme2]; exact putN_at _ _) (by simp)
    have l12 : Lives G1 G2 := (put_lives false _).trans lG2
    have hko := kidsOK i1 i2 i3 (p := p / 4)
    obtain ⟨_, kp⟩ := freshR_inv i1 (withK_len k4) (noK_has hn2 (fun k hk => (hko k hk).ge)) hko (fun i => withK_count (m : Int) k4 (by omega) i) h3
    have l2F : Lives G2 (if root = -1 then G2 else lessR G2 root.toNat) := by
      rcases i2 with rfl | ⟨j, hj, rfl, hf, hrr⟩
      · rw [if_pos rfl]; exact Lives.refl _
      · rw [if_neg (by omega), Int.toNat_natCast]
        have hnr := i1.nr _ (List.getElem_mem hj)
        have hna1 := i6.trans hnaG
        rw [aloneF_n hj, beq_eq_false_iff_ne] at hna1
        obtain ⟨r3, h5, h6⟩ := kp.2 j _ (getE hj) hrr
        rw [lessR_dec h5 (by simp only; omega)]
        exact dec_lives h5 (by simp only; omega)
    have hne : (m2 : Int) ≠ root := by
      rcases i2 with rfl | ⟨j, hj, rfl, hf, hrr⟩
      · omega
      · intro e
        obtain rfl : m2 = j := by omega
        subst hme2
        exact hrr (slot_dead hj)
    generalize (if root = -1 then G2 else lessR G2 root.toNat) = F2 at *
    have lAll : Lives F F2 := l0.trans (lG1.trans (l12.trans l2F))
    obtain ⟨r5, hroot5, hr5⟩ := l2F.n m2 _ hroot2 hr2
    obtain ⟨r6, hleaf6, hr6⟩ := (l12.trans l2F).n m _ hleaf (by simp)
    obtain ⟨hm2l, em2⟩ := List.getElem?_eq_some_iff.1 hroot5
    refine ⟨m2, rfl, hF', Or.inr ⟨m2, hm2l, rfl, by rw [em2], by rw [em2]; simp only; omega⟩, hne, lAll, fun q hq => ?_, ?_⟩
    · have e1 : kidOf F2 (m2 : Int) (q / 4) = if q / 4 = p / 4 then (m : Int) else kidOf F root (q / 4) := by
        rw [kid_at hroot5, withK_get (m : Int) k4 (by omega) (by omega), ← kidOf_kids, lG1.kidR hiG hrG, kF]
      unfold blkOf
      rw [e1]
      by_cases hq4 : q / 4 = p / 4
      · rw [if_pos hq4, kid_at hleaf6]
        unfold leafF
        rw [withK_get _ (kids4L hiG (kidLeaf hiG hrG (by omega))) (by omega) (by omega), ← kidOf_kids, kF, kF, hq4]
        by_cases hqp : q % 4 = p % 4
        · rw [if_pos hqp, if_pos (by omega)]
        · rw [if_neg hqp, if_neg (by intro e; subst e; exact hqp rfl)]
      · rw [if_neg hq4, if_neg (by intro e; subst e; exact hq4 rfl), lAll.kidL hi (kidLeaf hi hr (by omega))]
    · obtain ⟨r7, h7, _⟩ := (lG1.trans (l12.trans l2F)).b _ _ hbs (by simp)
      unfold datF
      rw [Int.toNat_natCast, h7]; rfl
/-! ### The new tree is dropped -/
theorem dropB_back {B : List Bk} {k : Int} (i : Nat) (x : Bk) (h : (dropB B k)[i]? = some x) (hr : 0 < x.r) : ∃ r, B[i]? = some ⟨r, x.d⟩ ∧ 0 < r := by
  unfold dropB at h
  by_cases h0 : k < 0
  · rw [if_pos h0] at h; exact ⟨x.r, h, hr⟩
  · rw [if_neg h0] at h
    split at h
    · rename_i b hb
      rw [List.getElem?_set] at h
      by_cases hki : k.toNat = i
      · subst hki
        rw [if_pos rfl] at h
        split at h
        · cases h
          unfold decB at hr ⊢
          simp only at hr ⊢
          refine ⟨b.r, ?_, by omega⟩
          rw [hb, if_neg (by omega)]
        · cases h
      · rw [if_neg hki] at h; exact ⟨x.r, h, hr⟩
    · exact ⟨x.r, h, hr⟩
theorem dropBs_back : ∀ (ks : List Int) (B : List Bk) (i : Nat) (x : Bk), (ks.foldl dropB B)[i]? = some x → 0 < x.r → ∃ r, B[i]? = some ⟨r, x.d⟩ ∧ 0 < r
  | [], B, i, x, h, hr => ⟨x.r, h, hr⟩
  | k :: ks, B, i, x, h, hr => by
    rw [List.foldl_cons] at h
    obtain ⟨r, h1, h2⟩ := dropBs_back ks (dropB B k) i x h hr
    exact dropB_back i ⟨r, x.d⟩ h1 h2
theorem set_back {l : List Nd} {j : Nat} {y : Nd} (hy : ∀ hj : j < l.length, 0 < y.r → ∃ r, l[j] = ⟨r, y.f, y.k⟩ ∧ 0 < r) (i : Nat) (x : Nd) (h : (l.set j y)[i]? = some x) (hr : 0 < x.r) : ∃ r, l[i]? = some ⟨r, x.f, x.k⟩ ∧ 0 < r := by
  rw [List.getElem?_set] at h
  by_cases hji : j = i
  · subst hji
    rw [if_pos rfl] at h
    split at h
    · rename_i hj
      cases h
      obtain ⟨r, h1, h2⟩ := hy hj hr
      exact ⟨r, by rw [getE hj, h1], h2⟩
    · cases h
  · rw [if_neg hji] at h; exact ⟨x.r, h, hr⟩
theorem lessL_back (F : Fo) (j : Nat) : Lives (lessL F j) F := by
  unfold lessL
  cases hx : F.n[j]? with
  | none => exact Lives.refl _
  | some x =>
    obtain ⟨hj, e⟩ := List.getElem?_eq_some_iff.1 hx
    simp only
    by_cases h1 : 1 < x.r
    · rw [if_pos h1]
      exact ⟨fun i z h hr => set_back (y := ⟨x.r - 1, x.f, x.k⟩) (fun hj' hr' => ⟨x.r, e, by simp only at hr'; omega⟩) i z h hr, fun i z h hr => ⟨z.r, h, hr⟩⟩
    · rw [if_neg h1]
      exact ⟨fun i z h hr => set_back (fun hj' hr' => by simp [dead] at hr') i z h hr, fun i z h hr => dropBs_back _ _ i z h hr⟩
theorem lessK_back (F : Fo) (k : Int) : Lives (lessK F k) F := by
  unfold lessK
  split
  · exact Lives.refl _
  · exact lessL_back F _
theorem lessKs_back : ∀ (ks : List Int) (F : Fo), Lives (ks.foldl lessK F) F
  | [], F => Lives.refl _
  | k :: ks, F => by rw [List.foldl_cons]; exact (lessKs_back ks _).trans (lessK_back F k)
theorem lessR_back (F : Fo) (j : Nat) : Lives (lessR F j) F := by
  unfold lessR
  cases hx : F.n[j]? with
  | none => exact Lives.refl _
  | some x =>
    obtain ⟨hj, e⟩ := List.getElem?_eq_some_iff.1 hx
    simp only
    by_cases h1 : 1 < x.r
    · rw [if_pos h1]
      exact ⟨fun i z h hr => set_back (y := ⟨x.r - 1, x.f, x.k⟩) (fun hj' hr' => ⟨x.r, e, by simp only at hr'; omega⟩) i z h hr, fun i z h hr => ⟨z.r, h, hr⟩⟩
    · rw [if_neg h1]
      exact (lessKs_back x.k _).trans ⟨fun i z h hr => set_back (fun hj' hr' => by simp [dead] at hr') i z h hr, fun i z h hr => ⟨z.r, h, hr⟩⟩
theorem lessK_oth (F : Fo) (k : Int) (i : Nat) (h : k ≠ (i : Int)) : (lessK F k).n[i]? = F.n[i]? := by
  unfold lessK
  split
  · rfl
  · unfold lessL
    split
    · split <;> (simp only; rw [List.getElem?_set, if_neg (by omega)])
    · rfl
theorem lessKs_oth : ∀ (ks : List Int) (F : Fo) (i : Nat), (i : Int) ∉ ks → (ks.foldl lessK F).n[i]? = F.n[i]?
  | [], F, i, _ => rfl
  | k :: ks, F, i, h => by
    rw [List.foldl_cons, lessKs_oth ks _ i (fun e => h (List.mem_cons_of_mem _ e)), lessK_oth F k i (fun e => h (by rw [e]; exact List.mem_cons_self))]
theorem lessR_oth {F : Fo} {j i : Nat} (hji : j ≠ i) (hk : ∀ x, F.n[j]? = some x → (i : Int) ∉ x.k) : (lessR F j).n[i]? = F.n[i]? := by
  unfold lessR
  cases hx : F.n[j]? with
  | none => rfl
  | some x =>
    simp only
    split
    · simp only; rw [List.getElem?_set, if_neg hji]
    · rw [lessKs_oth _ _ _ (hk x hx)]; simp only; rw [List.getElem?_set, if_neg hji]
/-- Another root stays one when a root is dropped. -/
theorem drop_root {F : Fo} (hi : Inv F z0 z0) {m : Nat} {root : Int} (hr : RootOK F root) (hm : RootOK F (m : Int)) (hne : (m : Int) ≠ root) : RootOK (lessR F m) root := by
  rcases hr with rfl | ⟨j, hj, rfl, hf, hr⟩
  · exact Or.inl rfl
  · have he : (lessR F m).n[j]? = F.n[j]? := lessR_oth (by omega) (fun x hx hk => by
      have hxm := List.mem_of_getElem? hx
      rcases hm with e | ⟨m', hm', e, hmf, _⟩
      · omega
      · obtain rfl : m = m' := by omega
        rw [getE hm'] at hx; cases hx
        rcases hi.kr _ hxm hmf _ hk with e2 | ⟨i, hi', e2, hf2⟩
        · omega
        · obtain rfl : j = i := by omega
          rw [hf] at hf2; cases hf2)
    rw [getE hj] at he
    obtain ⟨hj', e⟩ := List.getElem?_eq_some_iff.1 he
    exact Or.inr ⟨j, hj', rfl, by rw [e]; exact hf, by rw [e]; exact hr⟩
theorem drop_walk {F : Fo} (hi : Inv F z0 z0) {m : Nat} {root : Int} (hr : RootOK F root) (hm : RootOK F (m : Int)) (hne : (m : Int) ≠ root) : Inv (lessR F m) z0 z0 ∧ RootOK (lessR F m) root ∧ walkL (lessR F m) root 16 = walkL F root 16 := by
  have h1 : Inv (lessR F m) z0 z0 := by
    have := hi.lessRoot hm
    rw [if_neg (by omega), Int.toNat_natCast] at this; exact this
  have h2 := drop_root hi hr hm hne
  exact ⟨h1, h2, ((lessR_back F m).walk h1 h2).symm⟩
end Go.Proofs.Ytmcljallamhccaa.V
/-! Forests that the bytes draw: what holds while they are made. -/
namespace Go.Proofs.Ytmcljallamhccaa.V
open Go
set_option linter.unusedVariables false
set_option linter.unusedSimpArgs false
set_option maxRecDepth 100000
theorem Hd.wI {lo L : Nat} {H : Hp} {a : Option Addr} {l : List Int} (h : Hd L H a l.length 1 (vI l)) (hL : lo ≤ L) {j : Nat} (hj : j < l.length) (v : Int) :
    ∃ t H', a = some ⟨t, 0, none⟩ ∧ wrN lo H ⟨t, j, none⟩ [.int .i64 v] = some H' ∧ Hd L H' a (l.set j v).length 1 (vI (l.set j v)) ∧ Fr (· = t) H H' ∧ H'.length = H.length := by
  rcases h with ⟨_, e, _⟩ | ⟨t, k0, rfl, hb, hl, h0, hlo⟩
  · omega
  obtain ⟨H', hH'⟩ : ∃ H' : Hp, H' = H.set t (some ⟨vI (l.set j v), true, k0⟩) := ⟨_, rfl⟩
  refine ⟨t, H', rfl, ?_, Or.inr ⟨t, k0, rfl, by rw [hH', blk_set (blk_lt hb), if_pos rfl], by rw [vI_len, Nat.mul_one], by rw [List.length_set]; exact h0, hlo⟩, hH' ▸ Fr.setC hb, by rw [hH']; simp⟩
  simp only [wrN, hb, Option.bind_some, List.length_cons, List.length_nil]
  rw [if_pos ⟨by omega, trivial, by rw [vI_len]; omega⟩, hH', ← vI_set]
  rfl
theorem Hd.repI {L : Nat} {H : Hp} {a : Option Addr} {l : List Int} (h : Hd L H a l.length 1 (vI l)) : Rep EI 1 H a l.length l := by
  rcases h with ⟨_, e, _⟩ | ⟨t, k0, rfl, hb, hl, h0, hlo⟩
  · have : l = [] := List.length_eq_zero_iff.1 e
    subst this; exact Rep.nil
  · exact V.repI hb
/-- A forest in the making: where it is, its roots, and what the bytes are read from. -/
structure RS (H0 H : Hp) (q : Nat) (ac : Option Addr) (code : List Int) (k RB FB X : Nat) (an : Option Addr) (nn : Nat) (ab : Option Addr) (nb : Nat) (F : Fo) (ra : Option Addr) (R : List Int) : Prop where
  w : Fw (· = q) H0 H
  s : Src H q ac code k
  q0 : q < H0.length
  c0 : ∀ i, Ad ac i → code ≠ [] → i < H0.length
  rb : H.blk RB = some ⟨[.slice none 0 0, .slice none 0 0], true, false⟩
  fb : H.blk FB = some ⟨[.slice an nn (sg an 3), .slice ab nb (sg ab 2)], true, false⟩
  lr : H0.length ≤ RB
  lf : H0.length ≤ FB
  nrf : RB ≠ FB
  fo : ∃ S T, FO H0.length H S T an nn ab nb F ∧ ∀ i, S i ∨ T i → H0.length ≤ i ∧ i ≠ RB ∧ i ≠ FB ∧ i ≠ X ∧ ¬ Ad ra i
  ro : Hd H0.length H ra R.length 1 (vI R)
  nr : ∀ i, Ad ra i → i ≠ RB ∧ i ≠ FB ∧ i ≠ X
  r0 : 0 < R.length
  r4 : R.length ≤ 4
  inv : Inv F z0 z0
theorem RS.fn {H0 H H' : Hp} {q ac code k RB FB X an nn ab nb F ra R} (h : RS H0 H q ac code k RB FB X an nn ab nb F ra R) (hf : Fn H H') : RS H0 H' q ac code k RB FB X an nn ab nb F ra R :=
  { h with
    w := h.w.trans (Fw.q hf)
    s := h.s.fn hf
    rb := (hf.blk _ (blk_lt h.rb) id).trans h.rb
    fb := (hf.blk _ (blk_lt h.fb) id).trans h.fb
    fo := let ⟨S, T, h1, h2⟩ := h.fo; ⟨S, T, h1.fr (U := fun _ => False) (fun _ _ => id) hf, h2⟩
    ro := h.ro.fw hf.w (fun _ _ => id) }
theorem RS.next {H0 H : Hp} {q ac code k RB FB X an nn ab nb F ra R} (h : RS H0 H q ac code k RB FB X an nn ab nb F ra R) (k' : Nat) : RS H0 (srcB H q ac code k') q ac code k' RB FB X an nn ab nb F ra R := by
  obtain ⟨s1, f1, l1⟩ := h.s.next k'
  have q0 := h.q0
  have lr := h.lr
  have lf := h.lf
  exact { h with
    w := h.w.trans f1.w
    s := s1
    rb := (f1.blk _ (blk_lt h.rb) (by omega)).trans h.rb
    fb := (f1.blk _ (blk_lt h.fb) (by omega)).trans h.fb
    fo := let ⟨S, T, h1, h2⟩ := h.fo; ⟨S, T, h1.fr (U := (· = q)) (fun i hi e => by have := (h2 i hi).1; omega) f1, h2⟩
    ro := h.ro.fw f1.w (fun i hi e => by have := (h.ro.lt hi).1; omega) }
/-- Another cell of own memory is written. -/
theorem RS.oth {H0 H H' : Hp} {q ac code k RB FB X an nn ab nb F ra R} (h : RS H0 H q ac code k RB FB X an nn ab nb F ra R) (hf : Fr (· = X) H H') (hC : H0.length ≤ X) (hR : X ≠ RB) (hF : X ≠ FB) : RS H0 H' q ac code k RB FB X an nn ab nb F ra R := by
  have q0 := h.q0
  exact { h with
    w := h.w.then hf.w (fun i e hi => by omega)
    s := h.s.fw hf.w (by omega) (fun i hi hc e => by have := h.c0 i hi hc; omega)
    rb := (hf.blk _ (blk_lt h.rb) (fun e => hR e.symm)).trans h.rb
    fb := (hf.blk _ (blk_lt h.fb) (fun e => hF e.symm)).trans h.fb
    fo := let ⟨S, T, h1, h2⟩ := h.fo; ⟨S, T, h1.fr (U := (· = X)) (fun i hi e => (h2 i hi).2.2.2.1 e) hf, h2⟩
    ro := h.ro.fw hf.w (fun i hi e => (h.nr i hi).2.2 e) }
/-- A new cell. -/
theorem RS.top {H0 H : Hp} {q ac code k RB FB X an nn ab nb F ra R} (h : RS H0 H q ac code k RB FB X an nn ab nb F ra R) (c : Option Blk) : RS H0 (H ++ [c]) q ac code k RB FB H.length an nn ab nb F ra R := by
  have h1 := h.fn (Fr.app (l := [c]))
  exact { h1 with
    fo := let ⟨S, T, g1, g2⟩ := h.fo; ⟨S, T, g1.fr (U := fun _ => False) (fun _ _ => id) Fr.app, fun i hi => ⟨(g2 i hi).1, (g2 i hi).2.1, (g2 i hi).2.2.1, by have := g1.lt i hi; omega, (g2 i hi).2.2.2.2⟩⟩
    nr := fun i hi => ⟨(h.nr i hi).1, (h.nr i hi).2.1, by have := (h.ro.lt hi).2; omega⟩ }
/-- The forest is another one, in new memory. -/
theorem RS.put {H0 H H' : Hp} {q ac code k RB FB X an nn ab nb F ra R} (h : RS H0 H q ac code k RB FB X an nn ab nb F ra R) {L : Nat} {S T : Nat → Prop} {an' nn' ab' nb' F'} (hL : H0.length ≤ L) (ho : FO L H S T an' nn' ab' nb' F') (hS : ∀ i, S i ∨ T i → L ≤ i ∧ i ≠ RB ∧ i ≠ FB ∧ i ≠ X ∧ ¬ Ad ra i) (hi : Inv F' z0 z0)
    (hw : setB H FB [.slice an' nn' (sg an' 3), .slice ab' nb' (sg ab' 2)] = H') : RS H0 H' q ac code k RB FB X an' nn' ab' nb' F' ra R := by
  have hf : Fr (· = FB) H H' := hw ▸ Fr.setB h.fb _
  have q0 := h.q0
  have lf := h.lf
  have nrf := h.nrf
  exact { h with
    w := h.w.then hf.w (fun i e hi => by omega)
    s := h.s.fw hf.w (by omega) (fun i hi hc e => by have := h.c0 i hi hc; omega)
    rb := (hf.blk _ (blk_lt h.rb) nrf).trans h.rb
    fb := by rw [← hw, blk_setB h.fb, if_pos rfl]
    fo := ⟨S, T, (ho.fr (U := (· = FB)) (fun i hi e => (hS i hi).2.2.1 e) hf).lo hL, fun i hi => ⟨by have := (hS i hi).1; omega, (hS i hi).2⟩⟩
    ro := h.ro.fw hf.w (fun i hi e => (h.nr i hi).2.1 e)
    inv := hi }
/-- One of the roots is another one. -/
theorem RS.root {H0 H : Hp} {q ac code k RB FB X an nn ab nb F ra R} (h : RS H0 H q ac code k RB FB X an nn ab nb F ra R) {lo : Nat} (hlo : lo ≤ H0.length) {j : Nat} (hj : j < R.length) (v : Int) : ∃ t H', ra = some ⟨t, 0, none⟩ ∧ wrN lo H ⟨t, j, none⟩ [.int .i64 v] = some H' ∧ RS H0 H' q ac code k RB FB X an nn ab nb F ra (R.set j v) := by
  obtain ⟨t, H', rfl, hw, hd, hf, hl⟩ := h.ro.wI hlo hj v
  have q0 := h.q0
  have ht := (h.ro.lt ⟨0, rfl⟩).1
  have nt := h.nr t ⟨0, rfl⟩
  refine ⟨t, H', rfl, hw, { h with
    w := h.w.then hf.w (fun i e hi => by omega)
    s := h.s.fw hf.w (by omega) (fun i hi hc e => by have := h.c0 i hi hc; omega)
    rb := (hf.blk _ (blk_lt h.rb) (fun e => nt.1 e.symm)).trans h.rb
    fb := (hf.blk _ (blk_lt h.fb) (fun e => nt.2.1 e.symm)).trans h.fb
    fo := let ⟨S, T, h1, h2⟩ := h.fo; ⟨S, T, h1.fr (U := (· = t)) (fun i hi e => (h2 i hi).2.2.2.2 ⟨0, by rw [e]⟩) hf, h2⟩
    ro := hd
    r0 := by rw [List.length_set]; exact h.r0
    r4 := by rw [List.length_set]; exact h.r4 }⟩
/-- One more root. -/
theorem RS.push {H0 H : Hp} {q ac code k RB FB X an nn ab nb F ra R} (h : RS H0 H q ac code k RB FB X an nn ab nb F ra R) {lo : Nat} (hlo : lo ≤ H0.length) (v : Int) (h3 : R.length < 4) (hX : X < H.length) : ∃ H', vappend 1 8 lo (H ++ [some ⟨[.int .i64 v], true, false⟩]) (.slice ra R.length (sg ra 1)) (.slice (some ⟨H.length, 0, none⟩) 1 1) = some (.slice (some ⟨H.length + 1, 0, none⟩) (R.length + 1) 1, H') ∧ RS H0 H' q ac code k RB FB X an nn ab nb F (some ⟨H.length + 1, 0, none⟩) (R ++ [v]) := by
  have h1 := h.fn (Fr.app (l := [some ⟨[.int .i64 v], true, false⟩]))
  have hl0 := h.w.len
  obtain ⟨H', ha, hl, hd, hf, hb⟩ := app_hd (st := 1) (by_ := 8) (lo := H0.length) (m := 1) (M := [.int .i64 v]) (y := .slice (some ⟨H.length, 0, none⟩) 1 1) h1.ro rfl (by simp [scells, rdN0]) (by omega) rfl (fits_small (by omega)) (by simp; omega)
  simp only [List.length_append, List.length_cons, List.length_nil, Nat.zero_add] at ha hl hd hb
  have q0 := h.q0
  have key : Fw (fun i => Ad ra i) (H ++ [some ⟨[.int .i64 v], true, false⟩]) H' := ⟨by simp; omega, fun i hi hs => hb i (fun o e => hs ⟨o, e⟩) (by simpa using hi)⟩
  have hg : ∀ i, Ad ra i → H0.length ≤ i := fun i hi => (h.ro.lt hi).1
  refine ⟨H', vappend_lo hlo ha, { h1 with
    w := h1.w.then key (fun i hi hl => by have := hg i hi; omega)
    s := h1.s.fw key (fun hh => by have := hg _ hh; omega) (fun i hi hc hh => by have := h.c0 i hi hc; have := hg _ hh; omega)
    rb := (key.blk _ (blk_lt h1.rb) (fun hh => (h.nr _ hh).1 rfl)).trans h1.rb
    fb := (key.blk _ (blk_lt h1.fb) (fun hh => (h.nr _ hh).2.1 rfl)).trans h1.fb
    fo := ?_
    ro := ?_
    nr := fun i ⟨o, e⟩ => ?_
    r0 := by simp
    r4 := by simp; omega }⟩
  · obtain ⟨S, T, h5, h6⟩ := h1.fo
    have hlt : ∀ i, S i ∨ T i → i < H.length + 1 := fun i hi => by have := h5.lt i hi; simpa using this
    refine ⟨S, T, ⟨?_, ?_, ?_, h5.d, fun i hi => by have := hlt i hi; omega, h5.x⟩, fun i hi => ⟨(h6 i hi).1, (h6 i hi).2.1, (h6 i hi).2.2.1, (h6 i hi).2.2.2.1, fun ⟨o, e⟩ => ?_⟩⟩
    · -- the nodes
      have hfr : ∀ i, S i ∨ T i → H'.blk i = Hp.blk (H ++ [some ⟨[.int .i64 v], true, false⟩]) i := fun i hi => key.blk i (by have := hlt i hi; simpa using this) (h6 i hi).2.2.2.2
      refine ⟨h5.n.1, fun hl => ?_⟩
      obtain ⟨p, o, K, ha', ok⟩ := h5.n.2 hl
      have wb : ∀ i, S i → WB H0.length (H ++ [some ⟨[.int .i64 v], true, false⟩]) i → WB H0.length H' i := fun i hs ⟨w1, b, w2, w3⟩ => ⟨w1, b, (hfr i (Or.inl hs)).trans w2, w3⟩
      have rdE : ∀ i o, S i → rd H' ⟨i, o, none⟩ = rd (H ++ [some ⟨[.int .i64 v], true, false⟩]) ⟨i, o, none⟩ := fun i o hs => by simp only [rd, hfr i (Or.inl hs)]
      refine ⟨p, o, K, ha', ⟨wb _ ok.w.2 ok.w.1, ok.w.2⟩, fun j x hx => ?_, fun j x hx i hi => ⟨wb _ (ok.own j x hx i hi).2.1 (ok.own j x hx i hi).1, (ok.own j x hx i hi).2⟩, ok.ne, ok.z⟩
      have e := ok.e j x hx
      exact ⟨(rdE _ _ ok.w.2).trans e.r, (rdE _ _ ok.w.2).trans e.f, (rdE _ _ ok.w.2).trans e.s, e.k.blkI fun i hi => hfr i (Or.inl (ok.own j x hx i hi).2.1)⟩
    · exact ⟨h5.b.1, fun hl => let ⟨i, o, ha', h2⟩ := h5.b.2 hl; ⟨i, o, ha', fun j x hx => by
        have ht := (h5.o i ⟨o, ha'⟩).2
        have hfr := key.blk i (by have := hlt i (Or.inr ht); simpa using this) (h6 i (Or.inr ht)).2.2.2.2
        have := h2 j x hx
        simp only [EB, rd] at this ⊢
        rw [hfr]; exact this⟩⟩
    · intro i hi
      obtain ⟨⟨w1, b, w2, w3⟩, ht⟩ := h5.o i hi
      have hfr := key.blk i (by have := hlt i (Or.inr ht); simpa using this) (h6 i (Or.inr ht)).2.2.2.2
      exact ⟨⟨w1, b, hfr.trans w2, w3⟩, ht⟩
    · cases e
      have := hlt _ hi
      omega
  · rw [List.length_append, ← vI_app]
    exact hd
  · cases e
    have a1 := blk_lt h.rb
    have a2 := blk_lt h.fb
    omega
theorem RS.rx {H0 H : Hp} {q ac code k RB FB X an nn ab nb F ra R} (h : RS H0 H q ac code k RB FB X an nn ab nb F ra R) : RX H an nn ab nb F := let ⟨S, T, h1, _⟩ := h.fo; h1.rx
theorem RS.cells {H0 H : Hp} {q ac code k RB FB X an nn ab nb F ra R} (h : RS H0 H q ac code k RB FB X an nn ab nb F ra R) : rdN H ⟨FB, 0, none⟩ 2 = some [.slice an nn (sg an 3), .slice ab nb (sg ab 2)] := by
  simp [rdN, h.fb]
/-- A new forest: blocks alone, all free. -/
theorem inv_new (n : Nat) (hn : n ≤ 24) : Inv ⟨[], List.replicate n ⟨0, 0⟩⟩ z0 z0 :=
  ⟨by simp, by simpa using hn, fun b hb => by rw [List.eq_of_mem_replicate hb]; simp, fun x hx => by simp at hx, fun x hx => by simp at hx, fun x hx => by simp at hx, fun x hx => by simp at hx, fun x hx => by simp at hx, fun i hi => by simp [nmS, z0], fun j hj => by simp at hj⟩
end Go.Proofs.Ytmcljallamhccaa.V
/-! Some trees, as the bytes draw them. -/
namespace Go.Proofs.Ytmcljallamhccaa.V
open Go
set_option linter.unusedVariables false
set_option linter.unusedSimpArgs false
set_option maxRecDepth 100000
/-- What comes of an operation on the forest is put into its cell; if it went well, into the forest's. -/
theorem RS.op {H0 H H' : Hp} {q ac code k RB FB X an nn ab nb F ra R lo cs v c r G} (h : RS H0 H q ac code k RB FB X an nn ab nb F ra R) (hX : H.blk X = some ⟨cs, true, false⟩) (hcs : cs.length = 4) (hL : H0.length ≤ X) (hR : X ≠ RB) (hF : X ≠ FB) (hlo : lo ≤ H0.length) (hN : NewR H H' v c r G) (hG : c = 0 → Inv G z0 z0) :
    ∃ an' nn' ab' nb' H5, v = .agg #[.int .i64 c, .int .i64 r, .slice an' nn' (sg an' 3), .slice ab' nb' (sg ab' 2)] ∧ wrN lo H' ⟨X, 0, none⟩ [.int .i64 c, .int .i64 r, .slice an' nn' (sg an' 3), .slice ab' nb' (sg ab' 2)] = some H5 ∧ rd H5 ⟨X, 0, none⟩ = some (.int .i64 c) ∧ rd H5 ⟨X, 1, none⟩ = some (.int .i64 r) ∧ rdN H5 ⟨X, 2, none⟩ 2 = some [.slice an' nn' (sg an' 3), .slice ab' nb' (sg ab' 2)] ∧
      RS H0 H5 q ac code k RB FB X an nn ab nb F ra R ∧ X < H5.length ∧
      (c = 0 → ∃ H6, wrN lo H5 ⟨FB, 0, none⟩ [.slice an' nn' (sg an' 3), .slice ab' nb' (sg ab' 2)] = some H6 ∧ rd H6 ⟨X, 1, none⟩ = some (.int .i64 r) ∧ RS H0 H6 q ac code k RB FB X an' nn' ab' nb' G ra R ∧ X < H6.length) := by
  obtain ⟨S, T, an', nn', ab', nb', rfl, f1, g1, o1⟩ := hN
  have h1 := h.fn f1
  have bX : H'.blk X = some ⟨cs, true, false⟩ := (f1.blk _ (blk_lt hX) id).trans hX
  have w1 := wr_setB (lo := lo) bX (by omega) [.int .i64 c, .int .i64 r, .slice an' nn' (sg an' 3), .slice ab' nb' (sg ab' 2)] (by rw [hcs]; rfl)
  obtain ⟨H5, hH5⟩ : ∃ H5 : Hp, H5 = setB H' X [.int .i64 c, .int .i64 r, .slice an' nn' (sg an' 3), .slice ab' nb' (sg ab' 2)] := ⟨_, rfl⟩
  have b5 : H5.blk X = some ⟨[.int .i64 c, .int .i64 r, .slice an' nn' (sg an' 3), .slice ab' nb' (sg ab' 2)], true, false⟩ := by rw [hH5, blk_setB bX, if_pos rfl]
  have f5 : Fr (· = X) H' H5 := hH5 ▸ Fr.setB bX _
  rw [← hH5] at w1
  have h5 := h1.oth f5 hL hR hF
  have hXl := blk_lt b5
  refine ⟨an', nn', ab', nb', H5, rfl, w1, by simp [rd, b5], by simp [rd, b5], by simp [rdN, b5], h5, hXl, fun hc => ?_⟩
  have w6 := wr_setB (lo := lo) h5.fb (by have := h.lf; omega) [.slice an' nn' (sg an' 3), .slice ab' nb' (sg ab' 2)] rfl
  obtain ⟨H6, hH6⟩ : ∃ H6 : Hp, H6 = setB H5 FB [.slice an' nn' (sg an' 3), .slice ab' nb' (sg ab' 2)] := ⟨_, rfl⟩
  rw [← hH6] at w6
  have b6 : H6.blk X = some ⟨[.int .i64 c, .int .i64 r, .slice an' nn' (sg an' 3), .slice ab' nb' (sg ab' 2)], true, false⟩ := by rw [hH6, blk_setB h5.fb, if_neg hF]; exact b5
  have hll := h.w.len
  have a1 := blk_lt h.rb
  have a2 := blk_lt h.fb
  have a3 := blk_lt hX
  refine ⟨H6, w6, by simp [rd, b6], ?_, blk_lt b6⟩
  have o5 : FO H.length H5 S T an' nn' ab' nb' G := o1.fr (U := (· = X)) (fun i hi e => by have := g1 i hi; omega) f5
  exact h5.put (by omega) o5 (fun i hi => by
    have h9 := g1 i hi
    exact ⟨h9, by omega, by omega, by omega, fun hh => by have := (h.ro.lt hh).2; omega⟩) (hG hc) hH6.symm
theorem ext24 (a b c e : Value) : (#[a, b, c, e] : Array Value).extract 2 4 = #[c, e] := rfl
theorem Same.src (H : Hp) (q : Nat) (ac : Option Addr) (code : List Int) (k : Nat) : Same [q] H (srcB H q ac code k) := by
  refine ⟨by unfold srcB; rw [setB_len]; exact Nat.le_refl _, fun i hi hn => ?_⟩
  unfold srcB setB
  rw [List.getElem?_set, if_neg (fun e => hn (by rw [e]; simp))]
theorem Same.trans {q : List Nat} {H0 H1 H2 : Hp} (h : Same q H0 H1) (h' : Same q H1 H2) : Same q H0 H2 := ⟨Nat.le_trans h.1 h'.1, fun i hi hn => (h'.2 i (Nat.lt_of_lt_of_le hi h.1) hn).trans (h.2 i hi hn)⟩
theorem Same.app {q : List Nat} {H : Hp} (l : List (Option Blk)) : Same q H (H ++ l) := ⟨by simp, fun i hi _ => List.getElem?_append_left hi⟩
theorem Same.more {q q' : List Nat} {H0 H1 : Hp} (h : Same q H0 H1) (hq : ∀ i, i ∈ q → i ∈ q') : Same q' H0 H1 := ⟨h.1, fun i hi hn => h.2 i hi fun hh => hn (hq i hh)⟩
theorem blk_kill : ∀ (q : List Nat) (H : Hp) (i : Nat), i ∉ q → Hp.blk (kill q H) i = Hp.blk H i
  | [], H, i, _ => rfl
  | x :: r, H, i, h => by
    simp only [List.mem_cons, not_or] at h
    have := blk_kill r (H.set x none) i h.2
    simp only [kill]
    rw [this]
    unfold Hp.blk
    rw [List.getElem?_set, if_neg (fun e => h.1 e.symm)]
theorem rd_kill {q : List Nat} {H : Hp} {i o : Nat} (h : i ∉ q) : rd (kill q H) ⟨i, o, none⟩ = rd H ⟨i, o, none⟩ := by simp only [rd, blk_kill q H i h]
theorem rdN_kill {q : List Nat} {H : Hp} {i o n : Nat} (h : i ∉ q) : rdN (kill q H) ⟨i, o, none⟩ n = rdN H ⟨i, o, none⟩ n := by simp only [rdN, blk_kill q H i h]
set_option maxHeartbeats 4000000 in
theorem l4Right_c (d lo : Nat) (H0 : Hp) {q : Nat} {ac : Option Addr} {code : List Int} {k : Nat} (h : Src H0 q ac code k) (hlo : lo ≤ q) (hk : k ≤ 800000000) :
    ∃ an nn ab nb F ra R H' k', vcall env (d + 7) 166 [.pointer (some ⟨q, 0, none⟩)] lo H0 = some (.tuple #[.agg #[.slice an nn (sg an 3), .slice ab nb (sg ab 2)], .slice ra R.length (sg ra 1)], H') ∧
      Fw (· = q) H0 H' ∧ k ≤ k' ∧ k' ≤ k + 500 ∧ Src H' q ac code k' ∧ (∃ S T, FO H0.length H' S T an nn ab nb F ∧ ∀ i, S i ∨ T i → H0.length ≤ i ∧ ¬ Ad ra i) ∧ Hd H0.length H' ra R.length 1 (vI R) ∧ 0 < R.length ∧ R.length ≤ 4 ∧ Inv F z0 z0 := by
  have hq0 := blk_lt h.b
  obtain ⟨H1, hH1⟩ : ∃ H1 : Hp, H1 = H0 ++ [some ⟨[.slice none 0 0, .slice none 0 0], true, false⟩] := ⟨_, rfl⟩
  have f1 : Fn H0 H1 := hH1 ▸ Fr.app
  have l1 : H1.length = H0.length + 1 := by rw [hH1]; simp
  have b1 : H1.blk H0.length = some ⟨[.slice none 0 0, .slice none 0 0], true, false⟩ := by rw [hH1]; exact blk0
  have c1 := l1Next_c (d + 5) lo H1 (h.fn f1) hlo (by omega) 17
  obtain ⟨s2, f2, l2⟩ := (h.fn f1).next (k + 1)
  obtain ⟨n1, n2⟩ := nextV_in h.y k (n := 17) (by omega)
  generalize srcB H1 q ac code (k + 1) = H2 at *
  obtain ⟨n, hn⟩ : ∃ n : Nat, nextV code k 17 = (n : Int) := ⟨_, (Int.toNat_of_nonneg n1).symm⟩
  rw [hn] at n2 c1
  have w8 : IntKind.i64.wrap (8 + (n : Int)) = ((8 + n : Nat) : Int) := by rw [wr (by omega) (by omega)]; rfl
  obtain ⟨v3, H3, c3, hN⟩ := specNewForest_c (d + 3) lo H2 ((8 + n : Nat) : Int)
  have hnew : newF ((8 + n : Nat) : Int) = (0, -1, ⟨[], List.replicate (8 + n) ⟨0, 0⟩⟩) := by
    unfold newF; rw [if_pos (by omega), Int.toNat_natCast]
  rw [hnew] at hN
  obtain ⟨S, T, an, nn, ab, nb, rfl, f3, g3, o3⟩ := hN
  have l3 := f3.len
  obtain ⟨H4, hH4⟩ : ∃ H4 : Hp, H4 = H3 ++ [some ⟨[.slice an nn (sg an 3), .slice ab nb (sg ab 2)], true, false⟩, some ⟨vI [-1], true, false⟩] := ⟨_, rfl⟩
  have f4 : Fn H3 H4 := hH4 ▸ Fr.app
  have l4 : H4.length = H3.length + 2 := by rw [hH4]; simp
  have w02 : Fw (· = q) H0 H2 := (Fw.q f1).trans f2.w
  have r4 : RS H0 H4 q ac code (k + 1) H0.length H3.length H4.length an nn ab nb ⟨[], List.replicate (8 + n) ⟨0, 0⟩⟩ (some ⟨H3.length + 1, 0, none⟩) [-1] :=
    { w := (w02.trans (Fw.q f3)).trans (Fw.q f4)
      s := (s2.fn f3).fn f4
      q0 := hq0
      c0 := h.lt
      rb := (f4.blk _ (by omega) id).trans ((f3.blk _ (by omega) id).trans ((f2.blk _ (by omega) (by omega)).trans b1))
      fb := by rw [hH4]; exact blk0
      lr := Nat.le_refl _
      lf := by omega
      nrf := by omega
      fo := ⟨S, T, (o3.fr (U := fun _ => False) (fun _ _ => id) f4).lo (by omega), fun i hi => by
        have h1 := g3 i hi
        have h2 := o3.lt i hi
        exact ⟨by omega, by omega, by omega, by omega, fun ⟨o, e⟩ => by cases e; omega⟩⟩
      ro := Or.inr ⟨_, false, rfl, by rw [hH4]; exact blkn 1, rfl, fun e => by simp at e, by omega⟩
      nr := fun i ⟨o, e⟩ => by cases e; omega
      r0 := by simp
      r4 := by simp
      inv := inv_new (8 + n) (by omega) }
  have c5 := l1Next_c (d + 5) lo H4 r4.s hlo (by omega) 24
  obtain ⟨m1, m2⟩ := nextV_in h.y (k + 1) (n := 24) (by omega)
  have r5 := r4.next (k + 1 + 1)
  generalize srcB H4 q ac code (k + 1 + 1) = H5 at *
  obtain ⟨m, hm⟩ : ∃ m : Nat, nextV code (k + 1) 24 = (m : Int) := ⟨_, (Int.toNat_of_nonneg m1).symm⟩
  rw [hm] at m2 c5
  have hloop : ∃ r, lim (rnd (vcall env (d + 6)) lo [0, 2, 4, 5, 6] [2, 3, 4, 5] l166_0) [(0, .pointer (some ⟨q, 0, none⟩)), (2, .pointer (some ⟨H0.length, 0, none⟩)), (4, .pointer (some ⟨H3.length, 0, none⟩)), (5, .slice (some ⟨H3.length + 1, 0, none⟩) 1 1), (6, .int .i64 (m : Nat))] H5 = some r ∧
      ∃ H' an nn ab nb F ra R k' X, r = (.exit 0, [(2, .pointer (some ⟨H0.length, 0, none⟩)), (4, .pointer (some ⟨H3.length, 0, none⟩)), (5, .slice ra R.length (sg ra 1))], H') ∧ k ≤ k' ∧ k' ≤ k + 400 ∧ RS H0 H' q ac code k' H0.length H3.length X an nn ab nb F ra R := by
    refine lim_inv (fun j ts H6 => ∃ an nn ab nb F ra R k' X, ts = [(0, .pointer (some ⟨q, 0, none⟩)), (2, .pointer (some ⟨H0.length, 0, none⟩)), (4, .pointer (some ⟨H3.length, 0, none⟩)), (5, .slice ra R.length (sg ra 1)), (6, .int .i64 ((m - j : Nat) : Int))] ∧ k ≤ k' ∧ k' ≤ k + 2 + 4 * j ∧ RS H0 H6 q ac code k' H0.length H3.length X an nn ab nb F ra R) m ?_ ?_ ?_
    · rintro j ts H6 hj ⟨an, nn, ab, nb, F, ra, R, k', X, rfl, ka, kb, rs⟩
      have hpos : decide (((m - j : Nat) : Int) > 0) = true := decide_eq_true (by omega)
      have hwm : IntKind.i64.wrap (((m - j : Nat) : Int) - 1) = ((m - (j + 1) : Nat) : Int) := by rw [wr (by omega) (by omega)]; omega
      have rr0 := rs.r0
      have rr4 := rs.r4
      have ci := l1Next_c (d + 5) lo H6 rs.s hlo (by omega) (R.length : Int)
      obtain ⟨i1, i2⟩ := nextV_in h.y k' (n := (R.length : Int)) (by omega)
      have ra1 := rs.next (k' + 1)
      generalize srcB H6 q ac code (k' + 1) = Ha at *
      obtain ⟨i, hi⟩ : ∃ i : Nat, nextV code k' (R.length : Int) = (i : Int) := ⟨_, (Int.toNat_of_nonneg i1).symm⟩
      rw [hi] at i2 ci
      have hiR : i < R.length := by omega
      obtain ⟨Hb, hHb⟩ : ∃ Hb : Hp, Hb = Ha ++ [some ⟨[.int .i64 0, .int .i64 0, .slice none 0 0, .slice none 0 0], true, false⟩] := ⟨_, rfl⟩
      have rb := ra1.top (some ⟨[.int .i64 0, .int .i64 0, .slice none 0 0, .slice none 0 0], true, false⟩)
      rw [← hHb] at rb
      have bX : Hb.blk Ha.length = some ⟨[.int .i64 0, .int .i64 0, .slice none 0 0, .slice none 0 0], true, false⟩ := by rw [hHb]; exact blk0
      have a0 := ra1.w.len
      have a1 := blk_lt ra1.rb
      have a2 := blk_lt ra1.fb
      have haL : H0.length ≤ Ha.length := a0
      have hloX : (lo ≤ Ha.length) = True := eq_true (by omega)
      have cv := l1Next_c (d + 5) lo Hb rb.s hlo (by omega) 7
      have rc := rb.next (k' + 1 + 1)
      obtain ⟨s9, f9, l9⟩ := rb.s.next (k' + 1 + 1)
      have bXc : (srcB Hb q ac code (k' + 1 + 1)).blk Ha.length = some ⟨[.int .i64 0, .int .i64 0, .slice none 0 0, .slice none 0 0], true, false⟩ := (f9.blk _ (blk_lt bX) (by omega)).trans bX
      generalize srcB Hb q ac code (k' + 1 + 1) = Hc at *
      generalize nextV code (k' + 1) 7 = v at *
      have hlo0 : lo ≤ H0.length := by omega
      -- the way on, wherever it stops
      have go : ∀ (Hz : Hp) (kz : Nat) {X an nn ab nb F ra R}, RS H0 Hz q ac code kz H0.length H3.length X an nn ab nb F ra R → k ≤ kz → kz ≤ k' + 4 →
          ∃ an' nn' ab' nb' F' ra' R' k'' X', ([(0, .pointer (some ⟨q, 0, none⟩)), (2, .pointer (some ⟨H0.length, 0, none⟩)), (4, .pointer (some ⟨H3.length, 0, none⟩)), (5, .slice ra R.length (sg ra 1)), (6, .int .i64 ((m - (j + 1) : Nat) : Int))] : Ts) = [(0, .pointer (some ⟨q, 0, none⟩)), (2, .pointer (some ⟨H0.length, 0, none⟩)), (4, .pointer (some ⟨H3.length, 0, none⟩)), (5, .slice ra' R'.length (sg ra' 1)), (6, .int .i64 ((m - (j + 1) : Nat) : Int))] ∧ k ≤ k'' ∧ k'' ≤ k + 2 + 4 * (j + 1) ∧ RS H0 Hz q ac code k'' H0.length H3.length X' an' nn' ab' nb' F' ra' R' := by
        intro Hz kz X an nn ab nb F ra R hz k1 k2
        exact ⟨an, nn, ab, nb, F, ra, R, kz, X, rfl, k1, by omega, hz⟩
      have rootAt : ∀ {Hz : Hp} {kz X an nn ab nb F}, RS H0 Hz q ac code kz H0.length H3.length X an nn ab nb F ra R → ∃ t, ra = some ⟨t, 0, none⟩ ∧ rd Hz ⟨t, i, none⟩ = some (.int .i64 R[i]) := by
        intro Hz kz X an nn ab nb F hz
        obtain ⟨p, o, e, ex⟩ := hz.ro.repI.at hiR
        rcases hz.ro with ⟨e2, _⟩ | ⟨t, k0, e2, _⟩
        · rw [e2] at e; cases e
        · rw [e2] at e; cases e
          simp only [EI, Nat.mul_one, Nat.zero_add] at ex
          exact ⟨_, e2, ex⟩
      by_cases v0 : v = 0
      · have hv0 : (v == 0) = true := beq_iff_eq.2 v0
        by_cases h4 : R.length < 4
        · have hd4 : decide ((R.length : Int) < 4) = true := decide_eq_true (by omega)
          obtain ⟨t, ht, eR⟩ := rootAt rc
          have hcl := rc.cells
          obtain ⟨vv, Hd', cop, hN⟩ := specShareTree_c d lo Hc rc.rx (rc.inv.sml).sf R[i]
          obtain ⟨an', nn', ab', nb', He, rfl, ws, e0, e1, e2, re, hXe, hgo⟩ := rc.op bXc rfl (by omega) (by omega) (by omega) hlo0 hN (fun e => resShareTree_inv e)
          generalize hres : resShareTree F R[i] = RR at *
          by_cases c0 : RR.1 = 0
          · have hc0 : (RR.1 == 0) = true := beq_iff_eq.2 c0
            obtain ⟨Hf, wf, ef, rf, hXf⟩ := hgo c0
            obtain ⟨Hg, wg, rg⟩ := rf.push hlo0 RR.2.1 h4 hXf
            refine ⟨_, Hg, ?_, go Hg _ rg (by omega) (by omega)⟩
            subst ht hHb
            try simp only [List.length_append, List.length_cons, List.length_nil, Nat.zero_add, sgs] at cv cop ws wf wg eR e0 e1 e2 ef
            simp -implicitDefEqProofs only [rnd, l166_0, VMs, noRef, noRef1, isRef, List.all_cons, List.all_nil, vop, VOp.still, VOp.app, VOp.plain, allP, lof, evs, start, asI, vbin, vcells, ntup, setAll, vfill, vress, vres, tup, Nat.reduceEqDiff, ↓reduceIte, Nat.reduceAdd, Nat.reduceMul, Nat.reduceLeDiff, reduceCtorEq, vdr, hpos, slen, ci, hloX, cv, hv0, hd4, hcl, ltc hiR, ge0, decide_true, Int.toNat_natCast, Nat.mul_one, Nat.zero_add, eR, cop, ws, e0, hc0, e2, wf, ef, h10, wg, hwm, sgs]
          · have hc0 : (RR.1 == 0) = false := beq_eq_false_iff_ne.2 c0
            refine ⟨_, He, ?_, go He _ re (by omega) (by omega)⟩
            subst ht hHb
            try simp only [List.length_append, List.length_cons, List.length_nil, Nat.zero_add, sgs] at cv cop ws eR e0 e1 e2
            simp -implicitDefEqProofs only [rnd, l166_0, VMs, noRef, noRef1, isRef, List.all_cons, List.all_nil, vop, VOp.still, VOp.app, VOp.plain, allP, lof, evs, start, asI, vbin, vcells, ntup, setAll, vfill, vress, vres, tup, Nat.reduceEqDiff, ↓reduceIte, Nat.reduceAdd, Nat.reduceMul, Nat.reduceLeDiff, reduceCtorEq, vdr, hpos, slen, ci, hloX, cv, hv0, hd4, hcl, ltc hiR, ge0, decide_true, Int.toNat_natCast, Nat.mul_one, Nat.zero_add, eR, cop, ws, e0, hc0, hwm, sgs]
        · have hd4 : decide ((R.length : Int) < 4) = false := decide_eq_false (by omega)
          refine ⟨_, Hc, ?_, go Hc _ rc (by omega) (by omega)⟩
          subst hHb
          simp -implicitDefEqProofs only [rnd, l166_0, VMs, noRef, noRef1, isRef, List.all_cons, List.all_nil, vop, VOp.still, VOp.app, VOp.plain, allP, lof, evs, start, asI, vbin, vcells, ntup, setAll, vfill, vress, vres, tup, Nat.reduceEqDiff, ↓reduceIte, Nat.reduceAdd, Nat.reduceMul, Nat.reduceLeDiff, reduceCtorEq, vdr, hpos, slen, ci, hloX, cv, hv0, hd4, hwm]
      have hv0 : (v == 0) = false := beq_eq_false_iff_ne.2 v0
      by_cases v1 : v = 1
      · have hv1 : (v == 1) = true := beq_iff_eq.2 v1
        obtain ⟨t, ht, eR⟩ := rootAt rc
        have hcl : rdN (kill [q] Hc) ⟨H3.length, 0, none⟩ 2 = some [.slice an nn (sg an 3), .slice ab nb (sg ab 2)] := (rdN_kill (by simp; omega)).trans rc.cells
        have htl : H0.length ≤ t := (rc.ro.lt ⟨0, ht⟩).1
        have eR : rd (kill [q] Hc) ⟨t, i, none⟩ = some (.int .i64 R[i]) := (rd_kill (by simp; omega)).trans eR
        have sm1 := Same.src Hc q ac code (k' + 1 + 1 + 1)
        have cn := l1Next_c (d + 5) lo Hc rc.s hlo (by omega) 16
        obtain ⟨s10, f10, l10⟩ := rc.s.next (k' + 1 + 1 + 1)
        have rd' := rc.next (k' + 1 + 1 + 1)
        have bXd := (f10.blk _ (blk_lt bXc) (by omega)).trans bXc
        generalize srcB Hc q ac code (k' + 1 + 1 + 1) = Hd at *
        generalize nextV code (k' + 1 + 1) 16 = at_ at *
        obtain ⟨vv, Hd', cop, hN⟩ := specClearTree_c d lo Hd rd'.rx (rd'.inv.sml).sf R[i] at_
        obtain ⟨an', nn', ab', nb', He, rfl, ws, e0, e1, e2, re, hXe, hgo⟩ := rd'.op bXd rfl (by omega) (by omega) (by omega) hlo0 hN (fun e => resClearTree_inv e)
        generalize hres : resClearTree F R[i] at_ = RR at *
        by_cases c0 : RR.1 = 0
        · have hc0 : (RR.1 == 0) = true := beq_iff_eq.2 c0
          obtain ⟨Hf, wf, ef, rf, hXf⟩ := hgo c0
          obtain ⟨t', Hg, ht', wg, rg⟩ := rf.root hlo0 hiR RR.2.1
          rw [ht] at ht'
          cases ht'
          have go' := go Hg _ rg (by omega) (by omega)
          simp only [List.length_set] at go'
          refine ⟨_, Hg, ?_, go'⟩
          subst ht hHb
          try simp only [List.length_append, List.length_cons, List.length_nil, Nat.zero_add, sgs] at cv cop ws wf wg eR e0 e1 e2 ef
          simp -implicitDefEqProofs only [rnd, l166_0, VMs, noRef, noRef1, isRef, List.all_cons, List.all_nil, vop, VOp.still, VOp.app, VOp.plain, allP, lof, evs, start, asI, vbin, vcells, ntup, setAll, vfill, vress, vres, tup, Nat.reduceEqDiff, ↓reduceIte, Nat.reduceAdd, Nat.reduceMul, Nat.reduceLeDiff, reduceCtorEq, vdD, qats, qat, Option.map_some, zn, zx, gO_, gA_, gQ_, sm1, hpos, slen, ci, hloX, cv, hv0, hv1, hcl, ltc hiR, ge0, decide_true, Int.toNat_natCast, Nat.mul_one, Nat.zero_add, eR, cn, cop, ws, e0, hc0, e2, wf, ef, wg, hwm, sgs]
        · have hc0 : (RR.1 == 0) = false := beq_eq_false_iff_ne.2 c0
          refine ⟨_, He, ?_, go He _ re (by omega) (by omega)⟩
          subst ht hHb
          try simp only [List.length_append, List.length_cons, List.length_nil, Nat.zero_add, sgs] at cv cop ws eR e0 e1 e2
          simp -implicitDefEqProofs only [rnd, l166_0, VMs, noRef, noRef1, isRef, List.all_cons, List.all_nil, vop, VOp.still, VOp.app, VOp.plain, allP, lof, evs, start, asI, vbin, vcells, ntup, setAll, vfill, vress, vres, tup, Nat.reduceEqDiff, ↓reduceIte, Nat.reduceAdd, Nat.reduceMul, Nat.reduceLeDiff, reduceCtorEq, vdD, qats, qat, Option.map_some, zn, zx, gO_, gA_, gQ_, sm1, hpos, slen, ci, hloX, cv, hv0, hv1, hcl, ltc hiR, ge0, decide_true, Int.toNat_natCast, Nat.mul_one, Nat.zero_add, eR, cn, cop, ws, e0, hc0, hwm, sgs]
      have hv1 : (v == 1) = false := beq_eq_false_iff_ne.2 v1
      by_cases v2 : v = 2
      · have hv2 : (v == 2) = true := beq_iff_eq.2 v2
        have cn := l1Chance_c (d + 4) lo Hc rc.s hlo (by omega) 3
        obtain ⟨s10, f10, l10⟩ := rc.s.next (k' + 1 + 1 + 1)
        have rd' := rc.next (k' + 1 + 1 + 1)
        have bXd := (f10.blk _ (blk_lt bXc) (by omega)).trans bXc
        generalize srcB Hc q ac code (k' + 1 + 1 + 1) = Hd at *
        cases hch : (nextV code (k' + 1 + 1) 3 == 0) with
        | false =>
          rw [hch] at cn
          refine ⟨_, Hd, ?_, go Hd _ rd' (by omega) (by omega)⟩
          subst hHb
          simp -implicitDefEqProofs only [rnd, l166_0, VMs, noRef, noRef1, isRef, List.all_cons, List.all_nil, vop, VOp.still, VOp.app, VOp.plain, allP, lof, evs, start, asI, vbin, vcells, ntup, setAll, vfill, vress, vres, tup, Nat.reduceEqDiff, ↓reduceIte, Nat.reduceAdd, Nat.reduceMul, Nat.reduceLeDiff, reduceCtorEq, vdr, hpos, slen, ci, hloX, cv, hv0, hv1, hv2, cn, hwm]
        | true =>
          rw [hch] at cn
          obtain ⟨t, ht, eR⟩ := rootAt rd'
          have hcl := rd'.cells
          obtain ⟨vv, Hd', cop, hN⟩ := specDropTree_c d lo Hd rd'.rx (rd'.inv.sml).sf R[i]
          obtain ⟨an', nn', ab', nb', He, rfl, ws, e0, e1, e2, re, hXe, hgo⟩ := rd'.op bXd rfl (by omega) (by omega) (by omega) hlo0 hN (fun e => resDropTree_inv e)
          generalize hres : resDropTree F R[i] = RR at *
          by_cases c0 : RR.1 = 0
          · have hc0 : (RR.1 == 0) = true := beq_iff_eq.2 c0
            obtain ⟨Hf, wf, ef, rf, hXf⟩ := hgo c0
            obtain ⟨t', Hg, ht', wg, rg⟩ := rf.root hlo0 hiR RR.2.1
            rw [ht] at ht'
            cases ht'
            have go' := go Hg _ rg (by omega) (by omega)
            simp only [List.length_set] at go'
            refine ⟨_, Hg, ?_, go'⟩
            subst ht hHb
            try simp only [List.length_append, List.length_cons, List.length_nil, Nat.zero_add, sgs] at cv cop ws wf wg eR e0 e1 e2 ef
            simp -implicitDefEqProofs only [rnd, l166_0, VMs, noRef, noRef1, isRef, List.all_cons, List.all_nil, vop, VOp.still, VOp.app, VOp.plain, allP, lof, evs, start, asI, vbin, vcells, ntup, setAll, vfill, vress, vres, tup, Nat.reduceEqDiff, ↓reduceIte, Nat.reduceAdd, Nat.reduceMul, Nat.reduceLeDiff, reduceCtorEq, vdr, hpos, slen, ci, hloX, cv, hv0, hv1, hv2, hcl, ltc hiR, ge0, decide_true, Int.toNat_natCast, Nat.mul_one, Nat.zero_add, eR, cn, cop, ws, e0, hc0, e2, wf, ef, wg, hwm, sgs]
          · have hc0 : (RR.1 == 0) = false := beq_eq_false_iff_ne.2 c0
            refine ⟨_, He, ?_, go He _ re (by omega) (by omega)⟩
            subst ht hHb
            try simp only [List.length_append, List.length_cons, List.length_nil, Nat.zero_add, sgs] at cv cop ws eR e0 e1 e2
            simp -implicitDefEqProofs only [rnd, l166_0, VMs, noRef, noRef1, isRef, List.all_cons, List.all_nil, vop, VOp.still, VOp.app, VOp.plain, allP, lof, evs, start, asI, vbin, vcells, ntup, setAll, vfill, vress, vres, tup, Nat.reduceEqDiff, ↓reduceIte, Nat.reduceAdd, Nat.reduceMul, Nat.reduceLeDiff, reduceCtorEq, vdr, hpos, slen, ci, hloX, cv, hv0, hv1, hv2, hcl, ltc hiR, ge0, decide_true, Int.toNat_natCast, Nat.mul_one, Nat.zero_add, eR, cn, cop, ws, e0, hc0, hwm, sgs]
      have hv2 : (v == 2) = false := beq_eq_false_iff_ne.2 v2
      obtain ⟨t, ht, eR⟩ := rootAt rc
      have hcl : rdN (kill [q] Hc) ⟨H3.length, 0, none⟩ 2 = some [.slice an nn (sg an 3), .slice ab nb (sg ab 2)] := (rdN_kill (by simp; omega)).trans rc.cells
      have htl : H0.length ≤ t := (rc.ro.lt ⟨0, ht⟩).1
      have eR : rd (kill [q] Hc) ⟨t, i, none⟩ = some (.int .i64 R[i]) := (rd_kill (by simp; omega)).trans eR
      have sm1 := Same.src Hc q ac code (k' + 1 + 1 + 1)
      have sm2 := sm1.trans (Same.src _ q ac code (k' + 1 + 1 + 1 + 1))
      have cn := l1Next_c (d + 5) lo Hc rc.s hlo (by omega) 16
      obtain ⟨s10, f10, l10⟩ := rc.s.next (k' + 1 + 1 + 1)
      have rd' := rc.next (k' + 1 + 1 + 1)
      have bXd := (f10.blk _ (blk_lt bXc) (by omega)).trans bXc
      generalize srcB Hc q ac code (k' + 1 + 1 + 1) = Hd at *
      generalize nextV code (k' + 1 + 1) 16 = at_ at *
      have cn2 := l1Next_c (d + 5) lo Hd rd'.s hlo (by omega) 256
      obtain ⟨s11, f11, l11⟩ := rd'.s.next (k' + 1 + 1 + 1 + 1)
      have re' := rd'.next (k' + 1 + 1 + 1 + 1)
      have bXe := (f11.blk _ (blk_lt bXd) (by omega)).trans bXd
      generalize srcB Hd q ac code (k' + 1 + 1 + 1 + 1) = Hk at *
      generalize nextV code (k' + 1 + 1 + 1) 256 = dat at *
      obtain ⟨vv, Hd', cop, hN⟩ := specSetTree_c d lo Hk re'.rx (re'.inv.sml).sf R[i] at_ dat
      obtain ⟨an', nn', ab', nb', He, rfl, ws, e0, e1, e2, re, hXe, hgo⟩ := re'.op bXe rfl (by omega) (by omega) (by omega) hlo0 hN (fun e => resSetTree_inv e)
      generalize hres : resSetTree F R[i] at_ dat = RR at *
      by_cases c0 : RR.1 = 0
      · have hc0 : (RR.1 == 0) = true := beq_iff_eq.2 c0
        obtain ⟨Hf, wf, ef, rf, hXf⟩ := hgo c0
        obtain ⟨t', Hg, ht', wg, rg⟩ := rf.root hlo0 hiR RR.2.1
        rw [ht] at ht'
        cases ht'
        have go' := go Hg _ rg (by omega) (by omega)
        simp only [List.length_set] at go'
        refine ⟨_, Hg, ?_, go'⟩
        subst ht hHb
        try simp only [List.length_append, List.length_cons, List.length_nil, Nat.zero_add, sgs] at cv cop ws wf wg eR e0 e1 e2 ef
        simp -implicitDefEqProofs only [rnd, l166_0, VMs, noRef, noRef1, isRef, List.all_cons, List.all_nil, vop, VOp.still, VOp.app, VOp.plain, allP, lof, evs, start, asI, vbin, vcells, ntup, setAll, vfill, vress, vres, tup, Nat.reduceEqDiff, ↓reduceIte, Nat.reduceAdd, Nat.reduceMul, Nat.reduceLeDiff, reduceCtorEq, vdD, qats, qat, Option.map_some, zn, zx, gO_, gA_, gQ_, sm1, sm2, hpos, slen, ci, hloX, cv, hv0, hv1, hv2, hcl, ltc hiR, ge0, decide_true, Int.toNat_natCast, Nat.mul_one, Nat.zero_add, eR, cn, cn2, cop, ws, e0, hc0, e2, wf, ef, wg, hwm, sgs]
      · have hc0 : (RR.1 == 0) = false := beq_eq_false_iff_ne.2 c0
        refine ⟨_, He, ?_, go He _ re (by omega) (by omega)⟩
        subst ht hHb
        try simp only [List.length_append, List.length_cons, List.length_nil, Nat.zero_add, sgs] at cv cop ws eR e0 e1 e2
        simp -implicitDefEqProofs only [rnd, l166_0, VMs, noRef, noRef1, isRef, List.all_cons, List.all_nil, vop, VOp.still, VOp.app, VOp.plain, allP, lof, evs, start, asI, vbin, vcells, ntup, setAll, vfill, vress, vres, tup, Nat.reduceEqDiff, ↓reduceIte, Nat.reduceAdd, Nat.reduceMul, Nat.reduceLeDiff, reduceCtorEq, vdD, qats, qat, Option.map_some, zn, zx, gO_, gA_, gQ_, sm1, sm2, hpos, slen, ci, hloX, cv, hv0, hv1, hv2, hcl, ltc hiR, ge0, decide_true, Int.toNat_natCast, Nat.mul_one, Nat.zero_add, eR, cn, cn2, cop, ws, e0, hc0, hwm, sgs]
    · rintro ts H6 ⟨an, nn, ab, nb, F, ra, R, k', X, rfl, ka, kb, rs⟩
      have hpos : decide (((m - m : Nat) : Int) > 0) = false := decide_eq_false (by omega)
      exact ⟨_, by simp -implicitDefEqProofs only [rnd, l166_0, VMs, noRef, noRef1, isRef, List.all_cons, List.all_nil, vop, VOp.still, VOp.app, VOp.plain, allP, lof, evs, start, asI, vbin, vcells, ntup, setAll, vfill, vress, vres, tup, Nat.reduceEqDiff, ↓reduceIte, Nat.reduceAdd, Nat.reduceMul, Nat.reduceLeDiff, reduceCtorEq, hpos], by simp, H6, an, nn, ab, nb, F, ra, R, k', X, rfl, ka, by omega, rs⟩
    · exact ⟨an, nn, ab, nb, _, _, _, k + 1 + 1, H4.length, rfl, by omega, by omega, r5⟩
  obtain ⟨_, hl, H', an', nn', ab', nb', F, ra, R, k', X, rfl, ka, kb, rs⟩ := hloop
  have wr' := wr_setB (lo := lo) rs.rb (by omega) [.slice an' nn' (sg an' 3), .slice ab' nb' (sg ab' 2)] rfl
  have rdr := rdN_setB rs.rb 2 [.slice an' nn' (sg an' 3), .slice ab' nb' (sg ab' 2)] rfl
  have hcl := rs.cells
  have ff : Fr (· = H0.length) H' (setB H' H0.length [.slice an' nn' (sg an' 3), .slice ab' nb' (sg ab' 2)]) := Fr.setB rs.rb _
  obtain ⟨S, T, o6, g6⟩ := rs.fo
  refine ⟨an', nn', ab', nb', F, ra, R, _, k', ?_, rs.w.then ff.w (fun i e hi => by omega), ka, by omega, rs.s.fw ff.w (by omega) (fun i hi hc e => by have := h.lt i hi hc; omega), ⟨S, T, o6.fr (U := (· = H0.length)) (fun i hi e => (g6 i hi).2.1 e) ff, fun i hi => ⟨(g6 i hi).1, (g6 i hi).2.2.2.2⟩⟩, rs.ro.fw ff.w (fun i hi e => (rs.nr i hi).1 e), rs.r0, rs.r4, rs.inv⟩
  have hlo3 : (lo ≤ H3.length) = True := eq_true (by omega)
  subst hH4 hH1
  simp only [vI, List.map_cons, List.map_nil] at c5
  rw [call_eq find166 _ _ _ rfl]
  simp -implicitDefEqProofs only [v166, VMs, noRef, noRef1, isRef, List.all_cons, List.all_nil, vop, VOp.still, VOp.app, VOp.plain, allP, lof, evs, start, asI, vbin, vcells, ntup, setAll, vfill, vress, vres, tup, Nat.reduceEqDiff, ↓reduceIte, Nat.reduceAdd, Nat.reduceMul, Nat.reduceLeDiff, reduceCtorEq, c1, w8, c3, hlo3, h10, c5, vlp, hl, hcl, wr', rdr, ext24, List.size_toArray, List.getElem?_toArray]
end Go.Proofs.Ytmcljallamhccaa.V
/-! A forest and a root, as the bytes draw them. -/
namespace Go.Proofs.Ytmcljallamhccaa.V
open Go
set_option linter.unusedVariables false
set_option linter.unusedSimpArgs false
set_option maxRecDepth 100000
/-- How many refer to the first node is written. -/
theorem FO.node0 {L lo : Nat} {H : Hp} {S T : Nat → Prop} {an nn ab nb F} (h : FO L H S T an nn ab nb F) (hlo : lo ≤ L) {x : Nd} (hx : F.n[0]? = some x) (y : Int) :
    ∃ p o H', an = some ⟨p, o, none⟩ ∧ S p ∧ wrN lo H ⟨p, o, none⟩ [.int .i64 y] = some H' ∧ FO L H' S T an nn ab nb ⟨F.n.set 0 ⟨y, x.f, x.k⟩, F.b⟩ ∧ Fr (· = p) H H' := by
  obtain ⟨hj, ex⟩ := List.getElem?_eq_some_iff.1 hx
  obtain ⟨p, o, K, rfl, ok⟩ := h.n.2 (by intro e; rw [e] at hj; simp at hj)
  have e0 := ok.e 0 x hx
  have e0r := e0.r
  simp only [Nat.zero_mul, Nat.add_zero] at e0r
  obtain ⟨H', hw, u⟩ := up1 (v := .int .i64 y) (ok.w.1.lo hlo) e0r
  have hf := u.fr
  have hget : ∀ (j : Nat) z, (F.n.set 0 ⟨y, x.f, x.k⟩)[j]? = some z → (j = 0 ∧ z = ⟨y, x.f, x.k⟩) ∨ (j ≠ 0 ∧ F.n[j]? = some z) := fun j z hz => by
    rw [List.getElem?_set] at hz
    by_cases h0 : 0 = j
    · subst h0
      rw [if_pos rfl, if_pos hj] at hz; cases hz
      exact Or.inl ⟨rfl, rfl⟩
    · rw [if_neg h0] at hz; exact Or.inr ⟨fun e => h0 e.symm, hz⟩
  have hown : ∀ (j : Nat) z, (F.n.set 0 ⟨y, x.f, x.k⟩)[j]? = some z → ∃ z', F.n[j]? = some z' := fun j z hz => by
    rcases hget j z hz with ⟨rfl, _⟩ | ⟨_, hz⟩
    · exact ⟨x, hx⟩
    · exact ⟨z, hz⟩
  refine ⟨p, o, H', rfl, ok.w.2, hw, ⟨⟨by rw [List.length_set]; exact h.n.1, fun _ => ⟨p, o, K, rfl, ⟨u.wb _ _ ok.w.1, ok.w.2⟩, fun j z hz => ?_, fun j z hz i hi => ?_, fun j j' z z' hz hz' hne i hi => ?_, fun j z hz A hA => ?_⟩⟩, h.b.frB (fun i hi e => by subst e; exact h.d _ ok.w.2 (h.o _ hi).2) hf, fun i hi => ⟨u.wb _ _ (h.o i hi).1, (h.o i hi).2⟩, h.d, fun i hi => by rw [u.len]; exact h.lt i hi, h.x⟩, hf⟩
  · rcases hget j z hz with ⟨rfl, rfl⟩ | ⟨h0, hz⟩
    · refine ⟨by simp only [Nat.zero_mul, Nat.add_zero]; exact u.at_, (u.oth _ _ (by omega)).trans e0.f, (u.oth _ _ (by omega)).trans e0.s, e0.k.fr (fun i hi e => by subst e; exact (ok.own 0 x hx _ hi).2.2 rfl) hf⟩
    · have e := ok.e j z hz
      exact ⟨(u.oth _ _ (by omega)).trans e.r, (u.oth _ _ (by omega)).trans e.f, (u.oth _ _ (by omega)).trans e.s, e.k.fr (fun i hi e2 => by subst e2; exact (ok.own j z hz _ hi).2.2 rfl) hf⟩
  · obtain ⟨z', hz'⟩ := hown j z hz
    exact ⟨u.wb _ _ (ok.own j z' hz' i hi).1, (ok.own j z' hz' i hi).2⟩
  · obtain ⟨z1, h1⟩ := hown j z hz
    obtain ⟨z2, h2⟩ := hown j' z' hz'
    exact ok.ne j j' z1 z2 h1 h2 hne i hi
  · obtain ⟨z', hz'⟩ := hown j z hz
    exact ok.z j z' hz' A hA
/-- A kid of the first node is written. -/
theorem FO.kid0 {L lo : Nat} {H : Hp} {S T : Nat → Prop} {an nn ab nb F} (h : FO L H S T an nn ab nb F) (hlo : lo ≤ L) {x : Nd} (hx : F.n[0]? = some x) (h1 : 1 < x.k.length) (y : Int) :
    ∃ p o c co H', an = some ⟨p, o, none⟩ ∧ rd H ⟨p, o + 2, none⟩ = some (.slice (some ⟨c, co, none⟩) x.k.length 1) ∧ S p ∧ S c ∧ wrN lo H ⟨c, co + 1, none⟩ [.int .i64 y] = some H' ∧ FO L H' S T an nn ab nb ⟨F.n.set 0 ⟨x.r, x.f, x.k.set 1 y⟩, F.b⟩ ∧ Fr (· = c) H H' := by
  obtain ⟨hj, ex⟩ := List.getElem?_eq_some_iff.1 hx
  obtain ⟨p, o, K, rfl, ok⟩ := h.n.2 (by intro e; rw [e] at hj; simp at hj)
  have e0 := ok.e 0 x hx
  obtain ⟨c, co, hK, e1⟩ := e0.k.at h1
  simp only [EI, Nat.one_mul] at e1
  have hS := e0.s
  rw [hK] at hS
  simp only [Nat.zero_mul, Nat.add_zero, sgs] at hS
  obtain ⟨wc, sc, cp⟩ := ok.own 0 x hx c ⟨co, hK⟩
  obtain ⟨H', hw, u⟩ := up1 (v := .int .i64 y) (wc.lo hlo) e1
  have hf := u.fr
  have hget : ∀ (j : Nat) z, (F.n.set 0 ⟨x.r, x.f, x.k.set 1 y⟩)[j]? = some z → (j = 0 ∧ z = ⟨x.r, x.f, x.k.set 1 y⟩) ∨ (j ≠ 0 ∧ F.n[j]? = some z) := fun j z hz => by
    rw [List.getElem?_set] at hz
    by_cases h0 : 0 = j
    · subst h0
      rw [if_pos rfl, if_pos hj] at hz; cases hz
      exact Or.inl ⟨rfl, rfl⟩
    · rw [if_neg h0] at hz; exact Or.inr ⟨fun e => h0 e.symm, hz⟩
  have hown : ∀ (j : Nat) z, (F.n.set 0 ⟨x.r, x.f, x.k.set 1 y⟩)[j]? = some z → ∃ z', F.n[j]? = some z' := fun j z hz => by
    rcases hget j z hz with ⟨rfl, _⟩ | ⟨_, hz⟩
    · exact ⟨x, hx⟩
    · exact ⟨z, hz⟩
  refine ⟨p, o, c, co, H', rfl, hS, ok.w.2, sc, hw, ⟨⟨by rw [List.length_set]; exact h.n.1, fun _ => ⟨p, o, K, rfl, ⟨u.wb _ _ ok.w.1, ok.w.2⟩, fun j z hz => ?_, fun j z hz i hi => ?_, fun j j' z z' hz hz' hne i hi => ?_, fun j z hz A hA => ?_⟩⟩, h.b.frB (fun i hi e => by subst e; exact h.d _ sc (h.o _ hi).2) hf, fun i hi => ⟨u.wb _ _ (h.o i hi).1, (h.o i hi).2⟩, h.d, fun i hi => by rw [u.len]; exact h.lt i hi, h.x⟩, hf⟩
  · rcases hget j z hz with ⟨rfl, rfl⟩ | ⟨h0, hz⟩
    · refine ⟨(u.oth _ _ (by omega)).trans e0.r, (u.oth _ _ (by omega)).trans e0.f, ?_, ?_⟩
      · simp only [List.length_set]
        exact (u.oth _ _ (by omega)).trans e0.s
      · simp only [List.length_set]
        refine ⟨by rw [List.length_set], fun _ => ⟨c, co, hK, fun k z hk => ?_⟩⟩
        simp only [EI, Nat.mul_one]
        rw [List.getElem?_set] at hk
        by_cases h1k : 1 = k
        · subst h1k
          rw [if_pos rfl, if_pos h1] at hk; cases hk
          exact u.at_
        · rw [if_neg h1k] at hk
          obtain ⟨_, _, e2, h2⟩ := e0.k.2 (by intro e; rw [e] at hk; simp at hk)
          rw [hK] at e2; cases e2
          have := h2 k z hk
          simp only [EI, Nat.mul_one] at this
          exact (u.oth _ _ (by omega)).trans this
    · have e := ok.e j z hz
      have hp : ∀ k, rd H' ⟨p, k, none⟩ = rd H ⟨p, k, none⟩ := fun k => u.oth _ _ (fun hh => cp hh.1.symm)
      exact ⟨(hp _).trans e.r, (hp _).trans e.f, (hp _).trans e.s, e.k.fr (fun i hi e2 => by subst e2; exact ok.ne j 0 z x hz hx h0 _ hi ⟨co, hK⟩) hf⟩
  · obtain ⟨z', hz'⟩ := hown j z hz
    exact ⟨u.wb _ _ (ok.own j z' hz' i hi).1, (ok.own j z' hz' i hi).2⟩
  · obtain ⟨z1, h1⟩ := hown j z hz
    obtain ⟨z2, h2⟩ := hown j' z' hz'
    exact ok.ne j j' z1 z2 h1 h2 hne i hi
  · obtain ⟨z', hz'⟩ := hown j z hz
    exact ok.z j z' hz' A hA
/-- Other blocks. -/
theorem FO.blocks {L L' : Nat} {H : Hp} {S T : Nat → Prop} {an nn ab nb F} (h : FO L H S T an nn ab nb F) {a : Option Addr} {l : List Bk} (hd : Hd L' H a l.length 2 (vB l)) (hL : L ≤ L') (hS : ∀ i, S i → i < L') : FO L H S (Ad a) an nn a l.length ⟨F.n, l⟩ :=
  ⟨h.n, hd.rep, fun i hi => by
    have hi' := hi
    obtain ⟨o, e⟩ := hi
    rcases hd with ⟨h1, _⟩ | ⟨j, k0, h1, h2, _, _, h5⟩
    · rw [h1] at e; cases e
    · rw [h1] at e; cases e
      exact ⟨⟨by omega, _, h2, rfl⟩, hi'⟩, fun i hi hi' => by have := hS i hi; have := (hd.lt hi').1; omega, fun i hi => by
    rcases hi with hi | hi
    · exact h.lt i (Or.inl hi)
    · exact (hd.lt hi).2, fun A e => by
    rcases hd with ⟨h1, _⟩ | ⟨j, k0, h1, _⟩
    · rw [h1] at e; cases e
    · rw [h1] at e; cases e; exact ⟨rfl, rfl⟩⟩
/-- A forest that was drawn, in new memory. -/
structure DF (H0 H : Hp) (q : Nat) (ac : Option Addr) (code : List Int) (k : Nat) (an : Option Addr) (nn : Nat) (ab : Option Addr) (nb : Nat) (F : Fo) : Prop where
  w : Fw (· = q) H0 H
  s : ∃ k', k ≤ k' ∧ k' ≤ k + 1000 ∧ Src H q ac code k'
  fo : ∃ S T, FO H0.length H S T an nn ab nb F ∧ ∀ i, S i ∨ T i → H0.length ≤ i
  sf : SF F
set_option maxHeartbeats 4000000 in
theorem l4Draw_c (d lo : Nat) (H0 : Hp) {q : Nat} {ac : Option Addr} {code : List Int} {k : Nat} (h : Src H0 q ac code k) (hlo : lo ≤ q) (hk : k ≤ 700000000) :
    ∃ an nn ab nb F root H', vcall env (d + 8) 155 [.pointer (some ⟨q, 0, none⟩)] lo H0 = some (.tuple #[.agg #[.slice an nn (sg an 3), .slice ab nb (sg ab 2)], .int .i64 root], H') ∧ DF H0 H' q ac code k an nn ab nb F := by
  have hq0 := blk_lt h.b
  obtain ⟨H1, hH1⟩ : ∃ H1 : Hp, H1 = H0 ++ [some ⟨[.slice none 0 0, .slice none 0 0], true, false⟩] := ⟨_, rfl⟩
  have f1 : Fn H0 H1 := hH1 ▸ Fr.app
  have l1 : H1.length = H0.length + 1 := by rw [hH1]; simp
  have b1 : H1.blk H0.length = some ⟨[.slice none 0 0, .slice none 0 0], true, false⟩ := by rw [hH1]; exact blk0
  obtain ⟨an, nn, ab, nb, F, ra, R, H2, k2, c2, w2, k2a, k2b, s2, ⟨S, T, o2, g2⟩, ro2, rr0, rr4, inv⟩ := l4Right_c d lo H1 (h.fn f1) hlo (by omega)
  have l2 := w2.len
  obtain ⟨H3, hH3⟩ : ∃ H3 : Hp, H3 = H2 ++ [some ⟨[.slice an nn (sg an 3), .slice ab nb (sg ab 2)], true, false⟩] := ⟨_, rfl⟩
  have f3 : Fn H2 H3 := hH3 ▸ Fr.app
  have l3 : H3.length = H2.length + 1 := by rw [hH3]; simp
  have b3 : H3.blk H2.length = some ⟨[.slice an nn (sg an 3), .slice ab nb (sg ab 2)], true, false⟩ := by rw [hH3]; exact blk0
  have hloH2 : (lo ≤ H2.length) = True := eq_true (by omega)
  have s3 := s2.fn f3
  have c3 := l1Next_c (d + 6) lo H3 s3 hlo (by omega) (R.length : Int)
  obtain ⟨i1, i2⟩ := nextV_in h.y k2 (n := (R.length : Int)) (by omega)
  obtain ⟨i, hi⟩ : ∃ i : Nat, nextV code k2 (R.length : Int) = (i : Int) := ⟨_, (Int.toNat_of_nonneg i1).symm⟩
  rw [hi] at i2 c3
  have hiR : i < R.length := by omega
  obtain ⟨s4, f4, l4⟩ := s3.next (k2 + 1)
  generalize srcB H3 q ac code (k2 + 1) = H4 at *
  have ro4 : Hd H1.length H4 ra R.length 1 (vI R) := (ro2.fw f3.w (fun _ _ => id)).fw f4.w (fun j hj e => by have := (ro2.lt hj).1; omega)
  obtain ⟨p, o, hra, eR⟩ := ro4.repI.at hiR
  simp only [EI, Nat.mul_one] at eR
  have c5 := l1Next_c (d + 6) lo H4 s4 hlo (by omega) 20
  obtain ⟨s5, f5, l5⟩ := s4.next (k2 + 1 + 1)
  generalize srcB H4 q ac code (k2 + 1 + 1) = H5 at *
  generalize nextV code (k2 + 1) 20 = v at *
  have f35 : Fr (· = q) H3 H5 := f4.trans f5
  have w05 : Fw (· = q) H0 H5 := ((Fw.q f1).trans (w2.trans (Fw.q f3))).trans f35.w
  have o5 : FO H1.length H5 S T an nn ab nb F := (o2.fr (U := fun _ => False) (fun _ _ => id) f3).fr (U := (· = q)) (fun j hj e => by have := (g2 j hj).1; omega) f35
  have gT : ∀ j, S j ∨ T j → H1.length ≤ j ∧ j < H2.length := fun j hj => ⟨(g2 j hj).1, o2.lt j hj⟩
  have bR5 : H5.blk H0.length = some ⟨[.slice none 0 0, .slice none 0 0], true, false⟩ := (f35.blk _ (by omega) (by omega)).trans ((f3.blk _ (by omega) id).trans ((w2.blk _ (by omega) (by omega)).trans b1))
  have bF5 : H5.blk H2.length = some ⟨[.slice an nn (sg an 3), .slice ab nb (sg ab 2)], true, false⟩ := (f35.blk _ (by omega) (by omega)).trans b3
  have l5' : H5.length = H2.length + 1 := by omega
  -- the end, wherever it comes from
  have fin : ∀ {H6 : Hp} {an nn ab nb F} {S T : Nat → Prop} {k6 : Nat}, Fw (· = q) H0 H6 → H6.blk H0.length = some ⟨[.slice none 0 0, .slice none 0 0], true, false⟩ → H6.blk H2.length = some ⟨[.slice an nn (sg an 3), .slice ab nb (sg ab 2)], true, false⟩ → FO H1.length H6 S T an nn ab nb F → (∀ j, S j ∨ T j → H1.length ≤ j) → SF F → k ≤ k6 → k6 ≤ k + 1000 → Src H6 q ac code k6 →
      ∃ H7, rdN H6 ⟨H2.length, 0, none⟩ 2 = some [.slice an nn (sg an 3), .slice ab nb (sg ab 2)] ∧ wrN lo H6 ⟨H0.length, 0, none⟩ [.slice an nn (sg an 3), .slice ab nb (sg ab 2)] = some H7 ∧ rdN H7 ⟨H0.length, 0, none⟩ 2 = some [.slice an nn (sg an 3), .slice ab nb (sg ab 2)] ∧ DF H0 H7 q ac code k an nn ab nb F := by
    intro H6 an nn ab nb F S T k6 w6 bR bF o6 g6 sf ka kb s6
    have ff : Fr (· = H0.length) H6 (setB H6 H0.length [.slice an nn (sg an 3), .slice ab nb (sg ab 2)]) := Fr.setB bR _
    refine ⟨_, by simp [rdN, bF], wr_setB (lo := lo) bR (by omega) _ rfl, rdN_setB bR 2 _ rfl, w6.then ff.w (fun j e hj => by omega), ⟨k6, ka, kb, s6.fw ff.w (by omega) (fun j hj hc e => by have := h.lt j hj hc; omega)⟩, ⟨S, T, (o6.fr (U := (· = H0.length)) (fun j hj e => by have := g6 j hj; omega) ff).lo (by omega), fun j hj => by have := g6 j hj; omega⟩, sf⟩
  have n5 := o5.n.1
  rw [call_eq find155 _ _ _ rfl]
  by_cases v0 : v = 0
  · have hv0 : (v == 0) = true := beq_iff_eq.2 v0
    obtain ⟨a, l, H6, c6, db⟩ := l3Blocks_c (d + 4) lo H5 s5 hlo (by omega)
    obtain ⟨k6, k6a, k6b, s6⟩ := db.s
    have l6 := db.f.len
    have bF6 : H6.blk H2.length = some ⟨[.slice an nn (sg an 3), .slice ab nb (sg ab 2)], true, false⟩ := (db.f.blk _ (by omega) (by omega)).trans bF5
    have bR6 : H6.blk H0.length = some ⟨[.slice none 0 0, .slice none 0 0], true, false⟩ := (db.f.blk _ (by omega) (by omega)).trans bR5
    have wf := wr_at (lo := lo) (o := 1) bF6 (by omega) [.slice a l.length (sg a 2)] (by simp)
    have hset : setAll [Value.slice an nn (sg an 3), .slice ab nb (sg ab 2)] 1 [.slice a l.length (sg a 2)] = [.slice an nn (sg an 3), .slice a l.length (sg a 2)] := rfl
    rw [hset] at wf
    obtain ⟨H7, hH7⟩ : ∃ H7 : Hp, H7 = setB H6 H2.length [.slice an nn (sg an 3), .slice a l.length (sg a 2)] := ⟨_, rfl⟩
    have f7 : Fr (· = H2.length) H6 H7 := hH7 ▸ Fr.setB bF6 _
    rw [← hH7] at wf
    have bF7 : H7.blk H2.length = some ⟨[.slice an nn (sg an 3), .slice a l.length (sg a 2)], true, false⟩ := by rw [hH7, blk_setB bF6, if_pos rfl]
    have bR7 := (f7.blk _ (blk_lt bR6) (by omega)).trans bR6
    have o6 : FO H1.length H6 S T an nn ab nb F := by
      have key : Fr (· = q) H5 H6 := ⟨db.f.len, db.f.blk, fun lo' j ⟨w1, b, w2, w3⟩ => by
        by_cases hj : j = q
        · rw [hj, s5.b] at w2; cases w2
          rw [hj] at w1 ⊢
          exact ⟨w1, _, s6.b, rfl⟩
        · exact ⟨w1, b, (db.f.blk j (blk_lt w2) hj).trans w2, w3⟩⟩
      exact o5.fr (U := (· = q)) (fun j hj e => by have := (gT j hj).1; omega) key
    have o6' := o6.blocks db.h (by omega) (fun j hj => by have := (gT j (Or.inl hj)).2; omega)
    have o7 : FO H1.length H7 S (Ad a) an nn a l.length ⟨F.n, l⟩ := o6'.fr (U := (· = H2.length)) (fun j hj e => by
      rcases hj with hj | hj
      · have := (gT j (Or.inl hj)).2; omega
      · have := (db.h.lt hj).1; omega) f7
    obtain ⟨H8, e1, e2, e3, df⟩ := fin (((w05.trans db.f).then f7.w (fun j e hj => by omega))) bR7 bF7 o7 (fun j hj => by
      rcases hj with hj | hj
      · exact (gT j (Or.inl hj)).1
      · have := (db.h.lt hj).1; omega) ⟨inv.sml.sf.n, by have := db.n; unfold Sm; simp only; omega, inv.sml.sf.k⟩ (by omega) (by omega) (s6.fw f7.w (by omega) (fun j hj hc e => by have := h.lt j hj hc; omega))
    refine ⟨an, nn, a, l.length, ⟨F.n, l⟩, R[i], H8, ?_, df⟩
    subst hH3 hH1 hra
    simp only [sgs] at c2 c3
    simp -implicitDefEqProofs only [v155, VMs, noRef, noRef1, isRef, List.all_cons, List.all_nil, vop, VOp.still, VOp.app, VOp.plain, allP, lof, evs, start, asI, vbin, vcells, ntup, setAll, vfill, vress, vres, tup, Nat.reduceEqDiff, ↓reduceIte, Nat.reduceAdd, Nat.reduceMul, Nat.reduceLeDiff, reduceCtorEq, sgs, List.getElem?_toArray, c2, hloH2, slen, c3, ltc hiR, ge0, Int.toNat_natCast, Nat.mul_one, eR, c5, hv0, c6, wf, e1, e2, e3]
  have hv0 : (v == 0) = false := beq_eq_false_iff_ne.2 v0
  have rF0 : rd H5 ⟨H2.length, 0, none⟩ = some (.slice an nn (sg an 3)) := by simp [rd, bF5]
  have plainEnd := fin w05 bR5 bF5 o5 (fun j hj => (gT j hj).1) inv.sml.sf (show k ≤ k2 + 1 + 1 by omega) (show k2 + 1 + 1 ≤ k + 1000 by omega) s5
  have sm0 : ∀ (L : List Int), Same [q] H5 (H5 ++ [some ⟨vI L, true, false⟩]) := fun L => Same.app _
  -- a choice out of a list
  have mend : ∀ (L : List Int), L.length = 4 → ∃ pv H6, vcall env (d + 7) 95 [.pointer (some ⟨q, 0, none⟩), .slice (some ⟨H5.length, 0, none⟩) 4 1] lo (H5 ++ [some ⟨vI L, true, false⟩]) = some (.int .i64 pv, H6) ∧ Fr (· = q) H5 H6 ∧ Src H6 q ac code (k2 + 1 + 1 + 1) ∧ Same [q] H5 H6 := by
    intro L hL
    have s6 := s5.fn (Fr.app (l := [some ⟨vI L, true, false⟩]))
    have rp : Rep EI 1 (H5 ++ [some ⟨vI L, true, false⟩]) (some ⟨H5.length, 0, none⟩) L.length L := repI blk0
    have c6 := l1Pick_c (d + 5) lo _ s6 hlo (by omega) (al := some ⟨H5.length, 0, none⟩) rp (by omega) (fun j hj => by obtain ⟨o, e⟩ := hj; simp only [Option.some.injEq, Addr.mk.injEq] at e; omega)
    obtain ⟨s7, f7, l7⟩ := s6.next (k2 + 1 + 1 + 1)
    rw [hL] at c6
    exact ⟨_, _, c6, Fr.app.trans f7, s7, (sm0 L).trans (Same.src _ q ac code (k2 + 1 + 1 + 1))⟩
  by_cases v1 : v = 1
  · have hv1 : (v == 1) = true := beq_iff_eq.2 v1
    by_cases hn0 : 0 < nn
    · have hg : decide ((nn : Int) > 0) = true := decide_eq_true (by omega)
      obtain ⟨pv, H6, c6, f6, s6, sm6⟩ := mend [0, 1, 2, 201] rfl
      obtain ⟨x, hx⟩ : ∃ x, F.n[0]? = some x := ⟨_, getE (by omega)⟩
      have o6 : FO H1.length H6 S T an nn ab nb F := o5.fr (U := (· = q)) (fun j hj e => by have := (gT j hj).1; omega) f6
      obtain ⟨p', o', H7, rfl, sp, hw, o7, f7⟩ := o6.node0 (lo := lo) (by omega) hx pv
      have gp := gT p' (Or.inl sp)
      have bR7 := (f7.blk _ (by have := f6.len; omega) (by omega)).trans ((f6.blk _ (by omega) (by omega)).trans bR5)
      have bF7 := (f7.blk _ (by have := f6.len; omega) (by omega)).trans ((f6.blk _ (by omega) (by omega)).trans bF5)
      obtain ⟨H8, e1, e2, e3, df⟩ := fin ((w05.trans f6.w).then f7.w (fun j e hj => by omega)) bR7 bF7 o7 (fun j hj => (gT j hj).1) ⟨by simp only [List.length_set]; exact inv.sml.sf.n, inv.sml.sf.b, fun z hz => by
        rcases List.mem_or_eq_of_mem_set hz with e | e
        · exact inv.sml.sf.k z e
        · rw [e]; exact inv.sml.sf.k x (List.mem_of_getElem? hx)⟩ (by omega) (by omega) (s6.fw f7.w (by omega) (fun j hj hc e => by have := h.lt j hj hc; omega))
      have rK : rd (kill [q] H5) ⟨H2.length, 0, none⟩ = some (.slice (some ⟨p', o', none⟩) nn (sg (some ⟨p', o', none⟩) 3)) := (rd_kill (by simp; omega)).trans rF0
      have h0n : ((0 : Int) < (nn : Int)) = True := eq_true (by omega)
      have h0z : ((0 : Int) ≤ 0) = True := eq_true (by omega)
      have t0 : ((0 : Int)).toNat = 0 := rfl
      have sm1 := sm0 [0, 1, 2, 201]
      refine ⟨some ⟨p', o', none⟩, nn, ab, nb, _, R[i], H8, ?_, df⟩
      subst hH3 hH1 hra
      simp only [vI, List.map_cons, List.map_nil] at c6 sm1
      simp only [sgs] at c2 c3 rF0 rK e1 e2 e3
      simp -implicitDefEqProofs only [v155, VMs, noRef, noRef1, isRef, List.all_cons, List.all_nil, vop, VOp.still, VOp.app, VOp.plain, allP, lof, evs, start, asI, vbin, vcells, ntup, setAll, vfill, vress, vres, tup, Nat.reduceEqDiff, ↓reduceIte, Nat.reduceAdd, Nat.reduceMul, Nat.reduceLeDiff, reduceCtorEq, sgs, List.getElem?_toArray, c2, hloH2, slen, c3, ltc hiR, ge0, Int.toNat_natCast, Nat.mul_one, eR, c5, hv0, hv1, rF0, hg, decide_true, vdD, qats, qat, Option.map_some, zn, zx, gO_, gA_, gQ_, rK, sm1, sm6, h40, Nat.reduceBEq, c6, h0n, h0z, t0, hw, e1, e2, e3]
    · have hg : decide ((nn : Int) > 0) = false := decide_eq_false (by omega)
      obtain ⟨H8, e1, e2, e3, df⟩ := plainEnd
      refine ⟨an, nn, ab, nb, _, R[i], H8, ?_, df⟩
      subst hH3 hH1 hra
      simp only [sgs] at c2 c3
      simp -implicitDefEqProofs only [v155, VMs, noRef, noRef1, isRef, List.all_cons, List.all_nil, vop, VOp.still, VOp.app, VOp.plain, allP, lof, evs, start, asI, vbin, vcells, ntup, setAll, vfill, vress, vres, tup, Nat.reduceEqDiff, ↓reduceIte, Nat.reduceAdd, Nat.reduceMul, Nat.reduceLeDiff, reduceCtorEq, sgs, List.getElem?_toArray, c2, hloH2, slen, c3, ltc hiR, ge0, Int.toNat_natCast, Nat.mul_one, eR, c5, hv0, hv1, rF0, hg, e1, e2, e3]
  have hv1 : (v == 1) = false := beq_eq_false_iff_ne.2 v1
  by_cases v2 : v = 2
  · have hv2 : (v == 2) = true := beq_iff_eq.2 v2
    by_cases hn0 : 0 < nn
    · have hg : decide ((nn : Int) > 0) = true := decide_eq_true (by omega)
      have h0n : ((0 : Int) < (nn : Int)) = True := eq_true (by omega)
      have h0z : ((0 : Int) ≤ 0) = True := eq_true (by omega)
      have t0 : ((0 : Int)).toNat = 0 := rfl
      obtain ⟨x, hx⟩ : ∃ x, F.n[0]? = some x := ⟨_, getE (by omega)⟩
      by_cases hk0 : 0 < x.k.length
      · have hk4 : x.k.length = 4 := by
          have hxm := List.mem_of_getElem? hx
          by_cases hr : x.r = 0
          · rw [(inv.n0 x hxm hr).2] at hk0; simp at hk0
          · exact (inv.n4 x hxm hr).1
        have hgk : decide ((x.k.length : Int) > 0) = true := decide_eq_true (by omega)
        obtain ⟨pv, H6, c6, f6, s6, sm6⟩ := mend [-1, 0, 3, 30] rfl
        have o6 : FO H1.length H6 S T an nn ab nb F := o5.fr (U := (· = q)) (fun j hj e => by have := (gT j hj).1; omega) f6
        obtain ⟨p', o', cc, co, H7, rfl, eS, sp, sc, hw, o7, f7⟩ := o6.kid0 (lo := lo) (by omega) hx (by omega) pv
        have gp := gT p' (Or.inl sp)
        have gc := gT cc (Or.inl sc)
        have eS5 : rd H5 ⟨p', o' + 2, none⟩ = some (.slice (some ⟨cc, co, none⟩) x.k.length 1) := (f6.rd _ _ (by omega) (by omega)).symm.trans eS
        have bR7 := (f7.blk _ (by have := f6.len; omega) (by omega)).trans ((f6.blk _ (by omega) (by omega)).trans bR5)
        have bF7 := (f7.blk _ (by have := f6.len; omega) (by omega)).trans ((f6.blk _ (by omega) (by omega)).trans bF5)
        obtain ⟨H8, e1, e2, e3, df⟩ := fin ((w05.trans f6.w).then f7.w (fun j e hj => by omega)) bR7 bF7 o7 (fun j hj => (gT j hj).1) ⟨by simp only [List.length_set]; exact inv.sml.sf.n, inv.sml.sf.b, fun z hz => by
          rcases List.mem_or_eq_of_mem_set hz with e | e
          · exact inv.sml.sf.k z e
          · rw [e]; simp only [List.length_set]; exact inv.sml.sf.k x (List.mem_of_getElem? hx)⟩ (by omega) (by omega) (s6.fw f7.w (by omega) (fun j hj hc e => by have := h.lt j hj hc; omega))
        have rK : rd (kill [q] H5) ⟨H2.length, 0, none⟩ = some (.slice (some ⟨p', o', none⟩) nn (sg (some ⟨p', o', none⟩) 3)) := (rd_kill (by simp; omega)).trans rF0
        have rK2 : rd (kill [q] H5) ⟨p', o' + 2, none⟩ = some (.slice (some ⟨cc, co, none⟩) x.k.length 1) := (rd_kill (by simp; omega)).trans eS5
        have h1k : ((1 : Int) < ((4 : Nat) : Int)) = True := eq_true (by omega)
        have h1z : ((0 : Int) ≤ 1) = True := eq_true (by omega)
        have t1 : ((1 : Int)).toNat = 1 := rfl
        have sm1 := sm0 [-1, 0, 3, 30]
        refine ⟨some ⟨p', o', none⟩, nn, ab, nb, _, R[i], H8, ?_, df⟩
        subst hH3 hH1 hra
        rw [hk4] at eS5 rK2 hgk
        simp only [vI, List.map_cons, List.map_nil] at c6 sm1
        simp only [sgs] at c2 c3 rF0 rK e1 e2 e3
        simp -implicitDefEqProofs only [v155, VMs, noRef, noRef1, isRef, List.all_cons, List.all_nil, vop, VOp.still, VOp.app, VOp.plain, allP, lof, evs, start, asI, vbin, vcells, ntup, setAll, vfill, vress, vres, tup, Nat.reduceEqDiff, ↓reduceIte, Nat.reduceAdd, Nat.reduceMul, Nat.reduceLeDiff, reduceCtorEq, sgs, List.getElem?_toArray, c2, hloH2, slen, c3, ltc hiR, ge0, Int.toNat_natCast, Nat.mul_one, eR, c5, hv0, hv1, hv2, rF0, hg, h0n, h0z, t0, eS5, hgk, decide_true, vdD, qats, qat, Option.map_some, zn, zx, gO_, gA_, gQ_, rK, rK2, sm1, sm6, h40, Nat.reduceBEq, c6, h1k, h1z, t1, Nat.one_mul, hw, e1, e2, e3]
      · have hgk : decide ((x.k.length : Int) > 0) = false := decide_eq_false (by omega)
        obtain ⟨p', o', K, rfl, ok⟩ := o5.n.2 (by intro e; rw [e] at hx; simp at hx)
        have eS5 := (ok.e 0 x hx).s
        simp only [Nat.zero_mul, Nat.add_zero] at eS5
        obtain ⟨H8, e1, e2, e3, df⟩ := plainEnd
        refine ⟨some ⟨p', o', none⟩, nn, ab, nb, _, R[i], H8, ?_, df⟩
        subst hH3 hH1 hra
        simp only [sgs] at c2 c3 rF0 e1 e2 e3
        simp -implicitDefEqProofs only [v155, VMs, noRef, noRef1, isRef, List.all_cons, List.all_nil, vop, VOp.still, VOp.app, VOp.plain, allP, lof, evs, start, asI, vbin, vcells, ntup, setAll, vfill, vress, vres, tup, Nat.reduceEqDiff, ↓reduceIte, Nat.reduceAdd, Nat.reduceMul, Nat.reduceLeDiff, reduceCtorEq, sgs, List.getElem?_toArray, c2, hloH2, slen, c3, ltc hiR, ge0, Int.toNat_natCast, Nat.mul_one, eR, c5, hv0, hv1, hv2, rF0, hg, h0n, h0z, t0, eS5, hgk, decide_true, e1, e2, e3]
    · have hg : decide ((nn : Int) > 0) = false := decide_eq_false (by omega)
      obtain ⟨H8, e1, e2, e3, df⟩ := plainEnd
      refine ⟨an, nn, ab, nb, _, R[i], H8, ?_, df⟩
      subst hH3 hH1 hra
      simp only [sgs] at c2 c3
      simp -implicitDefEqProofs only [v155, VMs, noRef, noRef1, isRef, List.all_cons, List.all_nil, vop, VOp.still, VOp.app, VOp.plain, allP, lof, evs, start, asI, vbin, vcells, ntup, setAll, vfill, vress, vres, tup, Nat.reduceEqDiff, ↓reduceIte, Nat.reduceAdd, Nat.reduceMul, Nat.reduceLeDiff, reduceCtorEq, sgs, List.getElem?_toArray, c2, hloH2, slen, c3, ltc hiR, ge0, Int.toNat_natCast, Nat.mul_one, eR, c5, hv0, hv1, hv2, rF0, hg, e1, e2, e3]
  have hv2 : (v == 2) = false := beq_eq_false_iff_ne.2 v2
  by_cases v3 : v = 3
  · have hv3 : (v == 3) = true := beq_iff_eq.2 v3
    obtain ⟨pv, H6, c6, f6, s6, sm6⟩ := mend [-2, 0, 1, 60] rfl
    have o6 : FO H1.length H6 S T an nn ab nb F := o5.fr (U := (· = q)) (fun j hj e => by have := (gT j hj).1; omega) f6
    obtain ⟨H8, e1, e2, e3, df⟩ := fin (w05.trans f6.w) ((f6.blk _ (by omega) (by omega)).trans bR5) ((f6.blk _ (by omega) (by omega)).trans bF5) o6 (fun j hj => (gT j hj).1) inv.sml.sf (by omega) (by omega) s6
    refine ⟨an, nn, ab, nb, _, pv, H8, ?_, df⟩
    subst hH3 hH1 hra
    simp only [vI, List.map_cons, List.map_nil] at c6
    simp only [sgs] at c2 c3
    simp -implicitDefEqProofs only [v155, VMs, noRef, noRef1, isRef, List.all_cons, List.all_nil, vop, VOp.still, VOp.app, VOp.plain, allP, lof, evs, start, asI, vbin, vcells, ntup, setAll, vfill, vress, vres, tup, Nat.reduceEqDiff, ↓reduceIte, Nat.reduceAdd, Nat.reduceMul, Nat.reduceLeDiff, reduceCtorEq, sgs, List.getElem?_toArray, c2, hloH2, slen, c3, ltc hiR, ge0, Int.toNat_natCast, Nat.mul_one, eR, c5, hv0, hv1, hv2, hv3, h40, Nat.reduceBEq, c6, e1, e2, e3]
  · have hv3 : (v == 3) = false := beq_eq_false_iff_ne.2 v3
    obtain ⟨H8, e1, e2, e3, df⟩ := plainEnd
    refine ⟨an, nn, ab, nb, _, R[i], H8, ?_, df⟩
    subst hH3 hH1 hra
    simp only [sgs] at c2 c3
    simp -implicitDefEqProofs only [v155, VMs, noRef, noRef1, isRef, List.all_cons, List.all_nil, vop, VOp.still, VOp.app, VOp.plain, allP, lof, evs, start, asI, vbin, vcells, ntup, setAll, vfill, vress, vres, tup, Nat.reduceEqDiff, ↓reduceIte, Nat.reduceAdd, Nat.reduceMul, Nat.reduceLeDiff, reduceCtorEq, sgs, List.getElem?_toArray, c2, hloH2, slen, c3, ltc hiR, ge0, Int.toNat_natCast, Nat.mul_one, eR, c5, hv0, hv1, hv2, hv3, e1, e2, e3]
end Go.Proofs.Ytmcljallamhccaa.V
/-! A forest, a root, a place and data, as the bytes draw them. -/
namespace Go.Proofs.Ytmcljallamhccaa.V
open Go
set_option linter.unusedVariables false
set_option linter.unusedSimpArgs false
set_option maxRecDepth 100000
/-- A forest in new memory. -/
structure DT (H H' : Hp) (an : Option Addr) (nn : Nat) (ab : Option Addr) (nb : Nat) (F : Fo) : Prop where
  f : Fn H H'
  fo : ∃ S T, FO H.length H' S T an nn ab nb F ∧ ∀ i, S i ∨ T i → H.length ≤ i
  sf : SF F
theorem DT.none {H H' : Hp} {nn nb : Nat} {F : Fo} (h : DT H H' none nn none nb F) : DT H H none nn none nb F := by
  obtain ⟨f, ⟨S, T, o, g⟩, sf⟩ := h
  exact ⟨Fr.refl, ⟨fun _ => False, fun _ => False, ⟨⟨o.n.1, fun hl => let ⟨_, _, _, e, _⟩ := o.n.2 hl; nomatch e⟩, ⟨o.b.1, fun hl => let ⟨_, _, e, _⟩ := o.b.2 hl; nomatch e⟩, fun i hi => hi.no.elim, fun i hi => hi.elim, fun i hi => (or_self_iff.1 hi).elim, fun A e => by cases e⟩, fun i hi => (or_self_iff.1 hi).elim⟩, sf⟩
theorem DT.rx {H H' : Hp} {an nn ab nb F} (h : DT H H' an nn ab nb F) : RX H' an nn ab nb F := let ⟨_, _, o, _⟩ := h.fo; o.rx
/-- The heap that a pure function leaves. -/
theorem DT.done {H H' : Hp} {an nn ab nb F} (h : DT H H' an nn ab nb F) : DT H (if an = Option.none ∧ ab = Option.none then H else H') an nn ab nb F := by
  by_cases e : an = Option.none ∧ ab = Option.none
  · rw [if_pos e]; obtain ⟨rfl, rfl⟩ := e; exact h.none
  · rw [if_neg e]; exact h
theorem DF.dt {H0 H1 H : Hp} {q : Nat} {ac code k an nn ab nb F} (h : DF H1 H q ac code k an nn ab nb F) (f : Fn H0 H1) (hq : H0.length ≤ q) : DT H0 H an nn ab nb F := by
  obtain ⟨S, T, o, g⟩ := h.fo
  have l0 := f.len
  exact ⟨h.w.fn f (fun i e => by omega), ⟨S, T, o.lo l0, fun i hi => Nat.le_trans l0 (g i hi)⟩, h.sf⟩
theorem DT.fw {H0 H H' : Hp} {an nn ab nb F} {U : Nat → Prop} (h : DT H0 H an nn ab nb F) (hf : Fr U H H') (hU : ∀ i, U i → H0.length ≤ i) (hS : ∀ i, U i → i < H.length → False) : DT H0 H' an nn ab nb F := by
  obtain ⟨S, T, o, g⟩ := h.fo
  exact ⟨hf.w.fn h.f (fun i hi => hU i hi), ⟨S, T, o.fr (U := U) (fun i hi hu => hS i hu (o.lt i hi)) hf, g⟩, h.sf⟩
theorem Rep.fnY {H H' : Hp} {a : Option Addr} {n : Nat} {l : List Int} (h : Rep EY 1 H a n l) (hf : Fn H H') : Rep EY 1 H' a n l :=
  ⟨h.1, fun hl => let ⟨i, o, ha, h2⟩ := h.2 hl; ⟨i, o, ha, fun j x hx => (hf.rd _ _ (rd_lt (h2 j x hx)) id).trans (h2 j x hx)⟩⟩
theorem Same.setB (H : Hp) (i : Nat) (vs : List Value) : Same [i] H (setB H i vs) :=
  ⟨by rw [setB_len]; exact Nat.le_refl _, fun j hj hn => by unfold V.setB; rw [List.getElem?_set, if_neg (fun e => hn (by rw [e]; simp))]⟩
def vY (l : List Int) : List Value := l.map (.int .u8 ·)
theorem vY_len (l : List Int) : (vY l).length = l.length := List.length_map _
theorem Rep.cellsY {H : Hp} {a : Option Addr} {l : List Int} (h : Rep EY 1 H a l.length l) : scells H 1 (.slice a l.length (sg a 1)) = some (vY l) := by
  by_cases h0 : l = []
  · subst h0; cases a <;> rfl
  obtain ⟨i, o, rfl, h2⟩ := h.2 h0
  have hl : 0 < l.length := List.length_pos_iff.2 h0
  rw [scells, if_neg (by omega)]
  simp only [sgs, if_true, Nat.mul_one]
  have hb : ∃ b, H.blk i = some b ∧ o ≤ b.cs.length := by
    have e := h2 (l.length - 1) _ (getE (by omega))
    simp only [EY, rd, Option.bind_eq_some_iff] at e
    obtain ⟨b, hb, hc⟩ := e
    have := (List.getElem?_eq_some_iff.1 hc).1
    exact ⟨b, hb, by omega⟩
  have := rdN_of (L := vY l) hb (fun j hj => by
    rw [vY_len] at hj
    have := h2 j _ (getE hj)
    simp only [EY, Nat.mul_one] at this
    rw [this, vY, List.getElem?_map, getE hj]; rfl)
  rwa [vY_len] at this
theorem repY {H : Hp} {N : Nat} {ks : List Int} {k0 : Bool} (h : H.blk N = some ⟨vY ks, true, k0⟩) : Rep EY 1 H (some ⟨N, 0, none⟩) ks.length ks :=
  ⟨rfl, fun _ => ⟨N, 0, rfl, fun j x hx => by simp only [EY, rd, h, Option.bind_some, Nat.zero_add, Nat.mul_one, vY, List.getElem?_map, hx, Option.map_some]⟩⟩
set_option maxHeartbeats 4000000 in
theorem l4At_c (d lo : Nat) (H : Hp) {ac : Option Addr} {code : List Int} (hc : Rep EY 1 H ac code.length code) (hy : ∀ x ∈ code, 0 ≤ x ∧ x ≤ 255) (hn : code.length ≤ 1048577) :
    ∃ an nn ab nb F root p H', vcall env (d + 9) 130 [.slice ac code.length (sg ac 1)] lo H = some (.tuple #[.agg #[.slice an nn (sg an 3), .slice ab nb (sg ab 2)], .int .i64 root, .int .i64 p], H') ∧ DT H H' an nn ab nb F := by
  obtain ⟨H1, hH1⟩ : ∃ H1 : Hp, H1 = H ++ [some ⟨[.slice none 0 0, .slice none 0 0], true, false⟩] := ⟨_, rfl⟩
  have f1 : Fn H H1 := hH1 ▸ Fr.app
  have l1 : H1.length = H.length + 1 := by rw [hH1]; simp
  have b1 : H1.blk H.length = some ⟨[.slice none 0 0, .slice none 0 0], true, false⟩ := by rw [hH1]; exact blk0
  obtain ⟨H2, c2, f2, l2, s2⟩ := l1Source_c (d + 7) H.length H1 (hc.fnY f1) hy hn
  obtain ⟨an, nn, ab, nb, F, root, H3, c3, df⟩ := l4Draw_c d H.length H2 s2 (by omega) (by omega)
  obtain ⟨k3, _, k3b, s3⟩ := df.s
  have dt3 := df.dt (f1.trans f2) (by omega)
  have l3 := df.w.len
  have b3 : H3.blk H.length = some ⟨[.slice none 0 0, .slice none 0 0], true, false⟩ := (df.w.blk _ (by omega) (by omega)).trans ((f2.blk _ (by omega) id).trans b1)
  have hle3 : (H.length ≤ H3.length) = True := eq_true (by omega)
  obtain ⟨H4, hH4⟩ : ∃ H4 : Hp, H4 = H3 ++ [some ⟨[.slice an nn (sg an 3), .slice ab nb (sg ab 2)], true, false⟩] := ⟨_, rfl⟩
  have f4 : Fn H3 H4 := hH4 ▸ Fr.app
  have l4 : H4.length = H3.length + 1 := by rw [hH4]; simp
  have b4 : H4.blk H3.length = some ⟨[.slice an nn (sg an 3), .slice ab nb (sg ab 2)], true, false⟩ := by rw [hH4]; exact blk0
  have r4 : rdN (kill [H1.length, H.length] H4) ⟨H3.length, 0, none⟩ 2 = some [.slice an nn (sg an 3), .slice ab nb (sg ab 2)] := by
    rw [rdN_kill (by simp; omega)]; simp [rdN, b4]
  have s4 := s3.fn f4
  have c5 := l1Next_c (d + 7) H.length H4 s4 (by omega) (by omega) 16
  have sm5 : Same [H1.length, H.length] H4 (srcB H4 H1.length ac code (k3 + 1)) := (Same.src H4 H1.length ac code (k3 + 1)).more (by simp)
  obtain ⟨s5, f5, l5⟩ := s4.next (k3 + 1)
  generalize srcB H4 H1.length ac code (k3 + 1) = H5 at *
  have c6 := l1Next_c (d + 7) H.length H5 s5 (by omega) (by omega) 16
  have sm6 : Same [H1.length, H.length] H4 (srcB H5 H1.length ac code (k3 + 1 + 1)) := sm5.trans ((Same.src H5 H1.length ac code (k3 + 1 + 1)).more (by simp))
  obtain ⟨s6, f6, l6⟩ := s5.next (k3 + 1 + 1)
  generalize srcB H5 H1.length ac code (k3 + 1 + 1) = H6 at *
  have c7 := l1Next_c (d + 7) H.length H6 s6 (by omega) (by omega) 16
  have sm7 : Same [H1.length, H.length] H4 (srcB H6 H1.length ac code (k3 + 1 + 1 + 1)) := sm6.trans ((Same.src H6 H1.length ac code (k3 + 1 + 1 + 1)).more (by simp))
  obtain ⟨s7, f7, l7⟩ := s6.next (k3 + 1 + 1 + 1)
  generalize srcB H6 H1.length ac code (k3 + 1 + 1 + 1) = H7 at *
  generalize nextV code k3 16 = v1 at *
  generalize nextV code (k3 + 1) 16 = v2 at *
  generalize nextV code (k3 + 1 + 1) 16 = v3 at *
  obtain ⟨H8, hH8⟩ : ∃ H8 : Hp, H8 = H7 ++ [some ⟨vI [v1, v2, v3, 16, -1], true, false⟩] := ⟨_, rfl⟩
  have f8 : Fn H7 H8 := hH8 ▸ Fr.app
  have sm8 : Same [H1.length, H.length] H4 H8 := sm7.trans (hH8 ▸ Same.app _)
  have rp : Rep EI 1 H8 (some ⟨H7.length, 0, none⟩) [v1, v2, v3, 16, -1].length [v1, v2, v3, 16, -1] := repI (by rw [hH8]; exact blk0)
  have hq7 := blk_lt s7.b
  have c9 := l1Pick_c (d + 6) H.length H8 (s7.fn f8) (by omega) (by omega) rp (by simp) (fun i hi => by obtain ⟨o, e⟩ := hi; simp only [Option.some.injEq, Addr.mk.injEq] at e; omega)
  have sm9 : Same [H1.length, H.length] H4 (srcB H8 H1.length ac code (k3 + 1 + 1 + 1 + 1)) := sm8.trans ((Same.src H8 H1.length ac code (k3 + 1 + 1 + 1 + 1)).more (by simp))
  obtain ⟨s9, f9, l9⟩ := (s7.fn f8).next (k3 + 1 + 1 + 1 + 1)
  generalize srcB H8 H1.length ac code (k3 + 1 + 1 + 1 + 1) = H9 at *
  generalize pickV code (k3 + 1 + 1 + 1) [v1, v2, v3, 16, -1] = w at *
  have f49 : Fr (· = H1.length) H4 H9 := (((f5.trans f6).trans f7).trans (f8.mono fun _ => False.elim)).trans f9
  have l89 := f8.len
  have b9 : H9.blk H.length = some ⟨[.slice none 0 0, .slice none 0 0], true, false⟩ := (f49.blk _ (by omega) (by omega)).trans ((f4.blk _ (by omega) id).trans b3)
  have w9 := wr_setB (lo := H.length) b9 (Nat.le_refl _) [.slice an nn (sg an 3), .slice ab nb (sg ab 2)] rfl
  have sm10 : Same [H1.length, H.length] H4 (setB H9 H.length [.slice an nn (sg an 3), .slice ab nb (sg ab 2)]) := sm9.trans ((Same.setB _ _ _).more (by simp))
  have r10 := rdN_setB b9 2 [.slice an nn (sg an 3), .slice ab nb (sg ab 2)] rfl
  have f10 := Fr.setB b9 [.slice an nn (sg an 3), .slice ab nb (sg ab 2)]
  generalize setB H9 H.length [.slice an nn (sg an 3), .slice ab nb (sg ab 2)] = H10 at *
  have dt : DT H H10 an nn ab nb F := by
    obtain ⟨S, T, o, g⟩ := df.fo
    have f310 : Fr (fun i => i = H1.length ∨ i = H.length) H3 H10 := ((f4.mono fun _ => False.elim).trans (f49.mono fun i e => Or.inl e)).trans (f10.mono fun i e => Or.inr e)
    have o' := o.fr (U := fun i => i = H1.length ∨ i = H.length) (fun i hi e => by have := g i hi; omega) f310
    exact ⟨f310.w.fn dt3.f (fun i e => by omega), ⟨S, T, o'.lo (by omega), fun i hi => by have := g i hi; omega⟩, df.sf⟩
  refine ⟨an, nn, ab, nb, F, root, w, _, ?_, dt.done⟩
  subst hH8 hH4 hH1
  simp only [vI, List.map_cons, List.map_nil, List.length_cons, List.length_nil, Nat.zero_add, Nat.reduceAdd, sgs] at c9 sm8
  simp only [List.length_append, List.length_cons, List.length_nil, Nat.zero_add] at *
  rw [call_eq find130 _ _ _ rfl]
  cases an <;> cases ab <;> (try simp -implicitDefEqProofs only [sgs, sgn] at c3 c5 r4 w9 r10 sm5 sm6 sm7 sm8 sm9 sm10) <;> simp -implicitDefEqProofs only [v130, VMs, noRef, noRef1, isRef, List.all_cons, List.all_nil, vop, VOp.still, VOp.app, VOp.plain, allP, lof, evs, start, asI, vbin, vcells, ntup, setAll, vfill, vress, vres, tup, Nat.reduceEqDiff, ↓reduceIte, Nat.reduceAdd, Nat.reduceMul, Nat.reduceLeDiff, reduceCtorEq, List.getElem?_toArray, c2, c3, hle3, vdD, qats, qat, Option.map_some, zn, zx, gO_, gA_, gQ_, r4, sm5, sm6, sm7, sm8, sm9, sm10, h50, Nat.reduceBEq, c5, c6, c7, c9, w9, r10]
end Go.Proofs.Ytmcljallamhccaa.V
/-! What the bytes draw for SetTree and ClearTree. -/
namespace Go.Proofs.Ytmcljallamhccaa.V
open Go
set_option linter.unusedVariables false
set_option linter.unusedSimpArgs false
set_option maxRecDepth 100000
theorem DT.from {H0 H1 H : Hp} {an nn ab nb F} (h : DT H1 H an nn ab nb F) (f : Fn H0 H1) : DT H0 H an nn ab nb F := by
  obtain ⟨S, T, o, g⟩ := h.fo
  exact ⟨f.trans h.f, ⟨S, T, o.lo f.len, fun i hi => Nat.le_trans f.len (g i hi)⟩, h.sf⟩
/-- A byte ahead of a code. -/
theorem app_code {lo : Nat} {H : Hp} {i : Nat} {ac : Option Addr} {code : List Int} {x : Int} (hb : H.blk i = some ⟨[.int .u8 x], true, false⟩) (hlo : lo ≤ i) (hc : Rep EY 1 H ac code.length code) (hn : code.length ≤ 1048576) :
    ∃ a H', vappend 1 1 lo H (.slice (some ⟨i, 0, none⟩) 1 1) (.slice ac code.length (sg ac 1)) = some (.slice a (x :: code).length (sg a 1), H') ∧ Fw (· = i) H H' ∧ Rep EY 1 H' a (x :: code).length (x :: code) := by
  have hcell := hc.cellsY
  by_cases h0 : code = []
  · subst h0
    refine ⟨some ⟨i, 0, none⟩, H, ?_, Fw.refl, repY (ks := [x]) hb⟩
    have hf : fits (1 + 0) 1 = true := fits_small (by omega)
    unfold vappend
    simp only [slen, List.length_nil, Option.bind_some, hb]
    simp only [List.length_nil] at hcell
    simp only [hcell, Option.bind_some, Blk.app, Nat.one_ne_zero, if_false, List.length_cons, List.length_nil, Nat.zero_add, Nat.mul_one, and_self, true_and, hf, if_true, sgs]
  · have hl : 0 < code.length := List.length_pos_iff.2 h0
    have hf : fits (1 + code.length) 1 = true := by
      unfold fits maxLen
      rw [Bool.and_eq_true, decide_eq_true_eq, decide_eq_true_eq]
      omega
    obtain ⟨H', h1, h2, h3, h4, h5⟩ := app_own (st := 1) (by_ := 1) (lo := lo) (m := code.length) hb rfl (fun e => by cases e) hlo rfl hcell hl hf
    refine ⟨some ⟨H.length, 0, none⟩, H', ?_, ⟨by omega, fun j hj hs => h5 j hs hj⟩, repY (ks := x :: code) (by rw [h2]; rfl)⟩
    rw [h1, List.length_cons, Nat.add_comm]
    rfl
set_option maxHeartbeats 4000000 in
theorem drawSet_c (d lo : Nat) (H : Hp) {ac : Option Addr} {code : List Int} (hc : Rep EY 1 H ac code.length code) (hy : ∀ x ∈ code, 0 ≤ x ∧ x ≤ 255) (hn : code.length ≤ 1048576) :
    ∃ an nn ab nb F root p data H', vcall env (d + 10) 72 [.slice ac code.length (sg ac 1)] lo H = some (.tuple #[.agg #[.slice an nn (sg an 3), .slice ab nb (sg ab 2)], .int .i64 root, .int .i64 p, .int .i64 data], H') ∧ DT H H' an nn ab nb F := by
  obtain ⟨H1, hH1⟩ : ∃ H1 : Hp, H1 = H ++ [some ⟨[.slice none 0 0, .slice none 0 0], true, false⟩] := ⟨_, rfl⟩
  have f1 : Fn H H1 := hH1 ▸ Fr.app
  have l1 : H1.length = H.length + 1 := by rw [hH1]; simp
  have b1 : H1.blk H.length = some ⟨[.slice none 0 0, .slice none 0 0], true, false⟩ := by rw [hH1]; exact blk0
  obtain ⟨an, nn, ab, nb, F, root, p, H2, c2, dt⟩ := l4At_c d H.length H1 (hc.fnY f1) hy (by omega)
  have l2 := dt.f.len
  have hle2 : (H.length ≤ H2.length) = True := eq_true (by omega)
  obtain ⟨H3, hH3⟩ : ∃ H3 : Hp, H3 = H2 ++ [some ⟨[.slice an nn (sg an 3), .slice ab nb (sg ab 2)], true, false⟩, some ⟨[.int .u8 3], true, false⟩] := ⟨_, rfl⟩
  have f3 : Fn H2 H3 := hH3 ▸ Fr.app
  have l3 : H3.length = H2.length + 2 := by rw [hH3]; simp
  have b3 : H3.blk H2.length = some ⟨[.slice an nn (sg an 3), .slice ab nb (sg ab 2)], true, false⟩ := by rw [hH3]; exact blk0
  have e3 : H3.blk (H2.length + 1) = some ⟨[.int .u8 3], true, false⟩ := by rw [hH3]; exact blkn 1
  obtain ⟨a4, H4, c4, w4, rc4⟩ := app_code (lo := H.length) e3 (by omega) (((hc.fnY f1).fnY dt.f).fnY f3) hn
  have f24 : Fn H2 H4 := w4.fn f3 (fun i e => by omega)
  have l4 := w4.len
  obtain ⟨H5, c5, f5, l5, s5⟩ := l1Source_c (d + 8) H.length H4 rc4 (fun x hx => by
    rcases List.mem_cons.1 hx with e | e
    · rw [e]; omega
    · exact hy x e) (by rw [List.length_cons]; omega)
  have f25 := f24.trans f5
  have b5 : H5.blk H2.length = some ⟨[.slice an nn (sg an 3), .slice ab nb (sg ab 2)], true, false⟩ := (f5.blk _ (by omega) id).trans ((w4.blk _ (by omega) (by omega)).trans b3)
  have r5 : rdN (kill [H4.length, H.length] H5) ⟨H2.length, 0, none⟩ 2 = some [.slice an nn (sg an 3), .slice ab nb (sg ab 2)] := by
    rw [rdN_kill (by simp; omega)]; simp [rdN, b5]
  have c6 := l1Next_c (d + 8) H.length H5 s5 (by omega) (by omega) 256
  have sm6 : Same [H4.length, H.length] H5 (srcB H5 H4.length a4 (3 :: code) (0 + 1)) := (Same.src H5 H4.length a4 (3 :: code) (0 + 1)).more (by simp)
  obtain ⟨s6, f6, l6⟩ := s5.next (0 + 1)
  generalize srcB H5 H4.length a4 (3 :: code) (0 + 1) = H6 at *
  have c7 := l1Next_c (d + 8) H.length H6 s6 (by omega) (by omega) 256
  have sm7 : Same [H4.length, H.length] H5 (srcB H6 H4.length a4 (3 :: code) (0 + 1 + 1)) := sm6.trans ((Same.src H6 H4.length a4 (3 :: code) (0 + 1 + 1)).more (by simp))
  obtain ⟨s7, f7, l7⟩ := s6.next (0 + 1 + 1)
  generalize srcB H6 H4.length a4 (3 :: code) (0 + 1 + 1) = H7 at *
  generalize nextV (3 :: code) 0 256 = v1 at *
  generalize nextV (3 :: code) (0 + 1) 256 = v2 at *
  obtain ⟨H8, hH8⟩ : ∃ H8 : Hp, H8 = H7 ++ [some ⟨vI [v1, v2, 256, -1], true, false⟩] := ⟨_, rfl⟩
  have f8 : Fn H7 H8 := hH8 ▸ Fr.app
  have sm8 : Same [H4.length, H.length] H5 H8 := sm7.trans (hH8 ▸ Same.app _)
  have rp : Rep EI 1 H8 (some ⟨H7.length, 0, none⟩) [v1, v2, 256, -1].length [v1, v2, 256, -1] := repI (by rw [hH8]; exact blk0)
  have hq7 := blk_lt s7.b
  have c9 := l1Pick_c (d + 7) H.length H8 (s7.fn f8) (by omega) (by omega) rp (by simp) (fun i hi => by obtain ⟨o, e⟩ := hi; simp only [Option.some.injEq, Addr.mk.injEq] at e; omega)
  have sm9 : Same [H4.length, H.length] H5 (srcB H8 H4.length a4 (3 :: code) (0 + 1 + 1 + 1)) := sm8.trans ((Same.src H8 H4.length a4 (3 :: code) (0 + 1 + 1 + 1)).more (by simp))
  obtain ⟨s9, f9, l9⟩ := (s7.fn f8).next (0 + 1 + 1 + 1)
  generalize srcB H8 H4.length a4 (3 :: code) (0 + 1 + 1 + 1) = H9 at *
  generalize pickV (3 :: code) (0 + 1 + 1) [v1, v2, 256, -1] = w at *
  have f59 : Fr (· = H4.length) H5 H9 := ((f6.trans f7).trans (f8.mono fun _ => False.elim)).trans f9
  have l89 := f8.len
  have b9 : H9.blk H.length = some ⟨[.slice none 0 0, .slice none 0 0], true, false⟩ := (f59.blk _ (by omega) (by omega)).trans ((f25.blk _ (by omega) id).trans ((dt.f.blk _ (by omega) id).trans b1))
  have w9 := wr_setB (lo := H.length) b9 (Nat.le_refl _) [.slice an nn (sg an 3), .slice ab nb (sg ab 2)] rfl
  have sm10 : Same [H4.length, H.length] H5 (setB H9 H.length [.slice an nn (sg an 3), .slice ab nb (sg ab 2)]) := sm9.trans ((Same.setB _ _ _).more (by simp))
  have r10 := rdN_setB b9 2 [.slice an nn (sg an 3), .slice ab nb (sg ab 2)] rfl
  have f10 := Fr.setB b9 [.slice an nn (sg an 3), .slice ab nb (sg ab 2)]
  generalize setB H9 H.length [.slice an nn (sg an 3), .slice ab nb (sg ab 2)] = H10 at *
  have dt : DT H H10 an nn ab nb F := by
    have f210 : Fr (fun i => i = H4.length ∨ i = H.length) H2 H10 := ((f25.mono fun _ => False.elim).trans (f59.mono fun i e => Or.inl e)).trans (f10.mono fun i e => Or.inr e)
    obtain ⟨S, T, o, g⟩ := dt.fo
    have hb2 : ∀ i, S i ∨ T i → i < H2.length := o.lt
    have o' := o.fr (U := fun i => i = H4.length ∨ i = H.length) (fun i hi e => by have := g i hi; have := hb2 i hi; omega) f210
    exact ⟨f210.w.fn (f1.trans dt.f) (fun i e => by omega), ⟨S, T, o'.lo (by omega), fun i hi => by have := g i hi; omega⟩, dt.sf⟩
  refine ⟨an, nn, ab, nb, F, root, p, w, _, ?_, dt.done⟩
  subst hH8 hH3 hH1
  simp only [vI, List.map_cons, List.map_nil, List.length_cons, List.length_nil, Nat.zero_add, Nat.reduceAdd, sgs] at c9 sm8
  simp only [List.length_append, List.length_cons, List.length_nil, Nat.zero_add] at *
  rw [call_eq find72 _ _ _ rfl]
  cases an <;> cases ab <;> (try simp -implicitDefEqProofs only [sgs, sgn] at c2 c4 c6 r5 w9 r10 sm6 sm7 sm8 sm9 sm10) <;> simp -implicitDefEqProofs only [v72, VMs, noRef, noRef1, isRef, List.all_cons, List.all_nil, vop, VOp.still, VOp.app, VOp.plain, allP, lof, evs, start, asI, vbin, vcells, ntup, setAll, vfill, vress, vres, tup, Nat.reduceEqDiff, ↓reduceIte, Nat.reduceAdd, Nat.reduceMul, Nat.reduceLeDiff, reduceCtorEq, List.getElem?_toArray, c2, hle2, c4, c5, vdD, qats, qat, Option.map_some, zn, zx, gO_, gA_, gQ_, r5, sm6, sm7, sm8, sm9, sm10, h40, Nat.reduceBEq, c6, c7, c9, w9, r10]
theorem drawClear_c (d lo : Nat) (H : Hp) {ac : Option Addr} {code : List Int} (hc : Rep EY 1 H ac code.length code) (hy : ∀ x ∈ code, 0 ≤ x ∧ x ≤ 255) (hn : code.length ≤ 1048576) :
    ∃ an nn ab nb F root p H', vcall env (d + 10) 74 [.slice ac code.length (sg ac 1)] lo H = some (.tuple #[.agg #[.slice an nn (sg an 3), .slice ab nb (sg ab 2)], .int .i64 root, .int .i64 p], H') ∧ DT H H' an nn ab nb F := by
  obtain ⟨H1, hH1⟩ : ∃ H1 : Hp, H1 = H ++ [some ⟨[.slice none 0 0, .slice none 0 0], true, false⟩] := ⟨_, rfl⟩
  have f1 : Fn H H1 := hH1 ▸ Fr.app
  have l1 : H1.length = H.length + 1 := by rw [hH1]; simp
  have b1 : H1.blk H.length = some ⟨[.slice none 0 0, .slice none 0 0], true, false⟩ := by rw [hH1]; exact blk0
  obtain ⟨an, nn, ab, nb, F, root, p, H2, c2, dt⟩ := l4At_c d H.length H1 (hc.fnY f1) hy (by omega)
  have l2 := dt.f.len
  have b2 := (dt.f.blk _ (by omega) id).trans b1
  have w9 := wr_setB (lo := H.length) b2 (Nat.le_refl _) [.slice an nn (sg an 3), .slice ab nb (sg ab 2)] rfl
  have r10 := rdN_setB b2 2 [.slice an nn (sg an 3), .slice ab nb (sg ab 2)] rfl
  have f10 := Fr.setB b2 [.slice an nn (sg an 3), .slice ab nb (sg ab 2)]
  generalize setB H2 H.length [.slice an nn (sg an 3), .slice ab nb (sg ab 2)] = H10 at *
  have dt : DT H H10 an nn ab nb F := by
    obtain ⟨S, T, o, g⟩ := dt.fo
    have o' := o.fr (U := (· = H.length)) (fun i hi e => by have := g i hi; omega) f10
    exact ⟨f10.w.fn (f1.trans dt.f) (fun i e => by omega), ⟨S, T, o'.lo (by omega), fun i hi => by have := g i hi; omega⟩, dt.sf⟩
  refine ⟨an, nn, ab, nb, F, root, p, _, ?_, dt.done⟩
  subst hH1
  rw [call_eq find74 _ _ _ rfl]
  cases an <;> cases ab <;> (try simp -implicitDefEqProofs only [sgs, sgn] at c2 w9 r10) <;> simp -implicitDefEqProofs only [v74, VMs, noRef, noRef1, isRef, List.all_cons, List.all_nil, vop, VOp.still, VOp.app, VOp.plain, allP, lof, evs, start, asI, vbin, vcells, ntup, setAll, vfill, vress, vres, tup, Nat.reduceEqDiff, ↓reduceIte, Nat.reduceAdd, Nat.reduceMul, Nat.reduceLeDiff, reduceCtorEq, List.getElem?_toArray, c2, w9, r10]
end Go.Proofs.Ytmcljallamhccaa.V
/-! LookTree without its law; lists alike. -/
namespace Go.Proofs.Ytmcljallamhccaa.V
open Go
set_option linter.unusedVariables false
set_option linter.unusedSimpArgs false
set_option maxRecDepth 100000
def lookC (F : Fo) (root at_ : Int) : Int := if askF F root (decide (0 ≤ at_ ∧ at_ ≤ 15)) = 0 then (if blkOf F root at_.toNat = -1 then 4 else 0) else askF F root (decide (0 ≤ at_ ∧ at_ ≤ 15))
def lookV (F : Fo) (root at_ : Int) : Int := if askF F root (decide (0 ≤ at_ ∧ at_ ≤ 15)) = 0 then (if blkOf F root at_.toNat = -1 then 0 else ((F.b[(blkOf F root at_.toNat).toNat]?).map Bk.d).getD 0) else 0
theorem implLookTree_c (d lo : Nat) (H : Hp) {an nn ab nb F} (h : RF H an nn ab nb F) (hs : SF F) (root at_ : Int) :
    vcall env (d + 8) 57 [.agg #[.slice an nn (sg an 3), .slice ab nb (sg ab 2)], .int .i64 root, .int .i64 at_] lo H = some (.agg #[.int .i64 (lookC F root at_), .int .i64 (lookV F root at_)], H) := by
  have n2 := h.b.1
  have hp := fun l => (show PF (H ++ (some ⟨[.slice an nn (sg an 3), .slice ab nb (sg ab 2)], true, false⟩ :: l)) H.length 0 an nn ab nb F from ⟨by simp [rd0], by simp [rd0], h.app⟩)
  have c1 := fun l => forestCode_c d H.length (H ++ l) h.app hs root (decide (0 ≤ at_ ∧ at_ ≤ 15))
  have q1 := fun l => (hp l).rdN
  rw [call_eq find57 _ _ _ rfl]
  unfold lookC lookV
  by_cases h0 : askF F root (decide (0 ≤ at_ ∧ at_ ≤ 15)) = 0
  · obtain ⟨g, hr, hf, _⟩ := ask_zero h0
    obtain ⟨p, rfl⟩ : ∃ p : Nat, at_ = p := ⟨at_.toNat, by have := of_decide_eq_true hf; omega⟩
    have hp15 : p ≤ 15 := by have := of_decide_eq_true hf; omega
    have ht : ∀ d lo H, vcall env (d + 2) 115 [.int .i64 (p : Int)] lo H = some (.bool true, H) := fun d lo H => (isTreePlace_c d lo H (p : Int)).trans (by rw [hf])
    rw [hf] at c1 h0 ⊢
    have c2 := fun l => block_c (d + 5) H.length _ (hp l) g root hr p hp15
    rw [h0] at c1
    rcases blk_at (blkOf_ok g hr hp15) with hb | ⟨j, hj, hb, _⟩
    · rw [hb] at c2
      simp -implicitDefEqProofs only [v57, VMs, noRef, noRef1, isRef, List.all_cons, List.all_nil, vop, VOp.still, VOp.app, VOp.plain, allP, lof, evs, start, asI, vbin, vcells, ntup, setAll, vfill, vress, vres, tup, Nat.reduceEqDiff, ↓reduceIte, Nat.reduceAdd, Nat.reduceMul, Nat.reduceLeDiff, reduceCtorEq, vdr, ht, q1, c1, h0, bne_self_eq_false, c2, beq_self_eq_true, hb, Int.toNat_natCast]
    · have hd : ((j : Int) == -1) = false := by rw [beq_eq_false_iff_ne]; omega
      have hne : ((j : Int) = -1) = False := eq_false (by omega)
      have hjn : j < nb := by omega
      obtain ⟨p0, po, rfl, e⟩ := h.b.at hj
      have e2 := fun l => (e.app (l := l)).2
      rw [hb] at c2
      simp only [sgs] at c1 c2 q1
      simp -implicitDefEqProofs only [v57, VMs, noRef, noRef1, isRef, List.all_cons, List.all_nil, vop, VOp.still, VOp.app, VOp.plain, allP, lof, evs, start, asI, vbin, vcells, ntup, setAll, vfill, vress, vres, tup, Nat.reduceEqDiff, ↓reduceIte, Nat.reduceAdd, Nat.reduceMul, Nat.reduceLeDiff, reduceCtorEq, vdr, ht, q1, c1, h0, bne_self_eq_false, c2, hd, hb, hne, Int.toNat_natCast, ltc hjn, ge0, e2, getE hj, Option.map_some, Option.getD_some]
  · have h0' : (askF F root (decide (0 ≤ at_ ∧ at_ ≤ 15)) != 0) = true := by simp only [bne_iff_ne]; exact h0
    simp -implicitDefEqProofs only [v57, VMs, noRef, noRef1, isRef, List.all_cons, List.all_nil, vop, VOp.still, VOp.app, VOp.plain, allP, lof, evs, start, asI, vbin, vcells, ntup, setAll, vfill, vress, vres, tup, Nat.reduceEqDiff, ↓reduceIte, Nat.reduceAdd, Nat.reduceMul, Nat.reduceLeDiff, reduceCtorEq, vdr, isTreePlace_c, q1, c1, h0, h0']
theorem FO.rf {lo : Nat} {H : Hp} {S T : Nat → Prop} {an nn ab nb F} (h : FO lo H S T an nn ab nb F) : RF H an nn ab nb F := h.rfs.rf
theorem lwNums_c (d lo : Nat) (H : Hp) {a b : Option Addr} {l : List Int} (h : Rep EI 1 H a l.length l) (h' : Rep EI 1 H b l.length l) (hs : Sm l.length) :
    vcall env (d + 1) 73 [.slice a l.length (sg a 1), .slice b l.length (sg b 1)] lo H = some (.bool true, H) := by
  have hloop := fun lo' => lim_up (f := rnd (vcall env d) lo' [0, 1, 5] [4] l73_0) (r := (.exit 0, [], H)) (by simp)
    (fun i => [(0, .slice a l.length (sg a 1)), (1, .slice b l.length (sg b 1)), (5, .int .i64 (i : Nat))]) (fun _ => H) l.length
    (by simp -implicitDefEqProofs only [rnd, l73_0, VMs, noRef, noRef1, isRef, List.all_cons, List.all_nil, vop, VOp.still, VOp.app, VOp.plain, allP, lof, evs, start, asI, vbin, vcells, ntup, setAll, vfill, vress, vres, tup, Nat.reduceEqDiff, ↓reduceIte, Nat.reduceAdd, Nat.reduceMul, Nat.reduceLeDiff, reduceCtorEq, slen, Int.lt_irrefl, decide_false])
    (fun i hi => by
      obtain ⟨p, o, rfl, e⟩ := h.at hi
      obtain ⟨p', o', rfl, e'⟩ := h'.at hi
      simp only [EI, Nat.mul_one] at e e'
      simp -implicitDefEqProofs only [rnd, l73_0, VMs, noRef, noRef1, isRef, List.all_cons, List.all_nil, vop, VOp.still, VOp.app, VOp.plain, allP, lof, evs, start, asI, vbin, vcells, ntup, setAll, vfill, vress, vres, tup, Nat.reduceEqDiff, ↓reduceIte, Nat.reduceAdd, Nat.reduceMul, Nat.reduceLeDiff, reduceCtorEq, vdr, slen, ltc hi, ge0, decide_true, Int.toNat_natCast, Nat.mul_one, e, e', bne_self_eq_false, hs.w hi])
  simp only [Int.natCast_zero] at hloop
  rw [call_eq find73 _ _ _ rfl]
  simp -implicitDefEqProofs only [v73, VMs, noRef, noRef1, isRef, List.all_cons, List.all_nil, vop, VOp.still, VOp.app, VOp.plain, allP, lof, evs, start, asI, vbin, vcells, ntup, setAll, vfill, vress, vres, tup, Nat.reduceEqDiff, ↓reduceIte, Nat.reduceAdd, Nat.reduceMul, Nat.reduceLeDiff, reduceCtorEq, slen, bne_self_eq_false, vlp, hloop]
end Go.Proofs.Ytmcljallamhccaa.V
/-! What the law of trees asks, of the forests alone. -/
namespace Go.Proofs.Ytmcljallamhccaa.V
open Go
set_option linter.unusedVariables false
set_option linter.unusedSimpArgs false
set_option maxRecDepth 100000
theorem more_lives {F : Fo} {j : Nat} (hj : j < F.n.length) : Lives F ⟨F.n.set j ⟨F.n[j].r + 1, F.n[j].f, F.n[j].k⟩, F.b⟩ := ⟨fun i x hx hr => by
  by_cases h : j = i
  · subst h
    rw [getE hj] at hx; cases hx
    exact ⟨F.n[j].r + 1, by simp [List.getElem?_set, hj], by omega⟩
  · exact ⟨x.r, by simp only; rw [List.getElem?_set, if_neg h]; exact hx, hr⟩, fun i x hx hr => ⟨x.r, hx, hr⟩⟩
theorem look_eq {F : Fo} (hi : Inv F z0 z0) {root : Int} (hr : RootOK F root) (p : Nat) (hp : p ≤ 15) : lookC F root (p : Int) = (if blkOf F root p = -1 then 4 else 0) ∧ lookV F root (p : Int) = (if blkOf F root p = -1 then 0 else datF F (blkOf F root p)) := by
  unfold lookC lookV
  rw [if_pos (look_ok hi hr p hp), if_pos (look_ok hi hr p hp), Int.toNat_natCast]
  exact ⟨rfl, rfl⟩
theorem walk_eq {F : Fo} (hi : Inv F z0 z0) {root : Int} (hr : RootOK F root) : walkC F root = 0 ∧ walkR F root = walkL F root 16 := by
  unfold walkC walkR
  rw [if_pos (ask_true hi hr)]
  exact ⟨ask_true hi hr, rfl⟩
structure TrR (F0 F1 F2 F3 : Fo) (root at_ data : Int) (p m : Nat) : Prop where
  at_ : at_ = (p : Int) ∧ p ≤ 15
  look : ∀ q : Nat, q ≤ 15 → q ≠ p → lookC F2 (m : Int) (q : Int) = lookC F1 root (q : Int) ∧ lookV F2 (m : Int) (q : Int) = lookV F1 root (q : Int)
  lookp : lookC F2 (m : Int) (p : Int) = 0 ∧ lookV F2 (m : Int) (p : Int) = data
  f2 : fF F2 = 0
  f3 : fF F3 = 0
  w0 : walkC F0 root = 0
  w2 : walkR F2 root = walkR F0 root
  w3 : walkR F3 root = walkR F0 root
  wl : (walkR F0 root).length ≤ 32
  d : resDropTree F2 (m : Int) = (0, -1, F3)
  s3 : SF F3
theorem tr_of {F0 : Fo} {root at_ data : Int} (h1 : (resShareTree F0 root).1 = 0) (h2 : (resSetTree (resShareTree F0 root).2.2 root at_ data).1 = 0) :
    ∃ (p m : Nat) (F3 : Fo), (resSetTree (resShareTree F0 root).2.2 root at_ data).2.1 = (m : Int) ∧ TrR F0 (resShareTree F0 root).2.2 (resSetTree (resShareTree F0 root).2.2 root at_ data).2.2 F3 root at_ data p m := by
  obtain ⟨i0, r0, hs⟩ := resShareTree_at h1
  have i1 := resShareTree_inv h1
  obtain ⟨l01, na⟩ : Lives F0 (resShareTree F0 root).2.2 ∧ aloneF (resShareTree F0 root).2.2 root = false := by
    rcases hs with ⟨rfl, e⟩ | ⟨j, hj, rfl, hf, ha, hb, e⟩
    · rw [e]; exact ⟨Lives.refl _, by unfold aloneF; rw [if_pos rfl]⟩
    · rw [e]
      refine ⟨more_lives hj, ?_⟩
      unfold aloneF
      rw [if_neg (by omega), Int.toNat_natCast]
      simp only [List.getElem?_set, if_true, List.length_set, hj, Option.map_some, Option.getD_some]
      exact beq_eq_false_iff_ne.2 (by omega)
  generalize (resShareTree F0 root).2.2 = F1 at *
  have r1 := l01.root i0 r0
  obtain ⟨p, rfl, hp, _, _, hd, hsl, e⟩ := resSetTree_at h2
  rw [e] at h2 ⊢
  generalize hR : resPut (takeF F1 data) root p (slotB F1.b : Int) = R at *
  obtain ⟨c, r, F2⟩ := R
  simp only at h2
  subst h2
  obtain ⟨m, rfl, sr⟩ := setR_of i1 r1 na hp hd hsl hR
  have r2 := sr.old.root i1 r1
  obtain ⟨i3, r3, w3⟩ := drop_walk sr.inv r2 sr.new sr.ne
  have g1 := good_of i1.fF
  refine ⟨p, m, lessR F2 m, rfl, ⟨rfl, hp⟩, fun q hq hqp => ?_, ?_, sr.inv.fF, i3.fF, (walk_eq i0 r0).1, ?_, ?_, ?_, ?_, i3.sml.sf⟩
  · obtain ⟨a1, a2⟩ := look_eq sr.inv sr.new q hq
    obtain ⟨b1, b2⟩ := look_eq i1 r1 q hq
    have e := sr.blk q hq
    rw [if_neg hqp] at e
    rw [a1, a2, b1, b2, e]
    by_cases h0 : blkOf F1 root q = -1
    · simp only [h0, if_true]; exact ⟨trivial, trivial⟩
    · rw [if_neg h0, if_neg h0, if_neg h0]
      exact ⟨rfl, sr.old.dat (blkOf_ok g1 (r1.b i1) hq) h0⟩
  · obtain ⟨a1, a2⟩ := look_eq sr.inv sr.new p hp
    have e := sr.blk p hp
    rw [if_pos rfl] at e
    rw [a1, a2, e, if_neg (by omega), if_neg (by omega)]
    exact ⟨rfl, sr.dat⟩
  · rw [(walk_eq sr.inv r2).2, (walk_eq i0 r0).2]
    exact (l01.trans sr.old).walk i0 r0
  · rw [(walk_eq i3 r3).2, (walk_eq i0 r0).2, w3]
    exact (l01.trans sr.old).walk i0 r0
  · rw [(walk_eq i0 r0).2]; have := walkL_len F0 root 16; omega
  · unfold resDropTree
    rw [if_pos (ask_true sr.inv sr.new), if_neg (by omega), Int.toNat_natCast]
end Go.Proofs.Ytmcljallamhccaa.V
/-! What clearing a place makes, of the forests alone. -/
namespace Go.Proofs.Ytmcljallamhccaa.V
open Go
set_option linter.unusedVariables false
set_option linter.unusedSimpArgs false
set_option maxRecDepth 100000
/-- What blocks are referred to were so before, with the data of before. -/
structure BB (F F' : Fo) : Prop where
  l : F'.b.length = F.b.length
  b : ∀ (i : Nat) x, F'.b[i]? = some x → 0 < x.r → ∃ r, F.b[i]? = some ⟨r, x.d⟩ ∧ 0 < r
theorem BB.refl (F : Fo) : BB F F := ⟨rfl, fun i x h hr => ⟨x.r, h, hr⟩⟩
theorem BB.trans {F F' F'' : Fo} (h : BB F F') (h' : BB F' F'') : BB F F'' := ⟨h'.l.trans h.l, fun i x hx hr => let ⟨r, h1, h2⟩ := h'.b i x hx hr; h.b i ⟨r, x.d⟩ h1 h2⟩
theorem BB.same {F F' : Fo} (h : F'.b = F.b) : BB F F' := ⟨by rw [h], fun i x hx hr => ⟨x.r, by rw [← h]; exact hx, hr⟩⟩
theorem dropBs_blen : ∀ (ks : List Int) (B : List Bk), (ks.foldl dropB B).length = B.length
  | [], B => rfl
  | k :: ks, B => by rw [List.foldl_cons, dropBs_blen ks, dropB_len]
theorem lessL_blen (F : Fo) (j : Nat) : (lessL F j).b.length = F.b.length := by
  unfold lessL
  cases F.n[j]? with
  | none => rfl
  | some x =>
    simp only
    split
    · rfl
    · exact dropBs_blen _ _
theorem lessK_blen (F : Fo) (k : Int) : (lessK F k).b.length = F.b.length := by
  unfold lessK
  split
  · rfl
  · exact lessL_blen _ _
theorem lessKs_blen : ∀ (ks : List Int) (F : Fo), (ks.foldl lessK F).b.length = F.b.length
  | [], F => rfl
  | k :: ks, F => by rw [List.foldl_cons, lessKs_blen ks, lessK_blen]
theorem lessR_blen (F : Fo) (j : Nat) : (lessR F j).b.length = F.b.length := by
  unfold lessR
  cases F.n[j]? with
  | none => rfl
  | some x =>
    simp only
    split
    · rfl
    · exact lessKs_blen _ _
theorem lessK_bb (F : Fo) (k : Int) : BB F (lessK F k) := ⟨lessK_blen F k, (lessK_back F k).b⟩
theorem lessR_bb (F : Fo) (j : Nat) : BB F (lessR F j) := ⟨lessR_blen F j, (lessR_back F j).b⟩
theorem moreK_b_same {F F' : Fo} {k : Int} (h : moreK false F k = some F') : F'.b = F.b := by
  unfold moreK at h
  by_cases h0 : k < 0
  · rw [if_pos h0] at h; cases h; rfl
  · rw [if_neg h0, if_neg (by simp)] at h
    cases hx : F.n[k.toNat]? with
    | none => rw [hx] at h; cases h
    | some x =>
      rw [hx] at h
      simp only at h
      split at h
      · cases h
      · cases h; rfl
theorem moreAll_b_same : ∀ (ks : List Int) (F F' : Fo), moreAll false F ks = some F' → F'.b = F.b
  | [], F, F', hm => by rw [moreAll_nil] at hm; cases hm; rfl
  | k :: ks, F, F', hm => by
    rw [moreAll_cons] at hm
    obtain ⟨G, h1, h2⟩ := Option.bind_eq_some_iff.1 hm
    rw [moreAll_b_same ks G F' h2, moreK_b_same h1]
def LiveB (F : Fo) (k : Int) : Prop := k < 0 ∨ ∃ x, F.b[k.toNat]? = some x ∧ 0 < x.r
theorem moreK_bb {F F' : Fo} {k : Int} (hk : LiveB F k) (h : moreK true F k = some F') : BB F F' ∧ ∀ j, LiveB F j → LiveB F' j := by
  unfold moreK at h
  by_cases h0 : k < 0
  · rw [if_pos h0] at h; cases h; exact ⟨BB.refl _, fun _ => id⟩
  · rw [if_neg h0, if_pos rfl] at h
    obtain ⟨x, hx, hr⟩ := hk.resolve_left h0
    rw [hx] at h
    simp only at h
    split at h
    · cases h
    · cases h
      obtain ⟨hl, e⟩ := List.getElem?_eq_some_iff.1 hx
      refine ⟨⟨by simp, fun i y hy hyr => ?_⟩, fun j hj => ?_⟩
      · simp only [List.getElem?_set] at hy
        by_cases hi : k.toNat = i
        · rw [if_pos hi, if_pos (by omega)] at hy
          cases hy
          exact ⟨x.r, by rw [← hi]; exact hx, hr⟩
        · rw [if_neg hi] at hy
          exact ⟨y.r, hy, hyr⟩
      · rcases hj with hj | ⟨y, hy, hyr⟩
        · exact Or.inl hj
        · by_cases hi : k.toNat = j.toNat
          · exact Or.inr ⟨⟨x.r + 1, x.d⟩, by simp only [List.getElem?_set]; rw [if_pos hi, if_pos (by omega)], by simp only; omega⟩
          · exact Or.inr ⟨y, by simp only [List.getElem?_set]; rw [if_neg hi]; exact hy, hyr⟩
theorem moreAll_bb : ∀ (ks : List Int) (F F' : Fo), (∀ k ∈ ks, LiveB F k) → moreAll true F ks = some F' → BB F F'
  | [], F, F', _, hm => by rw [moreAll_nil] at hm; cases hm; exact BB.refl _
  | k :: ks, F, F', hk, hm => by
    rw [moreAll_cons] at hm
    obtain ⟨G, h1, h2⟩ := Option.bind_eq_some_iff.1 hm
    obtain ⟨b1, b2⟩ := moreK_bb (hk k List.mem_cons_self) h1
    exact b1.trans (moreAll_bb ks G F' (fun j hj => b2 j (hk j (List.mem_cons_of_mem _ hj))) h2)
theorem noK_get {ks : List Int} (h : noK ks = true) (i : Nat) : (ks[i]?).getD (-1) = -1 := by
  cases hx : ks[i]? with
  | none => rfl
  | some x => exact noK_all h x (List.mem_of_getElem? hx)
theorem kidOf_set {F : Fo} {j : Nat} {y : Nd} (B : List Bk) {k : Int} (h0 : k = -1 ∨ 0 ≤ k) (h : k ≠ (j : Int)) (i : Nat) : kidOf ⟨F.n.set j y, B⟩ k i = kidOf F k i := by
  unfold kidOf
  rcases h0 with h0 | h0
  · rw [if_pos h0, if_pos h0]
  · rw [if_neg (by omega), if_neg (by omega)]
    simp only [List.getElem?_set]
    rw [if_neg (by omega)]
theorem LeafOK.ne {F : Fo} {k : Int} (h : LeafOK F k) {j : Nat} (hj : j < F.n.length) (hf : F.n[j].f = false) : k ≠ (j : Int) := by
  rcases h with rfl | ⟨i, hi, rfl, hif⟩
  · omega
  · intro e
    obtain rfl : i = j := by omega
    rw [hf] at hif; cases hif
/-- What the step at the root makes. -/
theorem setRoot_clr {F F' : Fo} {root leaf r : Int} {p : Nat} (h : Inv F z0 (kI leaf)) (hr : RootOK F root) (hl : LeafOK F leaf) (hp : p < 4) (hs : setRootF F root p leaf = some (r, F')) :
    Inv F' z0 z0 ∧ RootOK F' r ∧ BB F F' ∧ ∀ q, q ≤ 15 → blkOf F' r q = if q / 4 = p then kidOf F leaf (q % 4) else blkOf F root q := by
  have hF' := setRoot_inv h hr hl hp hs
  have k4 := kids4 h hr
  refine ⟨hF', ?_⟩
  by_cases hn : noK (withK (kidsF F root) p leaf) = true
  · rw [setRootF_n hn] at hs
    cases hs
    obtain rfl := noK_leaf k4 hp hn
    refine ⟨Or.inl rfl, ?_, fun q hq => ?_⟩
    · split
      · exact BB.refl _
      · exact lessR_bb _ _
    · have e1 : ∀ G : Fo, blkOf G (-1) q = -1 := fun G => rfl
      rw [e1]
      by_cases hq4 : q / 4 = p
      · rw [if_pos hq4, kidOf_m]
      · rw [if_neg hq4]
        have e2 := withK_get (-1) k4 hp (show q / 4 < 4 by omega)
        rw [noK_get hn, if_neg hq4, ← kidOf_kids] at e2
        unfold blkOf
        rw [← e2, kidOf_m]
  replace hn := eq_false_of_ne_true hn
  by_cases ha : aloneF F root = true
  · rw [setRootF_a hn ha] at hs
    cases hs
    rcases hr with rfl | ⟨j, hj, rfl, hf, hrr⟩
    · rw [aloneF_m] at ha; cases ha
    have hro : RootOK F (j : Int) := Or.inr ⟨j, hj, rfl, hf, hrr⟩
    rw [Int.toNat_natCast] at hF' ⊢
    have hk0 := kidLeaf h hro hp
    have hkn := hk0.ne hj hf
    generalize hG : (⟨F.n.set j ⟨1, false, withK (kidsF F (j : Int)) p leaf⟩, F.b⟩ : Fo) = G at *
    have hGj : G.n[j]? = some ⟨1, false, withK (kidsF F (j : Int)) p leaf⟩ := by rw [← hG]; simp [hj]
    have eF := (lessK_oth G (kidOf F (j : Int) p) j hkn).trans hGj
    obtain ⟨hj', ej⟩ := List.getElem?_eq_some_iff.1 eF
    have hroot : RootOK (lessK G (kidOf F (j : Int) p)) (j : Int) := Or.inr ⟨j, hj', rfl, by rw [ej], by rw [ej]; simp only; omega⟩
    have hkid : ∀ k, LeafOK F k → ∀ i, kidOf G k i = kidOf F k i := fun k hk i => by rw [← hG]; exact kidOf_set _ hk.ge (hk.ne hj hf) i
    refine ⟨hroot, (BB.same (by rw [← hG])).trans (lessK_bb G _), fun q hq => ?_⟩
    rw [← (lessK_back G (kidOf F (j : Int) p)).blk hF' hroot q hq]
    unfold blkOf
    rw [kid_at hGj, withK_get leaf k4 hp (by omega), ← kidOf_kids]
    by_cases hq4 : q / 4 = p
    · rw [if_pos hq4, if_pos hq4, hkid leaf hl]
    · rw [if_neg hq4, if_neg hq4, hkid _ (kidLeaf h hro (by omega))]
  replace ha := eq_false_of_ne_true ha
  rw [setRootF_f hn ha] at hs
  obtain ⟨⟨m2, G2⟩, h3, h4⟩ := Option.map_eq_some_iff.1 hs
  cases h4
  obtain ⟨hs2, hme2, hm2⟩ := freshF_some h3
  have lG2 : Lives (putF1 F false (withK (kidsF F root) p leaf)) G2 := moreAll_lives _ _ _ hm2
  obtain ⟨r2, hroot2, hr2⟩ := lG2.n m2 ⟨1, false, withK (kidsF F root) p leaf⟩ (by rw [hme2]; exact putN_at _ _) (by simp)
  have l12 : Lives F G2 := (put_lives false _).trans lG2
  have hko := kidsOK h hr hl (p := p)
  obtain ⟨_, kp⟩ := freshR_inv h (withK_len k4) (noK_has hn (fun k hk => (hko k hk).ge)) hko (fun i => withK_count leaf k4 hp i) h3
  have l2F : Lives G2 (if root = -1 then G2 else lessR G2 root.toNat) := by
    rcases hr with rfl | ⟨j, hj, rfl, hf, hrr⟩
    · rw [if_pos rfl]; exact Lives.refl _
    · rw [if_neg (by omega), Int.toNat_natCast]
      have hnr := h.nr _ (List.getElem_mem hj)
      rw [aloneF_n hj, beq_eq_false_iff_ne] at ha
      obtain ⟨r3, h5, h6⟩ := kp.2 j _ (getE hj) hrr
      rw [lessR_dec h5 (by simp only; omega)]
      exact dec_lives h5 (by simp only; omega)
  have hbb : BB F (if root = -1 then G2 else lessR G2 root.toNat) := by
    have hb2 : BB F G2 := BB.same (by rw [moreAll_b_same _ _ _ hm2]; rfl)
    split
    · exact hb2
    · exact hb2.trans (lessR_bb _ _)
  have lAll := l12.trans l2F
  obtain ⟨r5, hroot5, hr5⟩ := l2F.n m2 _ hroot2 hr2
  obtain ⟨hm2l, em2⟩ := List.getElem?_eq_some_iff.1 hroot5
  refine ⟨Or.inr ⟨m2, hm2l, rfl, by rw [em2], by rw [em2]; simp only; omega⟩, hbb, fun q hq => ?_⟩
  unfold blkOf
  rw [kid_at hroot5, withK_get leaf k4 hp (by omega), ← kidOf_kids]
  by_cases hq4 : q / 4 = p
  · rw [if_pos hq4, if_pos hq4, lAll.kidL h hl]
  · rw [if_neg hq4, if_neg hq4, lAll.kidL h (kidLeaf h hr (by omega))]
theorem two_count : ∀ {l : List Int} {p q : Nat} {a : Int}, l[p]? = some a → l[q]? = some a → p ≠ q → 2 ≤ l.count a
  | [], p, q, a, h, _, _ => by simp at h
  | x :: r, 0, 0, a, _, _, hne => absurd rfl hne
  | x :: r, 0, q + 1, a, h, h', _ => by
    simp only [List.getElem?_cons_zero, Option.some.injEq] at h
    simp only [List.getElem?_cons_succ] at h'
    subst h
    rw [List.count_cons_self]
    have := List.count_pos_iff.2 (List.mem_of_getElem? h')
    omega
  | x :: r, p + 1, 0, a, h', h, _ => by
    simp only [List.getElem?_cons_zero, Option.some.injEq] at h
    simp only [List.getElem?_cons_succ] at h'
    subst h
    rw [List.count_cons_self]
    have := List.count_pos_iff.2 (List.mem_of_getElem? h')
    omega
  | x :: r, p + 1, q + 1, a, h, h', hne => by
    simp only [List.getElem?_cons_succ] at h h'
    have := two_count h h' (by omega)
    rw [List.count_cons]; omega
/-- A leaf that one root alone refers to, once: no other place of the root holds it. -/
theorem once {F : Fo} {eB : Nat → Int} (hi : Inv F eB z0) {j i : Nat} (hj : j < F.n.length) (hf : F.n[j].f = false) (hjr : F.n[j].r ≠ 0) (hii : i < F.n.length) (hif : F.n[i].f = true) (hir : F.n[i].r = 1) {p q : Nat} (hp : F.n[j].k[p]? = some (i : Int)) (hq : F.n[j].k[q]? = some (i : Int)) : p = q := by
  have h1 := hi.cn i hii hif
  have h2 := nm_le_nmS (List.getElem_mem hj) false (i : Int)
  rw [nm_live hjr hf] at h2
  simp only [z0] at h1
  have h3 : (F.n[j].k.count (i : Int) : Int) ≤ 1 := by omega
  apply Classical.byContradiction
  intro hne
  have := two_count hp hq hne
  omega
structure ClrR (F : Fo) (root : Int) (p : Nat) (r : Int) (F' : Fo) : Prop where
  inv : Inv F' z0 z0
  new : RootOK F' r
  bb : BB F F'
  blk : ∀ q, q ≤ 15 → blkOf F' r q = if q = p then -1 else blkOf F root q
theorem put_clr {F F' : Fo} {root r : Int} {p : Nat} (hi : Inv F z0 z0) (hr : RootOK F root) (hp : p ≤ 15) (h : putF F root p (-1) = some (r, F')) : ClrR F root p r F' := by
  have hiB := hi.toB
  have hF' := put_inv hiB hr (Or.inl rfl) hp h
  have hlf := kidLeaf hi hr (show p / 4 < 4 by omega)
  have k4L := kids4L hi hlf
  by_cases hn : noK (leafF F root p (-1)) = true
  · rw [putF_n hn] at h
    obtain ⟨_, h2, h3, h4⟩ := setRoot_clr (hi.eq (fun _ _ => rfl) (fun i _ => by unfold kI; rw [if_neg (by omega)]; exact Int.le_refl _)) hr (Or.inl rfl) (show p / 4 < 4 by omega) h
    refine ⟨hF', h2, h3, fun q hq => ?_⟩
    rw [h4 q hq, kidOf_m]
    by_cases hqp : q = p
    · subst hqp; rw [if_pos rfl, if_pos rfl]
    · rw [if_neg hqp]
      by_cases hq4 : q / 4 = p / 4
      · rw [if_pos hq4]
        have e2 := withK_get (-1) k4L (show p % 4 < 4 by omega) (show q % 4 < 4 by omega)
        unfold leafF at hn
        rw [noK_get hn, if_neg (by omega), ← kidOf_kids] at e2
        unfold blkOf
        rw [hq4, ← e2]
      · rw [if_neg hq4]
  replace hn := eq_false_of_ne_true hn
  by_cases hal : aloneF F root = true ∧ aloneF F (kidOf F root (p / 4)) = true
  · rw [putF_a hn hal] at h
    cases h
    obtain ⟨j, i, hj, hii, rfl, e2, hjf, hjr, hif, hir, hij, hk4, hkj⟩ := alone_at hi hr (by omega : p / 4 < 4) hal
    have hk4' := (hi.n4 _ (List.getElem_mem hii) (by omega)).1
    have hl : leafF F (j : Int) p (-1) = withK F.n[i].k (p % 4) (-1) := by unfold leafF; rw [e2, kidsF_n hii]
    rw [hl] at hn hF' ⊢
    rw [e2, Int.toNat_natCast] at hF' ⊢
    generalize hG : (⟨F.n.set i ⟨1, true, withK F.n[i].k (p % 4) (-1)⟩, F.b⟩ : Fo) = G at *
    have hGi : G.n[i]? = some ⟨1, true, withK F.n[i].k (p % 4) (-1)⟩ := by rw [← hG]; simp [hii]
    have hGj : G.n[j]? = some F.n[j] := by rw [← hG]; simp only [List.getElem?_set]; rw [if_neg hij, getE hj]
    have hGb : G.b = F.b := by rw [← hG]
    have hGn : G.n = F.n.set i ⟨1, true, withK F.n[i].k (p % 4) (-1)⟩ := by rw [← hG]
    rw [← hGn] at hF' ⊢
    have hlv : Lives ⟨G.n, dropB F.b (kidOf F (i : Int) (p % 4))⟩ G := ⟨fun a x hx hr => ⟨x.r, hx, hr⟩, fun a x hx hr => by
      rw [hGb]; exact dropB_back a x hx hr⟩
    have hbb : BB F ⟨G.n, dropB F.b (kidOf F (i : Int) (p % 4))⟩ := ⟨dropB_len _ _, fun a x hx hr => dropB_back a x hx hr⟩
    have hroot : RootOK ⟨G.n, dropB F.b (kidOf F (i : Int) (p % 4))⟩ (j : Int) := by
      obtain ⟨hj', ej⟩ := List.getElem?_eq_some_iff.1 hGj
      exact Or.inr ⟨j, hj', rfl, by simp only; rw [ej]; exact hjf, by simp only; rw [ej]; omega⟩
    refine ⟨hF', hroot, hbb, fun q hq => ?_⟩
    rw [← hlv.blk hF' hroot q hq]
    have ej : ∀ a, kidOf G (j : Int) a = kidOf F (j : Int) a := fun a => by
      rw [← hG]; exact kidOf_set _ (Or.inr (by omega)) (by omega) a
    unfold blkOf
    rw [ej]
    by_cases hq4 : q / 4 = p / 4
    · rw [hq4, e2, kid_at hGi, withK_get (-1) (Or.inr hk4') (by omega) (by omega), kidOf_n hii (by omega), getE (by omega : q % 4 < F.n[i].k.length), Option.getD_some]
      by_cases hqp : q = p
      · subst hqp; rw [if_pos rfl, if_pos rfl]
      · rw [if_neg (by omega), if_neg hqp]
    · rw [if_neg (by intro e; subst e; exact hq4 rfl)]
      have hkl := kidLeaf hi hr (show q / 4 < 4 by omega)
      rw [← hG]
      refine kidOf_set _ hkl.ge (fun e => hq4 ?_) _
      have hkq : F.n[j].k[q / 4]? = some (i : Int) := by
        rw [kidOf_n hj (by omega)] at e
        rw [getE (by omega : q / 4 < F.n[j].k.length), e]
      exact (once hi hj hjf (by omega) hii hif hir hkq hkj)
  · rw [putF_f hn hal] at h
    obtain ⟨⟨m, F1⟩, h1, h2⟩ := Option.bind_eq_some_iff.1 h
    obtain ⟨i1, i2, i3, i4, i5, i6, i7⟩ := leaf_fresh hiB hr (Or.inl rfl) hn hp h1
    obtain ⟨_, a2, a3, a4⟩ := setRoot_clr i1 i2 i3 (show p / 4 < 4 by omega) h2
    obtain ⟨hs1, hme, hm1⟩ := freshF_some h1
    have lF1 : Lives F F1 := (put_lives true _).trans (moreAll_lives _ _ _ hm1)
    have hn1 := moreAll_n_same _ _ _ hm1
    have hleaf : F1.n[m]? = some ⟨1, true, leafF F root p (-1)⟩ := by
      rw [hn1, hme]; exact putN_at _ _
    have b1 : BB F F1 := by
      have := moreAll_bb _ _ _ (fun k hk => ?_) hm1
      · exact ⟨this.l, this.b⟩
      · rcases List.mem_or_eq_of_mem_set hk with hk | hk
        · unfold leafF at hk
          rcases withK_mem hk with e | e | e
          · exact Or.inl (by omega)
          · obtain ⟨a, ha, ea⟩ := List.getElem_of_mem e
            have hg := good_of hi.fF
            have ha4 : a < 4 := by
              rcases k4L with e0 | e0
              · rw [e0] at ha; simp at ha
              · omega
            have hko : kidOf F (kidOf F root (p / 4)) a = k := by rw [kidOf_kids, getE ha, ea]; rfl
            have := (has_leaf hg (has_root hg (hr.b hi) (show p / 4 < 4 by omega)).2 ha4).2
            rw [hko] at this
            rcases blk_at this with e1 | ⟨b, hb, e1, e2⟩
            · exact Or.inl (by omega)
            · exact Or.inr ⟨F.b[b], by rw [e1, Int.toNat_natCast]; exact getE hb, e2⟩
          · exact Or.inl (by omega)
        · exact Or.inl (by omega)
    refine ⟨hF', a2, b1.trans a3, fun q hq => ?_⟩
    rw [a4 q hq]
    by_cases hq4 : q / 4 = p / 4
    · rw [if_pos hq4, kid_at hleaf]
      unfold leafF
      rw [withK_get _ k4L (by omega) (by omega), ← kidOf_kids]
      by_cases hqp : q = p
      · subst hqp; rw [if_pos rfl, if_pos rfl]
      · rw [if_neg (by omega), if_neg hqp]
        unfold blkOf
        rw [hq4]
    · rw [if_neg hq4, if_neg (by intro e; subst e; exact hq4 rfl)]
      exact lF1.blk hi hr q hq
theorem freeN_mono : ∀ (l l' : List Bk), l'.length = l.length → (∀ (i : Nat) x, l'[i]? = some x → 0 < x.r → ∃ r, l[i]? = some ⟨r, x.d⟩ ∧ 0 < r) → (∀ x ∈ l', 0 ≤ x.r) → freeN l ≤ freeN l'
  | [], l', hl, _, _ => by simp [freeN]
  | x :: r, [], hl, _, _ => by simp at hl
  | x :: r, y :: s, hl, h, hy => by
    have ih := freeN_mono r s (by simpa using hl) (fun i z hz hr => by have := h (i + 1) z (by simpa using hz) hr; simpa using this) (fun z hz => hy z (List.mem_cons_of_mem _ hz))
    unfold freeN at ih ⊢
    rw [List.countP_cons, List.countP_cons]
    by_cases hx : x.r = 0
    · have hy0 : y.r = 0 := by
        apply Classical.byContradiction
        intro hne
        have := hy y List.mem_cons_self
        obtain ⟨r', h1, h2⟩ := h 0 y rfl (by omega)
        simp only [List.getElem?_cons_zero, Option.some.injEq] at h1
        rw [h1] at hx; simp only at hx; omega
      simp only [hx, hy0, beq_self_eq_true, if_true]; omega
    · simp only [beq_eq_false_iff_ne.2 hx, Bool.false_eq_true, if_false]; omega
theorem BB.dat {F F' : Fo} (h : BB F F') {k : Int} (hk : kidB F' true k = true) (h0 : k ≠ -1) : datF F' k = datF F k := by
  rcases blk_at hk with e | ⟨j, hj, rfl, hr⟩
  · exact absurd e h0
  · obtain ⟨r, h1, _⟩ := h.b j _ (getE hj) hr
    unfold datF
    rw [Int.toNat_natCast, h1, getE hj]; rfl
theorem walk_clr {F F' : Fo} {root r : Int} {p : Nat} (h0 : blkOf F root p ≠ -1) (h : ∀ q, q ≤ 15 → blkOf F' r q = if q = p then -1 else blkOf F root q) : ∀ n, n ≤ 16 → (walkL F' r n).length + (if p < n then 2 else 0) = (walkL F root n).length
  | 0, _ => by simp [walkL]
  | n + 1, hn => by
    have ih := walk_clr h0 h n (by omega)
    have e := h n (by omega)
    have s1 : ∀ (G : Fo) (a : Int), walkL G a (n + 1) = walkL G a n ++ walkF G a n := fun G a => by simp [walkL, List.range_succ, List.flatMap_append]
    simp only [s1, List.length_append, walkF_eq, e]
    by_cases hnp : n = p
    · subst hnp
      rw [if_pos rfl, if_pos rfl, if_neg h0, if_pos (by omega)]
      rw [if_neg (by omega)] at ih
      simp only [List.length_nil, List.length_cons]; omega
    · rw [if_neg hnp]
      have e3 : (if p < n + 1 then 2 else 0) = (if p < n then 2 else 0) := by
        by_cases hh : p < n
        · rw [if_pos hh, if_pos (by omega)]
        · rw [if_neg hh, if_neg (by omega)]
      rw [e3]
      by_cases hb : blkOf F root n = -1
      · rw [if_pos hb, if_pos hb]; simp only [List.length_nil]; omega
      · rw [if_neg hb, if_neg hb]; simp only [List.length_cons, List.length_nil]; omega
structure ClR (F F' : Fo) (root at_ r : Int) (p : Nat) : Prop where
  at_ : at_ = (p : Int) ∧ p ≤ 15
  look : ∀ q : Nat, q ≤ 15 → q ≠ p → lookC F' r (q : Int) = lookC F root (q : Int) ∧ lookV F' r (q : Int) = lookV F root (q : Int)
  lookp : lookC F' r (p : Int) = 4
  f : fF F' = 0
  b0 : fB F.b = 0
  b1 : fB F'.b = 0
  free : freeN F.b ≤ freeN F'.b
  wl : (walkR F' r).length + 2 = (walkR F root).length
  w32 : (walkR F root).length ≤ 32
theorem cl_of {F : Fo} {root at_ : Int} (h : (resClearTree F root at_).1 = 0) : ∃ p : Nat, ClR F (resClearTree F root at_).2.2 root at_ (resClearTree F root at_).2.1 p := by
  obtain ⟨p, rfl, hp, hi, hr, hb, e⟩ := resClearTree_at h
  rw [e] at h ⊢
  unfold resPut at h ⊢
  cases hput : putF F root p (-1) with
  | none => rw [hput] at h; cases h
  | some x =>
    obtain ⟨r, F'⟩ := x
    simp only
    have c := put_clr hi hr hp hput
    have wl := walk_clr (show blkOf F root p ≠ -1 by omega) c.blk 16 (Nat.le_refl _)
    rw [if_pos (by omega)] at wl
    refine ⟨p, ⟨rfl, hp⟩, fun q hq hqp => ?_, ?_, c.inv.fF, fB_ok.2 ⟨hi.b24, hi.bd⟩, fB_ok.2 ⟨c.inv.b24, c.inv.bd⟩, freeN_mono _ _ c.bb.l c.bb.b (fun x hx => (c.inv.bd x hx).1.1), ?_, ?_⟩
    · obtain ⟨a1, a2⟩ := look_eq c.inv c.new q hq
      obtain ⟨b1, b2⟩ := look_eq hi hr q hq
      have e := c.blk q hq
      rw [if_neg hqp] at e
      rw [a1, a2, b1, b2, e]
      by_cases h0 : blkOf F root q = -1
      · simp only [h0, if_true]; exact ⟨trivial, trivial⟩
      · rw [if_neg h0, if_neg h0, if_neg h0]
        refine ⟨rfl, c.bb.dat ?_ h0⟩
        rw [← e]
        exact blkOf_ok (good_of c.inv.fF) (c.new.b c.inv) hq
    · rw [(look_eq c.inv c.new p hp).1, c.blk p hp, if_pos rfl, if_pos rfl]
    · rw [(walk_eq c.inv c.new).2, (walk_eq hi hr).2]; exact wl
    · rw [(walk_eq hi hr).2]; have := walkL_len F root 16; omega
end Go.Proofs.Ytmcljallamhccaa.V
