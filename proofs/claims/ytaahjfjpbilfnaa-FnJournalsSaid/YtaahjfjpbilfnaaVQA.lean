/- The bytes of a code, read one by one. -/
import Derived.Test.YtaahjfjpbilfnaaVNC
namespace Go.Proofs.Ytaahjfjpbilfnaa.V
open Go
set_option linter.unusedVariables false
set_option linter.unusedSimpArgs false
set_option maxRecDepth 100000
/-- What is not in S is as before; a block of S may even be gone. -/
structure Fw (S : Nat → Prop) (H H' : Hp) : Prop where
  len : H.length ≤ H'.length
  blk : ∀ i, i < H.length → ¬ S i → H'.blk i = H.blk i
theorem Fr.w {S : Nat → Prop} {H H' : Hp} (h : Fr S H H') : Fw S H H' := ⟨h.len, h.blk⟩
theorem Fw.refl {S : Nat → Prop} {H : Hp} : Fw S H H := Fr.refl.w
theorem Fw.mono {S T : Nat → Prop} {H H' : Hp} (h : Fw S H H') (hst : ∀ i, S i → T i) : Fw T H H' := ⟨h.len, fun i hi ht => h.blk i hi fun hs => ht (hst i hs)⟩
theorem Fw.trans {S : Nat → Prop} {H H' H'' : Hp} (h : Fw S H H') (h' : Fw S H' H'') : Fw S H H'' :=
  ⟨Nat.le_trans h.len h'.len, fun i hi hs => (h'.blk i (Nat.lt_of_lt_of_le hi h.len) hs).trans (h.blk i hi hs)⟩
/-- Behind a step that may turn S, one that turns what S covers or what is new. -/
theorem Fw.then {S T : Nat → Prop} {H H' H'' : Hp} (h : Fw S H H') (h' : Fw T H' H'') (hT : ∀ i, T i → i < H.length → S i) : Fw S H H'' :=
  ⟨Nat.le_trans h.len h'.len, fun i hi hs => (h'.blk i (Nat.lt_of_lt_of_le hi h.len) fun ht => hs (hT i ht hi)).trans (h.blk i hi hs)⟩
theorem Fw.rd {S : Nat → Prop} {H H' : Hp} (h : Fw S H H') (i o : Nat) (hi : i < H.length) (hs : ¬ S i) : V.rd H' ⟨i, o, none⟩ = V.rd H ⟨i, o, none⟩ := by simp only [V.rd, h.blk i hi hs]
theorem Fw.rdN {S : Nat → Prop} {H H' : Hp} (h : Fw S H H') (i o n : Nat) (hi : i < H.length) (hs : ¬ S i) : V.rdN H' ⟨i, o, none⟩ n = V.rdN H ⟨i, o, none⟩ n := by simp only [V.rdN, h.blk i hi hs]
theorem Fw.fn {S : Nat → Prop} {H0 H H' : Hp} (h : Fw S H H') (h0 : Fn H0 H) (hS : ∀ i, S i → H0.length ≤ i) : Fn H0 H' :=
  have key : ∀ i, i < H0.length → H'.blk i = H0.blk i := fun i hi => (h.blk i (Nat.lt_of_lt_of_le hi h0.len) fun hs => by have := hS i hs; omega).trans (h0.blk i hi id)
  ⟨Nat.le_trans h0.len h.len, fun i hi _ => key i hi, fun lo i ⟨h1, b, h2, h3⟩ => ⟨h1, b, (key i (blk_lt h2)).trans h2, h3⟩⟩
theorem Fw.wb {S : Nat → Prop} {H H' : Hp} (h : Fw S H H') {lo i : Nat} (hw : WB lo H i) (hs : ¬ S i) : WB lo H' i := let ⟨h1, b, h2, h3⟩ := hw; ⟨h1, b, (h.blk i (blk_lt h2) hs).trans h2, h3⟩
theorem Rep.lt {α : Type} {E : Hp → Nat → Nat → α → Prop} {st : Nat} {H : Hp} {a : Option Addr} {n : Nat} {l : List α} (h : Rep E st H a n l) (hl : l ≠ []) {i : Nat} (hi : Ad a i) (hE : ∀ i o x, E H i o x → i < H.length) : i < H.length := by
  obtain ⟨i', o, ha, h2⟩ := h.2 hl
  obtain ⟨o', e⟩ := hi
  rw [e] at ha; cases ha
  obtain ⟨x, r, rfl⟩ := List.exists_cons_of_ne_nil hl
  exact hE _ _ _ (h2 0 x rfl)
theorem Fw.q {q : Nat} {H H' : Hp} (h : Fn H H') : Fw (· = q) H H' := h.w.mono fun _ => False.elim
def EY (H : Hp) (i o : Nat) (x : Int) : Prop := rd H ⟨i, o, none⟩ = some (.int .u8 x)
theorem EY.app {H : Hp} {l : List (Option Blk)} {i o : Nat} {x : Int} (h : EY H i o x) : EY (H ++ l) i o x := rd_app h
/-- What a code's bytes are read from: a pointer to the code and to how many were read. -/
structure Src (H : Hp) (q : Nat) (ac : Option Addr) (code : List Int) (k : Nat) : Prop where
  b : H.blk q = some ⟨[.slice ac code.length (sg ac 1), .int .i64 (k : Nat)], true, false⟩
  c : Rep EY 1 H ac code.length code
  y : ∀ x ∈ code, 0 ≤ x ∧ x ≤ 255
  n : code.length ≤ 1048577
  ne : ∀ i, Ad ac i → code ≠ [] → i ≠ q
theorem Src.fw {S : Nat → Prop} {H H' : Hp} {q : Nat} {ac : Option Addr} {code : List Int} {k : Nat} (h : Src H q ac code k) (hf : Fw S H H') (hq : ¬ S q) (hc : ∀ i, Ad ac i → code ≠ [] → ¬ S i) : Src H' q ac code k :=
  ⟨(hf.blk q (blk_lt h.b) hq).trans h.b, ⟨h.c.1, fun hl => let ⟨i, o, ha, h2⟩ := h.c.2 hl; ⟨i, o, ha, fun j x hx => (hf.rd _ _ (rd_lt (h2 j x hx)) (hc i ⟨o, ha⟩ hl)).trans (h2 j x hx)⟩⟩, h.y, h.n, h.ne⟩
theorem Src.fn {H H' : Hp} {q : Nat} {ac : Option Addr} {code : List Int} {k : Nat} (h : Src H q ac code k) (hf : Fn H H') : Src H' q ac code k := h.fw hf.w id (fun _ _ _ => id)
/-- One more was read. -/
def srcB (H : Hp) (q : Nat) (ac : Option Addr) (code : List Int) (k : Nat) : Hp := setB H q [.slice ac code.length (sg ac 1), .int .i64 (k : Nat)]
theorem Src.next {H : Hp} {q : Nat} {ac : Option Addr} {code : List Int} {k : Nat} (h : Src H q ac code k) (k' : Nat) : Src (srcB H q ac code k') q ac code k' ∧ Fr (· = q) H (srcB H q ac code k') ∧ (srcB H q ac code k').length = H.length := by
  have hf := Fr.setB h.b [.slice ac code.length (sg ac 1), .int .i64 (k' : Nat)]
  exact ⟨⟨by unfold srcB; rw [blk_setB h.b, if_pos rfl], ⟨h.c.1, fun hl => let ⟨i, o, ha, h2⟩ := h.c.2 hl; ⟨i, o, ha, fun j x hx => (hf.rd _ _ (rd_lt (h2 j x hx)) (h.ne i ⟨o, ha⟩ hl)).trans (h2 j x hx)⟩⟩, h.y, h.n, h.ne⟩, hf, setB_len⟩
def byteAt (code : List Int) (k : Nat) : Int := (code[k % code.length]?).getD 0
def nextV (code : List Int) (k : Nat) (n : Int) : Int :=
  if n < 1 then 0 else if code.length = 0 then ((k * 7 : Nat) : Int).tmod n
  else if n > 200 then ((byteAt code k + ((k / code.length * 37 : Nat) : Int)) * 251 + byteAt code (k + 1) * 13 + (k : Int)).tmod n
  else (byteAt code k + ((k / code.length * 37 : Nat) : Int)).tmod n
theorem byteAt_le {code : List Int} (h : ∀ x ∈ code, 0 ≤ x ∧ x ≤ 255) (k : Nat) : 0 ≤ byteAt code k ∧ byteAt code k ≤ 255 := by
  unfold byteAt
  cases hx : code[k % code.length]? with
  | none => simp
  | some x => exact h x (List.mem_of_getElem? hx)
theorem tmod_in {a n : Int} (ha : 0 ≤ a) (hn : 1 ≤ n) : 0 ≤ a.tmod n ∧ a.tmod n < n := ⟨Int.tmod_nonneg _ ha, Int.tmod_lt_of_pos _ (by omega)⟩
theorem nextV_in {code : List Int} (h : ∀ x ∈ code, 0 ≤ x ∧ x ≤ 255) (k : Nat) {n : Int} (hn : 1 ≤ n) : 0 ≤ nextV code k n ∧ nextV code k n < n := by
  have h1 := byteAt_le h k
  have h2 := byteAt_le h (k + 1)
  unfold nextV
  rw [if_neg (by omega)]
  by_cases h0 : code.length = 0
  · rw [if_pos h0]; exact tmod_in (by omega) hn
  · rw [if_neg h0]
    generalize k / code.length * 37 = z
    by_cases h3 : n > 200
    · rw [if_pos h3]; exact tmod_in (by omega) hn
    · rw [if_neg h3]; exact tmod_in (by omega) hn
theorem l1Next_c (d lo : Nat) (H : Hp) {q : Nat} {ac : Option Addr} {code : List Int} {k : Nat} (h : Src H q ac code k) (hlo : lo ≤ q) (hk : k ≤ 1000000000) (n : Int) :
    vcall env (d + 1) 82 [.pointer (some ⟨q, 0, none⟩), .int .i64 n] lo H = some (.int .i64 (nextV code k n), srcB H q ac code (k + 1)) := by
  obtain ⟨s1, f1, l1⟩ := h.next (k + 1)
  have g0 : rd H ⟨q, 1, none⟩ = some (.int .i64 (k : Nat)) := by simp only [rd, h.b, Option.bind_some, getcs, getc0]
  have w0 := fun vs hv => wr_at (lo := lo) (o := 1) h.b hlo vs hv
  have hset : setB H q [.slice ac code.length (sg ac 1), .int .i64 ((k + 1 : Nat) : Int)] = srcB H q ac code (k + 1) := rfl
  generalize srcB H q ac code (k + 1) = H1 at *
  have e0 : rd H1 ⟨q, 0, none⟩ = some (.slice ac code.length (sg ac 1)) := by simp only [rd, s1.b, Option.bind_some, getc0]
  have e1 : rd H1 ⟨q, 1, none⟩ = some (.int .i64 ((k + 1 : Nat) : Int)) := by simp only [rd, s1.b, Option.bind_some, getcs, getc0]
  have k1 : IntKind.i64.wrap ((k : Int) + 1) = ((k + 1 : Nat) : Int) := by rw [wr (by omega) (by omega)]; rfl
  have k2 : IntKind.i64.wrap (((k + 1 : Nat) : Int) - 1) = (k : Int) := by rw [wr (by omega) (by omega)]; omega
  rw [call_eq find82 _ _ _ rfl]
  unfold nextV
  by_cases hn : n < 1
  · have hd : decide (n < 1) = true := decide_eq_true hn
    rw [if_pos hn]
    simp -implicitDefEqProofs only [v82, VMs, noRef, noRef1, isRef, List.all_cons, List.all_nil, vop, VOp.still, VOp.app, VOp.plain, allP, lof, evs, start, asI, vbin, vcells, ntup, setAll, vfill, vress, vres, tup, Nat.reduceEqDiff, ↓reduceIte, Nat.reduceAdd, Nat.reduceMul, Nat.reduceLeDiff, reduceCtorEq, g0, k1, w0, hset, hd]
  have hd : decide (n < 1) = false := decide_eq_false hn
  rw [if_neg hn]
  have hn0 : (n = 0) = False := eq_false (by omega)
  by_cases h0 : code.length = 0
  · have k3 : IntKind.i64.wrap ((k : Int) * 7) = ((k * 7 : Nat) : Int) := by rw [wr (by omega) (by omega)]; omega
    have hb : (((code.length : Nat) : Int) == 0) = true := beq_iff_eq.2 (by omega)
    rw [if_pos h0]
    simp -implicitDefEqProofs only [v82, VMs, noRef, noRef1, isRef, List.all_cons, List.all_nil, vop, VOp.still, VOp.app, VOp.plain, allP, lof, evs, start, asI, vbin, vcells, ntup, setAll, vfill, vress, vres, tup, Nat.reduceEqDiff, ↓reduceIte, Nat.reduceAdd, Nat.reduceMul, Nat.reduceLeDiff, reduceCtorEq, g0, k1, w0, hset, hd, e0, e1, k2, slen, hb, k3, hn0]
  rw [if_neg h0]
  have hb : (((code.length : Nat) : Int) == 0) = false := beq_eq_false_iff_ne.2 (by omega)
  have hc0 : (((code.length : Nat) : Int) = 0) = False := eq_false (by omega)
  have hlt := fun z : Nat => Nat.mod_lt z (show 0 < code.length by omega)
  have hrem : ∀ z : Nat, ((z : Nat) : Int).tmod ((code.length : Nat) : Int) = ((z % code.length : Nat) : Int) := fun _ => rfl
  have hdiv : ((k : Nat) : Int).tdiv ((code.length : Nat) : Int) = ((k / code.length : Nat) : Int) := rfl
  have hq := Nat.div_le_self k code.length
  generalize k / code.length = w at *
  have k4 : IntKind.i64.wrap ((w : Nat) : Int) = ((w : Nat) : Int) := wr (by omega) (by omega)
  have k5 : IntKind.i64.wrap (((w : Nat) : Int) * 37) = ((w * 37 : Nat) : Int) := by rw [wr (by omega) (by omega)]; omega
  have hat : ∀ z : Nat, ∃ i o, ac = some ⟨i, o, none⟩ ∧ rd H1 ⟨i, o + z % code.length, none⟩ = some (.int .u8 (byteAt code z)) := fun z => by
    obtain ⟨i, o, e, ex⟩ := s1.c.at (hlt z)
    refine ⟨i, o, e, ?_⟩
    unfold byteAt
    rw [getE (hlt z), Option.getD_some]
    simpa only [EY, Nat.mul_one] using ex
  obtain ⟨i, o, rfl, r0⟩ := hat k
  obtain ⟨_, _, e', r1⟩ := hat (k + 1)
  cases e'
  obtain ⟨a1, a2⟩ := byteAt_le h.y k
  obtain ⟨b1, b2⟩ := byteAt_le h.y (k + 1)
  generalize byteAt code k = x at *
  generalize byteAt code (k + 1) = y at *
  have hz : w * 37 ≤ 37000000000 := by omega
  have lk := ltc (hlt k)
  have lk1 := ltc (hlt (k + 1))
  have gk := ge0 (k % code.length)
  have gk1 := ge0 ((k + 1) % code.length)
  generalize w * 37 = z at *
  have c1 : IntKind.i64.wrap x = x := wr (by omega) (by omega)
  have c2 : IntKind.i64.wrap y = y := wr (by omega) (by omega)
  have c3 : IntKind.i64.wrap (x + (z : Int)) = x + (z : Int) := wr (by omega) (by omega)
  simp only [sgs] at e0 hset
  by_cases h2 : n > 200
  · have hd2 : decide (n > 200) = true := decide_eq_true h2
    rw [if_pos h2]
    have c4 : IntKind.i64.wrap ((x + (z : Int)) * 251) = (x + (z : Int)) * 251 := wr (by omega) (by omega)
    have c5 : IntKind.i64.wrap (y * 13) = y * 13 := wr (by omega) (by omega)
    have c6 : IntKind.i64.wrap ((x + (z : Int)) * 251 + y * 13) = (x + (z : Int)) * 251 + y * 13 := wr (by omega) (by omega)
    have c7 : IntKind.i64.wrap ((x + (z : Int)) * 251 + y * 13 + (k : Int)) = (x + (z : Int)) * 251 + y * 13 + (k : Int) := wr (by omega) (by omega)
    simp -implicitDefEqProofs only [v82, VMs, noRef, noRef1, isRef, List.all_cons, List.all_nil, vop, VOp.still, VOp.app, VOp.plain, allP, lof, evs, start, asI, vbin, vcells, ntup, setAll, vfill, vress, vres, tup, Nat.reduceEqDiff, ↓reduceIte, Nat.reduceAdd, Nat.reduceMul, Nat.reduceLeDiff, reduceCtorEq, vdr, g0, k1, w0, hset, hd, e0, e1, k2, slen, hb, hc0, hrem, hdiv, k4, k5, lk, lk1, gk, gk1, Int.toNat_natCast, Nat.mul_one, r0, r1, c1, c2, c3, c4, c5, c6, c7, hn0, hd2]
  · have hd2 : decide (n > 200) = false := decide_eq_false h2
    rw [if_neg h2]
    simp -implicitDefEqProofs only [v82, VMs, noRef, noRef1, isRef, List.all_cons, List.all_nil, vop, VOp.still, VOp.app, VOp.plain, allP, lof, evs, start, asI, vbin, vcells, ntup, setAll, vfill, vress, vres, tup, Nat.reduceEqDiff, ↓reduceIte, Nat.reduceAdd, Nat.reduceMul, Nat.reduceLeDiff, reduceCtorEq, vdr, g0, k1, w0, hset, hd, e0, e1, k2, slen, hb, hc0, hrem, hdiv, k4, k5, lk, lk1, gk, gk1, Int.toNat_natCast, Nat.mul_one, r0, c1, c3, hn0, hd2]
theorem l1Chance_c (d lo : Nat) (H : Hp) {q : Nat} {ac : Option Addr} {code : List Int} {k : Nat} (h : Src H q ac code k) (hlo : lo ≤ q) (hk : k ≤ 1000000000) (n : Int) :
    vcall env (d + 2) 83 [.pointer (some ⟨q, 0, none⟩), .int .i64 n] lo H = some (.bool (nextV code k n == 0), srcB H q ac code (k + 1)) := by
  rw [call_eq find83 _ _ _ rfl]
  simp -implicitDefEqProofs only [v83, VMs, noRef, noRef1, isRef, List.all_cons, List.all_nil, vop, VOp.still, VOp.app, VOp.plain, allP, lof, evs, start, asI, vbin, vcells, ntup, setAll, vfill, vress, vres, tup, Nat.reduceEqDiff, ↓reduceIte, Nat.reduceAdd, Nat.reduceMul, Nat.reduceLeDiff, reduceCtorEq, l1Next_c d lo H h hlo hk n]
def pickV (code : List Int) (k : Nat) (L : List Int) : Int := (L[(nextV code k (L.length : Int)).toNat]?).getD 0
theorem l1Pick_c (d lo : Nat) (H : Hp) {q : Nat} {ac al : Option Addr} {code L : List Int} {k : Nat} (h : Src H q ac code k) (hlo : lo ≤ q) (hk : k ≤ 1000000000) (hL : Rep EI 1 H al L.length L) (hL0 : 0 < L.length) (hq : ∀ i, Ad al i → i ≠ q) :
    vcall env (d + 2) 113 [.pointer (some ⟨q, 0, none⟩), .slice al L.length (sg al 1)] lo H = some (.int .i64 (pickV code k L), srcB H q ac code (k + 1)) := by
  obtain ⟨s1, f1, l1⟩ := h.next (k + 1)
  obtain ⟨a1, a2⟩ := nextV_in h.y k (n := (L.length : Int)) (by omega)
  have c := l1Next_c d lo H h hlo hk (L.length : Int)
  unfold pickV
  obtain ⟨z, hz⟩ : ∃ z : Nat, nextV code k (L.length : Int) = (z : Int) := ⟨_, (Int.toNat_of_nonneg a1).symm⟩
  rw [hz] at a2 c ⊢
  have hzl : z < L.length := by omega
  obtain ⟨i, o, rfl, e⟩ := (hL.fr hq f1).at hzl
  simp only [EI, Nat.mul_one] at e
  rw [Int.toNat_natCast, getE hzl, Option.getD_some, call_eq find113 _ _ _ rfl]
  simp -implicitDefEqProofs only [v113, VMs, noRef, noRef1, isRef, List.all_cons, List.all_nil, vop, VOp.still, VOp.app, VOp.plain, allP, lof, evs, start, asI, vbin, vcells, ntup, setAll, vfill, vress, vres, tup, Nat.reduceEqDiff, ↓reduceIte, Nat.reduceAdd, Nat.reduceMul, Nat.reduceLeDiff, reduceCtorEq, slen, c, ltc hzl, ge0, Int.toNat_natCast, Nat.mul_one, e]
theorem l1Source_c (d lo : Nat) (H : Hp) {ac : Option Addr} {code : List Int} (hc : Rep EY 1 H ac code.length code) (hy : ∀ x ∈ code, 0 ≤ x ∧ x ≤ 255) (hn : code.length ≤ 1048577) :
    ∃ H', vcall env (d + 1) 80 [.slice ac code.length (sg ac 1)] lo H = some (.pointer (some ⟨H.length, 0, none⟩), H') ∧ Fn H H' ∧ H'.length = H.length + 1 ∧ Src H' H.length ac code 0 := by
  refine ⟨H ++ [some ⟨[.slice ac code.length (sg ac 1), .int .i64 0], true, false⟩], ?_, Fr.app, by simp, by rw [blk0]; rfl, hc.app fun _ _ _ => EY.app, hy, hn, fun i hi hl => ?_⟩
  · rw [call_eq find80 _ _ _ rfl]
    simp -implicitDefEqProofs only [v80, VMs, noRef, noRef1, isRef, List.all_cons, List.all_nil, vop, VOp.still, VOp.app, VOp.plain, allP, lof, evs, start, asI, vbin, vcells, ntup, setAll, vfill, vress, vres, tup, Nat.reduceEqDiff, ↓reduceIte, Nat.reduceAdd, Nat.reduceMul, Nat.reduceLeDiff, reduceCtorEq]
  · obtain ⟨i', o, ha, h2⟩ := hc.2 hl
    obtain ⟨o', e⟩ := hi
    rw [ha] at e; cases e
    obtain ⟨x, r, rfl⟩ := List.exists_cons_of_ne_nil hl
    have := rd_lt (h2 0 x rfl)
    omega
end Go.Proofs.Ytaahjfjpbilfnaa.V
