/- Fewer refer to blocks and nodes: the reference's and the program's. -/
import Derived.Test.YtmcljallamhccaaVDE
import Derived.Test.YtmcljallamhccaaVDD
namespace Go.Proofs.Ytmcljallamhccaa.V
open Go
set_option linter.unusedVariables false
set_option linter.unusedSimpArgs false
set_option maxRecDepth 100000
/-- How many refer to a block. -/
theorem MF.brefs {lo : Nat} {H : Hp} {q : Nat} {a b : Option Addr} {ps : List (Nd × Option Addr)} {B : List Bk} (h : MF lo H q a b ps B) {j : Nat} {x : Bk} (hx : B[j]? = some x) (r : Int) :
    ∃ t H', b = some ⟨t, 0, none⟩ ∧ rd H ⟨t, j * 2, none⟩ = some (.int .i64 x.r) ∧ wrN lo H ⟨t, j * 2, none⟩ [.int .i64 r] = some H' ∧ MF lo H' q a b ps (B.set j ⟨r, x.d⟩) ∧ Fr (Ad b) H H' ∧ H'.length = H.length ∧ rd H' ⟨t, j * 2, none⟩ = some (.int .i64 r) := by
  have hj : j < B.length := (List.getElem?_eq_some_iff.1 hx).1
  obtain ⟨t, H', hb, w, m, f, l⟩ := h.block hx (o := 0) (vs := [.int .i64 r]) (by simp) ⟨r, x.d⟩ (by simp [vb, setAll])
  subst hb
  have g1 := h.bl.rep.at hj
  obtain ⟨t', o', e', g1, g2⟩ := g1
  cases e'
  have g3 := m.bl.rep.at (j := j) (by simpa using hj)
  obtain ⟨t', o', e', g3, g4⟩ := g3
  cases e'
  have hBx : B[j] = x := by rw [getE hj] at hx; exact Option.some.inj hx
  rw [hBx] at g1
  simp only [List.getElem_set, if_true] at g3
  rw [Nat.zero_add] at g1 g3
  exact ⟨t, H', rfl, g1, w, m, f, l, g3⟩
theorem MF.bdata {lo : Nat} {H : Hp} {q : Nat} {a b : Option Addr} {ps : List (Nd × Option Addr)} {B : List Bk} (h : MF lo H q a b ps B) {j : Nat} {x : Bk} (hx : B[j]? = some x) (v : Int) :
    ∃ t H', b = some ⟨t, 0, none⟩ ∧ wrN lo H ⟨t, j * 2 + 1, none⟩ [.int .i64 v] = some H' ∧ MF lo H' q a b ps (B.set j ⟨x.r, v⟩) ∧ Fr (Ad b) H H' ∧ H'.length = H.length := by
  obtain ⟨t, H', hb, w, m, f, l⟩ := h.block hx (o := 1) (vs := [.int .i64 v]) (by simp) ⟨x.r, v⟩ (by simp [vb, setAll])
  exact ⟨t, H', hb, w, m, f, l⟩
theorem l3Drop_c (d lo L : Nat) (H : Hp) {q : Nat} {a b : Option Addr} {ps : List (Nd × Option Addr)} {B : List Bk} (h : MF L H q a b ps B) (hL : lo ≤ L) {j : Nat} {x : Bk} (hx : B[j]? = some x) (hr : 1 ≤ x.r ∧ x.r ≤ 200) :
    ∃ H', vcall env (d + 1) 86 [.slice b B.length (sg b 2), .int .i64 (j : Nat)] lo H = some (.tuple #[], H') ∧ MF L H' q a b ps (B.set j (decB x)) ∧ Fr (Ad b) H H' ∧ H'.length = H.length := by
  have hj : j < B.length := (List.getElem?_eq_some_iff.1 hx).1
  obtain ⟨t, H1, rfl, r1, w1, m1, f1, l1, r2⟩ := h.brefs hx (x.r - 1)
  have hw : IntKind.i64.wrap (x.r - 1) = x.r - 1 := wr (by omega) (by omega)
  have w1' := wr_lo w1 hL
  rw [call_eq find86 _ _ _ rfl]
  by_cases h1 : x.r = 1
  · obtain ⟨t', H2, e, w2, m2, f2, l2⟩ := m1.bdata (j := j) (x := ⟨x.r - 1, x.d⟩) (by simp [hj]) 0
    cases e
    have w2' := wr_lo w2 hL
    have hb : (x.r - 1 == 0) = true := by simp [h1]
    refine ⟨H2, ?_, ?_, f1.trans f2, by rw [l2, l1]⟩
    · simp -implicitDefEqProofs only [v86, VMs, noRef, noRef1, isRef, List.all_cons, List.all_nil, vop, VOp.still, VOp.app, VOp.plain, allP, lof, evs, start, asI, vbin, vcells, ntup, setAll, vfill, vress, vres, tup, Nat.reduceEqDiff, ↓reduceIte, Nat.reduceAdd, Nat.reduceMul, Nat.reduceLeDiff, reduceCtorEq, sgs, slen, ltc hj, ge0, decide_true, Int.toNat_natCast, r1, hw, w1', r2, hb, w2', List.toArray]
    · have : decB x = ⟨x.r - 1, 0⟩ := by unfold decB; rw [if_pos h1]
      rw [this, ← List.set_set (a := (⟨x.r - 1, x.d⟩ : Bk))]; exact m2
  · have hb : (x.r - 1 == 0) = false := by rw [beq_eq_false_iff_ne]; omega
    refine ⟨H1, ?_, ?_, f1, l1⟩
    · simp -implicitDefEqProofs only [v86, VMs, noRef, noRef1, isRef, List.all_cons, List.all_nil, vop, VOp.still, VOp.app, VOp.plain, allP, lof, evs, start, asI, vbin, vcells, ntup, setAll, vfill, vress, vres, tup, Nat.reduceEqDiff, ↓reduceIte, Nat.reduceAdd, Nat.reduceMul, Nat.reduceLeDiff, reduceCtorEq, sgs, slen, ltc hj, ge0, decide_true, Int.toNat_natCast, r1, hw, w1', r2, hb, List.toArray]
    · have : decB x = ⟨x.r - 1, x.d⟩ := by unfold decB; rw [if_neg h1]
      rw [this]; exact m1
theorem drop_c (d lo L : Nat) (H : Hp) {q : Nat} {a b : Option Addr} {ps : List (Nd × Option Addr)} {B : List Bk} (h : MF L H q a b ps B) (hL : lo ≤ L) {j : Nat} {x : Bk} (hx : B[j]? = some x) (hr : 1 ≤ x.r ∧ x.r ≤ 200) :
    ∃ H', vcall env (d + 1) 87 [.slice b B.length (sg b 2), .int .i64 (j : Nat)] lo H = some (.int .i64 0, H') ∧ MF L H' q a b ps (B.set j (decB x)) ∧ Fr (Ad b) H H' ∧ H'.length = H.length := by
  have hj : j < B.length := (List.getElem?_eq_some_iff.1 hx).1
  obtain ⟨t, H1, rfl, r1, w1, m1, f1, l1, r2⟩ := h.brefs hx (x.r - 1)
  have hw : IntKind.i64.wrap (x.r - 1) = x.r - 1 := wr (by omega) (by omega)
  have w1' := wr_lo w1 hL
  have h0 : (x.r == 0) = false := by rw [beq_eq_false_iff_ne]; omega
  rw [call_eq find87 _ _ _ rfl]
  by_cases h1 : x.r = 1
  · obtain ⟨t', H2, e, w2, m2, f2, l2⟩ := m1.bdata (j := j) (x := ⟨x.r - 1, x.d⟩) (by simp [hj]) 0
    cases e
    have w2' := wr_lo w2 hL
    have hb : (x.r - 1 == 0) = true := by simp [h1]
    refine ⟨H2, ?_, ?_, f1.trans f2, by rw [l2, l1]⟩
    · simp -implicitDefEqProofs only [v87, VMs, noRef, noRef1, isRef, List.all_cons, List.all_nil, vop, VOp.still, VOp.app, VOp.plain, allP, lof, evs, start, asI, vbin, vcells, ntup, setAll, vfill, vress, vres, tup, Nat.reduceEqDiff, ↓reduceIte, Nat.reduceAdd, Nat.reduceMul, Nat.reduceLeDiff, reduceCtorEq, sgs, slen, ltc hj, ge0, decide_true, Int.toNat_natCast, r1, h0, hw, w1', r2, hb, w2']
    · have : decB x = ⟨x.r - 1, 0⟩ := by unfold decB; rw [if_pos h1]
      rw [this, ← List.set_set (a := (⟨x.r - 1, x.d⟩ : Bk))]; exact m2
  · have hb : (x.r - 1 == 0) = false := by rw [beq_eq_false_iff_ne]; omega
    refine ⟨H1, ?_, ?_, f1, l1⟩
    · simp -implicitDefEqProofs only [v87, VMs, noRef, noRef1, isRef, List.all_cons, List.all_nil, vop, VOp.still, VOp.app, VOp.plain, allP, lof, evs, start, asI, vbin, vcells, ntup, setAll, vfill, vress, vres, tup, Nat.reduceEqDiff, ↓reduceIte, Nat.reduceAdd, Nat.reduceMul, Nat.reduceLeDiff, reduceCtorEq, sgs, slen, ltc hj, ge0, decide_true, Int.toNat_natCast, r1, h0, hw, w1', r2, hb]
    · have : decB x = ⟨x.r - 1, x.d⟩ := by unfold decB; rw [if_neg h1]
      rw [this]; exact m1
/-- A node, read. -/
theorem MF.at {lo : Nat} {H : Hp} {q : Nat} {a b : Option Addr} {ps : List (Nd × Option Addr)} {B : List Bk} (h : MF lo H q a b ps B) {j : Nat} {x : Nd} {ad : Option Addr} (hx : ps[j]? = some (x, ad)) :
    ∃ p, a = some ⟨p, 0, none⟩ ∧ rd H ⟨p, j * 3, none⟩ = some (.int .i64 x.r) ∧ rd H ⟨p, j * 3 + 1, none⟩ = some (.bool x.f) ∧ rd H ⟨p, j * 3 + 2, none⟩ = some (.slice ad x.k.length (sg ad 1)) ∧ Rep EI 1 H ad x.k.length x.k ∧ ∀ i, Ad ad i → ¬ Ad a i ∧ ¬ Ad b i ∧ i ≠ q := by
  have hj : j < ps.length := (List.getElem?_eq_some_iff.1 hx).1
  obtain ⟨p, e, _, _, g0, g1, g2⟩ := h.n.rep hj
  have hpx : ps[j] = (x, ad) := by rw [getE hj] at hx; exact Option.some.inj hx
  rw [hpx] at g0 g1 g2
  refine ⟨p, e, g0, g1, g2, (h.n.k j _ hx).1, fun i hi => ?_⟩
  obtain ⟨k1, k2⟩ := h.kb j _ hx i hi
  obtain ⟨o, e'⟩ := hi
  obtain ⟨_, _, _, z⟩ := (h.n.k j _ hx).2 _ e'
  exact ⟨fun ⟨o, e⟩ => z o e, k1, k2⟩
theorem foP_n {ps : List (Nd × Option Addr)} {B : List Bk} {j : Nat} {x : Nd} {ad : Option Addr} (hx : ps[j]? = some (x, ad)) : ∃ hj : j < (foP ps B).n.length, (foP ps B).n[j] = x := by
  have hj : j < ps.length := (List.getElem?_eq_some_iff.1 hx).1
  refine ⟨by simpa [foP] using hj, ?_⟩
  simp only [foP, List.getElem_map]
  rw [getE hj] at hx
  rw [Option.some.inj hx]
theorem foP_at {ps : List (Nd × Option Addr)} {B : List Bk} {j : Nat} (hj : j < (foP ps B).n.length) : ∃ ad, ps[j]? = some ((foP ps B).n[j], ad) := by
  have hj' : j < ps.length := by simpa [foP] using hj
  exact ⟨ps[j].2, by rw [getE hj']; simp [foP]⟩
theorem foP_set1 (ps : List (Nd × Option Addr)) (B : List Bk) (j : Nat) (x : Nd) (ad : Option Addr) : foP (ps.set j (x, ad)) B = ⟨(foP ps B).n.set j x, (foP ps B).b⟩ := by
  unfold foP; simp only [List.map_set]
/-- A node that is dead. -/
theorem MF.kids {lo : Nat} {H : Hp} {q : Nat} {a b : Option Addr} {ps : List (Nd × Option Addr)} {B : List Bk} (h : MF lo H q a b ps B) {j : Nat} {x : Nd} {ad : Option Addr} (hx : ps[j]? = some (x, ad)) :
    ∃ p H', a = some ⟨p, 0, none⟩ ∧ wrN lo H ⟨p, j * 3 + 2, none⟩ [.slice none 0 0] = some H' ∧ MF lo H' q a b (ps.set j (⟨x.r, x.f, []⟩, none)) B ∧ Fr (Ad a) H H' ∧ H'.length = H.length := by
  obtain ⟨p, H', ha, w, m, f, l⟩ := h.node hx (o := 2) (vs := [.slice none 0 0]) (by simp) (⟨x.r, x.f, []⟩, none) (by simp [vN, nV, setAll, sg]) Rep.nil (fun A e => by cases e)
  exact ⟨p, H', ha, w, m, f, l⟩
theorem MF.leaf {lo : Nat} {H : Hp} {q : Nat} {a b : Option Addr} {ps : List (Nd × Option Addr)} {B : List Bk} (h : MF lo H q a b ps B) {j : Nat} {x : Nd} {ad : Option Addr} (hx : ps[j]? = some (x, ad)) (f : Bool) :
    ∃ p H', a = some ⟨p, 0, none⟩ ∧ wrN lo H ⟨p, j * 3 + 1, none⟩ [.bool f] = some H' ∧ MF lo H' q a b (ps.set j (⟨x.r, f, x.k⟩, ad)) B ∧ Fr (Ad a) H H' ∧ H'.length = H.length := by
  obtain ⟨p, H', ha, w, m, f, l⟩ := h.node hx (o := 1) (vs := [.bool f]) (by simp) (⟨x.r, f, x.k⟩, ad) (by simp [vN, nV, setAll]) (h.n.k j _ hx).1 (fun A e => h.kid2 hx A e)
  exact ⟨p, H', ha, w, m, f, l⟩
theorem MF.die {lo : Nat} {H : Hp} {q : Nat} {a b : Option Addr} {ps : List (Nd × Option Addr)} {B : List Bk} (h : MF lo H q a b ps B) {j : Nat} {x : Nd} {ad : Option Addr} (hx : ps[j]? = some (x, ad)) :
    ∃ p H', a = some ⟨p, 0, none⟩ ∧ wrN lo H ⟨p, j * 3, none⟩ [.int .i64 0, .bool false, .slice none 0 0] = some H' ∧ MF lo H' q a b (ps.set j (dead, none)) B ∧ Fr (Ad a) H H' ∧ H'.length = H.length := by
  obtain ⟨p, H', ha, w, m, f, l⟩ := h.node hx (o := 0) (vs := [.int .i64 0, .bool false, .slice none 0 0]) (by simp) (dead, none) (by simp [vN, nV, setAll, dead, sg]) Rep.nil (fun A e => by cases e)
  exact ⟨p, H', ha, w, m, f, l⟩
end Go.Proofs.Ytmcljallamhccaa.V
