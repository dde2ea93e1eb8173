/- Cells in own memory: read whole, copied, and those that a test picks left out. -/
import Derived.Test.YtohanpndekfbgaaDoorVLB
import Derived.Test.YtohanpndekfbgaaDoorVPD
namespace Go.Proofs.YtohanpndekfbgaaDoor.V
open Go
set_option linter.unusedVariables false
set_option linter.unusedSimpArgs false
set_option maxRecDepth 100000
def vXX3 (v : Vo) : List Value := [.int .i64 v.i, .int .i64 v.q, .int .i64 v.r]
def vC3 (l : List Vo) : List Value := (l.map vXX3).flatten
theorem vC3_len (l : List Vo) : (vC3 l).length = l.length * 3 := by
  induction l with
  | nil => rfl
  | cons p r ih => simp only [vC3, List.map_cons, List.flatten_cons, List.length_append] at ih ⊢; rw [ih]; simp [vXX3, Nat.add_mul]; omega
theorem vC3_at : ∀ (l : List Vo) (j : Nat) (p : Vo), l[j]? = some p → ∀ k, k < 3 → (vC3 l)[j * 3 + k]? = (vXX3 p)[k]?
  | [], j, p, h, k, hk => by simp at h
  | q :: r, 0, p, h, k, hk => by
    simp only [List.getElem?_cons_zero, Option.some.injEq] at h; subst h
    simp only [vC3, List.map_cons, List.flatten_cons, Nat.zero_mul, Nat.zero_add]
    rw [List.getElem?_append_left (by simp [vXX3]; omega)]
  | q :: r, j + 1, p, h, k, hk => by
    have := vC3_at r j p (by simpa using h) k hk
    have e : vC3 (q :: r) = vXX3 q ++ vC3 r := rfl
    have l3 : (vXX3 q).length = 3 := rfl
    rw [e, List.getElem?_append_right (by rw [l3]; omega), l3, show (j + 1) * 3 + k - 3 = j * 3 + k by omega]
    exact this
theorem vC3_set (l : List Vo) (i : Nat) (v : Vo) (hi : i < l.length) : setAll (vC3 l) (i * 3) (vXX3 v) = vC3 (l.set i v) := by
  apply List.ext_getElem?
  intro k
  have hl : (vXX3 v).length = 3 := rfl
  rw [setAll_at _ _ _ _ (by rw [vC3_len, hl]; omega), hl]
  have hdm := Nat.div_add_mod k 3
  obtain ⟨j, m, hm, rfl⟩ : ∃ j m, m < 3 ∧ k = j * 3 + m := ⟨k / 3, k % 3, Nat.mod_lt _ (by omega), by omega⟩
  by_cases hj : j < l.length
  · by_cases hji : j = i
    · subst hji
      rw [if_pos (by omega), show j * 3 + m - j * 3 = m by omega]
      exact (vC3_at (l.set j v) j v (by simp [hj]) m hm).symm
    · rw [if_neg (by omega)]
      obtain ⟨p, hp⟩ : ∃ p, l[j]? = some p := ⟨_, getE hj⟩
      rw [vC3_at l j p hp m hm, vC3_at (l.set i v) j p (by rw [List.getElem?_set, if_neg (fun e => hji e.symm)]; exact hp) m hm]
  · rw [if_neg (by omega), List.getElem?_eq_none (by rw [vC3_len]; omega), List.getElem?_eq_none (by rw [vC3_len, List.length_set]; omega)]
theorem vC3_rep {H : Hp} {i n : Nat} {l m : List Vo} {b : Blk} (hb : H.blk i = some b) (hc : b.cs = vC3 l) (hm : l.take n = m) (hn : n = m.length) : Rep EV 3 H (some ⟨i, 0, none⟩) n m :=
  ⟨hn, fun _ => ⟨i, 0, rfl, fun j x hx => by
    have hj : j < m.length := (List.getElem?_eq_some_iff.1 hx).1
    rw [← hm, List.getElem?_take, if_pos (by omega)] at hx
    have h0 := vC3_at l j x hx 0 (by omega)
    have h1 := vC3_at l j x hx 1 (by omega)
    have h2 := vC3_at l j x hx 2 (by omega)
    simp only [EV, rd, hb, Option.bind_some, hc, Nat.zero_add]
    exact ⟨h0, h1, h2⟩⟩⟩
theorem Rep.cellsV {H : Hp} {a : Option Addr} {n : Nat} {l : List Vo} (h : Rep EV 3 H a n l) (hx : Ex H a) : scells H 3 (.slice a n (sg a 3)) = some (vC3 l) := by
  have hn := h.1
  cases a with
  | none =>
    have : l = [] := by
      cases l with
      | nil => rfl
      | cons x r => obtain ⟨i, o, e, _⟩ := h.2 (by simp); cases e
    subst this
    have hn0 : n = 0 := hn
    subst hn0; rfl
  | some b =>
    obtain ⟨i, o, s⟩ := b
    have hs := (hx _ rfl).1
    simp only at hs
    subst hs
    by_cases h0 : n = 0
    · have : l = [] := List.length_eq_zero_iff.1 (by omega)
      subst this; subst h0; rfl
    rw [scells, if_neg h0]
    simp only [sgs, if_true]
    have := rdN_of (L := vC3 l) (hx _ rfl).2 (fun j hj => by
      rw [vC3_len] at hj
      obtain ⟨k, m, hm, rfl⟩ : ∃ k m, m < 3 ∧ j = k * 3 + m := ⟨j / 3, j % 3, Nat.mod_lt _ (by omega), by have := Nat.div_add_mod j 3; omega⟩
      have hk : k < l.length := by omega
      obtain ⟨i', o', e, h2⟩ := h.2 (by intro e; rw [e] at hk; simp at hk)
      cases e
      obtain ⟨e0, e1, e2⟩ := h2 k _ (getE hk)
      rw [vC3_at l k _ (getE hk) m hm]
      rcases (by omega : m = 0 ∨ m = 1 ∨ m = 2) with rfl | rfl | rfl
      · exact e0
      · rw [← Nat.add_assoc]; exact e1
      · rw [← Nat.add_assoc]; exact e2)
    rw [vC3_len, ← hn] at this
    exact this
/-- Cells in a block of their own. -/
structure NC (lo : Nat) (H : Hp) (i : Nat) (l : List Vo) : Prop where
  b : ∃ k0, H.blk i = some ⟨vC3 l, true, k0⟩ ∧ (l = [] → k0 = true)
  lo : lo ≤ i
theorem NC.rep {lo : Nat} {H : Hp} {i : Nat} {l : List Vo} (h : NC lo H i l) : Rep EV 3 H (some ⟨i, 0, none⟩) l.length l := let ⟨k0, hb, _⟩ := h.b; vC3_rep hb rfl (List.take_length) rfl
theorem cloneC {lo : Nat} {H : Hp} {a : Option Addr} {n : Nat} {l : List Vo} (h : Rep EV 3 H a n l) (hx : Ex H a) (hlo : lo ≤ H.length) (hn : n ≤ 1000) :
    ∃ i H2, vappend 3 24 lo (H ++ [some ⟨[], true, true⟩]) (.slice (some ⟨H.length, 0, none⟩) 0 3) (.slice a n (sg a 3)) = some (.slice (some ⟨i, 0, none⟩) n 3, H2) ∧ Fn H H2 ∧ NC H.length H2 i l := by
  have hc := (h.fnV (Fr.app (l := [some ⟨[], true, true⟩]))).cellsV (hx.fn Fr.app)
  have hnl := h.1
  have hb : Hp.blk (H ++ [some ⟨[], true, true⟩]) H.length = some ⟨[], true, true⟩ := blk0
  rcases Nat.eq_zero_or_pos n with h0 | h0
  · subst h0
    have : l = [] := List.length_eq_zero_iff.1 hnl.symm
    subst this
    refine ⟨H.length, H ++ [some ⟨[], true, true⟩], ?_, Fr.app, ⟨⟨true, hb, fun _ => rfl⟩, Nat.le_refl _⟩⟩
    have hfit : fits (0 + 0) 24 = true := fits_small (by omega)
    simp only [vappend, slen, hc, Option.bind_some, hb]
    rw [if_pos ⟨trivial, trivial, trivial, rfl, rfl, hfit⟩]
    rfl
  · obtain ⟨H2, ha, hb2, hl2, hf2, _⟩ := app_own (st := 3) (by_ := 24) (lo := lo) (i := H.length) (n := 0) (m := n) (L := []) (M := vC3 l) (y := .slice a n (sg a 3)) hb rfl (fun _ => rfl) hlo rfl hc h0 (fits_small (by omega))
    simp only [List.length_append, List.length_cons, List.length_nil, Nat.zero_add] at ha hb2 hl2
    refine ⟨H.length + 1, H2, ha, hf2 H Fr.app (Nat.le_refl _), ⟨⟨false, hb2, fun e => ?_⟩, by omega⟩⟩
    subst e; simp at hnl; omega
theorem indexC_c (d lo : Nat) (H : Hp) (a : Option Addr) (n : Nat) (l : List Vo) (h : Rep EV 3 H a n l) (hn : Sm n) (g : Nat) (cap : Array Value) (pred : Vo → Bool) (hg : ∀ y ∈ l, ∀ lo, vcall env d g (VV y :: cap.toList) lo H = some (.bool (pred y), H)) :
    ∃ r : Int, vcall env (d + 1) 60 [.slice a n (sg a 3), .func (.func g) #[] cap] lo H = some (.int .i64 r, H) ∧ ((∃ (i : Nat) (x : Vo), r = (i : Int) ∧ l[i]? = some x ∧ pred x = true ∧ ∀ (j : Nat) (y : Vo), j < i → l[j]? = some y → pred y = false) ∨ (r = -1 ∧ ∀ y ∈ l, pred y = false)) := by
  have hloop : ∃ r, lim (rnd (vcall env d) H.length [0, 1, 7, 8] [4] l60_0) [(0, .slice a n (sg a 3)), (1, .func (.func g) #[] cap), (7, .int .i64 (n : Nat)), (8, .int .i64 0)] H = some r ∧
      ((∃ (i : Nat) (x : Vo), r = (.ret, [(4, .int .i64 (i : Nat))], H) ∧ l[i]? = some x ∧ pred x = true ∧ ∀ (j : Nat) (y : Vo), j < i → l[j]? = some y → pred y = false) ∨ (r = (.exit 0, [], H) ∧ ∀ y ∈ l, pred y = false)) := by
    refine lim_inv2 (fun i ts H1 => ts = [(0, .slice a n (sg a 3)), (1, .func (.func g) #[] cap), (7, .int .i64 (n : Nat)), (8, .int .i64 (i : Nat))] ∧ H1 = H ∧ ∀ (j : Nat) (y : Vo), j < i → l[j]? = some y → pred y = false) n ?_ ?_ ?_
    · rintro i ts H1 hi ⟨rfl, rfl, hp⟩
      have hil : i < l.length := by rw [← h.1]; exact hi
      obtain ⟨p, o, rfl, e⟩ := h.at hil
      have e' := e.val
      have hc := hg l[i] (List.getElem_mem hil) H1.length
      simp only [VV] at hc
      cases hpi : pred l[i] with
      | true =>
        rw [hpi] at hc
        exact Or.inr ⟨(.ret, [(4, .int .i64 (i : Nat))], H1), by simp -implicitDefEqProofs only [rnd, l60_0, VMs, noRef, noRef1, isRef, List.all_cons, List.all_nil, vop, VOp.still, VOp.app, VOp.plain, allP, lof, evs, start, asI, vbin, vcells, ntup, setAll, vfill, vress, vres, tup, Nat.reduceEqDiff, ↓reduceIte, Nat.reduceAdd, Nat.reduceMul, Nat.reduceLeDiff, reduceCtorEq, slen, ltc hi, ge0, decide_true, Int.toNat_natCast, e', List.size_toArray, hc], by simp, Or.inl ⟨i, _, rfl, getE hil, hpi, hp⟩⟩
      | false =>
        rw [hpi] at hc
        refine Or.inl ⟨[(0, .slice (some ⟨p, o, none⟩) n 3), (1, .func (.func g) #[] cap), (7, .int .i64 (n : Nat)), (8, .int .i64 ((i + 1 : Nat) : Int))], H1, by simp -implicitDefEqProofs only [rnd, l60_0, VMs, noRef, noRef1, isRef, List.all_cons, List.all_nil, vop, VOp.still, VOp.app, VOp.plain, allP, lof, evs, start, asI, vbin, vcells, ntup, setAll, vfill, vress, vres, tup, Nat.reduceEqDiff, ↓reduceIte, Nat.reduceAdd, Nat.reduceMul, Nat.reduceLeDiff, reduceCtorEq, slen, ltc hi, ge0, decide_true, Int.toNat_natCast, e', List.size_toArray, hc, hn.w hi], rfl, rfl, ?_⟩
        intro j y hj hy
        rcases Nat.lt_succ_iff_lt_or_eq.1 hj with h' | h'
        · exact hp j y h' hy
        · subst h'; rw [getE hil] at hy; cases hy; exact hpi
    · rintro ts H1 ⟨rfl, rfl, hp⟩
      refine ⟨(.exit 0, [], H1), by simp -implicitDefEqProofs only [rnd, l60_0, VMs, noRef, noRef1, isRef, List.all_cons, List.all_nil, vop, VOp.still, VOp.app, VOp.plain, allP, lof, evs, start, asI, vbin, vcells, ntup, setAll, vfill, vress, vres, tup, Nat.reduceEqDiff, ↓reduceIte, Nat.reduceAdd, Nat.reduceMul, Nat.reduceLeDiff, reduceCtorEq, slen, Int.lt_irrefl, decide_false], by simp, Or.inr ⟨rfl, fun y hy => ?_⟩⟩
      obtain ⟨j, hj, rfl⟩ := List.getElem_of_mem hy
      exact hp j _ (by rw [h.1]; exact hj) (getE hj)
    · exact ⟨rfl, rfl, fun j y hj => by omega⟩
  rw [call_eq find60 _ _ _ rfl]
  obtain ⟨r, hl, ⟨i, x, rfl, h1, h2, h3⟩ | ⟨rfl, h1⟩⟩ := hloop
  · exact ⟨i, by simp -implicitDefEqProofs only [v60, VMs, noRef, noRef1, isRef, List.all_cons, List.all_nil, vop, VOp.still, VOp.app, VOp.plain, allP, lof, evs, start, asI, vbin, vcells, ntup, setAll, vfill, vress, vres, tup, Nat.reduceEqDiff, ↓reduceIte, Nat.reduceAdd, Nat.reduceMul, Nat.reduceLeDiff, reduceCtorEq, slen, vlp, hl], Or.inl ⟨i, x, rfl, h1, h2, h3⟩⟩
  · exact ⟨-1, by simp -implicitDefEqProofs only [v60, VMs, noRef, noRef1, isRef, List.all_cons, List.all_nil, vop, VOp.still, VOp.app, VOp.plain, allP, lof, evs, start, asI, vbin, vcells, ntup, setAll, vfill, vress, vres, tup, Nat.reduceEqDiff, ↓reduceIte, Nat.reduceAdd, Nat.reduceMul, Nat.reduceLeDiff, reduceCtorEq, slen, vlp, hl], Or.inr ⟨rfl, h1⟩⟩
theorem filter_all {l : List Vo} {f : Vo → Bool} (h : ∀ y ∈ l, f y = false) : l.filter (fun y => !f y) = l := List.filter_eq_self.2 fun y hy => by simp [h y hy]
theorem take_set_lt {l : List Vo} {i : Nat} {v : Vo} (hi : i < l.length) : (l.set i v).take (i + 1) = l.take i ++ [v] := by
  rw [List.take_succ_eq_append_getElem (by simpa using hi), List.take_set_of_le (Nat.le_refl _)]
  simp
/-- Cells, without those that a test picks. -/
theorem deleteC_c (d lo : Nat) (H : Hp) (i : Nat) (l : List Vo) (h : NC lo H i l) (hn : l.length ≤ 1000) (g : Nat) (cap : Array Value) (pred : Vo → Bool) (hg : ∀ e y H' lo, Fr (· = i) H H' → vcall env (e + 1) g (VV y :: cap.toList) lo H' = some (.bool (pred y), H')) :
    ∃ H', vcall env (d + 3) 52 [.slice (some ⟨i, 0, none⟩) l.length 3, .func (.func g) #[] cap] lo H = some (.slice (some ⟨i, 0, none⟩) (l.filter fun y => !pred y).length 3, H') ∧ Fr (· = i) H H' ∧ Rep EV 3 H' (some ⟨i, 0, none⟩) (l.filter fun y => !pred y).length (l.filter fun y => !pred y) := by
  have hsm : Sm l.length := by unfold Sm; omega
  obtain ⟨r, hc, hr⟩ := indexC_c (d + 1) lo H (some ⟨i, 0, none⟩) l.length l h.rep hsm g cap pred (fun y _ lo => hg d y H lo Fr.refl)
  rw [call_eq find52 _ _ _ rfl]
  simp only [sgs] at hc
  rcases hr with ⟨i0, x0, rfl, h1, h2, h3⟩ | ⟨rfl, h1⟩
  · have hi0 : i0 < l.length := (List.getElem?_eq_some_iff.1 h1).1
    have hf0 : (l.take (i0 + 1)).filter (fun y => !pred y) = l.take i0 := by
      have hx0 : l[i0] = x0 := by have := getE hi0; rw [h1] at this; exact (Option.some.inj this).symm
      rw [List.take_succ_eq_append_getElem hi0, List.filter_append, hx0]
      have e1 : (l.take i0).filter (fun y => !pred y) = l.take i0 := filter_all fun y hy => by
        obtain ⟨j, hj, rfl⟩ := List.getElem_of_mem hy
        rw [List.length_take] at hj
        rw [List.getElem_take]
        exact h3 j _ (by omega) (getE (by omega))
      rw [e1]; simp [h2]
    have hb0 : ((i0 : Int) == -1) = false := by rw [beq_eq_false_iff_ne]; omega
    have hw0 : IntKind.i64.wrap ((i0 : Int) + 1) = ((i0 + 1 : Nat) : Int) := hsm.w hi0
    obtain ⟨k0, hblk, _⟩ := h.b
    have hk0f : ∃ k0', ∀ (H1 : Hp) cs, H1.blk i = some ⟨cs, true, k0⟩ → True := ⟨k0, fun _ _ _ => trivial⟩
    have hloop : ∃ r, lim (rnd (vcall env (d + 2)) lo [0, 1, 5, 6] [0, 4, 5] l52_0) [(0, .slice (some ⟨i, 0, none⟩) l.length 3), (1, .func (.func g) #[] cap), (5, .int .i64 (i0 : Nat)), (6, .int .i64 ((i0 + 1 : Nat) : Int))] H = some r ∧
        ∃ H' m, r = (.exit 0, [(0, .slice (some ⟨i, 0, none⟩) l.length 3), (5, .int .i64 ((l.filter fun y => !pred y).length : Nat))], H') ∧ Fr (· = i) H H' ∧ H'.blk i = some ⟨vC3 m, true, k0⟩ ∧ m.length = l.length ∧ m.take (l.filter fun y => !pred y).length = l.filter fun y => !pred y := by
      have := lim_inv (f := rnd (vcall env (d + 2)) lo [0, 1, 5, 6] [0, 4, 5] l52_0) (Q := fun r => ∃ H' m, r = (.exit 0, [(0, .slice (some ⟨i, 0, none⟩) l.length 3), (5, .int .i64 ((l.filter fun y => !pred y).length : Nat))], H') ∧ Fr (· = i) H H' ∧ H'.blk i = some ⟨vC3 m, true, k0⟩ ∧ m.length = l.length ∧ m.take (l.filter fun y => !pred y).length = l.filter fun y => !pred y)
        (fun z ts H1 => ∃ m, ts = [(0, .slice (some ⟨i, 0, none⟩) l.length 3), (1, .func (.func g) #[] cap), (5, .int .i64 (((l.take (i0 + 1 + z)).filter fun y => !pred y).length : Nat)), (6, .int .i64 ((i0 + 1 + z : Nat) : Int))] ∧ Fr (· = i) H H1 ∧ H1.blk i = some ⟨vC3 m, true, k0⟩ ∧ m.length = l.length ∧ m.take ((l.take (i0 + 1 + z)).filter fun y => !pred y).length = ((l.take (i0 + 1 + z)).filter fun y => !pred y) ∧ (∀ j, i0 + 1 + z ≤ j → m[j]? = l[j]?) ∧ ((l.take (i0 + 1 + z)).filter fun y => !pred y).length ≤ i0 + z) (l.length - (i0 + 1)) ?_ ?_ (ts := [(0, .slice (some ⟨i, 0, none⟩) l.length 3), (1, .func (.func g) #[] cap), (5, .int .i64 (i0 : Nat)), (6, .int .i64 ((i0 + 1 : Nat) : Int))]) (H := H) ?_
      · exact this
      · rintro z ts H1 hz ⟨m, rfl, hfr, hb, hml, hmt, hmd, hle⟩
        have hil : i0 + 1 + z < l.length := by omega
        generalize hzz : i0 + 1 + z = zz at *
        generalize hk : ((l.take zz).filter fun y => !pred y).length = k at *
        have hmz : m[zz]? = some l[zz] := (hmd zz (Nat.le_refl _)).trans (getE hil)
        have hsplit : (l.take (zz + 1)).filter (fun y => !pred y) = (l.take zz).filter (fun y => !pred y) ++ (if pred l[zz] = true then [] else [l[zz]]) := by
          rw [List.take_succ_eq_append_getElem hil, List.filter_append]
          congr 1
          cases hp : pred l[zz] <;> simp [hp]
        have e := (vC3_rep (n := l.length) (m := m) hb rfl (by rw [← hml, List.take_length]) hml.symm).at (j := zz) (by omega)
        obtain ⟨p', o', he, ev⟩ := e
        have hmz' : m[zz]'(by omega) = l[zz] := by rw [getE (by omega : zz < m.length)] at hmz; exact Option.some.inj hmz
        simp only [Option.some.injEq, Addr.mk.injEq, and_true] at he
        obtain ⟨rfl, rfl⟩ := he
        rw [hmz'] at ev
        have hev := ev.val
        have hlo : (lo ≤ H1.length) = True := eq_true (Nat.le_trans h.lo (Nat.le_of_lt (blk_lt hb)))
        rw [Nat.zero_add] at hev
        generalize l[zz] = v at *
        have hgC := fun lo => hg (d + 1) v (H1 ++ [some ⟨[.int .i64 v.i, .int .i64 v.q, .int .i64 v.r], true, false⟩]) lo (hfr.trans Fr.app)
        obtain ⟨C, hC⟩ : ∃ C : Option Blk, C = some ⟨[.int .i64 v.i, .int .i64 v.q, .int .i64 v.r], true, false⟩ := ⟨_, rfl⟩
        rw [← hC] at hgC
        simp only [VV] at hgC
        have hw : IntKind.i64.wrap ((zz : Int) + 1) = ((zz + 1 : Nat) : Int) := hsm.w hil
        have hcc : i0 + 1 + (z + 1) = zz + 1 := by omega
        cases hp : pred v with
        | true =>
          rw [hp, if_pos rfl, List.append_nil] at hsplit
          simp only [hp] at hgC
          refine ⟨_, H1 ++ [C], ?_, m, rfl, hfr.trans Fr.app, blk_keep hb, hml, ?_, fun j hj => hmd j (by omega), ?_⟩
          · rw [hcc, hsplit, hk]
            subst hC
            simp -implicitDefEqProofs only [rnd, l52_0, VMs, noRef, noRef1, isRef, List.all_cons, List.all_nil, vop, VOp.still, VOp.app, VOp.plain, allP, lof, evs, start, asI, vbin, vcells, ntup, setAll, vfill, vress, vres, tup, Nat.reduceEqDiff, ↓reduceIte, Nat.reduceAdd, Nat.reduceMul, Nat.reduceLeDiff, reduceCtorEq, slen, ltc hil, ge0, hlo, decide_true, Int.toNat_natCast, hev, List.size_toArray, hgC, hw]
          · rw [hcc, hsplit, hk]; exact hmt
          · rw [hcc, hsplit, hk]; omega
        | false =>
          rw [hp, if_neg (by simp)] at hsplit
          simp only [hp] at hgC
          have hkl : k < l.length := by omega
          have hbC : Hp.blk (H1 ++ [C]) i = some ⟨vC3 m, true, k0⟩ := blk_keep hb
          have hwr : wrN lo (H1 ++ [C]) ⟨i, k * 3, none⟩ [.int .i64 v.i, .int .i64 v.q, .int .i64 v.r] = some ((H1 ++ [C]).set i (some ⟨vC3 (m.set k v), true, k0⟩)) := by
            simp only [wrN, hbC, Option.bind_some]
            rw [if_pos ⟨h.lo, trivial, by rw [vC3_len]; simp; omega⟩]
            have := vC3_set m k v (by omega)
            simp only [vXX3] at this
            rw [this]
          have hkw : IntKind.i64.wrap ((k : Int) + 1) = ((k + 1 : Nat) : Int) := hsm.w hkl
          have hi1 : i < (H1 ++ [C] : Hp).length := blk_lt hbC
          have hlen : ((l.take (zz + 1)).filter fun y => !pred y).length = k + 1 := by rw [hsplit, List.length_append, hk]; rfl
          have hfr2 : Fr (· = i) (H1 ++ [C]) ((H1 ++ [C]).set i (some ⟨vC3 (m.set k v), true, k0⟩)) :=
            ⟨by simp, fun j _ hj => by rw [blk_set hi1, if_neg hj], fun lo j ⟨g1, b, g2, g3⟩ => by
              by_cases hji : j = i
              · subst hji; exact ⟨g1, _, by rw [blk_set hi1, if_pos rfl], rfl⟩
              · exact ⟨g1, b, by rw [blk_set hi1, if_neg hji, g2], g3⟩⟩
          refine ⟨_, _, ?_, m.set k v, rfl, (hfr.trans Fr.app).trans hfr2, by rw [blk_set hi1, if_pos rfl], by simpa using hml, ?_, fun j hj => ?_, ?_⟩
          · rw [hcc, hlen]
            subst hC
            simp -implicitDefEqProofs only [rnd, l52_0, VMs, noRef, noRef1, isRef, List.all_cons, List.all_nil, vop, VOp.still, VOp.app, VOp.plain, allP, lof, evs, start, asI, vbin, vcells, ntup, setAll, vfill, vress, vres, tup, Nat.reduceEqDiff, ↓reduceIte, Nat.reduceAdd, Nat.reduceMul, Nat.reduceLeDiff, reduceCtorEq, slen, ltc hil, ltc hkl, ge0, hlo, decide_true, Int.toNat_natCast, hev, List.size_toArray, hgC, hwr, hkw, hw]
          · rw [hcc, hlen, take_set_lt (by omega), hmt, hsplit]
          · rw [List.getElem?_set, if_neg (by omega)]; exact hmd j (by omega)
          · rw [hcc, hlen]; omega
      · rintro ts H1 ⟨m, rfl, hfr, hb, hml, hmt, hmd, hle⟩
        have hend : i0 + 1 + (l.length - (i0 + 1)) = l.length := by omega
        simp only [hend, List.take_length] at hmt ⊢
        refine ⟨(.exit 0, [(0, .slice (some ⟨i, 0, none⟩) l.length 3), (5, .int .i64 ((l.filter fun y => !pred y).length : Nat))], H1), by simp -implicitDefEqProofs only [rnd, l52_0, VMs, noRef, noRef1, isRef, List.all_cons, List.all_nil, vop, VOp.still, VOp.app, VOp.plain, allP, lof, evs, start, asI, vbin, vcells, ntup, setAll, vfill, vress, vres, tup, Nat.reduceEqDiff, ↓reduceIte, Nat.reduceAdd, Nat.reduceMul, Nat.reduceLeDiff, reduceCtorEq, slen, Int.lt_irrefl, decide_false], by simp, H1, m, rfl, hfr, hb, hml, hmt⟩
      · refine ⟨l, ?_, Fr.refl, hblk, rfl, ?_, fun j _ => rfl, ?_⟩
        · rw [Nat.add_zero, hf0, List.length_take]
          simp only [List.cons.injEq, Prod.mk.injEq, Value.int.injEq, true_and, and_true]
          omega
        · rw [Nat.add_zero, hf0, List.length_take, Nat.min_eq_left (by omega)]
        · rw [Nat.add_zero, hf0, List.length_take]; omega
    obtain ⟨_, hl, H1, m, rfl, hfr, hb, hml, hmt⟩ := hloop
    have hkn : (l.filter fun y => !pred y).length ≤ l.length := List.length_filter_le _ _
    generalize hkk : (l.filter fun y => !pred y).length = k at *
    have hz1 : ((k : Int) ≤ (l.length : Int)) = True := eq_true (by omega)
    have hsub : ((l.length : Int) - (k : Int)).toNat = l.length - k := by omega
    have hkz : ((k : Int) - 0).toNat = k := by omega
    have hi1 := blk_lt hb
    have hclr : (List.replicate (l.length - k) [Value.int .i64 0, Value.int .i64 0, Value.int .i64 0]).flatten.length = (l.length - k) * 3 := zI_len _ 3 _ rfl
    have hwr : wrN lo H1 ⟨i, k * 3, none⟩ (List.replicate (l.length - k) [Value.int .i64 0, Value.int .i64 0, Value.int .i64 0]).flatten = some (H1.set i (some ⟨setAll (vC3 m) (k * 3) (List.replicate (l.length - k) [Value.int .i64 0, Value.int .i64 0, Value.int .i64 0]).flatten, true, k0⟩)) := by
      simp only [wrN, hb, Option.bind_some]
      rw [if_pos ⟨h.lo, trivial, by rw [hclr, vC3_len]; omega⟩]
    have hlk : (l.length - k = 0) = False ∨ l.length - k = 0 := by
      by_cases e : l.length - k = 0
      · exact Or.inr e
      · exact Or.inl (eq_false e)
    have hkl : k < l.length := by
      rw [← hkk]
      have := List.length_filter_lt_length_iff_exists (l := l) (p := fun y => !pred y)
      exact this.2 ⟨x0, List.mem_of_getElem? h1, by simp [h2]⟩
    have hnz : (l.length - k = 0) = False := eq_false (by omega)
    refine ⟨H1.set i (some ⟨setAll (vC3 m) (k * 3) (List.replicate (l.length - k) [Value.int .i64 0, Value.int .i64 0, Value.int .i64 0]).flatten, true, k0⟩), ?_, ?_, ?_⟩
    · simp -implicitDefEqProofs only [v52, VMs, noRef, noRef1, isRef, List.all_cons, List.all_nil, vop, VOp.still, VOp.app, VOp.plain, allP, lof, evs, start, asI, vbin, vcells, ntup, setAll, vfill, vress, vres, tup, Nat.reduceEqDiff, ↓reduceIte, Nat.reduceAdd, Nat.reduceMul, Nat.reduceLeDiff, reduceCtorEq, hc, hb0, hw0, vlp, hl, vslice, ge0, hz1, hsub, hkz, Int.toNat_natCast, hnz, hwr, Int.le_refl, Nat.zero_mul, Int.toNat_zero]
    · exact hfr.trans ⟨by simp, fun j _ hj => by rw [blk_set hi1, if_neg hj], fun lo j ⟨g1, b, g2, g3⟩ => by
        by_cases hji : j = i
        · subst hji; exact ⟨g1, _, by rw [blk_set hi1, if_pos rfl], rfl⟩
        · exact ⟨g1, b, by rw [blk_set hi1, if_neg hji, g2], g3⟩⟩
    · refine ⟨by rw [hkk], fun _ => ⟨i, 0, rfl, fun j x hx => ?_⟩⟩
      have hj : j < k := by have := (List.getElem?_eq_some_iff.1 hx).1; omega
      rw [← hmt, List.getElem?_take, if_pos hj] at hx
      have hs := fun q (hq : q < 3) => vC3_at m j x hx q hq
      have hat : ∀ q, q < 3 → (setAll (vC3 m) (k * 3) (List.replicate (l.length - k) [Value.int .i64 0, Value.int .i64 0, Value.int .i64 0]).flatten)[j * 3 + q]? = (vXX3 x)[q]? := fun q hq => by
        rw [setAll_at _ _ _ _ (by rw [hclr, vC3_len]; omega), if_neg (by omega)]
        exact hs q hq
      simp only [EV, rd, blk_set hi1, if_true, Option.bind_some, Nat.zero_add]
      exact ⟨hat 0 (by omega), hat 1 (by omega), hat 2 (by omega)⟩
  · have hf := filter_all (l := l) (f := pred) h1
    rw [hf]
    exact ⟨H, by simp -implicitDefEqProofs only [v52, VMs, noRef, noRef1, isRef, List.all_cons, List.all_nil, vop, VOp.still, VOp.app, VOp.plain, allP, lof, evs, start, asI, vbin, vcells, ntup, setAll, vfill, vress, vres, tup, Nat.reduceEqDiff, ↓reduceIte, Nat.reduceAdd, Nat.reduceMul, Nat.reduceLeDiff, reduceCtorEq, hc, beq_self_eq_true], Fr.refl, h.rep⟩
end Go.Proofs.YtohanpndekfbgaaDoor.V
