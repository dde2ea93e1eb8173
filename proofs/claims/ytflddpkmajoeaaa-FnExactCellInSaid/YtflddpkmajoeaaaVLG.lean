/- The place of a cell: a walk, and a search that halves. -/
import Derived.Test.YtflddpkmajoeaaaVLF
namespace Go.Proofs.Ytflddpkmajoeaaa.V
open Go
set_option linter.unusedVariables false
set_option linter.unusedSimpArgs false
set_option maxRecDepth 100000
/-- The first place with a cell of a volume and a place; -1: there is none. -/
def atC (l : List Vo) (vol at_ : Int) : Int := match l.findIdx? (fun c => c.i == vol && c.q == at_) with
  | some i => (i : Int)
  | none => -1
theorem atC_some {l : List Vo} {vol at_ : Int} {i : Nat} {x : Vo} (h1 : l[i]? = some x) (h2 : x.i = vol ∧ x.q = at_) (h3 : ∀ (j : Nat) (y : Vo), j < i → l[j]? = some y → ¬ (y.i = vol ∧ y.q = at_)) : atC l vol at_ = (i : Int) := by
  obtain ⟨hi, e⟩ := List.getElem?_eq_some_iff.1 h1
  have : l.findIdx? (fun c => c.i == vol && c.q == at_) = some i := by
    rw [List.findIdx?_eq_some_iff_getElem]
    exact ⟨hi, by rw [e]; simp [h2], fun j hj => by simpa using h3 j _ hj (getE (by omega))⟩
  unfold atC; rw [this]
theorem atC_none {l : List Vo} {vol at_ : Int} (h : ∀ y ∈ l, ¬ (y.i = vol ∧ y.q = at_)) : atC l vol at_ = -1 := by
  have : l.findIdx? (fun c => c.i == vol && c.q == at_) = none := by
    rw [List.findIdx?_eq_none_iff]
    exact fun y hy => by simpa using h y hy
  unfold atC; rw [this]
theorem atC_cases (l : List Vo) (vol at_ : Int) : atC l vol at_ = -1 ∨ ∃ (i : Nat) (hi : i < l.length), atC l vol at_ = (i : Int) := by
  unfold atC
  cases h : l.findIdx? (fun c => c.i == vol && c.q == at_) with
  | none => exact Or.inl rfl
  | some i =>
    rw [List.findIdx?_eq_some_iff_getElem] at h
    exact Or.inr ⟨i, h.1, rfl⟩
theorem l6At_c (d lo : Nat) (H : Hp) {q av nv ac nc az nz p} (h : PL H q av nv ac nc az nz p) (hs : SL p) (vol at_ : Int) :
    vcall env (d + 1) 97 [.pointer (some ⟨q, 0, none⟩), .int .i64 vol, .int .i64 at_] lo H = some (.int .i64 (atC p.c vol at_), H) := by
  have n2 := h.r.c.1
  have hn : Sm nc := n2 ▸ hs.c
  have hv := h.c
  have hloop : ∃ r, lim (rnd (vcall env d) H.length [0, 1, 2, 7] [6] l97_0) [(0, .pointer (some ⟨q, 0, none⟩)), (1, .int .i64 vol), (2, .int .i64 at_), (7, .int .i64 0)] H = some r ∧
      ((∃ (i : Nat) (x : Vo), r = (.ret, [(6, .int .i64 (i : Nat))], H) ∧ p.c[i]? = some x ∧ (x.i = vol ∧ x.q = at_) ∧ ∀ (j : Nat) (y : Vo), j < i → p.c[j]? = some y → ¬ (y.i = vol ∧ y.q = at_)) ∨ (r = (.exit 0, [], H) ∧ ∀ y ∈ p.c, ¬ (y.i = vol ∧ y.q = at_))) := by
    refine lim_inv2 (fun i ts H1 => ts = [(0, .pointer (some ⟨q, 0, none⟩)), (1, .int .i64 vol), (2, .int .i64 at_), (7, .int .i64 (i : Nat))] ∧ H1 = H ∧ ∀ (j : Nat) (y : Vo), j < i → p.c[j]? = some y → ¬ (y.i = vol ∧ y.q = at_)) nc ?_ ?_ ?_
    · rintro i ts H1 hi ⟨rfl, rfl, hp⟩
      have hil : i < p.c.length := by omega
      obtain ⟨pp, o, rfl, e1, e2, e3⟩ := h.r.c.at hil
      simp only [sgs] at hv
      have next : ¬ (p.c[i].i = vol ∧ p.c[i].q = at_) → ∀ (j : Nat) (y : Vo), j < i + 1 → p.c[j]? = some y → ¬ (y.i = vol ∧ y.q = at_) := fun hno j y hj hy => by
        rcases Nat.lt_succ_iff_lt_or_eq.1 hj with h' | h'
        · exact hp j y h' hy
        · subst h'; rw [getE hil] at hy; cases hy; exact hno
      by_cases h1 : p.c[i].i = vol
      · have hb : (p.c[i].i == vol) = true := by simp [h1]
        by_cases h2 : p.c[i].q = at_
        · have hb2 : (p.c[i].q == at_) = true := by simp [h2]
          exact Or.inr ⟨(.ret, [(6, .int .i64 (i : Nat))], H1), by simp -implicitDefEqProofs only [rnd, l97_0, VMs, noRef, noRef1, isRef, List.all_cons, List.all_nil, vop, VOp.still, evs, start, asI, vbin, vcells, ntup, setAll, vfill, vress, vres, tup, Nat.reduceEqDiff, ↓reduceIte, Nat.reduceAdd, Nat.reduceMul, Nat.reduceLeDiff, reduceCtorEq, hv, slen, ltc hi, ge0, decide_true, Int.toNat_natCast, e1, e2, hb, hb2], by simp, Or.inl ⟨i, _, rfl, getE hil, ⟨h1, h2⟩, hp⟩⟩
        · have hb2 : (p.c[i].q == at_) = false := by simp [h2]
          exact Or.inl ⟨[(0, .pointer (some ⟨q, 0, none⟩)), (1, .int .i64 vol), (2, .int .i64 at_), (7, .int .i64 ((i + 1 : Nat) : Int))], H1, by simp -implicitDefEqProofs only [rnd, l97_0, VMs, noRef, noRef1, isRef, List.all_cons, List.all_nil, vop, VOp.still, evs, start, asI, vbin, vcells, ntup, setAll, vfill, vress, vres, tup, Nat.reduceEqDiff, ↓reduceIte, Nat.reduceAdd, Nat.reduceMul, Nat.reduceLeDiff, reduceCtorEq, hv, slen, ltc hi, ge0, decide_true, Int.toNat_natCast, e1, e2, hb, hb2, hn.w hi], rfl, rfl, next fun hh => h2 hh.2⟩
      · have hb : (p.c[i].i == vol) = false := by simp [h1]
        exact Or.inl ⟨[(0, .pointer (some ⟨q, 0, none⟩)), (1, .int .i64 vol), (2, .int .i64 at_), (7, .int .i64 ((i + 1 : Nat) : Int))], H1, by simp -implicitDefEqProofs only [rnd, l97_0, VMs, noRef, noRef1, isRef, List.all_cons, List.all_nil, vop, VOp.still, evs, start, asI, vbin, vcells, ntup, setAll, vfill, vress, vres, tup, Nat.reduceEqDiff, ↓reduceIte, Nat.reduceAdd, Nat.reduceMul, Nat.reduceLeDiff, reduceCtorEq, hv, slen, ltc hi, ge0, decide_true, Int.toNat_natCast, e1, hb, hn.w hi], rfl, rfl, next fun hh => h1 hh.1⟩
    · rintro ts H1 ⟨rfl, rfl, hp⟩
      refine ⟨(.exit 0, [], H1), by simp -implicitDefEqProofs only [rnd, l97_0, VMs, noRef, noRef1, isRef, List.all_cons, List.all_nil, vop, VOp.still, evs, start, asI, vbin, vcells, ntup, setAll, vfill, vress, vres, tup, Nat.reduceEqDiff, ↓reduceIte, Nat.reduceAdd, Nat.reduceMul, Nat.reduceLeDiff, reduceCtorEq, hv, slen, Int.lt_irrefl, decide_false], by simp, Or.inr ⟨rfl, fun y hy => ?_⟩⟩
      obtain ⟨j, hj, rfl⟩ := List.getElem_of_mem hy
      exact hp j _ (by rw [n2]; exact hj) (getE hj)
    · exact ⟨rfl, rfl, fun j y hj => by omega⟩
  rw [call_eq find97 _ _ _ rfl]
  obtain ⟨r, hl, ⟨i, x, rfl, h1, h2, h3⟩ | ⟨rfl, h1⟩⟩ := hloop
  · rw [atC_some h1 h2 h3]; simp -implicitDefEqProofs only [v97, VMs, noRef, noRef1, isRef, List.all_cons, List.all_nil, vop, VOp.still, evs, start, asI, vbin, vcells, ntup, setAll, vfill, vress, vres, tup, Nat.reduceEqDiff, ↓reduceIte, Nat.reduceAdd, Nat.reduceMul, Nat.reduceLeDiff, reduceCtorEq, vlp, hl]
  · rw [atC_none h1]; simp -implicitDefEqProofs only [v97, VMs, noRef, noRef1, isRef, List.all_cons, List.all_nil, vop, VOp.still, evs, start, asI, vbin, vcells, ntup, setAll, vfill, vress, vres, tup, Nat.reduceEqDiff, ↓reduceIte, Nat.reduceAdd, Nat.reduceMul, Nat.reduceLeDiff, reduceCtorEq, vlp, hl]
theorem ahead_trans {a b c : Vo} (h : ahead a b = true) (h' : ahead b c = true) : ahead a c = true := by
  unfold ahead at *
  by_cases h1 : a.i = b.i <;> by_cases h2 : b.i = c.i
  · have h3 : a.i = c.i := by omega
    simp [h1, h2] at h h' ⊢; omega
  · have h3 : a.i ≠ c.i := by omega
    simp [h1, h2] at h h' ⊢; omega
  · have h3 : a.i ≠ c.i := by omega
    simp [h2] at h'
    simp [h1] at h
    rw [if_pos h3]; simp; omega
  · simp [h1] at h
    simp [h2] at h'
    have h3 : a.i ≠ c.i := by omega
    rw [if_pos h3]; simp; omega
theorem ahead_irr {a b : Vo} (h1 : a.i = b.i) (h2 : a.q = b.q) : ahead a b = false := by
  unfold ahead; simp [h1, h2]
/-- Cells in order. -/
def Sorted (l : List Vo) : Prop := ∀ (j k : Nat) (hk : k < l.length) (hjk : j < k), ahead (l[j]'(by omega)) l[k] = true
theorem sorted_of {vs cs : List Vo} (h : ∀ y ∈ dCs vs cs, y = 0) : Sorted cs := by
  have step : ∀ (k : Nat) (hk : k + 1 < cs.length), ahead (cs[k]'(by omega)) cs[k + 1] = true := fun k hk => by
    have h1 : dC vs cs (k + 1) = 0 := h _ (List.mem_map.2 ⟨k + 1, List.mem_range.2 hk, rfl⟩)
    unfold dC at h1
    rw [getE hk] at h1
    simp only at h1
    by_cases hc : (0 ≤ cs[k + 1].q ∧ cs[k + 1].q ≤ 15) ∧ 0 ≤ cs[k + 1].r ∧ cs[k + 1].r ≤ 255
    · rw [if_pos hc] at h1
      by_cases ha : atV vs cs[k + 1].i = -1
      · rw [if_pos ha] at h1; omega
      · rw [if_neg ha, Nat.add_sub_cancel, getE (by omega), Option.getD_some] at h1
        cases hh : ahead (cs[k]'(by omega)) cs[k + 1] with
        | true => rfl
        | false => rw [if_pos ⟨by omega, hh⟩] at h1; omega
    · rw [if_neg hc] at h1; omega
  intro j k hk hjk
  induction k with
  | zero => omega
  | succ k ih =>
    rcases Nat.lt_succ_iff_lt_or_eq.1 hjk with h' | h'
    · exact ahead_trans (ih (by omega) h') (step k hk)
    · subst h'; exact step j hk
theorem ordC_neg (a b : Vo) : ordC a b < 0 ↔ ahead a b = true := by
  have := ordC_ahead a b
  constructor
  · intro h
    cases hh : ahead a b with
    | true => rfl
    | false => have := this.2 hh; omega
  · intro h
    by_cases h0 : ordC a b ≥ 0
    · have := this.1 h0; rw [h] at this; cases this
    · omega
theorem ordC_eq (a b : Vo) : ordC a b = 0 ↔ a.i = b.i ∧ a.q = b.q := by
  unfold ordC cmpI ff
  by_cases h1 : a.i < b.i
  · simp [h1, ff]; omega
  · by_cases h2 : a.i > b.i
    · simp [h1, h2, ff]; omega
    · have he : a.i = b.i := by omega
      by_cases h3 : a.q < b.q
      · simp [he, h3, ff]; omega
      · by_cases h4 : a.q > b.q
        · simp [he, h3, h4, ff]; omega
        · simp [he, h3, h4, ff]; omega
theorem half (m : Nat) (h : m ≤ 1000) : (IntKind.u64.wrap (m : Int)).fdiv (2 ^ min (Int.toNat 1) IntKind.u64.bits) = ((m / 2 : Nat) : Int) := by
  have e : IntKind.u64.wrap (m : Int) = (m : Int) := by simp only [IntKind.wrap, IntKind.bits, IntKind.signed, Bool.false_and, Bool.false_eq_true, if_false]; omega
  have e2 : ((2 : Int) ^ min (Int.toNat 1) IntKind.u64.bits) = 2 := rfl
  rw [e, e2, Int.fdiv_eq_ediv_of_nonneg _ (by omega)]
  omega
theorem bsearch_c (d lo : Nat) (H : Hp) {a : Option Addr} {n : Nat} {l : List Vo} (h : Rep EV 3 H a n l) (hn : n ≤ 96) (hs : Sorted l) (t : Vo) :
    ∃ (i : Nat) (b : Bool), vcall env (d + 4) 144 [.slice a n (sg a 3), VV t, .func (.func 95) #[] #[]] lo H = some (.tuple #[.int .i64 (i : Nat), .bool b], H) ∧ ((b = true ∧ i < n ∧ atC l t.i t.q = (i : Int)) ∨ (b = false ∧ atC l t.i t.q = -1)) := by
  have hnl := h.1
  obtain ⟨C, hC⟩ : ∃ C : Option Blk, C = some ⟨[.int .i64 t.i, .int .i64 t.q, .int .i64 t.r], true, false⟩ := ⟨_, rfl⟩
  have h' := h.fnV (Fr.app (l := [C]))
  have htC : rdN (H ++ [C]) ⟨H.length, 0, none⟩ 3 = some [.int .i64 t.i, .int .i64 t.q, .int .i64 t.r] := by simp [rdN0, hC]
  have hord := fun e lo H x => cellOrder_c e lo H x t
  simp only [VV] at hord
  have h10 : ((1 : Int) < 0) = False := eq_false (by omega)
  have hat : ∀ (k : Nat) (hk : k < l.length), rdN (H ++ [C]) (match a with | some A => ⟨A.block, A.off + k * 3, none⟩ | none => ⟨0, 0, none⟩) 3 = some [.int .i64 l[k].i, .int .i64 l[k].q, .int .i64 l[k].r] := fun k hk => by
    obtain ⟨p, o, rfl, e⟩ := h'.at hk
    exact e.val
  have key : ∀ (m i j : Nat), j - i ≤ m → i ≤ j → j ≤ n → (∀ (k : Nat) (hk : k < l.length), k < i → ahead l[k] t = true) → (∀ (k : Nat) (hk : k < l.length), j ≤ k → ahead l[k] t = false) →
      ∃ i', lim (rnd (vcall env (d + 3)) H.length [0, 2, 4, 8, 9, 10] [0, 2, 4, 6, 7, 8, 9] l144_0) [(0, .slice a n (sg a 3)), (2, .func (.func 95) #[] #[]), (4, .pointer (some ⟨H.length, 0, none⟩)), (8, .int .i64 (n : Nat)), (9, .int .i64 (i : Nat)), (10, .int .i64 (j : Nat))] (H ++ [C]) = some (.exit 0, [(0, .slice a n (sg a 3)), (2, .func (.func 95) #[] #[]), (4, .pointer (some ⟨H.length, 0, none⟩)), (8, .int .i64 (n : Nat)), (9, .int .i64 (i' : Nat))], H ++ [C]) ∧ i' ≤ n ∧ (∀ (k : Nat) (hk : k < l.length), k < i' → ahead l[k] t = true) ∧ (∀ (k : Nat) (hk : k < l.length), i' ≤ k → ahead l[k] t = false) := by
    intro m
    induction m with
    | zero =>
      intro i j hm hij hjn h1 h2
      obtain rfl : i = j := by omega
      have hlt : decide ((i : Int) < (i : Int)) = false := by simp
      exact ⟨i, lim_end (by simp -implicitDefEqProofs only [rnd, l144_0, VMs, noRef, noRef1, isRef, List.all_cons, List.all_nil, vop, VOp.still, evs, start, asI, vbin, vcells, ntup, setAll, vfill, vress, vres, tup, Nat.reduceEqDiff, ↓reduceIte, Nat.reduceAdd, Nat.reduceMul, Nat.reduceLeDiff, reduceCtorEq, hlt]) (by simp), hjn, h1, h2⟩
    | succ m ih =>
      intro i j hm hij hjn h1 h2
      by_cases hlt : i < j
      · obtain ⟨c, hc⟩ : ∃ c, c = (i + j) / 2 := ⟨_, rfl⟩
        have hci : i ≤ c ∧ c < j := by omega
        have hcl : c < l.length := by omega
        have hcn : c < n := by omega
        have hl1 : ((i : Int) < (j : Int)) = True := eq_true (by omega)
        have w1 : IntKind.i64.wrap ((i : Int) + (j : Int)) = ((i + j : Nat) : Int) := by rw [wr (by omega) (by omega)]; omega
        have w2 := half (i + j) (by omega)
        rw [← hc] at w2
        have w3 : IntKind.i64.wrap (c : Int) = (c : Int) := wr (by omega) (by omega)
        have w4 : IntKind.i64.wrap ((c : Int) + 1) = ((c + 1 : Nat) : Int) := by rw [wr (by omega) (by omega)]; rfl
        have hx := hat c hcl
        obtain ⟨p, o, rfl, _⟩ := h'.at hcl
        simp only [sgs] at ih ⊢
        simp only at hx
        cases hah : ahead l[c] t with
        | true =>
          have hd : decide (ordC l[c] t < 0) = true := decide_eq_true ((ordC_neg _ _).2 hah)
          obtain ⟨i', g1, g2, g3, g4⟩ := ih (c + 1) j (by omega) (by omega) hjn (fun k hk hkc => by
            rcases Nat.lt_succ_iff_lt_or_eq.1 hkc with e | e
            · exact ahead_trans (hs k c hcl e) hah
            · subst e; exact hah) h2
          refine ⟨i', lim_step ?_ g1, g2, g3, g4⟩
          simp -implicitDefEqProofs only [rnd, l144_0, VMs, noRef, noRef1, isRef, List.all_cons, List.all_nil, vop, VOp.still, evs, start, asI, vbin, vcells, ntup, setAll, vfill, vress, vres, tup, Nat.reduceEqDiff, ↓reduceIte, Nat.reduceAdd, Nat.reduceMul, Nat.reduceLeDiff, reduceCtorEq, vdr, hl1, decide_true, w1, h10, w2, w3, slen, ltc hcn, ge0, Int.toNat_natCast, hx, htC, List.size_toArray, hord, hd, w4]
        | false =>
          have hd : decide (ordC l[c] t < 0) = false := decide_eq_false (fun e => by rw [(ordC_neg _ _).1 e] at hah; cases hah)
          obtain ⟨i', g1, g2, g3, g4⟩ := ih i c (by omega) (by omega) (by omega) h1 (fun k hk hkc => by
            rcases Nat.lt_or_eq_of_le hkc with e | e
            · cases hh : ahead l[k] t with
              | false => rfl
              | true => have := ahead_trans (hs c k hk e) hh; rw [hah] at this; cases this
            · subst e; exact hah)
          refine ⟨i', lim_step ?_ g1, g2, g3, g4⟩
          simp -implicitDefEqProofs only [rnd, l144_0, VMs, noRef, noRef1, isRef, List.all_cons, List.all_nil, vop, VOp.still, evs, start, asI, vbin, vcells, ntup, setAll, vfill, vress, vres, tup, Nat.reduceEqDiff, ↓reduceIte, Nat.reduceAdd, Nat.reduceMul, Nat.reduceLeDiff, reduceCtorEq, vdr, hl1, decide_true, w1, h10, w2, w3, slen, ltc hcn, ge0, Int.toNat_natCast, hx, htC, List.size_toArray, hord, hd, w4]
      · obtain rfl : i = j := by omega
        have hlt : decide ((i : Int) < (i : Int)) = false := by simp
        exact ⟨i, lim_end (by simp -implicitDefEqProofs only [rnd, l144_0, VMs, noRef, noRef1, isRef, List.all_cons, List.all_nil, vop, VOp.still, evs, start, asI, vbin, vcells, ntup, setAll, vfill, vress, vres, tup, Nat.reduceEqDiff, ↓reduceIte, Nat.reduceAdd, Nat.reduceMul, Nat.reduceLeDiff, reduceCtorEq, hlt]) (by simp), hjn, h1, h2⟩
  obtain ⟨i, hl, hin, g3, g4⟩ := key n 0 n (by omega) (by omega) (Nat.le_refl _) (fun k hk h0 => by omega) (fun k hk h0 => by omega)
  simp only [Int.natCast_zero] at hl
  rw [call_eq find144 _ _ _ rfl]
  by_cases hi : i < n
  · have hil : i < l.length := by omega
    have hx := hat i hil
    obtain ⟨p, o, rfl, _⟩ := h'.at hil
    simp only at hx
    simp only [sgs] at hl
    refine ⟨i, ordC l[i] t == 0, ?_, ?_⟩
    · subst hC
      simp -implicitDefEqProofs only [VV, v144, VMs, noRef, noRef1, isRef, List.all_cons, List.all_nil, vop, VOp.still, evs, start, asI, vbin, vcells, ntup, setAll, vfill, vress, vres, tup, Nat.reduceEqDiff, ↓reduceIte, Nat.reduceAdd, Nat.reduceMul, Nat.reduceLeDiff, reduceCtorEq, slen, vlp, hl, vdr, ltc hi, decide_true, ge0, Int.toNat_natCast, hx, htC, List.size_toArray, hord]
    · by_cases he : ordC l[i] t = 0
      · have h2 := (ordC_eq _ _).1 he
        refine Or.inl ⟨by simp [he], hi, atC_some (getE hil) h2 fun j y hj hy => ?_⟩
        rw [getE (by omega)] at hy; cases hy
        intro hh
        have := g3 j (by omega) hj
        rw [ahead_irr hh.1 hh.2] at this; cases this
      · refine Or.inr ⟨by simp [he], atC_none fun y hy hh => ?_⟩
        obtain ⟨j, hj, rfl⟩ := List.getElem_of_mem hy
        rcases Nat.lt_trichotomy j i with e | e | e
        · have := g3 j hj e
          rw [ahead_irr hh.1 hh.2] at this; cases this
        · subst e; exact he ((ordC_eq _ _).2 hh)
        · have h5 := hs i j hj e
          have h6 := g4 i hil (Nat.le_refl _)
          have h7 : ahead l[i] t = true := by
            unfold ahead at h5 ⊢
            rw [hh.1, hh.2] at h5; exact h5
          rw [h6] at h7; cases h7
  · have hni : ((i : Int) < (n : Int)) = False := eq_false (by omega)
    refine ⟨i, false, ?_, Or.inr ⟨rfl, atC_none fun y hy hh => ?_⟩⟩
    · subst hC
      simp -implicitDefEqProofs only [VV, v144, VMs, noRef, noRef1, isRef, List.all_cons, List.all_nil, vop, VOp.still, evs, start, asI, vbin, vcells, ntup, setAll, vfill, vress, vres, tup, Nat.reduceEqDiff, ↓reduceIte, Nat.reduceAdd, Nat.reduceMul, Nat.reduceLeDiff, reduceCtorEq, slen, vlp, hl, vdr, hni, decide_false]
    · obtain ⟨j, hj, rfl⟩ := List.getElem_of_mem hy
      have := g3 j hj (by omega)
      rw [ahead_irr hh.1 hh.2] at this; cases this
end Go.Proofs.Ytflddpkmajoeaaa.V
