/- The bytes' disk. -/
import Derived.Test.YtaahjfjpbilfnaaVQB
namespace Go.Proofs.Ytaahjfjpbilfnaa.V
open Go
set_option linter.unusedVariables false
set_option linter.unusedSimpArgs false
set_option maxRecDepth 100000
theorem Hd.down {lo L : Nat} {H : Hp} {a : Option Addr} {n st : Nat} {M : List Value} (h : Hd L H a n st M) (hl : lo ≤ L) : Hd lo H a n st M := by
  rcases h with h | ⟨j, k0, h1, h2, h3, h4, h5⟩
  · exact Or.inl h
  · exact Or.inr ⟨j, k0, h1, h2, h3, h4, by omega⟩
theorem Hd.up {lo L : Nat} {H : Hp} {i n st : Nat} {M : List Value} (h : Hd lo H (some ⟨i, 0, none⟩) n st M) (hl : L ≤ i) : Hd L H (some ⟨i, 0, none⟩) n st M := by
  rcases h with ⟨e, _⟩ | ⟨j, k0, h1, h2, h3, h4, h5⟩
  · cases e
  · cases h1; exact Or.inr ⟨i, k0, rfl, h2, h3, h4, hl⟩
/-- A disk that was drawn, in new memory. -/
structure DK (H0 H : Hp) (q : Nat) (ac : Option Addr) (code : List Int) (k W o : Nat) (full : List Int) (ap : Option Addr) (D : Dk) : Prop where
  w : Fw (· = q) H0 H
  s : ∃ k', k ≤ k' ∧ k' ≤ k + 100 ∧ Src H q ac code k'
  cw : H.blk W = some ⟨vI full, true, false⟩
  l : full.length = 64
  o1 : o ≤ 1
  dw : D.w = full.drop o
  hp : Hd H0.length H ap D.p.length 2 (vP D.p)
  pl : D.p.length ≤ 201
  wl : H0.length ≤ W
  pn : ∀ i, Ad ap i → i ≠ W
theorem DK.rd {H0 H q ac code k W o full ap D} (h : DK H0 H q ac code k W o full ap D) : RD H (some ⟨W, o, none⟩) D.w.length ap D.p.length D :=
  ⟨⟨rfl, fun _ => ⟨W, o, rfl, fun j x hx => by
    rw [h.dw, List.getElem?_drop] at hx
    simp only [EI, V.rd, h.cw, Option.bind_some, Nat.mul_one, vI, List.getElem?_map, hx, Option.map_some]⟩⟩, h.hp.repP⟩
theorem DK.sd {H0 H q ac code k W o full ap D} (h : DK H0 H q ac code k W o full ap D) : SD D := ⟨by rw [h.dw, List.length_drop, h.l]; unfold Sm; omega, by have := h.pl; unfold Sm; omega⟩
theorem zP_flat (n : Nat) : (List.replicate n [Value.int .i64 0, .int .i64 0]).flatten = vP (List.replicate n ⟨0, 0⟩) := by
  induction n with
  | zero => rfl
  | succ n ih =>
    simp only [List.replicate_succ, List.flatten_cons, ih, vP, List.flatMap_cons]; rfl
theorem Ad.self {i o : Nat} : Ad (some ⟨i, o, none⟩) i := ⟨o, rfl⟩
theorem Ad.eq {i j o : Nat} (h : Ad (some ⟨i, o, none⟩) j) : j = i := by obtain ⟨o', e⟩ := h; cases e; rfl
set_option maxHeartbeats 8000000 in
theorem l1Disk_c (d lo : Nat) (H0 : Hp) {q : Nat} {ac : Option Addr} {code : List Int} {k : Nat} (h : Src H0 q ac code k) (hlo : lo ≤ q) (hk : k ≤ 900000000) (hc0 : ∀ i, Ad ac i → code ≠ [] → i < H0.length) :
    ∃ W o full ap D H', vcall env (d + 3) 81 [.pointer (some ⟨q, 0, none⟩)] lo H0 = some (.agg #[.slice (some ⟨W, o, none⟩) D.w.length 1, .slice ap D.p.length (sg ap 2)], H') ∧ DK H0 H' q ac code k W o full ap D := by
  have hq0 := blk_lt h.b
  have hlo0 : lo ≤ H0.length := by omega
  obtain ⟨H1, hH1⟩ : ∃ H1 : Hp, H1 = H0 ++ [some ⟨[.slice none 0 0, .slice none 0 0], true, false⟩] := ⟨_, rfl⟩
  have f1 : Fn H0 H1 := hH1 ▸ Fr.app
  have l1 : H1.length = H0.length + 1 := by rw [hH1]; simp
  have b1 : H1.blk H0.length = some ⟨[.slice none 0 0, .slice none 0 0], true, false⟩ := by rw [hH1]; exact blk0
  obtain ⟨W, H2, c2, f2, hW, bW⟩ := l1New_c (d + 1) lo H1
  have hWl := blk_lt bW
  have l2 := f2.len
  have hle2 : (lo ≤ H2.length) = True := eq_true (by omega)
  obtain ⟨H3, hH3⟩ : ∃ H3 : Hp, H3 = H2 ++ [some ⟨[.slice (some ⟨W, 0, none⟩) 64 1, .slice none 0 0], true, false⟩] := ⟨_, rfl⟩
  have f3 : Fn H2 H3 := hH3 ▸ Fr.app
  have b3 : H3.blk H2.length = some ⟨[.slice (some ⟨W, 0, none⟩) 64 1, .slice none 0 0], true, false⟩ := by rw [hH3]; exact blk0
  obtain ⟨Q, hQ⟩ : ∃ Q : Nat, Q = H2.length := ⟨_, rfl⟩
  have F3 : Fn H0 H3 := f1.trans (f2.trans f3)
  have i3 : DI H0 H3 q ac code k Q W (List.replicate 64 0) none [] := ⟨Fw.q F3, h.fn F3, hq0, hc0, ((f2.trans f3).blk _ (by omega) id).trans b1, by rw [hQ, b3]; rfl, (f3.blk _ hWl id).trans bW, by simp, Or.inl ⟨rfl, rfl, rfl⟩, by omega, by omega, by omega, fun i hi => hi.no.elim⟩
  have c4 := l1Next_c (d + 1) lo H3 i3.s hlo (by omega) 9
  have i4 := i3.next
  obtain ⟨n1, n2⟩ := nextV_in h.y k (n := 9) (by omega)
  obtain ⟨n, hn⟩ : ∃ n : Nat, nextV code k 9 = (n : Int) := ⟨_, (Int.toNat_of_nonneg n1).symm⟩
  rw [hn] at n2 c4
  obtain ⟨H4, hH4⟩ : ∃ H4 : Hp, H4 = srcB H3 q ac code (k + 1) := ⟨_, rfl⟩
  rw [← hH4] at c4 i4
  -- words
  have hl1 : ∃ r, lim (rnd (vcall env (d + 2)) lo [0, 2, 3, 4] [0, 2, 3] l81_0) [(0, .pointer (some ⟨q, 0, none⟩)), (2, .pointer (some ⟨H0.length, 0, none⟩)), (3, .pointer (some ⟨Q, 0, none⟩)), (4, .int .i64 (n : Nat))] H4 = some r ∧
      ∃ X k' full, r = (.exit 0, [(0, .pointer (some ⟨q, 0, none⟩)), (2, .pointer (some ⟨H0.length, 0, none⟩)), (3, .pointer (some ⟨Q, 0, none⟩))], X) ∧ DI H0 X q ac code k' Q W full none [] ∧ k ≤ k' ∧ k' ≤ k + 20 := by
    refine lim_inv (fun j ts X => ∃ k' full, ts = [(0, .pointer (some ⟨q, 0, none⟩)), (2, .pointer (some ⟨H0.length, 0, none⟩)), (3, .pointer (some ⟨Q, 0, none⟩)), (4, .int .i64 ((n - j : Nat) : Int))] ∧ DI H0 X q ac code k' Q W full none [] ∧ k ≤ k' ∧ k' ≤ k + 1 + 2 * j) n ?_ ?_ ?_
    · rintro j ts X hj ⟨k', full, rfl, i, ka, kb⟩
      have hq := i.q0; have hql := i.ql; have hwl := i.wl
      have hg : decide (((n - j : Nat) : Int) > 0) = true := decide_eq_true (by omega)
      have hw : IntKind.i64.wrap (((n - j : Nat) : Int) - 1) = ((n - (j + 1) : Nat) : Int) := by rw [wr (by omega) (by omega)]; omega
      have rK : rd (kill [q] X) ⟨Q, 0, none⟩ = some (.slice (some ⟨W, 0, none⟩) 64 1) := (rd_kill (by simp; omega)).trans (by simp [rd, i.cq])
      have c5 := l1Next_c (d + 1) lo X i.s hlo (by omega) 9
      have sm5 := Same.src X q ac code (k' + 1)
      have i5 := i.next
      generalize srcB X q ac code (k' + 1) = X1 at *
      have c6 := l1Next_c (d + 1) lo X1 i5.s hlo (by omega) 99
      have sm6 := sm5.trans (Same.src X1 q ac code (k' + 1 + 1))
      have i6 := i5.next
      generalize srcB X1 q ac code (k' + 1 + 1) = X2 at *
      obtain ⟨v1, v2⟩ := nextV_in h.y k' (n := 9) (by omega)
      obtain ⟨v, hv⟩ : ∃ v : Nat, nextV code k' 9 = (v : Int) := ⟨_, (Int.toNat_of_nonneg v1).symm⟩
      rw [hv] at v2 c5
      generalize nextV code (k' + 1) 99 = x at *
      obtain ⟨X3, w3, i7⟩ := i6.word hlo0 (show v < 64 by omega) x
      refine ⟨_, X3, ?_, k' + 1 + 1, full.set v x, rfl, i7, by omega, by omega⟩
      have hb1 : ((v : Int) < ((64 : Nat) : Int)) = True := eq_true (by omega)
      simp -implicitDefEqProofs only [rnd, l81_0, VMs, noRef, noRef1, isRef, List.all_cons, List.all_nil, vop, VOp.still, VOp.app, VOp.plain, allP, lof, evs, start, asI, vbin, vcells, ntup, setAll, vfill, vress, vres, tup, Nat.reduceEqDiff, ↓reduceIte, Nat.reduceAdd, Nat.reduceMul, Nat.reduceLeDiff, reduceCtorEq, hg, vdD, qats, qat, Option.map_some, zn, zx, gO_, gA_, gQ_, rK, sm5, sm6, c5, c6, hb1, ge0, Int.toNat_natCast, Nat.mul_one, w3, hw]
    · rintro ts X ⟨k', full, rfl, i, ka, kb⟩
      have hg : decide (((n - n : Nat) : Int) > 0) = false := decide_eq_false (by omega)
      exact ⟨_, by simp -implicitDefEqProofs only [rnd, l81_0, VMs, noRef, noRef1, isRef, List.all_cons, List.all_nil, vop, VOp.still, VOp.app, VOp.plain, allP, lof, evs, start, asI, vbin, vcells, ntup, setAll, vfill, vress, vres, tup, Nat.reduceEqDiff, ↓reduceIte, Nat.reduceAdd, Nat.reduceMul, Nat.reduceLeDiff, reduceCtorEq, hg], by simp, X, k', full, rfl, i, ka, by omega⟩
    · exact ⟨k + 1, List.replicate 64 0, by simp, i4, by omega, by omega⟩
  obtain ⟨_, hl1, X5, k5, full, rfl, i5, k5a, k5b⟩ := hl1
  have c6 := l1Next_c (d + 1) lo X5 i5.s hlo (by omega) 9
  have i6 := i5.next
  obtain ⟨m1, m2⟩ := nextV_in h.y k5 (n := 9) (by omega)
  obtain ⟨m, hm⟩ : ∃ m : Nat, nextV code k5 9 = (m : Int) := ⟨_, (Int.toNat_of_nonneg m1).symm⟩
  rw [hm] at m2 c6
  obtain ⟨X6, hX6⟩ : ∃ X6 : Hp, X6 = srcB X5 q ac code (k5 + 1) := ⟨_, rfl⟩
  rw [← hX6] at c6 i6
  -- puts, one by one
  have app : ∀ {X : Hp} {k' : Nat} {full : List Int} {ap : Option Addr} {p : List Bk} (a b : Int), DI H0 X q ac code k' Q W full ap p → p.length ≤ 8 → ∃ X1 X2, vappend 2 16 lo (X ++ [some ⟨[.int .i64 a, .int .i64 b], true, false⟩]) (.slice ap p.length (sg ap 2)) (.slice (some ⟨X.length, 0, none⟩) 1 2) = some (.slice (some ⟨X.length + 1, 0, none⟩) (p.length + 1) 2, X1) ∧
      wrN lo X1 ⟨Q, 1, none⟩ [.slice (some ⟨X.length + 1, 0, none⟩) (p.length + 1) 2] = some X2 ∧ DI H0 X2 q ac code k' Q W full (some ⟨X.length + 1, 0, none⟩) (p ++ [⟨a, b⟩]) := by
    intro X k' full ap p a b i hpl
    obtain ⟨X0, hX0⟩ : ∃ X0 : Hp, X0 = X ++ [some ⟨[.int .i64 a, .int .i64 b], true, false⟩] := ⟨_, rfl⟩
    have i0 := i.fn (show Fn X X0 from hX0 ▸ Fr.app)
    have lX : X0.length = X.length + 1 := by rw [hX0]; simp
    have l00 := i0.w.len
    obtain ⟨X1, ha, hl, hd, _, ho⟩ := app_hd (st := 2) (by_ := 16) (m := 1) (M := vp ⟨a, b⟩) (y := .slice (some ⟨X.length, 0, none⟩) 1 2) (i0.hp.down hlo0) rfl (by rw [hX0]; simp [scells, rdN0, vp]) (by omega) rfl (fits_small (by omega)) (by omega)
    have hd' := hd.up (L := H0.length) (by omega)
    have hpp : vP p ++ vp ⟨a, b⟩ = vP (p ++ [⟨a, b⟩]) := by simp [vP]
    rw [hpp] at hd'
    obtain ⟨X2, hw, i2⟩ := i0.puts hlo0 (ap' := some ⟨X0.length, 0, none⟩) (p' := p ++ [⟨a, b⟩]) ho (by omega) (by rw [List.length_append]; exact hd') (fun j hj => by have := hj.eq; omega)
    rw [lX] at ha hw i2
    rw [List.length_append] at hw
    exact ⟨X1, X2, by rw [← hX0]; exact ha, hw, i2⟩
  have hl2 : ∃ r, lim (rnd (vcall env (d + 2)) lo [0, 2, 3, 5] [0, 2, 3] l81_1) [(0, .pointer (some ⟨q, 0, none⟩)), (2, .pointer (some ⟨H0.length, 0, none⟩)), (3, .pointer (some ⟨Q, 0, none⟩)), (5, .int .i64 (m : Nat))] X6 = some r ∧
      ∃ X k' ap p, r = (.exit 2, [(0, .pointer (some ⟨q, 0, none⟩)), (2, .pointer (some ⟨H0.length, 0, none⟩)), (3, .pointer (some ⟨Q, 0, none⟩))], X) ∧ DI H0 X q ac code k' Q W full ap p ∧ k ≤ k' ∧ k' ≤ k + 50 ∧ p.length ≤ 8 := by
    refine lim_inv (fun j ts X => ∃ k' ap p, ts = [(0, .pointer (some ⟨q, 0, none⟩)), (2, .pointer (some ⟨H0.length, 0, none⟩)), (3, .pointer (some ⟨Q, 0, none⟩)), (5, .int .i64 ((m - j : Nat) : Int))] ∧ DI H0 X q ac code k' Q W full ap p ∧ k ≤ k' ∧ k' ≤ k + 21 + 2 * j ∧ p.length = j) m ?_ ?_ ?_
    · rintro j ts X hj ⟨k', ap, p, rfl, i, ka, kb, pl⟩
      have hq := i.q0; have hql := i.ql; have hwl := i.wl
      have hg : decide (((m - j : Nat) : Int) > 0) = true := decide_eq_true (by omega)
      have hw : IntKind.i64.wrap (((m - j : Nat) : Int) - 1) = ((m - (j + 1) : Nat) : Int) := by rw [wr (by omega) (by omega)]; omega
      have rK : rd (kill [q] X) ⟨Q, 1, none⟩ = some (.slice ap p.length (sg ap 2)) := (rd_kill (by simp; omega)).trans (by simp [rd, i.cq])
      have c5 := l1Next_c (d + 1) lo X i.s hlo (by omega) 9
      have sm5 := Same.src X q ac code (k' + 1)
      have i5 := i.next
      generalize srcB X q ac code (k' + 1) = X1 at *
      have c6 := l1Next_c (d + 1) lo X1 i5.s hlo (by omega) 99
      have sm6 := sm5.trans (Same.src X1 q ac code (k' + 1 + 1))
      have i6 := i5.next
      generalize srcB X1 q ac code (k' + 1 + 1) = X2 at *
      generalize nextV code k' 9 = a at *
      generalize nextV code (k' + 1) 99 = b at *
      have sm7 := sm6.trans (Same.app [some ⟨[.int .i64 a, .int .i64 b], true, false⟩])
      obtain ⟨X3, X4, ha, hwr, i7⟩ := app a b i6 (by omega)
      refine ⟨_, X4, ?_, k' + 1 + 1, _, _, rfl, i7, by omega, by omega, by simp [pl]⟩
      simp -implicitDefEqProofs only [rnd, l81_1, VMs, noRef, noRef1, isRef, List.all_cons, List.all_nil, vop, VOp.still, VOp.app, VOp.plain, allP, lof, evs, start, asI, vbin, vcells, ntup, setAll, vfill, vress, vres, tup, Nat.reduceEqDiff, ↓reduceIte, Nat.reduceAdd, Nat.reduceMul, Nat.reduceLeDiff, reduceCtorEq, hg, vdD, qats, qat, Option.map_some, zn, zx, gO_, gA_, gQ_, rK, sm5, sm6, sm7, c5, c6, h10, ha, hwr, hw]
    · rintro ts X ⟨k', ap, p, rfl, i, ka, kb, pl⟩
      have hg : decide (((m - m : Nat) : Int) > 0) = false := decide_eq_false (by omega)
      exact ⟨_, by simp -implicitDefEqProofs only [rnd, l81_1, VMs, noRef, noRef1, isRef, List.all_cons, List.all_nil, vop, VOp.still, VOp.app, VOp.plain, allP, lof, evs, start, asI, vbin, vcells, ntup, setAll, vfill, vress, vres, tup, Nat.reduceEqDiff, ↓reduceIte, Nat.reduceAdd, Nat.reduceMul, Nat.reduceLeDiff, reduceCtorEq, hg], by simp, X, k', ap, p, rfl, i, ka, by omega, by omega⟩
    · exact ⟨k5 + 1, none, [], by simp, i6, by omega, by omega, rfl⟩
  obtain ⟨_, hl2, X7, k7, ap, p, rfl, i7, k7a, k7b, p8⟩ := hl2
  have c8 := l1Next_c (d + 1) lo X7 i7.s hlo (by omega) 18
  have i8 := i7.next
  obtain ⟨X8, hX8⟩ : ∃ X8 : Hp, X8 = srcB X7 q ac code (k7 + 1) := ⟨_, rfl⟩
  rw [← hX8] at c8 i8
  generalize nextV code k7 18 = sw at *
  have hq := i8.q0; have hql := i8.ql; have hwl := i8.wl; have hqw := i8.qw
  -- the end
  have fin : ∀ {X : Hp} {k' o : Nat} {full : List Int} {ap : Option Addr} {p : List Bk}, Fw (· = q) H0 X → Src X q ac code k' → k ≤ k' → k' ≤ k + 100 → X.blk H0.length = some ⟨[.slice none 0 0, .slice none 0 0], true, false⟩ → X.blk Q = some ⟨[.slice (some ⟨W, o, none⟩) (64 - o) 1, .slice ap p.length (sg ap 2)], true, false⟩ → X.blk W = some ⟨vI full, true, false⟩ → full.length = 64 → o ≤ 1 → Hd H0.length X ap p.length 2 (vP p) → p.length ≤ 201 → (∀ i, Ad ap i → i ≠ W ∧ H0.length < i) →
      ∃ H', rdN X ⟨Q, 0, none⟩ 2 = some [.slice (some ⟨W, o, none⟩) (full.drop o).length 1, .slice ap p.length (sg ap 2)] ∧ wrN lo X ⟨H0.length, 0, none⟩ [.slice (some ⟨W, o, none⟩) (full.drop o).length 1, .slice ap p.length (sg ap 2)] = some H' ∧ rdN H' ⟨H0.length, 0, none⟩ 2 = some [.slice (some ⟨W, o, none⟩) (full.drop o).length 1, .slice ap p.length (sg ap 2)] ∧ DK H0 H' q ac code k W o full ap ⟨full.drop o, p⟩ := by
    intro X k' o full ap p hw hs ka kb hr hcq hcw hl ho hhp hpl hpn
    have hdl : (full.drop o).length = 64 - o := by rw [List.length_drop, hl]
    have ff := Fr.setB hr [.slice (some ⟨W, o, none⟩) (full.drop o).length 1, .slice ap p.length (sg ap 2)]
    refine ⟨_, by rw [hdl]; simp [rdN, hcq], wr_setB (lo := lo) hr hlo0 _ rfl, rdN_setB hr 2 _ rfl, hw.then ff.w (fun j e hj => by omega), ⟨k', ka, kb, hs.fw ff.w (by omega) (fun i hi hc e => by have := hc0 i hi hc; omega)⟩, by rw [blk_setB hr, if_neg (by omega)]; exact hcw, hl, ho, rfl, hhp.fw ff.w (fun i hi e => by have := (hpn i hi).2; omega), hpl, by omega, fun i hi => (hpn i hi).1⟩
  have finI : ∀ {X : Hp} {k' : Nat} {full : List Int} {ap : Option Addr} {p : List Bk}, DI H0 X q ac code k' Q W full ap p → k ≤ k' → k' ≤ k + 100 → p.length ≤ 201 →
      ∃ H', rdN X ⟨Q, 0, none⟩ 2 = some [.slice (some ⟨W, 0, none⟩) full.length 1, .slice ap p.length (sg ap 2)] ∧ wrN lo X ⟨H0.length, 0, none⟩ [.slice (some ⟨W, 0, none⟩) full.length 1, .slice ap p.length (sg ap 2)] = some H' ∧ rdN H' ⟨H0.length, 0, none⟩ 2 = some [.slice (some ⟨W, 0, none⟩) full.length 1, .slice ap p.length (sg ap 2)] ∧ DK H0 H' q ac code k W 0 full ap ⟨full, p⟩ := by
    intro X k' full ap p i ka kb hpl
    exact fin (o := 0) i.w i.s ka kb i.r i.cq i.cw i.l (by omega) i.hp hpl (fun j hj => ⟨(i.pn j hj).1, (i.pn j hj).2.2⟩)
  rw [call_eq find81 _ _ _ rfl]
  by_cases v0 : sw = 0
  · have hv0 : (sw == 0) = true := beq_iff_eq.2 v0
    have w9 := wr_at (lo := lo) (o := 0) i8.cq (by omega) [.slice (some ⟨W, 1, none⟩) 63 1] (by simp)
    have hset : setAll [Value.slice (some ⟨W, 0, none⟩) 64 1, .slice ap p.length (sg ap 2)] 0 [.slice (some ⟨W, 1, none⟩) 63 1] = [.slice (some ⟨W, 1, none⟩) 63 1, .slice ap p.length (sg ap 2)] := rfl
    rw [hset] at w9
    have f9 := Fr.setB i8.cq [.slice (some ⟨W, 1, none⟩) 63 1, .slice ap p.length (sg ap 2)]
    have g0 : rd X8 ⟨Q, 0, none⟩ = some (.slice (some ⟨W, 0, none⟩) 64 1) := by simp [rd, i8.cq]
    obtain ⟨H', e1, e2, e3, dk⟩ := fin (X := setB X8 Q [.slice (some ⟨W, 1, none⟩) 63 1, .slice ap p.length (sg ap 2)]) (k' := k7 + 1) (o := 1) (full := full) (ap := ap) (p := p) (i8.w.then f9.w (fun j e hj => by omega)) (i8.s.fw f9.w (by omega) (fun i hi hc e => by have := hc0 i hi hc; omega)) (by omega) (by omega) (by rw [blk_setB i8.cq, if_neg (by omega)]; exact i8.r) (by rw [blk_setB i8.cq, if_pos rfl]) (by rw [blk_setB i8.cq, if_neg (fun e => hqw e.symm)]; exact i8.cw) i8.l (by omega) (i8.hp.fw f9.w (fun i hi e => (i8.pn i hi).2.1 e)) (by omega) (fun i hi => ⟨(i8.pn i hi).1, (i8.pn i hi).2.2⟩)
    refine ⟨W, 1, full, ap, _, H', ?_, dk⟩
    subst hX8 hX6 hH4
    subst hQ hH3 hH1
    have vs : vslice 1 (.slice (some ⟨W, 0, none⟩) 64 1) (some (.int .i64 1)) none none = some (.slice (some ⟨W, 1, none⟩) 63 1) := rfl
    simp -implicitDefEqProofs only [v81, VMs, noRef, noRef1, isRef, List.all_cons, List.all_nil, vop, VOp.still, VOp.app, VOp.plain, allP, lof, evs, start, asI, vbin, vcells, ntup, setAll, vfill, vress, vres, tup, Nat.reduceEqDiff, ↓reduceIte, Nat.reduceAdd, Nat.reduceMul, Nat.reduceLeDiff, reduceCtorEq, c2, hle2, c4, vlp, hl1, c6, hl2, c8, hv0, g0, vs, w9, e1, e2, e3]
  have hv0 : (sw == 0) = false := beq_eq_false_iff_ne.2 v0
  by_cases v1 : sw = 1
  · have hv1 : (sw == 1) = true := beq_iff_eq.2 v1
    obtain ⟨X9, hX9⟩ : ∃ X9 : Hp, X9 = X8 ++ [some ⟨vI [-1, 65536, 65535], true, false⟩] := ⟨_, rfl⟩
    have f9 : Fn X8 X9 := hX9 ▸ Fr.app
    have i9 := i8.fn f9
    have sm9 : Same [q] X8 X9 := hX9 ▸ Same.app _
    have rK : rd (kill [q] X8) ⟨Q, 0, none⟩ = some (.slice (some ⟨W, 0, none⟩) 64 1) := (rd_kill (by simp; omega)).trans (by simp [rd, i8.cq])
    have rp : Rep EI 1 X9 (some ⟨X8.length, 0, none⟩) [-1, 65536, (65535 : Int)].length [-1, 65536, 65535] := vI_rep (b := ⟨vI [-1, 65536, 65535], true, false⟩) (by rw [hX9]; exact blk0) rfl
    have hq8 := blk_lt i8.s.b
    have c10 := l1Pick_c d lo X9 i9.s hlo (by omega) rp (by simp) (fun i hi => by have := hi.eq; omega)
    have sm10 := sm9.trans (Same.src X9 q ac code (k7 + 1 + 1))
    have i10 := i9.next
    generalize srcB X9 q ac code (k7 + 1 + 1) = X10 at *
    generalize pickV code (k7 + 1) [-1, 65536, 65535] = pv at *
    obtain ⟨X11, w11, i11⟩ := i10.word hlo0 (show 3 < 64 by omega) pv
    obtain ⟨H', e1, e2, e3, dk⟩ := finI i11 (by omega) (by omega) (by omega)
    refine ⟨W, 0, _, ap, _, H', ?_, dk⟩
    subst hX9
    subst hX8 hX6 hH4
    subst hQ hH3 hH1
    simp only [vI, List.map_cons, List.map_nil, List.length_cons, List.length_nil, Nat.zero_add, Nat.reduceAdd, sgs] at c10 sm9
    have b3' : ((3 : Int) < ((64 : Nat) : Int)) = True := eq_true (by omega)
    have b3z : ((0 : Int) ≤ 3) = True := eq_true (by omega)
    have t3 : ((3 : Int)).toNat = 3 := rfl
    simp -implicitDefEqProofs only [v81, VMs, noRef, noRef1, isRef, List.all_cons, List.all_nil, vop, VOp.still, VOp.app, VOp.plain, allP, lof, evs, start, asI, vbin, vcells, ntup, setAll, vfill, vress, vres, tup, Nat.reduceEqDiff, ↓reduceIte, Nat.reduceAdd, Nat.reduceMul, Nat.reduceLeDiff, reduceCtorEq, c2, hle2, c4, vlp, hl1, c6, hl2, c8, hv0, hv1, vdD, qats, qat, Option.map_some, zn, zx, gO_, gA_, gQ_, rK, sm9, sm10, h30, c10, b3', b3z, t3, Nat.mul_one, w11, e1, e2, e3]
  have hv1 : (sw == 1) = false := beq_eq_false_iff_ne.2 v1
  by_cases v2 : sw = 2
  · have hv2 : (sw == 2) = true := beq_iff_eq.2 v2
    obtain ⟨Y0, hY0⟩ : ∃ Y0 : Hp, Y0 = X8 ++ [some ⟨vI [-1, 64, 63], true, false⟩, some ⟨vI [0, 65536], true, false⟩] := ⟨_, rfl⟩
    have fY0 : Fn X8 Y0 := hY0 ▸ Fr.app
    have j0 := i8.fn fY0
    have bE1 : Y0.blk X8.length = some ⟨vI [-1, 64, 63], true, false⟩ := by rw [hY0]; exact blk0
    have bE2 : Y0.blk (X8.length + 1) = some ⟨vI [0, 65536], true, false⟩ := by rw [hY0]; exact blkn 1
    have hq8 := blk_lt i8.s.b
    have l8 := i8.w.len
    have rK : rd (kill [q] X8) ⟨Q, 1, none⟩ = some (.slice ap p.length (sg ap 2)) := (rd_kill (by simp; omega)).trans (by simp [rd, i8.cq])
    have sm0 : Same [q] X8 Y0 := hY0 ▸ Same.app _
    have c9 := l1Pick_c d lo Y0 j0.s hlo (by omega) (al := some ⟨X8.length, 0, none⟩) (L := [-1, 64, 63]) (vI_rep bE1 rfl) (by simp) (fun i hi => by have := hi.eq; omega)
    have L9 := pick_lone d lo (K := [X8.length + 1]) j0.s hlo (by omega) bE1 (by simp) (by omega) (by simp; omega) (by simp) (fun i hi hc hh => by have := hc0 i hi hc; simp at hh; omega)
    have sm9 := sm0.trans (Same.src Y0 q ac code (k7 + 1 + 1))
    have j1 := j0.next
    have bE2' : (srcB Y0 q ac code (k7 + 1 + 1)).blk (X8.length + 1) = some ⟨vI [0, 65536], true, false⟩ := ((j0.s.next (k7 + 1 + 1)).2.1.blk _ (blk_lt bE2) (by omega)).trans bE2
    generalize srcB Y0 q ac code (k7 + 1 + 1) = Y1 at *
    have c10 := l1Pick_c d lo Y1 j1.s hlo (by omega) (al := some ⟨X8.length + 1, 0, none⟩) (L := [0, 65536]) (vI_rep bE2' rfl) (by simp) (fun i hi => by have := hi.eq; omega)
    have L10 := pick_lone d lo (K := [X8.length]) j1.s hlo (by omega) bE2' (by simp) (by omega) (by simp; omega) (by simp) (fun i hi hc hh => by have := hc0 i hi hc; simp at hh; omega)
    have sm10 := sm9.trans (Same.src Y1 q ac code (k7 + 1 + 1 + 1))
    have j2 := j1.next
    have lY2 : X8.length + 2 ≤ (srcB Y1 q ac code (k7 + 1 + 1 + 1)).length := by
      have e1 := (j1.s.next (k7 + 1 + 1 + 1)).2.2
      have := blk_lt bE2'
      omega
    generalize srcB Y1 q ac code (k7 + 1 + 1 + 1) = Y2 at *
    generalize pickV code (k7 + 1) [-1, 64, 63] = a at *
    generalize pickV code (k7 + 1 + 1) [0, 65536] = b at *
    have sm11 := sm10.trans (Same.app [some ⟨[.int .i64 a, .int .i64 b], true, false⟩])
    obtain ⟨Y3, Y4, ha, hwr, j4⟩ := app a b j2 p8
    obtain ⟨H', e1, e2, e3, dk⟩ := finI j4 (by omega) (by omega) (by simp; omega)
    have B9 := back_kill L9.1
    have B10 := back_kill L10.1
    have L9 := L9.2
    have L10 := L10.2
    have B11 := back_app (K := [X8.length, X8.length + 1]) (H := Y2) [some ⟨[.int .i64 a, .int .i64 b], true, false⟩] (fun x hx => by simp at hx; omega)
    have kf1 : keepF [(X8.length, some 57), (X8.length + 1, some 60)] ⟨some 58, none, .call 113 [.t 56, .t 57]⟩ = [X8.length + 1] := rfl
    have kf2 : keepF [(X8.length, some 57), (X8.length + 1, some 60)] ⟨some 61, none, .call 113 [.t 59, .t 60]⟩ = [X8.length] := rfl
    have kf3 : keepF [(X8.length, some 57), (X8.length + 1, some 60)] ⟨some 63, none, .bslice 2 [.int .i64 0, .int .i64 0] 1 [(0, 2, .t 62)]⟩ = [X8.length, X8.length + 1] := rfl
    have fx : ∀ n : Nat, flx [⟨some 54, none, .faddr 1 (.t 3)⟩, ⟨some 55, none, .load false 1 (.t 54)⟩, ⟨some 56, none, .mv (.t 0)⟩, ⟨some 57, none, .bslice 1 [.int .i64 0, .int .i64 0, .int .i64 0] 3 [(0, 1, .c (.int .i64 (-1))), (1, 1, .c (.int .i64 64)), (2, 1, .c (.int .i64 63))]⟩, ⟨some 58, none, .call 113 [.t 56, .t 57]⟩, ⟨some 59, none, .mv (.t 0)⟩, ⟨some 60, none, .bslice 1 [.int .i64 0, .int .i64 0] 2 [(0, 1, .c (.int .i64 0)), (1, 1, .c (.int .i64 65536))]⟩, ⟨some 61, none, .call 113 [.t 59, .t 60]⟩, ⟨some 62, none, .build [.int .i64 0, .int .i64 0] [(0, 1, .t 58), (1, 1, .t 61)]⟩, ⟨some 63, none, .bslice 2 [.int .i64 0, .int .i64 0] 1 [(0, 2, .t 62)]⟩] n = [(n, some 57), (n + 1, some 60)] := fun n => rfl
    have fo : flos [⟨some 54, none, .faddr 1 (.t 3)⟩, ⟨some 55, none, .load false 1 (.t 54)⟩, ⟨some 56, none, .mv (.t 0)⟩, ⟨some 57, none, .bslice 1 [.int .i64 0, .int .i64 0, .int .i64 0] 3 [(0, 1, .c (.int .i64 (-1))), (1, 1, .c (.int .i64 64)), (2, 1, .c (.int .i64 63))]⟩, ⟨some 58, none, .call 113 [.t 56, .t 57]⟩, ⟨some 59, none, .mv (.t 0)⟩, ⟨some 60, none, .bslice 1 [.int .i64 0, .int .i64 0] 2 [(0, 1, .c (.int .i64 0)), (1, 1, .c (.int .i64 65536))]⟩, ⟨some 61, none, .call 113 [.t 59, .t 60]⟩, ⟨some 62, none, .build [.int .i64 0, .int .i64 0] [(0, 1, .t 58), (1, 1, .t 61)]⟩, ⟨some 63, none, .bslice 2 [.int .i64 0, .int .i64 0] 1 [(0, 2, .t 62)]⟩] = [some ⟨[.int .i64 (-1), .int .i64 64, .int .i64 63], true, false⟩, some ⟨[.int .i64 0, .int .i64 65536], true, false⟩] := rfl
    refine ⟨W, 0, _, _, _, H', ?_, dk⟩
    subst hY0
    subst hX8 hX6 hH4
    subst hQ hH3 hH1
    simp only [vI, List.map_cons, List.map_nil, List.length_cons, List.length_nil, Nat.zero_add, Nat.reduceAdd, sgs, List.length_append] at c9 c10 L9 L10 B9 B10 B11 sm0 e1 e2 e3 ⊢
    simp -implicitDefEqProofs only [v81, VMs, noRef, noRef1, isRef, List.all_cons, List.all_nil, vop, VOp.still, VOp.app, VOp.plain, allP, lof, evs, start, asI, vbin, vcells, ntup, setAll, vfill, vress, vres, tup, Nat.reduceEqDiff, ↓reduceIte, Nat.reduceAdd, Nat.reduceMul, Nat.reduceLeDiff, reduceCtorEq, c2, hle2, c4, vlp, hl1, c6, hl2, c8, hv0, hv1, hv2, vdF, qats, qat, Option.map_some, wn, wx (d := some 54) (.faddr 1 (.t 3)) rfl, wx (d := some 55) (.load false 1 (.t 54)) rfl, wx (d := some 56) (.mv (.t 0)) rfl, wx (d := some 58) (.call 113 [.t 56, .t 57]) rfl, wx (d := some 59) (.mv (.t 0)) rfl, wx (d := some 61) (.call 113 [.t 59, .t 60]) rfl, wx (d := some 62) (.build [.int .i64 0, .int .i64 0] [(0, 1, .t 58), (1, 1, .t 61)]) rfl, wx (d := some 63) (.bslice 2 [.int .i64 0, .int .i64 0] 1 [(0, 2, .t 62)]) rfl, wO_, wA_, wQ_, fx, fo, wf ⟨some 57, none, .bslice 1 [.int .i64 0, .int .i64 0, .int .i64 0] 3 [(0, 1, .c (.int .i64 (-1))), (1, 1, .c (.int .i64 64)), (2, 1, .c (.int .i64 63))]⟩ _ rfl, wf ⟨some 60, none, .bslice 1 [.int .i64 0, .int .i64 0] 2 [(0, 1, .c (.int .i64 0)), (1, 1, .c (.int .i64 65536))]⟩ _ rfl, kf1, kf2, kf3, kill_len, rK, sm0, sm9, sm10, sm11, L9, L10, B9, B10, B11, h10, c9, c10, ha, hwr, e1, e2, e3]
  have hv2 : (sw == 2) = false := beq_eq_false_iff_ne.2 v2
  by_cases v3 : sw = 3
  · have hv3 : (sw == 3) = true := beq_iff_eq.2 v3
    have c9 := l1Next_c (d + 1) lo X8 i8.s hlo (by omega) 2
    have i9 := i8.next
    generalize srcB X8 q ac code (k7 + 1 + 1) = X9 at *
    obtain ⟨z1, z2⟩ := nextV_in h.y (k7 + 1) (n := 2) (by omega)
    obtain ⟨z, hz⟩ : ∃ z : Nat, nextV code (k7 + 1) 2 = (z : Int) := ⟨_, (Int.toNat_of_nonneg z1).symm⟩
    rw [hz] at z2 c9
    obtain ⟨y, hy⟩ : ∃ y : Nat, y = 200 + z := ⟨_, rfl⟩
    have hwr : IntKind.i64.wrap ((200 : Int) + (z : Int)) = ((y : Nat) : Int) := by rw [wr (by omega) (by omega)]; omega
    obtain ⟨X10, hX10⟩ : ∃ X10 : Hp, X10 = X9 ++ [some ⟨vP (List.replicate y ⟨0, 0⟩), true, ((y : Nat) : Int) == 0⟩] := ⟨_, rfl⟩
    have f10 : Fn X9 X10 := hX10 ▸ Fr.app
    have i10 := i9.fn f10
    have l9 := i9.w.len
    have b10 : X10.blk X9.length = some ⟨vP (List.replicate y ⟨0, 0⟩), true, ((y : Nat) : Int) == 0⟩ := by rw [hX10]; exact blk0
    have hlr : (List.replicate y (⟨0, 0⟩ : Bk)).length = y := List.length_replicate
    have hqz : (((y : Nat) : Int) == 0) = false := beq_eq_false_iff_ne.2 (by omega)
    obtain ⟨X11, w11, i11⟩ := i9.puts hlo0 (H1 := X10) (ap' := some ⟨X9.length, 0, none⟩) (p' := List.replicate y ⟨0, 0⟩) (fun j _ hj => f10.blk _ hj id) f10.len (Or.inr ⟨X9.length, _, rfl, b10, vP_len _, fun e => by omega, l9⟩) (fun i hi => by have := hi.eq; omega)
    obtain ⟨H', e1, e2, e3, dk⟩ := finI i11 (by omega) (by omega) (by omega)
    refine ⟨W, 0, _, _, _, H', ?_, dk⟩
    subst hX10
    subst hX8 hX6 hH4
    subst hQ hH3 hH1
    have q1 : (((16 : Nat) : Int) * ((y : Nat) : Int) ≤ 281474976710656) = True := eq_true (by omega)
    have q2 : (((y : Nat) : Int) ≤ 4611686018427387904) = True := eq_true (by omega)
    simp only [hlr, sgs] at w11 e1 e2 e3 ⊢
    simp -implicitDefEqProofs only [v81, VMs, noRef, noRef1, isRef, List.all_cons, List.all_nil, vop, VOp.still, VOp.app, VOp.plain, allP, lof, evs, start, asI, vbin, vcells, ntup, setAll, vfill, vress, vres, tup, Nat.reduceEqDiff, ↓reduceIte, Nat.reduceAdd, Nat.reduceMul, Nat.reduceLeDiff, reduceCtorEq, c2, hle2, c4, vlp, hl1, c6, hl2, c8, hv0, hv1, hv2, hv3, c9, hwr, q1, q2, ge0, Int.toNat_natCast, zP_flat, w11, e1, e2, e3]
  · have hv3 : (sw == 3) = false := beq_eq_false_iff_ne.2 v3
    obtain ⟨H', e1, e2, e3, dk⟩ := finI i8 (by omega) (by omega) (by omega)
    refine ⟨W, 0, _, ap, _, H', ?_, dk⟩
    subst hX8 hX6 hH4
    subst hQ hH3 hH1
    simp -implicitDefEqProofs only [v81, VMs, noRef, noRef1, isRef, List.all_cons, List.all_nil, vop, VOp.still, VOp.app, VOp.plain, allP, lof, evs, start, asI, vbin, vcells, ntup, setAll, vfill, vress, vres, tup, Nat.reduceEqDiff, ↓reduceIte, Nat.reduceAdd, Nat.reduceMul, Nat.reduceLeDiff, reduceCtorEq, c2, hle2, c4, vlp, hl1, c6, hl2, c8, hv0, hv1, hv2, hv3, e1, e2, e3]
end Go.Proofs.Ytaahjfjpbilfnaa.V
