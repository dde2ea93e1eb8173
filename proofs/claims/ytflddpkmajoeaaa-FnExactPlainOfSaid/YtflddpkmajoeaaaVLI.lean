/- A pool told plainly: the reference's. -/
import Derived.Test.YtflddpkmajoeaaaVLH
import Derived.Test.YtflddpkmajoeaaaVDA
namespace Go.Proofs.Ytflddpkmajoeaaa.V
open Go
set_option linter.unusedVariables false
set_option linter.unusedSimpArgs false
set_option maxRecDepth 100000
theorem vappend_lo {st by_ lo L0 : Nat} {H : Hp} {x y : Value} {r : Value × Hp} (hl : lo ≤ L0) (h : vappend st by_ L0 H x y = some r) : vappend st by_ lo H x y = some r := by
  unfold vappend at h ⊢
  simp only [Option.bind_eq_some_iff] at h ⊢
  obtain ⟨m, hm, new, hn, h⟩ := h
  refine ⟨m, hm, new, hn, ?_⟩
  cases x <;> try exact h
  rename_i xa xn xs
  cases xa <;> try exact h
  rename_i A
  simp only [Option.bind_eq_some_iff] at h ⊢
  obtain ⟨bb, hb, h⟩ := h
  refine ⟨bb, hb, ?_⟩
  split at h
  · rename_i hc
    rw [if_pos hc]
    split at h
    · rename_i hm0; rw [if_pos hm0]; exact h
    · rename_i hm0
      rw [if_neg hm0]
      split at h
      · rename_i hn0; rw [if_pos hn0]; exact h
      · rename_i hn0
        rw [if_neg hn0]
        split at h
        · rename_i hl'; rw [if_pos (by omega)]; exact h
        · cases h
  · cases h
theorem Hd.fw {S : Nat → Prop} {lo : Nat} {H H' : Hp} {x : Option Addr} {n st : Nat} {L : List Value} (hx : Hd lo H x n st L) (hf : Fw S H H') (hS : ∀ i, Ad x i → ¬ S i) : Hd lo H' x n st L := by
  rcases hx with h1 | ⟨i, k0, h1, h2, h3, h4, h5⟩
  · exact Or.inl h1
  · exact Or.inr ⟨i, k0, h1, (hf.blk i (blk_lt h2) (hS i ⟨0, h1⟩)).trans h2, h3, h4, h5⟩
theorem Hd.lt {lo : Nat} {H : Hp} {x : Option Addr} {n st : Nat} {L : List Value} (hx : Hd lo H x n st L) {i : Nat} (hi : Ad x i) : lo ≤ i ∧ i < H.length := by
  obtain ⟨o, e⟩ := hi
  rcases hx with ⟨h1, _⟩ | ⟨i', k0, h1, h2, _, _, h5⟩
  · rw [h1] at e; cases e
  · rw [h1] at e; cases e; exact ⟨h5, blk_lt h2⟩
/-- What is made of a plain pool, on the way: O is its cell. -/
structure PS (L0 : Nat) (H0 H : Hp) (O : Nat) (b : Int) (av : Option Addr) (lv : List Vo) (ac : Option Addr) (lc : List Vo) : Prop where
  f : Fn H0 H
  le : L0 ≤ H.length
  o : H.blk O = some ⟨[.int .i64 b, .slice av lv.length (sg av 3), .slice ac lc.length (sg ac 3), .slice none 0 0], true, false⟩
  v : Hd L0 H av lv.length 3 (vC3 lv)
  c : Hd L0 H ac lc.length 3 (vC3 lc)
  d : ∀ i, Ad av i → ¬ Ad ac i
theorem PS.fw {S : Nat → Prop} {L0 : Nat} {H0 H H' : Hp} {O : Nat} {b : Int} {av lv ac lc} (h : PS L0 H0 H O b av lv ac lc) (hf : Fw S H H') (h0 : ∀ i, S i → H0.length ≤ i) (hO : ¬ S O) (hv : ∀ i, Ad av i → ¬ S i) (hc : ∀ i, Ad ac i → ¬ S i) : PS L0 H0 H' O b av lv ac lc :=
  ⟨hf.fn h.f h0, Nat.le_trans h.le hf.len, (hf.blk O (blk_lt h.o) hO).trans h.o, h.v.fw hf hv, h.c.fw hf hc, h.d⟩
theorem PS.new {L0 : Nat} {H0 H H' : Hp} {O : Nat} {b : Int} {av lv ac lc} (h : PS L0 H0 H O b av lv ac lc) (hf : Fn H H') : PS L0 H0 H' O b av lv ac lc :=
  h.fw hf.w (fun _ => False.elim) id (fun _ _ => id) (fun _ _ => id)
theorem vC3_app (l : List Vo) (x : Vo) : vC3 (l ++ [x]) = vC3 l ++ v3 x := by simp [vC3]
/-- A volume more. -/
theorem PS.addV {lo L0 : Nat} {H0 H : Hp} {O : Nat} {b : Int} {av lv ac lc} (h : PS L0 H0 H O b av lv ac lc) (hlo : lo ≤ O) (h0 : H0.length ≤ O) (hO : O < L0) {x : Vo} {y : Value} (hm : slen y = some 1) (hM : scells H 3 y = some (v3 x)) (hsz : lv.length ≤ 900) :
    ∃ H1 H', vappend 3 24 lo H (.slice av lv.length (sg av 3)) y = some (.slice (some ⟨H.length, 0, none⟩) (lv.length + 1) 3, H1) ∧ wrN lo H1 ⟨O, 1, none⟩ [.slice (some ⟨H.length, 0, none⟩) (lv.length + 1) 3] = some H' ∧ PS L0 H0 H' O b (some ⟨H.length, 0, none⟩) (lv ++ [x]) ac lc ∧ Fw (fun i => i = O ∨ Ad av i) H H' := by
  obtain ⟨H1, ha, l1, c1, f1, b1⟩ := app_hd (by_ := 24) h.v hm hM (by omega) rfl (fits_small (by omega)) h.le
  have hOl := blk_lt h.o
  have hO1 : H1.blk O = _ := (b1 O (fun o e => by have := (h.v.lt ⟨o, e⟩).1; omega) hOl).trans h.o
  have fw1 : Fw (Ad av) H H1 := ⟨by omega, fun i hi hS => b1 i (fun o e => hS ⟨o, e⟩) hi⟩
  have w2 := wr_at (lo := lo) (o := 1) hO1 hlo [.slice (some ⟨H.length, 0, none⟩) (lv.length + 1) 3] (by simp)
  have fr2 := Fr.setB hO1 (setAll [.int .i64 b, .slice av lv.length (sg av 3), .slice ac lc.length (sg ac 3), .slice none 0 0] 1 [.slice (some ⟨H.length, 0, none⟩) (lv.length + 1) 3])
  refine ⟨H1, _, vappend_lo (by omega) ha, w2, ⟨fr2.w.fn (f1 H0 h.f (by omega)) (fun i e => by rw [e]; exact h0), by rw [setB_len, l1]; have := h.le; omega, ?_, ?_, ?_, ?_⟩, (fw1.mono fun i e => Or.inr e).trans (fr2.w.mono fun i e => Or.inl e)⟩
  · rw [blk_setB hO1, if_pos rfl, List.length_append]; rfl
  · rw [vC3_app, List.length_append]
    refine Hd.fw c1 fr2.w fun i ⟨o, e⟩ e' => ?_
    cases e; omega
  · refine (h.c.fw fw1 (fun i hi hh => h.d i hh hi)).fw fr2.w (fun i hi e => by have := (h.c.lt hi).1; omega)
  · rintro i ⟨o, e⟩ hc
    cases e
    have := (h.c.lt hc).2; omega
/-- A cell more. -/
theorem PS.addC {lo L0 : Nat} {H0 H : Hp} {O : Nat} {b : Int} {av lv ac lc} (h : PS L0 H0 H O b av lv ac lc) (hlo : lo ≤ O) (h0 : H0.length ≤ O) (hO : O < L0) {x : Vo} {y : Value} (hm : slen y = some 1) (hM : scells H 3 y = some (v3 x)) (hsz : lc.length ≤ 900) :
    ∃ H1 H', vappend 3 24 lo H (.slice ac lc.length (sg ac 3)) y = some (.slice (some ⟨H.length, 0, none⟩) (lc.length + 1) 3, H1) ∧ wrN lo H1 ⟨O, 2, none⟩ [.slice (some ⟨H.length, 0, none⟩) (lc.length + 1) 3] = some H' ∧ PS L0 H0 H' O b av lv (some ⟨H.length, 0, none⟩) (lc ++ [x]) ∧ Fw (fun i => i = O ∨ Ad ac i) H H' := by
  obtain ⟨H1, ha, l1, c1, f1, b1⟩ := app_hd (by_ := 24) h.c hm hM (by omega) rfl (fits_small (by omega)) h.le
  have hOl := blk_lt h.o
  have hO1 : H1.blk O = _ := (b1 O (fun o e => by have := (h.c.lt ⟨o, e⟩).1; omega) hOl).trans h.o
  have fw1 : Fw (Ad ac) H H1 := ⟨by omega, fun i hi hS => b1 i (fun o e => hS ⟨o, e⟩) hi⟩
  have w2 := wr_at (lo := lo) (o := 2) hO1 hlo [.slice (some ⟨H.length, 0, none⟩) (lc.length + 1) 3] (by simp)
  have fr2 := Fr.setB hO1 (setAll [.int .i64 b, .slice av lv.length (sg av 3), .slice ac lc.length (sg ac 3), .slice none 0 0] 2 [.slice (some ⟨H.length, 0, none⟩) (lc.length + 1) 3])
  refine ⟨H1, _, vappend_lo (by omega) ha, w2, ⟨fr2.w.fn (f1 H0 h.f (by omega)) (fun i e => by rw [e]; exact h0), by rw [setB_len, l1]; have := h.le; omega, ?_, ?_, ?_, ?_⟩, (fw1.mono fun i e => Or.inr e).trans (fr2.w.mono fun i e => Or.inl e)⟩
  · rw [blk_setB hO1, if_pos rfl, List.length_append]; rfl
  · refine (h.v.fw fw1 (fun i hi hh => h.d i hi hh)).fw fr2.w (fun i hi e => by have := (h.v.lt hi).1; omega)
  · rw [vC3_app, List.length_append]
    refine Hd.fw c1 fr2.w fun i ⟨o, e⟩ e' => ?_
    cases e; omega
  · rintro i hv ⟨o, e⟩
    cases e
    have := (h.v.lt hv).2; omega
theorem PS.rdc {L0 : Nat} {H0 H : Hp} {O : Nat} {b : Int} {av lv ac lc} (h : PS L0 H0 H O b av lv ac lc) : rd H ⟨O, 0, none⟩ = some (.int .i64 b) ∧ rd H ⟨O, 1, none⟩ = some (.slice av lv.length (sg av 3)) ∧ rd H ⟨O, 2, none⟩ = some (.slice ac lc.length (sg ac 3)) ∧ rdN H ⟨O, 0, none⟩ 4 = some [.int .i64 b, .slice av lv.length (sg av 3), .slice ac lc.length (sg ac 3), .slice none 0 0] := by
  refine ⟨?_, ?_, ?_, ?_⟩ <;> simp [rd, rdN, h.o]
theorem getDe {w : List Int} {j : Nat} (h : j < w.length) : w.getD j 0 = w[j] := by simp [List.getD, h]
theorem cellsW_len (id : Int) (w : List Int) (n : Nat) : (cellsW id w n).length = n := by simp [cellsW]
/-- The cells of one walk: the reference's. -/
theorem l6Cells (d lo L0 : Nat) (H0 H : Hp) {O T iw q R : Nat} {b : Int} {av lv ac lc} (h : PS L0 H0 H O b av lv ac lc) (hlo : lo ≤ O) (h0 : H0.length ≤ O) (hO : O < L0) (hTO : O < T) (i : Int) {x : Vo} {w : List Int} {k0 : Bool}
    (bT : H.blk T = some ⟨[.int .i64 x.i, .int .i64 x.q, .int .i64 x.r], true, false⟩) (bw : H.blk iw = some ⟨vI w, true, k0⟩) (hTc : ¬ Ad ac T) (hwc : ¬ Ad ac iw) (hwO : iw ≠ O) (hev : w.length % 2 = 0) (hw32 : w.length ≤ 32) (hsz : lc.length ≤ 800) :
    ∃ r, lim (rnd (vcall env d) lo [0, 2, 3, 4, 5, 6, 7] [0, 2, 3, 4, 5] l85_0) [(0, .pointer (some ⟨q, 0, none⟩)), (2, .pointer (some ⟨R, 0, none⟩)), (3, .pointer (some ⟨O, 0, none⟩)), (4, .int .i64 i), (5, .pointer (some ⟨T, 0, none⟩)), (6, .slice (some ⟨iw, 0, none⟩) w.length 1), (7, .int .i64 0)] H = some r ∧
      ∃ H' ac', r = (.exit 2, [(0, .pointer (some ⟨q, 0, none⟩)), (2, .pointer (some ⟨R, 0, none⟩)), (3, .pointer (some ⟨O, 0, none⟩)), (4, .int .i64 i), (5, .pointer (some ⟨T, 0, none⟩))], H') ∧ PS L0 H0 H' O b av lv ac' (lc ++ cellsW x.i w (w.length / 2)) ∧ Fw (fun j => j = O ∨ Ad ac j) H H' ∧ ∀ z, Ad ac' z → Ad ac z ∨ H.length ≤ z := by
  refine lim_inv (fun j ts H1 => ∃ ac1, ts = [(0, .pointer (some ⟨q, 0, none⟩)), (2, .pointer (some ⟨R, 0, none⟩)), (3, .pointer (some ⟨O, 0, none⟩)), (4, .int .i64 i), (5, .pointer (some ⟨T, 0, none⟩)), (6, .slice (some ⟨iw, 0, none⟩) w.length 1), (7, .int .i64 (2 * j : Nat))] ∧ PS L0 H0 H1 O b av lv ac1 (lc ++ cellsW x.i w j) ∧ Fw (fun z => z = O ∨ Ad ac z) H H1 ∧ ¬ Ad ac1 T ∧ ¬ Ad ac1 iw ∧ ∀ z, Ad ac1 z → Ad ac z ∨ H.length ≤ z) (w.length / 2) ?_ ?_ ?_
  · rintro j ts H1 hj ⟨ac1, rfl, p1, f1, n1, n2, n3⟩
    have hT1 := (f1.blk T (blk_lt bT) (fun hh => hh.elim (fun e => by omega) hTc)).trans bT
    have hw1 := (f1.blk iw (blk_lt bw) (fun hh => hh.elim hwO hwc)).trans bw
    have j1 : 2 * j < w.length := by omega
    have j2 : 2 * j + 1 < w.length := by omega
    obtain ⟨_, _, g2, _⟩ := p1.rdc
    have e0 : rd H1 ⟨T, 0, none⟩ = some (.int .i64 x.i) := by simp [rd, hT1]
    have e1 : rd H1 ⟨iw, 2 * j, none⟩ = some (.int .i64 w[2 * j]) := by simp [rd, hw1, vI, j1]
    have e2 : rd H1 ⟨iw, 2 * j + 1, none⟩ = some (.int .i64 w[2 * j + 1]) := by simp [rd, hw1, vI, j2]
    have ww : IntKind.i64.wrap (((2 * j : Nat) : Int) + 1) = ((2 * j + 1 : Nat) : Int) := by rw [wr (by omega) (by omega)]; rfl
    have ww2 : IntKind.i64.wrap (((2 * j : Nat) : Int) + 2) = ((2 * (j + 1) : Nat) : Int) := by rw [wr (by omega) (by omega)]; omega
    obtain ⟨H2, hH2⟩ : ∃ H2 : Hp, H2 = H1 ++ [some ⟨[.int .i64 x.i, .int .i64 w[2 * j], .int .i64 w[2 * j + 1]], true, false⟩] := ⟨_, rfl⟩
    have f2 : Fn H1 H2 := hH2 ▸ Fr.app
    have l2 : H2.length = H1.length + 1 := by rw [hH2]; simp
    obtain ⟨H3, H4, ha, hw, p4, fw4⟩ := (p1.new f2).addC (x := cellP x.i w j) hlo h0 hO (y := .slice (some ⟨H1.length, 0, none⟩) 1 3) rfl (by rw [hH2]; simp [scells, rdN0, v3, cellP, getE j1, getE j2]) (by rw [List.length_append, cellsW_len]; omega)
    have l1 := f1.len
    refine ⟨[(0, .pointer (some ⟨q, 0, none⟩)), (2, .pointer (some ⟨R, 0, none⟩)), (3, .pointer (some ⟨O, 0, none⟩)), (4, .int .i64 i), (5, .pointer (some ⟨T, 0, none⟩)), (6, .slice (some ⟨iw, 0, none⟩) w.length 1), (7, .int .i64 ((2 * (j + 1) : Nat) : Int))], H4, ?_, some ⟨H2.length, 0, none⟩, rfl, by rw [cellsW_succ, ← List.append_assoc]; exact p4, ?_, fun ⟨o, e⟩ => by cases e; have := blk_lt bT; omega, fun ⟨o, e⟩ => by cases e; have := blk_lt bw; omega, fun z ⟨o, e⟩ => by cases e; exact Or.inr (by omega)⟩
    · subst hH2
      simp only [List.length_append, List.length_cons, List.length_nil, Nat.zero_add, cellsW_len] at ha hw g2
      have h10 : ((1 : Nat) == 0) = false := rfl
      simp -implicitDefEqProofs only [rnd, l85_0, VMs, noRef, noRef1, isRef, List.all_cons, List.all_nil, vop, VOp.still, VOp.app, VOp.plain, allP, lof, evs, start, asI, vbin, vcells, ntup, setAll, vfill, vress, vres, tup, Nat.reduceEqDiff, ↓reduceIte, Nat.reduceAdd, Nat.reduceMul, Nat.reduceLeDiff, reduceCtorEq, slen, ww, ltc j2, ltc j1, ge0, decide_true, vdr, g2, e0, e1, e2, Int.toNat_natCast, Nat.mul_one, vfill, ev, lk, setAll, ntup, vcells, h10, List.length_append, cellsW_len, ha, hw, ww2]
    · refine f1.then ((f2.w.mono (fun _ => False.elim)).then fw4 (fun z hz _ => hz)) (fun z hz hl => ?_)
      rcases hz with e | e
      · exact Or.inl e
      · rcases n3 z e with e | e
        · exact Or.inr e
        · omega
  · rintro ts H1 ⟨ac1, rfl, p1, f1, _, _, n3⟩
    have ww : IntKind.i64.wrap (((2 * (w.length / 2) : Nat) : Int) + 1) = ((2 * (w.length / 2) + 1 : Nat) : Int) := by rw [wr (by omega) (by omega)]; rfl
    have hge : decide (((2 * (w.length / 2) + 1 : Nat) : Int) < (w.length : Int)) = false := decide_eq_false (by omega)
    exact ⟨(.exit 2, [(0, .pointer (some ⟨q, 0, none⟩)), (2, .pointer (some ⟨R, 0, none⟩)), (3, .pointer (some ⟨O, 0, none⟩)), (4, .int .i64 i), (5, .pointer (some ⟨T, 0, none⟩))], H1), by simp -implicitDefEqProofs only [rnd, l85_0, VMs, noRef, noRef1, isRef, List.all_cons, List.all_nil, vop, VOp.still, VOp.app, VOp.plain, allP, lof, evs, start, asI, vbin, vcells, ntup, setAll, vfill, vress, vres, tup, Nat.reduceEqDiff, ↓reduceIte, Nat.reduceAdd, Nat.reduceMul, Nat.reduceLeDiff, reduceCtorEq, slen, ww, hge], by simp, H1, ac1, rfl, p1, f1, n3⟩
  · exact ⟨ac, rfl, by simp only [cellsW, List.range_zero, List.map_nil, List.append_nil]; exact h, Fw.refl, hTc, hwc, fun z hz => Or.inl hz⟩
theorem cellsP_len (F : Fo) : ∀ l : List Vo, (cellsP F l).length ≤ 16 * l.length
  | [] => by simp [cellsP]
  | v :: r => by
    have h1 := cellsP_len F r
    have h2 := walkL_len F v.r 16
    simp only [cellsP, List.flatMap_cons, List.length_append, List.length_cons] at h1 ⊢
    have h3 : (cellsV F v).length = (walkL F v.r 16).length / 2 := cellsW_len _ _ _
    omega
theorem l3Count_c (d lo : Nat) (H : Hp) {a : Option Addr} {n : Nat} {l : List Bk} (hr : Rep EB 2 H a n l) (hn : n ≤ 1000) :
    vcall env (d + 1) 131 [.slice a n (sg a 2)] lo H = some (.int .i64 ((n : Int) - busyF l), H) := by
  have hsm : Sm n := by unfold Sm; omega
  have hl := lim_up (f := rnd (vcall env d) H.length [0, 3, 4] [2, 3] l131_0) (r := (.exit 0, [(3, .int .i64 ((n : Int) - busyF (l.take n)))], H)) (by simp) (fun i => [(0, .slice a n (sg a 2)), (3, .int .i64 ((i : Int) - busyF (l.take i))), (4, .int .i64 (i : Nat))]) (fun _ => H) n
    (by simp -implicitDefEqProofs only [rnd, l131_0, VMs, noRef, noRef1, isRef, List.all_cons, List.all_nil, vop, VOp.still, VOp.app, VOp.plain, allP, lof, evs, start, asI, vbin, vcells, ntup, setAll, vfill, vress, vres, tup, Nat.reduceEqDiff, ↓reduceIte, Nat.reduceAdd, Nat.reduceMul, Nat.reduceLeDiff, reduceCtorEq, slen, Int.lt_irrefl, decide_false])
    (fun i hi => by
      have hil : i < l.length := by rw [← hr.1]; exact hi
      obtain ⟨p, o, rfl, e1, e2⟩ := hr.at hil
      have hle : ((l.take i).countP fun b => decide (b.r ≠ 0)) ≤ i := Nat.le_trans List.countP_le_length (by simp only [List.length_take]; omega)
      have htk : busyF (l.take (i + 1)) = busyF (l.take i) + if l[i].r = 0 then 0 else 1 := by
        unfold busyF
        rw [List.take_succ_eq_append_getElem hil, List.countP_append]
        by_cases h0 : l[i].r = 0 <;> simp [h0]
      by_cases h0 : l[i].r = 0
      · have hb : (l[i].r == 0) = true := by rw [h0]; rfl
        rw [if_pos h0] at htk
        have hw : IntKind.i64.wrap ((i : Int) - busyF (l.take i) + 1) = ((i + 1 : Nat) : Int) - busyF (l.take (i + 1)) := by rw [wr (by unfold busyF; omega) (by unfold busyF; omega), htk]; omega
        simp -implicitDefEqProofs only [rnd, l131_0, VMs, noRef, noRef1, isRef, List.all_cons, List.all_nil, vop, VOp.still, VOp.app, VOp.plain, allP, lof, evs, start, asI, vbin, vcells, ntup, setAll, vfill, vress, vres, tup, Nat.reduceEqDiff, ↓reduceIte, Nat.reduceAdd, Nat.reduceMul, Nat.reduceLeDiff, reduceCtorEq, slen, ltc hi, ge0, decide_true, Int.toNat_natCast, e1, hb, hw, hsm.w hi]
      · have hb : (l[i].r == 0) = false := beq_eq_false_iff_ne.2 h0
        rw [if_neg h0] at htk
        have hw : (i : Int) - busyF (l.take i) = ((i + 1 : Nat) : Int) - busyF (l.take (i + 1)) := by rw [htk]; omega
        simp -implicitDefEqProofs only [rnd, l131_0, VMs, noRef, noRef1, isRef, List.all_cons, List.all_nil, vop, VOp.still, VOp.app, VOp.plain, allP, lof, evs, start, asI, vbin, vcells, ntup, setAll, vfill, vress, vres, tup, Nat.reduceEqDiff, ↓reduceIte, Nat.reduceAdd, Nat.reduceMul, Nat.reduceLeDiff, reduceCtorEq, slen, ltc hi, ge0, decide_true, Int.toNat_natCast, e1, hb, hsm.w hi, hw])
  have hnl : l.take n = l := by rw [hr.1, List.take_length]
  have h00 : ((0 : Nat) : Int) - busyF (l.take 0) = 0 := by simp [busyF]
  rw [hnl, h00] at hl
  simp only [Int.natCast_zero] at hl
  rw [call_eq find131 _ _ _ rfl]
  simp -implicitDefEqProofs only [v131, VMs, noRef, noRef1, isRef, List.all_cons, List.all_nil, vop, VOp.still, VOp.app, VOp.plain, allP, lof, evs, start, asI, vbin, vcells, ntup, setAll, vfill, vress, vres, tup, Nat.reduceEqDiff, ↓reduceIte, Nat.reduceAdd, Nat.reduceMul, Nat.reduceLeDiff, reduceCtorEq, slen, vlp, hl]
/-- The volumes, one by one: the reference's. -/
theorem l6Vols (d lo L0 : Nat) (H0 H : Hp) {O q R : Nat} {b : Int} {an nn ab nb av nv p} (h : PS L0 H0 H O b none [] none []) (hlo : lo ≤ O) (h0 : H0.length ≤ O) (hO : O < L0) (hp : PP H0 q an nn ab nb av nv p) (hg : Good p.f) (hroot : ∀ v ∈ p.v, rootB p.f v.r = true) (hv6 : p.v.length ≤ 6) :
    ∃ r, lim (rnd (vcall env (d + 3)) lo [0, 2, 3, 4] [0, 2, 3] l85_1) [(0, .pointer (some ⟨q, 0, none⟩)), (2, .pointer (some ⟨R, 0, none⟩)), (3, .pointer (some ⟨O, 0, none⟩)), (4, .int .i64 0)] H = some r ∧
      ∃ H' av' ac', r = (.exit 0, [(0, .pointer (some ⟨q, 0, none⟩)), (2, .pointer (some ⟨R, 0, none⟩)), (3, .pointer (some ⟨O, 0, none⟩))], H') ∧ PS L0 H0 H' O b av' (p.v.map volP) ac' (cellsP p.f p.v) ∧ Fw (fun j => j = O) H H' := by
  have n1 := hp.v.1
  refine lim_inv (fun i ts H1 => ∃ av1 ac1, ts = [(0, .pointer (some ⟨q, 0, none⟩)), (2, .pointer (some ⟨R, 0, none⟩)), (3, .pointer (some ⟨O, 0, none⟩)), (4, .int .i64 (i : Nat))] ∧ PS L0 H0 H1 O b av1 ((p.v.take i).map volP) ac1 (cellsP p.f (p.v.take i)) ∧ Fw (fun j => j = O) H H1 ∧ ∀ z, Ad av1 z ∨ Ad ac1 z → H.length ≤ z) nv ?_ ?_ ?_
  · rintro i ts H1 hi ⟨av1, ac1, rfl, p1, f1, n3⟩
    have hil : i < p.v.length := by omega
    have hp1 := hp.fn p1.f
    have gs := hp1.s
    obtain ⟨pv, ov, rfl, ev⟩ := hp1.v.at hil
    have ev3 := ev.val
    have hlc := cellsP_len p.f (p.v.take i)
    have hlv : ((p.v.take i).map volP).length = i := by simp; omega
    have hlt : (p.v.take i).length = i := by simp; omega
    obtain ⟨HT, hHT⟩ : ∃ HT : Hp, HT = H1 ++ [some ⟨[.int .i64 p.v[i].i, .int .i64 p.v[i].q, .int .i64 p.v[i].r], true, false⟩] := ⟨_, rfl⟩
    have fT : Fn H1 HT := hHT ▸ Fr.app
    have bT : HT.blk H1.length = some ⟨[.int .i64 p.v[i].i, .int .i64 p.v[i].q, .int .i64 p.v[i].r], true, false⟩ := by rw [hHT]; exact blk0
    have eT : rd HT ⟨H1.length, 2, none⟩ = some (.int .i64 p.v[i].r) := by simp [rd, bT]
    have pT := p1.new fT
    have hpT := hp.fn pT.f
    obtain ⟨iw, HW, cw, fW, ⟨k0, bw, _⟩, hiw⟩ := l4Walk_c d lo HT hpT.f hg p.v[i].r (hroot _ (List.getElem_mem hil))
    have pW := pT.new fW
    have hT1 : HT.length = H1.length + 1 := by rw [hHT]; simp
    have bTW := (fW.blk _ (by omega) id).trans bT
    have hwl := walkL_len p.f p.v[i].r 16
    have hle1 := p1.le
    obtain ⟨r, hl, H3, ac3, rfl, p3, f3, n4⟩ := l6Cells (d + 3) lo L0 H0 HW pW hlo h0 hO (T := H1.length) (iw := iw) (q := q) (R := R) (by omega) (i : Nat) (x := p.v[i]) bTW bw (fun hh => by have := (p1.c.lt hh).2; omega) (fun hh => by have := (p1.c.lt hh).2; omega) (by omega) (walkL_even _ _ _) (by omega) (by omega)
    have hOl := blk_lt p1.o
    have hc1 : ∀ z, Ad ac1 z → z < H1.length := fun z hz => (p1.c.lt hz).2
    have bT3 := (f3.blk _ (blk_lt bTW) (fun hh => hh.elim (fun e => by omega) (fun e => by have := hc1 _ e; omega))).trans bTW
    have w4 := wr_at (lo := lo) (o := 2) bT3 (by omega) [.int .i64 (-1)] (by simp)
    have f4 := Fr.setB bT3 (setAll [.int .i64 p.v[i].i, .int .i64 p.v[i].q, .int .i64 p.v[i].r] 2 [.int .i64 (-1)])
    have lW := fW.len
    have l3 := f3.len
    have l1 := f1.len
    have nTv : ¬ Ad av1 H1.length := fun hh => by have := (p1.v.lt hh).2; omega
    have nTc : ¬ Ad ac3 H1.length := fun hh => (n4 _ hh).elim (fun e => by have := hc1 _ e; omega) (fun e => by omega)
    obtain ⟨H4, hH4⟩ : ∃ H4, H4 = setB H3 H1.length (setAll [.int .i64 p.v[i].i, .int .i64 p.v[i].q, .int .i64 p.v[i].r] 2 [.int .i64 (-1)]) := ⟨_, rfl⟩
    rw [← hH4] at w4 f4
    have l4 : H4.length = H3.length := by rw [hH4, setB_len]
    have b4 : rdN H4 ⟨H1.length, 0, none⟩ 3 = some [.int .i64 p.v[i].i, .int .i64 p.v[i].q, .int .i64 (-1)] := by rw [hH4]; exact rdN_setB bT3 3 _ rfl
    have p4 := p3.fw f4.w (fun z e => by rw [e]; have := p1.f.len; omega) (by omega) (fun z hz e => nTv (e ▸ hz)) (fun z hz e => nTc (e ▸ hz))
    obtain ⟨H5, hH5⟩ : ∃ H5 : Hp, H5 = H4 ++ [some ⟨[.int .i64 p.v[i].i, .int .i64 p.v[i].q, .int .i64 (-1)], true, false⟩] := ⟨_, rfl⟩
    have f5 : Fn H4 H5 := hH5 ▸ Fr.app
    have l5 : H5.length = H4.length + 1 := by rw [hH5]; simp
    have p5 := p4.new f5
    obtain ⟨_, g1, _, _⟩ := p4.rdc
    obtain ⟨H6, H7, ha, hw, p7, fw7⟩ := p5.addV (x := volP p.v[i]) hlo h0 hO (y := .slice (some ⟨H4.length, 0, none⟩) 1 3) rfl (by rw [hH5]; simp [scells, rdN0, v3, volP]) (by omega)
    have hmv : (p.v.take i).map volP ++ [volP p.v[i]] = (p.v.take (i + 1)).map volP := by rw [List.take_succ_eq_append_getElem hil, List.map_append]; rfl
    have hcc : cellsP p.f (p.v.take i) ++ cellsW p.v[i].i (walkL p.f p.v[i].r 16) ((walkL p.f p.v[i].r 16).length / 2) = cellsP p.f (p.v.take (i + 1)) := (cellsP_succ hil).symm
    rw [hmv, hcc] at p7
    have ww : IntKind.i64.wrap ((i : Int) + 1) = ((i + 1 : Nat) : Int) := by rw [wr (by omega) (by omega)]; rfl
    have hleT : (lo ≤ H1.length) = True := eq_true (by omega)
    refine ⟨[(0, .pointer (some ⟨q, 0, none⟩)), (2, .pointer (some ⟨R, 0, none⟩)), (3, .pointer (some ⟨O, 0, none⟩)), (4, .int .i64 ((i + 1 : Nat) : Int))], H7, ?_, some ⟨H5.length, 0, none⟩, ac3, rfl, p7, ?_, fun z hz => ?_⟩
    · subst hHT
      simp only [sgs] at gs
      subst hH5
      simp only [List.length_append, List.length_cons, List.length_nil, Nat.zero_add, hlv] at ha hw g1 cw hl
      have h10 : ((1 : Nat) == 0) = false := rfl
      simp -implicitDefEqProofs only [rnd, l85_1, VMs, noRef, noRef1, isRef, List.all_cons, List.all_nil, vop, VOp.still, VOp.app, VOp.plain, allP, lof, evs, start, asI, vbin, vcells, ntup, setAll, vfill, vress, vres, tup, Nat.reduceEqDiff, ↓reduceIte, Nat.reduceAdd, Nat.reduceMul, Nat.reduceLeDiff, reduceCtorEq, gs, slen, ltc hi, ge0, decide_true, Int.toNat_natCast, ev3, ntup, vcells, vdr, hleT, List.length_append, cw, vlp, hl, w4, g1, b4, vfill, ev, lk, setAll, h10, ha, hw, ww]
    · have q1 := ((f1.trans (fT.w.mono (fun _ => False.elim))).trans (fW.w.mono (fun _ => False.elim))).then f3 (fun z hz hlz => hz.elim id (fun e => by have := n3 z (Or.inr e); omega))
      have q2 := (q1.then f4.w (fun z e hlz => by omega)).trans (f5.w.mono (fun _ => False.elim))
      exact q2.then fw7 (fun z hz hlz => hz.elim id (fun e => by have := n3 z (Or.inl e); omega))
    · rcases hz with ⟨o, e⟩ | hz
      · cases e; omega
      · exact (n4 z hz).elim (fun e => n3 z (Or.inr e)) (fun e => by omega)
  · rintro ts H1 ⟨av1, ac1, rfl, p1, f1, _⟩
    have hgs := (hp.fn p1.f).s
    rw [n1, List.take_length] at p1
    exact ⟨(.exit 0, [(0, .pointer (some ⟨q, 0, none⟩)), (2, .pointer (some ⟨R, 0, none⟩)), (3, .pointer (some ⟨O, 0, none⟩))], H1), by simp -implicitDefEqProofs only [rnd, l85_1, VMs, noRef, noRef1, isRef, List.all_cons, List.all_nil, vop, VOp.still, VOp.app, VOp.plain, allP, lof, evs, start, asI, vbin, vcells, ntup, setAll, vfill, vress, vres, tup, Nat.reduceEqDiff, ↓reduceIte, Nat.reduceAdd, Nat.reduceMul, Nat.reduceLeDiff, reduceCtorEq, hgs, slen, Int.lt_irrefl, decide_false], by simp, H1, av1, ac1, rfl, p1, f1⟩
  · exact ⟨none, none, rfl, by simpa [cellsP] using h, Fw.refl, fun z hz => by rcases hz with ⟨o, e⟩ | ⟨o, e⟩ <;> cases e⟩
/-- A plain pool in new memory. -/
def NewLP (H H' : Hp) (v : Value) (p : Pl) : Prop := ∃ U V W av nv ac nc az nz, v = .agg #[.int .i64 p.b, .slice av nv (sg av 3), .slice ac nc (sg ac 3), .slice az nz (sg az 1)] ∧ Fn H H' ∧ (∀ i, U i ∨ V i ∨ W i → H.length ≤ i) ∧ LO H.length H' U V W av nv ac nc az nz p
def NewPR (H H' : Hp) (v : Value) (c : Int) (p : Pl) : Prop := ∃ U V W av nv ac nc az nz, v = VR_ c 0 0 p.b av nv ac nc az nz ∧ Fn H H' ∧ (∀ i, U i ∨ V i ∨ W i → H.length ≤ i) ∧ LO H.length H' U V W av nv ac nc az nz p
theorem Rep.none' {α : Type} {E : Hp → Nat → Nat → α → Prop} {st : Nat} {H H' : Hp} {n : Nat} {l : List α} (h : Rep E st H none n l) : Rep E st H' none n l := ⟨h.1, fun hl => by obtain ⟨i, o, e, _⟩ := h.2 hl; cases e⟩
theorem noAd {i : Nat} (h : Ad none i) : False := by obtain ⟨o, e⟩ := h; cases e
theorem LO.none {lo lo' : Nat} {H H' : Hp} {U V W : Nat → Prop} {nv nc nz p} (h : LO lo H U V W none nv none nc none nz p) : LO lo' H' (fun _ => False) (fun _ => False) (fun _ => False) none nv none nc none nz p :=
  ⟨⟨h.r.v.none', h.r.c.none', h.r.s.none'⟩, fun i e => (noAd e).elim, fun i e => (noAd e).elim, fun i e => (noAd e).elim, fun i e => e.elim, fun i e => e.elim, fun i e => e.elim False.elim (fun e => e.elim False.elim False.elim)⟩
theorem noRef_none {a : Option Addr} {n s : Nat} (h : isRef (.slice a n s) = false) : a = none := by
  cases a with
  | none => rfl
  | some x => simp [isRef] at h
theorem NewLP.done {H H2 : Hp} {v : Value} {p : Pl} (h : NewLP H H2 v p) : NewLP H (if noRef v = true then H else H2) v p := by
  by_cases hn : noRef v = true
  · rw [if_pos hn]
    obtain ⟨U, V, W, av, nv, ac, nc, az, nz, rfl, f, g, o⟩ := h
    simp only [noRef, noRef1, List.all_cons, List.all_nil, Bool.and_eq_true, Bool.not_eq_true'] at hn
    obtain ⟨_, h1, h2, h3, _⟩ := hn
    have e1 := noRef_none h1
    have e2 := noRef_none h2
    have e3 := noRef_none h3
    subst e1 e2 e3
    exact ⟨fun _ => False, fun _ => False, fun _ => False, none, nv, none, nc, none, nz, rfl, Fr.refl, fun i e => e.elim False.elim (fun e => e.elim False.elim False.elim), o.none⟩
  · rw [if_neg hn]; exact h
theorem NewPR.done {H H2 : Hp} {v : Value} {c : Int} {p : Pl} (h : NewPR H H2 v c p) : NewPR H (if noRef v = true then H else H2) v c p := by
  by_cases hn : noRef v = true
  · rw [if_pos hn]
    obtain ⟨U, V, W, av, nv, ac, nc, az, nz, rfl, f, g, o⟩ := h
    simp only [VR_, noRef, noRef1, List.all_cons, List.all_nil, Bool.and_eq_true, Bool.not_eq_true'] at hn
    obtain ⟨_, _, _, _, h1, h2, h3, _⟩ := hn
    have e1 := noRef_none h1
    have e2 := noRef_none h2
    have e3 := noRef_none h3
    subst e1 e2 e3
    exact ⟨fun _ => False, fun _ => False, fun _ => False, none, nv, none, nc, none, nz, rfl, Fr.refl, fun i e => e.elim False.elim (fun e => e.elim False.elim False.elim), o.none⟩
  · rw [if_neg hn]; exact h
theorem NewPR.nil (H : Hp) (c : Int) : NewPR H H (VR_ c 0 0 0 none 0 none 0 none 0) c ⟨0, [], [], []⟩ :=
  ⟨fun _ => False, fun _ => False, fun _ => False, none, 0, none, 0, none, 0, rfl, Fr.refl, fun i e => e.elim False.elim (fun e => e.elim False.elim False.elim), ⟨⟨Rep.nil, Rep.nil, Rep.nil⟩, fun i e => (noAd e).elim, fun i e => (noAd e).elim, fun i e => (noAd e).elim, fun i e => e.elim, fun i e => e.elim, fun i e => e.elim False.elim (fun e => e.elim False.elim False.elim)⟩⟩
theorem Hd.repV {lo : Nat} {H : Hp} {a : Option Addr} {l : List Vo} (h : Hd lo H a l.length 3 (vC3 l)) : Rep EV 3 H a l.length l := by
  refine ⟨rfl, fun hl => ?_⟩
  rcases h with ⟨_, h2, _⟩ | ⟨i, k0, h1, h2, h3, _, _⟩
  · exact absurd (List.length_eq_zero_iff.1 h2) hl
  · subst h1
    exact (vC3_rep (n := l.length) h2 rfl List.take_length rfl).2 hl
theorem Hd.wb {lo : Nat} {H : Hp} {a : Option Addr} {n st : Nat} {L : List Value} (h : Hd lo H a n st L) {i : Nat} (hi : Ad a i) : WB lo H i := by
  obtain ⟨o, e⟩ := hi
  rcases h with ⟨h1, _⟩ | ⟨i', k0, h1, h2, _, _, h5⟩
  · rw [h1] at e; cases e
  · rw [h1] at e; cases e; exact ⟨h5, _, h2, rfl⟩
/-- The plain pool, out of what has been made. -/
theorem PS.newLP {L0 : Nat} {H0 H H' : Hp} {O R : Nat} {b : Int} {av lv ac lc} (h : PS L0 H0 H O b av lv ac lc) (h0 : H0.length ≤ R) (hR : R < L0) {az : Option Addr} {s : List Int} (hz : Rep EI 1 H az s.length s) (hzo : ∀ i, Ad az i → WB H0.length H i ∧ ¬ Ad av i ∧ ¬ Ad ac i ∧ i ≠ R ∧ i ≠ O) (hl0 : H0.length ≤ L0) (hO0 : H0.length ≤ O) (hO : O < L0) (hf : Fr (fun i => i = R ∨ i = O) H H') :
    NewLP H0 H' (.agg #[.int .i64 b, .slice av lv.length (sg av 3), .slice ac lc.length (sg ac 3), .slice az s.length (sg az 1)]) ⟨b, lv, lc, s⟩ := by
  have nv : ∀ i, Ad av i → ¬ (i = R ∨ i = O) := fun i hi => by have := (h.v.lt hi).1; omega
  have nc : ∀ i, Ad ac i → ¬ (i = R ∨ i = O) := fun i hi => by have := (h.c.lt hi).1; omega
  refine ⟨fun i => Ad av i, fun i => Ad ac i, fun i => Ad az i, av, lv.length, ac, lc.length, az, s.length, rfl, hf.w.fn h.f (fun i e => by omega), fun i hi => ?_, ⟨⟨(h.v.repV).frV nv hf, (h.c.repV).frV nc hf, hz.fr (fun i hi => by have := (hzo i hi).2.2.2; omega) hf⟩, fun i hi => ⟨(hf.wb _ _ (h.v.wb hi)).lo hl0, hi⟩, fun i hi => ⟨(hf.wb _ _ (h.c.wb hi)).lo hl0, hi⟩, fun i hi => ⟨hf.wb _ _ (hzo i hi).1, hi⟩, fun i hi => ⟨h.d i hi, fun hh => (hzo i hh).2.1 hi⟩, fun i hi hh => (hzo i hh).2.2.1 hi, fun i hi => ?_⟩⟩
  · rcases hi with hi | hi | hi
    · have := (h.v.lt hi).1; omega
    · have := (h.c.lt hi).1; omega
    · exact (hzo i hi).1.1
  · refine Nat.lt_of_lt_of_le ?_ hf.len
    rcases hi with hi | hi | hi
    · exact (h.v.lt hi).2
    · exact (h.c.lt hi).2
    · obtain ⟨_, b, hb, _⟩ := (hzo i hi).1; exact blk_lt hb
theorem l6Plain_c (d lo : Nat) (H : Hp) {q : Nat} {an nn ab nb av nv p} (hp : PP H q an nn ab nb av nv p) (hg : Good p.f) (hroot : ∀ v ∈ p.v, rootB p.f v.r = true) (hv6 : p.v.length ≤ 6) (hb24 : p.f.b.length ≤ 24) :
    ∃ v H', vcall env (d + 4) 85 [.pointer (some ⟨q, 0, none⟩)] lo H = some (v, H') ∧ NewLP H H' v (plainP p) := by
  have nb1 := hp.f.f.b.1
  have gb := hp.f.b
  obtain ⟨HO, hHO⟩ : ∃ HO : Hp, HO = H ++ [some ⟨[.int .i64 0, .slice none 0 0, .slice none 0 0, .slice none 0 0], true, false⟩, some ⟨[.int .i64 (nb : Nat), .slice none 0 0, .slice none 0 0, .slice none 0 0], true, false⟩] := ⟨_, rfl⟩
  have fO : Fn H HO := hHO ▸ Fr.app
  have lO : HO.length = H.length + 2 := by rw [hHO]; simp
  have hp0 : PS (H.length + 2) H HO (H.length + 1) (nb : Int) none [] none [] := ⟨fO, by omega, by rw [hHO]; exact blkn 1, Or.inl ⟨rfl, rfl, rfl⟩, Or.inl ⟨rfl, rfl, rfl⟩, fun i e => (noAd e).elim⟩
  have gbO := fun l => ((hp.fn fO).fn (Fr.app (l := l))).f.b
  have gb1 : rd (H ++ [some ⟨[.int .i64 0, .slice none 0 0, .slice none 0 0, .slice none 0 0], true, false⟩]) ⟨q, 1, none⟩ = some (.slice ab nb (sg ab 2)) := by have := (hp.fn (Fr.app (l := [some ⟨[.int .i64 0, .slice none 0 0, .slice none 0 0, .slice none 0 0], true, false⟩]))).f.b; exact this
  obtain ⟨r, hl, H1, av1, ac1, rfl, p1, f1⟩ := l6Vols d H.length (H.length + 2) H HO (q := q) (R := H.length) hp0 (by omega) (by omega) (by omega) hp hg hroot hv6
  obtain ⟨g0, _, _, g3⟩ := p1.rdc
  have hp1 := hp.fn p1.f
  have gb2 := hp1.f.b
  have cC := fun lo => l3Count_c (d + 2) lo H1 hp1.f.f.b (by omega)
  have hu : (nb : Int) - ((nb : Int) - busyF p.f.b) = busyF p.f.b := by omega
  have hb0 : 0 ≤ busyF p.f.b := by unfold busyF; omega
  have hb1 : busyF p.f.b ≤ 24 := by unfold busyF; have := List.countP_le_length (p := fun b : Bk => decide (b.r ≠ 0)) (l := p.f.b); omega
  have hw : IntKind.i64.wrap ((nb : Int) - ((nb : Int) - busyF p.f.b)) = busyF p.f.b := by rw [hu, wr (by omega) (by omega)]
  have rR : HO.blk H.length = some ⟨[.int .i64 0, .slice none 0 0, .slice none 0 0, .slice none 0 0], true, false⟩ := by rw [hHO]; exact blk0
  have rR1 := (f1.blk H.length (by omega) (by omega)).trans rR
  have l1 := f1.len
  rw [call_eq find85 _ _ _ rfl]
  by_cases hpos : 0 < busyF p.f.b
  · have hg1 : decide (busyF p.f.b > 0) = true := decide_eq_true hpos
    obtain ⟨H2, hH2⟩ : ∃ H2 : Hp, H2 = H1 ++ [some ⟨[.int .i64 (busyF p.f.b)], true, false⟩] := ⟨_, rfl⟩
    have f2 : Fn H1 H2 := hH2 ▸ Fr.app
    have p2 := p1.new f2
    have w3 := wr_at (lo := H.length) (o := 3) p2.o (by omega) [.slice (some ⟨H1.length, 0, none⟩) 1 1] (by simp)
    have fr3 := Fr.setB p2.o (setAll [.int .i64 (nb : Int), .slice av1 (p.v.map volP).length (sg av1 3), .slice ac1 (cellsP p.f p.v).length (sg ac1 3), .slice none 0 0] 3 [.slice (some ⟨H1.length, 0, none⟩) 1 1])
    obtain ⟨H3, hH3⟩ : ∃ H3, H3 = setB H2 (H.length + 1) (setAll [.int .i64 (nb : Int), .slice av1 (p.v.map volP).length (sg av1 3), .slice ac1 (cellsP p.f p.v).length (sg ac1 3), .slice none 0 0] 3 [.slice (some ⟨H1.length, 0, none⟩) 1 1]) := ⟨_, rfl⟩
    rw [← hH3] at w3 fr3
    have g4 : rdN H3 ⟨H.length + 1, 0, none⟩ 4 = some [.int .i64 (nb : Int), .slice av1 (p.v.map volP).length (sg av1 3), .slice ac1 (cellsP p.f p.v).length (sg ac1 3), .slice (some ⟨H1.length, 0, none⟩) 1 1] := by rw [hH3]; exact rdN_setB p2.o 4 _ rfl
    have rR3 := (fr3.blk H.length (by have := f2.len; omega) (by omega)).trans ((f2.blk H.length (by omega) id).trans rR1)
    have w5 := fun vs hv => wr_setB (lo := H.length) rR3 (by omega) vs hv
    have w6 := fun vs hv => rdN_setB rR3 4 vs hv
    have bZ : H2.blk H1.length = some ⟨[.int .i64 (busyF p.f.b)], true, false⟩ := by rw [hH2]; exact blk0
    have hz : Rep EI 1 H2 (some ⟨H1.length, 0, none⟩) 1 [busyF p.f.b] := ⟨rfl, fun _ => ⟨H1.length, 0, rfl, fun j y hy => by
      cases j with
      | zero => simp only [List.getElem?_cons_zero, Option.some.injEq] at hy; subst hy; simp [EI, rd, bZ]
      | succ j => simp at hy⟩⟩
    have hn := p2.newLP (R := H.length) (by omega) (by omega) (az := some ⟨H1.length, 0, none⟩) (s := [busyF p.f.b]) hz (fun i ⟨o, e⟩ => by
      cases e
      exact ⟨⟨by omega, _, bZ, rfl⟩, fun hh => by have := (p1.v.lt hh).2; omega, fun hh => by have := (p1.c.lt hh).2; omega, by omega, by omega⟩) (by omega) (by omega) (by omega) ((fr3.mono fun i e => Or.inr e).trans ((Fr.setB rR3 [.int .i64 (nb : Int), .slice av1 (p.v.map volP).length (sg av1 3), .slice ac1 (cellsP p.f p.v).length (sg ac1 3), .slice (some ⟨H1.length, 0, none⟩) 1 1]).mono fun i e => Or.inl e))
    have hpe : plainP p = ⟨(nb : Int), p.v.map volP, cellsP p.f p.v, [busyF p.f.b]⟩ := by unfold plainP; rw [if_pos hpos, nb1]
    rw [← hpe] at hn
    have h10 : ((1 : Nat) == 0) = false := rfl
    subst hHO hH2
    simp only [List.length_cons, List.length_nil, Nat.zero_add, sgs] at hn
    simp -implicitDefEqProofs only [v85, VMs, vop, VOp.still, VOp.app, VOp.plain, allP, lof, evs, start, asI, vbin, vcells, ntup, setAll, vfill, vress, vres, tup, Nat.reduceEqDiff, ↓reduceIte, Nat.reduceAdd, Nat.reduceMul, Nat.reduceLeDiff, reduceCtorEq, gb1, slen, vlp, hl, vdr, g0, gb2, cC, hw, hg1, vfill, ev, lk, setAll, ntup, vcells, h10, w3, g4, w5, w6]
    exact ⟨_, _, rfl, hn.done⟩
  · have hg1 : decide (busyF p.f.b > 0) = false := decide_eq_false hpos
    have w5 := fun vs hv => wr_setB (lo := H.length) rR1 (by omega) vs hv
    have w6 := fun vs hv => rdN_setB rR1 4 vs hv
    have hn := p1.newLP (R := H.length) (by omega) (by omega) (az := none) (s := []) Rep.nil (fun i e => (noAd e).elim) (by omega) (by omega) (by omega) ((Fr.setB rR1 [.int .i64 (nb : Int), .slice av1 (p.v.map volP).length (sg av1 3), .slice ac1 (cellsP p.f p.v).length (sg ac1 3), .slice none 0 0]).mono fun i e => Or.inl e)
    have hpe : plainP p = ⟨(nb : Int), p.v.map volP, cellsP p.f p.v, []⟩ := by unfold plainP; rw [if_neg hpos, nb1]
    rw [← hpe] at hn
    subst hHO
    simp only [List.length_nil, sgn] at hn
    simp -implicitDefEqProofs only [v85, VMs, vop, VOp.still, VOp.app, VOp.plain, allP, lof, evs, start, asI, vbin, vcells, ntup, setAll, vfill, vress, vres, tup, Nat.reduceEqDiff, ↓reduceIte, Nat.reduceAdd, Nat.reduceMul, Nat.reduceLeDiff, reduceCtorEq, gb1, slen, vlp, hl, vdr, g0, gb2, cC, hw, hg1, g3, w5, w6]
    exact ⟨_, _, rfl, hn.done⟩
end Go.Proofs.Ytflddpkmajoeaaa.V
