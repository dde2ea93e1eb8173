/- A disk in a cell, with a put more; numbers with others ahead. -/
import Derived.Test.YtaahjfjpbilfnaaVJB
namespace Go.Proofs.Ytaahjfjpbilfnaa.V
open Go
set_option linter.unusedVariables false
set_option linter.unusedSimpArgs false
set_option maxRecDepth 100000
theorem app_front2 {lo : Nat} {H : Hp} {a : Option Addr} {n : Nat} {l : List Int} (pre : List Int) (hp : pre ≠ []) (hp9 : pre.length ≤ 9) (h : Rep EI 1 H a n l) (hx : Ex H a) (hn : 0 < n) (hn9 : n ≤ 100) (hlo : lo ≤ H.length) :
    ∃ H2, vappend 1 8 lo (H ++ [some ⟨vI pre, true, false⟩]) (.slice (some ⟨H.length, 0, none⟩) pre.length 1) (.slice a n (sg a 1)) = some (.slice (some ⟨H.length + 1, 0, none⟩) (pre.length + n) 1, H2) ∧ Fn H H2 ∧ H2.length = H.length + 2 ∧ H2.blk (H.length + 1) = some ⟨vI (pre ++ l), true, false⟩ := by
  have hc := (h.fnI (Fr.app (l := [some ⟨vI pre, true, false⟩]))).cellsI (hx.fn Fr.app)
  have hb : Hp.blk (H ++ [some ⟨vI pre, true, false⟩]) H.length = some ⟨vI pre, true, false⟩ := blk0
  have hp0 : pre.length ≠ 0 := fun e => hp (List.length_eq_zero_iff.1 e)
  obtain ⟨H2, ha, hb2, hl2, hf2, _⟩ := app_own (st := 1) (by_ := 8) (lo := lo) (i := H.length) (n := pre.length) (m := n) (L := vI pre) (M := vI l) (y := .slice a n (sg a 1)) hb (by rw [vI_len, Nat.mul_one]) (fun e => absurd e hp0) hlo rfl hc hn (fits_small (by omega))
  simp only [List.length_append, List.length_cons, List.length_nil, Nat.zero_add] at ha hb2 hl2
  exact ⟨H2, ha, hf2 H Fr.app (Nat.le_refl _), hl2, by rw [hb2, vI_app]⟩
theorem stands2_c (d lo : Nat) (H : Hp) {a : Option Addr} {n : Nat} {l : List Int} (k : Int) (h : Rep EI 1 H a n l) (hx : Ex H a) (hn : 0 < n) (hn9 : n ≤ 100) :
    ∃ i H', vcall env (d + 2) 100 [.int .i64 k, .slice a n (sg a 1)] lo H = some (.slice (some ⟨i, 0, none⟩) (2 + n) 1, H') ∧ Fn H H' ∧ H.length ≤ i ∧ H'.blk i = some ⟨vI ((n : Int) :: sumW (k :: l) 9 :: l), true, false⟩ := by
  obtain ⟨H2, ha, f2, l2, w2, r2⟩ := app_front (lo := H.length) [k] (by simp) (by simp) h hx hn hn9 (Nat.le_refl _)
  have c := implSum_c d H.length H2 _ _ _ r2 (by unfold Sm; simp; omega)
  obtain ⟨H3, ha3, f3, l3, b3⟩ := app_front2 (lo := H.length) [(n : Int), sumW (k :: l) 9] (by simp) (by simp) (h.fnI f2) (hx.fn f2) hn hn9 f2.len
  simp only [vI, List.map_cons, List.map_nil, List.length_cons, List.length_nil, Nat.zero_add, sgs, List.cons_append, List.nil_append, Nat.reduceAdd] at ha c ha3
  refine ⟨H2.length + 1, H3, ?_, f2.trans f3, by have := f2.len; omega, b3⟩
  rw [call_eq find100 _ _ _ rfl]
  simp -implicitDefEqProofs only [v100, VMs, noRef, noRef1, isRef, List.all_cons, List.all_nil, vop, VOp.still, VOp.app, VOp.plain, allP, lof, evs, start, asI, vbin, vcells, ntup, setAll, vfill, vress, vres, tup, Nat.reduceEqDiff, ↓reduceIte, Nat.reduceAdd, Nat.reduceMul, Nat.reduceLeDiff, reduceCtorEq, slen, Nat.reduceBEq, ha, c, ha3]
/-- A cell that holds a disk: its words lie in the block i, its puts in a block of their own that is none of K. -/
structure CB (lo : Nat) (K : Nat → Prop) (X : Hp) (Q i nw : Nat) (q : Option Addr) (p : List Bk) : Prop where
  c : X.blk Q = some ⟨[.slice (some ⟨i, 0, none⟩) nw 1, .slice q p.length (sg q 2)], true, false⟩
  hd : Hd lo X q p.length 2 (vP p)
  nq : ∀ j, Ad q j → j ≠ Q ∧ ¬ K j
theorem CB.fw {lo : Nat} {K S : Nat → Prop} {X X' : Hp} {Q i nw : Nat} {q : Option Addr} {p : List Bk} (h : CB lo K X Q i nw q p) (hf : Fw S X X') (hS : ∀ j, S j → j ≠ Q ∧ ¬ Ad q j) : CB lo K X' Q i nw q p :=
  ⟨(hf.blk _ (blk_lt h.c) (fun hh => (hS Q hh).1 rfl)).trans h.c, h.hd.fw hf (fun j hj hh => (hS j hh).2 hj), h.nq⟩
theorem CB.put {lo lo0 : Nat} {K : Nat → Prop} {X : Hp} {Q i nw : Nat} {q : Option Addr} {p : List Bk} (h : CB lo K X Q i nw q p) (hlo : lo0 ≤ lo) (hQ : lo0 ≤ Q) (hlX : lo ≤ X.length) (hp : p.length ≤ 900) (hK : ∀ j, X.length ≤ j → ¬ K j) (x : Bk) :
    ∃ X2 X3, vappend 2 16 lo0 (X ++ [some ⟨[.int .i64 x.r, .int .i64 x.d], true, false⟩]) (.slice q p.length (sg q 2)) (.slice (some ⟨X.length, 0, none⟩) 1 2) = some (.slice (some ⟨X.length + 1, 0, none⟩) (p.length + 1) 2, X2) ∧
      wrN lo0 X2 ⟨Q, 1, none⟩ [.slice (some ⟨X.length + 1, 0, none⟩) (p.length + 1) 2] = some X3 ∧ CB lo K X3 Q i nw (some ⟨X.length + 1, 0, none⟩) (p ++ [x]) ∧
      Fw (fun j => j = Q ∨ Ad q j) X X3 ∧ X.length + 2 ≤ X3.length := by
  have lQ := blk_lt h.c
  have f1 : Fn X (X ++ [some ⟨[.int .i64 x.r, .int .i64 x.d], true, false⟩]) := Fr.app
  have hd1 := h.hd.fw f1.w (fun _ _ => id)
  obtain ⟨X2, ha, hl2, hd2, _, ho2⟩ := app_hd (st := 2) (by_ := 16) (m := 1) (M := vp x) (y := .slice (some ⟨X.length, 0, none⟩) 1 2) (hd1.down hlo) rfl (by simp [scells, rdN0, vp]) (by omega) rfl (fits_small (by omega)) (by simp; omega)
  simp only [List.length_append, List.length_cons, List.length_nil, Nat.zero_add] at ha hl2 hd2 ho2
  have q2 : X2.blk Q = some ⟨[.slice (some ⟨i, 0, none⟩) nw 1, .slice q p.length (sg q 2)], true, false⟩ := (ho2 Q (fun o e => (h.nq Q ⟨o, e⟩).1 rfl) (by omega)).trans ((f1.blk _ lQ id).trans h.c)
  have w3 := wr_at (lo := lo0) (o := 1) q2 hQ [.slice (some ⟨X.length + 1, 0, none⟩) (p.length + 1) 2] (by simp)
  have hset : setAll [Value.slice (some ⟨i, 0, none⟩) nw 1, .slice q p.length (sg q 2)] 1 [.slice (some ⟨X.length + 1, 0, none⟩) (p.length + 1) 2] = [.slice (some ⟨i, 0, none⟩) nw 1, .slice (some ⟨X.length + 1, 0, none⟩) (p.length + 1) 2] := rfl
  rw [hset] at w3
  have ff := Fr.setB q2 [.slice (some ⟨i, 0, none⟩) nw 1, .slice (some ⟨X.length + 1, 0, none⟩) (p.length + 1) 2]
  have l3 := ff.len
  have hlp : (p ++ [x]).length = p.length + 1 := by simp
  have hvp : vP p ++ vp x = vP (p ++ [x]) := by simp [vP]
  rw [hvp] at hd2
  refine ⟨X2, setB X2 Q [.slice (some ⟨i, 0, none⟩) nw 1, .slice (some ⟨X.length + 1, 0, none⟩) (p.length + 1) 2], ha, w3, ⟨by rw [blk_setB q2, if_pos rfl, hlp]; rfl, by rw [hlp]; exact (hd2.up (by omega)).fw ff.w (fun j hj e => by have := hj.eq; omega), fun j hj => ⟨by have := hj.eq; omega, hK j (by have := hj.eq; omega)⟩⟩, ⟨by omega, fun j hj hs => ?_⟩, by omega⟩
  have hjQ : j ≠ Q := fun e => hs (Or.inl e)
  have hjq : ∀ o, q ≠ some ⟨j, o, none⟩ := fun o e => hs (Or.inr ⟨o, e⟩)
  exact (ff.blk _ (by omega) hjQ).trans ((ho2 j hjq (by omega)).trans (f1.blk _ hj id))
end Go.Proofs.Ytaahjfjpbilfnaa.V
