/- The bytes' journal. -/
import Derived.Test.YtaahjfjpbilfnaaVJG
namespace Go.Proofs.Ytaahjfjpbilfnaa.V
open Go
set_option linter.unusedVariables false
set_option linter.unusedSimpArgs false
set_option maxRecDepth 100000
theorem dF_flush {D : Dk} (h : dF D = 0) : dF ⟨flP D.w D.p, []⟩ = 0 := by
  have g := dF_zero h
  obtain ⟨h1, h2⟩ := dF_all h
  exact dF_of (by rw [flP_len]; exact g.w) (by simp) (flP_ok _ _ h1 h2) (by simp)
/-- A journal on the way. -/
structure DJ (H0 H : Hp) (q : Nat) (ac : Option Addr) (code : List Int) (k Q W : Nat) (ap : Option Addr) (D : Dk) : Prop where
  w : Fw (· = q) H0 H
  s : Src H q ac code k
  q0 : q < H0.length
  c0 : ∀ i, Ad ac i → code ≠ [] → i < H0.length
  r : H.blk H0.length = some ⟨[.slice none 0 0, .slice none 0 0], true, false⟩
  cq : H.blk Q = some ⟨[.slice (some ⟨W, 0, none⟩) D.w.length 1, .slice ap D.p.length (sg ap 2)], true, false⟩
  rw : Rep EI 1 H (some ⟨W, 0, none⟩) D.w.length D.w
  ww : WB H0.length H W
  hp : Hd H0.length H ap D.p.length 2 (vP D.p)
  g : dF D = 0
  ql : H0.length < Q
  wl : H0.length < W ∧ W ≠ Q
  pn : ∀ i, Ad ap i → i ≠ W ∧ i ≠ Q ∧ H0.length < i
theorem DJ.z {H0 H q ac code k Q W ap D} (h : DJ H0 H q ac code k Q W ap D) : DZ H (some ⟨W, 0, none⟩) D.w.length ap D.p.length D := ⟨⟨h.rw, h.hp.repP⟩, fun A e => by
  cases e
  obtain ⟨_, b, hb, _⟩ := h.ww
  exact ⟨rfl, b, hb, Nat.zero_le _⟩, sd_good (dF_zero h.g)⟩
theorem DJ.step {H0 H H' q ac code k k' Q W ap D} (h : DJ H0 H q ac code k Q W ap D) (hf : Fw (· = q) H H') (hs : Src H' q ac code k') : DJ H0 H' q ac code k' Q W ap D := by
  have h1 := h.q0; have h2 := h.ql; have h3 := h.wl
  exact ⟨h.w.trans hf, hs, h.q0, h.c0, (hf.blk _ (blk_lt h.r) (by omega)).trans h.r, (hf.blk _ (blk_lt h.cq) (by omega)).trans h.cq, h.rw.fwI hf (fun i hi e => by have := hi.eq; omega), hf.wb h.ww (by omega), h.hp.fw hf (fun i hi e => by have := (h.hp.lt hi).1; omega), h.g, h.ql, h.wl, h.pn⟩
theorem DJ.next {H0 H q ac code k Q W ap D} (h : DJ H0 H q ac code k Q W ap D) : DJ H0 (srcB H q ac code (k + 1)) q ac code (k + 1) Q W ap D := by
  obtain ⟨s, f, _⟩ := h.s.next (k + 1)
  exact h.step f.w s
theorem DJ.fn {H0 H H' q ac code k Q W ap D} (h : DJ H0 H q ac code k Q W ap D) (hf : Fn H H') : DJ H0 H' q ac code k Q W ap D := h.step (Fw.q hf) (h.s.fn hf)
/-- Another disk comes into the cell. -/
theorem DJ.renew {H0 H H' q ac code k k' Q W W' ap ap'} {D D' : Dk} {lo : Nat} (h : DJ H0 H q ac code k Q W ap D) (hlo : lo ≤ H0.length) (hf : Fw (· = q) H H') (hs : Src H' q ac code k') (rw : Rep EI 1 H' (some ⟨W', 0, none⟩) D'.w.length D'.w) (ww : WB H.length H' W') (hp : Hd H.length H' ap' D'.p.length 2 (vP D'.p)) (pn : ∀ i, Ad ap' i → i ≠ W') (g : dF D' = 0) :
    ∃ H'', wrN lo H' ⟨Q, 0, none⟩ [.slice (some ⟨W', 0, none⟩) D'.w.length 1, .slice ap' D'.p.length (sg ap' 2)] = some H'' ∧ DJ H0 H'' q ac code k' Q W' ap' D' := by
  have h1 := h.q0; have h2 := h.ql; have h3 := h.wl
  have lR := blk_lt h.r
  have lQ := blk_lt h.cq
  have lw := h.w.len
  have c1 := (hf.blk _ lQ (by omega)).trans h.cq
  have w1 := wr_setB (lo := lo) c1 (by omega) [.slice (some ⟨W', 0, none⟩) D'.w.length 1, .slice ap' D'.p.length (sg ap' 2)] rfl
  have ff := Fr.setB c1 [.slice (some ⟨W', 0, none⟩) D'.w.length 1, .slice ap' D'.p.length (sg ap' 2)]
  have hW := ww.1
  refine ⟨_, w1, (h.w.trans hf).then ff.w (fun j e hj => by omega), hs.fw ff.w (by omega) (fun i hi hc e => by have := h.c0 i hi hc; omega), h.q0, h.c0, by rw [blk_setB c1, if_neg (by omega)]; exact (hf.blk _ lR (by omega)).trans h.r, by rw [blk_setB c1, if_pos rfl], rw.fr (T := (· = Q)) (fun i hi e => by have := hi.eq; omega) ff, (ww.lo (by omega)).fn _ ff, (hp.down (by omega)).fw ff.w (fun i hi e => by have := (hp.lt hi).1; omega), g, h.ql, by omega, fun i hi => ⟨pn i hi, by have := (hp.lt hi).1; omega, by have := (hp.lt hi).1; omega⟩⟩
theorem same_fw {q : List Nat} {S : Nat → Prop} {H H' : Hp} (h : Fw S H H') (hS : ∀ i, i < H.length → S i → i ∈ q) : Same q H H' := ⟨h.len, fun i hi hn => by
  have hb := h.blk i hi (fun hs => hn (hS i hi hs))
  unfold Hp.blk at hb
  have hl := h.len
  rw [List.getElem?_eq_getElem (show i < H'.length by omega), List.getElem?_eq_getElem hi] at hb ⊢
  simp only [Option.bind_some, id_eq] at hb
  rw [hb]⟩
theorem blk_none {H : Hp} {i : Nat} (hi : i < H.length) (hb : H.blk i = none) : H[i]? = some none := by
  unfold Hp.blk at hb
  rw [List.getElem?_eq_getElem hi] at hb ⊢
  simp only [Option.bind_some, id_eq] at hb
  rw [hb]
theorem set_none {H : Hp} {i : Nat} (hi : i < H.length) (hb : H.blk i = none) (y : Option Blk) : (H.set i y).set i none = H := by
  rw [List.set_set]
  apply List.ext_getElem?
  intro j
  rw [List.getElem?_set]
  by_cases h : i = j
  · subst h; rw [if_pos rfl, if_pos hi, blk_none hi hb]
  · rw [if_neg h]
theorem fw_set (H : Hp) (i : Nat) (y : Option Blk) : Fw (· = i) H (H.set i y) := ⟨by simp, fun j hj hs => by unfold Hp.blk; rw [List.getElem?_set, if_neg (fun e => hs e.symm)]⟩
theorem blk_set' {H : Hp} {i : Nat} (hi : i < H.length) (b : Blk) : Hp.blk (H.set i (some b)) i = some b := by unfold Hp.blk; rw [List.getElem?_set, if_pos rfl, if_pos hi]; rfl
/-- A round of appends: the record is drawn and put, beside a cell that is made at whatever time. -/
theorem round_c (d lo : Nat) {H0 X : Hp} {q : Nat} {ac : Option Addr} {code : List Int} {k Q W : Nat} {ap : Option Addr} {D : Dk} (h : DJ H0 X q ac code k Q W ap D) (hlo : lo ≤ q) (hk : k ≤ 800000000) :
    ∃ i w X2 v X3 k', vcall env (d + 5) 102 [.pointer (some ⟨q, 0, none⟩)] lo (X ++ [none]) = some (.slice (some ⟨i, 0, none⟩) w.length 1, X2) ∧
      vcall env (d + 5) 59 [.agg #[.slice (some ⟨W, 0, none⟩) D.w.length 1, .slice ap D.p.length (sg ap 2)], .slice (some ⟨i, 0, none⟩) w.length 1] lo X2 = some (v, X3) ∧ AN X2 v X3 D w ∧
      Fw (· = q) (X ++ [none]) X2 ∧ Src X2 q ac code k' ∧ k' ≤ k + 10 := by
  have lX := h.w.len
  have h1 := h.q0
  have fN : Fn X (X ++ [none]) := Fr.app
  obtain ⟨i, w, k0, X2, c1, f1, ⟨k', kb, s1⟩, b1, hi, hw5, _, _⟩ := l2Record_c (d + 3) lo (X ++ [none]) (h.s.fn fN) hlo (by omega) (fun j hj hc => by have := h.c0 j hj hc; simp; omega)
  have j1 := (h.fn fN).step f1 s1
  obtain ⟨v, X3, c2, an⟩ := specAppend_c (d + 1) lo X2 j1.z (vI_rep b1 rfl) (by unfold Sm; omega)
  simp only [sgs] at c2
  exact ⟨i, w, X2, v, X3, k', c1, c2, an, f1, s1, kb⟩
/-- Behind an append: it is committed now and then. -/
theorem second_c (d lo : Nat) {H0 Y : Hp} {q : Nat} {ac : Option Addr} {code : List Int} {k Q W : Nat} {ap : Option Addr} {D : Dk} (h : DJ H0 Y q ac code k Q W ap D) (hlo : lo ≤ q) (hk : k ≤ 800000000) :
    ∃ b Y1, vcall env (d + 5) 83 [.pointer (some ⟨q, 0, none⟩), .int .i64 2] lo Y = some (.bool b, Y1) ∧ DJ H0 Y1 q ac code (k + 1) Q W ap D ∧
      (b = true → ∃ i Y2 Y3, rdN Y1 ⟨Q, 0, none⟩ 2 = some [.slice (some ⟨W, 0, none⟩) D.w.length 1, .slice ap D.p.length (sg ap 2)] ∧
        vcall env (d + 5) 45 [.agg #[.slice (some ⟨W, 0, none⟩) D.w.length 1, .slice ap D.p.length (sg ap 2)]] lo Y1 = some (.agg #[.int .i64 0, .slice (some ⟨i, 0, none⟩) 64 1, .slice none 0 0], Y2) ∧
        wrN lo Y2 ⟨Q, 0, none⟩ [.slice (some ⟨i, 0, none⟩) 64 1, .slice none 0 0] = some Y3 ∧ DJ H0 Y3 q ac code (k + 1) Q i none ⟨flP D.w D.p, []⟩) := by
  have c1 := l1Chance_c (d + 3) lo Y h.s hlo (by omega) 2
  have j1 := h.next
  have h1 := h.q0
  generalize srcB Y q ac code (k + 1) = Y1 at *
  refine ⟨_, Y1, c1, j1, fun _ => ?_⟩
  obtain ⟨i, Y2, c2, a2⟩ := specCommit_ok d lo Y1 j1.z j1.g
  obtain ⟨Y3, w3, j3⟩ := j1.renew (lo := lo) (by omega) (Fw.q a2.f) (j1.s.fn a2.f) a2.w a2.o a2.p a2.n (dF_flush j1.g)
  have hl : (flP D.w D.p).length = 64 := by rw [flP_len]; exact (dF_zero h.g).w
  simp only [hl, List.length_nil, sgn] at w3
  simp only [sgs] at c2
  exact ⟨i, Y2, Y3, by simp [rdN, j1.cq], c2, w3, j3⟩
/-- An append, beside its cell. -/
theorem first_c (d lo : Nat) {H0 X : Hp} {q : Nat} {ac : Option Addr} {code : List Int} {k Q W : Nat} {ap : Option Addr} {D : Dk} (h : DJ H0 X q ac code k Q W ap D) (hlo : lo ≤ q) (hk : k ≤ 800000000) :
    ∃ (i : Nat) (w : List Int) (X2 : Hp) (c : Int) (va vb : Value) (X3 Y4 : Hp) (k' : Nat), vcall env (d + 5) 102 [.pointer (some ⟨q, 0, none⟩)] lo (X ++ [none]) = some (.slice (some ⟨i, 0, none⟩) w.length 1, X2) ∧
      vcall env (d + 5) 59 [.agg #[.slice (some ⟨W, 0, none⟩) D.w.length 1, .slice ap D.p.length (sg ap 2)], .slice (some ⟨i, 0, none⟩) w.length 1] lo X2 = some (.agg #[.int .i64 c, va, vb], X3) ∧
      Same [q] X (X2.set X.length (some ⟨[.int .i64 0, .slice none 0 0, .slice none 0 0], true, false⟩)) ∧ Same [q] X (X3.set X.length (some ⟨[.int .i64 0, .slice none 0 0, .slice none 0 0], true, false⟩)) ∧
      back [X.length] (X ++ [some ⟨[.int .i64 0, .slice none 0 0, .slice none 0 0], true, false⟩]) X2 = X2.set X.length (some ⟨[.int .i64 0, .slice none 0 0, .slice none 0 0], true, false⟩) ∧
      kill [X.length] (X2.set X.length (some ⟨[.int .i64 0, .slice none 0 0, .slice none 0 0], true, false⟩)) = X2 ∧
      back [X.length] (X2.set X.length (some ⟨[.int .i64 0, .slice none 0 0, .slice none 0 0], true, false⟩)) X3 = X3.set X.length (some ⟨[.int .i64 0, .slice none 0 0, .slice none 0 0], true, false⟩) ∧
      wrN lo (X3.set X.length (some ⟨[.int .i64 0, .slice none 0 0, .slice none 0 0], true, false⟩)) ⟨X.length, 0, none⟩ [.int .i64 c, va, vb] = some Y4 ∧
      rd Y4 ⟨X.length, 0, none⟩ = some (.int .i64 c) ∧ k' ≤ k + 10 ∧
      ((c ≠ 0 ∧ DJ H0 Y4 q ac code k' Q W ap D) ∨ (c = 0 ∧ rdN Y4 ⟨X.length, 1, none⟩ 2 = some [va, vb] ∧ ∃ Y5 W' ap' D', wrN lo Y4 ⟨Q, 0, none⟩ [va, vb] = some Y5 ∧ DJ H0 Y5 q ac code k' Q W' ap' D')) := by
  have lX := h.w.len
  have h1 := h.q0
  obtain ⟨i, w, X2, v, X3, k', c1, c2, an, f1, s1, kb⟩ := round_c d lo h hlo hk
  have fN : Fn X (X ++ [none]) := Fr.app
  have l2 : X.length + 1 ≤ X2.length := by have := f1.len; simpa using this
  have b2 : X2.blk X.length = none := (f1.blk _ (by simp) (by omega)).trans (by simp [Hp.blk])
  have l3 : X2.length ≤ X3.length := by
    rcases an with ⟨_, _, rfl⟩ | ⟨_, i', b, _, ar⟩
    · exact Nat.le_refl _
    · exact ar.f.len
  obtain ⟨N, hN⟩ : ∃ N : Blk, N = ⟨[.int .i64 0, .slice none 0 0, .slice none 0 0], true, false⟩ := ⟨_, rfl⟩
  have fX2 : Fw (· = q) X X2 := (Fw.q fN).trans f1
  have f23 : Fn X2 X3 := by
    rcases an with ⟨_, _, rfl⟩ | ⟨_, i', b, _, ar⟩
    · exact Fr.refl
    · exact ar.f
  have fX3 : Fw (· = q) X X3 := fX2.trans (Fw.q f23)
  have fY2 : Fw (· = q) X (X2.set X.length (some N)) := fX2.then (fw_set X2 X.length (some N)) (fun j e hj => by omega)
  have fY3 : Fw (· = q) X (X3.set X.length (some N)) := fX3.then (fw_set X3 X.length (some N)) (fun j e hj => by omega)
  have bk1 : back [X.length] (X ++ [some N]) X2 = X2.set X.length (some N) := by simp [back]
  have bk2 : back [X.length] (X2.set X.length (some N)) X3 = X3.set X.length (some N) := by
    simp only [back, List.getElem?_set, if_true, if_pos (show X.length < X2.length by omega), Option.getD_some]
  have kl : kill [X.length] (X2.set X.length (some N)) = X2 := by simp only [kill]; exact set_none (by omega) b2 _
  have b3 : Hp.blk (X3.set X.length (some N)) X.length = some N := blk_set' (by omega) N
  rw [hN] at b3
  have main : ∀ (c : Int) (va vb : Value), ∃ Y4, wrN lo (X3.set X.length (some N)) ⟨X.length, 0, none⟩ [.int .i64 c, va, vb] = some Y4 ∧ rd Y4 ⟨X.length, 0, none⟩ = some (.int .i64 c) ∧ rdN Y4 ⟨X.length, 1, none⟩ 2 = some [va, vb] ∧ Fw (· = X.length) X3 Y4 ∧ Fw (· = q) X Y4 ∧ Src Y4 q ac code k' := by
    intro c va vb
    have w4 := wr_setB (lo := lo) b3 (by omega) [.int .i64 c, va, vb] rfl
    have ff := Fr.setB b3 [.int .i64 c, va, vb]
    have fw4 : Fw (· = X.length) X3 (setB (X3.set X.length (some ⟨[.int .i64 0, .slice none 0 0, .slice none 0 0], true, false⟩)) X.length [.int .i64 c, va, vb]) := (fw_set X3 X.length _).trans ff.w
    have bb := blk_setB (j := X.length) (vs := [.int .i64 c, va, vb]) b3
    rw [if_pos rfl] at bb
    refine ⟨_, by rw [hN]; exact w4, by simp [rd, bb], by simp [rdN, bb], fw4, fX3.then fw4 (fun j e hj => by omega), (s1.fn f23).fw fw4 (by omega) (fun j hj hc e => by have := h.c0 j hj hc; omega)⟩
  rcases an with ⟨hc, rfl, rfl⟩ | ⟨hc, i', b, rfl, ar⟩
  · obtain ⟨Y4, w4, r4, _, _, g4, s4⟩ := main (apC D w) (.slice none 0 0) (.slice none 0 0)
    subst hN
    exact ⟨i, w, X3, apC D w, _, _, X3, Y4, k', c1, c2, same_fw fY2 (fun j _ e => by simp [e]), same_fw fY3 (fun j _ e => by simp [e]), bk1, kl, bk2, w4, r4, kb, Or.inl ⟨hc, h.step g4 s4⟩⟩
  · obtain ⟨Y4, w4, r4, q4, fw4, g4, s4⟩ := main 0 (.slice (some ⟨i', 0, none⟩) (apD D w).w.length 1) (.slice b (apD D w).p.length (sg b 2))
    have hi' := ar.o.1
    obtain ⟨Y5, w5, j5⟩ := h.renew (lo := lo) (by omega) g4 s4 (ar.w.fwI fw4 (fun j hj => by rw [hj.eq]; omega)) ((fw4.wb ar.o (by omega)).lo (by omega)) ((ar.p.fw fw4 (fun j hj => by have := (ar.p.lt hj).1; omega)).down (by omega)) ar.n (apD_good hc)
    subst hN
    exact ⟨i, w, X2, 0, _, _, X3, Y4, k', c1, c2, same_fw fY2 (fun j _ e => by simp [e]), same_fw fY3 (fun j _ e => by simp [e]), bk1, kl, bk2, w4, r4, kb, Or.inr ⟨rfl, q4, Y5, i', b, apD D w, w5, j5⟩⟩
end Go.Proofs.Ytaahjfjpbilfnaa.V
