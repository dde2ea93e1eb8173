/- A disk, as the bytes draw it. -/
import Derived.Test.YtaahjfjpbilfnaaVQA
namespace Go.Proofs.Ytaahjfjpbilfnaa.V
open Go
set_option linter.unusedVariables false
set_option linter.unusedSimpArgs false
set_option maxRecDepth 100000
theorem Same.src (H : Hp) (q : Nat) (ac : Option Addr) (code : List Int) (k : Nat) : Same [q] H (srcB H q ac code k) := by
  refine ⟨by unfold srcB; rw [setB_len]; exact Nat.le_refl _, fun i hi hn => ?_⟩
  unfold srcB setB
  rw [List.getElem?_set, if_neg (fun e => hn (by rw [e]; simp))]
theorem Same.trans {q : List Nat} {H0 H1 H2 : Hp} (h : Same q H0 H1) (h' : Same q H1 H2) : Same q H0 H2 := ⟨Nat.le_trans h.1 h'.1, fun i hi hn => (h'.2 i (Nat.lt_of_lt_of_le hi h.1) hn).trans (h.2 i hi hn)⟩
theorem Same.app {q : List Nat} {H : Hp} (l : List (Option Blk)) : Same q H (H ++ l) := ⟨by simp, fun i hi _ => List.getElem?_append_left hi⟩
theorem Same.more {q q' : List Nat} {H0 H1 : Hp} (h : Same q H0 H1) (hq : ∀ i, i ∈ q → i ∈ q') : Same q' H0 H1 := ⟨h.1, fun i hi hn => h.2 i hi fun hh => hn (hq i hh)⟩
theorem blk_kill : ∀ (q : List Nat) (H : Hp) (i : Nat), i ∉ q → Hp.blk (kill q H) i = Hp.blk H i
  | [], H, i, _ => rfl
  | x :: r, H, i, h => by
    simp only [List.mem_cons, not_or] at h
    have := blk_kill r (H.set x none) i h.2
    simp only [kill]
    rw [this]
    unfold Hp.blk
    rw [List.getElem?_set, if_neg (fun e => h.1 e.symm)]
theorem rd_kill {q : List Nat} {H : Hp} {i o : Nat} (h : i ∉ q) : rd (kill q H) ⟨i, o, none⟩ = rd H ⟨i, o, none⟩ := by simp only [rd, blk_kill q H i h]
theorem rdN_kill {q : List Nat} {H : Hp} {i o n : Nat} (h : i ∉ q) : rdN (kill q H) ⟨i, o, none⟩ n = rdN H ⟨i, o, none⟩ n := by simp only [rdN, blk_kill q H i h]
theorem Same.setB (H : Hp) (i : Nat) (vs : List Value) : Same [i] H (setB H i vs) :=
  ⟨by rw [setB_len]; exact Nat.le_refl _, fun j hj hn => by unfold V.setB; rw [List.getElem?_set, if_neg (fun e => hn (by rw [e]; simp))]⟩
theorem h30 : ((3 : Nat) == 0) = false := rfl
theorem vI_set (ks : List Int) (i : Nat) (k : Int) : (vI ks).set i (.int .i64 k) = vI (ks.set i k) := by simp [vI, List.map_set]
/-! ### Puts, in a block of their own -/
def vp (x : Bk) : List Value := [.int .i64 x.r, .int .i64 x.d]
def vP (l : List Bk) : List Value := l.flatMap vp
theorem vP_len : ∀ l : List Bk, (vP l).length = l.length * 2
  | [] => rfl
  | x :: r => by
    have := vP_len r
    simp only [vP, List.flatMap_cons, List.length_append, vp, List.length_cons, List.length_nil] at this ⊢
    omega
theorem vP_app (a b : List Bk) : vP a ++ vP b = vP (a ++ b) := by simp [vP]
theorem vP_get : ∀ (l : List Bk) (j : Nat) (x : Bk), l[j]? = some x → (vP l)[j * 2]? = some (.int .i64 x.r) ∧ (vP l)[j * 2 + 1]? = some (.int .i64 x.d)
  | [], j, x, h => by simp at h
  | y :: r, 0, x, h => by
    simp only [List.getElem?_cons_zero, Option.some.injEq] at h; subst h
    exact ⟨rfl, rfl⟩
  | y :: r, j + 1, x, h => by
    have := vP_get r j x (by simpa using h)
    have e : vP (y :: r) = .int .i64 y.r :: .int .i64 y.d :: vP r := rfl
    rw [e, Nat.add_mul, Nat.one_mul]
    exact this
theorem vP_rep {H : Hp} {i : Nat} {l : List Bk} {b : Blk} (hb : H.blk i = some b) (hc : b.cs = vP l) : Rep EB 2 H (some ⟨i, 0, none⟩) l.length l :=
  ⟨rfl, fun _ => ⟨i, 0, rfl, fun j x hx => by
    obtain ⟨h1, h2⟩ := vP_get l j x hx
    exact ⟨by simp only [rd, hb, Option.bind_some, hc, Nat.zero_add]; exact h1, by simp only [rd, hb, Option.bind_some, hc, Nat.zero_add]; exact h2⟩⟩⟩
theorem Hd.lt {lo : Nat} {H : Hp} {a : Option Addr} {n st : Nat} {L : List Value} (h : Hd lo H a n st L) {i : Nat} (hi : Ad a i) : lo ≤ i ∧ i < H.length := by
  obtain ⟨o, e⟩ := hi
  rcases h with ⟨h1, _⟩ | ⟨j, k0, h1, hb, _, _, hl⟩
  · rw [h1] at e; cases e
  · rw [h1] at e; cases e; exact ⟨hl, blk_lt hb⟩
theorem Hd.fw {lo : Nat} {H H' : Hp} {a : Option Addr} {n st : Nat} {L : List Value} {S : Nat → Prop} (h : Hd lo H a n st L) (hf : Fw S H H') (hS : ∀ i, Ad a i → ¬ S i) : Hd lo H' a n st L := by
  rcases h with h | ⟨j, k0, h1, hb, h2⟩
  · exact Or.inl h
  · exact Or.inr ⟨j, k0, h1, (hf.blk _ (blk_lt hb) (hS j ⟨0, h1⟩)).trans hb, h2⟩
theorem Hd.repP {lo : Nat} {H : Hp} {a : Option Addr} {l : List Bk} (h : Hd lo H a l.length 2 (vP l)) : Rep EB 2 H a l.length l := by
  rcases h with ⟨rfl, hn, _⟩ | ⟨j, k0, rfl, hb, _⟩
  · have : l = [] := List.length_eq_zero_iff.1 hn
    subst this; exact Rep.nil
  · exact vP_rep hb rfl
theorem l1New_c (d lo : Nat) (H : Hp) : ∃ W H', vcall env (d + 1) 112 [] lo H = some (.agg #[.slice (some ⟨W, 0, none⟩) 64 1, .slice none 0 0], H') ∧ Fn H H' ∧ H.length ≤ W ∧ H'.blk W = some ⟨vI (List.replicate 64 0), true, false⟩ := by
  obtain ⟨H1, hH1⟩ : ∃ H1 : Hp, H1 = H ++ [some ⟨[.slice (some ⟨H.length + 1, 0, none⟩) 64 1, .slice none 0 0], true, false⟩, some ⟨vI (List.replicate 64 0), true, false⟩] := ⟨_, rfl⟩
  refine ⟨H.length + 1, H1, ?_, hH1 ▸ Fr.app, by omega, by rw [hH1]; exact blkn 1⟩
  have z : (List.replicate 64 [Value.int .i64 0]).flatten = vI (List.replicate 64 0) := zI_flat 64
  have m1 : (((8 : Nat) : Int) * 64 ≤ 281474976710656) = True := eq_true (by omega)
  have m2 : ((64 : Int) ≤ 4611686018427387904) = True := eq_true (by omega)
  have m3 : ((0 : Int) ≤ 64) = True := eq_true (by omega)
  have m4 : ((64 : Int) == 0) = false := rfl
  have m5 : ((64 : Int)).toNat = 64 := rfl
  rw [call_eq find112 _ _ _ rfl, hH1]
  simp -implicitDefEqProofs only [v112, VMs, noRef, noRef1, isRef, List.all_cons, List.all_nil, vop, VOp.still, VOp.app, VOp.plain, allP, lof, evs, start, asI, vbin, vcells, ntup, setAll, vfill, vress, vres, tup, Nat.reduceEqDiff, ↓reduceIte, Nat.reduceAdd, Nat.reduceMul, Nat.reduceLeDiff, reduceCtorEq, m1, m2, m3, m4, m5, z]
/-- A disk on the way. -/
structure DI (H0 H : Hp) (q : Nat) (ac : Option Addr) (code : List Int) (k Q W : Nat) (full : List Int) (ap : Option Addr) (p : List Bk) : Prop where
  w : Fw (· = q) H0 H
  s : Src H q ac code k
  q0 : q < H0.length
  c0 : ∀ i, Ad ac i → code ≠ [] → i < H0.length
  r : H.blk H0.length = some ⟨[.slice none 0 0, .slice none 0 0], true, false⟩
  cq : H.blk Q = some ⟨[.slice (some ⟨W, 0, none⟩) 64 1, .slice ap p.length (sg ap 2)], true, false⟩
  cw : H.blk W = some ⟨vI full, true, false⟩
  l : full.length = 64
  hp : Hd H0.length H ap p.length 2 (vP p)
  ql : H0.length < Q
  wl : H0.length < W
  qw : Q ≠ W
  pn : ∀ i, Ad ap i → i ≠ W ∧ i ≠ Q ∧ H0.length < i
theorem DI.step {H0 H H' q ac code k k' Q W full ap p} (h : DI H0 H q ac code k Q W full ap p) (hf : Fw (· = q) H H') (hs : Src H' q ac code k') : DI H0 H' q ac code k' Q W full ap p := by
  have h1 := h.q0; have h2 := h.ql; have h3 := h.wl
  exact ⟨h.w.trans hf, hs, h.q0, h.c0, (hf.blk _ (blk_lt h.r) (by omega)).trans h.r, (hf.blk _ (blk_lt h.cq) (by omega)).trans h.cq, (hf.blk _ (blk_lt h.cw) (by omega)).trans h.cw, h.l, h.hp.fw hf (fun i hi e => by have := (h.hp.lt hi).1; omega), h.ql, h.wl, h.qw, h.pn⟩
theorem DI.next {H0 H q ac code k Q W full ap p} (h : DI H0 H q ac code k Q W full ap p) : DI H0 (srcB H q ac code (k + 1)) q ac code (k + 1) Q W full ap p := by
  obtain ⟨s, f, _⟩ := h.s.next (k + 1)
  exact h.step f.w s
theorem DI.fn {H0 H H' q ac code k Q W full ap p} (h : DI H0 H q ac code k Q W full ap p) (hf : Fn H H') : DI H0 H' q ac code k Q W full ap p := h.step (Fw.q hf) (h.s.fn hf)
/-- A word is written. -/
theorem DI.word {H0 H q ac code k Q W full ap p} (h : DI H0 H q ac code k Q W full ap p) {lo : Nat} (hlo : lo ≤ H0.length) {v : Nat} (hv : v < 64) (x : Int) :
    ∃ H', wrN lo H ⟨W, v, none⟩ [.int .i64 x] = some H' ∧ DI H0 H' q ac code k Q W (full.set v x) ap p := by
  have h1 := h.q0; have h2 := h.ql; have h3 := h.wl; have h4 := h.l; have h5 := h.qw
  have w1 := wr_at (lo := lo) (o := v) h.cw (by omega) [.int .i64 x] (by rw [vI_len]; simp; omega)
  have hset : setAll (vI full) v [.int .i64 x] = vI (full.set v x) := by simp only [setAll]; exact vI_set _ _ _
  rw [hset] at w1
  have f1 := Fr.setB h.cw (vI (full.set v x))
  refine ⟨_, w1, h.w.then f1.w (fun j e hj => by omega), h.s.fw f1.w (by omega) (fun i hi hc e => by have := h.c0 i hi hc; omega), h.q0, h.c0, by rw [blk_setB h.cw, if_neg (by omega)]; exact h.r, by rw [blk_setB h.cw, if_neg h.qw]; exact h.cq, by rw [blk_setB h.cw, if_pos rfl], by rw [List.length_set]; exact h.l, h.hp.fw f1.w (fun i hi e => (h.pn i hi).1 e), h.ql, h.wl, h.qw, h.pn⟩
/-- Other puts. -/
theorem DI.puts {H0 H q ac code k Q W full ap p} (h : DI H0 H q ac code k Q W full ap p) {lo : Nat} (hlo : lo ≤ H0.length) {H1 : Hp} {ap' : Option Addr} {p' : List Bk} (hf : ∀ j, (∀ o, ap ≠ some ⟨j, o, none⟩) → j < H.length → H1.blk j = H.blk j) (hl : H.length ≤ H1.length) (hp : Hd H0.length H1 ap' p'.length 2 (vP p')) (hn : ∀ i, Ad ap' i → H.length ≤ i) :
    ∃ H', wrN lo H1 ⟨Q, 1, none⟩ [.slice ap' p'.length (sg ap' 2)] = some H' ∧ DI H0 H' q ac code k Q W full ap' p' := by
  have h1 := h.q0; have h2 := h.ql; have h3 := h.wl; have h5 := h.qw
  have fw : Fw (fun i => Ad ap i) H H1 := ⟨hl, fun i hi hs => hf i (fun o e => hs ⟨o, e⟩) hi⟩
  have npo : ∀ i, Ad ap i → H0.length ≤ i := fun i hi => (h.hp.lt hi).1
  have q1 : H1.blk Q = some ⟨[.slice (some ⟨W, 0, none⟩) 64 1, .slice ap p.length (sg ap 2)], true, false⟩ := (fw.blk _ (blk_lt h.cq) (fun hh => (h.pn _ hh).2.1 rfl)).trans h.cq
  have w1 := wr_at (lo := lo) (o := 1) q1 (by omega) [.slice ap' p'.length (sg ap' 2)] (by simp)
  have hset : setAll [Value.slice (some ⟨W, 0, none⟩) 64 1, .slice ap p.length (sg ap 2)] 1 [.slice ap' p'.length (sg ap' 2)] = [.slice (some ⟨W, 0, none⟩) 64 1, .slice ap' p'.length (sg ap' 2)] := rfl
  rw [hset] at w1
  have f2 := Fr.setB q1 [.slice (some ⟨W, 0, none⟩) 64 1, .slice ap' p'.length (sg ap' 2)]
  have hQl := blk_lt h.cq
  have hWl := blk_lt h.cw
  have hRl := blk_lt h.r
  refine ⟨_, w1, ?_, ?_, h.q0, h.c0, ?_, by rw [blk_setB q1, if_pos rfl], ?_, h.l, hp.fw f2.w (fun i hi e => by have := hn i hi; omega), h.ql, h.wl, h.qw, fun i hi => by have := hn i hi; omega⟩
  · exact (h.w.then fw (fun j e hj => by have := npo j e; omega)).then f2.w (fun j e hj => by omega)
  · have s1 := h.s.fw fw (fun hh => by have := npo _ hh; omega) (fun i hi hc hh => by have := h.c0 i hi hc; have := npo _ hh; omega)
    exact s1.fw f2.w (by omega) (fun i hi hc e => by have := h.c0 i hi hc; omega)
  · rw [blk_setB q1, if_neg (by omega)]
    exact (fw.blk _ hRl (fun hh => by have := (h.pn _ hh).2.2; omega)).trans h.r
  · rw [blk_setB q1, if_neg (fun e => h.qw e.symm)]
    exact (fw.blk _ hWl (fun hh => (h.pn _ hh).1 rfl)).trans h.cw
/-! ### Beside lists of known numbers -/
theorem kill_set : ∀ (B : List Nat) (H : Hp) (i : Nat) (y : Option Blk), i ∉ B → kill B (H.set i y) = (kill B H).set i y
  | [], H, i, y, _ => rfl
  | b :: r, H, i, y, h => by
    simp only [List.mem_cons, not_or] at h
    simp only [kill]
    rw [List.set_comm _ _ h.1]
    exact kill_set r (H.set b none) i y h.2
theorem kill_src {B : List Nat} {H : Hp} {q : Nat} {ac : Option Addr} {code : List Int} {k : Nat} (h : q ∉ B) : kill B (srcB H q ac code k) = srcB (kill B H) q ac code k := kill_set B H q _ h
theorem Src.kill {B : List Nat} {H : Hp} {q : Nat} {ac : Option Addr} {code : List Int} {k : Nat} (h : Src H q ac code k) (hq : q ∉ B) (hc : ∀ i, Ad ac i → code ≠ [] → i ∉ B) : Src (kill B H) q ac code k :=
  ⟨(blk_kill B H q hq).trans h.b, ⟨h.c.1, fun hl => let ⟨i, o, ha, h2⟩ := h.c.2 hl; ⟨i, o, ha, fun j x hx => (rd_kill (hc i ⟨o, ha⟩ hl)).trans (h2 j x hx)⟩⟩, h.y, h.n, h.ne⟩
theorem back_kill {K : List Nat} {H H' : Hp} (h : ∀ x, x ∈ K → H'[x]? = H[x]?) : back K H (kill K H') = H' := by
  apply List.ext_getElem?
  intro i
  rw [back_get, kill_len, kill_get]
  by_cases hi : i ∈ K ∧ i < H'.length
  · rw [if_pos hi, ← h i hi.1, List.getElem?_eq_getElem hi.2, Option.getD_some]
  · rw [if_neg hi, if_neg hi]
theorem back_app {K : List Nat} {H : Hp} (l : List (Option Blk)) (h : ∀ x, x ∈ K → x < H.length) : back K H (kill K H ++ l) = H ++ l := by
  apply List.ext_getElem?
  intro i
  rw [back_get, List.length_append, kill_len]
  by_cases hk : i ∈ K
  · have hl := h i hk
    rw [if_pos ⟨hk, by omega⟩, List.getElem?_append_left hl, List.getElem?_eq_getElem hl, Option.getD_some]
  · rw [if_neg (fun hh => hk hh.1)]
    by_cases hl : i < H.length
    · rw [List.getElem?_append_left (by rw [kill_len]; exact hl), List.getElem?_append_left hl, kill_get, if_neg (fun hh => hk hh.1)]
    · rw [List.getElem?_append_right (by rw [kill_len]; omega), List.getElem?_append_right (by omega), kill_len]
/-- A call that leaves some blocks alone, reckoned without them; so of an append. -/
def LoneC (call : Cal) (f : Nat) (vs : List Value) (lo : Nat) (H : Hp) (v : Value) (H' : Hp) (K : List Nat) : Prop :=
  (∀ x, x ∈ K → H'[x]? = H[x]?) ∧ call f vs lo (kill K H) = some (v, kill K H')
def LoneA (st b : Nat) (x y : Value) (lo : Nat) (H : Hp) (v : Value) (H' : Hp) (K : List Nat) : Prop :=
  (∀ x, x ∈ K → H'[x]? = H[x]?) ∧ vappend st b lo (kill K H) x y = some (v, kill K H')
theorem pick_lone (d lo : Nat) {H : Hp} {q e : Nat} {ac : Option Addr} {code L : List Int} {k : Nat} {K : List Nat} (h : Src H q ac code k) (hlo : lo ≤ q) (hk : k ≤ 1000000000) (he : H.blk e = some ⟨vI L, true, false⟩) (hL0 : 0 < L.length) (heq : e ≠ q) (hqK : q ∉ K) (heK : e ∉ K) (hcK : ∀ i, Ad ac i → code ≠ [] → i ∉ K) :
    LoneC (vcall env (d + 2)) 113 [.pointer (some ⟨q, 0, none⟩), .slice (some ⟨e, 0, none⟩) L.length 1] lo H (.int .i64 (pickV code k L)) (srcB H q ac code (k + 1)) K := by
  refine ⟨fun x hx => ?_, ?_⟩
  · unfold srcB setB
    rw [List.getElem?_set, if_neg (fun hh => hqK (by rw [hh]; exact hx))]
  · rw [kill_src hqK]
    have := l1Pick_c d lo (kill K H) (h.kill hqK hcK) hlo hk (al := some ⟨e, 0, none⟩) (L := L) (vI_rep ((blk_kill K H e heK).trans he) rfl) hL0 (fun i hi => by obtain ⟨o, e2⟩ := hi; cases e2; exact heq)
    simpa only [sgs] using this
end Go.Proofs.Ytaahjfjpbilfnaa.V
