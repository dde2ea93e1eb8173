/- Plain pools that are given back: equations, marks. -/
import Derived.Test.YtflddpkmajoeaaaVLB
import Derived.Test.YtflddpkmajoeaaaVLC
import Derived.Test.YtflddpkmajoeaaaVPD
namespace Go.Proofs.Ytflddpkmajoeaaa.V
open Go
set_option linter.unusedVariables false
set_option linter.unusedSimpArgs false
set_option maxRecDepth 100000
/-- A plain pool in own memory: its vols in U, its cells in V, its shares in W. -/
structure LO (lo : Nat) (H : Hp) (U V W : Nat → Prop) (av : Option Addr) (nv : Nat) (ac : Option Addr) (nc : Nat) (az : Option Addr) (nz : Nat) (p : Pl) : Prop where
  r : RL H av nv ac nc az nz p
  ov : ∀ i, Ad av i → WB lo H i ∧ U i
  oc : ∀ i, Ad ac i → WB lo H i ∧ V i
  oz : ∀ i, Ad az i → WB lo H i ∧ W i
  uv : ∀ i, U i → ¬ V i ∧ ¬ W i
  vw : ∀ i, V i → ¬ W i
  lt : ∀ i, U i ∨ V i ∨ W i → i < H.length
theorem RL.frL {X : Nat → Prop} {H H' : Hp} {av nv ac nc az nz p} (h : RL H av nv ac nc az nz p) (hf : Fr X H H') (hv : ∀ i, Ad av i → ¬ X i) (hc : ∀ i, Ad ac i → ¬ X i) (hz : ∀ i, Ad az i → ¬ X i) : RL H' av nv ac nc az nz p := ⟨h.v.frV hv hf, h.c.frV hc hf, h.s.fr hz hf⟩
theorem LO.fr {X : Nat → Prop} {lo : Nat} {H H' : Hp} {U V W : Nat → Prop} {av nv ac nc az nz p} (h : LO lo H U V W av nv ac nc az nz p) (hX : ∀ i, U i ∨ V i ∨ W i → ¬ X i) (hf : Fr X H H') : LO lo H' U V W av nv ac nc az nz p :=
  ⟨h.r.frL hf (fun i hi => hX i (Or.inl (h.ov i hi).2)) (fun i hi => hX i (Or.inr (Or.inl (h.oc i hi).2))) (fun i hi => hX i (Or.inr (Or.inr (h.oz i hi).2))), fun i hi => ⟨hf.wb _ _ (h.ov i hi).1, (h.ov i hi).2⟩, fun i hi => ⟨hf.wb _ _ (h.oc i hi).1, (h.oc i hi).2⟩, fun i hi => ⟨hf.wb _ _ (h.oz i hi).1, (h.oz i hi).2⟩, h.uv, h.vw, fun i hi => Nat.lt_of_lt_of_le (h.lt i hi) hf.len⟩
theorem LO.lo {lo lo' : Nat} {H : Hp} {U V W : Nat → Prop} {av nv ac nc az nz p} (h : LO lo H U V W av nv ac nc az nz p) (hl : lo' ≤ lo) : LO lo' H U V W av nv ac nc az nz p :=
  ⟨h.r, fun i hi => ⟨(h.ov i hi).1.lo hl, (h.ov i hi).2⟩, fun i hi => ⟨(h.oc i hi).1.lo hl, (h.oc i hi).2⟩, fun i hi => ⟨(h.oz i hi).1.lo hl, (h.oz i hi).2⟩, h.uv, h.vw, h.lt⟩
def sL (p : Pl) : Int := 3 * (p.v.length : Int) + 3 * (p.c.length : Int) + (p.s.length : Int)
def mL (p : Pl) (k : Int) : Pl := ⟨p.b, mV p.v.length k, mV p.c.length (k + 3 * (p.v.length : Int)), mI p.s.length (k + 3 * (p.v.length : Int) + 3 * (p.c.length : Int))⟩
/-- The value of an answer. -/
def VR_ (c r x b : Int) (av : Option Addr) (nv : Nat) (ac : Option Addr) (nc : Nat) (az : Option Addr) (nz : Nat) : Value := .agg #[.int .i64 c, .int .i64 r, .int .i64 x, .int .i64 b, .slice av nv (sg av 3), .slice ac nc (sg ac 3), .slice az nz (sg az 1)]
theorem eqPlainResult_c (d lo : Nat) (H : Hp) {av nv ac nc az nz av' nv' ac' nc' az' nz'} {p q : Pl} (hp : RL H av nv ac nc az nz p) (hq : RL H av' nv' ac' nc' az' nz' q) (hs : SL p) (c r x c' r' x' : Int) :
    vcall env (d + 4) 40 [VR_ c r x p.b av nv ac nc az nz, VR_ c' r' x' q.b av' nv' ac' nc' az' nz'] lo H = some (.bool (decide (c = c' ∧ r = r' ∧ x = x' ∧ p = q)), H) := by
  rw [call_eq find40 _ _ _ rfl]
  have c1 := fun l => eqPlain_c d H.length (H ++ l) hp.app hq.app hs
  simp -implicitDefEqProofs only [VR_, v40, VMs, noRef, noRef1, isRef, List.all_cons, List.all_nil, vop, VOp.still, VOp.app, VOp.plain, allP, lof, evs, start, asI, vbin, vcells, ntup, setAll, vfill, vress, vres, tup, Nat.reduceEqDiff, ↓reduceIte, Nat.reduceAdd, Nat.reduceMul, Nat.reduceLeDiff, reduceCtorEq, c1]
  by_cases h1 : c = c' <;> by_cases h2 : r = r' <;> by_cases h3 : x = x' <;> by_cases h4 : p = q <;> simp [h1, h2, h3, h4]
theorem own1 {lo : Nat} {H : Hp} {U : Nat → Prop} {a : Option Addr} {n : Nat} (h : ∀ i, Ad a i → WB lo H i ∧ U i) : Own U lo H a n := ON.own fun i hi => h i hi
theorem markPlain_c (d lo : Nat) (H : Hp) (U V W : Nat → Prop) {av nv ac nc az nz} {p : Pl} (k : Int) (h : LO lo H U V W av nv ac nc az nz p) (hs : SL p) (hk : 0 ≤ k) (hk' : Km (k + sL p)) :
    ∃ H', vcall env (d + 2) 89 [.agg #[.int .i64 p.b, .slice av nv (sg av 3), .slice ac nc (sg ac 3), .slice az nz (sg az 1)], .int .i64 k] lo H = some (.int .i64 (k + sL p), H') ∧ Fr (fun i => U i ∨ V i ∨ W i) H H' ∧ RL H' av nv ac nc az nz (mL p k) := by
  have n1 := h.r.v.1
  have n2 := h.r.c.1
  have n3 := h.r.s.1
  subst n1 n2 n3
  have h1 := h.fr (X := fun _ => False) (fun i _ => id) (Fr.app (l := [some ⟨[.int .i64 p.b, .slice av p.v.length (sg av 3), .slice ac p.c.length (sg ac 3), .slice az p.s.length (sg az 1)], true, false⟩]))
  have kk : Km (k + sL p) := hk'
  unfold sL at kk
  obtain ⟨H1, c1, l1, f1, r1⟩ := markVolS_c d lo _ U av p.v.length p.v k h1.r.v (own1 h1.ov) hs.v hk (kk.lt (by omega) (by omega))
  have h2c := h1.r.c.frV (T := U) (fun i hi hu => (h.uv i hu).1 (h.oc i hi).2) f1
  obtain ⟨H2, c2, l2, f2, r2⟩ := markCellS_c d lo H1 V ac p.c.length p.c (k + 3 * (p.v.length : Int)) h2c (own1 fun i hi => ⟨f1.wb _ _ (h1.oc i hi).1, (h1.oc i hi).2⟩) hs.c (by omega) (kk.lt (by omega) (by omega))
  have h3s := (h1.r.s.fr (T := U) (fun i hi hu => (h.uv i hu).2 (h.oz i hi).2) f1).fr (T := V) (fun i hi hu => h.vw i hu (h.oz i hi).2) f2
  obtain ⟨H3, c3, l3, f3, r3⟩ := markInt64S_c d lo H2 W az p.s.length p.s (k + 3 * (p.v.length : Int) + 3 * (p.c.length : Int)) h3s (own1 fun i hi => ⟨f2.wb _ _ (f1.wb _ _ (h1.oz i hi).1), (h1.oz i hi).2⟩) hs.s (by omega) (kk.lt (by omega) (by omega))
  have b0 : H1.blk H.length = some ⟨[.int .i64 p.b, .slice av p.v.length (sg av 3), .slice ac p.c.length (sg ac 3), .slice az p.s.length (sg az 1)], true, false⟩ := (f1.blk _ (by simp) (fun hu => Nat.lt_irrefl _ (h.lt _ (Or.inl hu)))).trans (by rw [blk0]; rfl)
  have g1 : rd H1 ⟨H.length, 2, none⟩ = some (.slice ac p.c.length (sg ac 3)) := by simp only [rd, b0, Option.bind_some, getcs, getc0]
  have g2 : rd H2 ⟨H.length, 3, none⟩ = some (.slice az p.s.length (sg az 1)) := by
    have b1 := (f2.blk _ (blk_lt b0) (fun hu => Nat.lt_irrefl _ (h.lt _ (Or.inr (Or.inl hu))))).trans b0
    simp only [rd, b1, Option.bind_some, getcs, getc0]
  refine ⟨H3, ?_, Fr.trans Fr.app (((f1.mono fun i hi => Or.inl hi).trans (f2.mono fun i hi => Or.inr (Or.inl hi))).trans (f3.mono fun i hi => Or.inr (Or.inr hi))), ⟨?_, ?_, ?_⟩⟩
  · rw [call_eq find89 _ _ _ rfl]
    simp -implicitDefEqProofs only [v89, VMs, noRef, noRef1, isRef, List.all_cons, List.all_nil, vop, VOp.still, VOp.app, VOp.plain, allP, lof, evs, start, asI, vbin, vcells, ntup, setAll, vfill, vress, vres, tup, Nat.reduceEqDiff, ↓reduceIte, Nat.reduceAdd, Nat.reduceMul, Nat.reduceLeDiff, reduceCtorEq, c1, g1, c2, g2, c3, sL]
    congr 3; omega
  · exact (r1.frV (T := V) (fun i hi hv => (h.uv i (h.ov i hi).2).1 hv) f2).frV (T := W) (fun i hi hw => (h.uv i (h.ov i hi).2).2 hw) f3
  · exact r2.frV (T := W) (fun i hi hw => h.vw i (h.oc i hi).2 hw) f3
  · exact r3
theorem markPlainResult_c (d lo : Nat) (H : Hp) (U V W : Nat → Prop) {av nv ac nc az nz} {p : Pl} (c r x k : Int) (h : LO lo H U V W av nv ac nc az nz p) (hs : SL p) (hk : 0 ≤ k) (hk' : Km (k + sL p)) :
    ∃ H', vcall env (d + 3) 42 [VR_ c r x p.b av nv ac nc az nz, .int .i64 k] lo H = some (.int .i64 (k + sL p), H') ∧ Fr (fun i => U i ∨ V i ∨ W i) H H' ∧ RL H' av nv ac nc az nz (mL p k) := by
  have h1 := h.fr (X := fun _ => False) (fun i _ => id) (Fr.app (l := [some ⟨[.int .i64 c, .int .i64 r, .int .i64 x, .int .i64 p.b, .slice av nv (sg av 3), .slice ac nc (sg ac 3), .slice az nz (sg az 1)], true, false⟩]))
  obtain ⟨H1, c1, f1, r1⟩ := markPlain_c d lo _ U V W k h1 hs hk hk'
  refine ⟨H1, ?_, Fr.trans Fr.app f1, r1⟩
  rw [call_eq find42 _ _ _ rfl]
  simp -implicitDefEqProofs only [VR_, v42, VMs, noRef, noRef1, isRef, List.all_cons, List.all_nil, vop, VOp.still, VOp.app, VOp.plain, allP, lof, evs, start, asI, vbin, vcells, ntup, setAll, vfill, vress, vres, tup, Nat.reduceEqDiff, ↓reduceIte, Nat.reduceAdd, Nat.reduceMul, Nat.reduceLeDiff, reduceCtorEq, c1]
theorem heldPlain_c (d lo : Nat) (H : Hp) {av nv ac nc az nz} {p : Pl} (k : Int) (h : RL H av nv ac nc az nz (mL p k)) (hs : SL p) (hk : 0 ≤ k) (hk' : Km (k + sL p)) :
    vcall env (d + 2) 90 [.agg #[.int .i64 p.b, .slice av nv (sg av 3), .slice ac nc (sg ac 3), .slice az nz (sg az 1)], .int .i64 k] lo H = some (.int .i64 (k + sL p), H) := by
  have n1 : nv = p.v.length := by rw [h.v.1, mL, mV_len]
  have n2 : nc = p.c.length := by rw [h.c.1, mL, mV_len]
  have n3 : nz = p.s.length := by rw [h.s.1, mL, mI_len]
  subst n1 n2 n3
  have kk : Km (k + sL p) := hk'
  unfold sL at kk
  have c1 := fun l => heldVolS_c d H.length (H ++ l) av p.v.length k (h.app (l := l)).v hs.v hk (kk.lt (by omega) (by omega))
  have c2 := fun l => heldCellS_c d H.length (H ++ l) ac p.c.length (k + 3 * (p.v.length : Int)) (h.app (l := l)).c hs.c (by omega) (kk.lt (by omega) (by omega))
  have c3 := fun l => heldInt64S_c d H.length (H ++ l) az p.s.length (k + 3 * (p.v.length : Int) + 3 * (p.c.length : Int)) (h.app (l := l)).s hs.s (by omega) (kk.lt (by omega) (by omega))
  have e1 : decide (k + 3 * (p.v.length : Int) < 0) = false := decide_eq_false (by omega)
  have e2 : decide (k + 3 * (p.v.length : Int) + 3 * (p.c.length : Int) < 0) = false := decide_eq_false (by omega)
  have e3 : decide (k + 3 * (p.v.length : Int) + 3 * (p.c.length : Int) + (p.s.length : Int) < 0) = false := decide_eq_false (by omega)
  rw [call_eq find90 _ _ _ rfl]
  simp -implicitDefEqProofs only [v90, VMs, noRef, noRef1, isRef, List.all_cons, List.all_nil, vop, VOp.still, VOp.app, VOp.plain, allP, lof, evs, start, asI, vbin, vcells, ntup, setAll, vfill, vress, vres, tup, Nat.reduceEqDiff, ↓reduceIte, Nat.reduceAdd, Nat.reduceMul, Nat.reduceLeDiff, reduceCtorEq, c1, c2, c3, e1, e2, e3, sL]
  congr 3; omega
theorem heldPlainResult_c (d lo : Nat) (H : Hp) {av nv ac nc az nz} {p : Pl} (c r x k : Int) (h : RL H av nv ac nc az nz (mL p k)) (hs : SL p) (hk : 0 ≤ k) (hk' : Km (k + sL p)) :
    vcall env (d + 3) 43 [VR_ c r x p.b av nv ac nc az nz, .int .i64 k] lo H = some (.int .i64 (k + sL p), H) := by
  have c1 := fun l => heldPlain_c d H.length (H ++ l) k h.app hs hk hk'
  have e1 : decide (k + sL p < 0) = false := decide_eq_false (by unfold sL; omega)
  rw [call_eq find43 _ _ _ rfl]
  simp -implicitDefEqProofs only [VR_, v43, VMs, noRef, noRef1, isRef, List.all_cons, List.all_nil, vop, VOp.still, VOp.app, VOp.plain, allP, lof, evs, start, asI, vbin, vcells, ntup, setAll, vfill, vress, vres, tup, Nat.reduceEqDiff, ↓reduceIte, Nat.reduceAdd, Nat.reduceMul, Nat.reduceLeDiff, reduceCtorEq, c1, e1]
/-- Volumes without trees; the cells of a walk; how many blocks are in use. -/
def volP (v : Vo) : Vo := ⟨v.i, v.q, -1⟩
def cellP (id : Int) (w : List Int) (j : Nat) : Vo := ⟨id, w.getD (2 * j) 0, w.getD (2 * j + 1) 0⟩
def cellsW (id : Int) (w : List Int) (n : Nat) : List Vo := (List.range n).map (cellP id w)
def cellsV (F : Fo) (v : Vo) : List Vo := cellsW v.i (walkL F v.r 16) ((walkL F v.r 16).length / 2)
def cellsP (F : Fo) (l : List Vo) : List Vo := l.flatMap (cellsV F)
def busyF (l : List Bk) : Int := ((l.countP fun b => decide (b.r ≠ 0) : Nat) : Int)
def plainP (p : Po) : Pl := ⟨(p.f.b.length : Int), p.v.map volP, cellsP p.f p.v, if 0 < busyF p.f.b then [busyF p.f.b] else []⟩
theorem cellsW_succ (id : Int) (w : List Int) (n : Nat) : cellsW id w (n + 1) = cellsW id w n ++ [cellP id w n] := by simp [cellsW, List.range_succ]
theorem cellsP_succ {F : Fo} {l : List Vo} {i : Nat} (h : i < l.length) : cellsP F (l.take (i + 1)) = cellsP F (l.take i) ++ cellsV F l[i] := by
  unfold cellsP
  rw [List.take_succ_eq_append_getElem h, List.flatMap_append]
  simp only [List.flatMap_cons, List.flatMap_nil, List.append_nil]
theorem walkF_even (F : Fo) (root : Int) (p : Nat) : (walkF F root p).length = 0 ∨ (walkF F root p).length = 2 := by
  unfold walkF
  split <;> simp
theorem walkL_even (F : Fo) (root : Int) : ∀ n, (walkL F root n).length % 2 = 0
  | 0 => by simp [walkL]
  | n + 1 => by
    rw [walkL_succ, List.length_append]
    have := walkL_even F root n
    rcases walkF_even F root n with h | h <;> omega
end Go.Proofs.Ytflddpkmajoeaaa.V
