/- What is wrong with a pool? The reference's answer. -/
import Derived.Test.YtohanpndekfbgaaDoorVCF
import Derived.Test.YtohanpndekfbgaaDoorVPA
namespace Go.Proofs.YtohanpndekfbgaaDoor.V
open Go
set_option linter.unusedVariables false
set_option linter.unusedSimpArgs false
set_option maxRecDepth 100000
/-- A pointer to a pool. -/
structure PP (H : Hp) (q : Nat) (an : Option Addr) (nn : Nat) (ab : Option Addr) (nb : Nat) (av : Option Addr) (nv : Nat) (p : Po) : Prop where
  f : PF H q 0 an nn ab nb p.f
  s : rd H ⟨q, 2, none⟩ = some (.slice av nv (sg av 3))
  v : Rep EV 3 H av nv p.v
theorem PP.fn {H H' : Hp} {q an nn ab nb av nv p} (h : PP H q an nn ab nb av nv p) (hf : Fn H H') : PP H' q an nn ab nb av nv p := ⟨h.f.fn hf, (hf.rd _ _ (rd_lt h.s) id).trans h.s, h.v.fnV hf⟩
theorem PP.rdN {H : Hp} {q an nn ab nb av nv p} (h : PP H q an nn ab nb av nv p) : V.rdN H ⟨q, 0, none⟩ 3 = some [.slice an nn (sg an 3), .slice ab nb (sg ab 2), .slice av nv (sg av 3)] := rdN3 h.f.n h.f.b h.s
theorem PP.rp {H : Hp} {q an nn ab nb av nv p} (h : PP H q an nn ab nb av nv p) : RP' H an nn ab nb av nv p := ⟨h.f.f, h.v⟩
theorem l5Id_c (d lo : Nat) (H : Hp) (v : Int) : vcall env (d + 2) 41 [.int .i64 v] lo H = some (.bool (decide (1 ≤ v ∧ v ≤ 99)), H) := by
  rw [call_eq find41 _ _ _ rfl]
  simp -implicitDefEqProofs only [v41, VMs, noRef, noRef1, isRef, List.all_cons, List.all_nil, vop, VOp.still, VOp.app, VOp.plain, allP, lof, evs, start, asI, vbin, vcells, ntup, setAll, vfill, vress, vres, tup, Nat.reduceEqDiff, ↓reduceIte, Nat.reduceAdd, Nat.reduceMul, Nat.reduceLeDiff, reduceCtorEq, l1In_c]
theorem isId_c (d lo : Nat) (H : Hp) (v : Int) : vcall env (d + 2) 46 [.int .i64 v] lo H = some (.bool (decide (1 ≤ v ∧ v ≤ 99)), H) := by
  rw [call_eq find46 _ _ _ rfl]
  simp -implicitDefEqProofs only [v46, VMs, noRef, noRef1, isRef, List.all_cons, List.all_nil, vop, VOp.still, VOp.app, VOp.plain, allP, lof, evs, start, asI, vbin, vcells, ntup, setAll, vfill, vress, vres, tup, Nat.reduceEqDiff, ↓reduceIte, Nat.reduceAdd, Nat.reduceMul, Nat.reduceLeDiff, reduceCtorEq, within_c]
theorem isQuota_c (d lo : Nat) (H : Hp) (v : Int) : vcall env (d + 2) 47 [.int .i64 v] lo H = some (.bool (decide (1 ≤ v ∧ v ≤ 16)), H) := by
  rw [call_eq find47 _ _ _ rfl]
  simp -implicitDefEqProofs only [v47, VMs, noRef, noRef1, isRef, List.all_cons, List.all_nil, vop, VOp.still, VOp.app, VOp.plain, allP, lof, evs, start, asI, vbin, vcells, ntup, setAll, vfill, vress, vres, tup, Nat.reduceEqDiff, ↓reduceIte, Nat.reduceAdd, Nat.reduceMul, Nat.reduceLeDiff, reduceCtorEq, within_c]
/-- How many blocks a tree has. -/
def usedF (F : Fo) (root : Int) : Int := (((walkL F root 16).length / 2 : Nat) : Int)
theorem quo2 {n : Nat} (h : n ≤ 1000) : IntKind.i64.wrap ((n : Int).tdiv 2) = ((n / 2 : Nat) : Int) := by
  have : (n : Int).tdiv 2 = ((n / 2 : Nat) : Int) := rfl
  rw [this, wr (by omega) (by omega)]
/-- How many volumes have a root. -/
def rcV (l : List Vo) (i : Int) : Int := (l.countP (fun v => v.r == i) : Int)
def vC (F : Fo) (l : List Vo) (i : Nat) : Int := match l[i]? with
  | some v => if (1 ≤ v.i ∧ v.i ≤ 99) ∧ (1 ≤ v.q ∧ v.q ≤ 16) ∧ rootB F v.r = true then (if 0 < i ∧ v.i ≤ ((l[i - 1]?).map Vo.i).getD 0 then 1 else if usedF F v.r > v.q then 9 else 0) else 3
  | none => 0
def cV (F : Fo) (l : List Vo) : List Int := (List.range l.length).map (vC F l)
def xC (p : Po) (i : Nat) : Int := match p.f.n[i]? with
  | some x => if x.r = 0 ∨ x.r = (if x.f = true then nmS p.f.n false (i : Int) else rcV p.v (i : Int)) then 0 else 1
  | none => 0
def cX (p : Po) : List Int := (List.range p.f.n.length).map (xC p)
/-- What is wrong with a pool. -/
def pF (p : Po) : Int := if fF p.f = 0 then (if 6 < p.v.length then 2 else if ff (cV p.f p.v) = 0 then ff (cX p) else ff (cV p.f p.v)) else fF p.f
theorem cV_len (F : Fo) (l : List Vo) : (cV F l).length = l.length := by simp [cV]
theorem cX_len (p : Po) : (cX p).length = p.f.n.length := by simp [cX]
theorem cV_at {F : Fo} {l : List Vo} {i : Nat} {x : Int} (h : (cV F l)[i]? = some x) : ∃ hi : i < l.length, x = vC F l i := by
  have hi : i < l.length := by have := (List.getElem?_eq_some_iff.1 h).1; rw [cV_len] at this; exact this
  refine ⟨hi, ?_⟩
  simp only [cV, List.getElem?_map, List.getElem?_range hi, Option.map_some, Option.some.injEq] at h
  exact h.symm
theorem cX_at {p : Po} {i : Nat} {x : Int} (h : (cX p)[i]? = some x) : ∃ hi : i < p.f.n.length, x = xC p i := by
  have hi : i < p.f.n.length := by have := (List.getElem?_eq_some_iff.1 h).1; rw [cX_len] at this; exact this
  refine ⟨hi, ?_⟩
  simp only [cX, List.getElem?_map, List.getElem?_range hi, Option.map_some, Option.some.injEq] at h
  exact h.symm
theorem rcV_take (l : List Vo) (i : Int) (j : Nat) (h : j < l.length) : rcV (l.take (j + 1)) i = rcV (l.take j) i + if l[j].r = i then 1 else 0 := by
  unfold rcV
  rw [List.take_succ_eq_append_getElem h, List.countP_append]
  by_cases hv : l[j].r = i <;> simp [hv]
theorem rcV_le (l : List Vo) (i : Int) : 0 ≤ rcV l i ∧ rcV l i ≤ l.length := by
  unfold rcV
  have := List.countP_le_length (p := fun v : Vo => v.r == i) (l := l)
  omega
theorem ff01 {c : List Int} (h : ∀ y ∈ c, y = 0 ∨ y = 1) : ff c = 0 ∨ ff c = 1 := by
  induction c with
  | nil => exact Or.inl rfl
  | cons x r ih =>
    simp only [ff]
    by_cases hx : x = 0
    · rw [if_pos hx]; exact ih fun y hy => h y (by simp [hy])
    · rw [if_neg hx]; exact h x (by simp)
theorem ite01 (c : Prop) [Decidable c] : (if c then (0 : Int) else 1) = 0 ∨ (if c then (0 : Int) else 1) = 1 := by split <;> simp
theorem xC01 (p : Po) (i : Nat) : xC p i = 0 ∨ xC p i = 1 := by
  unfold xC
  cases p.f.n[i]? with
  | none => exact Or.inl rfl
  | some x => exact ite01 _
theorem cX01 (p : Po) : ff (cX p) = 0 ∨ ff (cX p) = 1 := ff01 fun y hy => by
  obtain ⟨i, hi, rfl⟩ := List.getElem_of_mem hy
  obtain ⟨_, e⟩ := cX_at (getE hi)
  rw [e]; exact xC01 p i
theorem Good.four {F : Fo} (g : Good F) : Four F := ⟨g.l, fun x hx hr => (nodeF_four (g.n x hx) hr).1⟩
end Go.Proofs.YtohanpndekfbgaaDoor.V
