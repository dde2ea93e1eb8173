/- New lists of blocks, new forests; marks on forests. -/
import Derived.Test.YtohanpndekfbgaaDoorVC3
namespace Go.Proofs.YtohanpndekfbgaaDoor.V
open Go
set_option linter.unusedVariables false
set_option linter.unusedSimpArgs false
set_option maxRecDepth 100000
theorem l1In_c (d lo : Nat) (H : Hp) (v a b : Int) : vcall env (d + 1) 23 [.int .i64 v, .int .i64 a, .int .i64 b] lo H = some (.bool (decide (a ≤ v ∧ v ≤ b)), H) := by
  rw [call_eq find23 _ _ _ rfl]
  by_cases h1 : a ≤ v <;> by_cases h2 : v ≤ b <;> simp -implicitDefEqProofs only [v23, VMs, noRef, noRef1, isRef, List.all_cons, List.all_nil, vop, VOp.still, VOp.app, VOp.plain, allP, lof, evs, start, asI, vbin, vcells, ntup, setAll, vfill, vress, vres, tup, Nat.reduceEqDiff, ↓reduceIte, Nat.reduceAdd, Nat.reduceMul, Nat.reduceLeDiff, reduceCtorEq, h1, h2, ge_iff_le, decide_true, decide_false]
theorem within_c (d lo : Nat) (H : Hp) (v a b : Int) : vcall env (d + 1) 30 [.int .i64 v, .int .i64 a, .int .i64 b] lo H = some (.bool (decide (a ≤ v ∧ v ≤ b)), H) := by
  rw [call_eq find30 _ _ _ rfl]
  by_cases h1 : a ≤ v <;> by_cases h2 : v ≤ b <;> simp -implicitDefEqProofs only [v30, VMs, noRef, noRef1, isRef, List.all_cons, List.all_nil, vop, VOp.still, VOp.app, VOp.plain, allP, lof, evs, start, asI, vbin, vcells, ntup, setAll, vfill, vress, vres, tup, Nat.reduceEqDiff, ↓reduceIte, Nat.reduceAdd, Nat.reduceMul, Nat.reduceLeDiff, reduceCtorEq, h1, h2, ge_iff_le, decide_true, decide_false]
def zB (n : Nat) : List Value := (List.replicate n [Value.int .i64 0, Value.int .i64 0]).flatten
/-! ### Forests -/
theorem Rep.imp {α : Type} {E E' : Hp → Nat → Nat → α → Prop} {st : Nat} {H H' : Hp} {a : Option Addr} {n : Nat} {l : List α} (h : Rep E st H a n l) (hE : ∀ i o x, E H i o x → E' H' i o x) : Rep E' st H' a n l :=
  ⟨h.1, fun hl => let ⟨i, o, ha, h2⟩ := h.2 hl; ⟨i, o, ha, fun j x hx => hE _ _ _ (h2 j x hx)⟩⟩
structure RFs (U : Nat → Prop) (H : Hp) (an : Option Addr) (nn : Nat) (ab : Option Addr) (nb : Nat) (F : Fo) : Prop where
  n : Rep (ENs U) 3 H an nn F.n
  b : Rep EB 2 H ab nb F.b
  a : ∀ i, Ad ab i → U i
theorem Rep.en {U : Nat → Prop} {H : Hp} {a : Option Addr} {n : Nat} {l : List Nd} (h : Rep (ENs U) 3 H a n l) : Rep EN 3 H a n l :=
  ⟨h.1, fun hl => let ⟨i, o, ha, h2⟩ := h.2 hl; ⟨i, o, ha, fun j x hx => (h2 j x hx).en⟩⟩
theorem RFs.rf {U : Nat → Prop} {H : Hp} {an nn ab nb F} (h : RFs U H an nn ab nb F) : RF H an nn ab nb F := ⟨h.n.en, h.b⟩
theorem RFs.fr {U T : Nat → Prop} {H H' : Hp} {an nn ab nb F} (h : RFs U H an nn ab nb F) (hT : ∀ i, U i → ¬ T i) (hf : Fr T H H') : RFs U H' an nn ab nb F :=
  ⟨h.n.mono fun i o x => ENs.fr hT hf, h.b.frB (fun i hi => hT _ (h.a i hi)) hf, h.a⟩
theorem RFs.mono {U V : Nat → Prop} {H : Hp} {an nn ab nb F} (h : RFs U H an nn ab nb F) (hv : ∀ i, U i → V i) : RFs V H an nn ab nb F :=
  ⟨h.n.imp fun i o x ⟨s, a, e, ha⟩ => ⟨hv _ s, a, e, fun i hi => hv _ (ha i hi)⟩, h.b, fun i hi => hv _ (h.a i hi)⟩
structure FO (lo : Nat) (H : Hp) (S T : Nat → Prop) (an : Option Addr) (nn : Nat) (ab : Option Addr) (nb : Nat) (F : Fo) : Prop where
  n : ON S lo H an nn F.n
  b : Rep EB 2 H ab nb F.b
  o : ∀ i, Ad ab i → WB lo H i ∧ T i
  d : ∀ i, S i → ¬ T i
  lt : ∀ i, S i ∨ T i → i < H.length
  x : ∀ A, ab = some A → A.spot = none ∧ A.off = 0
theorem OKN.fr {S T : Nat → Prop} {lo : Nat} {H H' : Hp} {p o : Nat} {K : Nat → Option Addr} {l : List Nd} (h : OKN S lo H p o K l) (hT : ∀ i, S i → ¬ T i) (hf : Fr T H H') : OKN S lo H' p o K l :=
  ⟨⟨hf.wb _ _ h.w.1, h.w.2⟩, fun j x hx => (h.e j x hx).fr (hT _ h.w.2) (fun i hi => hT _ (h.own j x hx i hi).2.1) hf, fun j x hx i hi => ⟨hf.wb _ _ (h.own j x hx i hi).1, (h.own j x hx i hi).2⟩, h.ne, h.z⟩
theorem ON.fr {S T : Nat → Prop} {lo : Nat} {H H' : Hp} {a : Option Addr} {n : Nat} {l : List Nd} (h : ON S lo H a n l) (hT : ∀ i, S i → ¬ T i) (hf : Fr T H H') : ON S lo H' a n l :=
  ⟨h.1, fun hl => let ⟨p, o, K, ha, ok⟩ := h.2 hl; ⟨p, o, K, ha, ok.fr hT hf⟩⟩
theorem FO.fr {lo : Nat} {H H' : Hp} {S T U : Nat → Prop} {an nn ab nb F} (h : FO lo H S T an nn ab nb F) (hU : ∀ i, S i ∨ T i → ¬ U i) (hf : Fr U H H') : FO lo H' S T an nn ab nb F :=
  ⟨h.n.fr (fun i hi => hU i (Or.inl hi)) hf, h.b.frB (fun i hi => hU i (Or.inr (h.o i hi).2)) hf, fun i hi => ⟨hf.wb _ _ (h.o i hi).1, (h.o i hi).2⟩, h.d, fun i hi => Nat.lt_of_lt_of_le (h.lt i hi) hf.len, h.x⟩
theorem WB.lo {lo lo' : Nat} {H : Hp} {i : Nat} (h : WB lo H i) (hl : lo' ≤ lo) : WB lo' H i := ⟨Nat.le_trans hl h.1, h.2⟩
theorem ON.lo {S : Nat → Prop} {lo lo' : Nat} {H : Hp} {a : Option Addr} {n : Nat} {l : List Nd} (h : ON S lo H a n l) (hl : lo' ≤ lo) : ON S lo' H a n l :=
  ⟨h.1, fun hn => let ⟨p, o, K, ha, ok⟩ := h.2 hn; ⟨p, o, K, ha, ⟨ok.w.1.lo hl, ok.w.2⟩, ok.e, fun j x hx i hi => ⟨(ok.own j x hx i hi).1.lo hl, (ok.own j x hx i hi).2⟩, ok.ne, ok.z⟩⟩
theorem FO.lo {lo lo' : Nat} {H : Hp} {S T : Nat → Prop} {an nn ab nb F} (h : FO lo H S T an nn ab nb F) (hl : lo' ≤ lo) : FO lo' H S T an nn ab nb F :=
  ⟨h.n.lo hl, h.b, fun i hi => ⟨(h.o i hi).1.lo hl, (h.o i hi).2⟩, h.d, h.lt, h.x⟩
theorem FO.rfs {lo : Nat} {H : Hp} {S T : Nat → Prop} {an nn ab nb F} (h : FO lo H S T an nn ab nb F) : RFs (fun i => S i ∨ T i) H an nn ab nb F :=
  ⟨⟨h.n.1, fun hl => let ⟨p, o, K, ha, ok⟩ := h.n.2 hl; ⟨p, o, ha, fun j x hx => ⟨Or.inl ok.w.2, K j, ok.e j x hx, fun i hi => Or.inl (ok.own j x hx i hi).2.1⟩⟩⟩, h.b, fun i hi => Or.inr (h.o i hi).2⟩
def mF (F : Fo) (k : Int) : Fo := ⟨mN F.n k, mB F.b.length (k + sN F.n)⟩
def sF (F : Fo) : Int := sN F.n + 2 * (F.b.length : Int)
theorem ON.own {S : Nat → Prop} {lo : Nat} {H : Hp} {a : Option Addr} {n : Nat} (h : ∀ i, Ad a i → WB lo H i ∧ S i) : Own S lo H a n := fun _ i o he => h i ⟨o, he⟩
theorem sF_nonneg (F : Fo) : 0 ≤ sF F := by have := sN_nonneg F.n; unfold sF; omega
/-! ### A block that is written whole; results in new memory -/
def setB (H : Hp) (i : Nat) (vs : List Value) : Hp := H.set i (some ⟨vs, true, false⟩)
theorem setAll_all : ∀ (vs cs pre : List Value), cs.length = vs.length → setAll (pre ++ cs) pre.length vs = pre ++ vs
  | [], cs, pre, h => by have : cs = [] := List.length_eq_zero_iff.1 h; subst this; rfl
  | v :: vs, c :: cs, pre, h => by
    have := setAll_all vs cs (pre ++ [v]) (by simpa using h)
    simp only [setAll]
    rw [List.set_append_right _ _ (Nat.le_refl _)]
    simpa using this
theorem wr_setB {lo : Nat} {H : Hp} {i : Nat} {cs : List Value} (hb : H.blk i = some ⟨cs, true, false⟩) (hlo : lo ≤ i) (vs : List Value) (hl : vs.length = cs.length) : wrN lo H ⟨i, 0, none⟩ vs = some (setB H i vs) := by
  have := setAll_all vs cs [] hl.symm
  simp only [List.nil_append, List.length_nil] at this
  simp only [wrN, hb, Option.bind_some, setB, this]
  rw [if_pos ⟨hlo, trivial, by omega⟩]
theorem blk_setB {H : Hp} {i j : Nat} {b : Blk} (hb : H.blk i = some b) (vs : List Value) : (setB H i vs).blk j = if j = i then some ⟨vs, true, false⟩ else H.blk j := blk_set (blk_lt hb)
theorem rdN_setB {H : Hp} {i : Nat} {b : Blk} (hb : H.blk i = some b) (n : Nat) (vs : List Value) (hl : vs.length = n) : rdN (setB H i vs) ⟨i, 0, none⟩ n = some vs := by
  subst hl
  simp only [rdN, blk_setB hb, if_true, Option.bind_some, Nat.zero_add, Nat.le_refl, List.drop_zero, List.take_length]
theorem Fr.setB {H : Hp} {i : Nat} {cs : List Value} (hb : H.blk i = some ⟨cs, true, false⟩) (vs : List Value) : Fr (· = i) H (setB H i vs) :=
  ⟨by simp [V.setB], fun j _ hj => by rw [blk_setB hb, if_neg hj], fun lo j ⟨h1, b, h2, h3⟩ => by
    by_cases h : j = i
    · exact ⟨h1, _, by rw [blk_setB hb, if_pos h], rfl⟩
    · exact ⟨h1, b, by rw [blk_setB hb, if_neg h, h2], h3⟩⟩
theorem Fr.new {S : Nat → Prop} {H H' : Hp} (h : Fr S H H') (hS : ∀ i, S i → H.length ≤ i) : Fr (fun _ => False) H H' :=
  ⟨h.len, fun i hi _ => h.blk i hi fun hs => by have := hS i hs; omega, h.wb⟩
theorem Fr.no {S : Nat → Prop} {H H' : Hp} (h : Fr (fun _ => False) H H') : Fr S H H' := h.mono fun _ e => e.elim
theorem ON.nil {S : Nat → Prop} {lo : Nat} {H : Hp} : ON S lo H none 0 [] := ⟨rfl, fun h => absurd rfl h⟩
theorem ON.non {S : Nat → Prop} {lo : Nat} {H H' : Hp} {n : Nat} {l : List Nd} (h : ON S lo H none n l) : ON S lo H' none n l := ⟨h.1, fun hl => let ⟨_, _, _, e, _⟩ := h.2 hl; nomatch e⟩
theorem Rep.non {α : Type} {E : Hp → Nat → Nat → α → Prop} {st : Nat} {H H' : Hp} {n : Nat} {l : List α} (h : Rep E st H .none n l) : Rep E st H' .none n l := ⟨h.1, fun hl => let ⟨_, _, e, _⟩ := h.2 hl; nomatch e⟩
theorem Ad.no {i : Nat} (h : Ad .none i) : False := let ⟨_, e⟩ := h; nomatch e
theorem isRef_some (a : Addr) (n s : Nat) : isRef (.slice (some a) n s) = true := rfl
theorem FO.non {lo : Nat} {H H' : Hp} {S T : Nat → Prop} {nn nb F} (h : FO lo H S T .none nn .none nb F) : FO lo H' (fun _ => False) (fun _ => False) .none nn .none nb F :=
  ⟨⟨h.n.1, fun hl => let ⟨_, _, _, e, _⟩ := h.n.2 hl; nomatch e⟩, h.b.non, fun i hi => hi.no.elim, fun i hi => hi.elim, fun i hi => (or_self_iff.1 hi).elim, fun A e => by cases e⟩
/-- A forest result in new memory. -/
def NewR (H H' : Hp) (v : Value) (c r : Int) (F : Fo) : Prop := ∃ S T an nn ab nb, v = .agg #[.int .i64 c, .int .i64 r, .slice an nn (sg an 3), .slice ab nb (sg ab 2)] ∧ Fr (fun _ => False) H H' ∧ (∀ i, S i ∨ T i → H.length ≤ i) ∧ FO H.length H' S T an nn ab nb F
theorem NewR.nil (H : Hp) (c r : Int) : NewR H H (.agg #[.int .i64 c, .int .i64 r, .slice none 0 0, .slice none 0 0]) c r ⟨[], []⟩ :=
  ⟨fun _ => False, fun _ => False, none, 0, none, 0, rfl, Fr.refl, fun i h => (or_self_iff.1 h).elim, ON.nil, Rep.nil, fun i h => h.no.elim, fun i h => h.elim, fun i h => (or_self_iff.1 h).elim, fun A e => by cases e⟩
theorem noRef4 {a b : Value} {an ab : Option Addr} {nn nb s t : Nat} (ha : isRef a = false) (hb : isRef b = false) : noRef (.agg #[a, b, .slice an nn s, .slice ab nb t]) = true → an = .none ∧ ab = .none := by
  intro h
  cases an <;> cases ab <;> simp_all [noRef, noRef1, isRef]
theorem NewR.done {H H2 : Hp} {v : Value} {c r : Int} {F : Fo} (h : NewR H H2 v c r F) : NewR H (if noRef v = true then H else H2) v c r F := by
  by_cases hn : noRef v = true
  · rw [if_pos hn]
    obtain ⟨S, T, an, nn, ab, nb, rfl, f, g, o⟩ := h
    obtain ⟨rfl, rfl⟩ := noRef4 rfl rfl hn
    exact ⟨_, _, _, _, _, _, rfl, Fr.refl, fun i hi => (or_self_iff.1 hi).elim, o.non⟩
  · rw [if_neg hn]; exact h
end Go.Proofs.YtohanpndekfbgaaDoor.V
