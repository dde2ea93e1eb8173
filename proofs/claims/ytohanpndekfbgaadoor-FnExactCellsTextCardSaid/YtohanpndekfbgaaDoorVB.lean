/- Reading and writing of the machine's memory in plain words; what a slice reads as. -/
import Derived.Test.YtohanpndekfbgaaDoorVMS
namespace Go.Proofs.YtohanpndekfbgaaDoor.V
open Go
set_option linter.unusedVariables false
set_option linter.unusedSimpArgs false

theorem call_eq {E : Env} {d f : Nat} {vf : VF} (h : E.find f = some vf) (args : List Value) (lo : Nat) (H : Hp) (hl : args.length = vf.np) : vcall E (d + 1) f args lo H = (vc (vcall E d) (if vf.pu then H.length else lo) vf.body (start 0 args) H).bind (kF vf H) := by
  simp only [vcall, h, Option.bind_some, vfn _ _ hl]
section
variable {H : Hp} {l : List (Option Blk)}
theorem blkn (k : Nat) : Hp.blk (H ++ l) (H.length + k) = (l[k]?).bind id := by
  simp [Hp.blk, List.getElem?_append_right]
theorem blk0 : Hp.blk (H ++ l) H.length = (l[0]?).bind id := by
  simp [Hp.blk, List.getElem?_append_right]
theorem blk_old {i : Nat} (h : i < H.length) : Hp.blk (H ++ l) i = H.blk i := by
  simp [Hp.blk, List.getElem?_append_left h]
theorem blk_lt {i : Nat} {b : Blk} (h : H.blk i = some b) : i < H.length := (List.getElem?_eq_some_iff.1 (blk_some h)).1
theorem blk_keep {i : Nat} {b : Blk} (h : H.blk i = some b) : Hp.blk (H ++ l) i = some b := by rw [blk_old (blk_lt h), h]
theorem rdk (k o : Nat) (s : Option Nat) : rd (H ++ l) ⟨H.length + k, o, s⟩ = ((l[k]?).bind id).bind fun b => b.cs[o]? := by simp only [rd, blkn]
theorem rd0 (o : Nat) (s : Option Nat) : rd (H ++ l) ⟨H.length, o, s⟩ = ((l[0]?).bind id).bind fun b => b.cs[o]? := by simp only [rd, blk0]
theorem rdNk (k o n : Nat) (s : Option Nat) : rdN (H ++ l) ⟨H.length + k, o, s⟩ n = ((l[k]?).bind id).bind fun b => if o + n ≤ b.cs.length then some ((b.cs.drop o).take n) else none := by simp only [rdN, blkn]
theorem rdN0 (o n : Nat) (s : Option Nat) : rdN (H ++ l) ⟨H.length, o, s⟩ n = ((l[0]?).bind id).bind fun b => if o + n ≤ b.cs.length then some ((b.cs.drop o).take n) else none := by simp only [rdN, blk0]
/-- What was there reads as before. -/
theorem rdo {i : Nat} (h : i < H.length) (o : Nat) (s : Option Nat) : rd (H ++ l) ⟨i, o, s⟩ = rd H ⟨i, o, s⟩ := by simp only [rd, blk_old h]
theorem rdNo {i : Nat} (h : i < H.length) (o n : Nat) (s : Option Nat) : rdN (H ++ l) ⟨i, o, s⟩ n = rdN H ⟨i, o, s⟩ n := by simp only [rdN, blk_old h]
theorem rd_lt {i o : Nat} {v : Value} (h : rd H ⟨i, o, none⟩ = some v) : i < H.length := by
  unfold rd at h
  cases hb : H.blk i with
  | none => simp only [hb] at h; cases h
  | some b => exact blk_lt hb
theorem rd_app {i o : Nat} {v : Value} (h : rd H ⟨i, o, none⟩ = some v) : rd (H ++ l) ⟨i, o, none⟩ = some v := by
  have := rd_lt h
  unfold rd at h ⊢
  simp only [blk_old this]; exact h
theorem wrNl (lo k o : Nat) (s : Option Nat) (vs : List Value) : wrN lo (H ++ l) ⟨H.length + k, o, s⟩ vs = ((l[k]?).bind id).bind fun b => if lo ≤ H.length + k ∧ b.rw = true ∧ o + vs.length ≤ b.cs.length then some (H ++ l.set k (some ⟨setAll b.cs o vs, true, b.k0⟩)) else none := by
  simp only [wrN, blkn]
  congr 1; funext b
  congr 1
  rw [List.set_append_right _ _ (by omega)]; simp
theorem wrN0 (lo o : Nat) (s : Option Nat) (vs : List Value) : wrN lo (H ++ l) ⟨H.length, o, s⟩ vs = ((l[0]?).bind id).bind fun b => if lo ≤ H.length ∧ b.rw = true ∧ o + vs.length ≤ b.cs.length then some (H ++ l.set 0 (some ⟨setAll b.cs o vs, true, b.k0⟩)) else none := by
  have := wrNl (H := H) (l := l) lo 0 o s vs
  simpa using this
end
theorem getc0 {α : Type} (a : α) (l : List α) : (a :: l)[0]? = some a := rfl
theorem getcs {α : Type} (a : α) (l : List α) (n : Nat) : (a :: l)[n + 1]? = l[n]? := rfl
theorem setc0 {α : Type} (a b : α) (l : List α) : (a :: l).set 0 b = b :: l := rfl
theorem setcs {α : Type} (a b : α) (l : List α) (n : Nat) : (a :: l).set (n + 1) b = a :: l.set n b := rfl
theorem toL (l : List Value) : (List.toArray l).toList = l := rfl
theorem wr {n : Int} (h : -9223372036854775808 ≤ n) (h' : n ≤ 9223372036854775807) : IntKind.i64.wrap n = n := by rw [IntKind.wrap_i64]; omega

/-- The stride that a slice of stride st holds: a nil slice holds none. -/
def sg : Option Addr → Nat → Nat
  | none, _ => 0
  | some _, st => st
theorem sgn (st : Nat) : sg none st = 0 := rfl
theorem sgs (a : Addr) (st : Nat) : sg (some a) st = st := rfl
/-- What a slice of n elements, st cells each, reads as. -/
def Rep {α : Type} (E : Hp → Nat → Nat → α → Prop) (st : Nat) (H : Hp) (a : Option Addr) (n : Nat) (l : List α) : Prop :=
  n = l.length ∧ (l ≠ [] → ∃ i o, a = some ⟨i, o, none⟩ ∧ ∀ (j : Nat) x, l[j]? = some x → E H i (o + j * st) x)
theorem Rep.nil {α : Type} {E : Hp → Nat → Nat → α → Prop} {st : Nat} {H : Hp} {a : Option Addr} : Rep E st H a 0 [] := ⟨rfl, fun h => absurd rfl h⟩
theorem Rep.mono {α : Type} {E : Hp → Nat → Nat → α → Prop} {st : Nat} {H H' : Hp} {a : Option Addr} {n : Nat} {l : List α} (h : Rep E st H a n l) (hE : ∀ i o x, E H i o x → E H' i o x) : Rep E st H' a n l :=
  ⟨h.1, fun hl => let ⟨i, o, ha, h2⟩ := h.2 hl; ⟨i, o, ha, fun j x hx => hE _ _ _ (h2 j x hx)⟩⟩
theorem Rep.at {α : Type} {E : Hp → Nat → Nat → α → Prop} {st : Nat} {H : Hp} {a : Option Addr} {n : Nat} {l : List α} (h : Rep E st H a n l) {j : Nat} (hj : j < l.length) : ∃ i o, a = some ⟨i, o, none⟩ ∧ E H i (o + j * st) l[j] := by
  obtain ⟨i, o, ha, h2⟩ := h.2 (by intro e; rw [e] at hj; simp at hj)
  exact ⟨i, o, ha, h2 j _ (List.getElem?_eq_getElem hj)⟩
/-- Cells one behind the other, read at once. -/
theorem rdN2 {H : Hp} {i o : Nat} {a b : Value} (h0 : rd H ⟨i, o, none⟩ = some a) (h1 : rd H ⟨i, o + 1, none⟩ = some b) : rdN H ⟨i, o, none⟩ 2 = some [a, b] := by
  unfold rd at h0 h1
  cases hb : H.blk i with
  | none => simp [hb] at h0
  | some B =>
    simp only [hb, Option.bind_some] at h0 h1
    have l1 := (List.getElem?_eq_some_iff.1 h1)
    have l0 := (List.getElem?_eq_some_iff.1 h0)
    obtain ⟨g1, e1⟩ := l1
    obtain ⟨g0, e0⟩ := l0
    simp only [rdN, hb, Option.bind_some]
    rw [if_pos (by omega), List.drop_eq_getElem_cons g0, List.drop_eq_getElem_cons g1, e0, e1]
    rfl
theorem rdN3 {H : Hp} {i o : Nat} {a b c : Value} (h0 : rd H ⟨i, o, none⟩ = some a) (h1 : rd H ⟨i, o + 1, none⟩ = some b) (h2 : rd H ⟨i, o + 2, none⟩ = some c) : rdN H ⟨i, o, none⟩ 3 = some [a, b, c] := by
  unfold rd at h0 h1 h2
  cases hb : H.blk i with
  | none => simp [hb] at h0
  | some B =>
    simp only [hb, Option.bind_some] at h0 h1 h2
    obtain ⟨g2, e2⟩ := List.getElem?_eq_some_iff.1 h2
    obtain ⟨g1, e1⟩ := List.getElem?_eq_some_iff.1 h1
    obtain ⟨g0, e0⟩ := List.getElem?_eq_some_iff.1 h0
    simp only [rdN, hb, Option.bind_some]
    rw [if_pos (by omega), List.drop_eq_getElem_cons g0, List.drop_eq_getElem_cons g1, List.drop_eq_getElem_cons g2, e0, e1, e2]
    rfl

/-! ### Loops over an index -/
theorem lim_up {f : Ts → Hp → Option (VE × Ts × Hp)} {r : VE × Ts × Hp} (hr : r.1 ≠ .normal) (T : Nat → Ts) (Hs : Nat → Hp) (n : Nat) (hend : f (T n) (Hs n) = some r) (hround : ∀ i, i < n → f (T i) (Hs i) = some (.normal, T (i + 1), Hs (i + 1))) : lim f (T 0) (Hs 0) = some r := by
  have key : ∀ k i, n - i = k → i ≤ n → lim f (T i) (Hs i) = some r := by
    intro k
    induction k with
    | zero =>
      intro i hk hi
      obtain rfl : i = n := by omega
      obtain ⟨e, ts, H⟩ := r
      exact lim_end hend hr
    | succ k ih =>
      intro i hk hi
      exact lim_step (hround i (by omega)) (ih (i + 1) (by omega) (by omega))
  exact key n 0 (by omega) (by omega)
theorem lim_all {f : Ts → Hp → Option (VE × Ts × Hp)} {R E : VE × Ts × Hp} (hR : R.1 ≠ .normal) (hE : E.1 ≠ .normal) (T : Nat → Ts) (H : Hp) (n : Nat) (p : Nat → Prop) [DecidablePred p] (hend : f (T n) H = some R)
    (hround : ∀ i, i < n → f (T i) H = some (if p i then (.normal, T (i + 1), H) else E)) {q : Prop} [Decidable q] (hq : (∀ i, i < n → p i) ↔ q) : lim f (T 0) H = some (if q then R else E) := by
  by_cases h : q
  · rw [if_pos h]
    have hp := hq.2 h
    exact lim_up hR T (fun _ => H) n hend fun i hi => by rw [hround i hi, if_pos (hp i hi)]
  · rw [if_neg h]
    have hn : ¬ ∀ i, i < n → p i := fun hp => h (hq.1 hp)
    have key : ∀ k i, n - i = k → i ≤ n → (∃ j, i ≤ j ∧ j < n ∧ ¬ p j) → lim f (T i) H = some E := by
      intro k
      induction k with
      | zero => intro i hk hi ⟨j, h1, h2, _⟩; omega
      | succ k ih =>
        intro i hk hi ⟨j, h1, h2, hj⟩
        have hr := hround i (by omega)
        by_cases hpi : p i
        · rw [if_pos hpi] at hr
          exact lim_step hr (ih (i + 1) (by omega) (by omega) ⟨j, by rcases Nat.eq_or_lt_of_le h1 with e | e; exact absurd (e ▸ hpi) hj; exact e, h2, hj⟩)
        · rw [if_neg hpi] at hr
          obtain ⟨e, ts, H'⟩ := E
          exact lim_end hr hE
    refine key n 0 (by omega) (by omega) ?_
    apply Classical.byContradiction
    intro hno
    exact hn fun i hi => Classical.byContradiction fun hpi => hno ⟨i, by omega, hi, hpi⟩
theorem all_eq {α : Type} {n : Nat} {l m : List α} (hl : n = l.length) (hm : n = m.length) : (∀ i, i < n → l[i]? = m[i]?) ↔ l = m := by
  constructor
  · intro h
    apply List.ext_getElem?
    intro i
    by_cases hi : i < n
    · exact h i hi
    · rw [List.getElem?_eq_none (by omega), List.getElem?_eq_none (by omega)]
  · intro h i _; rw [h]

/-! ### The data -/
structure Bk where
  r : Int
  d : Int
  deriving DecidableEq
structure Nd where
  r : Int
  f : Bool
  k : List Int
  deriving DecidableEq
structure Fo where
  n : List Nd
  b : List Bk
  deriving DecidableEq
def EI (H : Hp) (i o : Nat) (x : Int) : Prop := rd H ⟨i, o, none⟩ = some (.int .i64 x)
def EB (H : Hp) (i o : Nat) (b : Bk) : Prop := rd H ⟨i, o, none⟩ = some (.int .i64 b.r) ∧ rd H ⟨i, o + 1, none⟩ = some (.int .i64 b.d)
def EN (H : Hp) (i o : Nat) (b : Nd) : Prop := rd H ⟨i, o, none⟩ = some (.int .i64 b.r) ∧ rd H ⟨i, o + 1, none⟩ = some (.bool b.f) ∧ ∃ a n, rd H ⟨i, o + 2, none⟩ = some (.slice a n (sg a 1)) ∧ Rep EI 1 H a n b.k
def NV (a : Option Addr) (n : Nat) (b : Nd) : Value := .agg #[.int .i64 b.r, .bool b.f, .slice a n (sg a 1)]
def BV (b : Bk) : Value := .agg #[.int .i64 b.r, .int .i64 b.d]
/-- The equations by which the machine is reckoned, in one. -/
theorem VMs : type_of% (And.intro @sgn (And.intro @sgs (And.intro @vsk (And.intro @vrt (And.intro @vex (And.intro @vos (And.intro @vdr (And.intro @vsq (And.intro @vcd (And.intro @vbl (And.intro @xs (And.intro @xg (And.intro @xn (And.intro @yn (And.intro @yx (And.intro @yg (And.intro @kO_ (And.intro @fO_ (And.intro @fA_ (And.intro @kG1 (And.intro @kG2 (And.intro @fG1 (And.intro @fG2 (And.intro @kN_ (And.intro @kS0 (And.intro @kS1 (And.intro @kS2 (And.intro @kD_ (And.intro @kC_ (And.intro @kB0 (And.intro @kB1 (And.intro @kB2 (And.intro @kL0 (And.intro @kL1 (And.intro @kL2 (And.intro @kt0 (And.intro @kt1 (And.intro @kT0 (And.intro @kT1 (And.intro @kF0 (And.intro @kF1 (And.intro @pt (And.intro @pn (And.intro @et (And.intro @ec (And.intro @lkc (And.intro @lkn (And.intro @Option.bind_some.{0, 0} (And.intro @Option.bind_none.{0, 0} (And.intro @if_true.{1} (And.intro @if_false.{1} (And.intro @Nat.zero_add (And.intro @Nat.add_zero (And.intro @and_self (And.intro @true_and (And.intro @and_true (And.intro @Bool.false_eq_true (And.intro @bite (And.intro @Nat.zero_mul (And.intro @Nat.le_refl (And.intro @Nat.le_add_right (And.intro @List.append_assoc.{0} (And.intro @List.cons_append.{0} (And.intro @List.nil_append.{0} (And.intro @List.append_nil.{0} (And.intro @List.length_append.{0} (And.intro @List.length_cons.{0} (And.intro @List.length_nil.{0} (And.intro @rdk (And.intro @rd0 (And.intro @rdNk (And.intro @rdN0 (And.intro @wrNl (And.intro @wrN0 (And.intro @id_eq.{1} (And.intro @getc0 (And.intro @getcs (And.intro @setc0 (And.intro @setcs (And.intro @List.drop_zero.{0} (And.intro @List.drop_succ_cons.{0} (And.intro @List.take_succ_cons.{0} (And.intro @List.take_zero.{0} (And.intro @List.take_nil.{0} (And.intro @toL (And.intro @VE.exit.injEq (And.intro @Bool.not_false (And.intro @Bool.not_true (And.intro @Bool.and_true (And.intro @Bool.true_and (And.intro @Bool.and_false (And.intro @Bool.false_and (And.intro @Bool.and_self (And.intro @List.toList_toArray.{0} (And.intro @Option.isNone_none.{0} (And.intro @Option.isNone_some.{0} (@Bool.cond_true.{1}))))))))))))))))))))))))))))))))))))))))))))))))))))))))))))))))))))))))))))))))))))))))))))))))) := And.intro @sgn (And.intro @sgs (And.intro @vsk (And.intro @vrt (And.intro @vex (And.intro @vos (And.intro @vdr (And.intro @vsq (And.intro @vcd (And.intro @vbl (And.intro @xs (And.intro @xg (And.intro @xn (And.intro @yn (And.intro @yx (And.intro @yg (And.intro @kO_ (And.intro @fO_ (And.intro @fA_ (And.intro @kG1 (And.intro @kG2 (And.intro @fG1 (And.intro @fG2 (And.intro @kN_ (And.intro @kS0 (And.intro @kS1 (And.intro @kS2 (And.intro @kD_ (And.intro @kC_ (And.intro @kB0 (And.intro @kB1 (And.intro @kB2 (And.intro @kL0 (And.intro @kL1 (And.intro @kL2 (And.intro @kt0 (And.intro @kt1 (And.intro @kT0 (And.intro @kT1 (And.intro @kF0 (And.intro @kF1 (And.intro @pt (And.intro @pn (And.intro @et (And.intro @ec (And.intro @lkc (And.intro @lkn (And.intro @Option.bind_some.{0, 0} (And.intro @Option.bind_none.{0, 0} (And.intro @if_true.{1} (And.intro @if_false.{1} (And.intro @Nat.zero_add (And.intro @Nat.add_zero (And.intro @and_self (And.intro @true_and (And.intro @and_true (And.intro @Bool.false_eq_true (And.intro @bite (And.intro @Nat.zero_mul (And.intro @Nat.le_refl (And.intro @Nat.le_add_right (And.intro @List.append_assoc.{0} (And.intro @List.cons_append.{0} (And.intro @List.nil_append.{0} (And.intro @List.append_nil.{0} (And.intro @List.length_append.{0} (And.intro @List.length_cons.{0} (And.intro @List.length_nil.{0} (And.intro @rdk (And.intro @rd0 (And.intro @rdNk (And.intro @rdN0 (And.intro @wrNl (And.intro @wrN0 (And.intro @id_eq.{1} (And.intro @getc0 (And.intro @getcs (And.intro @setc0 (And.intro @setcs (And.intro @List.drop_zero.{0} (And.intro @List.drop_succ_cons.{0} (And.intro @List.take_succ_cons.{0} (And.intro @List.take_zero.{0} (And.intro @List.take_nil.{0} (And.intro @toL (And.intro @VE.exit.injEq (And.intro @Bool.not_false (And.intro @Bool.not_true (And.intro @Bool.and_true (And.intro @Bool.true_and (And.intro @Bool.and_false (And.intro @Bool.false_and (And.intro @Bool.and_self (And.intro @List.toList_toArray.{0} (And.intro @Option.isNone_none.{0} (And.intro @Option.isNone_some.{0} (@Bool.cond_true.{1}))))))))))))))))))))))))))))))))))))))))))))))))))))))))))))))))))))))))))))))))))))))))))))))))
end Go.Proofs.YtohanpndekfbgaaDoor.V
