/- How the machine's memory stands in the program's: each live block lies somewhere; values are alike up to where they point. What a step may turn. -/
import Derived.Test.YtflddpkmajoeaaaVM
namespace Go.Proofs.Ytflddpkmajoeaaa.V
open Go
set_option linter.unusedVariables false
set_option linter.unusedSimpArgs false

structure MA where
  b : Nat
  o : Nat
  k : Nat
  s : Nat
abbrev Mu := Nat → Option MA

inductive L2 (R : Value → Value → Prop) : List Value → List Value → Prop
  | nil : L2 R [] []
  | cons {a b l m} : R a b → L2 R l m → L2 R (a :: l) (b :: m)
section
variable {R R' : Value → Value → Prop}
theorem L2.mono (h : ∀ a b, R a b → R' a b) : ∀ {l m}, L2 R l m → L2 R' l m
  | _, _, .nil => .nil
  | _, _, .cons x y => .cons (h _ _ x) (L2.mono h y)
theorem L2.len : ∀ {l m}, L2 R l m → l.length = m.length
  | _, _, .nil => rfl
  | _, _, .cons _ y => by simp [y.len]
theorem L2.get : ∀ {l m : List Value}, L2 R l m → ∀ {i : Nat} {x : Value}, l[i]? = some x → ∃ y, m[i]? = some y ∧ R x y
  | _, _, .nil, i, x, h => by simp at h
  | _, _, .cons (b := b) r y, 0, x, h => ⟨b, rfl, by simp at h; subst h; exact r⟩
  | _, _, .cons r y, i + 1, x, h => by simpa using y.get (i := i) (by simpa using h)
theorem L2.append : ∀ {l m l' m'}, L2 R l m → L2 R l' m' → L2 R (l ++ l') (m ++ m')
  | _, _, _, _, .nil, h => h
  | _, _, _, _, .cons r y, h => .cons r (y.append h)
theorem L2.take : ∀ {l m}, L2 R l m → ∀ n, L2 R (l.take n) (m.take n)
  | _, _, .nil, n => by simpa using .nil
  | _, _, .cons r y, 0 => by simpa using .nil
  | _, _, .cons r y, n + 1 => by simpa using .cons r (y.take n)
theorem L2.drop : ∀ {l m}, L2 R l m → ∀ n, L2 R (l.drop n) (m.drop n)
  | _, _, .nil, n => by simpa using .nil
  | _, _, .cons r y, 0 => by simpa using .cons r y
  | _, _, .cons r y, n + 1 => by simpa using y.drop n
theorem L2.of_get : ∀ {l m : List Value}, l.length = m.length → (∀ (i : Nat) (x y : Value), l[i]? = some x → m[i]? = some y → R x y) → L2 R l m
  | [], [], _, _ => .nil
  | a :: l, b :: m, hl, h => .cons (h 0 a b rfl rfl) (L2.of_get (by simpa using hl) fun i x y hx hy => h (i + 1) x y (by simpa using hx) (by simpa using hy))
theorem L2.set : ∀ {l m}, L2 R l m → ∀ i {x y}, R x y → L2 R (l.set i x) (m.set i y)
  | _, _, .nil, i, _, _, _ => by simpa using .nil
  | _, _, .cons r t, 0, _, _, h => by simpa using .cons h t
  | _, _, .cons r t, i + 1, _, _, h => by simpa using .cons r (t.set i h)
theorem L2.all {p : Value → Prop} (hp : ∀ a b, R a b → p b) : ∀ {l m}, L2 R l m → ∀ b ∈ m, p b
  | _, _, .nil, b, h => by simp at h
  | _, _, .cons r t, b, h => by
    rcases List.mem_cons.1 h with rfl | h
    · exact hp _ _ r
    · exact t.all hp b h
theorem L2.rep {x y : Value} (h : R x y) : ∀ n, L2 R (List.replicate n x) (List.replicate n y)
  | 0 => .nil
  | n + 1 => .cons h (L2.rep h n)
end

def RP (μ : Mu) : Value → Value → Prop
  | .bool b, r => r = .bool b
  | .int k n, r => r = .int k n
  | .string s, r => r = .string s
  | .pointer none, r => r = .pointer none
  | .pointer (some a), r => a.spot = none ∧ ∃ m, μ a.block = some m ∧ r = .pointer (some ⟨m.b, m.o + a.off, none⟩)
  | .slice none n _, r => n = 0 ∧ r = .slice none 0 0
  | .slice (some a) n st, r => a.spot = none ∧ ∃ m, μ a.block = some m ∧ m.s = st ∧ ∃ a' c, r = .slice (some a') n c ∧ (0 < n → a'.spot = none) ∧ n ≤ c ∧ (a.off = 0 → a' = ⟨m.b, m.o, none⟩ ∧ c = m.k) ∧ (0 < n → a' = ⟨m.b, m.o + a.off, none⟩)
  | _, _ => False
def RC (μ : Mu) (v r : Value) : Prop :=
  match v with
  | .func f fst cap => fst = #[] ∧ ∃ cap' : Array Value, r = .func f #[] cap' ∧ L2 (RP μ) cap.toList cap'.toList
  | v => RP μ v r
def R1 (μ : Mu) (v r : Value) : Prop :=
  match v with
  | .agg cs => ∃ rs : Array Value, r = .agg rs ∧ L2 (RC μ) cs.toList rs.toList
  | v => RC μ v r
def R2 (μ : Mu) (v r : Value) : Prop :=
  match v with
  | .tuple vs => ∃ rs : Array Value, r = .tuple rs ∧ L2 (R1 μ) vs.toList rs.toList
  | v => R1 μ v r

def Ext (μ μ' : Mu) : Prop := ∀ i m, μ i = some m → μ' i = some m
theorem Ext.refl (μ : Mu) : Ext μ μ := fun _ _ h => h
theorem Ext.trans {a b c : Mu} (h : Ext a b) (k : Ext b c) : Ext a c := fun i m x => k i m (h i m x)

theorem RP.ext {μ μ' : Mu} (h : Ext μ μ') : ∀ {v r}, RP μ v r → RP μ' v r := by
  intro v r hr
  cases v <;> try exact hr
  case pointer a =>
    cases a with
    | none => exact hr
    | some a => obtain ⟨h0, m, hm, e⟩ := hr; exact ⟨h0, m, h _ _ hm, e⟩
  case slice a n c =>
    cases a with
    | none => exact hr
    | some a => obtain ⟨h0, m, hm, e⟩ := hr; exact ⟨h0, m, h _ _ hm, e⟩
theorem RC_eq {μ : Mu} {v r : Value} (h : ∀ f a b, v ≠ .func f a b) : RC μ v r = RP μ v r := by
  cases v <;> first | rfl | exact absurd rfl (h _ _ _)
theorem R1_eq {μ : Mu} {v r : Value} (h : ∀ cs, v ≠ .agg cs) : R1 μ v r = RC μ v r := by
  cases v <;> first | rfl | exact absurd rfl (h _)
theorem R2_eq {μ : Mu} {v r : Value} (h : ∀ cs, v ≠ .tuple cs) : R2 μ v r = R1 μ v r := by
  cases v <;> first | rfl | exact absurd rfl (h _)
theorem RC.ext {μ μ' : Mu} (h : Ext μ μ') {v r} (hr : RC μ v r) : RC μ' v r := by
  cases v
  case func f a b =>
    obtain ⟨h0, c, e, hl⟩ := hr
    exact ⟨h0, c, e, hl.mono fun _ _ => RP.ext h⟩
  all_goals
    rw [RC_eq (by simp)] at hr ⊢
    exact RP.ext h hr
theorem R1.ext {μ μ' : Mu} (h : Ext μ μ') {v r} (hr : R1 μ v r) : R1 μ' v r := by
  cases v
  case agg cs =>
    obtain ⟨c, e, hl⟩ := hr
    exact ⟨c, e, hl.mono fun _ _ => RC.ext h⟩
  all_goals
    rw [R1_eq (by simp)] at hr ⊢
    exact RC.ext h hr
theorem R2.ext {μ μ' : Mu} (h : Ext μ μ') {v r} (hr : R2 μ v r) : R2 μ' v r := by
  cases v
  case tuple cs =>
    obtain ⟨c, e, hl⟩ := hr
    exact ⟨c, e, hl.mono fun _ _ => R1.ext h⟩
  all_goals
    rw [R2_eq (by simp)] at hr ⊢
    exact R1.ext h hr

theorem RC.one {μ : Mu} {v r} (hr : RC μ v r) : r.oneCell' = true ∧ (∀ cs, v ≠ .agg cs) ∧ (∀ cs, v ≠ .tuple cs) := by
  cases v <;> simp only [RC, RP] at hr
  case pointer a => cases a <;> simp only [RP] at hr
                    · subst hr; simp [Value.oneCell']
                    · obtain ⟨_, m, _, rfl⟩ := hr; simp [Value.oneCell']
  case slice a n c => cases a <;> simp only [RP] at hr
                      · obtain ⟨_, rfl⟩ := hr; simp [Value.oneCell']
                      · obtain ⟨_, m, _, _, a', c', rfl, _⟩ := hr; simp [Value.oneCell']
  case func f a b => obtain ⟨_, c, rfl, _⟩ := hr; simp [Value.oneCell']
  all_goals (first | (subst hr; simp [Value.oneCell']) | exact hr.elim)
theorem R1.of_RC {μ : Mu} {v r} (h : RC μ v r) : R1 μ v r := by
  rw [R1_eq (RC.one h).2.1]; exact h
theorem R1.notTuple {μ : Mu} {v r} (h : R1 μ v r) : ∀ cs, v ≠ .tuple cs := by
  intro cs e; subst e; exact h.elim
theorem R2.of_R1 {μ : Mu} {v r} (h : R1 μ v r) : R2 μ v r := by
  rw [R2_eq h.notTuple]; exact h
theorem R2.of_RC {μ : Mu} {v r} (h : RC μ v r) : R2 μ v r := R2.of_R1 (R1.of_RC h)
theorem R2.to_R1 {μ : Mu} {v r} (h : R2 μ v r) (ht : ∀ cs, v ≠ .tuple cs) : R1 μ v r := by
  rw [R2_eq ht] at h; exact h

/-- The cells of a value and of what it stands for. -/
theorem R1.cells {μ : Mu} {v r} (h : R1 μ v r) : L2 (RC μ) (vcells v) r.cells.toList := by
  cases v
  case agg cs => obtain ⟨rs, rfl, hl⟩ := h; simpa [vcells, Value.cells] using hl
  all_goals
    rw [R1_eq (by simp)] at h
    have h' := h
    have h1 := (RC.one h').1
    have e : r.cells = #[r] := by cases r <;> first | rfl | simp [Value.oneCell'] at h1
    rw [e]
    exact .cons h' .nil

structure BOK (μ : Mu) (b : Blk) (m : MA) (w : World) : Prop where
  cells : ∀ (j : Nat) c, b.cs[j]? = some c → ∃ r, w.cell? ⟨m.b, m.o + j, none⟩ = some r ∧ RC μ c r
  k0 : b.k0 = true → m.k = 0
  rw : b.rw = true → ∃ C e, w.heap[m.b]? = some (.cells C e (0, 0)) ∧ m.o = 0 ∧ C.size = m.k * m.s ∧ m.k ≤ maxLen
structure Sim (μ : Mu) (H : Hp) (w : World) : Prop where
  dom : ∀ i m, μ i = some m → i < H.length
  blk : ∀ i b, H[i]? = some (some b) → ∃ m, μ i = some m ∧ BOK μ b m w
  sep : ∀ i j bi bj mi mj, i ≠ j → H[i]? = some (some bi) → H[j]? = some (some bj) → bi.rw = true → (bj.cs ≠ [] ∨ bj.rw = true) → μ i = some mi → μ j = some mj → mi.b ≠ mj.b
structure Stp (lo : Nat) (μ : Mu) (H : Hp) (w : World) (μ' : Mu) (H' : Hp) (w' : World) : Prop where
  ext : Ext μ μ'
  os : w'.os = w.os
  tape : w'.tape = w.tape
  output : w'.output = w.output
  size : w.heap.size ≤ w'.heap.size
  len : H.length ≤ H'.length
  old : ∀ b, b < w.heap.size → (∀ i bl m, lo ≤ i → H[i]? = some (some bl) → bl.rw = true → μ i = some m → m.b ≠ b) → w'.heap[b]? = w.heap[b]?
  wr : ∀ i bl m, lo ≤ i → H'[i]? = some (some bl) → bl.rw = true → μ' i = some m → m.b < w.heap.size → ∃ j bl' m', lo ≤ j ∧ H[j]? = some (some bl') ∧ bl'.rw = true ∧ μ j = some m' ∧ m'.b = m.b
  low : ∀ i, i < lo → i < H.length → H'[i]? = H[i]?

theorem Stp.refl (lo : Nat) (μ : Mu) (H : Hp) (w : World) : Stp lo μ H w μ H w :=
  ⟨Ext.refl _, rfl, rfl, rfl, Nat.le_refl _, Nat.le_refl _, fun _ _ _ => rfl, fun i bl m hi hb hr hm _ => ⟨i, bl, m, hi, hb, hr, hm, rfl⟩, fun _ _ _ => rfl⟩
theorem Stp.trans {lo : Nat} {μ μ1 μ2 : Mu} {H H1 H2 : Hp} {w w1 w2 : World} (a : Stp lo μ H w μ1 H1 w1) (b : Stp lo μ1 H1 w1 μ2 H2 w2) : Stp lo μ H w μ2 H2 w2 where
  ext := a.ext.trans b.ext
  os := b.os.trans a.os
  tape := b.tape.trans a.tape
  output := b.output.trans a.output
  size := Nat.le_trans a.size b.size
  len := Nat.le_trans a.len b.len
  old := fun k hk hn => by
    rw [b.old k (Nat.lt_of_lt_of_le hk a.size) fun i bl m hi hb hr hm e => ?_, a.old k hk hn]
    subst e
    obtain ⟨j, bl', m', hj, hb', hr', hm', e'⟩ := a.wr i bl m hi hb hr hm hk
    exact hn j bl' m' hj hb' hr' hm' e'
  wr := fun i bl m hi hb hr hm hk => by
    obtain ⟨j, bl', m', hj, hb', hr', hm', e'⟩ := b.wr i bl m hi hb hr hm (Nat.lt_of_lt_of_le hk a.size)
    obtain ⟨j2, bl2, m2, hj2, hb2, hr2, hm2, e2⟩ := a.wr j bl' m' hj hb' hr' hm' (e' ▸ hk)
    exact ⟨j2, bl2, m2, hj2, hb2, hr2, hm2, e2.trans e'⟩
  low := fun i hi hl => by rw [b.low i hi (Nat.lt_of_lt_of_le hl a.len), a.low i hi hl]
/-- What may be written may be less. -/
theorem Stp.mono {lo lo' : Nat} {μ μ1 : Mu} {H H1 : Hp} {w w1 : World} (a : Stp lo μ H w μ1 H1 w1) (hs : Sim μ H w) (h : lo' ≤ lo) (hlo : lo ≤ H.length) : Stp lo' μ H w μ1 H1 w1 :=
  { a with
    old := fun b hb hn => a.old b hb fun i bl m hi => hn i bl m (Nat.le_trans h hi)
    wr := fun i bl m hi hb hr hm hk => by
      by_cases hil : lo ≤ i
      · obtain ⟨j, bl', m', hj, x⟩ := a.wr i bl m hil hb hr hm hk
        exact ⟨j, bl', m', Nat.le_trans h hj, x⟩
      · rw [a.low i (by omega) (by omega)] at hb
        obtain ⟨m0, hm0, _⟩ := hs.blk i bl hb
        have := a.ext _ _ hm0
        rw [hm] at this
        cases this
        exact ⟨i, bl, m, hi, hb, hr, hm0, rfl⟩
    low := fun i hi hl => a.low i (Nat.lt_of_lt_of_le hi h) hl }

theorem Sim.drew {μ : Mu} {H : Hp} {w w' : World} (hw : w'.heap = w.heap) (h : Sim μ H w) : Sim μ H w' := by
  have hc : ∀ a, w'.cell? a = w.cell? a := fun a => by simp [World.cell?, hw]
  exact ⟨h.dom, fun i b hb => by
    obtain ⟨m, hm, h1, h2, h3⟩ := h.blk i b hb
    exact ⟨m, hm, fun j c hc' => by rw [hc]; exact h1 j c hc', h2, fun hr => by rw [hw]; exact h3 hr⟩, h.sep⟩
theorem Stp.drew {lo : Nat} {μ : Mu} {H : Hp} {w w' : World} (hw : w'.heap = w.heap) (ho : w'.os = w.os) (ht : w'.tape = w.tape) (hp : w'.output = w.output) : Stp lo μ H w μ H w' :=
  ⟨Ext.refl _, ho, ht, hp, by rw [hw]; exact Nat.le_refl _, Nat.le_refl _, fun _ _ _ => by rw [hw], fun i bl m hi hb hr hm _ => ⟨i, bl, m, hi, hb, hr, hm, rfl⟩, fun _ _ _ => rfl⟩
end Go.Proofs.Ytflddpkmajoeaaa.V
