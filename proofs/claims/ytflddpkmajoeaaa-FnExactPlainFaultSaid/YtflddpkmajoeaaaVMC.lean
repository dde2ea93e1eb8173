/- From the program's code to the machine's: each operation without its types. -/
import Derived.Test.YtflddpkmajoeaaaVMM
namespace Go.Proofs.Ytflddpkmajoeaaa.V
open Go
set_option linter.unusedVariables false
set_option linter.unusedSimpArgs false

def okP : Value → Bool
  | .bool _ | .int _ _ | .string _ | .pointer none | .slice none 0 0 => true
  | _ => false
def ok1 : Value → Bool
  | .agg cs => cs.toList.all okP
  | v => okP v
def cA : Operand → Option Arg
  | .tmp t => some (.t t)
  | .const v => if ok1 v then some (.c v) else none
  | .func f => some (.c (.func (.func f) #[] #[]))
  | .global _ => none
def cAs : List Operand → Option (List Arg)
  | [] => some []
  | x :: r => (cA x).bind fun y => (cAs r).bind fun s => some (y :: s)
def aggD : TypeDesc → Bool
  | .struct _ | .array _ _ => true
  | _ => false
def tyL (P : Program) (t : TypeId) : Option (Bool × Nat) := (P.underlying t).bind fun d => (P.info? t).bind fun i => some (aggD d, i.size)
def zeroL (P : Program) (t : TypeId) : Option (List Value) := (P.info? t).bind fun i => i.zero.bind fun z => if ok1 z = true ∧ (vcells z).length = i.size then some (vcells z) else none
def szL (P : Program) (t : TypeId) : Option Nat := (P.info? t).map (·.size)
def slE (P : Program) (t : TypeId) : Option TypeId := match P.underlying t with
  | some (.slice e) => some e
  | _ => none
def stF (P : Program) (t : TypeId) : Option (Array Field) := match P.underlying t with
  | some (.struct fs) => some fs
  | _ => none
def intK (P : Program) (t : TypeId) : Option IntKind := match P.underlying t with
  | some (.int k) => some k
  | _ => none
def isBool (P : Program) (t : TypeId) : Bool := match P.underlying t with
  | some .bool => true
  | _ => false
def cParts (place : Nat → Option (Nat × Nat)) : List (Nat × Operand) → Option (List (Nat × Nat × Arg))
  | [] => some []
  | (i, x) :: r => (place i).bind fun (o, n) => (cA x).bind fun y => (cParts place r).bind fun s => some ((o, n, y) :: s)
def places (P : Program) (fs : List Field) : Option (List (Nat × Nat)) := fs.mapM (fun f => (P.info? f.type).map fun i => (f.offset, i.size))
def cO : Option Operand → Option (Option Arg)
  | none => some none
  | some x => (cA x).map some
def nilSl : Operand → Bool
  | .const (.slice none 0 0) => true
  | _ => false

def compB (P : Program) (b : Builtin) (ts : Array TypeId) (args : List Arg) : Option VOp :=
  match b, ts.toList, args with
  | .len, [t], [x] => (slE P t).map fun _ => .len x
  | .append, [t, t'], [x, y] => if t = t' then (slE P t).bind fun e => (P.info? e).bind fun i => if 0 < i.size ∧ (zeroL P e).isSome = true then some (.append i.size i.bytes x y) else none else none
  | .copy, [t, t'], [x, y] => (slE P t).bind fun e => (slE P t').bind fun e' => (szL P e).bind fun n => some (.copy n x y)
  | .clear, [t], [x] => (slE P t).bind fun e => (szL P e).bind fun n => (zeroL P e).bind fun z => some (.clear n z x)
  | .max, _, [x, y] => some (.mx x y)
  | .min, _, [x, y] => some (.mn x y)
  | _, _, _ => none
def compO (P : Program) : Op → Option VOp
  | .move x => (cA x).map .mv
  | .assign x => (cA x).map .mv
  | .pick c a b => (cA c).bind fun c => (cA a).bind fun a => (cA b).map fun b => .pick c a b
  | .alloc e => (zeroL P e).map .new
  | .box _ x => (cA x).map .box
  | .build t ps => (stF P t).bind fun fs => (zeroL P t).bind fun z => (places P fs.toList).bind fun pl => (cParts (pl.toArray[·]?) ps.toList).map (.build z)
  | .buildSlice t len ps => (slE P t).bind fun e => (szL P e).bind fun n => (zeroL P e).bind fun z => if len * n ≤ 2 ^ 24 ∧ 0 < n then
      (cParts (fun i => some (i * n, n)) ps.toList).map (.bslice n (if len * n = 0 then [] else (List.replicate len z).flatten) len) else none
  | .load t a => (tyL P t).bind fun (g, n) => (cA a).map (.load g n)
  | .store t a x => (szL P t).bind fun n => (cA a).bind fun a => (cA x).map (.store n a)
  | .nilCheck x => (cA x).map .nilck
  | .binOp op t x y _ => match op with
    | .eql => if isBool P t then (cA x).bind fun x => (cA y).map (.beq false x) else if (slE P t).isSome = true then (if nilSl y then (cA x).map (.snil false) else none) else (cA x).bind fun x => (cA y).map (.bin .eql x)
    | .neq => if isBool P t then (cA x).bind fun x => (cA y).map (.beq true x) else if (slE P t).isSome = true then (if nilSl y then (cA x).map (.snil true) else none) else (cA x).bind fun x => (cA y).map (.bin .neq x)
    | op => (cA x).bind fun x => (cA y).map (.bin op x)
  | .unOp .not _ x => (cA x).map .not
  | .convert s d x => if (P.underlying s).isSome = true then (intK P d).bind fun k => (cA x).map (.conv k) else none
  | .makeFunc (.func f) first cap => if first.size = 0 then (cAs cap.toList).map (.mkfn f) else none
  | .makeSlice t l c => (slE P t).bind fun e => (P.info? e).bind fun i => (zeroL P e).bind fun z => (cA l).bind fun l => (cA c).map (.mkslice i.size i.bytes z l)
  | .slice t x lo hi mx => (slE P t).bind fun e => (szL P e).bind fun n => if n = 0 then none else (cA x).bind fun x => (cO lo).bind fun lo => (cO hi).bind fun hi => (cO mx).map (.slice n x lo hi)
  | .fieldAddr s x f => (stF P s).bind fun fs => (fs[f]?).bind fun fl => (szL P fl.type).bind fun n => if n = 0 then none else (cA x).map (.faddr fl.offset)
  | .field s x f => (stF P s).bind fun fs => (fs[f]?).bind fun fl => (tyL P fl.type).bind fun (g, n) => (cA x).map (.field g fl.offset n)
  | .indexAddr t x i => (slE P t).bind fun e => (szL P e).bind fun n => (cA x).bind fun x => (cA i).map (.iaddr n x)
  | .extract x i => (cA x).map (.ext i)
  | .call c => (cAs c.args.toList).bind fun args => match c.callee with
    | .builtin b => compB P b c.argTypes args
    | .value (.func f) => some (.call f args)
    | .value (.tmp t) => some (.callv (.t t) args)
    | _ => none
  | _ => none

theorem RP.const {μ : Mu} {v : Value} (h : okP v = true) : RP μ v v := by
  cases v <;> simp only [okP, Bool.false_eq_true] at h
  case pointer a => cases a <;> simp at h; rfl
  case slice a n c =>
    cases a
    · cases n <;> cases c <;> simp [okP] at h
      exact ⟨rfl, rfl⟩
    · simp [okP] at h
  all_goals rfl
theorem RC.const {μ : Mu} {v : Value} (h : okP v = true) : RC μ v v := by
  rw [RC_eq (by intro f a b e; subst e; simp [okP] at h)]
  exact RP.const h
theorem L2.refl {R : Value → Value → Prop} : ∀ {l : List Value}, (∀ v ∈ l, R v v) → L2 R l l
  | [], _ => .nil
  | a :: l, h => .cons (h a (by simp)) (L2.refl fun v hv => h v (by simp [hv]))
theorem R1.const {μ : Mu} {v : Value} (h : ok1 v = true) : R1 μ v v := by
  by_cases ha : ∃ cs, v = .agg cs
  · obtain ⟨cs, rfl⟩ := ha
    exact ⟨cs, rfl, L2.refl fun x hx => RC.const (List.all_eq_true.1 h x hx)⟩
  · rw [R1_eq (fun cs e => ha ⟨cs, e⟩)]
    exact RC.const (by cases v <;> first | exact h | exact absurd ⟨_, rfl⟩ ha)
theorem R2.const {μ : Mu} {v : Value} (h : ok1 v = true) : R2 μ v v := R2.of_R1 (R1.const h)
theorem R2.undef {μ : Mu} : R2 μ (.tuple #[]) Go.undef := ⟨#[], rfl, .nil⟩

/-- The temporaries. -/
def TR (μ : Mu) (ts : Ts) (a : Act) : Prop := ∀ t v, lk ts t = some v → ∃ r, a.tmps[t]? = some r ∧ R2 μ v r
theorem TR.ext {μ μ' : Mu} (h : Ext μ μ') {ts a} (ht : TR μ ts a) : TR μ' ts a := fun t v hv => let ⟨r, h1, h2⟩ := ht t v hv; ⟨r, h1, h2.ext h⟩
theorem TR.put {μ : Mu} {ts : Ts} {a : Act} {v r : Value} (ht : TR μ ts a) (hr : R2 μ v r) {d : Option Nat} (hd : ∀ t, d = some t → t < a.tmps.size) : TR μ (put ts d v) (a.put d r) := by
  intro t u hu
  cases d with
  | none => exact ht t u hu
  | some d =>
    simp only [V.put, lk] at hu
    split at hu
    · rename_i e; subst e; cases hu
      exact ⟨r, by simp [Act.put, hd d rfl], hr⟩
    · rename_i e
      obtain ⟨x, h1, h2⟩ := ht t u hu
      exact ⟨x, by simp only [Act.put]; rw [Array.getElem?_setIfInBounds_ne e]; exact h1, h2⟩
theorem size_put (a : Act) (d : Option Nat) (v : Value) : (a.put d v).tmps.size = a.tmps.size := by
  cases d <;> simp [Act.put]
theorem R2.func {μ : Mu} (f : Nat) : R2 μ (.func (.func f) #[] #[]) (.func (.func f) #[] #[]) :=
  ⟨rfl, #[], rfl, .nil⟩
theorem ev_ok {μ : Mu} {ts : Ts} {a : Act} (ht : TR μ ts a) {x : Operand} {y : Arg} (hc : cA x = some y) {v : Value} (hv : ev ts y = some v) : R2 μ v (a.eval x) := by
  cases x with
  | tmp t =>
    simp only [cA, Option.some.injEq] at hc; subst hc
    obtain ⟨r, h1, h2⟩ := ht t v hv
    simpa [Act.eval, h1] using h2
  | const c =>
    simp only [cA] at hc
    split at hc
    · cases hc; simp only [ev, Option.some.injEq] at hv; subst hv
      exact R2.const ‹_›
    · cases hc
  | func f =>
    simp only [cA, Option.some.injEq] at hc; subst hc
    simp only [ev, Option.some.injEq] at hv; subst hv
    exact R2.func f
  | global g => simp [cA] at hc
theorem evs_ok {μ : Mu} {ts : Ts} {a : Act} (ht : TR μ ts a) : ∀ {xs : List Operand} {ys : List Arg}, cAs xs = some ys → ∀ {vs : List Value}, evs ts ys = some vs → L2 (R2 μ) vs (xs.map a.eval)
  | [], ys, hc, vs, hv => by
    simp only [cAs, Option.some.injEq] at hc; subst hc
    simp only [evs, Option.some.injEq] at hv; subst hv
    exact .nil
  | x :: xs, ys, hc, vs, hv => by
    simp only [cAs, Option.bind_eq_some_iff, Option.some.injEq] at hc
    obtain ⟨y, hy, s, hs, rfl⟩ := hc
    simp only [evs, Option.bind_eq_some_iff, Option.some.injEq] at hv
    obtain ⟨v, hv, us, hus, rfl⟩ := hv
    exact .cons (ev_ok ht hy hv) (evs_ok ht hs hus)
end Go.Proofs.Ytflddpkmajoeaaa.V
