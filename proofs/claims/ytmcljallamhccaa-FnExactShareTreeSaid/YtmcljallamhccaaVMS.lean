/- A small machine of values ('V'): memory is a list of blocks that are numbered in the order in which they are made; a function's code is a term without types and positions. What it computes the program's code computes, too (the texts behind this one). -/
import Derived.Orders
import Derived.Tactics
import Derived.Laws.OwnMore
import Derived.Deep.DeepAppendWide
import Derived.KernelRfl
namespace Go.Proofs.Ytmcljallamhccaa.V
open Go
set_option linter.unusedVariables false

/-- A block of cells. rw: it may be written; k0: it is a slice's of no capacity. -/
structure Blk where
  cs : List Value
  rw : Bool
  k0 : Bool
abbrev Hp := List (Option Blk)
abbrev Ts := List (Nat × Value)

inductive Arg where
  | t (n : Nat)
  | c (v : Value)

inductive VOp where
  | mv (x : Arg)
  | pick (c a b : Arg)
  | new (z : List Value)
  | box (x : Arg)
  | build (z : List Value) (ps : List (Nat × Nat × Arg))
  | bslice (st : Nat) (z : List Value) (n : Nat) (ps : List (Nat × Nat × Arg))
  | load (agg : Bool) (n : Nat) (a : Arg)
  | store (n : Nat) (a x : Arg)
  | nilck (x : Arg)
  | bin (op : BinOp) (x y : Arg)
  | beq (n : Bool) (x y : Arg)
  | snil (n : Bool) (x : Arg)
  | not (x : Arg)
  | conv (k : IntKind) (x : Arg)
  | mkfn (f : Nat) (cap : List Arg)
  | mkslice (st by_ : Nat) (z : List Value) (l c : Arg)
  | slice (st : Nat) (x : Arg) (lo hi mx : Option Arg)
  | faddr (off : Nat) (x : Arg)
  | field (agg : Bool) (off n : Nat) (x : Arg)
  | iaddr (st : Nat) (x i : Arg)
  | ext (i : Nat) (x : Arg)
  | len (x : Arg)
  | append (st by_ : Nat) (x y : Arg)
  | copy (st : Nat) (x y : Arg)
  | clear (st : Nat) (z : List Value) (x : Arg)
  | mx (x y : Arg)
  | mn (x y : Arg)
  | call (f : Nat) (args : List Arg)
  | callv (x : Arg) (args : List Arg)

/-- An operation: where its value goes; its guard (a temporary and what it must be); what it does. -/
structure VO where
  d : Option Nat
  g : Option (Nat × Bool)
  o : VOp

inductive VC where
  | skip
  | ops (l : List VO)
  | draw (free seq : List VO)   -- a region that draws its order: the free part, then what stands behind all of it
  | seq (a b : VC)
  | cond (c : Arg) (a b : VC)
  | block (id : Nat) (c : VC)
  | exit (id : Nat)
  | loop (keep kx : List Nat) (c : VC)   -- what is kept from round to round; what is kept behind the loop
  | ret

inductive VE where
  | normal | exit (id : Nat) | ret
  deriving DecidableEq

inductive VR where
  | t (n : Nat)
  | cell (n : Nat) (agg : Bool) (sz : Nat)

structure VF where
  np : Nat
  nt : Nat
  res : List VR
  pu : Bool      -- it writes nothing that was there
  body : VC

def lk : Ts → Nat → Option Value
  | [], _ => none
  | (k, v) :: r, t => if k = t then some v else lk r t
def ev (ts : Ts) : Arg → Option Value
  | .t n => lk ts n
  | .c v => some v
def evs (ts : Ts) : List Arg → Option (List Value)
  | [] => some []
  | x :: r => (ev ts x).bind fun v => (evs ts r).bind fun vs => some (v :: vs)
def put (ts : Ts) : Option Nat → Value → Ts
  | none, _ => ts
  | some d, v => (d, v) :: ts
def keepTs (ts : Ts) : List Nat → Ts
  | [] => []
  | k :: r => match lk ts k with
    | some v => (k, v) :: keepTs ts r
    | none => keepTs ts r

def Hp.blk (H : Hp) (i : Nat) : Option Blk := (H[i]?).bind id
def rd (H : Hp) (a : Addr) : Option Value := (H.blk a.block).bind fun b => b.cs[a.off]?
def rdN (H : Hp) (a : Addr) (n : Nat) : Option (List Value) := (H.blk a.block).bind fun b => if a.off + n ≤ b.cs.length then some ((b.cs.drop a.off).take n) else none
def setAll (cs : List Value) (o : Nat) : List Value → List Value
  | [] => cs
  | v :: vs => setAll (cs.set o v) (o + 1) vs
def wrN (lo : Nat) (H : Hp) (a : Addr) (vs : List Value) : Option Hp := (H.blk a.block).bind fun b => if lo ≤ a.block ∧ b.rw = true ∧ a.off + vs.length ≤ b.cs.length then some (H.set a.block (some ⟨setAll b.cs a.off vs, true, b.k0⟩)) else none

def vcells : Value → List Value
  | .agg cs => cs.toList
  | v => [v]
def ntup : Value → Bool
  | .tuple _ => false
  | _ => true
def isPtr : Value → Bool
  | .pointer _ => true
  | _ => false
def isRef : Value → Bool
  | .pointer (some _) => true
  | .slice (some _) _ _ => true
  | .func _ _ _ => true
  | .agg _ => true
  | .tuple _ => true
  | _ => false
def noRef1 : Value → Bool
  | .agg cs => cs.toList.all fun v => !isRef v
  | v => !isRef v
def noRef : Value → Bool
  | .tuple vs => vs.toList.all noRef1
  | v => noRef1 v

def asI : Value → Option Int
  | .int _ n => some n
  | _ => none
def vfill (cells : List Value) (ts : Ts) : List (Nat × Nat × Arg) → Option (List Value)
  | [] => some cells
  | (o, n, x) :: r => (ev ts x).bind fun v => if ntup v = true ∧ (vcells v).length = n ∧ o + n ≤ cells.length then vfill (setAll cells o (vcells v)) ts r else none
/-- A slice's length; the cells behind it. -/
def slen : Value → Option Nat
  | .slice _ n _ => some n
  | _ => none
def scells (H : Hp) (st : Nat) : Value → Option (List Value)
  | .slice none n _ => if n = 0 then some [] else none
  | .slice (some a) n s => if s = st then rdN H a (n * st) else none
  | _ => none

def vbin (op : BinOp) : Value → Value → Option Value
  | .int k a, .int k' b => if k = k' then match op with
    | .add => some (.int k (k.wrap (a + b)))
    | .sub => some (.int k (k.wrap (a - b)))
    | .mul => some (.int k (k.wrap (a * b)))
    | .quo => if b = 0 then none else some (.int k (k.wrap (a.tdiv b)))
    | .rem => if b = 0 then none else some (.int k (a.tmod b))
    | .shr => if b < 0 then none else some (.int k (a.fdiv (2 ^ min b.toNat k.bits)))
    | .eql => some (.bool (a == b))
    | .neq => some (.bool (a != b))
    | .lss => some (.bool (a < b))
    | .leq => some (.bool (a ≤ b))
    | .gtr => some (.bool (a > b))
    | .geq => some (.bool (a ≥ b))
    | _ => none
    else none
  | _, _ => none

abbrev Cal := Nat → List Value → Nat → Hp → Option (Value × Hp)

/-- The bound of what is made by append: no growslice of Go's refuses it. -/
def fits (need by_ : Nat) : Bool := decide (need ≤ maxLen) && decide ((need + need / 4 + 192) * by_ ≤ 281474976710656)

/-- May a slice of n elements be appended to? -/
def Blk.app (b : Blk) (n : Nat) : Bool := if n = 0 then b.k0 else b.rw
def vappend (st by_ : Nat) (lo : Nat) (H : Hp) (x y : Value) : Option (Value × Hp) :=
  (slen y).bind fun m => (scells H st y).bind fun new =>
  match x with
  | .slice none n _ => if n = 0 then (if m = 0 then some (.slice none 0 0, H) else if fits m by_ then some (.slice (some ⟨H.length, 0, none⟩) m st, H ++ [some ⟨new, true, false⟩]) else none) else none
  | .slice (some a) n s => (H.blk a.block).bind fun b => if s = st ∧ a.off = 0 ∧ a.spot = none ∧ b.cs.length = n * st ∧ b.app n = true ∧ fits (n + m) by_ = true then
      (if m = 0 then some (.slice (some a) n st, H)
       else if n = 0 then some (.slice (some ⟨H.length, 0, none⟩) m st, H ++ [some ⟨new, true, false⟩])
       else if lo ≤ a.block then some (.slice (some ⟨H.length, 0, none⟩) (n + m) st, H.set a.block none ++ [some ⟨b.cs ++ new, true, false⟩]) else none) else none
  | _ => none

def vslice (st : Nat) (x : Value) (lo hi mx : Option Value) : Option Value :=
  match x with
  | .slice a n s => (match lo with | none => some 0 | some v => asI v).bind fun l => (match hi with | none => some (n : Int) | some v => asI v).bind fun h =>
    if s = st ∧ 0 ≤ l ∧ l ≤ h ∧ h ≤ n then
      match mx, a with
      | none, none => some (.slice none 0 0)
      | none, some a => some (.slice (some ⟨a.block, a.off + l.toNat * st, none⟩) (h - l).toNat st)
      | some _, _ => none
    else none
  | _ => none

def vop (call : Cal) (lo : Nat) (ts : Ts) (H : Hp) : VOp → Option (Value × Hp)
  | .mv x => (ev ts x).bind fun v => some (v, H)
  | .pick c a b => (ev ts c).bind fun v => match v with
    | .bool t => (ev ts (if t then a else b)).bind fun u => some (u, H)
    | _ => none
  | .new z => some (.pointer (some ⟨H.length, 0, none⟩), H ++ [some ⟨z, true, false⟩])
  | .box x => (ev ts x).bind fun v => if ntup v = true then some (.pointer (some ⟨H.length, 0, none⟩), H ++ [some ⟨vcells v, true, false⟩]) else none
  | .build z ps => (vfill z ts ps).bind fun cs => some (.agg cs.toArray, H)
  | .bslice st z n ps => (vfill z ts ps).bind fun cs => some (.slice (some ⟨H.length, 0, none⟩) n st, H ++ [some ⟨cs, true, n == 0⟩])
  | .load agg n a => (ev ts a).bind fun p => match p with
    | .pointer (some a) => if agg then (rdN H a n).bind fun cs => some (.agg cs.toArray, H) else (rd H a).bind fun v => some (v, H)
    | _ => none
  | .store n a x => (ev ts a).bind fun p => (ev ts x).bind fun v => match p with
    | .pointer (some a) => if ntup v = true ∧ (vcells v).length = n then (wrN lo H a (vcells v)).bind fun H' => some (.tuple #[], H') else none
    | _ => none
  | .nilck x => (ev ts x).bind fun v => match v with
    | .pointer (some a) => some (.pointer (some a), H)
    | _ => none
  | .bin op x y => (ev ts x).bind fun a => (ev ts y).bind fun b => (vbin op a b).bind fun v => some (v, H)
  | .beq n x y => (ev ts x).bind fun a => (ev ts y).bind fun b => match a, b with
    | .bool a, .bool b => some (.bool (if n then !(a == b) else a == b), H)
    | _, _ => none
  | .snil n x => (ev ts x).bind fun a => match a with
    | .slice a _ _ => some (.bool (if n then !a.isNone else a.isNone), H)
    | _ => none
  | .not x => (ev ts x).bind fun v => match v with
    | .bool b => some (.bool (!b), H)
    | _ => none
  | .conv k x => (ev ts x).bind fun v => match v with
    | .int _ n => some (.int k (k.wrap n), H)
    | _ => none
  | .mkfn f cap => (evs ts cap).bind fun vs => if vs.all isPtr = true then some (.func (.func f) #[] vs.toArray, H) else none
  | .mkslice st by_ z l c => (ev ts l).bind fun lv => (ev ts c).bind fun cv => (asI lv).bind fun l => (asI cv).bind fun c =>
    if l = c ∧ 0 ≤ c ∧ (by_ : Int) * c ≤ 281474976710656 ∧ c ≤ 4611686018427387904 ∧ z.length = st then some (.slice (some ⟨H.length, 0, none⟩) c.toNat st, H ++ [some ⟨(List.replicate c.toNat z).flatten, true, c == 0⟩]) else none
  | .slice st x l h m => (ev ts x).bind fun v =>
    match l, h, m with
    | none, none, none => (vslice st v none none none).bind fun u => some (u, H)
    | some l, none, none => (ev ts l).bind fun lv => (vslice st v (some lv) none none).bind fun u => some (u, H)
    | none, some h, none => (ev ts h).bind fun hv => (vslice st v none (some hv) none).bind fun u => some (u, H)
    | some l, some h, none => (ev ts l).bind fun lv => (ev ts h).bind fun hv => (vslice st v (some lv) (some hv) none).bind fun u => some (u, H)
    | l, some h, some m => (ev ts h).bind fun hv => (ev ts m).bind fun mv => match v with   -- xs[:0:0]
      | .slice (some a) n s => if asI hv = some 0 ∧ asI mv = some 0 ∧ l.isNone = true ∧ s = st ∧ (n = 0 → a.off = 0) then some (.slice (some ⟨H.length, 0, none⟩) 0 st, H ++ [some ⟨[], false, true⟩]) else none
      | .slice none n s => if asI hv = some 0 ∧ asI mv = some 0 ∧ l.isNone = true then some (.slice none 0 0, H) else none
      | _ => none
    | _, none, some _ => none
  | .faddr off x => (ev ts x).bind fun v => match v with
    | .pointer (some a) => some (.pointer (some ⟨a.block, a.off + off, none⟩), H)
    | _ => none
  | .field agg off n x => (ev ts x).bind fun v => match v with
    | .agg cs => if agg then (if off + n ≤ cs.size then some (.agg (cs.extract off (off + n)), H) else none) else (cs[off]?).bind fun v => some (v, H)
    | _ => none
  | .iaddr st x i => (ev ts x).bind fun v => (ev ts i).bind fun iv => (asI iv).bind fun i => match v with
    | .slice (some a) n s => if s = st ∧ 0 ≤ i ∧ i < n then some (.pointer (some ⟨a.block, a.off + i.toNat * st, none⟩), H) else none
    | _ => none
  | .ext i x => (ev ts x).bind fun v => match v with
    | .tuple vs => (vs[i]?).bind fun v => some (v, H)
    | _ => none
  | .len x => (ev ts x).bind fun v => (slen v).bind fun n => some (.int .i64 n, H)
  | .append st by_ x y => (ev ts x).bind fun a => (ev ts y).bind fun b => vappend st by_ lo H a b
  | .copy st x y => (ev ts x).bind fun d => (ev ts y).bind fun s => (slen s).bind fun m => match d with
    | .slice (some a) n s' => if s' = st then (if min n m = 0 then some (.int .i64 0, H) else (scells H st s).bind fun cs => (wrN lo H a (cs.take (min n m * st))).bind fun H' => some (.int .i64 (min n m : Nat), H')) else none
    | _ => none
  | .clear st z x => (ev ts x).bind fun d => match d with
    | .slice none _ _ => some (.tuple #[], H)
    | .slice (some a) n s => if n = 0 then some (.tuple #[], H) else if s = st then (wrN lo H a (List.replicate n z).flatten).bind fun H' => some (.tuple #[], H') else none
    | _ => none
  | .mx x y => (ev ts x).bind fun a => (ev ts y).bind fun b => match a, b with
    | .int k a, .int k' b => if k = k' then some (.int k (if b > a then b else a), H) else none
    | _, _ => none
  | .mn x y => (ev ts x).bind fun a => (ev ts y).bind fun b => match a, b with
    | .int k a, .int k' b => if k = k' then some (.int k (if b < a then b else a), H) else none
    | _, _ => none
  | .call f args => (evs ts args).bind fun vs => call f vs lo H
  | .callv x args => (ev ts x).bind fun v => (evs ts args).bind fun vs => match v with
    | .func (.func f) fst cap => if fst.size = 0 then call f (vs ++ cap.toList) lo H else none
    | _ => none

def isB : Value → Bool → Bool
  | .bool x, b => x == b
  | _, _ => false
/-- Does the operation run? -/
def wants (ts : Ts) : Option (Nat × Bool) → Option Bool
  | none => some true
  | some (t, b) => (lk ts t).bind fun v => some (isB v b)

def vops (call : Cal) (lo : Nat) : List VO → Ts → Hp → Option (Ts × Hp)
  | [], ts, H => some (ts, H)
  | o :: r, ts, H => (wants ts o.g).bind fun b => if b then (vop call lo ts H o.o).bind fun (v, H') => vops call lo r (put ts o.d v) H'
    else vops call lo r (put ts o.d (.tuple #[])) H

/-- Does it leave memory alone? -/
def VOp.still : VOp → Bool
  | .mv _ | .pick .. | .build .. | .load .. | .nilck _ | .bin .. | .beq .. | .snil .. | .not _ | .conv .. | .mkfn .. | .faddr .. | .field .. | .iaddr .. | .ext .. | .len _ | .mx .. | .mn .. => true
  | _ => false

/-- The free part: what leaves memory alone reads memory as it was at the head (H0); what makes memory turns nothing that was there. -/
def vfree (call : Cal) (H0 : Hp) : List VO → Ts → Hp → Option (Ts × Hp)
  | [], ts, H => some (ts, H)
  | o :: r, ts, H => (wants ts o.g).bind fun b => if b then
      (if o.o.still then (vop call 0 ts H0 o.o).bind fun (v, _) => vfree call H0 r (put ts o.d v) H
       else (vop call H.length ts H o.o).bind fun (v, H') => vfree call H0 r (put ts o.d v) H')
    else vfree call H0 r (put ts o.d (.tuple #[])) H

def iter (f : Ts → Hp → Option (VE × Ts × Hp)) : Nat → Ts → Hp → Option (VE × Ts × Hp)
  | 0, _, _ => none
  | n + 1, ts, H => (f ts H).bind fun (e, ts', H') => match e with
    | .normal => iter f n ts' H'
    | e => some (e, ts', H')
/-- A loop: what enough rounds come to. -/
noncomputable def lim (f : Ts → Hp → Option (VE × Ts × Hp)) (ts : Ts) (H : Hp) : Option (VE × Ts × Hp) :=
  open Classical in if h : ∃ n, (iter f n ts H).isSome = true then iter f h.choose ts H else none

noncomputable def vc (call : Cal) (lo : Nat) : VC → Ts → Hp → Option (VE × Ts × Hp)
  | .skip, ts, H => some (.normal, ts, H)
  | .ops l, ts, H => (vops call lo l ts H).bind fun (ts, H) => some (.normal, ts, H)
  | .draw l r, ts, H => (vfree call H l ts H).bind fun (ts, H) => (vops call lo r ts H).bind fun (ts, H) => some (.normal, ts, H)
  | .seq a b, ts, H => (vc call lo a ts H).bind fun (e, ts', H') => match e with
    | .normal => vc call lo b ts' H'
    | e => some (e, ts', H')
  | .cond c a b, ts, H => (ev ts c).bind fun v => match v with
    | .bool t => if t = true then vc call lo a ts H else vc call lo b ts H
    | _ => none
  | .block id c, ts, H => (vc call lo c ts H).bind fun (e, ts', H') => some (if e = .exit id then .normal else e, ts', H')
  | .exit id, ts, H => some (.exit id, ts, H)
  | .loop keep kx c, ts, H => lim (fun ts H => (vc call lo c ts H).bind fun (e, ts', H') => some (e, keepTs ts' (if e = .normal then keep else kx), H')) (keepTs ts keep) H
  | .ret, ts, H => some (.ret, ts, H)

def vres (ts : Ts) (H : Hp) : VR → Option Value
  | .t n => lk ts n
  | .cell n agg sz => (lk ts n).bind fun p => match p with
    | .pointer (some a) => if agg then (rdN H a sz).bind fun cs => some (.agg cs.toArray) else rd H a
    | _ => none
def vress (ts : Ts) (H : Hp) : List VR → Option (List Value)
  | [] => some []
  | r :: rs => (vres ts H r).bind fun v => (vress ts H rs).bind fun vs => if ntup v = true then some (v :: vs) else none
def tup : List Value → Value
  | [v] => v
  | vs => .tuple vs.toArray

def start : Nat → List Value → Ts
  | _, [] => []
  | k, v :: vs => (k, v) :: start (k + 1) vs

/-- A function's body, at arguments. -/
noncomputable def vfun (call : Cal) (f : VF) (args : List Value) (lo : Nat) (H : Hp) : Option (Value × Hp) :=
  if args.length = f.np then
    (vc call (if f.pu then H.length else lo) f.body (start 0 args) H).bind fun (e, ts, H') => match e with
      | .exit _ => none
      | _ => (vress ts H' f.res).bind fun vs => some (tup vs, if f.pu && noRef (tup vs) then H else H')
  else none

abbrev Env := List (Nat × VF)
def Env.find : Env → Nat → Option VF
  | [], _ => none
  | (k, f) :: r, n => if k = n then some f else Env.find r n

/-- A call, at a depth of calls. -/
noncomputable def vcall (E : Env) : Nat → Cal
  | 0, _, _, _, _ => none
  | d + 1, f, args, lo, H => (E.find f).bind fun vf => vfun (vcall E d) vf args lo H
end Go.Proofs.Ytmcljallamhccaa.V
/-! How the machine's memory stands in the program's: each live block lies somewhere; values are alike up to where they point. What a step may turn. -/
namespace Go.Proofs.Ytmcljallamhccaa.V
open Go
set_option linter.unusedVariables false
set_option linter.unusedSimpArgs false

structure MA where
  b : Nat
  o : Nat
  k : Nat
  s : Nat
abbrev Mu := Nat → Option MA

inductive L2 (R : Value → Value → Prop) : List Value → List Value → Prop
  | nil : L2 R [] []
  | cons {a b l m} : R a b → L2 R l m → L2 R (a :: l) (b :: m)
section
variable {R R' : Value → Value → Prop}
theorem L2.mono (h : ∀ a b, R a b → R' a b) : ∀ {l m}, L2 R l m → L2 R' l m
  | _, _, .nil => .nil
  | _, _, .cons x y => .cons (h _ _ x) (L2.mono h y)
theorem L2.len : ∀ {l m}, L2 R l m → l.length = m.length
  | _, _, .nil => rfl
  | _, _, .cons _ y => by simp [y.len]
theorem L2.get : ∀ {l m : List Value}, L2 R l m → ∀ {i : Nat} {x : Value}, l[i]? = some x → ∃ y, m[i]? = some y ∧ R x y
  | _, _, .nil, i, x, h => by simp at h
  | _, _, .cons (b := b) r y, 0, x, h => ⟨b, rfl, by simp at h; subst h; exact r⟩
  | _, _, .cons r y, i + 1, x, h => by simpa using y.get (i := i) (by simpa using h)
theorem L2.append : ∀ {l m l' m'}, L2 R l m → L2 R l' m' → L2 R (l ++ l') (m ++ m')
  | _, _, _, _, .nil, h => h
  | _, _, _, _, .cons r y, h => .cons r (y.append h)
theorem L2.take : ∀ {l m}, L2 R l m → ∀ n, L2 R (l.take n) (m.take n)
  | _, _, .nil, n => by simpa using .nil
  | _, _, .cons r y, 0 => by simpa using .nil
  | _, _, .cons r y, n + 1 => by simpa using .cons r (y.take n)
theorem L2.drop : ∀ {l m}, L2 R l m → ∀ n, L2 R (l.drop n) (m.drop n)
  | _, _, .nil, n => by simpa using .nil
  | _, _, .cons r y, 0 => by simpa using .cons r y
  | _, _, .cons r y, n + 1 => by simpa using y.drop n
theorem L2.of_get : ∀ {l m : List Value}, l.length = m.length → (∀ (i : Nat) (x y : Value), l[i]? = some x → m[i]? = some y → R x y) → L2 R l m
  | [], [], _, _ => .nil
  | a :: l, b :: m, hl, h => .cons (h 0 a b rfl rfl) (L2.of_get (by simpa using hl) fun i x y hx hy => h (i + 1) x y (by simpa using hx) (by simpa using hy))
theorem L2.set : ∀ {l m}, L2 R l m → ∀ i {x y}, R x y → L2 R (l.set i x) (m.set i y)
  | _, _, .nil, i, _, _, _ => by simpa using .nil
  | _, _, .cons r t, 0, _, _, h => by simpa using .cons h t
  | _, _, .cons r t, i + 1, _, _, h => by simpa using .cons r (t.set i h)
theorem L2.all {p : Value → Prop} (hp : ∀ a b, R a b → p b) : ∀ {l m}, L2 R l m → ∀ b ∈ m, p b
  | _, _, .nil, b, h => by simp at h
  | _, _, .cons r t, b, h => by
    rcases List.mem_cons.1 h with rfl | h
    · exact hp _ _ r
    · exact t.all hp b h
theorem L2.rep {x y : Value} (h : R x y) : ∀ n, L2 R (List.replicate n x) (List.replicate n y)
  | 0 => .nil
  | n + 1 => .cons h (L2.rep h n)
end

def RP (μ : Mu) : Value → Value → Prop
  | .bool b, r => r = .bool b
  | .int k n, r => r = .int k n
  | .string s, r => r = .string s
  | .pointer none, r => r = .pointer none
  | .pointer (some a), r => a.spot = none ∧ ∃ m, μ a.block = some m ∧ r = .pointer (some ⟨m.b, m.o + a.off, none⟩)
  | .slice none n _, r => n = 0 ∧ r = .slice none 0 0
  | .slice (some a) n st, r => a.spot = none ∧ ∃ m, μ a.block = some m ∧ m.s = st ∧ ∃ a' c, r = .slice (some a') n c ∧ (0 < n → a'.spot = none) ∧ n ≤ c ∧ (a.off = 0 → a' = ⟨m.b, m.o, none⟩ ∧ c = m.k) ∧ (0 < n → a' = ⟨m.b, m.o + a.off, none⟩)
  | _, _ => False
def RC (μ : Mu) (v r : Value) : Prop :=
  match v with
  | .func f fst cap => fst = #[] ∧ ∃ cap' : Array Value, r = .func f #[] cap' ∧ L2 (RP μ) cap.toList cap'.toList
  | v => RP μ v r
def R1 (μ : Mu) (v r : Value) : Prop :=
  match v with
  | .agg cs => ∃ rs : Array Value, r = .agg rs ∧ L2 (RC μ) cs.toList rs.toList
  | v => RC μ v r
def R2 (μ : Mu) (v r : Value) : Prop :=
  match v with
  | .tuple vs => ∃ rs : Array Value, r = .tuple rs ∧ L2 (R1 μ) vs.toList rs.toList
  | v => R1 μ v r

def Ext (μ μ' : Mu) : Prop := ∀ i m, μ i = some m → μ' i = some m
theorem Ext.refl (μ : Mu) : Ext μ μ := fun _ _ h => h
theorem Ext.trans {a b c : Mu} (h : Ext a b) (k : Ext b c) : Ext a c := fun i m x => k i m (h i m x)

theorem RP.ext {μ μ' : Mu} (h : Ext μ μ') : ∀ {v r}, RP μ v r → RP μ' v r := by
  intro v r hr
  cases v <;> try exact hr
  case pointer a =>
    cases a with
    | none => exact hr
    | some a => obtain ⟨h0, m, hm, e⟩ := hr; exact ⟨h0, m, h _ _ hm, e⟩
  case slice a n c =>
    cases a with
    | none => exact hr
    | some a => obtain ⟨h0, m, hm, e⟩ := hr; exact ⟨h0, m, h _ _ hm, e⟩
theorem RC_eq {μ : Mu} {v r : Value} (h : ∀ f a b, v ≠ .func f a b) : RC μ v r = RP μ v r := by
  cases v <;> first | rfl | exact absurd rfl (h _ _ _)
theorem R1_eq {μ : Mu} {v r : Value} (h : ∀ cs, v ≠ .agg cs) : R1 μ v r = RC μ v r := by
  cases v <;> first | rfl | exact absurd rfl (h _)
theorem R2_eq {μ : Mu} {v r : Value} (h : ∀ cs, v ≠ .tuple cs) : R2 μ v r = R1 μ v r := by
  cases v <;> first | rfl | exact absurd rfl (h _)
theorem RC.ext {μ μ' : Mu} (h : Ext μ μ') {v r} (hr : RC μ v r) : RC μ' v r := by
  cases v
  case func f a b =>
    obtain ⟨h0, c, e, hl⟩ := hr
    exact ⟨h0, c, e, hl.mono fun _ _ => RP.ext h⟩
  all_goals
    rw [RC_eq (by simp)] at hr ⊢
    exact RP.ext h hr
theorem R1.ext {μ μ' : Mu} (h : Ext μ μ') {v r} (hr : R1 μ v r) : R1 μ' v r := by
  cases v
  case agg cs =>
    obtain ⟨c, e, hl⟩ := hr
    exact ⟨c, e, hl.mono fun _ _ => RC.ext h⟩
  all_goals
    rw [R1_eq (by simp)] at hr ⊢
    exact RC.ext h hr
theorem R2.ext {μ μ' : Mu} (h : Ext μ μ') {v r} (hr : R2 μ v r) : R2 μ' v r := by
  cases v
  case tuple cs =>
    obtain ⟨c, e, hl⟩ := hr
    exact ⟨c, e, hl.mono fun _ _ => R1.ext h⟩
  all_goals
    rw [R2_eq (by simp)] at hr ⊢
    exact R1.ext h hr

theorem RC.one {μ : Mu} {v r} (hr : RC μ v r) : r.oneCell' = true ∧ (∀ cs, v ≠ .agg cs) ∧ (∀ cs, v ≠ .tuple cs) := by
  cases v <;> simp only [RC, RP] at hr
  case pointer a => cases a <;> simp only [RP] at hr
                    · subst hr; simp [Value.oneCell']
                    · obtain ⟨_, m, _, rfl⟩ := hr; simp [Value.oneCell']
  case slice a n c => cases a <;> simp only [RP] at hr
                      · obtain ⟨_, rfl⟩ := hr; simp [Value.oneCell']
                      · obtain ⟨_, m, _, _, a', c', rfl, _⟩ := hr; simp [Value.oneCell']
  case func f a b => obtain ⟨_, c, rfl, _⟩ := hr; simp [Value.oneCell']
  all_goals (first | (subst hr; simp [Value.oneCell']) | exact hr.elim)
theorem R1.of_RC {μ : Mu} {v r} (h : RC μ v r) : R1 μ v r := by
  rw [R1_eq (RC.one h).2.1]; exact h
theorem R1.notTuple {μ : Mu} {v r} (h : R1 μ v r) : ∀ cs, v ≠ .tuple cs := by
  intro cs e; subst e; exact h.elim
theorem R2.of_R1 {μ : Mu} {v r} (h : R1 μ v r) : R2 μ v r := by
  rw [R2_eq h.notTuple]; exact h
theorem R2.of_RC {μ : Mu} {v r} (h : RC μ v r) : R2 μ v r := R2.of_R1 (R1.of_RC h)
theorem R2.to_R1 {μ : Mu} {v r} (h : R2 μ v r) (ht : ∀ cs, v ≠ .tuple cs) : R1 μ v r := by
  rw [R2_eq ht] at h; exact h

/-- The cells of a value and of what it stands for. -/
theorem R1.cells {μ : Mu} {v r} (h : R1 μ v r) : L2 (RC μ) (vcells v) r.cells.toList := by
  cases v
  case agg cs => obtain ⟨rs, rfl, hl⟩ := h; simpa [vcells, Value.cells] using hl
  all_goals
    rw [R1_eq (by simp)] at h
    have h' := h
    have h1 := (RC.one h').1
    have e : r.cells = #[r] := by cases r <;> first | rfl | simp [Value.oneCell'] at h1
    rw [e]
    exact .cons h' .nil

structure BOK (μ : Mu) (b : Blk) (m : MA) (w : World) : Prop where
  cells : ∀ (j : Nat) c, b.cs[j]? = some c → ∃ r, w.cell? ⟨m.b, m.o + j, none⟩ = some r ∧ RC μ c r
  k0 : b.k0 = true → m.k = 0
  rw : b.rw = true → ∃ C e, w.heap[m.b]? = some (.cells C e (0, 0)) ∧ m.o = 0 ∧ C.size = m.k * m.s ∧ m.k ≤ maxLen
structure Sim (μ : Mu) (H : Hp) (w : World) : Prop where
  dom : ∀ i m, μ i = some m → i < H.length
  blk : ∀ i b, H[i]? = some (some b) → ∃ m, μ i = some m ∧ BOK μ b m w
  sep : ∀ i j bi bj mi mj, i ≠ j → H[i]? = some (some bi) → H[j]? = some (some bj) → bi.rw = true → (bj.cs ≠ [] ∨ bj.rw = true) → μ i = some mi → μ j = some mj → mi.b ≠ mj.b
structure Stp (lo : Nat) (μ : Mu) (H : Hp) (w : World) (μ' : Mu) (H' : Hp) (w' : World) : Prop where
  ext : Ext μ μ'
  os : w'.os = w.os
  tape : w'.tape = w.tape
  output : w'.output = w.output
  size : w.heap.size ≤ w'.heap.size
  len : H.length ≤ H'.length
  old : ∀ b, b < w.heap.size → (∀ i bl m, lo ≤ i → H[i]? = some (some bl) → bl.rw = true → μ i = some m → m.b ≠ b) → w'.heap[b]? = w.heap[b]?
  wr : ∀ i bl m, lo ≤ i → H'[i]? = some (some bl) → bl.rw = true → μ' i = some m → m.b < w.heap.size → ∃ j bl' m', lo ≤ j ∧ H[j]? = some (some bl') ∧ bl'.rw = true ∧ μ j = some m' ∧ m'.b = m.b
  low : ∀ i, i < lo → i < H.length → H'[i]? = H[i]?

theorem Stp.refl (lo : Nat) (μ : Mu) (H : Hp) (w : World) : Stp lo μ H w μ H w :=
  ⟨Ext.refl _, rfl, rfl, rfl, Nat.le_refl _, Nat.le_refl _, fun _ _ _ => rfl, fun i bl m hi hb hr hm _ => ⟨i, bl, m, hi, hb, hr, hm, rfl⟩, fun _ _ _ => rfl⟩
theorem Stp.trans {lo : Nat} {μ μ1 μ2 : Mu} {H H1 H2 : Hp} {w w1 w2 : World} (a : Stp lo μ H w μ1 H1 w1) (b : Stp lo μ1 H1 w1 μ2 H2 w2) : Stp lo μ H w μ2 H2 w2 where
  ext := a.ext.trans b.ext
  os := b.os.trans a.os
  tape := b.tape.trans a.tape
  output := b.output.trans a.output
  size := Nat.le_trans a.size b.size
  len := Nat.le_trans a.len b.len
  old := fun k hk hn => by
    rw [b.old k (Nat.lt_of_lt_of_le hk a.size) fun i bl m hi hb hr hm e => ?_, a.old k hk hn]
    subst e
    obtain ⟨j, bl', m', hj, hb', hr', hm', e'⟩ := a.wr i bl m hi hb hr hm hk
    exact hn j bl' m' hj hb' hr' hm' e'
  wr := fun i bl m hi hb hr hm hk => by
    obtain ⟨j, bl', m', hj, hb', hr', hm', e'⟩ := b.wr i bl m hi hb hr hm (Nat.lt_of_lt_of_le hk a.size)
    obtain ⟨j2, bl2, m2, hj2, hb2, hr2, hm2, e2⟩ := a.wr j bl' m' hj hb' hr' hm' (e' ▸ hk)
    exact ⟨j2, bl2, m2, hj2, hb2, hr2, hm2, e2.trans e'⟩
  low := fun i hi hl => by rw [b.low i hi (Nat.lt_of_lt_of_le hl a.len), a.low i hi hl]
/-- What may be written may be less. -/
theorem Stp.mono {lo lo' : Nat} {μ μ1 : Mu} {H H1 : Hp} {w w1 : World} (a : Stp lo μ H w μ1 H1 w1) (hs : Sim μ H w) (h : lo' ≤ lo) (hlo : lo ≤ H.length) : Stp lo' μ H w μ1 H1 w1 :=
  { a with
    old := fun b hb hn => a.old b hb fun i bl m hi => hn i bl m (Nat.le_trans h hi)
    wr := fun i bl m hi hb hr hm hk => by
      by_cases hil : lo ≤ i
      · obtain ⟨j, bl', m', hj, x⟩ := a.wr i bl m hil hb hr hm hk
        exact ⟨j, bl', m', Nat.le_trans h hj, x⟩
      · rw [a.low i (by omega) (by omega)] at hb
        obtain ⟨m0, hm0, _⟩ := hs.blk i bl hb
        have := a.ext _ _ hm0
        rw [hm] at this
        cases this
        exact ⟨i, bl, m, hi, hb, hr, hm0, rfl⟩
    low := fun i hi hl => a.low i (Nat.lt_of_lt_of_le hi h) hl }

theorem Sim.drew {μ : Mu} {H : Hp} {w w' : World} (hw : w'.heap = w.heap) (h : Sim μ H w) : Sim μ H w' := by
  have hc : ∀ a, w'.cell? a = w.cell? a := fun a => by simp [World.cell?, hw]
  exact ⟨h.dom, fun i b hb => by
    obtain ⟨m, hm, h1, h2, h3⟩ := h.blk i b hb
    exact ⟨m, hm, fun j c hc' => by rw [hc]; exact h1 j c hc', h2, fun hr => by rw [hw]; exact h3 hr⟩, h.sep⟩
theorem Stp.drew {lo : Nat} {μ : Mu} {H : Hp} {w w' : World} (hw : w'.heap = w.heap) (ho : w'.os = w.os) (ht : w'.tape = w.tape) (hp : w'.output = w.output) : Stp lo μ H w μ H w' :=
  ⟨Ext.refl _, ho, ht, hp, by rw [hw]; exact Nat.le_refl _, Nat.le_refl _, fun _ _ _ => by rw [hw], fun i bl m hi hb hr hm _ => ⟨i, bl, m, hi, hb, hr, hm, rfl⟩, fun _ _ _ => rfl⟩
end Go.Proofs.Ytmcljallamhccaa.V
/-! What the machine's steps on memory are in the program's memory: a new block; cells written; a block that moves. -/
namespace Go.Proofs.Ytmcljallamhccaa.V
open Go
set_option linter.unusedVariables false
set_option linter.unusedSimpArgs false

theorem get_snoc {α : Type} (l : List α) (x : α) (i : Nat) : (l ++ [x])[i]? = if i < l.length then l[i]? else if i = l.length then some x else none := by
  rw [List.getElem?_append]
  split
  · rfl
  · rename_i h
    split
    · rename_i e; subst e; simp
    · rename_i e
      rw [List.getElem?_eq_none]
      simp; omega
theorem snoc_old {α : Type} {l : List α} {x y : α} {i : Nat} (h : (l ++ [x])[i]? = some y) : (i < l.length ∧ l[i]? = some y) ∨ (i = l.length ∧ y = x) := by
  rw [get_snoc] at h
  split at h
  · exact .inl ⟨‹_›, h⟩
  · split at h
    · exact .inr ⟨‹_›, (Option.some.inj h).symm⟩
    · cases h

def upd (μ : Mu) (n : Nat) (m : MA) : Mu := fun i => if i = n then some m else μ i
theorem upd_same (μ : Mu) (n : Nat) (m : MA) : upd μ n m n = some m := by simp [upd]
theorem upd_ne {μ : Mu} {n i : Nat} {m : MA} (h : i ≠ n) : upd μ n m i = μ i := by simp [upd, h]
theorem Sim.ext_upd {μ : Mu} {H : Hp} {w : World} (hs : Sim μ H w) (m : MA) : Ext μ (upd μ H.length m) := fun i x h => by
  rw [upd_ne (by have := hs.dom i x h; omega)]; exact h

theorem BOK.ext {μ μ' : Mu} (h : Ext μ μ') {b m w} (hb : BOK μ b m w) : BOK μ' b m w :=
  ⟨fun j c hc => let ⟨r, h1, h2⟩ := hb.cells j c hc; ⟨r, h1, h2.ext h⟩, hb.k0, hb.rw⟩
/-- A block's facts in a world in which its real block is as it was. -/
theorem BOK.keep {μ : Mu} {b m} {w w' : World} (hb : BOK μ b m w) (h : w'.heap[m.b]? = w.heap[m.b]?) : BOK μ b m w' :=
  ⟨fun j c hc => by rw [World.cell?_of_block (w := w) (a := ⟨m.b, m.o + j, none⟩) h]; exact hb.cells j c hc, hb.k0, fun hr => by rw [h]; exact hb.rw hr⟩
theorem BOK.lt {μ : Mu} {b m} {w : World} (hb : BOK μ b m w) (h : b.cs ≠ [] ∨ b.rw = true) : m.b < w.heap.size := by
  rcases h with h | h
  · obtain ⟨c, hc⟩ : ∃ c, b.cs[0]? = some c := by cases hb' : b.cs with
      | nil => exact absurd hb' h
      | cons x y => exact ⟨x, rfl⟩
    obtain ⟨r, h1, _⟩ := hb.cells 0 c hc
    exact World.block_lt_of_cell? w _ h1
  · obtain ⟨C, e, hg, _⟩ := hb.rw h
    exact (Array.getElem?_eq_some_iff.1 hg).1
theorem BOK.dull {μ : Mu} {b m} {w w' : World} (hb : BOK μ b m w) (h1 : b.cs = []) (h2 : b.rw = false) : BOK μ b m w' :=
  ⟨fun j c hc => by simp [h1] at hc, hb.k0, fun hr => by simp [h2] at hr⟩

/-- A new block. -/
theorem Sim.alloc {μ : Mu} {H : Hp} {w : World} (hs : Sim μ H w) {vs : List Value} {C : Array Value} {e : TypeId} {k s : Nat} {k0 : Bool}
    (hc : ∀ (j : Nat) c, vs[j]? = some c → ∃ r, C[j]? = some r ∧ RC μ c r) (hk0 : k0 = true → k = 0) (hsz : C.size = k * s) (hm : k ≤ maxLen) (lo : Nat) :
    Sim (upd μ H.length ⟨w.heap.size, 0, k, s⟩) (H ++ [some ⟨vs, true, k0⟩]) (w.alloc (.cells C e)) ∧ Stp lo μ H w (upd μ H.length ⟨w.heap.size, 0, k, s⟩) (H ++ [some ⟨vs, true, k0⟩]) (w.alloc (.cells C e)) := by
  have hx := hs.ext_upd ⟨w.heap.size, 0, k, s⟩
  have hnew : (w.alloc (.cells C e)).heap[w.heap.size]? = some (.cells C e (0, 0)) := heap_alloc_new w _
  refine ⟨⟨fun i m hi => ?_, fun i b hb => ?_, fun i j bi bj mi mj hij hbi hbj hr hq hmi hmj => ?_⟩, ⟨hx, rfl, rfl, rfl, by simp, by simp, fun b hb _ => heap_alloc_old w _ b hb, fun i bl m hlo hb hr hm hlt => ?_, fun i _ hi => by rw [get_snoc, if_pos hi]⟩⟩
  · simp only [upd] at hi
    split at hi
    · simp; omega
    · have := hs.dom i m hi; simp; omega
  · rcases snoc_old hb with ⟨hlt, hb⟩ | ⟨rfl, he⟩
    · obtain ⟨m, hm', hok⟩ := hs.blk i b hb
      refine ⟨m, by rw [upd_ne (by omega)]; exact hm', ?_⟩
      by_cases hq : b.cs ≠ [] ∨ b.rw = true
      · exact (hok.keep (heap_alloc_old w _ _ (hok.lt hq))).ext hx
      · simp only [not_or, ne_eq, Decidable.not_not, Bool.not_eq_true] at hq
        exact (hok.dull hq.1 hq.2).ext hx
    · cases he
      refine ⟨_, upd_same _ _ _, ⟨fun j c hc' => ?_, hk0, fun _ => ⟨C, e, hnew, rfl, hsz, hm⟩⟩⟩
      obtain ⟨r, h1, h2⟩ := hc j c hc'
      exact ⟨r, by simp only [Nat.zero_add]; rw [cell_of_row _ _ j C e (0, 0) hnew]; exact h1, h2.ext hx⟩
  · rcases snoc_old hbi with ⟨hli, hbi⟩ | ⟨rfl, hei⟩
    · rw [upd_ne (by omega)] at hmi
      rcases snoc_old hbj with ⟨hlj, hbj⟩ | ⟨rfl, hej⟩
      · rw [upd_ne (by omega)] at hmj
        exact hs.sep i j bi bj mi mj hij hbi hbj hr hq hmi hmj
      · rw [upd_same] at hmj
        cases hmj
        obtain ⟨m, hm', hok⟩ := hs.blk i bi hbi
        rw [hmi] at hm'; cases hm'
        have := hok.lt (.inr hr)
        simp; omega
    · rw [upd_same] at hmi
      cases hmi
      rcases snoc_old hbj with ⟨hlj, hbj⟩ | ⟨rfl, hej⟩
      · rw [upd_ne (by omega)] at hmj
        obtain ⟨m, hm', hok⟩ := hs.blk j bj hbj
        rw [hmj] at hm'; cases hm'
        have := hok.lt hq
        simp; omega
      · exact absurd rfl hij
  · rcases snoc_old hb with ⟨hli, hb⟩ | ⟨rfl, he⟩
    · rw [upd_ne (by omega)] at hm
      exact ⟨i, bl, m, hlo, hb, hr, hm, rfl⟩
    · rw [upd_same] at hm
      cases hm
      simp at hlt

theorem set_get {α : Type} {l : List α} {i j : Nat} {x y : α} (h : (l.set i x)[j]? = some y) : (i = j ∧ y = x) ∨ (i ≠ j ∧ l[j]? = some y) := by
  by_cases e : i = j
  · subst e
    rw [List.getElem?_set_self'] at h
    cases hl : l[i]? with
    | none => rw [hl] at h; simp at h
    | some z => rw [hl] at h; simp at h; exact .inl ⟨rfl, h.symm⟩
  · rw [List.getElem?_set_ne e] at h
    exact .inr ⟨e, h⟩

/-- Cells of one's own are written. -/
theorem Sim.setRow {μ : Mu} {H : Hp} {w : World} (hs : Sim μ H w) {i : Nat} {b : Blk} {m : MA} (hi : H[i]? = some (some b)) (hr : b.rw = true) (hμ : μ i = some m) {C C' : Array Value} {e : TypeId}
    (hg : w.heap[m.b]? = some (.cells C e (0, 0))) {cs' : List Value} (hsz : C'.size = C.size) (hc : ∀ (j : Nat) c, cs'[j]? = some c → ∃ r, C'[j]? = some r ∧ RC μ c r) {lo : Nat} (hlo : lo ≤ i) :
    Sim μ (H.set i (some ⟨cs', true, b.k0⟩)) (w.setRow m.b C') ∧ Stp lo μ H w μ (H.set i (some ⟨cs', true, b.k0⟩)) (w.setRow m.b C') := by
  obtain ⟨m', hm', hok⟩ := hs.blk i b hi
  rw [hμ] at hm'; cases hm'
  obtain ⟨C0, e0, hg0, ho, hsz0, hml⟩ := hok.rw hr
  rw [hg] at hg0; cases hg0
  have hnew : (w.setRow m.b C').heap[m.b]? = some (.cells C' e (0, 0)) := setRow_heap w m.b C C' e (0, 0) hg
  have live : ∀ (j : Nat) (bj : Blk), (H.set i (some ⟨cs', true, b.k0⟩))[j]? = some (some bj) → ∃ bj0, H[j]? = some (some bj0) ∧ bj0.rw = bj.rw ∧ (j = i ∨ bj0 = bj) := by
    intro (j : Nat) (bj : Blk) hbj
    rcases set_get hbj with ⟨rfl, he⟩ | ⟨hne, hb⟩
    · cases he; exact ⟨b, hi, hr, .inl rfl⟩
    · exact ⟨bj, hb, rfl, .inr rfl⟩
  refine ⟨⟨fun j x hx => by simpa using hs.dom j x hx, fun j bj hbj => ?_, fun p q bp bq mp mq hpq hbp hbq hrp hq hmp hmq => ?_⟩, ⟨Ext.refl _, rfl, rfl, rfl, by simp, by simp, fun k hk hn => setRow_other w _ _ _ (fun e => hn i b m hlo hi hr hμ e.symm), fun j bj mj hj hbj hrj hmj _ => ?_, fun j hj _ => by rw [List.getElem?_set_ne (by omega)]⟩⟩
  · rcases set_get hbj with ⟨rfl, he⟩ | ⟨hne, hb⟩
    · cases he
      refine ⟨m, hμ, ⟨fun j c hc' => ?_, hok.k0, fun _ => ⟨C', e, hnew, ho, by rw [hsz]; exact hsz0, hml⟩⟩⟩
      obtain ⟨r, h1, h2⟩ := hc j c hc'
      exact ⟨r, by rw [ho, Nat.zero_add, cell_of_row _ _ j C' e (0, 0) hnew]; exact h1, h2⟩
    · obtain ⟨mj, hmj, hokj⟩ := hs.blk j bj hb
      refine ⟨mj, hmj, ?_⟩
      by_cases hq : bj.cs ≠ [] ∨ bj.rw = true
      · exact hokj.keep (setRow_other w _ _ _ (fun e => hs.sep i j b bj m mj hne hi hb hr hq hμ hmj e.symm))
      · simp only [not_or, ne_eq, Decidable.not_not, Bool.not_eq_true] at hq
        exact hokj.dull hq.1 hq.2
  · obtain ⟨bp0, hp0, hrp0, _⟩ := live p bp hbp
    obtain ⟨bq0, hq0, hrq0, hor⟩ := live q bq hbq
    refine hs.sep p q bp0 bq0 mp mq hpq hp0 hq0 (hrp0 ▸ hrp) ?_ hmp hmq
    rcases hor with rfl | rfl
    · rw [hi] at hq0; cases hq0; exact .inr hr
    · exact hq
  · obtain ⟨bj0, hj0, hrj0, _⟩ := live j bj hbj
    exact ⟨j, bj0, mj, hj, hj0, hrj0 ▸ hrj, hmj, rfl⟩

/-- A block is forgotten. -/
theorem Sim.kill {μ : Mu} {H : Hp} {w : World} (hs : Sim μ H w) (i : Nat) {lo : Nat} (hlo : lo ≤ i) : Sim μ (H.set i none) w ∧ Stp lo μ H w μ (H.set i none) w := by
  have live : ∀ (j : Nat) (bj : Blk), (H.set i none)[j]? = some (some bj) → H[j]? = some (some bj) := by
    intro (j : Nat) (bj : Blk) hbj
    rcases set_get hbj with ⟨rfl, he⟩ | ⟨hne, hb⟩
    · cases he
    · exact hb
  exact ⟨⟨fun j x hx => by simpa using hs.dom j x hx, fun j bj hbj => hs.blk j bj (live j bj hbj), fun p q bp bq mp mq hpq hbp hbq hrp hq hmp hmq => hs.sep p q bp bq mp mq hpq (live _ _ hbp) (live _ _ hbq) hrp hq hmp hmq⟩,
    ⟨Ext.refl _, rfl, rfl, rfl, Nat.le_refl _, by simp, fun _ _ _ => rfl, fun j bj mj hj hbj hrj hmj _ => ⟨j, bj, mj, hj, live _ _ hbj, hrj, hmj, rfl⟩, fun j hj _ => by rw [List.getElem?_set_ne (by omega)]⟩⟩

/-- A block gets a new number. -/
theorem Sim.move {μ : Mu} {H : Hp} {w : World} (hs : Sim μ H w) {i : Nat} {b : Blk} {m : MA} (hi : H[i]? = some (some b)) (hr : b.rw = true) (hμ : μ i = some m) {lo : Nat} (hlo : lo ≤ i) :
    Sim (upd μ H.length m) (H.set i none ++ [some ⟨b.cs, true, false⟩]) w ∧ Stp lo μ H w (upd μ H.length m) (H.set i none ++ [some ⟨b.cs, true, false⟩]) w := by
  have hx := hs.ext_upd m
  obtain ⟨m', hm', hok⟩ := hs.blk i b hi
  rw [hμ] at hm'; cases hm'
  have hil : i < H.length := (List.getElem?_eq_some_iff.1 hi).1
  have live : ∀ (j : Nat) (bj : Blk), (H.set i none ++ [some ⟨b.cs, true, false⟩])[j]? = some (some bj) → (j < H.length ∧ j ≠ i ∧ H[j]? = some (some bj)) ∨ (j = H.length ∧ bj = ⟨b.cs, true, false⟩) := by
    intro (j : Nat) (bj : Blk) hbj
    rcases snoc_old hbj with ⟨hlt, hb⟩ | ⟨e, hb⟩
    · rcases set_get hb with ⟨rfl, he⟩ | ⟨hne, hb⟩
      · cases he
      · exact .inl ⟨by simpa using hlt, Ne.symm hne, hb⟩
    · exact .inr ⟨by simpa using e, by cases hb; rfl⟩
  refine ⟨⟨fun j x hj => ?_, fun j bj hbj => ?_, fun p q bp bq mp mq hpq hbp hbq hrp hq hmp hmq => ?_⟩, ⟨hx, rfl, rfl, rfl, Nat.le_refl _, by simp, fun _ _ _ => rfl, fun j bj mj hj hbj hrj hmj _ => ?_, fun j hj hl => ?_⟩⟩
  · simp only [upd] at hj
    split at hj
    · simp; omega
    · have := hs.dom j x hj; simp; omega
  · rcases live j bj hbj with ⟨hlt, hne, hb⟩ | ⟨rfl, rfl⟩
    · obtain ⟨mj, hmj, hokj⟩ := hs.blk j bj hb
      exact ⟨mj, by rw [upd_ne (by omega)]; exact hmj, hokj.ext hx⟩
    · exact ⟨m, upd_same _ _ _, ⟨fun j c hc => let ⟨r, h1, h2⟩ := hok.cells j c hc; ⟨r, h1, h2.ext hx⟩, by simp, fun _ => hok.rw hr⟩⟩
  · rcases live p bp hbp with ⟨hlp, hnp, hbp⟩ | ⟨rfl, rfl⟩ <;> rcases live q bq hbq with ⟨hlq, hnq, hbq⟩ | ⟨rfl, rfl⟩
    · rw [upd_ne (by omega)] at hmp hmq
      exact hs.sep p q bp bq mp mq hpq hbp hbq hrp hq hmp hmq
    · rw [upd_ne (by omega)] at hmp; rw [upd_same] at hmq; cases hmq
      exact hs.sep p i bp b mp m hnp hbp hi hrp (.inr hr) hmp hμ
    · rw [upd_same] at hmp; cases hmp; rw [upd_ne (by omega)] at hmq
      exact hs.sep i q b bq m mq (Ne.symm hnq) hi hbq hr hq hμ hmq
    · exact absurd rfl hpq
  · rcases live j bj hbj with ⟨hlt, hne, hb⟩ | ⟨rfl, rfl⟩
    · rw [upd_ne (by omega)] at hmj
      exact ⟨j, bj, mj, hj, hb, hrj, hmj, rfl⟩
    · rw [upd_same] at hmj; cases hmj
      exact ⟨i, b, m, hlo, hi, hr, hμ, rfl⟩
  · rw [get_snoc, if_pos (by simpa using hl), List.getElem?_set_ne (by omega)]

/-- A block that can't be written and has no cells: an empty slice of no capacity. -/
theorem Sim.empty {μ : Mu} {H : Hp} {w : World} (hs : Sim μ H w) (m : MA) (hk : m.k = 0) (lo : Nat) :
    Sim (upd μ H.length m) (H ++ [some ⟨[], false, true⟩]) w ∧ Stp lo μ H w (upd μ H.length m) (H ++ [some ⟨[], false, true⟩]) w := by
  have hx := hs.ext_upd m
  refine ⟨⟨fun i x hi => ?_, fun i b hb => ?_, fun i j bi bj mi mj hij hbi hbj hr hq hmi hmj => ?_⟩, ⟨hx, rfl, rfl, rfl, Nat.le_refl _, by simp, fun _ _ _ => rfl, fun i bl m' hlo hb hr hm hlt => ?_, fun i _ hi => by rw [get_snoc, if_pos hi]⟩⟩
  · simp only [upd] at hi
    split at hi
    · simp; omega
    · have := hs.dom i x hi; simp; omega
  · rcases snoc_old hb with ⟨hlt, hb⟩ | ⟨rfl, he⟩
    · obtain ⟨m', hm', hok⟩ := hs.blk i b hb
      exact ⟨m', by rw [upd_ne (by omega)]; exact hm', hok.ext hx⟩
    · cases he
      exact ⟨m, upd_same _ _ _, ⟨by simp, fun _ => hk, by simp⟩⟩
  · rcases snoc_old hbi with ⟨hli, hbi⟩ | ⟨rfl, hei⟩
    · rw [upd_ne (by omega)] at hmi
      rcases snoc_old hbj with ⟨hlj, hbj⟩ | ⟨rfl, hej⟩
      · rw [upd_ne (by omega)] at hmj
        exact hs.sep i j bi bj mi mj hij hbi hbj hr hq hmi hmj
      · cases hej; simp at hq
    · cases hei; simp at hr
  · rcases snoc_old hb with ⟨hli, hb⟩ | ⟨rfl, he⟩
    · rw [upd_ne (by omega)] at hm
      exact ⟨i, bl, m', hlo, hb, hr, hm, rfl⟩
    · cases he; simp at hr

theorem blk_some {H : Hp} {i : Nat} {b : Blk} (h : H.blk i = some b) : H[i]? = some (some b) := by
  unfold Hp.blk at h
  cases hx : H[i]? with
  | none => rw [hx] at h; cases h
  | some y => rw [hx] at h; simp at h; rw [h]

/-- A cell that is read. -/
theorem Sim.rd {μ : Mu} {H : Hp} {w : World} (hs : Sim μ H w) {a : Addr} {v : Value} (h : rd H a = some v) {m : MA} (hm : μ a.block = some m) : ∃ r, w.cell? ⟨m.b, m.o + a.off, none⟩ = some r ∧ RC μ v r := by
  unfold V.rd at h
  cases hb : H.blk a.block with
  | none => rw [hb] at h; cases h
  | some b =>
    rw [hb] at h
    obtain ⟨m', hm', hok⟩ := hs.blk _ _ (blk_some hb)
    rw [hm] at hm'; cases hm'
    exact hok.cells _ _ h
theorem addr_add (b o j : Nat) : (⟨b, o, none⟩ : Addr).add j = ⟨b, o + j, none⟩ := by
  unfold Addr.add; split <;> simp_all
theorem exists_list {p : Nat → Value → Prop} : ∀ (n : Nat), (∀ j, j < n → ∃ r, p j r) → ∃ l : List Value, l.length = n ∧ ∀ (j : Nat) r, l[j]? = some r → p j r
  | 0, _ => ⟨[], rfl, by simp⟩
  | n + 1, h => by
    obtain ⟨l, hl, hp⟩ := exists_list n (fun j hj => h j (by omega))
    obtain ⟨r, hr⟩ := h n (by omega)
    refine ⟨l ++ [r], by simp [hl], fun j x hx => ?_⟩
    rcases snoc_old hx with ⟨_, h1⟩ | ⟨rfl, rfl⟩
    · exact hp j x h1
    · rw [hl]; exact hr
theorem Sim.rdN {μ : Mu} {H : Hp} {w : World} (hs : Sim μ H w) {a : Addr} {n : Nat} {vs : List Value} (h : rdN H a n = some vs) {m : MA} (hm : μ a.block = some m) :
    ∃ rs : List Value, rs.length = n ∧ L2 (RC μ) vs rs ∧ ∀ (j : Nat) u, rs[j]? = some u → w.cell? ((⟨m.b, m.o + a.off, none⟩ : Addr).add j) = some u := by
  unfold V.rdN at h
  cases hb : H.blk a.block with
  | none => rw [hb] at h; cases h
  | some b =>
    rw [hb] at h
    simp only [Option.bind_some] at h
    split at h
    · rename_i hle
      cases h
      obtain ⟨m', hm', hok⟩ := hs.blk _ _ (blk_some hb)
      rw [hm] at hm'; cases hm'
      have key : ∀ j, j < n → ∃ r, w.cell? ⟨m.b, m.o + a.off + j, none⟩ = some r ∧ ∃ c, ((b.cs.drop a.off).take n)[j]? = some c ∧ RC μ c r := by
        intro j hj
        have hlt : a.off + j < b.cs.length := by omega
        obtain ⟨r, h1, h2⟩ := hok.cells (a.off + j) b.cs[a.off + j] (List.getElem?_eq_getElem hlt)
        refine ⟨r, by rw [Nat.add_assoc]; exact h1, _, ?_, h2⟩
        rw [List.getElem?_take, if_pos hj, List.getElem?_drop]
        exact List.getElem?_eq_getElem hlt
      obtain ⟨rs, hl, hp⟩ := exists_list n key
      refine ⟨rs, hl, L2.of_get (by simp [hl]; omega) fun i x y hx hy => ?_, fun j u hu => by rw [addr_add]; exact (hp j u hu).1⟩
      obtain ⟨_, c, hc, hrc⟩ := hp i y hy
      rw [hx] at hc; cases hc
      exact hrc
    · cases h
end Go.Proofs.Ytmcljallamhccaa.V
/-! From the program's code to the machine's: each operation without its types. -/
namespace Go.Proofs.Ytmcljallamhccaa.V
open Go
set_option linter.unusedVariables false
set_option linter.unusedSimpArgs false

def okP : Value → Bool
  | .bool _ | .int _ _ | .string _ | .pointer none | .slice none 0 0 => true
  | _ => false
def ok1 : Value → Bool
  | .agg cs => cs.toList.all okP
  | v => okP v
def cA : Operand → Option Arg
  | .tmp t => some (.t t)
  | .const v => if ok1 v then some (.c v) else none
  | .func f => some (.c (.func (.func f) #[] #[]))
  | .global _ => none
def cAs : List Operand → Option (List Arg)
  | [] => some []
  | x :: r => (cA x).bind fun y => (cAs r).bind fun s => some (y :: s)
def aggD : TypeDesc → Bool
  | .struct _ | .array _ _ => true
  | _ => false
def tyL (P : Program) (t : TypeId) : Option (Bool × Nat) := (P.underlying t).bind fun d => (P.info? t).bind fun i => some (aggD d, i.size)
def zeroL (P : Program) (t : TypeId) : Option (List Value) := (P.info? t).bind fun i => i.zero.bind fun z => if ok1 z = true ∧ (vcells z).length = i.size then some (vcells z) else none
def szL (P : Program) (t : TypeId) : Option Nat := (P.info? t).map (·.size)
def slE (P : Program) (t : TypeId) : Option TypeId := match P.underlying t with
  | some (.slice e) => some e
  | _ => none
def stF (P : Program) (t : TypeId) : Option (Array Field) := match P.underlying t with
  | some (.struct fs) => some fs
  | _ => none
def intK (P : Program) (t : TypeId) : Option IntKind := match P.underlying t with
  | some (.int k) => some k
  | _ => none
def isBool (P : Program) (t : TypeId) : Bool := match P.underlying t with
  | some .bool => true
  | _ => false
def cParts (place : Nat → Option (Nat × Nat)) : List (Nat × Operand) → Option (List (Nat × Nat × Arg))
  | [] => some []
  | (i, x) :: r => (place i).bind fun (o, n) => (cA x).bind fun y => (cParts place r).bind fun s => some ((o, n, y) :: s)
def places (P : Program) (fs : List Field) : Option (List (Nat × Nat)) := fs.mapM (fun f => (P.info? f.type).map fun i => (f.offset, i.size))
def cO : Option Operand → Option (Option Arg)
  | none => some none
  | some x => (cA x).map some
def nilSl : Operand → Bool
  | .const (.slice none 0 0) => true
  | _ => false

def compB (P : Program) (b : Builtin) (ts : Array TypeId) (args : List Arg) : Option VOp :=
  match b, ts.toList, args with
  | .len, [t], [x] => (slE P t).map fun _ => .len x
  | .append, [t, t'], [x, y] => if t = t' then (slE P t).bind fun e => (P.info? e).bind fun i => if 0 < i.size ∧ (zeroL P e).isSome = true then some (.append i.size i.bytes x y) else none else none
  | .copy, [t, t'], [x, y] => (slE P t).bind fun e => (slE P t').bind fun e' => (szL P e).bind fun n => some (.copy n x y)
  | .clear, [t], [x] => (slE P t).bind fun e => (szL P e).bind fun n => (zeroL P e).bind fun z => some (.clear n z x)
  | .max, _, [x, y] => some (.mx x y)
  | .min, _, [x, y] => some (.mn x y)
  | _, _, _ => none
def compO (P : Program) : Op → Option VOp
  | .move x => (cA x).map .mv
  | .assign x => (cA x).map .mv
  | .pick c a b => (cA c).bind fun c => (cA a).bind fun a => (cA b).map fun b => .pick c a b
  | .alloc e => (zeroL P e).map .new
  | .box _ x => (cA x).map .box
  | .build t ps => (stF P t).bind fun fs => (zeroL P t).bind fun z => (places P fs.toList).bind fun pl => (cParts (pl.toArray[·]?) ps.toList).map (.build z)
  | .buildSlice t len ps => (slE P t).bind fun e => (szL P e).bind fun n => (zeroL P e).bind fun z => if len * n ≤ 2 ^ 24 ∧ 0 < n then
      (cParts (fun i => some (i * n, n)) ps.toList).map (.bslice n (if len * n = 0 then [] else (List.replicate len z).flatten) len) else none
  | .load t a => (tyL P t).bind fun (g, n) => (cA a).map (.load g n)
  | .store t a x => (szL P t).bind fun n => (cA a).bind fun a => (cA x).map (.store n a)
  | .nilCheck x => (cA x).map .nilck
  | .binOp op t x y _ => match op with
    | .eql => if isBool P t then (cA x).bind fun x => (cA y).map (.beq false x) else if (slE P t).isSome = true then (if nilSl y then (cA x).map (.snil false) else none) else (cA x).bind fun x => (cA y).map (.bin .eql x)
    | .neq => if isBool P t then (cA x).bind fun x => (cA y).map (.beq true x) else if (slE P t).isSome = true then (if nilSl y then (cA x).map (.snil true) else none) else (cA x).bind fun x => (cA y).map (.bin .neq x)
    | op => (cA x).bind fun x => (cA y).map (.bin op x)
  | .unOp .not _ x => (cA x).map .not
  | .convert s d x => if (P.underlying s).isSome = true then (intK P d).bind fun k => (cA x).map (.conv k) else none
  | .makeFunc (.func f) first cap => if first.size = 0 then (cAs cap.toList).map (.mkfn f) else none
  | .makeSlice t l c => (slE P t).bind fun e => (P.info? e).bind fun i => (zeroL P e).bind fun z => (cA l).bind fun l => (cA c).map (.mkslice i.size i.bytes z l)
  | .slice t x lo hi mx => (slE P t).bind fun e => (szL P e).bind fun n => if n = 0 then none else (cA x).bind fun x => (cO lo).bind fun lo => (cO hi).bind fun hi => (cO mx).map (.slice n x lo hi)
  | .fieldAddr s x f => (stF P s).bind fun fs => (fs[f]?).bind fun fl => (szL P fl.type).bind fun n => if n = 0 then none else (cA x).map (.faddr fl.offset)
  | .field s x f => (stF P s).bind fun fs => (fs[f]?).bind fun fl => (tyL P fl.type).bind fun (g, n) => (cA x).map (.field g fl.offset n)
  | .indexAddr t x i => (slE P t).bind fun e => (szL P e).bind fun n => (cA x).bind fun x => (cA i).map (.iaddr n x)
  | .extract x i => (cA x).map (.ext i)
  | .call c => (cAs c.args.toList).bind fun args => match c.callee with
    | .builtin b => compB P b c.argTypes args
    | .value (.func f) => some (.call f args)
    | .value (.tmp t) => some (.callv (.t t) args)
    | _ => none
  | _ => none

theorem RP.const {μ : Mu} {v : Value} (h : okP v = true) : RP μ v v := by
  cases v <;> simp only [okP, Bool.false_eq_true] at h
  case pointer a => cases a <;> simp at h; rfl
  case slice a n c =>
    cases a
    · cases n <;> cases c <;> simp [okP] at h
      exact ⟨rfl, rfl⟩
    · simp [okP] at h
  all_goals rfl
theorem RC.const {μ : Mu} {v : Value} (h : okP v = true) : RC μ v v := by
  rw [RC_eq (by intro f a b e; subst e; simp [okP] at h)]
  exact RP.const h
theorem L2.refl {R : Value → Value → Prop} : ∀ {l : List Value}, (∀ v ∈ l, R v v) → L2 R l l
  | [], _ => .nil
  | a :: l, h => .cons (h a (by simp)) (L2.refl fun v hv => h v (by simp [hv]))
theorem R1.const {μ : Mu} {v : Value} (h : ok1 v = true) : R1 μ v v := by
  by_cases ha : ∃ cs, v = .agg cs
  · obtain ⟨cs, rfl⟩ := ha
    exact ⟨cs, rfl, L2.refl fun x hx => RC.const (List.all_eq_true.1 h x hx)⟩
  · rw [R1_eq (fun cs e => ha ⟨cs, e⟩)]
    exact RC.const (by cases v <;> first | exact h | exact absurd ⟨_, rfl⟩ ha)
theorem R2.const {μ : Mu} {v : Value} (h : ok1 v = true) : R2 μ v v := R2.of_R1 (R1.const h)
theorem R2.undef {μ : Mu} : R2 μ (.tuple #[]) Go.undef := ⟨#[], rfl, .nil⟩

/-- The temporaries. -/
def TR (μ : Mu) (ts : Ts) (a : Act) : Prop := ∀ t v, lk ts t = some v → ∃ r, a.tmps[t]? = some r ∧ R2 μ v r
theorem TR.ext {μ μ' : Mu} (h : Ext μ μ') {ts a} (ht : TR μ ts a) : TR μ' ts a := fun t v hv => let ⟨r, h1, h2⟩ := ht t v hv; ⟨r, h1, h2.ext h⟩
theorem TR.put {μ : Mu} {ts : Ts} {a : Act} {v r : Value} (ht : TR μ ts a) (hr : R2 μ v r) {d : Option Nat} (hd : ∀ t, d = some t → t < a.tmps.size) : TR μ (put ts d v) (a.put d r) := by
  intro t u hu
  cases d with
  | none => exact ht t u hu
  | some d =>
    simp only [V.put, lk] at hu
    split at hu
    · rename_i e; subst e; cases hu
      exact ⟨r, by simp [Act.put, hd d rfl], hr⟩
    · rename_i e
      obtain ⟨x, h1, h2⟩ := ht t u hu
      exact ⟨x, by simp only [Act.put]; rw [Array.getElem?_setIfInBounds_ne e]; exact h1, h2⟩
theorem size_put (a : Act) (d : Option Nat) (v : Value) : (a.put d v).tmps.size = a.tmps.size := by
  cases d <;> simp [Act.put]
theorem R2.func {μ : Mu} (f : Nat) : R2 μ (.func (.func f) #[] #[]) (.func (.func f) #[] #[]) :=
  ⟨rfl, #[], rfl, .nil⟩
theorem ev_ok {μ : Mu} {ts : Ts} {a : Act} (ht : TR μ ts a) {x : Operand} {y : Arg} (hc : cA x = some y) {v : Value} (hv : ev ts y = some v) : R2 μ v (a.eval x) := by
  cases x with
  | tmp t =>
    simp only [cA, Option.some.injEq] at hc; subst hc
    obtain ⟨r, h1, h2⟩ := ht t v hv
    simpa [Act.eval, h1] using h2
  | const c =>
    simp only [cA] at hc
    split at hc
    · cases hc; simp only [ev, Option.some.injEq] at hv; subst hv
      exact R2.const ‹_›
    · cases hc
  | func f =>
    simp only [cA, Option.some.injEq] at hc; subst hc
    simp only [ev, Option.some.injEq] at hv; subst hv
    exact R2.func f
  | global g => simp [cA] at hc
theorem evs_ok {μ : Mu} {ts : Ts} {a : Act} (ht : TR μ ts a) : ∀ {xs : List Operand} {ys : List Arg}, cAs xs = some ys → ∀ {vs : List Value}, evs ts ys = some vs → L2 (R2 μ) vs (xs.map a.eval)
  | [], ys, hc, vs, hv => by
    simp only [cAs, Option.some.injEq] at hc; subst hc
    simp only [evs, Option.some.injEq] at hv; subst hv
    exact .nil
  | x :: xs, ys, hc, vs, hv => by
    simp only [cAs, Option.bind_eq_some_iff, Option.some.injEq] at hc
    obtain ⟨y, hy, s, hs, rfl⟩ := hc
    simp only [evs, Option.bind_eq_some_iff, Option.some.injEq] at hv
    obtain ⟨v, hv, us, hus, rfl⟩ := hv
    exact .cons (ev_ok ht hy hv) (evs_ok ht hs hus)
end Go.Proofs.Ytmcljallamhccaa.V
/-! Each operation: what the machine computes, the program's operation computes. -/
namespace Go.Proofs.Ytmcljallamhccaa.V
open Go
set_option linter.unusedVariables false
set_option linter.unusedSimpArgs false

section
variable {P : Program}
theorem wp_val {o : Oper} {a : Act} {w w' : World} {r : Value} {K : Act → World → Prop} {Q : Exit → Act → World → Prop} (h : (execOp a.eval o).run P w = .ok (.value r) w') (hk : K (a.put o.dst r) w') : o.wp P a w K Q := by
  unfold Oper.wp; rw [h]; exact hk
theorem wp_skp {o : Oper} {a : Act} {w w' : World} {K : Act → World → Prop} {Q : Exit → Act → World → Prop} (h : (execOp a.eval o).run P w = .ok .skip w') (hk : K (a.put o.dst Go.undef) w') : o.wp P a w K Q := by
  unfold Oper.wp; rw [h]; exact hk

theorem run_isAgg {t : TypeId} {d : TypeDesc} (h : P.underlying t = some d) (w : World) : (isAgg t).run P w = .ok (aggD d) w := by
  unfold isAgg
  rw [Sem.run_bind, run_underlying h w]
  cases d <;> simp [aggD]
theorem run_sizeOf {t : TypeId} {i : TypeInfo} (h : P.info? t = some i) (w : World) : (sizeOf t).run P w = .ok i.size w := by simp [sizeOf, typeInfo, h]
theorem tyL_some {t : TypeId} {g : Bool} {n : Nat} (h : tyL P t = some (g, n)) : ∃ d i, P.underlying t = some d ∧ P.info? t = some i ∧ g = aggD d ∧ n = i.size := by
  simp only [tyL, Option.bind_eq_some_iff, Option.some.injEq, Prod.mk.injEq] at h
  obtain ⟨d, hd, i, hi, rfl, rfl⟩ := h
  exact ⟨d, i, hd, hi, rfl, rfl⟩
theorem slE_some {t e : TypeId} (h : slE P t = some e) : P.underlying t = some (.slice e) := by
  unfold slE at h; split at h
  · cases h; assumption
  · cases h
theorem stF_some {t : TypeId} {fs : Array Field} (h : stF P t = some fs) : P.underlying t = some (.struct fs) := by
  unfold stF at h; split at h
  · cases h; assumption
  · cases h
theorem intK_some {t : TypeId} {k : IntKind} (h : intK P t = some k) : P.underlying t = some (.int k) := by
  unfold intK at h; split at h
  · cases h; assumption
  · cases h
theorem zeroL_some {t : TypeId} {z : List Value} (h : zeroL P t = some z) : ∃ i v, P.info? t = some i ∧ i.zero = some v ∧ ok1 v = true ∧ vcells v = z ∧ z.length = i.size := by
  simp only [zeroL, Option.bind_eq_some_iff] at h
  obtain ⟨i, hi, v, hv, h⟩ := h
  split at h
  · rename_i hc; cases h; exact ⟨i, v, hi, hv, hc.1, rfl, hc.2⟩
  · cases h
theorem szL_some {t : TypeId} {n : Nat} (h : szL P t = some n) : ∃ i, P.info? t = some i ∧ i.size = n := by
  simpa [szL] using h
theorem ok1_cells {v : Value} (h : ok1 v = true) : v.cells.toList = vcells v ∧ ∀ x ∈ vcells v, okP x = true := by
  by_cases ha : ∃ cs, v = .agg cs
  · obtain ⟨cs, rfl⟩ := ha
    exact ⟨rfl, fun x hx => List.all_eq_true.1 h x hx⟩
  · cases v <;> first | exact absurd ⟨_, rfl⟩ ha | (refine ⟨rfl, fun x hx => ?_⟩; simp only [vcells, List.mem_singleton] at hx; subst hx; exact h)

theorem load_ok {μ : Mu} {H : Hp} {w : World} (hs : Sim μ H w) {t : TypeId} {g : Bool} {n : Nat} (ht : tyL P t = some (g, n)) {a : Addr} {rp v : Value} (hp : R2 μ (.pointer (some a)) rp)
    (hv : (if g then (V.rdN H a n).bind fun cs => some (Value.agg cs.toArray) else V.rd H a) = some v) : ∃ r, (Instr.loadAt t rp).run P w = .ok r w ∧ R2 μ v r := by
  obtain ⟨d, i, hd, hi, rfl, rfl⟩ := tyL_some ht
  obtain ⟨h0, m, hm, rfl⟩ := hp
  cases hg : aggD d with
  | true =>
    simp only [hg, if_true, Option.bind_eq_some_iff, Option.some.injEq] at hv
    obtain ⟨cs, hcs, rfl⟩ := hv
    obtain ⟨rs, hl, h2, hr⟩ := hs.rdN hcs hm
    have hload := run_loadCells_list (P := P) w ⟨m.b, m.o + a.off, none⟩ rs hr
    rw [hl] at hload
    refine ⟨.agg rs.toArray, ?_, R2.of_R1 ⟨rs.toArray, rfl, by simpa using h2⟩⟩
    simp [Instr.loadAt, Instr.sureAddr, loadVar, run_isAgg hd, hg, run_sizeOf hi, hload]
  | false =>
    simp only [hg, Bool.false_eq_true, if_false] at hv
    obtain ⟨r, hr, hrc⟩ := hs.rd hv hm
    refine ⟨r, ?_, R2.of_RC hrc⟩
    simp [Instr.loadAt, Instr.sureAddr, loadVar, run_isAgg hd, hg, hr]

theorem setAll_length : ∀ (vs : List Value) (cs : List Value) (o : Nat), (setAll cs o vs).length = cs.length
  | [], _, _ => rfl
  | v :: vs, cs, o => by rw [setAll, setAll_length vs]; simp
theorem setAll_eq : ∀ (vs : List Value) (cs : List Value) (o : Nat), o + vs.length ≤ cs.length → setAll cs o vs = cs.take o ++ vs ++ cs.drop (o + vs.length)
  | [], cs, o, _ => by simp [setAll]
  | v :: vs, cs, o, h => by
    simp only [List.length_cons] at h
    rw [setAll, setAll_eq vs _ _ (by simp; omega)]
    have e := list_seg_step cs o v vs (by omega)
    simpa [Nat.add_assoc, Nat.add_comm 1] using e

theorem setAll_take : ∀ (vs l : List Value) (n o : Nat), (setAll l o vs).take n = setAll (l.take n) o vs
  | [], _, _, _ => rfl
  | v :: vs, l, n, o => by rw [setAll, setAll, setAll_take vs, List.take_set]
theorem L2.setAll {R : Value → Value → Prop} : ∀ {vs rs : List Value}, L2 R vs rs → ∀ {l m : List Value}, L2 R l m → ∀ o, L2 R (V.setAll l o vs) (V.setAll m o rs)
  | _, _, .nil, _, _, h, o => h
  | _, _, .cons x y, _, _, h, o => y.setAll (h.set o x) (o + 1)

theorem storeCells_ok {μ : Mu} {H H' : Hp} {w : World} (hs : Sim μ H w) {a : Addr} {m : MA} (hm : μ a.block = some m) {vs rs : List Value} (hcells : L2 (RC μ) vs rs) {lo : Nat}
    (hw : wrN lo H a vs = some H') : ∃ w', (storeCells ⟨m.b, m.o + a.off, none⟩ rs).run P w = .ok () w' ∧ Sim μ H' w' ∧ Stp lo μ H w μ H' w' := by
  unfold wrN at hw
  cases hb : H.blk a.block with
  | none => rw [hb] at hw; cases hw
  | some b =>
    rw [hb] at hw
    simp only [Option.bind_some] at hw
    split at hw
    · rename_i hc
      obtain ⟨h1, h2, h3⟩ := hc
      cases hw
      have hb' := blk_some hb
      obtain ⟨m', hm', hok⟩ := hs.blk _ _ hb'
      rw [hm] at hm'; cases hm'
      obtain ⟨C, e, hg, ho, hsz, hml⟩ := hok.rw h2
      have hlen := hcells.len
      have hcl : ∀ (j : Nat) c, b.cs[j]? = some c → ∃ r, C[j]? = some r ∧ RC μ c r := fun j c hc => by
        obtain ⟨r, hr1, hr2⟩ := hok.cells j c hc
        rw [ho, Nat.zero_add, cell_of_row w m.b j C e (0, 0) hg] at hr1
        exact ⟨r, hr1, hr2⟩
      have hle : b.cs.length ≤ C.size := by
        rcases Nat.eq_zero_or_pos b.cs.length with h | h
        · omega
        · obtain ⟨r, hr1, _⟩ := hcl (b.cs.length - 1) _ (List.getElem?_eq_getElem (by omega))
          have := (Array.getElem?_eq_some_iff.1 hr1).1
          omega
      have hst := run_storeCells_at P m.b (a.off) e rs 0 C w hg (by rw [← hlen]; omega) (hcells.all (p := fun v => v.oneCell' = true) fun _ _ h => (RC.one h).1)
      simp only [Nat.add_zero] at hst
      have hC' : (C.toList.take a.off ++ rs ++ C.toList.drop (a.off + rs.length)) = V.setAll C.toList a.off rs := (setAll_eq _ _ _ (by simp at hlen ⊢; omega)).symm
      rw [hC'] at hst
      have hres := hs.setRow hb' h2 hm hg (cs' := V.setAll b.cs a.off vs) (C' := (V.setAll C.toList a.off rs).toArray) (by simp [setAll_length]) (fun j c hc => by
        -- both rows are set alike
        have h2 : L2 (RC μ) (V.setAll b.cs a.off vs) (V.setAll (C.toList.take b.cs.length) a.off rs) :=
          hcells.setAll (L2.of_get (by simp; omega) fun i x y hx hy => by
            obtain ⟨r, hr1, hr2⟩ := hcl i x hx
            rw [List.getElem?_take] at hy
            split at hy
            · rw [Array.getElem?_toList] at hy
              rw [hr1] at hy; cases hy; exact hr2
            · cases hy) a.off
        obtain ⟨y, hy, hyr⟩ := h2.get hc
        refine ⟨y, ?_, hyr⟩
        have hj : j < b.cs.length := by
          have := (List.getElem?_eq_some_iff.1 hc).1
          rwa [setAll_length] at this
        rw [List.getElem?_toArray]
        rw [← setAll_take, List.getElem?_take, if_pos hj] at hy
        exact hy) h1
      refine ⟨_, ?_, hres⟩
      have e0 : m.o + a.off = a.off := by omega
      rw [e0]
      exact hst
    · cases hw
theorem storeVar_ok {μ : Mu} {H H' : Hp} {w : World} (hs : Sim μ H w) {t : TypeId} {n : Nat} (ht : szL P t = some n) {a : Addr} {m : MA} (hm : μ a.block = some m) {v rv : Value} (hr : R1 μ v rv) {lo : Nat}
    (hn : (vcells v).length = n) (hw : wrN lo H a (vcells v) = some H') : ∃ w', (storeVar t ⟨m.b, m.o + a.off, none⟩ rv).run P w = .ok () w' ∧ Sim μ H' w' ∧ Stp lo μ H w μ H' w' := by
  obtain ⟨i, hi, rfl⟩ := szL_some ht
  obtain ⟨w', hst, hres⟩ := storeCells_ok (P := P) hs hm hr.cells hw
  refine ⟨w', ?_, hres⟩
  have hsz' : rv.cells.size = i.size := by rw [← hn]; simpa using hr.cells.len.symm
  simp [storeVar, run_sizeOf hi, hsz', hst]

theorem ntup_ok {v : Value} (h : ntup v = true) : ∀ cs, v ≠ .tuple cs := by
  intro cs e; subst e; simp [ntup] at h
theorem foldl_zip (o : Nat) : ∀ (l : List Value) (k : Nat) (cells : Array Value), ((l.zipIdx k).foldl (fun cs (x : Value × Nat) => cs.setIfInBounds (o + x.2) x.1) cells).toList = V.setAll cells.toList (o + k) l
  | [], _, _ => rfl
  | v :: l, k, cells => by
    simp only [List.zipIdx_cons, List.foldl_cons]
    rw [foldl_zip o l (k + 1)]
    simp [V.setAll, Nat.add_assoc]
theorem vfill_ok {μ : Mu} {ts : Ts} {a : Act} (ht : TR μ ts a) (place : Nat → Option (Nat × Nat)) : ∀ (ps : List (Nat × Operand)) (cps : List (Nat × Nat × Arg)), cParts place ps = some cps → ∀ {cells cs : List Value} {rcells : Array Value},
    L2 (RC μ) cells rcells.toList → vfill cells ts cps = some cs → ∃ rcs, Instr.fill place rcells (ps.map fun (i, x) => (i, a.eval x)) = some rcs ∧ L2 (RC μ) cs rcs.toList
  | [], cps, hc, cells, cs, rcells, hl, hv => by
    simp only [cParts, Option.some.injEq] at hc; subst hc
    simp only [vfill, Option.some.injEq] at hv; subst hv
    exact ⟨rcells, rfl, hl⟩
  | (i, x) :: ps, cps, hc, cells, cs, rcells, hl, hv => by
    simp only [cParts, Option.bind_eq_some_iff] at hc
    obtain ⟨⟨o, n⟩, hpl, hc⟩ := hc
    simp only [Option.bind_eq_some_iff, Option.some.injEq] at hc
    obtain ⟨y, hy, s, hs, rfl⟩ := hc
    simp only [vfill, Option.bind_eq_some_iff] at hv
    obtain ⟨v, hv, hv2⟩ := hv
    split at hv2
    · rename_i hcond
      obtain ⟨hn, hlen, hle⟩ := hcond
      have hr := (ev_ok ht hy hv).to_R1 (ntup_ok hn)
      have hcells := hr.cells
      have hsz : (a.eval x).cells.size = n := by rw [← hlen]; simpa using hcells.len.symm
      have hlr := hl.len
      simp only [List.map_cons, Instr.fill, hpl, hsz]
      rw [if_neg (by simp at hlr; simp [← hlr]; omega)]
      refine vfill_ok ht place ps s hs (cells := V.setAll cells o (vcells v)) ?_ hv2
      rw [← Array.foldl_toList, Array.toList_zipIdx]
      have := foldl_zip o (a.eval x).cells.toList 0 rcells
      rw [this]
      exact hcells.setAll hl o
    · cases hv2

theorem mod_flat (z : List Value) : ∀ (n i : Nat), i < n * z.length → (List.replicate n z).flatten[i]? = z[i % z.length]?
  | 0, i, h => by simp at h
  | n + 1, i, h => by
    rw [List.replicate_succ, List.flatten_cons, List.getElem?_append]
    split
    · rename_i hlt; rw [Nat.mod_eq_of_lt hlt]
    · rename_i hlt
      rw [Nat.succ_mul] at h
      rw [mod_flat z n _ (by omega), ← Nat.mod_eq_sub_mod (by omega)]
theorem flat_length (z : List Value) (n : Nat) : (List.replicate n z).flatten.length = n * z.length := by simp
theorem range_map (z : Array Value) (n : Nat) : ((Array.range (n * z.size)).map (z[· % z.size]!)).toList = (List.replicate n z.toList).flatten := by
  apply List.ext_getElem?
  intro i
  by_cases h : i < n * z.size
  · rw [mod_flat _ _ _ (by simpa using h)]
    have hz : 0 < z.size := by rcases Nat.eq_zero_or_pos z.size with h0 | h0; · rw [h0] at h; simp at h
                               · exact h0
    have hm : i % z.size < z.size := Nat.mod_lt _ hz
    simp [h, hm]
  · rw [List.getElem?_eq_none (by simpa using h), List.getElem?_eq_none (by simp; omega)]
end
end Go.Proofs.Ytmcljallamhccaa.V
/-! append: what the machine makes, the program's append makes: a new block, or the old one with more in it. -/
namespace Go.Proofs.Ytmcljallamhccaa.V
open Go
set_option linter.unusedVariables false
set_option linter.unusedSimpArgs false
section
variable {P : Program}
theorem run_append_zero (w : World) (t ty e : TypeId) (i : TypeInfo) (ht : P.underlying t = some (.slice e)) (hi : P.info? e = some i) (base : Option Addr) (n c : Nat) (hnc : n ≤ c) (y : Option Addr) (cy : Nat) :
    (Builtin.append_ #[t, t] ty #[.slice base n c, .slice y 0 cy]).run P w = .ok (.slice base n c) w := by
  cases base <;> cases y <;> simp [Builtin.append_, run_underlying ht, sizeOf, typeInfo, hi, Builtin.lenOf, hnc, Builtin.firstCells, storeCells, loadCells, loadCellsFrom]
theorem run_append_room' (w : World) (t ty e e0 : TypeId) (i : TypeInfo) (ht : P.underlying t = some (.slice e)) (hi : P.info? e = some i)
    (g sLen sCap : Nat) (cur : Array Value) (hg : w.heap[g]? = some (.cells cur e0 (0, 0)))
    (a : Addr) (m c : Nat) (news : List Value) (hl : news.length = m * i.size) (hnews : ∀ (j : Nat) u, news[j]? = some u → w.cell? (a.add j) = some u) (h1 : ∀ u ∈ news, u.oneCell' = true)
    (hroom : sLen + m ≤ sCap) (hfit : sLen * i.size + news.length ≤ cur.size) :
    (Builtin.append_ #[t, t] ty #[.slice (some ⟨g, 0, none⟩) sLen sCap, .slice (some a) m c]).run P w =
      .ok (.slice (some ⟨g, 0, none⟩) (sLen + m) sCap) (w.setRow g (cur.toList.take (sLen * i.size) ++ news ++ cur.toList.drop (sLen * i.size + news.length)).toArray) := by
  have hf := run_firstCells_some (P := P) w i.size m a m c news hl hnews
  have hst := run_storeCells_at P g (sLen * i.size) e0 news 0 cur w hg (by simpa using hfit) h1
  simp only [Nat.add_zero] at hst
  simp [Builtin.append_, run_underlying ht, sizeOf, typeInfo, hi, Builtin.lenOf, hroom, hf, Addr.add_lit, hst]
theorem le_max {n : Nat} (h : n ≤ maxLen) : (n : Int) ≤ 9223372036854775807 := by simp only [maxLen] at h; omega
theorem fits_ok {n by_ : Nat} (h : fits n by_ = true) : n ≤ maxLen ∧ (n + n / 4 + 192) * by_ ≤ 281474976710656 := by
  simpa [fits] using h
theorem grown_size {z : Array Value} {st n k : Nat} (hz : z.size = st) (hk : n ≤ k) : n * st + (Builtin.zeroCells z (k - n)).size = k * st := by
  rw [size_zeroCells, hz, ← Nat.add_mul]; congr 1; omega

theorem append_ok {μ : Mu} {H : Hp} {w : World} (hs : Sim μ H w) {t ty e : TypeId} {i : TypeInfo} {z : Value} (ht : P.underlying t = some (.slice e)) (hi : P.info? e = some i) (hz : i.zero = some z) (hzs : z.cells.size = i.size)
    {x y rx ry v : Value} {H' : Hp} {lo : Nat} (hx : R2 μ x rx) (hy : R2 μ y ry) (hv : vappend i.size i.bytes lo H x y = some (v, H')) :
    ∃ r w' μ', (Builtin.append_ #[t, t] ty #[rx, ry]).run P w = .ok r w' ∧ R2 μ' v r ∧ Sim μ' H' w' ∧ Stp lo μ H w μ' H' w' := by
  unfold vappend at hv
  simp only [Option.bind_eq_some_iff] at hv
  obtain ⟨m, hm, new, hnew, hv⟩ := hv
  -- the source
  obtain ⟨ay, cy, rfl, hsrc⟩ : ∃ (ay : Option Addr) (cy : Nat), ry = .slice ay m cy ∧ (0 < m → ∃ b, ay = some b ∧ ∃ rs : List Value, rs.length = m * i.size ∧ L2 (RC μ) new rs ∧ ∀ (j : Nat) u, rs[j]? = some u → w.cell? (b.add j) = some u) := by
    cases y <;> simp only [slen] at hm <;> try (cases hm; done)
    rename_i ya yn yc
    cases hm
    cases ya with
    | none =>
      obtain ⟨rfl, rfl⟩ := hy
      exact ⟨none, 0, rfl, fun h => absurd h (by omega)⟩
    | some b =>
      obtain ⟨_, mm, hmm, hst, a', c, rfl, _, _, _, h2⟩ := hy
      refine ⟨some a', c, rfl, fun h => ⟨a', rfl, ?_⟩⟩
      simp only [scells] at hnew
      split at hnew
      · obtain ⟨rs, hl, hrel, hr⟩ := hs.rdN hnew hmm
        exact ⟨rs, hl, hrel, by rw [h2 h]; exact hr⟩
      · cases hnew
  have key : ∀ (H1 : Hp) (rs : List Value) (n : Nat) (olds vs : List Value) (cap0 : Nat), Sim μ H1 w → H1.length = H.length → Stp lo μ H w μ H1 w → olds.length = n * i.size → rs.length = m * i.size → L2 (RC μ) vs (olds ++ rs) → n + m ≤ maxLen →
      ∃ μ', R2 μ' (.slice (some ⟨H.length, 0, none⟩) (n + m) i.size) (.slice (some ⟨w.heap.size, 0, none⟩) (n + m) (grownCap w (n + m) cap0 e)) ∧
        Sim μ' (H1 ++ [some ⟨vs, true, false⟩]) (w.drew.alloc (.cells (olds.toArray ++ rs.toArray ++ Builtin.zeroCells z.cells (grownCap w (n + m) cap0 e - (n + m))) e)) ∧
        Stp lo μ H w μ' (H1 ++ [some ⟨vs, true, false⟩]) (w.drew.alloc (.cells (olds.toArray ++ rs.toArray ++ Builtin.zeroCells z.cells (grownCap w (n + m) cap0 e - (n + m))) e)) := by
    intro H1 rs n olds vs cap0 hs1 hlen hstp hlo hlr hrel hmax
    have hge := grownCap_ge w (n + m) cap0 e
    have hal := (Sim.drew (w := w) (w' := w.drew) rfl hs1).alloc (vs := vs) (C := olds.toArray ++ rs.toArray ++ Builtin.zeroCells z.cells (grownCap w (n + m) cap0 e - (n + m))) (e := e) (k := grownCap w (n + m) cap0 e) (s := i.size) (k0 := false)
      (fun j c hc => by
        obtain ⟨r, hr, hrc⟩ := hrel.get hc
        have hj := (List.getElem?_eq_some_iff.1 hr).1
        refine ⟨r, ?_, hrc⟩
        rw [← Array.getElem?_toList]
        simp only [Array.toList_append]
        rw [List.getElem?_append_left (by simpa using hj)]
        exact hr) (by simp)
      (by
        simp only [Array.size_append, List.size_toArray, hlo, hlr, ← Nat.add_mul]
        exact grown_size hzs hge) (grownCap_le_maxLen w (n + m) cap0 e hmax) lo
    refine ⟨_, ?_, hal.1, hstp.trans ((Stp.drew (w := w) (w' := w.drew) rfl rfl rfl rfl).trans hal.2)⟩
    exact R2.of_RC ⟨rfl, _, by rw [← hlen]; exact upd_same _ _ _, rfl, _, _, rfl, fun _ => rfl, hge, fun _ => ⟨rfl, rfl⟩, fun _ => rfl⟩
  cases x <;> try (cases hv; done)
  rename_i xa xn xc
  cases xa with
  | none =>
    obtain ⟨rfl, rfl⟩ := hx
    simp only [if_true] at hv
    split at hv
    · rename_i hm0; subst hm0
      cases hv
      exact ⟨_, w, μ, run_append_zero w t ty e i ht hi none 0 0 (Nat.le_refl _) ay cy, R2.of_RC ⟨rfl, rfl⟩, hs, Stp.refl _ _ _ _⟩
    · rename_i hm0
      split at hv
      · rename_i hf
        cases hv
        obtain ⟨hf1, hf2⟩ := fits_ok hf
        obtain ⟨b, rfl, rs, hlr, hrel, hr⟩ := hsrc (by omega)
        have hrun := run_append_nil (P := P) w t ty e i z ht hi hz b m cy rs hlr hr (by omega) (by simp only [maxLen] at hf1; omega) (Nat.le_trans (Nat.mul_le_mul_right _ (by omega)) hf2)
        obtain ⟨μ', h1, h2, h3⟩ := key H rs 0 [] new 0 hs rfl (Stp.refl _ _ _ _) (by simp) hlr (by simpa using hrel) (by omega)
        simp only [Nat.zero_add, Array.empty_append, List.nil_append] at h1 h2 h3
        exact ⟨_, _, μ', hrun, h1, h2, h3⟩
      · cases hv
  | some a =>
    obtain ⟨hsp, mm, hmm, hst, a', c, rfl, hsp', hnc, h0, hpos⟩ := hx
    simp only [Option.bind_eq_some_iff] at hv
    obtain ⟨b, hb, hv⟩ := hv
    split at hv
    · rename_i hcond
      obtain ⟨rfl, hoff, _, hbl, hk, hf⟩ := hcond
      obtain ⟨rfl, rfl⟩ := h0 hoff
      obtain ⟨hf1, hf2⟩ := fits_ok hf
      have hb' := blk_some hb
      obtain ⟨mm', hmm', hok⟩ := hs.blk _ _ hb'
      rw [hmm] at hmm'; cases hmm'
      split at hv
      · rename_i hm0; subst hm0
        cases hv
        exact ⟨_, w, μ, run_append_zero w t ty e i ht hi _ _ _ hnc ay cy, R2.of_RC ⟨hsp, mm, hmm, hst, _, _, rfl, fun _ => rfl, hnc, h0, hpos⟩, hs, Stp.refl _ _ _ _⟩
      · rename_i hm0
        obtain ⟨b2, rfl, rs, hlr, hrel, hr⟩ := hsrc (by omega)
        split at hv
        · rename_i hn0; subst hn0
          cases hv
          rw [Blk.app, if_pos rfl] at hk
          have hk0 := hok.k0 hk
          have g1 : mm.k < 0 + m := by rw [hk0, Nat.zero_add]; exact Nat.pos_of_ne_zero hm0
          have g2 : ((0 + m : Nat) : Int) ≤ 9223372036854775807 := le_max hf1
          have hrun := run_append_grow (P := P) w t ty e i z ht hi hz ⟨mm.b, mm.o, none⟩ 0 mm.k [] (by simp) (by simp) b2 m cy rs hlr hr g1 g2 (growslice_fits_wide g1 hf2)
          obtain ⟨μ', h1, h2, h3⟩ := key H rs 0 [] new mm.k hs rfl (Stp.refl _ _ _ _) (by simp) hlr (by simpa using hrel) hf1
          simp only [Nat.zero_add] at h1 hrun h2 h3
          exact ⟨_, _, μ', hrun, h1, h2, h3⟩
        · rename_i hn0
          rw [Blk.app, if_neg hn0] at hk
          split at hv
          · rename_i hlo
            cases hv
            obtain ⟨C, e0, hg, ho, hsz, hml⟩ := hok.rw hk
            rw [ho]
            have hcl : ∀ (j : Nat) c, b.cs[j]? = some c → ∃ r, C[j]? = some r ∧ RC μ c r := fun j c hc => by
              obtain ⟨r, hr1, hr2⟩ := hok.cells j c hc
              rw [ho, Nat.zero_add, cell_of_row w mm.b j C e0 (0, 0) hg] at hr1
              exact ⟨r, hr1, hr2⟩
            rw [hst] at hsz
            have hle : xn * i.size ≤ C.size := by rw [hsz]; exact Nat.mul_le_mul_right _ hnc
            have hold : L2 (RC μ) b.cs (C.toList.take (xn * i.size)) := L2.of_get (by simp [hbl]; omega) fun j x y hx hy => by
              obtain ⟨r, hr1, hr2⟩ := hcl j x hx
              rw [List.getElem?_take] at hy
              split at hy
              · rw [Array.getElem?_toList, hr1] at hy; cases hy; exact hr2
              · cases hy
            by_cases hroom : xn + m ≤ mm.k
            · have hfit : xn * i.size + rs.length ≤ C.size := by rw [hlr, hsz, ← Nat.add_mul]; exact Nat.mul_le_mul_right _ hroom
              have hrun := run_append_room' (P := P) w t ty e e0 i ht hi mm.b xn mm.k C hg b2 m cy rs hlr hr (hrel.all (p := fun v => v.oneCell' = true) fun _ _ h => (RC.one h).1) hroom hfit
              have h1 := hs.setRow hb' hk hmm hg (cs' := b.cs ++ new) (C' := (C.toList.take (xn * i.size) ++ rs ++ C.toList.drop (xn * i.size + rs.length)).toArray) (by simp; omega) (fun j c hc => by
                obtain ⟨r, hr1, hr2⟩ := (hold.append hrel).get hc
                have hj := (List.getElem?_eq_some_iff.1 hr1).1
                refine ⟨r, ?_, hr2⟩
                rw [List.getElem?_toArray, List.getElem?_append_left hj]
                exact hr1) hlo
              have hin : (H.set a.block (some ⟨b.cs ++ new, true, b.k0⟩))[a.block]? = some (some ⟨b.cs ++ new, true, b.k0⟩) := by
                rw [List.getElem?_set_self (List.getElem?_eq_some_iff.1 hb').1]
              have h2 := h1.1.move hin rfl hmm hlo
              simp only [List.set_set, List.length_set] at h2
              refine ⟨_, _, _, hrun, R2.of_RC ⟨rfl, mm, upd_same _ _ _, hst, _, _, rfl, fun _ => rfl, hroom, fun _ => ⟨by rw [ho], rfl⟩, fun _ => by simp [ho]⟩, h2.1, h1.2.trans h2.2⟩
            · have g1 : mm.k < xn + m := Nat.lt_of_not_le hroom
              have g2 : ((xn + m : Nat) : Int) ≤ 9223372036854775807 := le_max hf1
              have g3 : (C.toList.take (xn * i.size)).length = xn * i.size := by rw [List.length_take, Array.length_toList]; exact Nat.min_eq_left hle
              have hrun := run_append_grow (P := P) w t ty e i z ht hi hz ⟨mm.b, 0, none⟩ xn mm.k (C.toList.take (xn * i.size)) g3 (fun j u hu => by
                rw [addr_add, Nat.zero_add, cell_of_row w mm.b j C e0 (0, 0) hg]
                rw [List.getElem?_take] at hu
                split at hu
                · simpa using hu
                · cases hu) b2 m cy rs hlr hr g1 g2 (growslice_fits_wide g1 hf2)
              have h1 := hs.kill a.block hlo
              obtain ⟨μ', h2, h3, h4⟩ := key (H.set a.block none) rs xn (C.toList.take (xn * i.size)) (b.cs ++ new) mm.k h1.1 (by simp) h1.2 g3 hlr (hold.append hrel) hf1
              exact ⟨_, _, μ', hrun, h2, h3, h4⟩
          · cases hv
    · cases hv
end
end Go.Proofs.Ytmcljallamhccaa.V
/-! All operations: what the machine computes at one, the program comes to. -/
namespace Go.Proofs.Ytmcljallamhccaa.V
open Go
set_option linter.unusedVariables false
set_option linter.unusedSimpArgs false

/-- What a table of calls says is so of the program's calls. -/
def CalOK (P : Program) (call : Cal) : Prop := ∀ (f : Nat) (args : List Value) (lo : Nat) (H : Hp) (v : Value) (H' : Hp), call f args lo H = some (v, H') → lo ≤ H.length → ∀ (μ : Mu) (w : World) (rargs : List Value), L2 (R2 μ) args rargs → Sim μ H w →
  (∃ fn, P.funcs[f]? = some fn ∧ fn.body.isSome = true ∧ (fn.name == "runtime.NumGoroutine") = false) ∧
  Calls P f rargs.toArray w (fun e w' => ∃ r μ', e = .returned r ∧ R2 μ' v r ∧ Sim μ' H' w' ∧ Stp lo μ H w μ' H' w')

section
variable {P : Program}
/-- What is known behind an operation. -/
def Post (lo : Nat) (μ : Mu) (H : Hp) (w : World) (v : Value) (H' : Hp) (a : Act) (d : Option Nat) (K : Act → World → Prop) : Prop :=
  ∀ r w' μ', R2 μ' v r → Sim μ' H' w' → Stp lo μ H w μ' H' w' → K (a.put d r) w'
theorem Post.still {lo : Nat} {μ : Mu} {H : Hp} {w : World} {v : Value} {a : Act} {d : Option Nat} {K : Act → World → Prop} (h : Post lo μ H w v H a d K) (hs : Sim μ H w) {r : Value} (hr : R2 μ v r) : K (a.put d r) w :=
  h r w μ hr hs (Stp.refl _ _ _ _)

theorem bin_ok {op : BinOp} {x y v : Value} {μ : Mu} {rx ry : Value} (hv : vbin op x y = some v) (hx : R2 μ x rx) (hy : R2 μ y ry) (t : TypeId) (ox oy : Operand) (w : World) :
    (do eqGuard op t ox oy rx ry; binOp op t rx ry : Sem Value).run P w = .ok v w ∧ R2 μ v v := by
  cases x <;> try (simp [vbin] at hv; done)
  cases y <;> try (simp [vbin] at hv; done)
  rename_i k a k' b
  obtain rfl : rx = .int k a := hx
  obtain rfl : ry = .int k' b := hy
  simp only [vbin] at hv
  split at hv
  · rename_i hk; subst hk
    cases op <;> simp only at hv <;> try (cases hv; done)
    case quo => split at hv
                · cases hv
                · cases hv; exact ⟨by simp [eqGuard, binOp, Op.intDiv, *], R2.of_RC rfl⟩
    case rem => split at hv
                · cases hv
                · cases hv; exact ⟨by simp [eqGuard, binOp, Op.intDiv, *], R2.of_RC rfl⟩
    case shr => split at hv
                · cases hv
                · rename_i hb
                  cases hv
                  refine ⟨?_, R2.of_RC rfl⟩
                  simp only [eqGuard, binOp, Op.shift, if_neg hb]
                  rfl
    all_goals (cases hv; exact ⟨by simp [eqGuard, binOp, Op.intArith, Op.intCmp], R2.of_RC rfl⟩)
  · cases hv

theorem asI_some {v : Value} {n : Int} (h : asI v = some n) : ∃ k, v = .int k n := by
  cases v <;> simp [asI] at h
  subst h; exact ⟨_, rfl⟩

theorem run_slice_lit (w : World) {t e : TypeId} {i : TypeInfo} (ht : P.underlying t = some (.slice e)) (hi : P.info? e = some i) (a : Option Addr) (n c : Nat) (lo hi' : Option Value) (l h : Nat)
    (hlo : (lo = none ∧ l = 0) ∨ ∃ k, lo = some (.int k (l : Int))) (hhi : (hi' = none ∧ h = n) ∨ ∃ k, hi' = some (.int k (h : Int))) (hlh : l ≤ h) (hhc : h ≤ c) :
    (Instr.sliceAt t (.slice a n c) lo hi' none).run P w = .ok (.slice (if c = l then a else a.map (·.add (l * i.size))) (h - l) (c - l)) w := by
  have hb : ∀ (code : BoundsCode) (k : IntKind) (x y : Nat), x ≤ y → (Instr.sliceBound (.int k (x : Int)) y code).run P w = .ok x w := by
    intro code k x y hxy
    simp [Instr.sliceBound, asIntOf, hxy]
  have hbs : (Instr.sliceBounds true n c lo hi' none).run P w = .ok (l, h, c) w := by
    rcases hlo with ⟨rfl, rfl⟩ | ⟨k, rfl⟩ <;> rcases hhi with ⟨rfl, rfl⟩ | ⟨k', rfl⟩ <;> simp [Instr.sliceBounds, hb _ _ _ _ hlh, hb _ _ _ _ hhc]
  simp only [Instr.sliceAt, Sem.run_bind, run_underlying ht, Result.andThen_ok, Instr.slice, hbs, run_sizeOf hi, Sem.run_pure]

theorem slice_ok {μ : Mu} {t e : TypeId} {n : Nat} (ht : slE P t = some e) (hn : szL P e = some n) (hn0 : 0 < n) {x rx u : Value} (hx : R2 μ x rx) {lo hi : Option Value} (hv : vslice n x lo hi none = some u) (w : World) :
    ∀ {rlo rhi : Option Value}, (∀ v, lo = some v → ∃ r, rlo = some r ∧ R2 μ v r) → (lo = none → rlo = none) → (∀ v, hi = some v → ∃ r, rhi = some r ∧ R2 μ v r) → (hi = none → rhi = none) →
    ∃ r, (Instr.sliceAt t rx rlo rhi none).run P w = .ok r w ∧ R2 μ u r := by
  intro rlo rhi h1 h2 h3 h4
  obtain ⟨i, hi', rfl⟩ := szL_some hn
  cases x <;> simp only [vslice] at hv <;> try (cases hv; done)
  rename_i xa xn xc
  simp only [Option.bind_eq_some_iff] at hv
  obtain ⟨l, hl, h, hh, hv⟩ := hv
  split at hv
  · rename_i hc
    obtain ⟨hst, hl0, hlh, hhn⟩ := hc
    obtain ⟨l, rfl⟩ := Int.eq_ofNat_of_zero_le hl0
    obtain ⟨h, rfl⟩ := Int.eq_ofNat_of_zero_le (Int.le_trans hl0 hlh)
    have hlo' : (rlo = none ∧ l = 0) ∨ ∃ k, rlo = some (.int k (l : Int)) := by
      cases lo with
      | none => simp at hl; exact .inl ⟨h2 rfl, by omega⟩
      | some v =>
        obtain ⟨r, hr, hrr⟩ := h1 v rfl
        obtain ⟨k, rfl⟩ := asI_some hl
        obtain rfl : r = .int k l := hrr
        exact .inr ⟨k, hr⟩
    have hhi' : (rhi = none ∧ h = xn) ∨ ∃ k, rhi = some (.int k (h : Int)) := by
      cases hi with
      | none => simp at hh; exact .inl ⟨h4 rfl, by omega⟩
      | some v =>
        obtain ⟨r, hr, hrr⟩ := h3 v rfl
        obtain ⟨k, rfl⟩ := asI_some hh
        obtain rfl : r = .int k h := hrr
        exact .inr ⟨k, hr⟩
    cases xa with
    | none =>
      simp only [Option.some.injEq] at hv; subst hv
      obtain ⟨rfl, rfl⟩ := hx
      have hrun := run_slice_lit w (slE_some ht) hi' none 0 0 rlo rhi l h hlo' hhi' (by omega) (by omega)
      obtain rfl : l = 0 := by omega
      obtain rfl : h = 0 := by omega
      exact ⟨_, hrun, R2.of_RC ⟨rfl, by simp⟩⟩
    | some a =>
      simp only [Option.some.injEq] at hv; subst hv
      obtain ⟨hsp, m, hm, hms, a', c, rfl, hsp', hnc, h0, hpos⟩ := hx
      have hrun := run_slice_lit w (slE_some ht) hi' (some a') xn c rlo rhi l h hlo' hhi' (by omega) (by omega)
      refine ⟨_, hrun, R2.of_RC ?_⟩
      have e1 : ((h : Int) - (l : Int)).toNat = h - l := by omega
      simp only [Int.toNat_natCast, e1]
      refine ⟨rfl, m, hm, hms.trans hst, if c = l then a' else a'.add (l * i.size), c - l, ?_, ?_, by omega, fun hz => ?_, fun hp => ?_⟩
      · split <;> rfl
      · intro hp0
        have hsp' := hsp' (by omega)
        split
        · exact hsp'
        · unfold Addr.add; split <;> simp [hsp']
      · -- at the head: nothing was cut off
        simp only at hz
        have ha0 : a.off = 0 := by omega
        have hl0' : l * i.size = 0 := by omega
        obtain ⟨rfl, rfl⟩ := h0 ha0
        rcases Nat.mul_eq_zero.1 hl0' with hl | hsz
        · subst hl
          refine ⟨?_, by omega⟩
          split
          · rfl
          · simp [Addr.add]
        · exact absurd hsz (by omega)
      · have hxp : 0 < xn := by omega
        rw [hpos hxp]
        rw [if_neg (by omega), addr_add, Nat.add_assoc]
  · cases hv
end
end Go.Proofs.Ytmcljallamhccaa.V
/-! Every operation that the machine knows: the program's operation comes to the same. -/
namespace Go.Proofs.Ytmcljallamhccaa.V
open Go
set_option linter.unusedVariables false
set_option linter.unusedSimpArgs false
section
variable {P : Program}
theorem R2.int {μ : Mu} {k : IntKind} {n : Int} {r : Value} (h : R2 μ (.int k n) r) : r = .int k n := h
theorem R2.boolv {μ : Mu} {b : Bool} {r : Value} (h : R2 μ (.bool b) r) : r = .bool b := h
theorem R2.mkint {μ : Mu} (k : IntKind) (n : Int) : R2 μ (.int k n) (.int k n) := R2.of_RC (v := .int k n) rfl
theorem R2.mkbool {μ : Mu} (b : Bool) : R2 μ (.bool b) (.bool b) := R2.of_RC (v := .bool b) rfl

theorem bltin_ok {o : Oper} {call : Cal} {lo : Nat} {ts : Ts} {H H' : Hp} {v : Value} {b : Builtin} {c : Call} {args : List Arg} {vo : VOp} (hb : c.callee = .builtin b) (ho : o.op = .call c) (ha : cAs c.args.toList = some args) (hc : compB P b c.argTypes args = some vo) (hv : vop call lo ts H vo = some (v, H'))
    {μ : Mu} {a : Act} {w : World} (ht : TR μ ts a) (hs : Sim μ H w) {K : Act → World → Prop} {Q : Exit → Act → World → Prop} (hK : Post lo μ H w v H' a o.dst K) : o.wp P a w K Q := by
  obtain ⟨callee, cargs, argTypes⟩ := c
  simp only at hb ha hc; subst hb
  have hrun : ∀ {r : Value} {w' : World} {s : Sem Value}, (∀ consts, builtin b argTypes o.type consts (cargs.map a.eval) = (do pure (.value (← s)))) → s.run P w = .ok r w' → K (a.put o.dst r) w' → o.wp P a w K Q := by
    intro r w' s hs' hr hk
    refine wp_val (r := r) (w' := w') ?_ hk
    simp only [execOp, ho, resolve, Sem.run_bind, Sem.run_pure, Result.andThen_ok, invoke, hs', hr]
  have hel := @evs_ok μ ts a ht _ _ ha
  unfold compB at hc
  split at hc
  · -- len
    rename_i t x hts
    simp only [Option.map_eq_some_iff] at hc
    obtain ⟨e, he, rfl⟩ := hc
    simp only [vop, Option.bind_eq_some_iff, Option.some.injEq, Prod.mk.injEq] at hv
    obtain ⟨xv, hx, n, hn, rfl, rfl⟩ := hv
    have hl := hel (vs := [xv]) (by simp [evs, hx])
    generalize hrs : cargs.toList.map a.eval = rs at hl
    cases hl with | cons h1 h2 => cases h2; rename_i rx
                                  cases xv <;> simp only [slen] at hn <;> try (cases hn; done)
                                  rename_i xa xn xc
                                  obtain rfl : n = xn := (Option.some.inj hn).symm
                                  have hr : ∃ base c, rx = .slice base n c := by
                                    cases xa with
                                    | none => obtain ⟨rfl, rfl⟩ := h1; exact ⟨_, _, rfl⟩
                                    | some _ => obtain ⟨_, _, _, _, _, _, rfl, _⟩ := h1; exact ⟨_, _, rfl⟩
                                  obtain ⟨base, c, rfl⟩ := hr
                                  have hargs : cargs.map a.eval = #[.slice base n c] := by apply Array.ext'; simpa using hrs
                                  have hty : argTypes = #[t] := by apply Array.ext'; simpa using hts
                                  refine hrun (s := Builtin.len_ #[t] o.type #[.slice base n c]) (fun _ => by rw [hargs, hty]; rfl) (r := goInt n) (w' := w) ?_ (hK.still hs (R2.mkint _ _))
                                  simp [Builtin.len_, run_underlying (slE_some he)]
  · -- append
    rename_i t t' x y hts
    split at hc
    · rename_i htt; subst htt
      simp only [Option.bind_eq_some_iff] at hc
      obtain ⟨e, he, i, hi, hc⟩ := hc
      split at hc
      · rename_i hcc
        obtain ⟨z, hz⟩ := Option.isSome_iff_exists.1 hcc.2
        obtain ⟨i', zv, hi', hzv, hok, hcells, hlen⟩ := zeroL_some hz
        rw [hi] at hi'; cases hi'
        cases hc
        simp only [vop, Option.bind_eq_some_iff] at hv
        obtain ⟨xv, hx, yv, hy, hv⟩ := hv
        have hl := hel (vs := [xv, yv]) (by simp [evs, hx, hy])
        generalize hrs : cargs.toList.map a.eval = rs at hl
        cases hl with | cons h1 h2 => cases h2 with | cons h2 h3 => cases h3; rename_i rx ry
                                                                    have hargs : cargs.map a.eval = #[rx, ry] := by apply Array.ext'; simpa using hrs
                                                                    have hty : argTypes = #[t, t] := by apply Array.ext'; simpa using hts
                                                                    obtain ⟨r, w', μ', hr, h4, h5, h6⟩ := append_ok (ty := o.type) hs (slE_some he) hi hzv (by rw [← hlen, ← hcells, ← (ok1_cells hok).1]; simp) h1 h2 hv
                                                                    exact hrun (s := Builtin.append_ #[t, t] o.type #[rx, ry]) (fun _ => by rw [hargs, hty]; rfl) hr (hK r w' μ' h4 h5 h6)
      · cases hc
    · cases hc
  · -- copy
    rename_i t t' x y hts
    simp only [Option.bind_eq_some_iff, Option.some.injEq] at hc
    obtain ⟨e, he, e', he', n, hn, rfl⟩ := hc
    obtain ⟨i, hi, rfl⟩ := szL_some hn
    simp only [vop, Option.bind_eq_some_iff] at hv
    obtain ⟨xv, hx, yv, hy, m, hm, hv⟩ := hv
    have hl := hel (vs := [xv, yv]) (by simp [evs, hx, hy])
    generalize hrs : cargs.toList.map a.eval = rs at hl
    cases hl with | cons h1 h2 => cases h2 with | cons h2 h3 => cases h3; rename_i rx ry
                                                                have hargs : cargs.map a.eval = #[rx, ry] := by apply Array.ext'; simpa using hrs
                                                                have hty : argTypes = #[t, t'] := by apply Array.ext'; simpa using hts
                                                                cases xv <;> try (cases hv; done)
                                                                rename_i xa xn xc
                                                                cases xa <;> try (cases hv; done)
                                                                rename_i xa
                                                                simp only at hv
                                                                split at hv
                                                                · rename_i hst
                                                                  obtain ⟨_, mm, hmm, hms, a', c, rfl, _, hnc, h0, hpos⟩ := h1
                                                                  -- the source
                                                                  obtain ⟨ay, cy, rfl, hsrc⟩ : ∃ (ay : Option Addr) (cy : Nat), ry = .slice ay m cy ∧ ∀ new, scells H i.size yv = some new → 0 < m → ∃ b, ay = some b ∧ ∃ rs : List Value, rs.length = m * i.size ∧ L2 (RC μ) new rs ∧ ∀ (j : Nat) u, rs[j]? = some u → w.cell? (b.add j) = some u := by
                                                                    cases yv <;> simp only [slen] at hm <;> try (cases hm; done)
                                                                    rename_i ya yn yc
                                                                    cases hm
                                                                    cases ya with
                                                                    | none =>
                                                                      obtain ⟨rfl, rfl⟩ := h2
                                                                      exact ⟨none, 0, rfl, fun _ _ h => absurd h (by omega)⟩
                                                                    | some b =>
                                                                      obtain ⟨_, mm2, hmm2, hst2, b', c2, rfl, _, _, _, hp2⟩ := h2
                                                                      refine ⟨some b', c2, rfl, fun new hnew h => ⟨b', rfl, ?_⟩⟩
                                                                      simp only [scells] at hnew
                                                                      split at hnew
                                                                      · obtain ⟨rs, hl, hrel, hr⟩ := hs.rdN hnew hmm2
                                                                        exact ⟨rs, hl, hrel, by rw [hp2 h]; exact hr⟩
                                                                      · cases hnew
                                                                  split at hv
                                                                  · rename_i hz
                                                                    cases hv
                                                                    refine hrun (s := Builtin.copy_ #[t, t'] o.type #[.slice (some a') xn c, .slice ay m cy]) (fun _ => by rw [hargs, hty]; rfl) (r := goInt 0) (w' := w) ?_ (hK.still hs (R2.mkint _ _))
                                                                    have hz' : Nat.min m xn = 0 := by rw [← hz]; exact Nat.min_comm m xn
                                                                    cases ay <;> simp [Builtin.copy_, run_underlying (slE_some he), Builtin.lenOf, Builtin.firstCells, run_sizeOf hi, hz', loadCells, loadCellsFrom, storeCells]
                                                                  · rename_i hz
                                                                    simp only [Option.bind_eq_some_iff, Option.some.injEq, Prod.mk.injEq] at hv
                                                                    obtain ⟨new, hnew, H2, hw, rfl, rfl⟩ := hv
                                                                    obtain ⟨b, rfl, rs, hrl, hrel, hr⟩ := hsrc new hnew (by omega)
                                                                    have hle : min xn m * i.size ≤ m * i.size := Nat.mul_le_mul_right _ (Nat.min_le_right _ _)
                                                                    have hload := run_firstCells_some (P := P) w i.size (min xn m) b m cy (rs.take (min xn m * i.size)) (by rw [List.length_take, hrl]; exact Nat.min_eq_left hle) (fun j u hu => by
                                                                      rw [List.getElem?_take] at hu
                                                                      split at hu
                                                                      · exact hr j u hu
                                                                      · cases hu)
                                                                    obtain ⟨w', hst', h4, h5⟩ := storeCells_ok (P := P) hs hmm (hrel.take (min xn m * i.size)) hw
                                                                    rw [← hpos (by omega)] at hst'
                                                                    refine hrun (s := Builtin.copy_ #[t, t'] o.type #[.slice (some a') xn c, .slice (some b) m cy]) (fun _ => by rw [hargs, hty]; rfl) (r := goInt (min xn m : Nat)) (w' := w') ?_ (hK _ _ _ (R2.mkint _ _) h4 h5)
                                                                    have hmin : Nat.min m xn = min xn m := Nat.min_comm m xn
                                                                    simp only [Builtin.copy_, List.getElem?_toArray, List.getElem?_cons_zero, List.getElem?_cons_succ, Sem.run_bind, run_underlying (slE_some he), Result.andThen_ok, Builtin.lenOf, Sem.run_pure, hmin, run_sizeOf hi, hload, hst']
                                                                · cases hv
  · -- clear
    rename_i t x hts
    simp only [Option.bind_eq_some_iff, Option.some.injEq] at hc
    obtain ⟨e, he, n, hn, z, hz, rfl⟩ := hc
    obtain ⟨i, hi, rfl⟩ := szL_some hn
    obtain ⟨i', zv, hi', hzv, hok, hcells, hlen⟩ := zeroL_some hz
    rw [hi] at hi'; cases hi'
    simp only [vop, Option.bind_eq_some_iff] at hv
    obtain ⟨xv, hx, hv⟩ := hv
    have hl := hel (vs := [xv]) (by simp [evs, hx])
    generalize hrs : cargs.toList.map a.eval = rs at hl
    cases hl with | cons h1 h2 => cases h2; rename_i rx
                                  have hargs : cargs.map a.eval = #[rx] := by apply Array.ext'; simpa using hrs
                                  have hty : argTypes = #[t] := by apply Array.ext'; simpa using hts
                                  cases xv <;> try (cases hv; done)
                                  rename_i xa xn xc
                                  cases xa with
                                  | none =>
                                    obtain ⟨rfl, rfl⟩ := h1
                                    cases hv
                                    refine hrun (s := Builtin.clear_ #[t] o.type #[.slice none 0 0]) (fun _ => by rw [hargs, hty]; rfl) (r := .tuple #[]) (w' := w) ?_ (hK.still hs R2.undef)
                                    simp [Builtin.clear_, run_underlying (slE_some he)]
                                  | some xa =>
                                    obtain ⟨_, mm, hmm, hms, a', c, rfl, _, hnc, h0, hpos⟩ := h1
                                    simp only at hv
                                    split at hv
                                    · rename_i hn0; subst hn0
                                      cases hv
                                      refine hrun (s := Builtin.clear_ #[t] o.type #[.slice (some a') 0 c]) (fun _ => by rw [hargs, hty]; rfl) (r := .tuple #[]) (w' := w) ?_ (hK.still hs R2.undef)
                                      simp [Builtin.clear_, run_underlying (slE_some he)]
                                    · rename_i hn0
                                      split at hv
                                      · simp only [Option.bind_eq_some_iff, Option.some.injEq, Prod.mk.injEq] at hv
                                        obtain ⟨H2, hw, rfl, rfl⟩ := hv
                                        have hzz : (Builtin.zeroCells zv.cells xn).toList = (List.replicate xn z).flatten := by
                                          have h := range_map zv.cells xn
                                          rw [(ok1_cells hok).1, hcells] at h
                                          exact h
                                        have hrel : L2 (RC μ) (List.replicate xn z).flatten (List.replicate xn z).flatten := L2.refl fun u hu => by
                                          obtain ⟨l, hl, hul⟩ := List.mem_flatten.1 hu
                                          obtain ⟨_, rfl⟩ := List.mem_replicate.1 hl
                                          exact RC.const ((ok1_cells hok).2 u (hcells ▸ hul))
                                        obtain ⟨w', hst', h4, h5⟩ := storeCells_ok (P := P) hs hmm hrel hw
                                        rw [← hpos (by omega)] at hst'
                                        refine hrun (s := Builtin.clear_ #[t] o.type #[.slice (some a') xn c]) (fun _ => by rw [hargs, hty]; rfl) (r := .tuple #[]) (w' := w') ?_ (hK _ _ _ R2.undef h4 h5)
                                        have hzr : (zeroValue e).run P w = .ok zv w := by simp [zeroValue, typeInfo, hi, hzv]
                                        cases xn with
                                        | zero => exact absurd rfl hn0
                                        | succ xn => simp [Builtin.clear_, run_underlying (slE_some he), hzr, hzz, hst']
                                      · cases hv
  · -- max
    rename_i x y
    cases hc
    simp only [vop, Option.bind_eq_some_iff] at hv
    obtain ⟨xv, hx, yv, hy, hv⟩ := hv
    have hl := hel (vs := [xv, yv]) (by simp [evs, hx, hy])
    generalize hrs : cargs.toList.map a.eval = rs at hl
    cases hl with | cons h1 h2 => cases h2 with | cons h2 h3 => cases h3; rename_i rx ry
                                                                have hargs : cargs.map a.eval = #[rx, ry] := by apply Array.ext'; simpa using hrs
                                                                cases xv <;> cases yv <;> try (cases hv; done)
                                                                rename_i k p k' q
                                                                obtain rfl := R2.int h1
                                                                obtain rfl := R2.int h2
                                                                simp only at hv
                                                                split at hv
                                                                · rename_i hk; subst hk; cases hv
                                                                  refine hrun (s := Builtin.max_ argTypes o.type #[.int k p, .int k q]) (fun _ => by rw [hargs]; rfl) (r := _) (w' := w) ?_ (hK.still hs (R2.mkint _ _))
                                                                  simp [Builtin.max_, Builtin.max2]
                                                                · cases hv
  · -- min
    rename_i x y
    cases hc
    simp only [vop, Option.bind_eq_some_iff] at hv
    obtain ⟨xv, hx, yv, hy, hv⟩ := hv
    have hl := hel (vs := [xv, yv]) (by simp [evs, hx, hy])
    generalize hrs : cargs.toList.map a.eval = rs at hl
    cases hl with | cons h1 h2 => cases h2 with | cons h2 h3 => cases h3; rename_i rx ry
                                                                have hargs : cargs.map a.eval = #[rx, ry] := by apply Array.ext'; simpa using hrs
                                                                cases xv <;> cases yv <;> try (cases hv; done)
                                                                rename_i k p k' q
                                                                obtain rfl := R2.int h1
                                                                obtain rfl := R2.int h2
                                                                simp only at hv
                                                                split at hv
                                                                · rename_i hk; subst hk; cases hv
                                                                  refine hrun (s := Builtin.min_ argTypes o.type #[.int k p, .int k q]) (fun _ => by rw [hargs]; rfl) (r := _) (w' := w) ?_ (hK.still hs (R2.mkint _ _))
                                                                  simp [Builtin.min_, Builtin.min2]
                                                                · cases hv
  · cases hc
end
end Go.Proofs.Ytmcljallamhccaa.V
/-! One operation of the program and its image: the general law. -/
namespace Go.Proofs.Ytmcljallamhccaa.V
open Go
set_option linter.unusedVariables false
set_option linter.unusedSimpArgs false
section
variable {P : Program}
theorem mapA {α β : Type} (l : Array α) (f : α → β) : (l.map f).toList = l.toList.map f := Array.toList_map
theorem run_eq_bool {t : TypeId} (h : P.underlying t = some .bool) (neg : Bool) (p q : Bool) (x y : Operand) (w : World) :
    (do eqGuard (if neg then .neq else .eql) t x y (.bool p) (.bool q); binOp (if neg then .neq else .eql) t (.bool p) (.bool q) : Sem Value).run P w = .ok (.bool (if neg then !(p == q) else p == q)) w := by
  have he : (Op.equal t (.bool p) (.bool q)).run P w = .ok (p == q) w := by
    show (Op.equalIn (9999 + 1) t (.bool p) (.bool q)).run P w = _
    rw [Op.equalIn, Sem.run_bind, run_underlying h]
    rfl
  cases neg
  · show (do pure (Value.bool (← Op.equal t (.bool p) (.bool q))) : Sem Value).run P w = _
    simp only [Sem.run_bind, he, Result.andThen_ok, Sem.run_pure]; rfl
  · show (do pure (Value.bool (!(← Op.equal t (.bool p) (.bool q)))) : Sem Value).run P w = _
    simp only [Sem.run_bind, he, Result.andThen_ok, Sem.run_pure]; rfl
theorem run_eq_nil {t e : TypeId} (h : P.underlying t = some (.slice e)) (neg : Bool) (base : Option Addr) (n c : Nat) (x y : Operand) (w : World) :
    (do eqGuard (if neg then .neq else .eql) t x y (.slice base n c) (.slice none 0 0); binOp (if neg then .neq else .eql) t (.slice base n c) (.slice none 0 0) : Sem Value).run P w = .ok (.bool (if neg then !base.isNone else base.isNone)) w := by
  have he : (Op.equal t (.slice base n c) (.slice none 0 0)).run P w = .ok base.isNone w := by
    show (Op.equalIn (9999 + 1) t (.slice base n c) (.slice none 0 0)).run P w = _
    rw [Op.equalIn, Sem.run_bind, run_underlying h]
    cases base <;> rfl
  cases neg
  · show (do pure (Value.bool (← Op.equal t (.slice base n c) (.slice none 0 0))) : Sem Value).run P w = _
    simp only [Sem.run_bind, he, Result.andThen_ok, Sem.run_pure]; rfl
  · show (do pure (Value.bool (!(← Op.equal t (.slice base n c) (.slice none 0 0)))) : Sem Value).run P w = _
    simp only [Sem.run_bind, he, Result.andThen_ok, Sem.run_pure]; rfl
theorem L2.ptrs {μ : Mu} : ∀ {vs rs : List Value}, L2 (R2 μ) vs rs → vs.all isPtr = true → L2 (RP μ) vs rs
  | _, _, .nil, _ => .nil
  | _, _, .cons (a := a) h t, hall => by
    simp only [List.all_cons, Bool.and_eq_true] at hall
    refine .cons ?_ (t.ptrs hall.2)
    cases a <;> first | exact h | (exact absurd hall.1 (by simp [isPtr]))
theorem sO {μ : Mu} {ts : Ts} {a : Act} (ht : TR μ ts a) {x : Option Operand} {y : Option Arg} (hc : cO x = some y) : (y = none → x.map a.eval = none) ∧ ∀ z v, y = some z → ev ts z = some v → ∃ r, x.map a.eval = some r ∧ R2 μ v r := by
  cases x with
  | none => simp only [cO, Option.some.injEq] at hc; subst hc; exact ⟨(fun _ => rfl), (fun z v h => by cases h)⟩
  | some x =>
    simp only [cO, Option.map_eq_some_iff] at hc
    obtain ⟨y', hy, rfl⟩ := hc
    exact ⟨(fun h => by cases h), (fun z v h hv => by cases h; exact ⟨_, rfl, ev_ok ht hy hv⟩)⟩

set_option maxHeartbeats 4000000 in
theorem op_ok {call : Cal} (hcall : CalOK P call) {o : Oper} {vo : VOp} (hc : compO P o.op = some vo) {lo : Nat} {ts : Ts} {H H' : Hp} {v : Value} (hv : vop call lo ts H vo = some (v, H')) (hlo : lo ≤ H.length)
    {μ : Mu} {a : Act} {w : World} (ht : TR μ ts a) (hs : Sim μ H w) {K : Act → World → Prop} {Q : Exit → Act → World → Prop} (hK : Post lo μ H w v H' a o.dst K) : o.wp P a w K Q := by
  have one : ∀ {x : Operand} {vo : VOp} {f : Arg → VOp}, (cA x).map f = some vo → ∃ y, cA x = some y ∧ vo = f y := by
    intro x vo f h
    obtain ⟨y, hy, rfl⟩ := Option.map_eq_some_iff.1 h
    exact ⟨y, hy, rfl⟩
  have valw : ∀ {r : Value} {s : Sem Value}, execOp a.eval o = (do pure (.value (← s))) → s.run P w = .ok r w → R2 μ v r → H' = H → o.wp P a w K Q := by
    intro r s he hr hR hH
    subst hH
    exact wp_val (r := r) (w' := w) (by rw [he]; simp [hr]) (hK.still hs hR)
  cases hop : o.op <;> rw [hop] at hc <;> simp only [compO] at hc <;> try (cases hc; done)
  case move x =>
    obtain ⟨y, hy, rfl⟩ := one hc
    simp only [vop, Option.bind_eq_some_iff, Option.some.injEq, Prod.mk.injEq] at hv
    obtain ⟨u, hu, rfl, rfl⟩ := hv
    exact wp_val (by simp only [execOp, hop]; rfl) (hK.still hs (ev_ok ht hy hu))
  case assign x =>
    obtain ⟨y, hy, rfl⟩ := one hc
    simp only [vop, Option.bind_eq_some_iff, Option.some.injEq, Prod.mk.injEq] at hv
    obtain ⟨u, hu, rfl, rfl⟩ := hv
    exact wp_val (by simp only [execOp, hop]; rfl) (hK.still hs (ev_ok ht hy hu))
  case pick c x y =>
    simp only [Option.bind_eq_some_iff, Option.map_eq_some_iff] at hc
    obtain ⟨c', hc', x', hx', y', hy', rfl⟩ := hc
    simp only [vop, Option.bind_eq_some_iff] at hv
    obtain ⟨cv, hcv, hv⟩ := hv
    cases cv <;> try (cases hv; done)
    rename_i t
    simp only [Option.bind_eq_some_iff, Option.some.injEq, Prod.mk.injEq] at hv
    obtain ⟨u, hu, rfl, rfl⟩ := hv
    have hcb := R2.boolv (ev_ok ht hc' hcv)
    cases t
    · simp only [Bool.false_eq_true, if_false] at hu
      exact wp_val (r := a.eval y) (by simp [execOp, hop, hcb, asBool]) (hK.still hs (ev_ok ht hy' hu))
    · simp only [if_true] at hu
      exact wp_val (r := a.eval x) (by simp [execOp, hop, hcb, asBool]) (hK.still hs (ev_ok ht hx' hu))
  case alloc e =>
    simp only [Option.map_eq_some_iff] at hc
    obtain ⟨z, hz, rfl⟩ := hc
    simp only [vop, Option.some.injEq, Prod.mk.injEq] at hv
    obtain ⟨rfl, rfl⟩ := hv
    obtain ⟨i, zv, hi, hzv, hok, rfl, hlen⟩ := zeroL_some hz
    obtain ⟨he, hp⟩ := ok1_cells hok
    have hal := hs.alloc (vs := vcells zv) (C := zv.cells) (e := e) (k := 1) (s := zv.cells.size) (k0 := false) (fun j c hj => ⟨c, by rw [← Array.getElem?_toList, he]; exact hj, RC.const (hp c (List.mem_of_getElem? hj))⟩) (by simp) (by simp) (by simp [maxLen]) lo
    refine wp_val (r := .pointer (some ⟨w.heap.size, 0, none⟩)) (w' := w.alloc (.cells zv.cells e)) ?_ (hK _ _ _ (R2.of_RC ⟨rfl, _, upd_same _ _ _, rfl⟩) hal.1 hal.2)
    simp [execOp, hop, Instr.alloc, zeroValue, typeInfo, hi, hzv, newVar, newRow]
  case box e x =>
    obtain ⟨y, hy, rfl⟩ := one hc
    simp only [vop, Option.bind_eq_some_iff] at hv
    obtain ⟨u, hu, hv⟩ := hv
    split at hv
    · rename_i hn
      simp only [Option.some.injEq, Prod.mk.injEq] at hv
      obtain ⟨rfl, rfl⟩ := hv
      have hr := ((ev_ok ht hy hu).to_R1 (ntup_ok hn)).cells
      have hal := hs.alloc (vs := vcells u) (C := (a.eval x).cells) (e := e) (k := 1) (s := (a.eval x).cells.size) (k0 := false) (fun j c hj => by
        obtain ⟨r, h1, h2⟩ := hr.get hj
        exact ⟨r, by rw [← Array.getElem?_toList]; exact h1, h2⟩) (by simp) (by simp) (by simp [maxLen]) lo
      refine wp_val (r := .pointer (some ⟨w.heap.size, 0, none⟩)) (w' := w.alloc (.cells (a.eval x).cells e)) ?_ (hK _ _ _ (R2.of_RC ⟨rfl, _, upd_same _ _ _, rfl⟩) hal.1 hal.2)
      simp [execOp, hop, Instr.box, newVar, newRow]
    · cases hv
  case build t ps =>
    simp only [Option.bind_eq_some_iff, Option.map_eq_some_iff] at hc
    obtain ⟨fs, hfs, z, hz, pl, hpl, cps, hcps, rfl⟩ := hc
    simp only [vop, Option.bind_eq_some_iff, Option.some.injEq, Prod.mk.injEq] at hv
    obtain ⟨cs, hcs, rfl, rfl⟩ := hv
    obtain ⟨i, zv, hi, hzv, hok, rfl, hlen⟩ := zeroL_some hz
    obtain ⟨he, hp⟩ := ok1_cells hok
    obtain ⟨rcs, hf, hrel⟩ := vfill_ok ht _ _ _ hcps (rcells := zv.cells) (by rw [he]; exact L2.refl fun u hu => RC.const (hp u hu)) hcs
    refine valw (r := .agg rcs) (s := Instr.build t (ps.map fun (i, x) => (i, a.eval x))) (by simp only [execOp, hop]) ?_ (R2.of_R1 ⟨rcs, rfl, by simpa using hrel⟩) rfl
    refine run_build w t _ rcs ?_
    simp only [Program.built, hi, stF_some hfs, hzv]
    simp only [places] at hpl
    rw [hpl]
    simp only
    rw [mapA]
    exact hf
  case buildSlice t len ps =>
    simp only [Option.bind_eq_some_iff] at hc
    obtain ⟨e, he, n, hn, z, hz, hc⟩ := hc
    obtain ⟨i, hi, rfl⟩ := szL_some hn
    split at hc
    · rename_i hle
      obtain ⟨hle, hpos⟩ := hle
      obtain ⟨cps, hcps, rfl⟩ := Option.map_eq_some_iff.1 hc
      simp only [vop, Option.bind_eq_some_iff, Option.some.injEq, Prod.mk.injEq] at hv
      obtain ⟨cs, hcs, rfl, rfl⟩ := hv
      obtain ⟨i', zv, hi', hzv, hok, rfl, hlen⟩ := zeroL_some hz
      rw [hi] at hi'; cases hi'
      obtain ⟨hez, hp⟩ := ok1_cells hok
      have hzs : zv.cells.size = i.size := by rw [← hlen, ← hez]; simp
      -- the row of zeros
      have hzero : ((Array.range (len * i.size)).map (((if len * i.size = 0 then #[] else zv.cells) : Array Value)[· % ((if len * i.size = 0 then #[] else zv.cells) : Array Value).size]!)).toList = (if len * i.size = 0 then [] else (List.replicate len (vcells zv)).flatten) := by
        split
        · rename_i h0; simp [h0]
        · rw [← hez, ← hzs]; exact range_map zv.cells len
      obtain ⟨rcs, hf, hrel⟩ := vfill_ok ht _ _ _ hcps (rcells := (Array.range (len * i.size)).map (((if len * i.size = 0 then #[] else zv.cells) : Array Value)[· % ((if len * i.size = 0 then #[] else zv.cells) : Array Value).size]!)) (by
        rw [hzero]
        refine L2.refl fun u hu => ?_
        split at hu
        · simp at hu
        · obtain ⟨l, hl, hul⟩ := List.mem_flatten.1 hu
          obtain ⟨_, rfl⟩ := List.mem_replicate.1 hl
          exact RC.const (hp u hul)) hcs
      have hfl : ∀ (ps : List (Nat × Nat × Arg)) (c c' : List Value), vfill c ts ps = some c' → c'.length = c.length := by
        intro ps
        induction ps with
        | nil => intro c c' h; simp only [vfill, Option.some.injEq] at h; rw [h]
        | cons p ps ih =>
          intro c c' h
          obtain ⟨o', n', x'⟩ := p
          simp only [vfill, Option.bind_eq_some_iff] at h
          obtain ⟨u, _, h⟩ := h
          split at h
          · rw [ih _ _ h, setAll_length]
          · cases h
      have hsz : rcs.size = len * i.size := by
        have h1 := hfl _ _ _ hcs
        have h2 := hrel.len
        rw [h1, ← hzero] at h2
        simpa using h2.symm
      have hal := hs.alloc (vs := cs) (C := rcs) (e := e) (k := len) (s := i.size) (k0 := len == 0) (fun j c hj => by
        obtain ⟨r, h1, h2⟩ := hrel.get hj
        exact ⟨r, by rw [← Array.getElem?_toList]; exact h1, h2⟩) (by simp) hsz (by
          have : len ≤ len * i.size := Nat.le_mul_of_pos_right _ hpos
          simp only [maxLen]; omega) lo
      refine wp_val (r := .slice (some ⟨w.heap.size, 0, none⟩) len len) (w' := w.alloc (.cells rcs e)) ?_ (hK _ _ _ (R2.of_RC ⟨rfl, _, upd_same _ _ _, rfl, _, _, rfl, fun _ => rfl, Nat.le_refl _, fun _ => ⟨rfl, rfl⟩, fun _ => rfl⟩) hal.1 hal.2)
      have hzr : (zeroValue e).run P w = .ok zv w := by simp [zeroValue, typeInfo, hi, hzv]
      have hfill : Instr.fill (fun i_1 => some (i_1 * i.size, i.size)) ((Array.range (len * i.size)).map (((if len * i.size = 0 then #[] else zv.cells) : Array Value)[· % ((if len * i.size = 0 then #[] else zv.cells) : Array Value).size]!)) (ps.map fun (i, x) => (i, a.eval x)).toList = some rcs := by rw [mapA]; exact hf
      have hng : ¬ (len * i.size > 2 ^ 24) := by omega
      by_cases h0 : len * i.size = 0
      · simp only [if_pos h0] at hfill
        simp only [execOp, hop, Instr.buildSlice, Sem.run_bind, run_underlying (slE_some he), Result.andThen_ok, run_sizeOf hi, if_neg hng, if_pos h0, Sem.run_pure, hfill, newRow, run_newObj, World.alloc_eq]
      · simp only [if_neg h0] at hfill
        simp only [execOp, hop, Instr.buildSlice, Sem.run_bind, run_underlying (slE_some he), Result.andThen_ok, run_sizeOf hi, if_neg hng, if_neg h0, hzr, Sem.run_pure, hfill, newRow, run_newObj, World.alloc_eq]
    · cases hc
  case load t x =>
    simp only [Option.bind_eq_some_iff] at hc
    obtain ⟨⟨g, n⟩, hty, hc⟩ := hc
    obtain ⟨y, hy, rfl⟩ := one hc
    simp only [vop, Option.bind_eq_some_iff] at hv
    obtain ⟨p, hp, hv⟩ := hv
    cases p <;> try (cases hv; done)
    rename_i pa
    cases pa <;> try (cases hv; done)
    rename_i pa
    have hv' : (if g then (V.rdN H pa n).bind fun cs => some (Value.agg cs.toArray) else V.rd H pa) = some v ∧ H' = H := by
      simp only at hv
      split at hv
      · simp only [Option.bind_eq_some_iff, Option.some.injEq, Prod.mk.injEq] at hv
        obtain ⟨cs, hcs, rfl, rfl⟩ := hv
        exact ⟨by rw [if_pos ‹_›, hcs]; rfl, rfl⟩
      · simp only [Option.bind_eq_some_iff, Option.some.injEq, Prod.mk.injEq] at hv
        obtain ⟨u, hu, rfl, rfl⟩ := hv
        exact ⟨by rw [if_neg ‹_›, hu], rfl⟩
    obtain ⟨r, hr, hR⟩ := load_ok (P := P) hs hty (ev_ok ht hy hp) hv'.1
    exact valw (s := Instr.loadAt t (a.eval x)) (by simp only [execOp, hop]) hr hR hv'.2
  case store t x y =>
    simp only [Option.bind_eq_some_iff, Option.map_eq_some_iff] at hc
    obtain ⟨n, hn, x', hx', y', hy', rfl⟩ := hc
    simp only [vop, Option.bind_eq_some_iff] at hv
    obtain ⟨p, hp, u, hu, hv⟩ := hv
    cases p <;> try (cases hv; done)
    rename_i pa
    cases pa <;> try (cases hv; done)
    rename_i pa
    simp only at hv
    split at hv
    · rename_i hcond
      simp only [Option.bind_eq_some_iff, Option.some.injEq, Prod.mk.injEq] at hv
      obtain ⟨H2, hw, rfl, rfl⟩ := hv
      obtain ⟨h0, m, hm, hxe⟩ := (ev_ok ht hx' hp)
      obtain ⟨w', hst, h1, h2⟩ := storeVar_ok (P := P) hs hn hm ((ev_ok ht hy' hu).to_R1 (ntup_ok hcond.1)) hcond.2 hw
      refine wp_skp (w' := w') ?_ (hK _ _ _ R2.undef h1 h2)
      simp [execOp, hop, Instr.storeAt, Instr.sureAddr, hxe, hst]
    · cases hv
  case nilCheck x =>
    obtain ⟨y, hy, rfl⟩ := one hc
    simp only [vop, Option.bind_eq_some_iff] at hv
    obtain ⟨u, hu, hv⟩ := hv
    cases u <;> try (cases hv; done)
    rename_i pa
    cases pa <;> try (cases hv; done)
    simp only [Option.some.injEq, Prod.mk.injEq] at hv
    obtain ⟨rfl, rfl⟩ := hv
    have hr := ev_ok ht hy hu
    obtain ⟨h0, m, hm, hxe⟩ := hr
    exact wp_val (r := a.eval x) (by simp [execOp, hop, hxe]) (hK.still hs (by rw [hxe]; exact ⟨h0, m, hm, rfl⟩))
  case binOp op t x y yt =>
    have ibin : ∀ {x' y' : Arg}, cA x = some x' → cA y = some y' → vop call lo ts H (.bin op x' y') = some (v, H') → o.wp P a w K Q := by
      intro x' y' hx hy hv
      simp only [vop, Option.bind_eq_some_iff, Option.some.injEq, Prod.mk.injEq] at hv
      obtain ⟨p, hp, q, hq, u, hu, rfl, rfl⟩ := hv
      obtain ⟨h1, h2⟩ := bin_ok (P := P) hu (ev_ok ht hx hp) (ev_ok ht hy hq) t x y w
      exact valw (s := do eqGuard op t x y (a.eval x) (a.eval y); binOp op t (a.eval x) (a.eval y)) (by simp only [execOp, hop]) h1 h2 rfl
    have plain : (∃ x' y', cA x = some x' ∧ cA y = some y' ∧ vo = .bin op x' y') → o.wp P a w K Q := by
      rintro ⟨x', y', h1, h2, rfl⟩
      exact ibin h1 h2 hv
    have eqs : ∀ (neg : Bool) (hopn : op = if neg then .neq else .eql), (if isBool P t then (cA x).bind fun x => (cA y).map (.beq neg x) else if (slE P t).isSome = true then (if nilSl y then (cA x).map (.snil neg) else none) else (cA x).bind fun x => (cA y).map (.bin op x)) = some vo → o.wp P a w K Q := by
      intro neg hopn hc
      split at hc
      · rename_i hb
        simp only [Option.bind_eq_some_iff, Option.map_eq_some_iff] at hc
        obtain ⟨x', hx, y', hy, rfl⟩ := hc
        simp only [vop, Option.bind_eq_some_iff] at hv
        obtain ⟨p, hp, q, hq, hv⟩ := hv
        cases p <;> try (cases hv; done)
        cases q <;> try (cases hv; done)
        rename_i p q
        simp only [Option.some.injEq, Prod.mk.injEq] at hv
        obtain ⟨rfl, rfl⟩ := hv
        have h1 := R2.boolv (ev_ok ht hx hp)
        have h2 := R2.boolv (ev_ok ht hy hq)
        have hbt : P.underlying t = some .bool := by
          unfold isBool at hb; split at hb
          · assumption
          · cases hb
        refine valw (s := do eqGuard op t x y (a.eval x) (a.eval y); binOp op t (a.eval x) (a.eval y)) (by simp only [execOp, hop]) ?_ (R2.mkbool _) rfl
        rw [h1, h2, hopn]
        exact run_eq_bool hbt neg p q x y w
      · split at hc
        · rename_i hsl
          obtain ⟨e, he⟩ := Option.isSome_iff_exists.1 hsl
          split at hc
          · rename_i hnil
            obtain ⟨x', hx, rfl⟩ := one hc
            simp only [vop, Option.bind_eq_some_iff] at hv
            obtain ⟨p, hp, hv⟩ := hv
            cases p <;> try (cases hv; done)
            rename_i pa pn pc
            simp only [Option.some.injEq, Prod.mk.injEq] at hv
            obtain ⟨rfl, rfl⟩ := hv
            have hy : a.eval y = .slice none 0 0 := by
              unfold nilSl at hnil; split at hnil
              · rfl
              · cases hnil
            have hr : ∃ base c, a.eval x = .slice base pn c ∧ base.isNone = pa.isNone := by
              have h := ev_ok ht hx hp
              cases pa with
              | none => obtain ⟨rfl, h⟩ := h; exact ⟨none, 0, h, rfl⟩
              | some _ => obtain ⟨_, _, _, _, a', c, h, _⟩ := h; exact ⟨some a', c, h, rfl⟩
            obtain ⟨base, c, hxe, hbn⟩ := hr
            refine valw (s := do eqGuard op t x y (a.eval x) (a.eval y); binOp op t (a.eval x) (a.eval y)) (by simp only [execOp, hop]) ?_ (R2.mkbool _) rfl
            rw [hxe, hy, hopn, ← hbn]
            exact run_eq_nil (slE_some he) neg base pn c x y w
          · cases hc
        · simp only [Option.bind_eq_some_iff, Option.map_eq_some_iff] at hc
          obtain ⟨x', hx, y', hy, rfl⟩ := hc
          exact ibin hx hy hv
    cases op
    case eql => exact eqs false rfl hc
    case neq => exact eqs true rfl hc
    all_goals
      simp only [Option.bind_eq_some_iff, Option.map_eq_some_iff] at hc
      obtain ⟨x', hx, y', hy, rfl⟩ := hc
      exact ibin hx hy hv
  case unOp op t x =>
    cases op <;> simp only [compO] at hc <;> try (cases hc; done)
    obtain ⟨y, hy, rfl⟩ := one hc
    simp only [vop, Option.bind_eq_some_iff] at hv
    obtain ⟨u, hu, hv⟩ := hv
    cases u <;> try (cases hv; done)
    simp only [Option.some.injEq, Prod.mk.injEq] at hv
    obtain ⟨rfl, rfl⟩ := hv
    have hr := R2.boolv (ev_ok ht hy hu)
    exact valw (s := Op.unary .not (a.eval x)) (by simp only [execOp, hop]) (by rw [hr]; rfl) (R2.mkbool _) rfl
  case convert s d x =>
    split at hc
    · rename_i hsome
      simp only [Option.bind_eq_some_iff] at hc
      obtain ⟨k, hk, hc⟩ := hc
      obtain ⟨y, hy, rfl⟩ := one hc
      simp only [vop, Option.bind_eq_some_iff] at hv
      obtain ⟨u, hu, hv⟩ := hv
      cases u <;> try (cases hv; done)
      simp only [Option.some.injEq, Prod.mk.injEq] at hv
      obtain ⟨rfl, rfl⟩ := hv
      have hr := R2.int (ev_ok ht hy hu)
      obtain ⟨ds, hds⟩ := Option.isSome_iff_exists.1 hsome
      refine valw (s := convert s d (a.eval x)) (by simp only [execOp, hop]) ?_ (R2.mkint _ _) rfl
      rw [hr]
      simp [convert, run_underlying hds, run_underlying (intK_some hk), Conv.intToInt]
    · cases hc
  case makeFunc fn first cap =>
    cases fn <;> simp only [compO] at hc <;> try (cases hc; done)
    rename_i f
    split at hc
    · rename_i hf0
      obtain ⟨args, hargs, rfl⟩ := Option.map_eq_some_iff.1 hc
      simp only [vop, Option.bind_eq_some_iff] at hv
      obtain ⟨vs, hvs, hv⟩ := hv
      split at hv
      · rename_i hall
        simp only [Option.some.injEq, Prod.mk.injEq] at hv
        obtain ⟨rfl, rfl⟩ := hv
        have hel := evs_ok ht hargs hvs
        have hf : first = #[] := Array.eq_empty_of_size_eq_zero hf0
        refine wp_val (r := .func (.func f) #[] (cap.map a.eval)) (w' := w) (by simp [execOp, hop, Instr.makeFunc, hf]) (hK.still hs (R2.of_RC (v := .func (.func f) #[] vs.toArray) ⟨rfl, cap.map a.eval, rfl, ?_⟩))
        rw [mapA]
        exact hel.ptrs hall
      · cases hv
    · cases hc
  case makeSlice t l c =>
    simp only [Option.bind_eq_some_iff, Option.map_eq_some_iff] at hc
    obtain ⟨e, he, i, hi, z, hz, l', hl', c', hc', rfl⟩ := hc
    obtain ⟨i', zv, hi', hzv, hok, rfl, hlen⟩ := zeroL_some hz
    rw [hi] at hi'; cases hi'
    obtain ⟨hez, hp⟩ := ok1_cells hok
    have hzs : zv.cells.size = i.size := by rw [← hlen, ← hez]; simp
    simp only [vop, Option.bind_eq_some_iff] at hv
    obtain ⟨lv, hlv, cv, hcv, n, hn, m, hm, hv⟩ := hv
    split at hv
    · rename_i hcond
      obtain ⟨rfl, h0, hby, hmx, _⟩ := hcond
      simp only [Option.some.injEq, Prod.mk.injEq] at hv
      obtain ⟨rfl, rfl⟩ := hv
      obtain ⟨kl, rfl⟩ := asI_some hn
      obtain ⟨kc, rfl⟩ := asI_some hm
      have h1 := R2.int (ev_ok ht hl' hlv)
      have h2 := R2.int (ev_ok ht hc' hcv)
      have hrun := run_make (P := P) w t e i zv (slE_some he) hi hzv kl kc n n h0 (Int.le_refl _) hby (by omega)
      have hmade : (madeCells zv.cells (n.toNat * i.size)).toList = (List.replicate n.toNat (vcells zv)).flatten := by
        rw [← hez, ← hzs]; exact range_map zv.cells n.toNat
      have hal := hs.alloc (vs := (List.replicate n.toNat (vcells zv)).flatten) (C := madeCells zv.cells (n.toNat * i.size)) (e := e) (k := n.toNat) (s := i.size) (k0 := n == 0) (fun j c hj => ⟨c, by rw [← Array.getElem?_toList, hmade]; exact hj, by
        obtain ⟨l, hl, hul⟩ := List.mem_flatten.1 (List.mem_of_getElem? hj)
        obtain ⟨_, rfl⟩ := List.mem_replicate.1 hl
        exact RC.const (hp c hul)⟩) (by intro h; simp at h; omega) (size_madeCells _ _) (by simp only [maxLen]; omega) lo
      refine wp_val (r := .slice (some ⟨w.heap.size, 0, none⟩) n.toNat n.toNat) (w' := w.alloc (.cells (madeCells zv.cells (n.toNat * i.size)) e)) ?_ (hK _ _ _ (R2.of_RC ⟨rfl, _, upd_same _ _ _, rfl, _, _, rfl, fun _ => rfl, Nat.le_refl _, fun _ => ⟨rfl, rfl⟩, fun _ => rfl⟩) hal.1 hal.2)
      simp only [execOp, hop, h1, h2, Sem.run_bind, hrun, Result.andThen_ok, Sem.run_pure]
    · cases hv
  case fieldAddr s x f =>
    simp only [Option.bind_eq_some_iff] at hc
    obtain ⟨fs, hfs, fl, hfl, n, hn, hc⟩ := hc
    split at hc
    · cases hc
    · rename_i hn0
      obtain ⟨y, hy, rfl⟩ := one hc
      simp only [vop, Option.bind_eq_some_iff] at hv
      obtain ⟨u, hu, hv⟩ := hv
      cases u <;> try (cases hv; done)
      rename_i pa
      cases pa <;> try (cases hv; done)
      rename_i pa
      simp only [Option.some.injEq, Prod.mk.injEq] at hv
      obtain ⟨rfl, rfl⟩ := hv
      obtain ⟨i, hi, rfl⟩ := szL_some hn
      obtain ⟨h0, m, hm, hxe⟩ := ev_ok ht hy hu
      refine valw (r := .pointer (some ⟨m.b, m.o + (pa.off + fl.offset), none⟩)) (s := Instr.fieldAt s (a.eval x) f) (by simp only [execOp, hop]) ?_ (R2.of_RC (v := .pointer (some ⟨pa.block, pa.off + fl.offset, none⟩)) ⟨rfl, m, hm, rfl⟩) rfl
      simp [Instr.fieldAt, hxe, run_underlying (stF_some hfs), hfl, Instr.sureAddr, fieldPlace, run_sizeOf hi, hn0, addr_add, Nat.add_assoc]
  case field s x f =>
    simp only [Option.bind_eq_some_iff] at hc
    obtain ⟨fs, hfs, fl, hfl, ⟨g, n⟩, hty, hc⟩ := hc
    obtain ⟨y, hy, rfl⟩ := one hc
    obtain ⟨d, i, hd, hi, rfl, rfl⟩ := tyL_some hty
    simp only [vop, Option.bind_eq_some_iff] at hv
    obtain ⟨u, hu, hv⟩ := hv
    cases u <;> try (cases hv; done)
    rename_i cs
    obtain ⟨rs, hxe, hrel⟩ := (ev_ok ht hy hu).to_R1 (by simp)
    simp only at hv
    have hpart : ∃ r, (part fl.type rs fl.offset).run P w = .ok r w ∧ R2 μ v r ∧ H' = H := by
      split at hv
      · rename_i hg
        split at hv
        · simp only [Option.some.injEq, Prod.mk.injEq] at hv
          obtain ⟨rfl, rfl⟩ := hv
          refine ⟨.agg (rs.extract fl.offset (fl.offset + i.size)), by simp [part, run_isAgg hd, hg, run_sizeOf hi], R2.of_R1 ⟨_, rfl, ?_⟩, rfl⟩
          simp only [Array.toList_extract, List.extract]
          exact (hrel.drop _).take _
        · cases hv
      · rename_i hg
        simp only [Option.bind_eq_some_iff, Option.some.injEq, Prod.mk.injEq] at hv
        obtain ⟨c, hc, rfl, rfl⟩ := hv
        obtain ⟨r, hr, hrc⟩ := hrel.get (i := fl.offset) (x := c) (by simpa using hc)
        have hr' : rs[fl.offset]? = some r := by simpa using hr
        exact ⟨r, by simp [part, run_isAgg hd, hg, hr'], R2.of_RC hrc, rfl⟩
    obtain ⟨r, hr, hR, hH⟩ := hpart
    refine valw (s := Instr.field s (a.eval x) f) (by simp only [execOp, hop]) ?_ hR hH
    simp [Instr.field, run_underlying (stF_some hfs), hfl, hxe, asAgg, hr]
  case indexAddr t x y =>
    simp only [Option.bind_eq_some_iff, Option.map_eq_some_iff] at hc
    obtain ⟨e, he, n, hn, x', hx', y', hy', rfl⟩ := hc
    obtain ⟨i, hi, rfl⟩ := szL_some hn
    simp only [vop, Option.bind_eq_some_iff] at hv
    obtain ⟨xv, hx, yv, hy, j, hj, hv⟩ := hv
    cases xv <;> try (cases hv; done)
    rename_i xa xn xc
    cases xa <;> try (cases hv; done)
    rename_i xa
    simp only at hv
    split at hv
    · rename_i hcond
      obtain ⟨rfl, h0, h1⟩ := hcond
      simp only [Option.some.injEq, Prod.mk.injEq] at hv
      obtain ⟨rfl, rfl⟩ := hv
      obtain ⟨k, rfl⟩ := asI_some hj
      obtain ⟨_, m, hm, hms, a', c, hxe, _, hnc, _, hpos⟩ := ev_ok ht hx' hx
      have hye := R2.int (ev_ok ht hy' hy)
      have hae := hpos (by omega)
      refine valw (r := .pointer (some ⟨m.b, m.o + (xa.off + j.toNat * i.size), none⟩)) (s := Instr.indexAt t (a.eval x) (a.eval y)) (by simp only [execOp, hop]) ?_ (R2.of_RC (v := .pointer (some ⟨xa.block, xa.off + j.toNat * i.size, none⟩)) ⟨rfl, m, hm, rfl⟩) rfl
      rw [hxe, hye, hae]
      simp [Instr.indexAt, asIntOf, run_underlying (slE_some he), run_sizeOf hi, h0, h1, addr_add, Nat.add_assoc]
    · cases hv
  case extract x ix =>
    obtain ⟨y, hy, rfl⟩ := one hc
    simp only [vop, Option.bind_eq_some_iff] at hv
    obtain ⟨u, hu, hv⟩ := hv
    cases u <;> try (cases hv; done)
    rename_i vs
    simp only [Option.bind_eq_some_iff, Option.some.injEq, Prod.mk.injEq] at hv
    obtain ⟨c, hc, rfl, rfl⟩ := hv
    obtain ⟨rs, hxe, hrel⟩ := ev_ok ht hy hu
    obtain ⟨r, hr, hrc⟩ := hrel.get (i := ix) (x := c) (by simpa using hc)
    have hr' : rs[ix]? = some r := by simpa using hr
    exact valw (s := Instr.extract (a.eval x) ix) (by simp only [execOp, hop]) (by simp [Instr.extract, hxe, hr']) (R2.of_R1 hrc) rfl
  case slice t x lo' hi' mx =>
    simp only [Option.bind_eq_some_iff] at hc
    obtain ⟨e, he, n, hn, hc⟩ := hc
    split at hc
    · cases hc
    · rename_i hn0
      simp only [Option.bind_eq_some_iff, Option.map_eq_some_iff] at hc
      obtain ⟨x', hx', l, hl, h, hh, m, hm, rfl⟩ := hc
      obtain ⟨l0, l1⟩ := sO ht hl
      obtain ⟨h0, h1⟩ := sO ht hh
      obtain ⟨m0, m1⟩ := sO ht hm
      simp only [vop, Option.bind_eq_some_iff] at hv
      obtain ⟨xv, hx, hv⟩ := hv
      have hxr := ev_ok ht hx' hx
      have fin : ∀ {lv hv' : Option Value} {u : Value}, m = none → vslice n xv lv hv' none = some u → (u, H) = (v, H') → (∀ z, lv = some z → ∃ r, lo'.map a.eval = some r ∧ R2 μ z r) → (lv = none → lo'.map a.eval = none) → (∀ z, hv' = some z → ∃ r, hi'.map a.eval = some r ∧ R2 μ z r) → (hv' = none → hi'.map a.eval = none) → o.wp P a w K Q := by
        intro lv hv' u hmn hu huv g1 g2 g3 g4
        cases huv
        have hmx := m0 hmn
        obtain ⟨r, hr, hR⟩ := slice_ok (P := P) he hn (by omega) hxr hu w g1 g2 g3 g4
        exact valw (s := Instr.sliceAt t (a.eval x) (lo'.map a.eval) (hi'.map a.eval) none) (by simp only [execOp, hop, hmx]) hr hR rfl
      cases l with
      | none =>
        cases h with
        | none =>
          cases m with
          | none =>
            simp only [Option.bind_eq_some_iff, Option.some.injEq] at hv
            obtain ⟨u, hu, huv⟩ := hv
            exact fin rfl hu huv (by simp) (fun _ => l0 rfl) (by simp) (fun _ => h0 rfl)
          | some m => cases hv
        | some h =>
          cases m with
          | none =>
            simp only [Option.bind_eq_some_iff, Option.some.injEq] at hv
            obtain ⟨hv1, hhv, u, hu, huv⟩ := hv
            exact fin rfl hu huv (by simp) (fun _ => l0 rfl) (fun z hz => by cases hz; exact h1 _ _ rfl hhv) (by simp)
          | some m =>
            simp only [Option.bind_eq_some_iff] at hv
            obtain ⟨hv1, hhv, mv, hmv, hv⟩ := hv
            obtain ⟨rh, hrh, hRh⟩ := h1 _ _ rfl hhv
            obtain ⟨rm, hrm, hRm⟩ := m1 _ _ rfl hmv
            have hl0 := l0 rfl
            obtain ⟨i, hi, rfl⟩ := szL_some hn
            cases xv <;> try (cases hv; done)
            rename_i xa xn xc
            have zero : asI hv1 = some 0 → asI mv = some 0 → ∃ k k', rh = .int k 0 ∧ rm = .int k' 0 := by
              intro e1 e2
              obtain ⟨k, rfl⟩ := asI_some e1
              obtain ⟨k', rfl⟩ := asI_some e2
              exact ⟨k, k', R2.int hRh, R2.int hRm⟩
            cases xa with
            | none =>
              simp only at hv
              split at hv
              · rename_i hcond
                cases hv
                obtain ⟨k, k', rfl, rfl⟩ := zero hcond.1 hcond.2.1
                obtain ⟨rfl, hxe⟩ := hxr
                refine valw (r := .slice none 0 0) (s := Instr.sliceAt t (a.eval x) (lo'.map a.eval) (hi'.map a.eval) (mx.map a.eval)) (by simp only [execOp, hop]) ?_ (R2.of_RC ⟨rfl, rfl⟩) rfl
                rw [hxe, hl0, hrh, hrm]
                simp [Instr.sliceAt, Instr.slice, Instr.sliceBounds, Instr.sliceBound, asIntOf, run_underlying (slE_some he), run_sizeOf hi]
              · cases hv
            | some xa =>
              simp only at hv
              split at hv
              · rename_i hcond
                cases hv
                obtain ⟨k, k', rfl, rfl⟩ := zero hcond.1 hcond.2.1
                obtain ⟨hsp, mm, hmm, hms, a', c, hxe, hsp', hnc, g0, gpos⟩ := hxr
                have hsp' : a'.spot = none := by
                  rcases Nat.eq_zero_or_pos xn with h00 | h00
                  · rw [(g0 (hcond.2.2.2.2 h00)).1]
                  · exact hsp' h00
                have hal := hs.empty ⟨a'.block, a'.off, 0, i.size⟩ rfl lo
                refine wp_val (r := .slice (some a') 0 0) (w' := w) ?_ (hK _ _ _ (R2.of_RC (v := .slice (some ⟨H.length, 0, none⟩) 0 i.size) ⟨rfl, _, upd_same _ _ _, rfl, a', 0, rfl, fun _ => hsp', Nat.le_refl _, fun _ => ⟨by cases a'; simp only at hsp' ⊢; subst hsp'; rfl, rfl⟩, fun h => absurd h (by omega)⟩) hal.1 hal.2)
                simp [execOp, hop, hxe, hl0, hrh, hrm, Instr.sliceAt, Instr.slice, Instr.sliceBounds, Instr.sliceBound, asIntOf, run_underlying (slE_some he), run_sizeOf hi]
              · cases hv
      | some l =>
        cases h with
        | none =>
          cases m with
          | none =>
            simp only [Option.bind_eq_some_iff, Option.some.injEq] at hv
            obtain ⟨lv1, hlv, u, hu, huv⟩ := hv
            exact fin rfl hu huv (fun z hz => by cases hz; exact l1 _ _ rfl hlv) (by simp) (by simp) (fun _ => h0 rfl)
          | some m => cases hv
        | some h =>
          cases m with
          | none =>
            simp only [Option.bind_eq_some_iff, Option.some.injEq] at hv
            obtain ⟨lv1, hlv, hv1, hhv, u, hu, huv⟩ := hv
            exact fin rfl hu huv (fun z hz => by cases hz; exact l1 _ _ rfl hlv) (by simp) (fun z hz => by cases hz; exact h1 _ _ rfl hhv) (by simp)
          | some m =>
            simp only [Option.bind_eq_some_iff] at hv
            obtain ⟨hv1, hhv, mv, hmv, hv⟩ := hv
            cases xv <;> try (cases hv; done)
            rename_i xa xn xc
            cases xa <;> simp at hv
  case call c =>
    simp only [Option.bind_eq_some_iff] at hc
    obtain ⟨args, hargs, hc⟩ := hc
    have go : ∀ {f : Nat} {vs cap capr : List Value} (fop : Operand), c.callee = .value fop → a.eval fop = .func (.func f) #[] capr.toArray → evs ts args = some vs → L2 (R2 μ) cap capr → call f (vs ++ cap) lo H = some (v, H') → o.wp P a w K Q := by
      intro f vs cap capr fop hcal hfop hvs hcap hcl
      have hel := (evs_ok ht hargs hvs).append hcap
      obtain ⟨⟨fn, hfn, hbody, hname⟩, hcalls⟩ := hcall f _ lo H v H' hcl hlo μ w _ hel hs
      have hrun : (execOp a.eval o).run P w = .ok (.enter f (c.args.toList.map a.eval ++ capr).toArray) w := by
        have hb : fn.body.isNone = false := by cases hx : fn.body <;> simp [hx] at hbody ⊢
        have hargs' : (#[] ++ c.args.map a.eval ++ capr.toArray) = (c.args.toList.map a.eval ++ capr).toArray := by
          apply Array.ext'
          simp
        simp only [execOp, hop, resolve, hcal, hfop, Deferred.ofValue, Sem.run_bind, Sem.run_pure, Result.andThen_ok, invoke, callFunc, run_program, hfn, hname, hb, Bool.false_eq_true, if_false, hargs']
      unfold Oper.wp
      rw [hrun, Oper.upon_enter]
      exact hcalls.mono fun e w' ⟨r, μ', he, h1, h2, h3⟩ => by
        subst he
        exact hK r w' μ' h1 h2 h3
    cases hcal : c.callee <;> rw [hcal] at hc <;> (try simp only at hc) <;> try (cases hc; done)
    case builtin b => exact bltin_ok hcal hop hargs hc hv ht hs hK
    case value fop =>
      cases fop <;> simp only [Option.some.injEq] at hc <;> try (cases hc; done)
      case tmp t =>
        subst hc
        simp only [vop, Option.bind_eq_some_iff] at hv
        obtain ⟨fv, hfv, vs, hvs, hv⟩ := hv
        cases fv <;> try (cases hv; done)
        rename_i fn fst cap
        cases fn <;> try (cases hv; done)
        rename_i f
        simp only at hv
        split at hv
        · obtain ⟨r, hr, hR⟩ := ht t _ hfv
          obtain ⟨hf0, capr, rfl, hcap⟩ := hR
          refine go (.tmp t) hcal (capr := capr.toList) ?_ hvs (hcap.mono fun x y h => R2.of_RC (by
            rw [RC_eq (by intro f a b e; subst e; exact h.elim)]; exact h)) hv
          simp [Act.eval, hr]
        · cases hv
      case func f =>
        subst hc
        simp only [vop, Option.bind_eq_some_iff] at hv
        obtain ⟨vs, hvs, hv⟩ := hv
        exact go (.func f) hcal (capr := []) rfl hvs .nil (by simpa using hv)
end
end Go.Proofs.Ytmcljallamhccaa.V
/-! A region: its operations one behind the other. -/
namespace Go.Proofs.Ytmcljallamhccaa.V
open Go
set_option linter.unusedVariables false
set_option linter.unusedSimpArgs false

/-- An operation of a region: its place and its guard are temporaries of the frame. -/
def compV (P : Program) (nt : Nat) (ops : Array Oper) (o : Oper) : Option VO :=
  if o.dst.all (· < nt) then (compO P o.op).bind fun vo => match o.guard with
    | none => some ⟨o.dst, none, vo⟩
    | some (j, b) => ((ops[j]?).bind (·.dst)).map fun t => ⟨o.dst, some (t, b), vo⟩
  else none
def compVs (P : Program) (nt : Nat) (ops : Array Oper) : List Oper → Option (List VO)
  | [] => some []
  | o :: r => (compV P nt ops o).bind fun v => (compVs P nt ops r).bind fun s => some (v :: s)

section
variable {P : Program}
theorem compV_some {nt : Nat} {ops : Array Oper} {o : Oper} {v : VO} (h : compV P nt ops o = some v) : (∀ t, o.dst = some t → t < nt) ∧ compO P o.op = some v.o ∧ v.d = o.dst ∧ ((o.guard = none ∧ v.g = none) ∨ ∃ j b t, o.guard = some (j, b) ∧ (ops[j]?).bind (·.dst) = some t ∧ v.g = some (t, b)) := by
  unfold compV at h
  split at h
  · rename_i hd
    simp only [Option.bind_eq_some_iff] at h
    obtain ⟨vo, hvo, h⟩ := h
    have hd' : ∀ t, o.dst = some t → t < nt := fun t ht => by simpa [ht] using hd
    cases hg : o.guard with
    | none => rw [hg] at h; simp only [Option.some.injEq] at h; subst h; exact ⟨hd', hvo, rfl, .inl ⟨rfl, rfl⟩⟩
    | some jb =>
      obtain ⟨j, b⟩ := jb
      rw [hg] at h
      obtain ⟨t, ht, rfl⟩ := Option.map_eq_some_iff.1 h
      exact ⟨hd', hvo, rfl, .inr ⟨j, b, t, rfl, ht, rfl⟩⟩
  · cases h
theorem R2.not_bool {μ : Mu} {v : Value} {b : Bool} (h : R2 μ v (.bool b)) : v = .bool b := by
  cases v
  case bool x => have := R2.boolv h; cases this; rfl
  case int k n => have := R2.int h; cases this
  case pointer a => cases a with
    | none => cases (show Value.bool b = .pointer none from h)
    | some a => obtain ⟨_, m, _, h⟩ := h; cases h
  case slice a n c => cases a with
    | none => obtain ⟨_, h⟩ := h; cases h
    | some a => obtain ⟨_, m, _, _, a', c', h, _⟩ := h; cases h
  case func f x y => obtain ⟨_, c, h, _⟩ := h; cases h
  case agg cs => obtain ⟨_, h, _⟩ := h; cases h
  case tuple cs => obtain ⟨_, h, _⟩ := h; cases h
  case string s => cases (show Value.bool b = .string s from h)
  all_goals exact (show False from h).elim
theorem wants_ok {μ : Mu} {ts : Ts} {a : Act} (ht : TR μ ts a) {nt : Nat} {ops : Array Oper} {o : Oper} {v : VO} (hc : compV P nt ops o = some v) {b : Bool} (hw : wants ts v.g = some b) : Region.wanted o (yielded ops a.tmps) = b := by
  obtain ⟨_, _, _, hg⟩ := compV_some hc
  rcases hg with ⟨h1, h2⟩ | ⟨j, b', t, h1, h2, h3⟩
  · rw [h2] at hw
    simp only [wants, Option.some.injEq] at hw
    subst hw
    simp [Region.wanted, h1]
  · rw [h3] at hw
    simp only [wants, Option.bind_eq_some_iff, Option.some.injEq] at hw
    obtain ⟨u, hu, hw⟩ := hw
    obtain ⟨r, hr, hR⟩ := ht t u hu
    simp only [Region.wanted, h1, yielded, h2, Option.bind_some, hr]
    by_cases hb : ∃ x, u = .bool x
    · obtain ⟨x, rfl⟩ := hb
      obtain rfl := R2.boolv hR
      rw [← hw]
      cases x <;> cases b' <;> rfl
    · have hnr : ∀ x, r ≠ .bool x := fun x e => hb ⟨x, (e ▸ hR).not_bool⟩
      have h5 : isB u b' = false := by
        cases u <;> first | rfl | exact absurd ⟨_, rfl⟩ hb
      rw [h5] at hw
      rw [← hw]
      cases r <;> first | rfl | exact absurd rfl (hnr _)

/-- What is known behind a piece of code. -/
def Fin (lo : Nat) (μ : Mu) (H : Hp) (w : World) (a : Act) (ts' : Ts) (H' : Hp) (a' : Act) (w' : World) : Prop :=
  ∃ μ', TR μ' ts' a' ∧ Sim μ' H' w' ∧ Stp lo μ H w μ' H' w' ∧ a'.tmps.size = a.tmps.size ∧ a'.defers = a.defers
theorem put_defers (a : Act) (d : Option Nat) (v : Value) : (a.put d v).defers = a.defers := by cases d <;> rfl

theorem vops_ok {call : Cal} (hcall : CalOK P call) {nt : Nat} {ops : Array Oper} {Q : Exit → Act → World → Prop} {lo : Nat} : ∀ (l : List Oper) (vl : List VO), compVs P nt ops l = some vl → ∀ {ts ts' : Ts} {H H' : Hp}, vops call lo vl ts H = some (ts', H') → lo ≤ H.length →
    ∀ {μ : Mu} {a : Act} {w : World}, TR μ ts a → Sim μ H w → a.tmps.size = nt → (∀ a' w', Fin lo μ H w a ts' H' a' w' → Q .normal a' w') → wpList P ops Q l a w
  | [], vl, hc, ts, ts', H, H', hv, hlo, μ, a, w, ht, hs, hn, hQ => by
    simp only [compVs, Option.some.injEq] at hc; subst hc
    simp only [vops, Option.some.injEq, Prod.mk.injEq] at hv
    obtain ⟨rfl, rfl⟩ := hv
    exact wpList_nil (hQ a w ⟨μ, ht, hs, Stp.refl _ _ _ _, rfl, rfl⟩)
  | o :: l, vl, hc, ts, ts', H, H', hv, hlo, μ, a, w, ht, hs, hn, hQ => by
    simp only [compVs, Option.bind_eq_some_iff, Option.some.injEq] at hc
    obtain ⟨vo, hvo, vl, hvl, rfl⟩ := hc
    obtain ⟨hd, hop, hdd, _⟩ := compV_some hvo
    simp only [vops, Option.bind_eq_some_iff] at hv
    obtain ⟨b, hb, hv⟩ := hv
    have hw := wants_ok ht hvo hb
    refine wpList_step fun K hK => ?_
    rw [hw]
    have hd' : ∀ t, o.dst = some t → t < a.tmps.size := fun t h => by rw [hn]; exact hd t h
    cases b
    · simp only [Bool.false_eq_true, if_false] at hv ⊢
      rw [hdd] at hv
      exact hK _ _ (vops_ok hcall l vl hvl hv hlo (ht.put R2.undef hd') hs (by rw [size_put]; exact hn) fun a' w' ⟨μ', h1, h2, h3, h4, h5⟩ => hQ a' w' ⟨μ', h1, h2, h3, by rw [h4, size_put], by rw [h5, put_defers]⟩)
    · simp only [if_true, Option.bind_eq_some_iff] at hv ⊢
      obtain ⟨⟨v, H1⟩, hv1, hv⟩ := hv
      simp only at hv
      rw [hdd] at hv
      refine op_ok hcall hop hv1 hlo ht hs fun r w1 μ1 hR hs1 hst => hK _ _ ?_
      exact vops_ok hcall l vl hvl hv (Nat.le_trans hlo hst.len) ((ht.ext hst.ext).put hR hd') hs1 (by rw [size_put]; exact hn) fun a' w' ⟨μ', h1, h2, h3, h4, h5⟩ => hQ a' w' ⟨μ', h1, h2, hst.trans h3, by rw [h4, size_put], by rw [h5, put_defers]⟩
end
end Go.Proofs.Ytmcljallamhccaa.V
/-! A region that draws its order: in whatever order its operations come, the program comes to what the machine computes in the order of the text. -/
namespace Go.Proofs.Ytmcljallamhccaa.V
open Go
set_option linter.unusedVariables false
set_option linter.unusedSimpArgs false

def optA : Option Arg → List Arg
  | none => []
  | some x => [x]
def VOp.args : VOp → List Arg
  | .mv x | .box x | .nilck x | .snil _ x | .not x | .conv _ x | .faddr _ x | .field _ _ _ x | .ext _ x | .len x | .clear _ _ x | .load _ _ x => [x]
  | .pick c a b => [c, a, b]
  | .new _ => []
  | .build _ ps | .bslice _ _ _ ps => ps.map (·.2.2)
  | .store _ a x => [a, x]
  | .bin _ x y | .beq _ x y | .iaddr _ x y | .append _ _ x y | .copy _ x y | .mx x y | .mn x y => [x, y]
  | .mkfn _ cap => cap
  | .mkslice _ _ _ l c => [l, c]
  | .slice _ x lo hi m => x :: (optA lo ++ optA hi ++ optA m)
  | .call _ args => args
  | .callv x args => x :: args
def tmpsA (l : List Arg) : List Nat := l.filterMap fun | .t n => some n | .c _ => none
def VO.looks (o : VO) : List Nat := tmpsA o.o.args ++ (match o.g with | some (t, _) => [t] | none => [])

theorem evs_congr {ts ts' : Ts} : ∀ {l : List Arg}, (∀ x ∈ l, ev ts x = ev ts' x) → evs ts l = evs ts' l
  | [], _ => rfl
  | x :: l, h => by simp only [evs]; rw [h x (by simp), evs_congr (fun y hy => h y (by simp [hy]))]
theorem vfill_congr {ts ts' : Ts} : ∀ {ps : List (Nat × Nat × Arg)} {cs : List Value}, (∀ x ∈ ps.map (·.2.2), ev ts x = ev ts' x) → vfill cs ts ps = vfill cs ts' ps
  | [], _, _ => rfl
  | (o, n, x) :: ps, cs, h => by
    simp only [vfill]
    rw [h x (by simp)]
    congr 1; funext v
    split
    · exact vfill_congr (fun y hy => h y (by simp only [List.map_cons, List.mem_cons]; exact .inr hy))
    · rfl
theorem vop_congr {call : Cal} {lo : Nat} {ts ts' : Ts} {H : Hp} {op : VOp} (h : ∀ x ∈ op.args, ev ts x = ev ts' x) : vop call lo ts H op = vop call lo ts' H op := by
  cases op <;> simp only [VOp.args] at h <;> simp only [vop]
  case build z ps => rw [vfill_congr h]
  case bslice st z n ps => rw [vfill_congr h]
  case mkfn f cap => rw [evs_congr h]
  case call f args => rw [evs_congr h]
  case callv x args => rw [h x (by simp), evs_congr (fun y hy => h y (by simp [hy]))]
  case pick c a b =>
    rw [h c (by simp)]
    congr 1; funext v
    cases v <;> try rfl
    rename_i t
    cases t
    · simp only [Bool.false_eq_true, if_false]; rw [h b (by simp)]
    · simp only [if_true]; rw [h a (by simp)]
  case slice st x lo' hi mx =>
    rw [h x (by simp)]
    congr 1; funext v
    cases lo' <;> cases hi <;> cases mx <;> simp only [optA, List.nil_append, List.append_nil, List.singleton_append, List.mem_cons, List.not_mem_nil, or_false, forall_eq_or_imp, forall_eq, List.cons_append] at h <;> simp only [h]
  all_goals (try simp only [List.mem_cons, List.not_mem_nil, or_false, forall_eq_or_imp, forall_eq] at h)
  all_goals (try simp only [h])

theorem rd_keep {H G : Hp} (h : ∀ i, i < H.length → G[i]? = H[i]?) {a : Addr} {v : Value} (hr : rd H a = some v) : rd G a = some v := by
  unfold rd at hr ⊢
  have hb : G.blk a.block = H.blk a.block := by
    unfold Hp.blk
    by_cases hl : a.block < H.length
    · rw [h _ hl]
    · have : H.blk a.block = none := by unfold Hp.blk; rw [List.getElem?_eq_none (by omega)]; rfl
      rw [this] at hr; cases hr
  rw [hb]; exact hr
theorem rdN_keep {H G : Hp} (h : ∀ i, i < H.length → G[i]? = H[i]?) {a : Addr} {n : Nat} {v : List Value} (hr : rdN H a n = some v) : rdN G a n = some v := by
  unfold rdN at hr ⊢
  have hb : G.blk a.block = H.blk a.block := by
    unfold Hp.blk
    by_cases hl : a.block < H.length
    · rw [h _ hl]
    · have : H.blk a.block = none := by unfold Hp.blk; rw [List.getElem?_eq_none (by omega)]; rfl
      rw [this] at hr; cases hr
  rw [hb]; exact hr
theorem vop_still {call : Cal} {lo lo' : Nat} {ts : Ts} {H H1 G : Hp} {op : VOp} {v : Value} (hst : op.still = true) (hv : vop call lo ts H op = some (v, H1)) (h : ∀ i, i < H.length → G[i]? = H[i]?) : vop call lo' ts G op = some (v, G) := by
  cases op <;> simp only [VOp.still, Bool.false_eq_true] at hst <;> simp only [vop] at hv ⊢
  case load g n x =>
    simp only [Option.bind_eq_some_iff] at hv ⊢
    obtain ⟨p, hp, hv⟩ := hv
    refine ⟨p, hp, ?_⟩
    cases p <;> try (cases hv; done)
    rename_i a
    cases a <;> try (cases hv; done)
    simp only at hv ⊢
    split at hv
    · simp only [Option.bind_eq_some_iff, Option.some.injEq, Prod.mk.injEq] at hv
      obtain ⟨cs, hcs, rfl, rfl⟩ := hv
      rw [if_pos ‹_›, rdN_keep h hcs]; rfl
    · simp only [Option.bind_eq_some_iff, Option.some.injEq, Prod.mk.injEq] at hv
      obtain ⟨cs, hcs, rfl, rfl⟩ := hv
      rw [if_neg ‹_›, rd_keep h hcs]; rfl
  case pick c a b =>
    simp only [Option.bind_eq_some_iff] at hv ⊢
    obtain ⟨p, hp, hv⟩ := hv
    refine ⟨p, hp, ?_⟩
    cases p <;> try (cases hv; done)
    simp only [Option.bind_eq_some_iff, Option.some.injEq, Prod.mk.injEq] at hv ⊢
    obtain ⟨u, hu, rfl, rfl⟩ := hv
    exact ⟨u, hu, rfl, trivial⟩
  case field g o n x =>
    simp only [Option.bind_eq_some_iff] at hv ⊢
    obtain ⟨p, hp, hv⟩ := hv
    refine ⟨p, hp, ?_⟩
    cases p <;> try (cases hv; done)
    simp only at hv ⊢
    split at hv
    · rw [if_pos ‹_›]
      split at hv
      · rw [if_pos ‹_›]; cases hv; rfl
      · cases hv
    · rw [if_neg ‹_›]
      simp only [Option.bind_eq_some_iff, Option.some.injEq, Prod.mk.injEq] at hv ⊢
      obtain ⟨u, hu, rfl, rfl⟩ := hv
      exact ⟨u, hu, rfl, trivial⟩
  case ext i x =>
    simp only [Option.bind_eq_some_iff] at hv ⊢
    obtain ⟨p, hp, hv⟩ := hv
    refine ⟨p, hp, ?_⟩
    cases p <;> try (cases hv; done)
    simp only [Option.bind_eq_some_iff, Option.some.injEq, Prod.mk.injEq] at hv ⊢
    obtain ⟨u, hu, rfl, rfl⟩ := hv
    exact ⟨u, hu, rfl, trivial⟩
  case mx x y =>
    simp only [Option.bind_eq_some_iff] at hv ⊢
    obtain ⟨p, hp, q, hq, hv⟩ := hv
    refine ⟨p, hp, q, hq, ?_⟩
    cases p <;> try (cases hv; done)
    cases q <;> try (cases hv; done)
    simp only at hv ⊢
    split at hv
    · rw [if_pos ‹_›]; cases hv; rfl
    · cases hv
  case mn x y =>
    simp only [Option.bind_eq_some_iff] at hv ⊢
    obtain ⟨p, hp, q, hq, hv⟩ := hv
    refine ⟨p, hp, q, hq, ?_⟩
    cases p <;> try (cases hv; done)
    cases q <;> try (cases hv; done)
    simp only at hv ⊢
    split at hv
    · rw [if_pos ‹_›]; cases hv; rfl
    · cases hv
  all_goals
    simp only [Option.bind_eq_some_iff] at hv ⊢
    first
    | (obtain ⟨x, hx, hv⟩ := hv; refine ⟨x, hx, ?_⟩; (repeat' split at hv) <;> simp_all; done)
    | (obtain ⟨x, hx, y, hy, hv⟩ := hv; refine ⟨x, hx, y, hy, ?_⟩; (repeat' split at hv) <;> simp_all; done)
    | (obtain ⟨x, hx, y, hy, z, hz, hv⟩ := hv; refine ⟨x, hx, y, hy, z, hz, ?_⟩; (repeat' split at hv) <;> simp_all; done)
    | skip
end Go.Proofs.Ytmcljallamhccaa.V
/-! A region that draws its order: the law. -/
namespace Go.Proofs.Ytmcljallamhccaa.V
open Go
set_option linter.unusedVariables false
set_option linter.unusedSimpArgs false

/-- Does j come before i, whatever the order? -/
def rch (ops : Array Oper) : Nat → Nat → Nat → Bool
  | 0, _, _ => false
  | f + 1, i, j => match ops[i]? with
    | some o => o.after.any fun e => Region.binds .any e && (decide (j ≤ e.on) && (e.on == j || rch ops f e.on j))
    | none => false
def conf (v u : VO) : Bool :=
  (match u.d with | some d => v.looks.contains d || v.d == some d | none => false) || (match v.d with | some d => u.looks.contains d | none => false) || (!v.o.still && !u.o.still)
def drawOK (ops : Array Oper) (vl : List VO) (n0 : Nat) : Bool :=
  (List.range ops.size).all fun i => match ops[i]?, vl[i]? with
    | some o, some v => o.after.all (fun e => !Region.binds .any e || decide (e.on < i)) && (List.range i).all fun j => match vl[j]? with
      | some u => !(decide (n0 ≤ i) || conf v u) || rch ops 24 i j
      | none => false
    | _, _ => false

def cntF : List Bool → Nat
  | [] => 0
  | true :: r => cntF r
  | false :: r => cntF r + 1
theorem cntF_set : ∀ (l : List Bool) (i : Nat), l[i]? = some false → cntF (l.set i true) + 1 = cntF l
  | [], i, h => by simp at h
  | b :: r, 0, h => by simp at h; subst h; rfl
  | b :: r, i + 1, h => by
    have := cntF_set r i (by simpa using h)
    cases b <;> simp only [List.set_cons_succ, cntF] <;> omega
theorem cntF_zero : ∀ (l : List Bool) (i : Nat), cntF l = 0 → l[i]? ≠ some false
  | [], i, _ => by simp
  | b :: r, 0, h => by cases b <;> simp [cntF] at h ⊢
  | b :: r, i + 1, h => by
    have := cntF_zero r i (by cases b <;> simp [cntF] at h ⊢; exact h)
    simpa using this

/-- The temporaries when the operations of S have come. -/
def tsS (S : Nat → Bool) (vals : Nat → Value) : List VO → Nat → Ts → Ts
  | [], _, ts => ts
  | o :: r, k, ts => tsS S vals r (k + 1) (if S k then put ts o.d (vals k) else ts)
theorem lk_put {ts : Ts} {d : Option Nat} {v : Value} {t : Nat} : lk (put ts d v) t = if d = some t then some v else lk ts t := by
  cases d with
  | none => simp [put]
  | some d => simp only [put, lk]; by_cases h : d = t <;> simp [h]
theorem tsS_congr {S S' : Nat → Bool} {vals : Nat → Value} {t : Nat} : ∀ (l : List VO) (k : Nat) {ts ts' : Ts}, (∀ j o, l[j]? = some o → o.d = some t → S (k + j) = S' (k + j)) → lk ts t = lk ts' t → lk (tsS S vals l k ts) t = lk (tsS S' vals l k ts') t
  | [], _, _, _, _, h => h
  | o :: r, k, ts, ts', h, hl => by
    refine tsS_congr r (k + 1) (fun j u hj hd => by have := h (j + 1) u (by simpa using hj) hd; rwa [Nat.add_assoc, Nat.add_comm 1 j]) ?_
    by_cases hd : o.d = some t
    · have := h 0 o rfl hd
      rw [Nat.add_zero] at this
      rw [this]
      cases S' k <;> simp [lk_put, hl]
    · cases S k <;> cases S' k <;> simp [lk_put, hd, hl]
theorem tsS_at {S : Nat → Bool} {vals : Nat → Value} {t : Nat} : ∀ (l : List VO) (k i : Nat) {ts : Ts} {o : VO}, l[i]? = some o → o.d = some t → S (k + i) = true → (∀ j u, i < j → l[j]? = some u → u.d = some t → S (k + j) = false) → lk (tsS S vals l k ts) t = some (vals (k + i))
  | [], _, _, _, _, h, _, _, _ => by simp at h
  | o :: r, k, 0, ts, u, h, hd, hS, hn => by
    simp only [List.getElem?_cons_zero, Option.some.injEq] at h; subst h
    simp only [Nat.add_zero] at hS ⊢
    simp only [tsS, hS, if_true]
    have := tsS_congr (S := S) (S' := fun _ => false) (vals := vals) (t := t) r (k + 1) (ts := put ts o.d (vals k)) (ts' := put ts o.d (vals k)) (fun j u hj hd => by
      have := hn (j + 1) u (by omega) (by simpa using hj) hd
      rwa [Nat.add_assoc, Nat.add_comm 1 j]) rfl
    rw [this]
    have nil : ∀ (l : List VO) (k : Nat) (ts : Ts), tsS (fun _ => false) vals l k ts = ts := by
      intro l
      induction l with
      | nil => intro k ts; rfl
      | cons x l ih => intro k ts; simp [tsS, ih]
    rw [nil, lk_put, if_pos hd]
  | o :: r, k, i + 1, ts, u, h, hd, hS, hn => by
    have := tsS_at (vals := vals) r (k + 1) i (ts := if S k then put ts o.d (vals k) else ts) (by simpa using h) hd (by rw [Nat.add_assoc, Nat.add_comm 1 i]; exact hS) (fun j x hj hx hxd => by
      have := hn (j + 1) x (by omega) (by simpa using hx) hxd
      rwa [Nat.add_assoc, Nat.add_comm 1 j])
    simp only [tsS]
    rw [this, Nat.add_assoc, Nat.add_comm 1 i]

def StepAt (call : Cal) (H0 : Hp) (o : VO) (ts : Ts) (v : Value) (h h' : Hp) : Prop :=
  ∃ b, wants ts o.g = some b ∧ if b = true then (if o.o.still = true then (∃ H1, vop call 0 ts H0 o.o = some (v, H1)) ∧ h' = h else vop call h.length ts h o.o = some (v, h')) else v = .tuple #[] ∧ h' = h
theorem tsS_shift {S : Nat → Bool} {vals : Nat → Value} : ∀ (l : List VO) (k : Nat) (ts : Ts), tsS S vals l (k + 1) ts = tsS (fun j => S (j + 1)) (fun j => vals (j + 1)) l k ts
  | [], _, _ => rfl
  | o :: r, k, ts => by simp only [tsS]; exact tsS_shift r (k + 1) _
/-- What a run of the free part has gone through. -/
theorem trace {call : Cal} {H0 : Hp} : ∀ (l : List VO) {ts ts' : Ts} {H H' : Hp}, vfree call H0 l ts H = some (ts', H') → ∃ (vals : Nat → Value) (hs : Nat → Hp), hs 0 = H ∧ hs l.length = H' ∧ ts' = tsS (fun _ => true) vals l 0 ts ∧
    ∀ (i : Nat) o, l[i]? = some o → StepAt call H0 o (tsS (fun j => decide (j < i)) vals l 0 ts) (vals i) (hs i) (hs (i + 1))
  | [], ts, ts', H, H', h => by
    simp only [vfree, Option.some.injEq, Prod.mk.injEq] at h
    obtain ⟨rfl, rfl⟩ := h
    exact ⟨fun _ => .tuple #[], fun _ => H, rfl, rfl, rfl, fun i o h => by simp at h⟩
  | o :: r, ts, ts', H, H', h => by
    simp only [vfree, Option.bind_eq_some_iff] at h
    obtain ⟨b, hb, h⟩ := h
    have fin : ∀ (v : Value) (H1 : Hp), StepAt call H0 o ts v H H1 → vfree call H0 r (put ts o.d v) H1 = some (ts', H') → ∃ (vals : Nat → Value) (hs : Nat → Hp), hs 0 = H ∧ hs (o :: r).length = H' ∧ ts' = tsS (fun _ => true) vals (o :: r) 0 ts ∧
        ∀ (i : Nat) u, (o :: r)[i]? = some u → StepAt call H0 u (tsS (fun j => decide (j < i)) vals (o :: r) 0 ts) (vals i) (hs i) (hs (i + 1)) := by
      intro v H1 hst hr
      obtain ⟨vals, hs, h0, hl, ht, hstep⟩ := trace r hr
      refine ⟨fun i => match i with | 0 => v | i + 1 => vals i, fun i => match i with | 0 => H | i + 1 => hs i, rfl, hl, ?_, ?_⟩
      · simp only [tsS, if_true]
        rw [tsS_shift]
        exact ht
      · intro i u hu
        cases i with
        | zero =>
          simp only [List.getElem?_cons_zero, Option.some.injEq] at hu; subst hu
          simp only [tsS, Nat.lt_irrefl, decide_false, Bool.false_eq_true, if_false]
          have : ∀ (l : List VO) (k : Nat) (ts : Ts) (vals : Nat → Value), tsS (fun j => decide (j < 0)) vals l k ts = ts := by
            intro l
            induction l with
            | nil => intro k ts vals; rfl
            | cons x l ih => intro k ts vals; simp [tsS] at ih ⊢; exact ih _ _ _
          rw [this, h0]
          exact hst
        | succ i =>
          have := hstep i u (by simpa using hu)
          simp only [tsS, Nat.zero_lt_succ, decide_true, if_true]
          rw [tsS_shift]
          simpa using this
    cases b with
    | false =>
      simp only [Bool.false_eq_true, if_false] at h
      exact fin _ H ⟨false, hb, by simp⟩ h
    | true =>
      simp only [if_true] at h
      by_cases hs : o.o.still = true
      · rw [if_pos hs] at h
        simp only [Option.bind_eq_some_iff] at h
        obtain ⟨⟨v, H1⟩, hv, h⟩ := h
        exact fin v H ⟨true, hb, by rw [if_pos rfl, if_pos hs]; exact ⟨⟨H1, hv⟩, rfl⟩⟩ h
      · rw [if_neg hs] at h
        simp only [Option.bind_eq_some_iff] at h
        obtain ⟨⟨v, H1⟩, hv, h⟩ := h
        exact fin v H1 ⟨true, hb, by rw [if_pos rfl, if_neg hs]; exact hv⟩ h
end Go.Proofs.Ytmcljallamhccaa.V
/-! A region that draws its order: the proof. -/
namespace Go.Proofs.Ytmcljallamhccaa.V
open Go
set_option linter.unusedVariables false
set_option linter.unusedSimpArgs false
section
variable {P : Program} {ops : Array Oper}
def closedS (ops : Array Oper) (listed : Array Bool) : Prop := ∀ (i : Nat) o, ops[i]? = some o → listed.getD i false = true → ∀ e ∈ o.after, Region.binds .any e = true → listed.getD e.on false = true
theorem rch_ok {listed : Array Bool} (hc : closedS ops listed) : ∀ (f i j : Nat), rch ops f i j = true → (∀ o, ops[i]? = some o → ∀ e ∈ o.after, Region.binds .any e = true → listed.getD e.on false = true) → listed.getD j false = true
  | 0, i, j, h, _ => by simp [rch] at h
  | f + 1, i, j, h, hi => by
    simp only [rch] at h
    cases ho : ops[i]? with
    | none => rw [ho] at h; cases h
    | some o =>
      rw [ho] at h
      simp only [Array.any_eq_true', Bool.and_eq_true, Bool.or_eq_true, beq_iff_eq, decide_eq_true_eq] at h
      obtain ⟨e, he, hb, _, hor⟩ := h
      have hl := hi o ho e he hb
      rcases hor with rfl | hr
      · exact hl
      · exact rch_ok hc f e.on j hr fun o' ho' e' he' hb' => hc e.on o' ho' hl e' he' hb'
theorem compVs_get {nt : Nat} : ∀ {l : List Oper} {vl : List VO}, compVs P nt ops l = some vl → l.length = vl.length ∧ ∀ (i : Nat) o, l[i]? = some o → ∃ v, vl[i]? = some v ∧ compV P nt ops o = some v
  | [], vl, h => by
    simp only [compVs, Option.some.injEq] at h; subst h
    exact ⟨rfl, fun i o h => by simp at h⟩
  | x :: r, vl, h => by
    simp only [compVs, Option.bind_eq_some_iff, Option.some.injEq] at h
    obtain ⟨v, hv, s, hs, rfl⟩ := h
    obtain ⟨h1, h2⟩ := compVs_get hs
    refine ⟨by simp [h1], fun i o hi => ?_⟩
    cases i with
    | zero => simp only [List.getElem?_cons_zero, Option.some.injEq] at hi; subst hi; exact ⟨v, rfl, hv⟩
    | succ i => simpa using h2 i o (by simpa using hi)

/-- What the check of a region gives. -/
structure OK (ops : Array Oper) (vl : List VO) (n0 : Nat) : Prop where
  edge : ∀ (i : Nat) o, ops[i]? = some o → ∀ e ∈ o.after, Region.binds .any e = true → e.on < i
  ord : ∀ (i j : Nat) v u, vl[i]? = some v → vl[j]? = some u → j < i → (n0 ≤ i ∨ conf v u = true) → rch ops 24 i j = true
theorem drawOK_spec {vl : List VO} {n0 : Nat} (hl : ops.size = vl.length) (h : drawOK ops vl n0 = true) : OK ops vl n0 := by
  unfold drawOK at h
  simp only [List.all_eq_true, List.mem_range] at h
  have key : ∀ (i : Nat) o v, ops[i]? = some o → vl[i]? = some v → (∀ e ∈ o.after, Region.binds .any e = true → e.on < i) ∧ ∀ j u, j < i → vl[j]? = some u → (n0 ≤ i ∨ conf v u = true) → rch ops 24 i j = true := by
    intro i o v ho hv
    have h1 := h i (Array.getElem?_eq_some_iff.1 ho).1
    rw [ho, hv] at h1
    simp only [Bool.and_eq_true, Array.all_eq_true_iff_forall_mem, Bool.or_eq_true, Bool.not_eq_true', decide_eq_true_eq, List.all_eq_true, List.mem_range] at h1
    refine ⟨fun e he hb => ?_, fun j u hj hu hc => ?_⟩
    · rcases h1.1 e he with h2 | h2
      · rw [hb] at h2; cases h2
      · exact h2
    · have h2 := h1.2 j hj
      rw [hu] at h2
      simp only [Bool.or_eq_true, Bool.not_eq_true', Bool.or_eq_false_iff, decide_eq_false_iff_not] at h2
      rcases h2 with h2 | h2
      · rcases hc with hc | hc
        · exact absurd hc h2.1
        · rw [hc] at h2; cases h2.2
      · exact h2
  refine ⟨fun i o ho => ?_, fun i j v u hv hu hj hc => ?_⟩
  · have hlt : i < vl.length := by rw [← hl]; exact (Array.getElem?_eq_some_iff.1 ho).1
    exact (key i o vl[i] ho (List.getElem?_eq_getElem hlt)).1
  · have hlt : i < ops.size := by rw [hl]; exact (List.getElem?_eq_some_iff.1 hv).1
    exact (key i ops[i] v (Array.getElem?_eq_getElem hlt) hv).2 j u hj hu hc

theorem getD_set {listed : Array Bool} {i j : Nat} (hi : i < listed.size) : (listed.setIfInBounds i true).getD j false = (decide (j = i) || listed.getD j false) := by
  by_cases h : j = i
  · subst h; simp [hi]
  · have := getD_set_ne (listed := listed) (i := i) (j := j) false (Ne.symm h)
    rw [this]; simp [h]
theorem not_listed {listed : Array Bool} {i : Nat} (h : listed.getD i true = false) : i < listed.size ∧ listed.getD i false = false ∧ listed.toList[i]? = some false := by
  rcases Nat.lt_or_ge i listed.size with h' | h'
  · refine ⟨h', ?_, ?_⟩ <;> simp [h'] at h ⊢ <;> exact h
  · simp [Array.getElem?_eq_none h'] at h
theorem ready_none {listed : Array Bool} (h : ∀ i, i < ops.size → listed.getD i false = true) (hs : listed.size = ops.size) : Region.ready .any ops listed = [] := by
  rw [List.eq_nil_iff_forall_not_mem]
  intro i hi
  obtain ⟨h1, o, ho, _⟩ := mem_ready.1 hi
  have := not_listed h1
  rw [h i (Array.getElem?_eq_some_iff.1 ho).1] at this
  cases this.2.1
theorem ready_some {vl : List VO} {n0 : Nat} (hok : OK ops vl n0) {listed : Array Bool} (hs : listed.size = ops.size) {j : Nat} (hj : j < ops.size) (hl : listed.getD j false = false) : Region.ready .any ops listed ≠ [] := by
  have key : ∀ (m j : Nat), j ≤ m → j < ops.size → listed.getD j false = false → ∃ i, i ∈ Region.ready .any ops listed := by
    intro m
    induction m with
    | zero =>
      intro j hjm hj hl
      obtain rfl : j = 0 := by omega
      refine ⟨0, mem_ready.2 ⟨by simp [hs, hj] at hl ⊢; exact hl, ops[0], Array.getElem?_eq_getElem hj, fun e he hb => ?_⟩⟩
      exact absurd (hok.edge 0 _ (Array.getElem?_eq_getElem hj) e he hb) (by omega)
    | succ m ih =>
      intro j hjm hj hl
      by_cases hex : ∃ k, k < j ∧ listed.getD k false = false
      · obtain ⟨k, hk, hkl⟩ := hex
        exact ih k (by omega) (by omega) hkl
      · refine ⟨j, mem_ready.2 ⟨by simp [hs, hj] at hl ⊢; exact hl, ops[j], Array.getElem?_eq_getElem hj, fun e he hb => ?_⟩⟩
        have hlt := hok.edge j _ (Array.getElem?_eq_getElem hj) e he hb
        cases hv : listed.getD e.on false with
        | true => rfl
        | false => exact absurd ⟨e.on, hlt, hv⟩ hex
  obtain ⟨i, hi⟩ := key j j (Nat.le_refl _) hj hl
  intro h0
  rw [h0] at hi
  cases hi

variable {call : Cal} (hcall : CalOK P call) {nt : Nat} {vl : List VO} (hvl : compVs P nt ops ops.toList = some vl) {n0 : Nat} (hok : OK ops vl n0) {lo : Nat} {Q : Exit → Act → World → Prop}
include hcall hvl hok

/-- Behind the free part: one behind the other. -/
theorem seq_ok {ts' : Ts} {H' : Hp} : ∀ (fuel k : Nat), n0 ≤ k → k ≤ ops.size → ∀ {listed : Array Bool}, listed.size = ops.size → (∀ j, j < ops.size → listed.getD j false = decide (j < k)) → cntF listed.toList ≤ fuel → closedS ops listed →
    ∀ {ts : Ts} {H : Hp}, vops call lo (vl.drop k) ts H = some (ts', H') → lo ≤ H.length → ∀ {μ : Mu} {a : Act} {w : World}, TR μ ts a → Sim μ H w → a.tmps.size = nt → (∀ a' w', Fin lo μ H w a ts' H' a' w' → Q .normal a' w') → wpAny P .any ops Q fuel listed a w := by
  obtain ⟨hlen, hget⟩ := compVs_get hvl
  rw [Array.length_toList] at hlen
  intro fuel
  induction fuel with
  | zero =>
    intro k hk hkn listed hls hlist hcnt _ ts H hv hlo μ a w ht hs hn hQ
    have hall : ∀ j, j < ops.size → listed.getD j false = true := by
      intro j hj
      cases hx : listed.getD j false with
      | true => rfl
      | false =>
        have h1 := cntF_zero listed.toList j (by omega)
        exact absurd (by simp [hls, hj] at hx ⊢; exact hx) h1
    have hk' : k = ops.size := by
      rcases Nat.lt_or_ge k ops.size with h | h
      · have h1 := hlist k h; rw [hall k h] at h1; simp at h1
      · omega
    rw [List.drop_eq_nil_of_le (by omega)] at hv
    simp only [vops, Option.some.injEq, Prod.mk.injEq] at hv
    obtain ⟨rfl, rfl⟩ := hv
    exact ⟨ready_none hall hls, hQ a w ⟨μ, ht, hs, Stp.refl _ _ _ _, rfl, rfl⟩⟩
  | succ fuel ih =>
    intro k hk hkn listed hls hlist hcnt hcl ts H hv hlo μ a w ht hs hn hQ
    rcases Nat.lt_or_ge k ops.size with hlt | hge
    · refine ⟨fun h0 => absurd h0 (ready_some hok hls hlt (by rw [hlist k hlt]; simp)), fun i hi => ?_⟩
      obtain ⟨h1, o, ho, hedge⟩ := mem_ready.1 hi
      obtain ⟨hil, hif, hit⟩ := not_listed h1
      have hin : i < ops.size := (Array.getElem?_eq_some_iff.1 ho).1
      have hki : k ≤ i := by
        have := hlist i hin; rw [hif] at this; simp at this; exact this
      obtain ⟨v, hvi, hcomp⟩ := hget i o (by simpa using ho)
      have hik : i = k := by
        rcases Nat.lt_or_ge k i with h | h
        · have hr := hok.ord i k v (vl[k]'(by omega)) hvi (List.getElem?_eq_getElem (by omega)) h (.inl (by omega))
          have := rch_ok hcl 24 i k hr fun o' ho' e he hb => by rw [ho] at ho'; cases ho'; exact hedge e he hb
          rw [hlist k hlt] at this; simp at this
        · omega
      subst hik
      have hdrop : vl.drop i = v :: vl.drop (i + 1) := by
        rw [List.drop_eq_getElem_cons (by omega)]
        congr 1
        exact (List.getElem?_eq_some_iff.1 hvi).2
      rw [hdrop] at hv
      obtain ⟨hd, hop, hdd, _⟩ := compV_some hcomp
      simp only [vops, Option.bind_eq_some_iff] at hv
      obtain ⟨b, hb, hv⟩ := hv
      have hw := wants_ok ht hcomp hb
      have hd' : ∀ t, o.dst = some t → t < a.tmps.size := fun t h => by rw [hn]; exact hd t h
      have hlist' : ∀ j, j < ops.size → (listed.setIfInBounds i true).getD j false = decide (j < i + 1) := fun j hj => by
        rw [getD_set hil, hlist j hj]
        by_cases h1 : j < i
        · simp [h1]; omega
        · by_cases h2 : j = i
          · simp [h2]
          · simp [h1, h2]; omega
      have hcl' : closedS ops (listed.setIfInBounds i true) := by
        intro i' o' ho' hl' e he hb'
        by_cases hii : i' = i
        · subst hii
          rw [ho] at ho'; cases ho'
          exact getD_set_true (hedge e he hb')
        · rw [getD_set_ne false (Ne.symm hii)] at hl'
          exact getD_set_true (hcl i' o' ho' hl' e he hb')
      have hcnt' : cntF (listed.setIfInBounds i true).toList ≤ fuel := by
        rw [Array.toList_setIfInBounds]
        have := cntF_set listed.toList i hit
        omega
      unfold wpOp
      rw [ho]
      simp only
      rw [hw]
      cases b
      · simp only [Bool.false_eq_true, if_false] at hv ⊢
        rw [hdd] at hv
        exact ih (i + 1) (by omega) (by omega) (by simpa using hls) hlist' hcnt' hcl' hv hlo (ht.put R2.undef hd') hs (by rw [size_put]; exact hn) fun a' w' ⟨μ', h1, h2, h3, h4, h5⟩ => hQ a' w' ⟨μ', h1, h2, h3, by rw [h4, size_put], by rw [h5, put_defers]⟩
      · simp only [if_true, Option.bind_eq_some_iff] at hv ⊢
        obtain ⟨⟨x, H1⟩, hv1, hv⟩ := hv
        simp only at hv
        rw [hdd] at hv
        refine .inl (op_ok hcall hop hv1 hlo ht hs fun r w1 μ1 hR hs1 hst => ?_)
        exact ih (i + 1) (by omega) (by omega) (by simpa using hls) hlist' hcnt' hcl' hv (Nat.le_trans hlo hst.len) ((ht.ext hst.ext).put hR hd') hs1 (by rw [size_put]; exact hn) fun a' w' ⟨μ', h1, h2, h3, h4, h5⟩ => hQ a' w' ⟨μ', h1, h2, hst.trans h3, by rw [h4, size_put], by rw [h5, put_defers]⟩
    · obtain rfl : k = ops.size := by omega
      rw [List.drop_eq_nil_of_le (by omega)] at hv
      simp only [vops, Option.some.injEq, Prod.mk.injEq] at hv
      obtain ⟨rfl, rfl⟩ := hv
      have hall : ∀ j, j < ops.size → listed.getD j false = true := fun j hj => by rw [hlist j hj]; simp [hj]
      exact wpAny_done (ready_none hall hls) (hQ a w ⟨μ, ht, hs, Stp.refl _ _ _ _, rfl, rfl⟩) _
end
end Go.Proofs.Ytmcljallamhccaa.V
/-! A region that draws its order: its free part, in whatever order. -/
namespace Go.Proofs.Ytmcljallamhccaa.V
open Go
set_option linter.unusedVariables false
set_option linter.unusedSimpArgs false
section
variable {P : Program} {ops : Array Oper}
variable {call : Cal} (hcall : CalOK P call) {nt : Nat} {vl : List VO} (hvl : compVs P nt ops ops.toList = some vl) {n0 : Nat} (hok : OK ops vl n0) {lo : Nat} {Q : Exit → Act → World → Prop}

theorem mem_looks {v : VO} {t : Nat} (h : Arg.t t ∈ v.o.args) : t ∈ v.looks := by
  simp only [VO.looks, List.mem_append, tmpsA]
  exact .inl (List.mem_filterMap.2 ⟨.t t, h, rfl⟩)
theorem conf_write {v u : VO} {t : Nat} (h1 : u.d = some t) (h2 : t ∈ v.looks) : conf v u = true := by
  simp only [conf, h1, Bool.or_eq_true, List.contains_iff_mem]
  exact .inl (.inl (.inl h2))
theorem conf_write' {v u : VO} {t : Nat} (h1 : v.d = some t) (h2 : t ∈ u.looks) : conf v u = true := by
  simp only [conf, h1, Bool.or_eq_true, List.contains_iff_mem]
  exact .inl (.inr h2)
theorem conf_both {v u : VO} {t : Nat} (h1 : v.d = some t) (h2 : u.d = some t) : conf v u = true := by
  simp [conf, h1, h2]
theorem conf_comm (v u : VO) : conf v u = conf u v := by
  unfold conf
  rw [Bool.and_comm (!u.o.still)]
  generalize (!v.o.still && !u.o.still) = r
  cases u.d with
  | none => cases v.d with
    | none => rfl
    | some e => simp
  | some d => cases v.d with
    | none => simp
    | some e =>
      have h : ((some e : Option Nat) == some d) = (some d == some e) := BEq.comm
      simp only [h]
      generalize v.looks.contains d = p
      generalize u.looks.contains e = q
      generalize ((some d : Option Nat) == some e) = s
      cases p <;> cases q <;> cases r <;> cases s <;> rfl
theorem conf_active {v u : VO} (h1 : v.o.still = false) (h2 : u.o.still = false) : conf v u = true := by
  simp [conf, h1, h2]

include hcall hvl hok
theorem free_ok {ts0 ts' : Ts} {H0 H' : Hp} {vals : Nat → Value} {hs : Nat → Hp} (hn0 : n0 ≤ vl.length)
    (hstep : ∀ (i : Nat) o, (vl.take n0)[i]? = some o → StepAt call H0 o (tsS (fun j => decide (j < i)) vals (vl.take n0) 0 ts0) (vals i) (hs i) (hs (i + 1)))
    (hseq : vops call lo (vl.drop n0) (tsS (fun _ => true) vals (vl.take n0) 0 ts0) (hs n0) = some (ts', H')) (hlo : lo ≤ H0.length) {μ0 : Mu} {w0 : World} {a0 : Act} (ha0 : a0.tmps.size = nt)
    (hs0 : Sim μ0 H0 w0) (hQ : ∀ a' w', Fin lo μ0 H0 w0 a0 ts' H' a' w' → Q .normal a' w') : ∀ (fuel : Nat) {listed : Array Bool}, listed.size = ops.size → closedS ops listed → (∀ j, listed.getD j false = true → j < n0) → cntF listed.toList ≤ fuel →
    ∀ {μ : Mu} {a : Act} {w : World} {p : Nat}, TR μ (tsS (fun j => listed.getD j false) vals (vl.take n0) 0 ts0) a → a.tmps.size = nt → a.defers = a0.defers → p ≤ n0 → (∀ (j : Nat) u, j < p → vl[j]? = some u → u.o.still = false → listed.getD j false = true) →
      (∀ (j : Nat) u, p ≤ j → j < n0 → vl[j]? = some u → u.o.still = false → listed.getD j false = false) → Sim μ (hs p) w → (∀ i, i < H0.length → (hs p)[i]? = H0[i]?) → H0.length ≤ (hs p).length → Stp lo μ0 H0 w0 μ (hs p) w → wpAny P .any ops Q fuel listed a w := by
  obtain ⟨hlen, hget⟩ := compVs_get hvl
  rw [Array.length_toList] at hlen
  have hconst : ∀ (p q : Nat), p ≤ q → q ≤ n0 → (∀ (j : Nat) u, p ≤ j → j < q → vl[j]? = some u → u.o.still = true) → hs q = hs p := by
    intro p q hpq hq hst
    induction q with
    | zero => obtain rfl : p = 0 := by omega
              rfl
    | succ q ih =>
      rcases Nat.lt_or_ge q p with h | h
      · obtain rfl : p = q + 1 := by omega
        rfl
      · rw [← ih h (by omega) fun j u hj hj2 => hst j u hj (by omega)]
        have hlt : q < vl.length := by omega
        have hv := List.getElem?_eq_getElem hlt
        obtain ⟨b, _, hb⟩ := hstep q vl[q] (by rw [List.getElem?_take, if_pos (by omega)]; exact hv)
        rw [hst q _ h (by omega) hv] at hb
        cases b
        · simp only [Bool.false_eq_true, if_false] at hb; exact hb.2
        · simp only [if_true] at hb; exact hb.2
  intro fuel
  induction fuel with
  | zero =>
    intro listed hls hcl hfree hcnt μ a w p ht hn hdef hp hact1 hact2 hsim hlow hlen0 hst
    -- all is listed, so there is no rest
    have hall : ∀ j, j < ops.size → listed.getD j false = true := by
      intro j hj
      cases hx : listed.getD j false with
      | true => rfl
      | false =>
        have h1 := cntF_zero listed.toList j (by omega)
        exact absurd (by simp [hls, hj] at hx ⊢; exact hx) h1
    have hn : n0 = ops.size := by
      rcases Nat.lt_or_ge n0 ops.size with h | h
      · have := hfree n0 (hall n0 h); omega
      · omega
    have hp' : hs n0 = hs p := hconst p n0 hp (Nat.le_refl _) fun j u hj hj2 hu => by
      cases hx : u.o.still with
      | true => rfl
      | false => have := hact2 j u hj hj2 hu hx; rw [hall j (by omega)] at this; cases this
    have hts : TR μ (tsS (fun _ => true) vals (vl.take n0) 0 ts0) a := fun t v hv => ht t v (by
      rw [← hv]
      exact tsS_congr _ _ (fun j o hj _ => by
        have : j < (vl.take n0).length := (List.getElem?_eq_some_iff.1 hj).1
        simp only [List.length_take] at this
        simp only [Nat.zero_add]; exact hall j (by omega)) rfl)
    rw [hp'] at hseq
    refine seq_ok hcall hvl hok 0 n0 (Nat.le_refl _) (by omega) hls (fun j hj => by rw [hall j hj]; simp; omega) hcnt hcl hseq (Nat.le_trans hlo hlen0) hts hsim (by assumption) fun a' w' ⟨μ', h1, h2, h3, h4, h5⟩ => hQ a' w' ⟨μ', h1, h2, hst.trans h3, by rw [h4, ha0]; assumption, by rw [h5, hdef]⟩
  | succ fuel ih =>
    intro listed hls hcl hfree hcnt μ a w p ht hn hdef hp hact1 hact2 hsim hlow hlen0 hst
    by_cases hall : ∀ j, j < n0 → listed.getD j false = true
    · have hp' : hs n0 = hs p := hconst p n0 hp (Nat.le_refl _) fun j u hj hj2 hu => by
        cases hx : u.o.still with
        | true => rfl
        | false => have := hact2 j u hj hj2 hu hx; rw [hall j hj2] at this; cases this
      have hts : TR μ (tsS (fun _ => true) vals (vl.take n0) 0 ts0) a := fun t v hv => ht t v (by
        rw [← hv]
        exact tsS_congr _ _ (fun j o hj _ => by
          have : j < (vl.take n0).length := (List.getElem?_eq_some_iff.1 hj).1
          simp only [List.length_take] at this
          simp only [Nat.zero_add]; exact hall j (by omega)) rfl)
      rw [hp'] at hseq
      refine seq_ok hcall hvl hok (fuel + 1) n0 (Nat.le_refl _) (by omega) hls (fun j hj => ?_) hcnt hcl hseq (Nat.le_trans hlo hlen0) hts hsim hn fun a' w' ⟨μ', h1, h2, h3, h4, h5⟩ => hQ a' w' ⟨μ', h1, h2, hst.trans h3, by rw [h4, ha0, hn], by rw [h5, hdef]⟩
      cases hx : listed.getD j false with
      | true => simp [hfree j hx]
      | false => by_cases hj2 : j < n0
                 · rw [hall j hj2] at hx; cases hx
                 · simp [hj2]
    · obtain ⟨j0, hj0, hj0l⟩ : ∃ j, j < n0 ∧ listed.getD j false = false := by
        apply Classical.byContradiction
        intro hno
        apply hall
        intro j hj
        cases hx : listed.getD j false with
        | true => rfl
        | false => exact absurd ⟨j, hj, hx⟩ hno
      refine ⟨fun h0 => absurd h0 (ready_some hok hls (by omega) hj0l), fun i hi => ?_⟩
      obtain ⟨h1, o, ho, hedge⟩ := mem_ready.1 hi
      obtain ⟨hil, hif, hit⟩ := not_listed h1
      have hin : i < ops.size := (Array.getElem?_eq_some_iff.1 ho).1
      obtain ⟨v, hvi, hcomp⟩ := hget i o (by simpa using ho)
      have hrch : ∀ j, rch ops 24 i j = true → listed.getD j false = true := fun j hr => rch_ok hcl 24 i j hr fun o' ho' e he hb => by rw [ho] at ho'; cases ho'; exact hedge e he hb
      have hi0 : i < n0 := by
        rcases Nat.lt_or_ge i n0 with h | h
        · exact h
        · have := hrch j0 (hok.ord i j0 v (vl[j0]'(by omega)) hvi (List.getElem?_eq_getElem (by omega)) (by omega) (.inl h))
          rw [hj0l] at this; cases this
      -- what conflicts with i has come just if it stands ahead of i
      have hconf : ∀ (j : Nat) u, vl[j]? = some u → (conf v u = true ∨ conf u v = true) → j ≠ i → (listed.getD j false = decide (j < i)) := by
        intro j u hu hc hji
        rcases Nat.lt_or_ge j i with h | h
        · have hc' : conf v u = true ∨ conf u v = true := hc
          -- both orders of the check name the same pair
          have hcc : conf v u = true := by
            rcases hc with h | h
            · exact h
            · rw [conf_comm]; exact h
          rw [hrch j (hok.ord i j v u hvi hu h (.inr hcc))]; simp [h]
        · have hlt : i < j := by omega
          have hcc : conf u v = true := by
            rcases hc with h | h
            · rw [conf_comm]; exact h
            · exact h
          have hnd : decide (j < i) = false := by simp; omega
          rw [hnd]
          cases hx : listed.getD j false with
          | false => rfl
          | true =>
            exfalso
            have hjs : j < ops.size := by rw [hlen]; exact (List.getElem?_eq_some_iff.1 hu).1
            have hr := hok.ord j i u v hu hvi hlt (.inr hcc)
            have := rch_ok hcl 24 j i hr fun o' ho' e he hb => hcl j o' ho' hx e he hb
            rw [hif] at this; cases this
      have htake : (vl.take n0)[i]? = some v := by rw [List.getElem?_take, if_pos hi0]; exact hvi
      have hlook : ∀ t, t ∈ v.looks → lk (tsS (fun j => listed.getD j false) vals (vl.take n0) 0 ts0) t = lk (tsS (fun j => decide (j < i)) vals (vl.take n0) 0 ts0) t := by
        intro t htl
        refine tsS_congr _ _ (fun j u hj hd => ?_) rfl
        simp only [Nat.zero_add]
        rw [List.getElem?_take] at hj
        split at hj
        · by_cases hji : j = i
          · subst hji; rw [hif]; simp
          · exact hconf j u hj (.inl (conf_write hd htl)) hji
        · cases hj
      have hev : ∀ x ∈ v.o.args, ev (tsS (fun j => listed.getD j false) vals (vl.take n0) 0 ts0) x = ev (tsS (fun j => decide (j < i)) vals (vl.take n0) 0 ts0) x := by
        intro x hx
        cases x with
        | c u => rfl
        | t n => exact hlook n (mem_looks hx)
      obtain ⟨b, hb, hrun⟩ := hstep i v htake
      have hb' : wants (tsS (fun j => listed.getD j false) vals (vl.take n0) 0 ts0) v.g = some b := by
        rw [← hb]
        cases hg : v.g with
        | none => rfl
        | some tb =>
          obtain ⟨t, tb⟩ := tb
          simp only [wants]
          rw [hlook t (by simp [VO.looks, hg])]
      have hw := wants_ok ht hcomp hb'
      obtain ⟨hd, hop, hdd, _⟩ := compV_some hcomp
      have hd' : ∀ t, o.dst = some t → t < a.tmps.size := fun t h => by rw [hn]; exact hd t h
      -- the state behind i
      have hcl' : closedS ops (listed.setIfInBounds i true) := by
        intro i' o' ho' hl' e he hb'
        by_cases hii : i' = i
        · subst hii
          rw [ho] at ho'; cases ho'
          exact getD_set_true (hedge e he hb')
        · rw [getD_set_ne false (Ne.symm hii)] at hl'
          exact getD_set_true (hcl i' o' ho' hl' e he hb')
      have hcnt' : cntF (listed.setIfInBounds i true).toList ≤ fuel := by
        rw [Array.toList_setIfInBounds]
        have := cntF_set listed.toList i hit
        omega
      have hfree' : ∀ j, (listed.setIfInBounds i true).getD j false = true → j < n0 := by
        intro j hj
        rw [getD_set hil] at hj
        simp only [Bool.or_eq_true, decide_eq_true_eq] at hj
        rcases hj with rfl | hj
        · exact hi0
        · exact hfree j hj
      have hput : ∀ {μ' : Mu} {r : Value}, Ext μ μ' → R2 μ' (vals i) r → TR μ' (tsS (fun j => (listed.setIfInBounds i true).getD j false) vals (vl.take n0) 0 ts0) (a.put o.dst r) := by
        intro μ' r hx hr t u hu
        by_cases hdt : o.dst = some t
        · have : lk (tsS (fun j => (listed.setIfInBounds i true).getD j false) vals (vl.take n0) 0 ts0) t = some (vals (0 + i)) := by
            refine tsS_at _ 0 i htake (by rw [hdd]; exact hdt) (by rw [Nat.zero_add, getD_set hil]; simp) fun j x hij hx hxd => ?_
            rw [Nat.zero_add, getD_set hil]
            rw [List.getElem?_take] at hx
            split at hx
            · have := hconf j x hx (.inl (conf_both (by rw [hdd]; exact hdt) hxd)) (by omega)
              rw [this]
              simp; omega
            · cases hx
          rw [this, Nat.zero_add] at hu
          cases hu
          exact ⟨r, by rw [hdt]; simp [Act.put, hd' t hdt], hr⟩
        · have : lk (tsS (fun j => (listed.setIfInBounds i true).getD j false) vals (vl.take n0) 0 ts0) t = lk (tsS (fun j => listed.getD j false) vals (vl.take n0) 0 ts0) t := by
            refine tsS_congr _ _ (fun j x hj hxd => ?_) rfl
            simp only [Nat.zero_add]
            rw [getD_set hil]
            by_cases hji : j = i
            · subst hji
              rw [htake] at hj; cases hj
              rw [hdd] at hxd
              exact absurd hxd hdt
            · simp [hji]
          rw [this] at hu
          obtain ⟨x, hx1, hx2⟩ := (ht.ext hx) t u hu
          refine ⟨x, ?_, hx2⟩
          cases hod : o.dst with
          | none => exact hx1
          | some d =>
            simp only [Act.put]
            rw [Array.getElem?_setIfInBounds_ne (fun e => hdt (by rw [hod, e]))]
            exact hx1
      have stillcase : v.o.still = true → (∀ (j : Nat) u, j < p → vl[j]? = some u → u.o.still = false → (listed.setIfInBounds i true).getD j false = true) ∧ (∀ (j : Nat) u, p ≤ j → j < n0 → vl[j]? = some u → u.o.still = false → (listed.setIfInBounds i true).getD j false = false) := by
        intro hstill
        refine ⟨fun j u hj hu hs => getD_set_true (hact1 j u hj hu hs), fun j u hj hj2 hu hs => ?_⟩
        rw [getD_set hil, hact2 j u hj hj2 hu hs]
        have : j ≠ i := by rintro rfl; rw [hvi] at hu; cases hu; rw [hstill] at hs; cases hs
        simp [this]
      have activecase : v.o.still = false → p ≤ i ∧ hs i = hs p ∧ (∀ (j : Nat) u, j < i + 1 → vl[j]? = some u → u.o.still = false → (listed.setIfInBounds i true).getD j false = true) ∧ (∀ (j : Nat) u, i + 1 ≤ j → j < n0 → vl[j]? = some u → u.o.still = false → (listed.setIfInBounds i true).getD j false = false) := by
        intro hstill
        have hpi : p ≤ i := by
          rcases Nat.lt_or_ge i p with h | h
          · have := hact1 i v h hvi hstill; rw [hif] at this; cases this
          · exact h
        refine ⟨hpi, hconst p i hpi (by omega) fun j u hj hj2 hu => ?_, fun j u hj hu hs => ?_, fun j u hj hj2 hu hs => ?_⟩
        · cases hx : u.o.still with
          | true => rfl
          | false =>
            have h1 := hact2 j u hj (by omega) hu hx
            have h2 := hconf j u hu (.inl (conf_active hstill hx)) (by omega)
            rw [h1] at h2; simp at h2; omega
        · rw [getD_set hil]
          by_cases hji : j = i
          · simp [hji]
          · have h2 := hconf j u hu (.inl (conf_active hstill hs)) hji
            rw [h2]; simp; omega
        · rw [getD_set hil]
          have h2 := hconf j u hu (.inl (conf_active hstill hs)) (by omega)
          rw [h2]; simp; omega
      unfold wpOp
      rw [ho]
      simp only
      rw [hw]
      cases b
      · simp only [Bool.false_eq_true, if_false] at hrun ⊢
        obtain ⟨hval, hsame⟩ := hrun
        have hR : R2 μ (vals i) Go.undef := by rw [hval]; exact R2.undef
        cases hstill : v.o.still with
        | true =>
          obtain ⟨g1, g2⟩ := stillcase hstill
          exact ih (by simpa using hls) hcl' hfree' hcnt' (hput (Ext.refl _) hR) (by rw [size_put]; exact hn) (by rw [put_defers]; exact hdef) hp g1 g2 hsim hlow hlen0 hst
        | false =>
          obtain ⟨hpi, hip, g1, g2⟩ := activecase hstill
          rw [← hip, ← hsame] at hsim hlow hlen0 hst
          exact ih (by simpa using hls) hcl' hfree' hcnt' (hput (Ext.refl _) hR) (by rw [size_put]; exact hn) (by rw [put_defers]; exact hdef) (by omega) g1 g2 hsim hlow hlen0 hst
      · simp only [if_true] at hrun ⊢
        cases hstill : v.o.still with
        | true =>
          obtain ⟨g1, g2⟩ := stillcase hstill
          rw [hstill] at hrun
          simp only [if_true] at hrun
          obtain ⟨⟨H1, hv⟩, hsame⟩ := hrun
          have hv' := vop_still (lo' := lo) hstill (by rw [vop_congr hev]; exact hv) hlow
          refine .inl (op_ok hcall hop hv' (Nat.le_trans hlo hlen0) ht hsim fun r w1 μ1 hR hs1 hst1 => ?_)
          -- memory is as it was
          exact ih (by simpa using hls) hcl' hfree' hcnt' (hput hst1.ext hR) (by rw [size_put]; exact hn) (by rw [put_defers]; exact hdef) hp g1 g2 hs1 hlow hlen0 (hst.trans hst1)
        | false =>
          obtain ⟨hpi, hip, g1, g2⟩ := activecase hstill
          rw [hstill] at hrun
          simp only [Bool.false_eq_true, if_false] at hrun
          have hv' : vop call (hs i).length (tsS (fun j => listed.getD j false) vals (vl.take n0) 0 ts0) (hs i) v.o = some (vals i, hs (i + 1)) := by rw [vop_congr hev]; exact hrun
          rw [← hip] at hsim hlow hlen0 hst
          refine .inl (op_ok hcall hop hv' (Nat.le_refl _) ht hsim fun r w1 μ1 hR hs1 hst1 => ?_)
          exact ih (by simpa using hls) hcl' hfree' hcnt' (hput hst1.ext hR) (by rw [size_put]; exact hn) (by rw [put_defers]; exact hdef) (by omega) g1 g2 hs1
            (fun k hk => by rw [hst1.low k (Nat.lt_of_lt_of_le hk hlen0) (Nat.lt_of_lt_of_le hk hlen0)]; exact hlow k hk) (Nat.le_trans hlen0 hst1.len) (hst.trans (hst1.mono hsim (Nat.le_trans hlo hlen0) (Nat.le_refl _)))
end
end Go.Proofs.Ytmcljallamhccaa.V
/-! Code, functions, calls: what the machine computes the program computes. -/
namespace Go.Proofs.Ytmcljallamhccaa.V
open Go
set_option linter.unusedVariables false
set_option linter.unusedSimpArgs false

def compC (P : Program) (nt : Nat) : Code → VC → Option VC
  | .skip, .skip => some .skip
  | .region _ ops false, .ops _ => (compVs P nt ops ops.toList).map .ops
  | .region _ ops true, .draw free _ => (compVs P nt ops ops.toList).bind fun vl => if free.length ≤ vl.length ∧ drawOK ops vl free.length = true then some (.draw (vl.take free.length) (vl.drop free.length)) else none
  | .seq a b, .seq x y => (compC P nt a x).bind fun x => (compC P nt b y).map (.seq x)
  | .cond c a b, .cond _ x y => (cA c).bind fun c => (compC P nt a x).bind fun x => (compC P nt b y).map (.cond c x)
  | .block id c, .block _ x => (compC P nt c x).map (.block id)
  | .exit id, .exit _ => some (.exit id)
  | .loop c, .loop keep kx x => (compC P nt c x).map (.loop keep kx)
  | .ret, .ret => some .ret
  | _, _ => none
def compR (P : Program) : ResultVar → Option VR
  | .tmp t => some (.t t)
  | .cell a t => (tyL P t).map fun (g, n) => .cell a g n
def compRs (P : Program) : List ResultVar → Option (List VR)
  | [] => some []
  | r :: s => (compR P r).bind fun x => (compRs P s).map (x :: ·)
def VE.toExit : VE → Exit
  | .normal => .normal
  | .exit id => .exit id
  | .ret => .ret

theorem lk_keep {ts : Ts} {t : Nat} {v : Value} : ∀ (l : List Nat), lk (keepTs ts l) t = some v → lk ts t = some v
  | [], h => by simp [keepTs, lk] at h
  | k :: l, h => by
    simp only [keepTs] at h
    cases hk : lk ts k with
    | none => rw [hk] at h; exact lk_keep l h
    | some u =>
      rw [hk] at h
      simp only [lk] at h
      split at h
      · rename_i e; subst e; rw [← h]; exact hk
      · exact lk_keep l h
theorem TR.keep {μ : Mu} {ts : Ts} {a : Act} (h : TR μ ts a) (l : List Nat) : TR μ (keepTs ts l) a := fun t v hv => h t v (lk_keep l hv)

section
variable {P : Program}
theorem wp_loop_n {c : Code} {Q : Exit → Act → World → Prop} (I : Nat → Act → World → Prop) (round : ∀ n a w, I n a w → c.wp P (Exit.then (fun a' w' => ∃ m, m < n ∧ I m a' w') Q) a w) {n : Nat} {a : Act} {w : World} (h₀ : I n a w) : (Code.loop c).wp P Q a w := by
  intro b k cs
  have key : ∀ n a w, I n a w → ∃ e a' w', Q e a' w' ∧ Arrives P (lone (b.at a (.code c :: .inLoop c :: k)) cs w) b k cs e a' w' := by
    intro n
    induction n using Nat.strongRecOn with
    | _ n ih =>
      intro a w hI
      obtain ⟨e, a₁, w₁, hq, harr⟩ := round n a w hI b (.inLoop c :: k) cs
      cases e with
      | normal =>
        obtain ⟨m, hlt, hI₁⟩ := hq
        obtain ⟨e₂, a₂, w₂, hq₂, harr₂⟩ := ih m hlt a₁ w₁ hI₁
        exact ⟨e₂, a₂, w₂, hq₂, .of_steps (Steps.trans harr (.one step_inLoop)) harr₂⟩
      | exit id => exact ⟨_, a₁, w₁, hq, .pass (x := .inLoop c) rfl (fun _ _ => .inl (by simp)) harr⟩
      | goto l => exact ⟨_, a₁, w₁, hq, .pass (x := .inLoop c) rfl (fun _ _ => .inl (by simp)) harr⟩
      | ret => exact ⟨_, a₁, w₁, hq, .pass (x := .inLoop c) rfl (fun _ _ => .inl (by simp)) harr⟩
      | panic ch => exact ⟨_, a₁, w₁, hq, .pass (x := .inLoop c) rfl (fun _ _ => .inl (by simp)) harr⟩
      | outgrown => exact ⟨_, a₁, w₁, hq, .pass (x := .inLoop c) rfl (fun _ _ => .inl (by simp)) harr⟩
  obtain ⟨e, a', w', hq, harr⟩ := key n a w h₀
  exact ⟨e, a', w', hq, .of_steps (.one step_loop) harr⟩

theorem lim_some {f : Ts → Hp → Option (VE × Ts × Hp)} {ts : Ts} {H : Hp} {r : VE × Ts × Hp} (h : lim f ts H = some r) : ∃ n, iter f n ts H = some r := by
  unfold lim at h
  split at h
  · exact ⟨_, h⟩
  · cases h

theorem vc_ok {call : Cal} (hcall : CalOK P call) (hm : P.follows .mixedOrders = true) {nt : Nat} {lo : Nat} : ∀ (c : Code) (v v' : VC), compC P nt c v = some v' → ∀ {ts ts' : Ts} {H H' : Hp} {e : VE}, vc call lo v' ts H = some (e, ts', H') → lo ≤ H.length →
    ∀ {μ : Mu} {a : Act} {w : World} {Q : Exit → Act → World → Prop}, TR μ ts a → Sim μ H w → a.tmps.size = nt → (∀ a' w', Fin lo μ H w a ts' H' a' w' → Q e.toExit a' w') → c.wp P Q a w := by
  intro c
  induction c with
  | skip =>
    intro v v' hc ts ts' H H' e hv hlo μ a w Q ht hs hn hQ
    cases v <;> simp only [compC] at hc <;> try (cases hc; done)
    cases hc
    simp only [vc, Option.some.injEq, Prod.mk.injEq] at hv
    obtain ⟨rfl, rfl, rfl⟩ := hv
    exact wp_skip (hQ a w ⟨μ, ht, hs, Stp.refl _ _ _ _, rfl, rfl⟩)
  | region id ops d =>
    intro v v' hc ts ts' H H' e hv hlo μ a w Q ht hs hn hQ
    cases d with
    | false =>
      cases v <;> simp only [compC] at hc <;> try (cases hc; done)
      obtain ⟨vl, hvl, rfl⟩ := Option.map_eq_some_iff.1 hc
      simp only [vc, Option.bind_eq_some_iff, Option.some.injEq, Prod.mk.injEq] at hv
      obtain ⟨⟨ts1, H1⟩, hv, rfl, rfl, rfl⟩ := hv
      exact wp_region_list (vops_ok hcall _ _ hvl hv hlo ht hs hn hQ)
    | true =>
      cases v <;> simp only [compC] at hc <;> try (cases hc; done)
      rename_i free seq
      simp only [Option.bind_eq_some_iff] at hc
      obtain ⟨vl, hvl, hc⟩ := hc
      split at hc
      · rename_i hcond
        cases hc
        simp only [vc, Option.bind_eq_some_iff, Option.some.injEq, Prod.mk.injEq] at hv
        obtain ⟨⟨ts1, H1⟩, hf, ⟨ts2, H2⟩, hv, rfl, rfl, rfl⟩ := hv
        simp only at hv
        obtain ⟨hlen, hget⟩ := compVs_get hvl
        rw [Array.length_toList] at hlen
        have hok := drawOK_spec hlen hcond.2
        obtain ⟨vals, hss, h0, hl, rfl, hstep⟩ := trace _ hf
        have hl' : (vl.take free.length).length = free.length := by rw [List.length_take]; exact Nat.min_eq_left hcond.1
        rw [hl'] at hl
        refine wp_region_any hm ?_
        have hs' : Sim μ H { w with drawn := w.drawn + 1 } := Sim.drew (w := w) rfl hs
        refine free_ok hcall hvl hok hcond.1 (lo := lo) (ts' := ts2) (H' := H2) (H0 := H) (hs := hss) (vals := vals) (ts0 := ts) (μ0 := μ) (w0 := { w with drawn := w.drawn + 1 }) (a0 := a) hstep (by rw [hl]; exact hv) hlo hn hs' ?_ ops.size (by simp) ?_ ?_ ?_ (p := 0) (μ := μ) ?_ hn rfl (Nat.zero_le _) ?_ ?_ ?_ ?_ ?_ ?_
        · intro a' w' ⟨μ', g1, g2, g3, g4, g5⟩
          exact hQ a' w' ⟨μ', g1, g2, (Stp.drew (w := w) (w' := { w with drawn := w.drawn + 1 }) rfl rfl rfl rfl).trans g3, g4, g5⟩
        · intro i o ho hl; simp [Array.getElem?_replicate] at hl; split at hl <;> simp at hl
        · intro j hj; simp [Array.getElem?_replicate] at hj; split at hj <;> simp at hj
        · have : ∀ n, cntF (List.replicate n false) = n := by
            intro n; induction n with
            | zero => rfl
            | succ n ih => simp [List.replicate_succ, cntF, ih]
          simp [this]
        · intro t u hu
          refine ht t u ?_
          rw [← hu]
          have nil : ∀ (l : List VO) (k : Nat) (S : Nat → Bool), (∀ j, S j = false) → tsS S vals l k ts = ts := by
            intro l
            induction l with
            | nil => intro k S hS; rfl
            | cons x l ih => intro k S hS; simp only [tsS, hS]; exact ih _ _ hS
          rw [nil _ _ _ (fun j => by simp [Array.getElem?_replicate]; split <;> simp)]
        · intro j u hj; omega
        · intro j u _ _ _ _; simp [Array.getElem?_replicate]; split <;> simp
        · rw [h0]; exact hs'
        · intro i hi; rw [h0]
        · rw [h0]; exact Nat.le_refl _
        · rw [h0]; exact Stp.refl _ _ _ _
      · cases hc
  | seq x y ihx ihy =>
    intro v v' hc ts ts' H H' e hv hlo μ a w Q ht hs hn hQ
    cases v <;> simp only [compC] at hc <;> try (cases hc; done)
    simp only [Option.bind_eq_some_iff, Option.map_eq_some_iff] at hc
    obtain ⟨x', hx', y', hy', rfl⟩ := hc
    simp only [vc, Option.bind_eq_some_iff] at hv
    obtain ⟨⟨e1, ts1, H1⟩, hv1, hv2⟩ := hv
    refine wp_seq (ihx _ _ hx' hv1 hlo ht hs hn fun a1 w1 ⟨μ1, g1, g2, g3, g4, g5⟩ => ?_)
    cases e1 with
    | normal =>
      simp only at hv2
      exact ihy _ _ hy' hv2 (Nat.le_trans hlo g3.len) g1 g2 (by rw [g4]; exact hn) fun a2 w2 ⟨μ2, k1, k2, k3, k4, k5⟩ => hQ a2 w2 ⟨μ2, k1, k2, g3.trans k3, k4.trans g4, k5.trans g5⟩
    | exit id =>
      simp only [Option.some.injEq, Prod.mk.injEq] at hv2
      obtain ⟨rfl, rfl, rfl⟩ := hv2
      exact hQ a1 w1 ⟨μ1, g1, g2, g3, g4, g5⟩
    | ret =>
      simp only [Option.some.injEq, Prod.mk.injEq] at hv2
      obtain ⟨rfl, rfl, rfl⟩ := hv2
      exact hQ a1 w1 ⟨μ1, g1, g2, g3, g4, g5⟩
  | cond cnd x y ihx ihy =>
    intro v v' hc ts ts' H H' e hv hlo μ a w Q ht hs hn hQ
    cases v <;> simp only [compC] at hc <;> try (cases hc; done)
    simp only [Option.bind_eq_some_iff, Option.map_eq_some_iff] at hc
    obtain ⟨c', hc', x', hx', y', hy', rfl⟩ := hc
    simp only [vc, Option.bind_eq_some_iff] at hv
    obtain ⟨u, hu, hv⟩ := hv
    cases u <;> try (cases hv; done)
    rename_i t
    have hb := R2.boolv (ev_ok ht hc' hu)
    cases t
    · simp only [Bool.false_eq_true, if_false] at hv
      exact wp_cond_false hb (ihy _ _ hy' hv hlo ht hs hn hQ)
    · simp only [if_true] at hv
      exact wp_cond_true hb (ihx _ _ hx' hv hlo ht hs hn hQ)
  | block id x ih =>
    intro v v' hc ts ts' H H' e hv hlo μ a w Q ht hs hn hQ
    cases v <;> simp only [compC] at hc <;> try (cases hc; done)
    obtain ⟨x', hx', rfl⟩ := Option.map_eq_some_iff.1 hc
    simp only [vc, Option.bind_eq_some_iff, Option.some.injEq, Prod.mk.injEq] at hv
    obtain ⟨⟨e1, ts1, H1⟩, hv1, rfl, rfl, rfl⟩ := hv
    refine wp_block (ih _ _ hx' hv1 hlo ht hs hn fun a1 w1 hf => ?_)
    have hq := hQ a1 w1 hf
    cases e1 with
    | normal => exact hq
    | exit id' =>
      by_cases hid : id' = id
      · subst hid; simpa [VE.toExit, Exit.inBlock] using hq
      · have hne : ¬ (VE.exit id' = VE.exit id) := by simpa using hid
        simp only [hne, if_false] at hq
        simp only [VE.toExit, Exit.inBlock, hid, if_false]
        exact hq
    | ret => exact hq
  | exit id =>
    intro v v' hc ts ts' H H' e hv hlo μ a w Q ht hs hn hQ
    cases v <;> simp only [compC] at hc <;> try (cases hc; done)
    cases hc
    simp only [vc, Option.some.injEq, Prod.mk.injEq] at hv
    obtain ⟨rfl, rfl, rfl⟩ := hv
    exact wp_exit (hQ a w ⟨μ, ht, hs, Stp.refl _ _ _ _, rfl, rfl⟩)
  | ret =>
    intro v v' hc ts ts' H H' e hv hlo μ a w Q ht hs hn hQ
    cases v <;> simp only [compC] at hc <;> try (cases hc; done)
    cases hc
    simp only [vc, Option.some.injEq, Prod.mk.injEq] at hv
    obtain ⟨rfl, rfl, rfl⟩ := hv
    exact wp_ret (hQ a w ⟨μ, ht, hs, Stp.refl _ _ _ _, rfl, rfl⟩)
  | loop x ih =>
    intro v v' hc ts ts' H H' e hv hlo μ a w Q ht hs hn hQ
    cases v <;> simp only [compC] at hc <;> try (cases hc; done)
    rename_i keep kx xv
    obtain ⟨x', hx', rfl⟩ := Option.map_eq_some_iff.1 hc
    simp only [vc] at hv
    obtain ⟨n, hv⟩ := lim_some hv
    refine wp_loop_n (fun n a1 w1 => ∃ μ1 ts1 H1, iter (fun ts H => (vc call lo x' ts H).bind fun (e, ts', H') => some (e, keepTs ts' (if e = .normal then keep else kx), H')) n ts1 H1 = some (e, ts', H') ∧ TR μ1 ts1 a1 ∧ Sim μ1 H1 w1 ∧ Stp lo μ H w μ1 H1 w1 ∧ a1.tmps.size = a.tmps.size ∧ a1.defers = a.defers) (fun n a1 w1 hI => ?_) (n := n) ⟨μ, keepTs ts keep, H, hv, ht.keep keep, hs, Stp.refl _ _ _ _, rfl, rfl⟩
    obtain ⟨μ1, ts1, H1, hit, g1, g2, g3, g4, g5⟩ := hI
    cases n with
    | zero => simp [iter] at hit
    | succ n =>
      simp only [iter, Option.bind_eq_some_iff, Option.some.injEq] at hit
      obtain ⟨⟨e2, ts2, H2⟩, ⟨⟨e3, ts3, H3⟩, hv3, heq⟩, hit⟩ := hit
      cases heq
      refine ih _ _ hx' hv3 (Nat.le_trans hlo g3.len) g1 g2 (by rw [g4]; exact hn) fun a2 w2 ⟨μ2, k1, k2, k3, k4, k5⟩ => ?_
      cases e3 with
      | normal => exact ⟨n, Nat.lt_succ_self n, μ2, _, _, hit, k1.keep _, k2, g3.trans k3, k4.trans g4, k5.trans g5⟩
      | exit id =>
        simp only [Option.some.injEq, Prod.mk.injEq] at hit
        obtain ⟨rfl, rfl, rfl⟩ := hit
        exact hQ a2 w2 ⟨μ2, k1.keep _, k2, g3.trans k3, k4.trans g4, k5.trans g5⟩
      | ret =>
        simp only [Option.some.injEq, Prod.mk.injEq] at hit
        obtain ⟨rfl, rfl, rfl⟩ := hit
        exact hQ a2 w2 ⟨μ2, k1.keep _, k2, g3.trans k3, k4.trans g4, k5.trans g5⟩
  | rangeFunc f ps x y ihx ihy => intro v v' hc; cases v <;> simp [compC] at hc
  | scope x ih => intro v v' hc; cases v <;> simp [compC] at hc
  | label l => intro v v' hc; cases v <;> simp [compC] at hc
  | goto l => intro v v' hc; cases v <;> simp [compC] at hc
  | refuse s => intro v v' hc; cases v <;> simp [compC] at hc

theorem noRef_RC {μ μ' : Mu} {v r : Value} (h : isRef v = false) (hr : RC μ v r) : RC μ' v r := by
  cases v <;> simp only [isRef, Bool.true_eq_false] at h
  case pointer a => cases a with
    | none => exact hr
    | some a => simp at h
  case slice a n c => cases a with
    | none => exact hr
    | some a => simp at h
  all_goals (first | exact hr | simp at h)
theorem noRef_R1 {μ μ' : Mu} {v r : Value} (h : noRef1 v = true) (hr : R1 μ v r) : R1 μ' v r := by
  by_cases ha : ∃ cs, v = .agg cs
  · obtain ⟨cs, rfl⟩ := ha
    obtain ⟨rs, rfl, hl⟩ := hr
    refine ⟨rs, rfl, ?_⟩
    simp only [noRef1, List.all_eq_true, Bool.not_eq_true'] at h
    generalize cs.toList = l at hl h
    generalize rs.toList = m at hl
    induction hl with
    | nil => exact .nil
    | cons h1 h2 ih => exact .cons (noRef_RC (h _ (by simp)) h1) (ih fun x hx => h x (by simp [hx]))
  · have hna : ∀ cs, v ≠ .agg cs := fun cs e => ha ⟨cs, e⟩
    rw [R1_eq hna] at hr ⊢
    exact noRef_RC (by cases v <;> simp [noRef1] at h ⊢ <;> first | exact h | exact absurd rfl (hna _)) hr
theorem noRef_R2 {μ μ' : Mu} {v r : Value} (h : noRef v = true) (hr : R2 μ v r) : R2 μ' v r := by
  by_cases ha : ∃ cs, v = .tuple cs
  · obtain ⟨cs, rfl⟩ := ha
    obtain ⟨rs, rfl, hl⟩ := hr
    refine ⟨rs, rfl, ?_⟩
    simp only [noRef, List.all_eq_true] at h
    generalize cs.toList = l at hl h
    generalize rs.toList = m at hl
    induction hl with
    | nil => exact .nil
    | cons h1 h2 ih => exact .cons (noRef_R1 (h _ (by simp)) h1) (ih fun x hx => h x (by simp [hx]))
  · have hna : ∀ cs, v ≠ .tuple cs := fun cs e => ha ⟨cs, e⟩
    rw [R2_eq hna] at hr ⊢
    exact noRef_R1 (by cases v <;> simp [noRef] at h ⊢ <;> first | exact h | exact absurd rfl (hna _)) hr

def resF (tmps : Array Value) : ResultVar → Sem Value
  | .tmp t => pure (tmps.getD t Go.undef)
  | .cell a t => do loadVar t (← asAddr (tmps.getD a Go.undef))
theorem results_eq (fn : Func) (tmps : Array Value) : results fn tmps = (do let vs ← fn.results.mapM (resF tmps); pure (if h : vs.size = 1 then vs[0] else .tuple vs)) := by
  unfold results
  congr 1
theorem vress_ok {μ : Mu} {ts : Ts} {H : Hp} {a : Act} {w : World} (ht : TR μ ts a) (hs : Sim μ H w) : ∀ (rs : List ResultVar) (vr : List VR), compRs P rs = some vr → ∀ {vs : List Value}, vress ts H vr = some vs →
    ∃ xs : List Value, (rs.mapM (resF a.tmps)).run P w = .ok xs w ∧ L2 (R1 μ) vs xs
  | [], vr, hc, vs, hv => by
    simp only [compRs, Option.some.injEq] at hc; subst hc
    simp only [vress, Option.some.injEq] at hv; subst hv
    exact ⟨[], by simp, .nil⟩
  | r :: rs, vr, hc, vs, hv => by
    simp only [compRs, Option.bind_eq_some_iff, Option.map_eq_some_iff] at hc
    obtain ⟨x, hx, s, hs', rfl⟩ := hc
    simp only [vress, Option.bind_eq_some_iff] at hv
    obtain ⟨v, hv1, us, hus, hv⟩ := hv
    split at hv
    · rename_i hn
      cases hv
      obtain ⟨xs, hxs, hrel⟩ := vress_ok ht hs rs s hs' hus
      have hone : ∃ y, (resF a.tmps r).run P w = .ok y w ∧ R1 μ v y := by
        cases r with
        | tmp t =>
          simp only [compR, Option.some.injEq] at hx; subst hx
          obtain ⟨y, hy, hR⟩ := ht t v hv1
          exact ⟨y, by simp [resF, hy], hR.to_R1 (ntup_ok hn)⟩
        | cell p t =>
          simp only [compR, Option.map_eq_some_iff] at hx
          obtain ⟨⟨g, n⟩, hty, rfl⟩ := hx
          simp only [vres, Option.bind_eq_some_iff] at hv1
          obtain ⟨pv, hpv, hv1⟩ := hv1
          cases pv <;> try (cases hv1; done)
          rename_i pa
          cases pa <;> try (cases hv1; done)
          rename_i pa
          obtain ⟨y, hy, hR⟩ := ht p _ hpv
          obtain ⟨z, hz, hRz⟩ := load_ok (P := P) hs hty hR hv1
          refine ⟨z, ?_, hRz.to_R1 (ntup_ok hn)⟩
          obtain ⟨_, m, hm, rfl⟩ := hR
          have hz' : (loadVar t ⟨m.b, m.o + pa.off, none⟩).run P w = .ok z w := by simpa [Instr.loadAt, Instr.sureAddr] using hz
          have hy' : a.tmps.getD p Go.undef = .pointer (some ⟨m.b, m.o + pa.off, none⟩) := by simp [hy]
          simp only [resF, hy', asAddr, Sem.run_bind, Sem.run_pure, Result.andThen_ok, hz']
      obtain ⟨y, hy, hR⟩ := hone
      refine ⟨y :: xs, ?_, .cons hR hrel⟩
      rw [List.mapM_cons, Sem.run_bind, hy, Result.andThen_ok, Sem.run_bind, hxs]
      rfl
    · cases hv

structure FnOK (P : Program) (f : Nat) (vf : VF) : Prop where
  ok : ∃ fn c, P.funcs[f]? = some fn ∧ fn.body = some c ∧ (fn.name == "runtime.NumGoroutine") = false ∧ fn.ntmps = vf.nt ∧ vf.np ≤ vf.nt ∧ compC P vf.nt c vf.body = some vf.body ∧ compRs P fn.results.toList = some vf.res

theorem start_lk : ∀ (l : List Value) (k t : Nat) (v : Value), lk (start k l) t = some v → k ≤ t ∧ l[t - k]? = some v
  | [], k, t, v, h => by simp [start, lk] at h
  | x :: l, k, t, v, h => by
    simp only [start, lk] at h
    split at h
    · rename_i e; subst e; cases h; exact ⟨Nat.le_refl _, by simp⟩
    · obtain ⟨h1, h2⟩ := start_lk l (k + 1) t v h
      refine ⟨by omega, ?_⟩
      have e : t - k = (t - (k + 1)) + 1 := by omega
      rw [e]; simpa using h2

theorem fn_ok {call : Cal} (hcall : CalOK P call) (hm : P.follows .mixedOrders = true) {f : Nat} {vf : VF} (hf : FnOK P f vf) {args : List Value} {lo : Nat} {H H' : Hp} {v : Value} (hv : vfun call vf args lo H = some (v, H')) (hlo : lo ≤ H.length) {μ : Mu} {w : World} {rargs : List Value} (ha : L2 (R2 μ) args rargs) (hs : Sim μ H w) :
    (∃ fn, P.funcs[f]? = some fn ∧ fn.body.isSome = true ∧ (fn.name == "runtime.NumGoroutine") = false) ∧ Calls P f rargs.toArray w (fun e w' => ∃ r μ', e = .returned r ∧ R2 μ' v r ∧ Sim μ' H' w' ∧ Stp lo μ H w μ' H' w') := by
  obtain ⟨fn, c, hfn, hbody, hname, hnt, hnp, hc, hr⟩ := hf.ok
  refine ⟨⟨fn, hfn, by simp [hbody], hname⟩, calls_of_wp hfn hbody ?_⟩
  unfold vfun at hv
  split at hv
  · rename_i hnargs
    simp only [Option.bind_eq_some_iff] at hv
    obtain ⟨⟨e, ts, H1⟩, hvc, hv⟩ := hv
    have hv' : (∀ id, e ≠ .exit id) ∧ ∃ vs, vress ts H1 vf.res = some vs ∧ v = tup vs ∧ H' = (if vf.pu && noRef (tup vs) then H else H1) := by
      cases e with
      | exit id => cases hv
      | normal =>
        simp only [Option.bind_eq_some_iff, Option.some.injEq, Prod.mk.injEq] at hv
        obtain ⟨vs, h1, h2, h3⟩ := hv
        exact ⟨by simp, vs, h1, h2.symm, h3.symm⟩
      | ret =>
        simp only [Option.bind_eq_some_iff, Option.some.injEq, Prod.mk.injEq] at hv
        obtain ⟨vs, h1, h2, h3⟩ := hv
        exact ⟨by simp, vs, h1, h2.symm, h3.symm⟩
    obtain ⟨hne, vs, hvs, rfl, hH'⟩ := hv'
    have hral := ha.len
    refine vc_ok hcall hm _ _ _ hc hvc (by split; exact Nat.le_refl _; exact hlo) (μ := μ) ?_ hs ?_ fun a' w' ⟨μ', g1, g2, g3, g4, g5⟩ => ?_
    · -- the arguments lie in the first temporaries
      intro t u hu
      obtain ⟨_, h2⟩ := start_lk args 0 t u hu
      obtain ⟨r, h3, h4⟩ := ha.get (i := t) (x := u) (by simpa using h2)
      refine ⟨r, ?_, h4⟩
      have hlt := (List.getElem?_eq_some_iff.1 h3).1
      simp only
      rw [Array.getElem?_append_left (by simpa using hlt)]
      simpa using h3
    · simp only [Array.size_append, List.size_toArray, Array.size_replicate]
      omega
    · obtain ⟨xs, hxs, hrel⟩ := vress_ok (P := P) g1 g2 fn.results.toList vf.res hr hvs
      have hres : (results fn a'.tmps).run P w' = .ok (if h : xs.toArray.size = 1 then xs.toArray[0] else .tuple xs.toArray) w' := by
        rw [results_eq, Sem.run_bind, Array.mapM_eq_mapM_toList]
        simp only [Sem.run_map, hxs]
        rfl
      have hR : R2 μ' (tup vs) (if h : xs.toArray.size = 1 then xs.toArray[0] else .tuple xs.toArray) := by
        cases hrel with
        | nil => exact ⟨#[], by simp, .nil⟩
        | cons h1 h2 => cases h2 with
          | nil => exact R2.of_R1 (by simpa [tup] using h1)
          | cons h2 h3 => exact ⟨_, by simp; rfl, by simpa [tup] using L2.cons h1 (L2.cons h2 h3)⟩
      have fin : ∃ r μ'', Ending.returned (if h : xs.toArray.size = 1 then xs.toArray[0] else .tuple xs.toArray) = .returned r ∧ R2 μ'' (tup vs) r ∧ Sim μ'' H' w' ∧ Stp lo μ H w μ'' H' w' := by
        cases hpu : vf.pu with
        | false =>
          rw [hpu] at g3 hH'
          simp only [Bool.false_and, Bool.false_eq_true, if_false] at g3 hH'
          subst hH'
          exact ⟨_, μ', rfl, hR, g2, g3⟩
        | true =>
          rw [hpu] at g3 hH'
          simp only [if_true, Bool.true_and] at g3 hH'
          cases hnr : noRef (tup vs) with
          | false =>
            rw [hnr] at hH'
            simp only [Bool.false_eq_true, if_false] at hH'
            subst hH'
            exact ⟨_, μ', rfl, hR, g2, g3.mono hs hlo (Nat.le_refl _)⟩
          | true =>
            rw [hnr] at hH'
            simp only [if_true] at hH'
            subst hH'
            have hold : ∀ b, b < w.heap.size → w'.heap[b]? = w.heap[b]? := fun b hb => g3.old b hb fun i bl m hi hbl _ _ => by
              have := (List.getElem?_eq_some_iff.1 hbl).1; omega
            refine ⟨_, μ, rfl, noRef_R2 hnr hR, ⟨hs.dom, fun i b hb => ?_, hs.sep⟩, ⟨Ext.refl _, g3.os, g3.tape, g3.output, g3.size, Nat.le_refl _, fun b hb _ => hold b hb, fun i bl m hi hb hr hm _ => ⟨i, bl, m, hi, hb, hr, hm, rfl⟩, fun _ _ _ => rfl⟩⟩
            obtain ⟨m, hm, hok⟩ := hs.blk i b hb
            refine ⟨m, hm, ?_⟩
            by_cases hq : b.cs ≠ [] ∨ b.rw = true
            · exact hok.keep (hold _ (hok.lt hq))
            · simp only [not_or, ne_eq, Decidable.not_not, Bool.not_eq_true] at hq
              exact hok.dull hq.1 hq.2
      have hdef : a'.defers = [] := by rw [g5]
      cases e with
      | normal => exact bodyPost_end hres hdef fin
      | exit id => exact absurd rfl (hne id)
      | ret => exact bodyPost_ret hres hdef fin
  · cases hv

def EnvOK (P : Program) (E : Env) : Prop := ∀ x ∈ E, FnOK P x.1 x.2
theorem EnvOK.nil : EnvOK P [] := fun x h => by simp at h
theorem EnvOK.cons {E : Env} {f : Nat} {vf : VF} (h : FnOK P f vf) (hE : EnvOK P E) : EnvOK P ((f, vf) :: E) := fun x hx => by
  rcases List.mem_cons.1 hx with rfl | hx
  · exact h
  · exact hE x hx
theorem EnvOK.append {E F : Env} (h : EnvOK P E) (k : EnvOK P F) : EnvOK P (E ++ F) := fun x hx => by
  rcases List.mem_append.1 hx with hx | hx
  · exact h x hx
  · exact k x hx
theorem EnvOK.find : ∀ {E : Env}, EnvOK P E → ∀ {f vf}, E.find f = some vf → FnOK P f vf
  | [], _, f, vf, h => by simp [Env.find] at h
  | (n, g) :: E, hE, f, vf, h => by
    simp only [Env.find] at h
    split at h
    · rename_i e; subst e; cases h; exact hE (n, g) (by simp)
    · exact EnvOK.find (E := E) (fun x hx => hE x (by simp [hx])) h

/-- THE LAW: what the machine computes at a call, the program's call comes to. -/
theorem call_ok (hm : P.follows .mixedOrders = true) {E : Env} (hE : EnvOK P E) : ∀ d, CalOK P (vcall E d)
  | 0 => fun f args lo H v H' h => by simp [vcall] at h
  | d + 1 => fun f args lo H v H' h hlo μ w rargs ha hs => by
    simp only [vcall, Option.bind_eq_some_iff] at h
    obtain ⟨vf, hvf, h⟩ := h
    exact fn_ok (call_ok hm hE d) hm (hE.find hvf) h hlo ha hs
end
end Go.Proofs.Ytmcljallamhccaa.V
/-! Equations by which the machine is reckoned, one for each kind of operation; what comes behind is kept under a name till the first part is reckoned. -/
namespace Go.Proofs.Ytmcljallamhccaa.V
open Go
set_option linter.unusedVariables false
set_option linter.unusedSimpArgs false

def kO (call : Cal) (lo : Nat) (l : List VO) (ts : Ts) (d : Option Nat) (x : Value × Hp) : Option (Ts × Hp) := vops call lo l (put ts d x.1) x.2
def kG (call : Cal) (lo : Nat) (l : List VO) (ts : Ts) (H : Hp) (d : Option Nat) (b : Bool) (o : VOp) (v : Value) : Option (Ts × Hp) := if isB v b = true then vops call lo (⟨d, none, o⟩ :: l) ts H else vops call lo l (put ts d (.tuple #[])) H
def fO (call : Cal) (H0 : Hp) (l : List VO) (ts : Ts) (H : Hp) (d : Option Nat) (x : Value × Hp) : Option (Ts × Hp) := vfree call H0 l (put ts d x.1) H
def fA (call : Cal) (H0 : Hp) (l : List VO) (ts : Ts) (d : Option Nat) (x : Value × Hp) : Option (Ts × Hp) := vfree call H0 l (put ts d x.1) x.2
def fG (call : Cal) (H0 : Hp) (l : List VO) (ts : Ts) (H : Hp) (d : Option Nat) (b : Bool) (o : VOp) (v : Value) : Option (Ts × Hp) := if isB v b = true then vfree call H0 (⟨d, none, o⟩ :: l) ts H else vfree call H0 l (put ts d (.tuple #[])) H
def kN (x : Ts × Hp) : Option (VE × Ts × Hp) := some (.normal, x.1, x.2)
noncomputable def kS (call : Cal) (lo : Nat) (c : VC) (x : VE × Ts × Hp) : Option (VE × Ts × Hp) := match x with
  | (.normal, ts, H) => vc call lo c ts H
  | x => some x
def kD (call : Cal) (lo : Nat) (l : List VO) (x : Ts × Hp) : Option (Ts × Hp) := vops call lo l x.1 x.2
noncomputable def kC (call : Cal) (lo : Nat) (a b : VC) (ts : Ts) (H : Hp) (v : Value) : Option (VE × Ts × Hp) := match v with
  | .bool t => if t = true then vc call lo a ts H else vc call lo b ts H
  | _ => none
def kB (id : Nat) (x : VE × Ts × Hp) : Option (VE × Ts × Hp) := some (if x.1 = .exit id then .normal else x.1, x.2.1, x.2.2)
def kL (keep kx : List Nat) (x : VE × Ts × Hp) : Option (VE × Ts × Hp) := some (x.1, keepTs x.2.1 (if x.1 = .normal then keep else kx), x.2.2)
/-- One round of a loop. -/
noncomputable def rnd (call : Cal) (lo : Nat) (keep kx : List Nat) (c : VC) (ts : Ts) (H : Hp) : Option (VE × Ts × Hp) := (vc call lo c ts H).bind (kL keep kx)
def kF (f : VF) (H0 : Hp) (x : VE × Ts × Hp) : Option (Value × Hp) := match x with
  | (.exit _, _, _) => none
  | (_, ts, H) => (vress ts H f.res).bind fun vs => some (tup vs, if f.pu && noRef (tup vs) then H0 else H)
def kT (k : Nat) (v : Option Value) (r : Ts) : Ts := match v with
  | some v => (k, v) :: r
  | none => r
section
variable {call : Cal} {lo : Nat} {ts : Ts} {H H0 : Hp} {l : List VO} {d : Option Nat}
theorem xs (o : VOp) : vops call lo (⟨d, none, o⟩ :: l) ts H = (vop call lo ts H o).bind (kO call lo l ts d) := rfl
theorem xg (t : Nat) (b : Bool) (o : VOp) : vops call lo (⟨d, some (t, b), o⟩ :: l) ts H = (lk ts t).bind (kG call lo l ts H d b o) := by
  simp only [vops, wants, Option.bind_assoc, Option.bind_some]
  cases lk ts t with
  | none => rfl
  | some v => simp only [Option.bind_some, kG]; cases isB v b <;> rfl
theorem xn : vops call lo [] ts H = some (ts, H) := rfl
theorem yn : vfree call H0 [] ts H = some (ts, H) := rfl
theorem yx (o : VOp) : vfree call H0 (⟨d, none, o⟩ :: l) ts H = if o.still = true then (vop call 0 ts H0 o).bind (fO call H0 l ts H d) else (vop call H.length ts H o).bind (fA call H0 l ts d) := by
  simp only [vfree, wants, Option.bind_some, if_true]; rfl
theorem yg (t : Nat) (b : Bool) (o : VOp) : vfree call H0 (⟨d, some (t, b), o⟩ :: l) ts H = (lk ts t).bind (fG call H0 l ts H d b o) := by
  simp only [vfree, wants, Option.bind_assoc, Option.bind_some]
  cases lk ts t with
  | none => rfl
  | some v => simp only [Option.bind_some, fG]; cases isB v b <;> rfl
theorem kO_ (v : Value) (H : Hp) : kO call lo l ts d (v, H) = vops call lo l (put ts d v) H := rfl
theorem fO_ (v : Value) (H1 : Hp) : fO call H0 l ts H d (v, H1) = vfree call H0 l (put ts d v) H := rfl
theorem fA_ (v : Value) (H1 : Hp) : fA call H0 l ts d (v, H1) = vfree call H0 l (put ts d v) H1 := rfl
theorem kG1 (x : Bool) (b : Bool) (o : VOp) : kG call lo l ts H d b o (.bool x) = if x = b then vops call lo (⟨d, none, o⟩ :: l) ts H else vops call lo l (put ts d (.tuple #[])) H := by
  cases x <;> cases b <;> rfl
theorem kG2 (x : Array Value) (b : Bool) (o : VOp) : kG call lo l ts H d b o (.tuple x) = vops call lo l (put ts d (.tuple #[])) H := rfl
theorem fG1 (x : Bool) (b : Bool) (o : VOp) : fG call H0 l ts H d b o (.bool x) = if x = b then vfree call H0 (⟨d, none, o⟩ :: l) ts H else vfree call H0 l (put ts d (.tuple #[])) H := by
  cases x <;> cases b <;> rfl
theorem fG2 (x : Array Value) (b : Bool) (o : VOp) : fG call H0 l ts H d b o (.tuple x) = vfree call H0 l (put ts d (.tuple #[])) H := rfl
theorem kN_ (ts : Ts) (H : Hp) : kN (ts, H) = some (.normal, ts, H) := rfl
theorem kS0 (c : VC) : kS call lo c (.normal, ts, H) = vc call lo c ts H := rfl
theorem kS1 (c : VC) : kS call lo c (.ret, ts, H) = some (.ret, ts, H) := rfl
theorem kS2 (c : VC) (i : Nat) : kS call lo c (.exit i, ts, H) = some (.exit i, ts, H) := rfl
theorem kD_ (ts : Ts) (H : Hp) : kD call lo l (ts, H) = vops call lo l ts H := rfl
theorem kC_ (a b : VC) (t : Bool) : kC call lo a b ts H (.bool t) = if t = true then vc call lo a ts H else vc call lo b ts H := rfl
theorem kB0 (id : Nat) : kB id (.normal, ts, H) = some (.normal, ts, H) := rfl
theorem kB1 (id : Nat) : kB id (.ret, ts, H) = some (.ret, ts, H) := rfl
theorem kB2 (id i : Nat) : kB id (.exit i, ts, H) = some (if i = id then .normal else .exit i, ts, H) := by simp [kB]
theorem kL0 (keep kx : List Nat) : kL keep kx (.normal, ts, H) = some (.normal, keepTs ts keep, H) := rfl
theorem kL1 (keep kx : List Nat) : kL keep kx (.ret, ts, H) = some (.ret, keepTs ts kx, H) := rfl
theorem kL2 (keep kx : List Nat) (i : Nat) : kL keep kx (.exit i, ts, H) = some (.exit i, keepTs ts kx, H) := rfl
theorem kF0 (f : VF) : kF f H0 (.normal, ts, H) = (vress ts H f.res).bind fun vs => some (tup vs, if f.pu && noRef (tup vs) then H0 else H) := rfl
theorem kF1 (f : VF) : kF f H0 (.ret, ts, H) = (vress ts H f.res).bind fun vs => some (tup vs, if f.pu && noRef (tup vs) then H0 else H) := rfl
theorem pt (k : Nat) (v : Value) : put ts (some k) v = (k, v) :: ts := rfl
theorem pn (v : Value) : put ts none v = ts := rfl
theorem et (n : Nat) : ev ts (.t n) = lk ts n := rfl
theorem ec (v : Value) : ev ts (.c v) = some v := rfl
theorem lkc (k t : Nat) (v : Value) : lk ((k, v) :: ts) t = if k = t then some v else lk ts t := rfl
theorem lkn (t : Nat) : lk [] t = none := rfl
theorem vsk : vc call lo .skip ts H = some (.normal, ts, H) := rfl
theorem vrt : vc call lo .ret ts H = some (.ret, ts, H) := rfl
theorem vex (i : Nat) : vc call lo (.exit i) ts H = some (.exit i, ts, H) := rfl
theorem vos : vc call lo (.ops l) ts H = (vops call lo l ts H).bind kN := rfl
theorem vdr (r : List VO) : vc call lo (.draw l r) ts H = ((vfree call H l ts H).bind (kD call lo r)).bind kN := by
  simp only [vc, Option.bind_assoc]; rfl
theorem vsq (a b : VC) : vc call lo (.seq a b) ts H = (vc call lo a ts H).bind (kS call lo b) := by
  simp only [vc]; congr 1; funext ⟨e, ts, H⟩; cases e <;> rfl
theorem vcd (c : Arg) (a b : VC) : vc call lo (.cond c a b) ts H = (ev ts c).bind (kC call lo a b ts H) := by
  simp only [vc]; congr 1
theorem vbl (i : Nat) (c : VC) : vc call lo (.block i c) ts H = (vc call lo c ts H).bind (kB i) := rfl
theorem vlp (keep kx : List Nat) (c : VC) : vc call lo (.loop keep kx c) ts H = lim (rnd call lo keep kx c) (keepTs ts keep) H := rfl
theorem kt0 : keepTs ts [] = [] := rfl
theorem kt1 (k : Nat) (r : List Nat) : keepTs ts (k :: r) = kT k (lk ts k) (keepTs ts r) := by simp only [keepTs, kT] <;> (cases lk ts k <;> rfl)
theorem kT0 (k : Nat) (r : Ts) : kT k none r = r := rfl
theorem kT1 (k : Nat) (v : Value) (r : Ts) : kT k (some v) r = (k, v) :: r := rfl
theorem vfn (f : VF) (args : List Value) (h : args.length = f.np) : vfun call f args lo H = (vc call (if f.pu then H.length else lo) f.body (start 0 args) H).bind (kF f H) := by
  simp only [vfun, if_pos h]; congr 1; funext ⟨e, ts, H⟩; cases e <;> rfl
theorem bite {α β : Type} (c : Prop) [Decidable c] (x y : Option α) (f : α → Option β) : (if c then x else y).bind f = if c then x.bind f else y.bind f := by split <;> rfl
end

/-! ### Loops -/
theorem iter_mono {f : Ts → Hp → Option (VE × Ts × Hp)} {r : VE × Ts × Hp} : ∀ {n m : Nat}, n ≤ m → ∀ {ts : Ts} {H : Hp}, iter f n ts H = some r → iter f m ts H = some r
  | 0, m, _, ts, H, h => by simp [iter] at h
  | n + 1, m + 1, hnm, ts, H, h => by
    simp only [iter, Option.bind_eq_some_iff] at h ⊢
    obtain ⟨⟨e, ts', H'⟩, h1, h2⟩ := h
    refine ⟨_, h1, ?_⟩
    cases e with
    | normal => exact iter_mono (by omega) h2
    | exit i => exact h2
    | ret => exact h2
theorem lim_of {f : Ts → Hp → Option (VE × Ts × Hp)} {n : Nat} {ts : Ts} {H : Hp} {r : VE × Ts × Hp} (h : iter f n ts H = some r) : lim f ts H = some r := by
  unfold lim
  have hex : ∃ n, (iter f n ts H).isSome = true := ⟨n, by rw [h]; rfl⟩
  rw [dif_pos hex]
  obtain ⟨r', hr'⟩ := Option.isSome_iff_exists.1 hex.choose_spec
  rw [hr']
  have h1 := iter_mono (Nat.le_max_left hex.choose n) hr'
  have h2 := iter_mono (Nat.le_max_right hex.choose n) h
  rw [h1] at h2
  exact h2
/-- A round that ends the loop. -/
theorem lim_end {f : Ts → Hp → Option (VE × Ts × Hp)} {ts ts' : Ts} {H H' : Hp} {e : VE} (h : f ts H = some (e, ts', H')) (he : e ≠ .normal) : lim f ts H = some (e, ts', H') :=
  lim_of (n := 1) (by
    cases e with
    | normal => exact absurd rfl he
    | exit i => simp only [iter, h, Option.bind_some]
    | ret => simp only [iter, h, Option.bind_some])
/-- A round, and what comes of the rest. -/
theorem lim_step {f : Ts → Hp → Option (VE × Ts × Hp)} {ts ts' : Ts} {H H' : Hp} {r : VE × Ts × Hp} (h : f ts H = some (.normal, ts', H')) (hr : lim f ts' H' = some r) : lim f ts H = some r := by
  obtain ⟨n, hn⟩ := lim_some hr
  exact lim_of (n := n + 1) (by simp only [iter, h, Option.bind_some]; exact hn)
end Go.Proofs.Ytmcljallamhccaa.V
