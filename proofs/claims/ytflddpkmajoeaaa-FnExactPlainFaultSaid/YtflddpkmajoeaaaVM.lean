/- A small machine of values ('V'): memory is a list of blocks that are numbered in the order in which they are made; a function's code is a term without types and positions. What it computes the program's code computes, too (the texts behind this one). -/
import Derived.Orders
import Derived.Tactics
import Derived.Laws.OwnMore
import Derived.Deep.DeepAppendWide
import Derived.KernelRfl
namespace Go.Proofs.Ytflddpkmajoeaaa.V
open Go
set_option linter.unusedVariables false

/-- A block of cells. rw: it may be written; k0: it is a slice's of no capacity. -/
structure Blk where
  cs : List Value
  rw : Bool
  k0 : Bool
abbrev Hp := List (Option Blk)
abbrev Ts := List (Nat × Value)

inductive Arg where
  | t (n : Nat)
  | c (v : Value)

inductive VOp where
  | mv (x : Arg)
  | pick (c a b : Arg)
  | new (z : List Value)
  | box (x : Arg)
  | build (z : List Value) (ps : List (Nat × Nat × Arg))
  | bslice (st : Nat) (z : List Value) (n : Nat) (ps : List (Nat × Nat × Arg))
  | load (agg : Bool) (n : Nat) (a : Arg)
  | store (n : Nat) (a x : Arg)
  | nilck (x : Arg)
  | bin (op : BinOp) (x y : Arg)
  | beq (n : Bool) (x y : Arg)
  | snil (n : Bool) (x : Arg)
  | not (x : Arg)
  | conv (k : IntKind) (x : Arg)
  | mkfn (f : Nat) (cap : List Arg)
  | mkslice (st by_ : Nat) (z : List Value) (l c : Arg)
  | slice (st : Nat) (x : Arg) (lo hi mx : Option Arg)
  | faddr (off : Nat) (x : Arg)
  | field (agg : Bool) (off n : Nat) (x : Arg)
  | iaddr (st : Nat) (x i : Arg)
  | ext (i : Nat) (x : Arg)
  | len (x : Arg)
  | append (st by_ : Nat) (x y : Arg)
  | copy (st : Nat) (x y : Arg)
  | clear (st : Nat) (z : List Value) (x : Arg)
  | mx (x y : Arg)
  | mn (x y : Arg)
  | call (f : Nat) (args : List Arg)
  | callv (x : Arg) (args : List Arg)

/-- An operation: where its value goes; its guard (a temporary and what it must be); what it does. -/
structure VO where
  d : Option Nat
  g : Option (Nat × Bool)
  o : VOp

inductive VC where
  | skip
  | ops (l : List VO)
  | draw (free seq : List VO)   -- a region that draws its order: the free part, then what stands behind all of it
  | seq (a b : VC)
  | cond (c : Arg) (a b : VC)
  | block (id : Nat) (c : VC)
  | exit (id : Nat)
  | loop (keep kx : List Nat) (c : VC)   -- what is kept from round to round; what is kept behind the loop
  | ret

inductive VE where
  | normal | exit (id : Nat) | ret
  deriving DecidableEq

inductive VR where
  | t (n : Nat)
  | cell (n : Nat) (agg : Bool) (sz : Nat)

structure VF where
  np : Nat
  nt : Nat
  res : List VR
  pu : Bool      -- it writes nothing that was there
  body : VC

def lk : Ts → Nat → Option Value
  | [], _ => none
  | (k, v) :: r, t => if k = t then some v else lk r t
def ev (ts : Ts) : Arg → Option Value
  | .t n => lk ts n
  | .c v => some v
def evs (ts : Ts) : List Arg → Option (List Value)
  | [] => some []
  | x :: r => (ev ts x).bind fun v => (evs ts r).bind fun vs => some (v :: vs)
def put (ts : Ts) : Option Nat → Value → Ts
  | none, _ => ts
  | some d, v => (d, v) :: ts
def keepTs (ts : Ts) : List Nat → Ts
  | [] => []
  | k :: r => match lk ts k with
    | some v => (k, v) :: keepTs ts r
    | none => keepTs ts r

def Hp.blk (H : Hp) (i : Nat) : Option Blk := (H[i]?).bind id
def rd (H : Hp) (a : Addr) : Option Value := (H.blk a.block).bind fun b => b.cs[a.off]?
def rdN (H : Hp) (a : Addr) (n : Nat) : Option (List Value) := (H.blk a.block).bind fun b => if a.off + n ≤ b.cs.length then some ((b.cs.drop a.off).take n) else none
def setAll (cs : List Value) (o : Nat) : List Value → List Value
  | [] => cs
  | v :: vs => setAll (cs.set o v) (o + 1) vs
def wrN (lo : Nat) (H : Hp) (a : Addr) (vs : List Value) : Option Hp := (H.blk a.block).bind fun b => if lo ≤ a.block ∧ b.rw = true ∧ a.off + vs.length ≤ b.cs.length then some (H.set a.block (some ⟨setAll b.cs a.off vs, true, b.k0⟩)) else none

def vcells : Value → List Value
  | .agg cs => cs.toList
  | v => [v]
def ntup : Value → Bool
  | .tuple _ => false
  | _ => true
def isPtr : Value → Bool
  | .pointer _ => true
  | _ => false
def isRef : Value → Bool
  | .pointer (some _) => true
  | .slice (some _) _ _ => true
  | .func _ _ _ => true
  | .agg _ => true
  | .tuple _ => true
  | _ => false
def noRef1 : Value → Bool
  | .agg cs => cs.toList.all fun v => !isRef v
  | v => !isRef v
def noRef : Value → Bool
  | .tuple vs => vs.toList.all noRef1
  | v => noRef1 v

def asI : Value → Option Int
  | .int _ n => some n
  | _ => none
def vfill (cells : List Value) (ts : Ts) : List (Nat × Nat × Arg) → Option (List Value)
  | [] => some cells
  | (o, n, x) :: r => (ev ts x).bind fun v => if ntup v = true ∧ (vcells v).length = n ∧ o + n ≤ cells.length then vfill (setAll cells o (vcells v)) ts r else none
/-- A slice's length; the cells behind it. -/
def slen : Value → Option Nat
  | .slice _ n _ => some n
  | _ => none
def scells (H : Hp) (st : Nat) : Value → Option (List Value)
  | .slice none n _ => if n = 0 then some [] else none
  | .slice (some a) n s => if s = st then rdN H a (n * st) else none
  | _ => none

def vbin (op : BinOp) : Value → Value → Option Value
  | .int k a, .int k' b => if k = k' then match op with
    | .add => some (.int k (k.wrap (a + b)))
    | .sub => some (.int k (k.wrap (a - b)))
    | .mul => some (.int k (k.wrap (a * b)))
    | .quo => if b = 0 then none else some (.int k (k.wrap (a.tdiv b)))
    | .rem => if b = 0 then none else some (.int k (a.tmod b))
    | .eql => some (.bool (a == b))
    | .neq => some (.bool (a != b))
    | .lss => some (.bool (a < b))
    | .leq => some (.bool (a ≤ b))
    | .gtr => some (.bool (a > b))
    | .geq => some (.bool (a ≥ b))
    | _ => none
    else none
  | _, _ => none

abbrev Cal := Nat → List Value → Nat → Hp → Option (Value × Hp)

/-- The bound of what is made by append: no growslice of Go's refuses it. -/
def fits (need by_ : Nat) : Bool := decide (need ≤ maxLen) && decide ((need + need / 4 + 192) * by_ ≤ 281474976710656)

/-- May a slice of n elements be appended to? -/
def Blk.app (b : Blk) (n : Nat) : Bool := if n = 0 then b.k0 else b.rw
def vappend (st by_ : Nat) (lo : Nat) (H : Hp) (x y : Value) : Option (Value × Hp) :=
  (slen y).bind fun m => (scells H st y).bind fun new =>
  match x with
  | .slice none n _ => if n = 0 then (if m = 0 then some (.slice none 0 0, H) else if fits m by_ then some (.slice (some ⟨H.length, 0, none⟩) m st, H ++ [some ⟨new, true, false⟩]) else none) else none
  | .slice (some a) n s => (H.blk a.block).bind fun b => if s = st ∧ a.off = 0 ∧ a.spot = none ∧ b.cs.length = n * st ∧ b.app n = true ∧ fits (n + m) by_ = true then
      (if m = 0 then some (.slice (some a) n st, H)
       else if n = 0 then some (.slice (some ⟨H.length, 0, none⟩) m st, H ++ [some ⟨new, true, false⟩])
       else if lo ≤ a.block then some (.slice (some ⟨H.length, 0, none⟩) (n + m) st, H.set a.block none ++ [some ⟨b.cs ++ new, true, false⟩]) else none) else none
  | _ => none

def vslice (st : Nat) (x : Value) (lo hi mx : Option Value) : Option Value :=
  match x with
  | .slice a n s => (match lo with | none => some 0 | some v => asI v).bind fun l => (match hi with | none => some (n : Int) | some v => asI v).bind fun h =>
    if s = st ∧ 0 ≤ l ∧ l ≤ h ∧ h ≤ n then
      match mx, a with
      | none, none => some (.slice none 0 0)
      | none, some a => some (.slice (some ⟨a.block, a.off + l.toNat * st, none⟩) (h - l).toNat st)
      | some _, _ => none
    else none
  | _ => none

def vop (call : Cal) (lo : Nat) (ts : Ts) (H : Hp) : VOp → Option (Value × Hp)
  | .mv x => (ev ts x).bind fun v => some (v, H)
  | .pick c a b => (ev ts c).bind fun v => match v with
    | .bool t => (ev ts (if t then a else b)).bind fun u => some (u, H)
    | _ => none
  | .new z => some (.pointer (some ⟨H.length, 0, none⟩), H ++ [some ⟨z, true, false⟩])
  | .box x => (ev ts x).bind fun v => if ntup v = true then some (.pointer (some ⟨H.length, 0, none⟩), H ++ [some ⟨vcells v, true, false⟩]) else none
  | .build z ps => (vfill z ts ps).bind fun cs => some (.agg cs.toArray, H)
  | .bslice st z n ps => (vfill z ts ps).bind fun cs => some (.slice (some ⟨H.length, 0, none⟩) n st, H ++ [some ⟨cs, true, n == 0⟩])
  | .load agg n a => (ev ts a).bind fun p => match p with
    | .pointer (some a) => if agg then (rdN H a n).bind fun cs => some (.agg cs.toArray, H) else (rd H a).bind fun v => some (v, H)
    | _ => none
  | .store n a x => (ev ts a).bind fun p => (ev ts x).bind fun v => match p with
    | .pointer (some a) => if ntup v = true ∧ (vcells v).length = n then (wrN lo H a (vcells v)).bind fun H' => some (.tuple #[], H') else none
    | _ => none
  | .nilck x => (ev ts x).bind fun v => match v with
    | .pointer (some a) => some (.pointer (some a), H)
    | _ => none
  | .bin op x y => (ev ts x).bind fun a => (ev ts y).bind fun b => (vbin op a b).bind fun v => some (v, H)
  | .beq n x y => (ev ts x).bind fun a => (ev ts y).bind fun b => match a, b with
    | .bool a, .bool b => some (.bool (if n then !(a == b) else a == b), H)
    | _, _ => none
  | .snil n x => (ev ts x).bind fun a => match a with
    | .slice a _ _ => some (.bool (if n then !a.isNone else a.isNone), H)
    | _ => none
  | .not x => (ev ts x).bind fun v => match v with
    | .bool b => some (.bool (!b), H)
    | _ => none
  | .conv k x => (ev ts x).bind fun v => match v with
    | .int _ n => some (.int k (k.wrap n), H)
    | _ => none
  | .mkfn f cap => (evs ts cap).bind fun vs => if vs.all isPtr = true then some (.func (.func f) #[] vs.toArray, H) else none
  | .mkslice st by_ z l c => (ev ts l).bind fun lv => (ev ts c).bind fun cv => (asI lv).bind fun l => (asI cv).bind fun c =>
    if l = c ∧ 0 ≤ c ∧ (by_ : Int) * c ≤ 281474976710656 ∧ c ≤ 4611686018427387904 ∧ z.length = st then some (.slice (some ⟨H.length, 0, none⟩) c.toNat st, H ++ [some ⟨(List.replicate c.toNat z).flatten, true, c == 0⟩]) else none
  | .slice st x l h m => (ev ts x).bind fun v =>
    match l, h, m with
    | none, none, none => (vslice st v none none none).bind fun u => some (u, H)
    | some l, none, none => (ev ts l).bind fun lv => (vslice st v (some lv) none none).bind fun u => some (u, H)
    | none, some h, none => (ev ts h).bind fun hv => (vslice st v none (some hv) none).bind fun u => some (u, H)
    | some l, some h, none => (ev ts l).bind fun lv => (ev ts h).bind fun hv => (vslice st v (some lv) (some hv) none).bind fun u => some (u, H)
    | l, some h, some m => (ev ts h).bind fun hv => (ev ts m).bind fun mv => match v with   -- xs[:0:0]
      | .slice (some a) n s => if asI hv = some 0 ∧ asI mv = some 0 ∧ l.isNone = true ∧ s = st ∧ (n = 0 → a.off = 0) then some (.slice (some ⟨H.length, 0, none⟩) 0 st, H ++ [some ⟨[], false, true⟩]) else none
      | .slice none n s => if asI hv = some 0 ∧ asI mv = some 0 ∧ l.isNone = true then some (.slice none 0 0, H) else none
      | _ => none
    | _, none, some _ => none
  | .faddr off x => (ev ts x).bind fun v => match v with
    | .pointer (some a) => some (.pointer (some ⟨a.block, a.off + off, none⟩), H)
    | _ => none
  | .field agg off n x => (ev ts x).bind fun v => match v with
    | .agg cs => if agg then (if off + n ≤ cs.size then some (.agg (cs.extract off (off + n)), H) else none) else (cs[off]?).bind fun v => some (v, H)
    | _ => none
  | .iaddr st x i => (ev ts x).bind fun v => (ev ts i).bind fun iv => (asI iv).bind fun i => match v with
    | .slice (some a) n s => if s = st ∧ 0 ≤ i ∧ i < n then some (.pointer (some ⟨a.block, a.off + i.toNat * st, none⟩), H) else none
    | _ => none
  | .ext i x => (ev ts x).bind fun v => match v with
    | .tuple vs => (vs[i]?).bind fun v => some (v, H)
    | _ => none
  | .len x => (ev ts x).bind fun v => (slen v).bind fun n => some (.int .i64 n, H)
  | .append st by_ x y => (ev ts x).bind fun a => (ev ts y).bind fun b => vappend st by_ lo H a b
  | .copy st x y => (ev ts x).bind fun d => (ev ts y).bind fun s => (slen s).bind fun m => match d with
    | .slice (some a) n s' => if s' = st then (if min n m = 0 then some (.int .i64 0, H) else (scells H st s).bind fun cs => (wrN lo H a (cs.take (min n m * st))).bind fun H' => some (.int .i64 (min n m : Nat), H')) else none
    | _ => none
  | .clear st z x => (ev ts x).bind fun d => match d with
    | .slice none _ _ => some (.tuple #[], H)
    | .slice (some a) n s => if n = 0 then some (.tuple #[], H) else if s = st then (wrN lo H a (List.replicate n z).flatten).bind fun H' => some (.tuple #[], H') else none
    | _ => none
  | .mx x y => (ev ts x).bind fun a => (ev ts y).bind fun b => match a, b with
    | .int k a, .int k' b => if k = k' then some (.int k (if b > a then b else a), H) else none
    | _, _ => none
  | .mn x y => (ev ts x).bind fun a => (ev ts y).bind fun b => match a, b with
    | .int k a, .int k' b => if k = k' then some (.int k (if b < a then b else a), H) else none
    | _, _ => none
  | .call f args => (evs ts args).bind fun vs => call f vs lo H
  | .callv x args => (ev ts x).bind fun v => (evs ts args).bind fun vs => match v with
    | .func (.func f) fst cap => if fst.size = 0 then call f (vs ++ cap.toList) lo H else none
    | _ => none

def isB : Value → Bool → Bool
  | .bool x, b => x == b
  | _, _ => false
/-- Does the operation run? -/
def wants (ts : Ts) : Option (Nat × Bool) → Option Bool
  | none => some true
  | some (t, b) => (lk ts t).bind fun v => some (isB v b)

def vops (call : Cal) (lo : Nat) : List VO → Ts → Hp → Option (Ts × Hp)
  | [], ts, H => some (ts, H)
  | o :: r, ts, H => (wants ts o.g).bind fun b => if b then (vop call lo ts H o.o).bind fun (v, H') => vops call lo r (put ts o.d v) H'
    else vops call lo r (put ts o.d (.tuple #[])) H

/-- Does it leave memory alone? -/
def VOp.still : VOp → Bool
  | .mv _ | .pick .. | .build .. | .load .. | .nilck _ | .bin .. | .beq .. | .snil .. | .not _ | .conv .. | .mkfn .. | .faddr .. | .field .. | .iaddr .. | .ext .. | .len _ | .mx .. | .mn .. => true
  | _ => false

/-- The free part: what leaves memory alone reads memory as it was at the head (H0); what makes memory turns nothing that was there. -/
def vfree (call : Cal) (H0 : Hp) : List VO → Ts → Hp → Option (Ts × Hp)
  | [], ts, H => some (ts, H)
  | o :: r, ts, H => (wants ts o.g).bind fun b => if b then
      (if o.o.still then (vop call 0 ts H0 o.o).bind fun (v, _) => vfree call H0 r (put ts o.d v) H
       else (vop call H.length ts H o.o).bind fun (v, H') => vfree call H0 r (put ts o.d v) H')
    else vfree call H0 r (put ts o.d (.tuple #[])) H

def iter (f : Ts → Hp → Option (VE × Ts × Hp)) : Nat → Ts → Hp → Option (VE × Ts × Hp)
  | 0, _, _ => none
  | n + 1, ts, H => (f ts H).bind fun (e, ts', H') => match e with
    | .normal => iter f n ts' H'
    | e => some (e, ts', H')
/-- A loop: what enough rounds come to. -/
noncomputable def lim (f : Ts → Hp → Option (VE × Ts × Hp)) (ts : Ts) (H : Hp) : Option (VE × Ts × Hp) :=
  open Classical in if h : ∃ n, (iter f n ts H).isSome = true then iter f h.choose ts H else none

noncomputable def vc (call : Cal) (lo : Nat) : VC → Ts → Hp → Option (VE × Ts × Hp)
  | .skip, ts, H => some (.normal, ts, H)
  | .ops l, ts, H => (vops call lo l ts H).bind fun (ts, H) => some (.normal, ts, H)
  | .draw l r, ts, H => (vfree call H l ts H).bind fun (ts, H) => (vops call lo r ts H).bind fun (ts, H) => some (.normal, ts, H)
  | .seq a b, ts, H => (vc call lo a ts H).bind fun (e, ts', H') => match e with
    | .normal => vc call lo b ts' H'
    | e => some (e, ts', H')
  | .cond c a b, ts, H => (ev ts c).bind fun v => match v with
    | .bool t => if t = true then vc call lo a ts H else vc call lo b ts H
    | _ => none
  | .block id c, ts, H => (vc call lo c ts H).bind fun (e, ts', H') => some (if e = .exit id then .normal else e, ts', H')
  | .exit id, ts, H => some (.exit id, ts, H)
  | .loop keep kx c, ts, H => lim (fun ts H => (vc call lo c ts H).bind fun (e, ts', H') => some (e, keepTs ts' (if e = .normal then keep else kx), H')) (keepTs ts keep) H
  | .ret, ts, H => some (.ret, ts, H)

def vres (ts : Ts) (H : Hp) : VR → Option Value
  | .t n => lk ts n
  | .cell n agg sz => (lk ts n).bind fun p => match p with
    | .pointer (some a) => if agg then (rdN H a sz).bind fun cs => some (.agg cs.toArray) else rd H a
    | _ => none
def vress (ts : Ts) (H : Hp) : List VR → Option (List Value)
  | [] => some []
  | r :: rs => (vres ts H r).bind fun v => (vress ts H rs).bind fun vs => if ntup v = true then some (v :: vs) else none
def tup : List Value → Value
  | [v] => v
  | vs => .tuple vs.toArray

def start : Nat → List Value → Ts
  | _, [] => []
  | k, v :: vs => (k, v) :: start (k + 1) vs

/-- A function's body, at arguments. -/
noncomputable def vfun (call : Cal) (f : VF) (args : List Value) (lo : Nat) (H : Hp) : Option (Value × Hp) :=
  if args.length = f.np then
    (vc call (if f.pu then H.length else lo) f.body (start 0 args) H).bind fun (e, ts, H') => match e with
      | .exit _ => none
      | _ => (vress ts H' f.res).bind fun vs => some (tup vs, if f.pu && noRef (tup vs) then H else H')
  else none

abbrev Env := List (Nat × VF)
def Env.find : Env → Nat → Option VF
  | [], _ => none
  | (k, f) :: r, n => if k = n then some f else Env.find r n

/-- A call, at a depth of calls. -/
noncomputable def vcall (E : Env) : Nat → Cal
  | 0, _, _, _, _ => none
  | d + 1, f, args, lo, H => (E.find f).bind fun vf => vfun (vcall E d) vf args lo H
end Go.Proofs.Ytflddpkmajoeaaa.V
