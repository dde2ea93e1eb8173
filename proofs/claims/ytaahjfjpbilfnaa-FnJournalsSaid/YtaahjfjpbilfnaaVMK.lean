/- A small machine of values ('V'): memory is a list of blocks that are numbered in the order in which they are made; a function's code is a term without types and positions. What it computes the program's code computes, too (the texts behind this one). -/
import Derived.Orders
import Derived.Tactics
import Derived.Laws.OwnMore
import Derived.Deep.DeepAppendWide
import Derived.KernelRfl
import Derived.Laws.StructEq
import Derived.Lib.AppendZerosOnto
namespace Go.Proofs.Ytaahjfjpbilfnaa.V
open Go
set_option linter.unusedVariables false

/-- A block of cells. rw: it may be written; k0: it is a slice's of no capacity. -/
structure Blk where
  cs : List Value
  rw : Bool
  k0 : Bool
abbrev Hp := List (Option Blk)
abbrev Ts := List (Nat × Value)

inductive Arg where
  | t (n : Nat)
  | c (v : Value)

inductive VOp where
  | mv (x : Arg)
  | pick (c a b : Arg)
  | new (z : List Value)
  | box (x : Arg)
  | build (z : List Value) (ps : List (Nat × Nat × Arg))
  | bslice (st : Nat) (z : List Value) (n : Nat) (ps : List (Nat × Nat × Arg))
  | load (agg : Bool) (n : Nat) (a : Arg)
  | store (n : Nat) (a x : Arg)
  | nilck (x : Arg)
  | bin (op : BinOp) (x y : Arg)
  | beq (n : Bool) (x y : Arg)
  | aeq (n : Bool) (m : Nat) (x y : Arg)
  | snil (n : Bool) (x : Arg)
  | not (x : Arg)
  | conv (k : IntKind) (x : Arg)
  | mkfn (f : Nat) (cap : List Arg)
  | mkslice (st by_ : Nat) (z : List Value) (l c : Arg)
  | slice (st : Nat) (x : Arg) (lo hi mx : Option Arg)
  | faddr (off : Nat) (x : Arg)
  | field (agg : Bool) (off n : Nat) (x : Arg)
  | iaddr (st : Nat) (x i : Arg)
  | ext (i : Nat) (x : Arg)
  | len (x : Arg)
  | append (st by_ : Nat) (x y : Arg)
  | copy (st : Nat) (x y : Arg)
  | clear (st : Nat) (z : List Value) (x : Arg)
  | mx (x y : Arg)
  | mn (x y : Arg)
  | call (f : Nat) (args : List Arg)
  | callv (x : Arg) (args : List Arg)
  | capn (x : Arg)                                       -- of the nil slice alone
  | appz (st by_ : Nat) (z : List Value) (x y : Arg)     -- so many zero elements behind the nil slice
  | bad                                                  -- what is never come to

/-- An operation: where its value goes; its guard (a temporary and what it must be); what it does. -/
structure VO where
  d : Option Nat
  g : Option (Nat × Bool)
  o : VOp

inductive VC where
  | skip
  | ops (l : List VO)
  | draw (free seq : List VO)   -- a region that draws its order: the free part, then what stands behind all of it
  | drawD (t : List Nat) (free seq : List VO)   -- the same, where the blocks that t point to may be written, and nothing that leaves memory alone reads them
  | drawF (t : List Nat) (free seq : List VO)   -- the same, with lists of known numbers that are made at whatever time
  | seq (a b : VC)
  | cond (c : Arg) (a b : VC)
  | block (id : Nat) (c : VC)
  | exit (id : Nat)
  | loop (keep kx : List Nat) (c : VC)   -- what is kept from round to round; what is kept behind the loop
  | ret

inductive VE where
  | normal | exit (id : Nat) | ret
  deriving DecidableEq

inductive VR where
  | t (n : Nat)
  | cell (n : Nat) (agg : Bool) (sz : Nat)

structure VF where
  np : Nat
  nt : Nat
  res : List VR
  pu : Bool      -- it writes nothing that was there
  body : VC

def lk : Ts → Nat → Option Value
  | [], _ => none
  | (k, v) :: r, t => if k = t then some v else lk r t
def ev (ts : Ts) : Arg → Option Value
  | .t n => lk ts n
  | .c v => some v
def evs (ts : Ts) : List Arg → Option (List Value)
  | [] => some []
  | x :: r => (ev ts x).bind fun v => (evs ts r).bind fun vs => some (v :: vs)
def put (ts : Ts) : Option Nat → Value → Ts
  | none, _ => ts
  | some d, v => (d, v) :: ts
def keepTs (ts : Ts) : List Nat → Ts
  | [] => []
  | k :: r => match lk ts k with
    | some v => (k, v) :: keepTs ts r
    | none => keepTs ts r

def Hp.blk (H : Hp) (i : Nat) : Option Blk := (H[i]?).bind id
def rd (H : Hp) (a : Addr) : Option Value := (H.blk a.block).bind fun b => b.cs[a.off]?
def rdN (H : Hp) (a : Addr) (n : Nat) : Option (List Value) := (H.blk a.block).bind fun b => if a.off + n ≤ b.cs.length then some ((b.cs.drop a.off).take n) else none
def setAll (cs : List Value) (o : Nat) : List Value → List Value
  | [] => cs
  | v :: vs => setAll (cs.set o v) (o + 1) vs
def wrN (lo : Nat) (H : Hp) (a : Addr) (vs : List Value) : Option Hp := (H.blk a.block).bind fun b => if lo ≤ a.block ∧ b.rw = true ∧ a.off + vs.length ≤ b.cs.length then some (H.set a.block (some ⟨setAll b.cs a.off vs, true, b.k0⟩)) else none

def vcells : Value → List Value
  | .agg cs => cs.toList
  | v => [v]
def ntup : Value → Bool
  | .tuple _ => false
  | _ => true
def isPtr : Value → Bool
  | .pointer _ => true
  | _ => false
def isRef : Value → Bool
  | .pointer (some _) => true
  | .slice (some _) _ _ => true
  | .func _ _ _ => true
  | .agg _ => true
  | .tuple _ => true
  | _ => false
def noRef1 : Value → Bool
  | .agg cs => cs.toList.all fun v => !isRef v
  | v => !isRef v
def noRef : Value → Bool
  | .tuple vs => vs.toList.all noRef1
  | v => noRef1 v

def asI : Value → Option Int
  | .int _ n => some n
  | _ => none
def vfill (cells : List Value) (ts : Ts) : List (Nat × Nat × Arg) → Option (List Value)
  | [] => some cells
  | (o, n, x) :: r => (ev ts x).bind fun v => if ntup v = true ∧ (vcells v).length = n ∧ o + n ≤ cells.length then vfill (setAll cells o (vcells v)) ts r else none
/-- A slice's length; the cells behind it. -/
def slen : Value → Option Nat
  | .slice _ n _ => some n
  | _ => none
def scells (H : Hp) (st : Nat) : Value → Option (List Value)
  | .slice none n _ => if n = 0 then some [] else none
  | .slice (some a) n s => if n = 0 then some [] else if s = st then rdN H a (n * st) else none
  | _ => none

def vbin (op : BinOp) : Value → Value → Option Value
  | .int k a, .int k' b => if k = k' then match op with
    | .add => some (.int k (k.wrap (a + b)))
    | .sub => some (.int k (k.wrap (a - b)))
    | .mul => some (.int k (k.wrap (a * b)))
    | .quo => if b = 0 then none else some (.int k (k.wrap (a.tdiv b)))
    | .rem => if b = 0 then none else some (.int k (a.tmod b))
    | .shr => if b < 0 then none else some (.int k (a.fdiv (2 ^ min b.toNat k.bits)))
    | .eql => some (.bool (a == b))
    | .neq => some (.bool (a != b))
    | .lss => some (.bool (a < b))
    | .leq => some (.bool (a ≤ b))
    | .gtr => some (.bool (a > b))
    | .geq => some (.bool (a ≥ b))
    | _ => none
    else none
  | _, _ => none

/-- Are whole numbers alike, one behind the other? -/
def ieqs : List Value → List Value → Option Bool
  | [], [] => some true
  | .int k a :: r, .int k' b :: s => if k = k' then (if (a == b) = true then ieqs r s else some false) else none
  | _, _ => none
abbrev Cal := Nat → List Value → Nat → Hp → Option (Value × Hp)

/-- The bound of what is made by append: no growslice of Go's refuses it. -/
def fits (need by_ : Nat) : Bool := decide (need ≤ maxLen) && decide ((need + need / 4 + 192) * by_ ≤ 281474976710656)

/-- May a slice of n elements be appended to? -/
def Blk.app (b : Blk) (n : Nat) : Bool := if n = 0 then b.k0 else b.rw
def vappend (st by_ : Nat) (lo : Nat) (H : Hp) (x y : Value) : Option (Value × Hp) :=
  (slen y).bind fun m => (scells H st y).bind fun new =>
  match x with
  | .slice none n _ => if n = 0 then (if m = 0 then some (.slice none 0 0, H) else if fits m by_ then some (.slice (some ⟨H.length, 0, none⟩) m st, H ++ [some ⟨new, true, false⟩]) else none) else none
  | .slice (some a) n s => (H.blk a.block).bind fun b => if s = st ∧ a.off = 0 ∧ a.spot = none ∧ b.cs.length = n * st ∧ b.app n = true ∧ fits (n + m) by_ = true then
      (if m = 0 then some (.slice (some a) n st, H)
       else if n = 0 then some (.slice (some ⟨H.length, 0, none⟩) m st, H ++ [some ⟨new, true, false⟩])
       else if lo ≤ a.block then some (.slice (some ⟨H.length, 0, none⟩) (n + m) st, H.set a.block none ++ [some ⟨b.cs ++ new, true, false⟩]) else none)
      else if s = st ∧ a.off = 0 ∧ a.spot = none ∧ b.rw = true ∧ n * st < b.cs.length ∧ (n + m) * st ≤ b.cs.length ∧ lo ≤ a.block then   -- there is room
      (if m = 0 then some (.slice (some a) n st, H)
       else some (.slice (some ⟨H.length, 0, none⟩) (n + m) st, H.set a.block none ++ [some ⟨b.cs.take (n * st) ++ new ++ b.cs.drop ((n + m) * st), true, false⟩])) else none
  | _ => none

def vslice (st : Nat) (x : Value) (lo hi mx : Option Value) : Option Value :=
  match x with
  | .slice none n s => (match lo with | none => some 0 | some v => asI v).bind fun l => (match hi with | none => some (n : Int) | some v => asI v).bind fun h =>
    if 0 ≤ l ∧ l ≤ h ∧ h ≤ n then (match mx with | none => some (.slice none 0 0) | some _ => none) else none
  | .slice (some a) n s => (match lo with | none => some 0 | some v => asI v).bind fun l => (match hi with | none => some (n : Int) | some v => asI v).bind fun h =>
    if s = st ∧ 0 ≤ l ∧ l ≤ h ∧ h ≤ n then (match mx with | none => some (.slice (some ⟨a.block, a.off + l.toNat * st, none⟩) (h - l).toNat st) | some _ => none) else none
  | _ => none

def vop (call : Cal) (lo : Nat) (ts : Ts) (H : Hp) : VOp → Option (Value × Hp)
  | .mv x => (ev ts x).bind fun v => some (v, H)
  | .pick c a b => (ev ts c).bind fun v => match v with
    | .bool t => (ev ts (if t then a else b)).bind fun u => some (u, H)
    | _ => none
  | .new z => some (.pointer (some ⟨H.length, 0, none⟩), H ++ [some ⟨z, true, false⟩])
  | .box x => (ev ts x).bind fun v => if ntup v = true then some (.pointer (some ⟨H.length, 0, none⟩), H ++ [some ⟨vcells v, true, false⟩]) else none
  | .build z ps => (vfill z ts ps).bind fun cs => some (.agg cs.toArray, H)
  | .bslice st z n ps => (vfill z ts ps).bind fun cs => some (.slice (some ⟨H.length, 0, none⟩) n st, H ++ [some ⟨cs, true, n == 0⟩])
  | .load agg n a => (ev ts a).bind fun p => match p with
    | .pointer (some a) => if agg then (rdN H a n).bind fun cs => some (.agg cs.toArray, H) else (rd H a).bind fun v => some (v, H)
    | _ => none
  | .store n a x => (ev ts a).bind fun p => (ev ts x).bind fun v => match p with
    | .pointer (some a) => if ntup v = true ∧ (vcells v).length = n then (wrN lo H a (vcells v)).bind fun H' => some (.tuple #[], H') else none
    | _ => none
  | .nilck x => (ev ts x).bind fun v => match v with
    | .pointer (some a) => some (.pointer (some a), H)
    | _ => none
  | .bin op x y => (ev ts x).bind fun a => (ev ts y).bind fun b => (vbin op a b).bind fun v => some (v, H)
  | .beq n x y => (ev ts x).bind fun a => (ev ts y).bind fun b => match a, b with
    | .bool a, .bool b => some (.bool (if n then !(a == b) else a == b), H)
    | _, _ => none
  | .aeq n m x y => (ev ts x).bind fun a => (ev ts y).bind fun b => match a, b with
    | .agg xs, .agg ys => if xs.size = m ∧ ys.size = m then (ieqs xs.toList ys.toList).bind fun r => some (.bool (if n then !r else r), H) else none
    | _, _ => none
  | .snil n x => (ev ts x).bind fun a => match a with
    | .slice a _ _ => some (.bool (if n then !a.isNone else a.isNone), H)
    | _ => none
  | .not x => (ev ts x).bind fun v => match v with
    | .bool b => some (.bool (!b), H)
    | _ => none
  | .conv k x => (ev ts x).bind fun v => match v with
    | .int _ n => some (.int k (k.wrap n), H)
    | _ => none
  | .mkfn f cap => (evs ts cap).bind fun vs => if vs.all isPtr = true then some (.func (.func f) #[] vs.toArray, H) else none
  | .mkslice st by_ z l c => (ev ts l).bind fun lv => (ev ts c).bind fun cv => (asI lv).bind fun l => (asI cv).bind fun c =>
    if l = c ∧ 0 ≤ c ∧ (by_ : Int) * c ≤ 281474976710656 ∧ c ≤ 4611686018427387904 ∧ z.length = st then some (.slice (some ⟨H.length, 0, none⟩) c.toNat st, H ++ [some ⟨(List.replicate c.toNat z).flatten, true, c == 0⟩]) else none
  | .slice st x l h m => (ev ts x).bind fun v =>
    match l, h, m with
    | none, none, none => (vslice st v none none none).bind fun u => some (u, H)
    | some l, none, none => (ev ts l).bind fun lv => (vslice st v (some lv) none none).bind fun u => some (u, H)
    | none, some h, none => (ev ts h).bind fun hv => (vslice st v none (some hv) none).bind fun u => some (u, H)
    | some l, some h, none => (ev ts l).bind fun lv => (ev ts h).bind fun hv => (vslice st v (some lv) (some hv) none).bind fun u => some (u, H)
    | l, some h, some m => (ev ts h).bind fun hv => (ev ts m).bind fun mv => match v with   -- xs[:0:0]
      | .slice (some a) n s => if asI hv = some 0 ∧ asI mv = some 0 ∧ l.isNone = true ∧ s = st ∧ (n = 0 → a.off = 0) then some (.slice (some ⟨H.length, 0, none⟩) 0 st, H ++ [some ⟨[], false, true⟩]) else none
      | .slice none n s => if asI hv = some 0 ∧ asI mv = some 0 ∧ l.isNone = true then some (.slice none 0 0, H) else none
      | _ => none
    | _, none, some _ => none
  | .faddr off x => (ev ts x).bind fun v => match v with
    | .pointer (some a) => some (.pointer (some ⟨a.block, a.off + off, none⟩), H)
    | _ => none
  | .field agg off n x => (ev ts x).bind fun v => match v with
    | .agg cs => if agg then (if off + n ≤ cs.size then some (.agg (cs.extract off (off + n)), H) else none) else (cs[off]?).bind fun v => some (v, H)
    | _ => none
  | .iaddr st x i => (ev ts x).bind fun v => (ev ts i).bind fun iv => (asI iv).bind fun i => match v with
    | .slice (some a) n s => if s = st ∧ 0 ≤ i ∧ i < n then some (.pointer (some ⟨a.block, a.off + i.toNat * st, none⟩), H) else none
    | _ => none
  | .ext i x => (ev ts x).bind fun v => match v with
    | .tuple vs => (vs[i]?).bind fun v => some (v, H)
    | _ => none
  | .len x => (ev ts x).bind fun v => (slen v).bind fun n => some (.int .i64 n, H)
  | .append st by_ x y => (ev ts x).bind fun a => (ev ts y).bind fun b => vappend st by_ lo H a b
  | .copy st x y => (ev ts x).bind fun d => (ev ts y).bind fun s => (slen s).bind fun m => match d with
    | .slice (some a) n s' => if s' = st then (if min n m = 0 then some (.int .i64 0, H) else (scells H st s).bind fun cs => (wrN lo H a (cs.take (min n m * st))).bind fun H' => some (.int .i64 (min n m : Nat), H')) else none
    | _ => none
  | .clear st z x => (ev ts x).bind fun d => match d with
    | .slice none _ _ => some (.tuple #[], H)
    | .slice (some a) n s => if n = 0 then some (.tuple #[], H) else if s = st then (wrN lo H a (List.replicate n z).flatten).bind fun H' => some (.tuple #[], H') else none
    | _ => none
  | .mx x y => (ev ts x).bind fun a => (ev ts y).bind fun b => match a, b with
    | .int k a, .int k' b => if k = k' then some (.int k (if b > a then b else a), H) else none
    | _, _ => none
  | .mn x y => (ev ts x).bind fun a => (ev ts y).bind fun b => match a, b with
    | .int k a, .int k' b => if k = k' then some (.int k (if b < a then b else a), H) else none
    | _, _ => none
  | .call f args => (evs ts args).bind fun vs => call f vs lo H
  | .callv x args => (ev ts x).bind fun v => (evs ts args).bind fun vs => match v with
    | .func (.func f) fst cap => if fst.size = 0 then call f (vs ++ cap.toList) lo H else none
    | _ => none
  | .capn x => (ev ts x).bind fun v => match v with
    | .slice none n _ => if n = 0 then some (.int .i64 0, H) else none
    | _ => none
  | .appz st by_ z x y => (ev ts x).bind fun a => (ev ts y).bind fun b => (asI b).bind fun n => match a with
    | .slice none m _ => if m = 0 ∧ 0 < n ∧ 0 < st ∧ fits n.toNat by_ = true ∧ z.length = st then some (.slice (some ⟨H.length, 0, none⟩) n.toNat st, H ++ [some ⟨(List.replicate n.toNat z).flatten, true, false⟩]) else none
    | _ => none
  | .bad => none

def isB : Value → Bool → Bool
  | .bool x, b => x == b
  | _, _ => false
/-- Does the operation run? -/
def wants (ts : Ts) : Option (Nat × Bool) → Option Bool
  | none => some true
  | some (t, b) => (lk ts t).bind fun v => some (isB v b)

def vops (call : Cal) (lo : Nat) : List VO → Ts → Hp → Option (Ts × Hp)
  | [], ts, H => some (ts, H)
  | o :: r, ts, H => (wants ts o.g).bind fun b => if b then (vop call lo ts H o.o).bind fun (v, H') => vops call lo r (put ts o.d v) H'
    else vops call lo r (put ts o.d (.tuple #[])) H

/-- Does it leave memory alone? -/
def VOp.still : VOp → Bool
  | .mv _ | .pick .. | .build .. | .load .. | .nilck _ | .bin .. | .beq .. | .aeq .. | .snil .. | .not _ | .conv .. | .mkfn .. | .faddr .. | .field .. | .iaddr .. | .ext .. | .len _ | .mx .. | .mn .. => true
  | .slice _ _ _ _ none => true
  | _ => false

/-- Does it lengthen a list? -/
def VOp.app : VOp → Bool
  | .append .. => true
  | _ => false
/-- Is it the same, whatever the memory? -/
def VOp.plain : VOp → Bool
  | .mv _ => true
  | _ => false
def allP : List VO → Bool
  | [] => true
  | o :: r => o.o.plain && allP r
/-- What it may write of what was there: the last but moves that lengthens a list may take the list's own memory. -/
def lof (lo : Nat) (o : VO) (r : List VO) (H : Hp) : Nat := if (o.o.app && allP r) = true then lo else H.length
/-- The free part: what leaves memory alone reads memory as it was at the head (H0); what makes memory turns nothing that was there. -/
def vfree (call : Cal) (lo : Nat) (H0 : Hp) : List VO → Ts → Hp → Option (Ts × Hp)
  | [], ts, H => some (ts, H)
  | o :: r, ts, H => (wants ts o.g).bind fun b => if b then
      (if o.o.still then (vop call 0 ts H0 o.o).bind fun (v, _) => vfree call lo H0 r (put ts o.d v) H
       else (vop call (lof lo o r H) ts H o.o).bind fun (v, H') => vfree call lo H0 r (put ts o.d v) H')
    else vfree call lo H0 r (put ts o.d (.tuple #[])) H

/-- But for the blocks q, what was there is as it was. -/
def Same (q : List Nat) (H0 H : Hp) : Prop := H0.length ≤ H.length ∧ ∀ i, i < H0.length → i ∉ q → H[i]? = H0[i]?
def kill : List Nat → Hp → Hp
  | [], H => H
  | q :: r, H => kill r (H.set q none)
/-- The free part of a region whose operations write the blocks q: what leaves memory alone reads memory as it was at the head, but not q. -/
noncomputable def vfreeD (call : Cal) (lo : Nat) (q : List Nat) (H0 : Hp) : List VO → Ts → Hp → Option (Ts × Hp)
  | [], ts, H => some (ts, H)
  | o :: r, ts, H => (wants ts o.g).bind fun b => if b then
      (if o.o.still then (vop call 0 ts (kill q H0) o.o).bind fun (v, _) => vfreeD call lo q H0 r (put ts o.d v) H
       else (vop call lo ts H o.o).bind fun (v, H') => open Classical in if Same q H0 H' then vfreeD call lo q H0 r (put ts o.d v) H' else none)
    else vfreeD call lo q H0 r (put ts o.d (.tuple #[])) H
def optA : Option Arg → List Arg
  | none => []
  | some x => [x]
def VOp.args : VOp → List Arg
  | .mv x | .box x | .nilck x | .snil _ x | .not x | .conv _ x | .faddr _ x | .field _ _ _ x | .ext _ x | .len x | .capn x | .clear _ _ x | .load _ _ x => [x]
  | .pick c a b => [c, a, b]
  | .new _ | .bad => []
  | .build _ ps | .bslice _ _ _ ps => ps.map (·.2.2)
  | .store _ a x => [a, x]
  | .bin _ x y | .beq _ x y | .aeq _ _ x y | .iaddr _ x y | .append _ _ x y | .appz _ _ _ x y | .copy _ x y | .mx x y | .mn x y => [x, y]
  | .mkfn _ cap => cap
  | .mkslice _ _ _ l c => [l, c]
  | .slice _ x lo hi m => x :: (optA lo ++ optA hi ++ optA m)
  | .call _ args => args
  | .callv x args => x :: args
def tmpsA (l : List Arg) : List Nat := l.filterMap fun | .t n => some n | .c _ => none
def VO.looks (o : VO) : List Nat := tmpsA o.o.args ++ (match o.g with | some (t, _) => [t] | none => [])

/-- A making of known cells (a list of known numbers, a variable that is nothing yet): its block; what it gives, where the block lies. -/
def litC : Value → Bool
  | .int _ _ | .bool _ | .slice none _ _ => true
  | _ => false
def litA : Arg → Bool
  | .c _ => true
  | .t _ => false
def flo (o : VO) : Option (Blk × (Nat → Value)) := match o.g, o.o with
  | none, .bslice st z n ps => if ps.all (fun p => litA p.2.2) = true then (vfill z [] ps).bind fun cs => if cs.all litC = true then some (⟨cs, true, n == 0⟩, fun c => .slice (some ⟨c, 0, none⟩) n st) else none else none
  | none, .new z => if z.all litC = true then some (⟨z, true, false⟩, fun c => .pointer (some ⟨c, 0, none⟩)) else none
  | _, _ => none
def isF (o : VO) : Bool := (flo o).isSome
def flB (o : VO) : Option (Option Blk) := (flo o).map fun x => some x.1
def flos (l : List VO) : List (Option Blk) := l.filterMap flB
def flx : List VO → Nat → List (Nat × Option Nat)
  | [], _ => []
  | o :: r, c => if isF o = true then (c, o.d) :: flx r (c + 1) else flx r c
/-- The lists of known numbers that an operation has nothing to do with. -/
def keepF (fx : List (Nat × Option Nat)) (o : VO) : List Nat := fx.filterMap fun x => if (match x.2 with | some d => o.looks.contains d | none => false) = true then none else some x.1
/-- Blocks put back as they were: an operation is reckoned without the blocks that it has nothing to do with. -/
def back : List Nat → Hp → Hp → Hp
  | [], _, G => G
  | x :: r, H, G => back r H (G.set x ((H[x]?).getD none))
/-- The free part of a region in which lists of known numbers are made at whatever time: their memory lies there from the head on. -/
noncomputable def vfreeF (call : Cal) (lo : Nat) (q : List Nat) (H0 : Hp) (fx : List (Nat × Option Nat)) : List VO → Nat → Ts → Hp → Option (Ts × Hp)
  | [], _, ts, H => some (ts, H)
  | o :: r, c, ts, H => match flo o with
    | some x => vfreeF call lo q H0 fx r (c + 1) (put ts o.d (x.2 c)) H
    | none => (wants ts o.g).bind fun b => if b then
        (if o.o.still then (vop call 0 ts (kill q H0) o.o).bind fun (v, _) => vfreeF call lo q H0 fx r c (put ts o.d v) H
         else (vop call lo ts (kill (keepF fx o) H) o.o).bind fun (v, H') => open Classical in if Same q H0 (back (keepF fx o) H H') then vfreeF call lo q H0 fx r c (put ts o.d v) (back (keepF fx o) H H') else none)
      else vfreeF call lo q H0 fx r c (put ts o.d (.tuple #[])) H
/-- The blocks that temporaries point to. -/
def qat (ts : Ts) (t : Nat) : Option Nat := (lk ts t).bind fun v => match v with
  | .pointer (some a) => some a.block
  | _ => none
def qats (ts : Ts) : List Nat → Option (List Nat)
  | [] => some []
  | t :: r => (qat ts t).bind fun q => (qats ts r).map (q :: ·)

def iter (f : Ts → Hp → Option (VE × Ts × Hp)) : Nat → Ts → Hp → Option (VE × Ts × Hp)
  | 0, _, _ => none
  | n + 1, ts, H => (f ts H).bind fun (e, ts', H') => match e with
    | .normal => iter f n ts' H'
    | e => some (e, ts', H')
/-- A loop: what enough rounds come to. -/
noncomputable def lim (f : Ts → Hp → Option (VE × Ts × Hp)) (ts : Ts) (H : Hp) : Option (VE × Ts × Hp) :=
  open Classical in if h : ∃ n, (iter f n ts H).isSome = true then iter f h.choose ts H else none

noncomputable def vc (call : Cal) (lo : Nat) : VC → Ts → Hp → Option (VE × Ts × Hp)
  | .skip, ts, H => some (.normal, ts, H)
  | .ops l, ts, H => (vops call lo l ts H).bind fun (ts, H) => some (.normal, ts, H)
  | .draw l r, ts, H => (vfree call lo H l ts H).bind fun (ts, H) => (vops call lo r ts H).bind fun (ts, H) => some (.normal, ts, H)
  | .drawD t l r, ts, H => (qats ts t).bind fun q => (vfreeD call lo q H l ts H).bind fun (ts, H) => (vops call lo r ts H).bind fun (ts, H) => some (.normal, ts, H)
  | .drawF t l r, ts, H => (qats ts t).bind fun q => (vfreeF call lo q H (flx l H.length) l H.length ts (H ++ flos l)).bind fun (ts, H) => (vops call lo r ts H).bind fun (ts, H) => some (.normal, ts, H)
  | .seq a b, ts, H => (vc call lo a ts H).bind fun (e, ts', H') => match e with
    | .normal => vc call lo b ts' H'
    | e => some (e, ts', H')
  | .cond c a b, ts, H => (ev ts c).bind fun v => match v with
    | .bool t => if t = true then vc call lo a ts H else vc call lo b ts H
    | _ => none
  | .block id c, ts, H => (vc call lo c ts H).bind fun (e, ts', H') => some (if e = .exit id then .normal else e, ts', H')
  | .exit id, ts, H => some (.exit id, ts, H)
  | .loop keep kx c, ts, H => lim (fun ts H => (vc call lo c ts H).bind fun (e, ts', H') => some (e, keepTs ts' (if e = .normal then keep else kx), H')) (keepTs ts keep) H
  | .ret, ts, H => some (.ret, ts, H)

def vres (ts : Ts) (H : Hp) : VR → Option Value
  | .t n => lk ts n
  | .cell n agg sz => (lk ts n).bind fun p => match p with
    | .pointer (some a) => if agg then (rdN H a sz).bind fun cs => some (.agg cs.toArray) else rd H a
    | _ => none
def vress (ts : Ts) (H : Hp) : List VR → Option (List Value)
  | [] => some []
  | r :: rs => (vres ts H r).bind fun v => (vress ts H rs).bind fun vs => if ntup v = true then some (v :: vs) else none
def tup : List Value → Value
  | [v] => v
  | vs => .tuple vs.toArray

def start : Nat → List Value → Ts
  | _, [] => []
  | k, v :: vs => (k, v) :: start (k + 1) vs

/-- A function's body, at arguments. -/
noncomputable def vfun (call : Cal) (f : VF) (args : List Value) (lo : Nat) (H : Hp) : Option (Value × Hp) :=
  if args.length = f.np then
    (vc call (if f.pu then H.length else lo) f.body (start 0 args) H).bind fun (e, ts, H') => match e with
      | .exit _ => none
      | _ => (vress ts H' f.res).bind fun vs => some (tup vs, if f.pu && noRef (tup vs) then H else H')
  else none

abbrev Env := List (Nat × VF)
def Env.find : Env → Nat → Option VF
  | [], _ => none
  | (k, f) :: r, n => if k = n then some f else Env.find r n

/-- A call, at a depth of calls. -/
noncomputable def vcall (E : Env) : Nat → Cal
  | 0, _, _, _, _ => none
  | d + 1, f, args, lo, H => (E.find f).bind fun vf => vfun (vcall E d) vf args lo H
end Go.Proofs.Ytaahjfjpbilfnaa.V
/-! How the machine's memory stands in the program's: each live block lies somewhere; values are alike up to where they point. What a step may turn. -/
namespace Go.Proofs.Ytaahjfjpbilfnaa.V
open Go
set_option linter.unusedVariables false
set_option linter.unusedSimpArgs false

structure MA where
  b : Nat
  o : Nat
  k : Nat
  s : Nat
abbrev Mu := Nat → Option MA

inductive L2 (R : Value → Value → Prop) : List Value → List Value → Prop
  | nil : L2 R [] []
  | cons {a b l m} : R a b → L2 R l m → L2 R (a :: l) (b :: m)
section
variable {R R' : Value → Value → Prop}
theorem L2.mono (h : ∀ a b, R a b → R' a b) : ∀ {l m}, L2 R l m → L2 R' l m
  | _, _, .nil => .nil
  | _, _, .cons x y => .cons (h _ _ x) (L2.mono h y)
theorem L2.len : ∀ {l m}, L2 R l m → l.length = m.length
  | _, _, .nil => rfl
  | _, _, .cons _ y => by simp [y.len]
theorem L2.get : ∀ {l m : List Value}, L2 R l m → ∀ {i : Nat} {x : Value}, l[i]? = some x → ∃ y, m[i]? = some y ∧ R x y
  | _, _, .nil, i, x, h => by simp at h
  | _, _, .cons (b := b) r y, 0, x, h => ⟨b, rfl, by simp at h; subst h; exact r⟩
  | _, _, .cons r y, i + 1, x, h => by simpa using y.get (i := i) (by simpa using h)
theorem L2.append : ∀ {l m l' m'}, L2 R l m → L2 R l' m' → L2 R (l ++ l') (m ++ m')
  | _, _, _, _, .nil, h => h
  | _, _, _, _, .cons r y, h => .cons r (y.append h)
theorem L2.take : ∀ {l m}, L2 R l m → ∀ n, L2 R (l.take n) (m.take n)
  | _, _, .nil, n => by simpa using .nil
  | _, _, .cons r y, 0 => by simpa using .nil
  | _, _, .cons r y, n + 1 => by simpa using .cons r (y.take n)
theorem L2.drop : ∀ {l m}, L2 R l m → ∀ n, L2 R (l.drop n) (m.drop n)
  | _, _, .nil, n => by simpa using .nil
  | _, _, .cons r y, 0 => by simpa using .cons r y
  | _, _, .cons r y, n + 1 => by simpa using y.drop n
theorem L2.of_get : ∀ {l m : List Value}, l.length = m.length → (∀ (i : Nat) (x y : Value), l[i]? = some x → m[i]? = some y → R x y) → L2 R l m
  | [], [], _, _ => .nil
  | a :: l, b :: m, hl, h => .cons (h 0 a b rfl rfl) (L2.of_get (by simpa using hl) fun i x y hx hy => h (i + 1) x y (by simpa using hx) (by simpa using hy))
theorem L2.set : ∀ {l m}, L2 R l m → ∀ i {x y}, R x y → L2 R (l.set i x) (m.set i y)
  | _, _, .nil, i, _, _, _ => by simpa using .nil
  | _, _, .cons r t, 0, _, _, h => by simpa using .cons h t
  | _, _, .cons r t, i + 1, _, _, h => by simpa using .cons r (t.set i h)
theorem L2.all {p : Value → Prop} (hp : ∀ a b, R a b → p b) : ∀ {l m}, L2 R l m → ∀ b ∈ m, p b
  | _, _, .nil, b, h => by simp at h
  | _, _, .cons r t, b, h => by
    rcases List.mem_cons.1 h with rfl | h
    · exact hp _ _ r
    · exact t.all hp b h
theorem L2.rep {x y : Value} (h : R x y) : ∀ n, L2 R (List.replicate n x) (List.replicate n y)
  | 0 => .nil
  | n + 1 => .cons h (L2.rep h n)
end

def RP (μ : Mu) : Value → Value → Prop
  | .bool b, r => r = .bool b
  | .int k n, r => r = .int k n
  | .string s, r => r = .string s
  | .pointer none, r => r = .pointer none
  | .pointer (some a), r => a.spot = none ∧ ∃ m, μ a.block = some m ∧ r = .pointer (some ⟨m.b, m.o + a.off, none⟩)
  | .slice none n _, r => n = 0 ∧ r = .slice none 0 0
  | .slice (some a) n st, r => a.spot = none ∧ ∃ m, μ a.block = some m ∧ m.s = st ∧ ∃ a' c, r = .slice (some a') n c ∧ (0 < n → a'.spot = none) ∧ n ≤ c ∧ (a.off = 0 → a' = ⟨m.b, m.o, none⟩ ∧ c = m.k) ∧ (0 < n → a' = ⟨m.b, m.o + a.off, none⟩)
  | _, _ => False
def RC (μ : Mu) (v r : Value) : Prop :=
  match v with
  | .func f fst cap => fst = #[] ∧ ∃ cap' : Array Value, r = .func f #[] cap' ∧ L2 (RP μ) cap.toList cap'.toList
  | v => RP μ v r
def R1 (μ : Mu) (v r : Value) : Prop :=
  match v with
  | .agg cs => ∃ rs : Array Value, r = .agg rs ∧ L2 (RC μ) cs.toList rs.toList
  | v => RC μ v r
def R2 (μ : Mu) (v r : Value) : Prop :=
  match v with
  | .tuple vs => ∃ rs : Array Value, r = .tuple rs ∧ L2 (R1 μ) vs.toList rs.toList
  | v => R1 μ v r

def Ext (μ μ' : Mu) : Prop := ∀ i m, μ i = some m → μ' i = some m
theorem Ext.refl (μ : Mu) : Ext μ μ := fun _ _ h => h
theorem Ext.trans {a b c : Mu} (h : Ext a b) (k : Ext b c) : Ext a c := fun i m x => k i m (h i m x)

theorem RP.ext {μ μ' : Mu} (h : Ext μ μ') : ∀ {v r}, RP μ v r → RP μ' v r := by
  intro v r hr
  cases v <;> try exact hr
  case pointer a =>
    cases a with
    | none => exact hr
    | some a => obtain ⟨h0, m, hm, e⟩ := hr; exact ⟨h0, m, h _ _ hm, e⟩
  case slice a n c =>
    cases a with
    | none => exact hr
    | some a => obtain ⟨h0, m, hm, e⟩ := hr; exact ⟨h0, m, h _ _ hm, e⟩
theorem RC_eq {μ : Mu} {v r : Value} (h : ∀ f a b, v ≠ .func f a b) : RC μ v r = RP μ v r := by
  cases v <;> first | rfl | exact absurd rfl (h _ _ _)
theorem R1_eq {μ : Mu} {v r : Value} (h : ∀ cs, v ≠ .agg cs) : R1 μ v r = RC μ v r := by
  cases v <;> first | rfl | exact absurd rfl (h _)
theorem R2_eq {μ : Mu} {v r : Value} (h : ∀ cs, v ≠ .tuple cs) : R2 μ v r = R1 μ v r := by
  cases v <;> first | rfl | exact absurd rfl (h _)
theorem RC.ext {μ μ' : Mu} (h : Ext μ μ') {v r} (hr : RC μ v r) : RC μ' v r := by
  cases v
  case func f a b =>
    obtain ⟨h0, c, e, hl⟩ := hr
    exact ⟨h0, c, e, hl.mono fun _ _ => RP.ext h⟩
  all_goals
    rw [RC_eq (by simp)] at hr ⊢
    exact RP.ext h hr
theorem R1.ext {μ μ' : Mu} (h : Ext μ μ') {v r} (hr : R1 μ v r) : R1 μ' v r := by
  cases v
  case agg cs =>
    obtain ⟨c, e, hl⟩ := hr
    exact ⟨c, e, hl.mono fun _ _ => RC.ext h⟩
  all_goals
    rw [R1_eq (by simp)] at hr ⊢
    exact RC.ext h hr
theorem R2.ext {μ μ' : Mu} (h : Ext μ μ') {v r} (hr : R2 μ v r) : R2 μ' v r := by
  cases v
  case tuple cs =>
    obtain ⟨c, e, hl⟩ := hr
    exact ⟨c, e, hl.mono fun _ _ => R1.ext h⟩
  all_goals
    rw [R2_eq (by simp)] at hr ⊢
    exact R1.ext h hr

theorem RC.one {μ : Mu} {v r} (hr : RC μ v r) : r.oneCell' = true ∧ (∀ cs, v ≠ .agg cs) ∧ (∀ cs, v ≠ .tuple cs) := by
  cases v <;> simp only [RC, RP] at hr
  case pointer a => cases a <;> simp only [RP] at hr
                    · subst hr; simp [Value.oneCell']
                    · obtain ⟨_, m, _, rfl⟩ := hr; simp [Value.oneCell']
  case slice a n c => cases a <;> simp only [RP] at hr
                      · obtain ⟨_, rfl⟩ := hr; simp [Value.oneCell']
                      · obtain ⟨_, m, _, _, a', c', rfl, _⟩ := hr; simp [Value.oneCell']
  case func f a b => obtain ⟨_, c, rfl, _⟩ := hr; simp [Value.oneCell']
  all_goals (first | (subst hr; simp [Value.oneCell']) | exact hr.elim)
theorem R1.of_RC {μ : Mu} {v r} (h : RC μ v r) : R1 μ v r := by
  rw [R1_eq (RC.one h).2.1]; exact h
theorem R1.notTuple {μ : Mu} {v r} (h : R1 μ v r) : ∀ cs, v ≠ .tuple cs := by
  intro cs e; subst e; exact h.elim
theorem R2.of_R1 {μ : Mu} {v r} (h : R1 μ v r) : R2 μ v r := by
  rw [R2_eq h.notTuple]; exact h
theorem R2.of_RC {μ : Mu} {v r} (h : RC μ v r) : R2 μ v r := R2.of_R1 (R1.of_RC h)
theorem R2.to_R1 {μ : Mu} {v r} (h : R2 μ v r) (ht : ∀ cs, v ≠ .tuple cs) : R1 μ v r := by
  rw [R2_eq ht] at h; exact h

/-- The cells of a value and of what it stands for. -/
theorem R1.cells {μ : Mu} {v r} (h : R1 μ v r) : L2 (RC μ) (vcells v) r.cells.toList := by
  cases v
  case agg cs => obtain ⟨rs, rfl, hl⟩ := h; simpa [vcells, Value.cells] using hl
  all_goals
    rw [R1_eq (by simp)] at h
    have h' := h
    have h1 := (RC.one h').1
    have e : r.cells = #[r] := by cases r <;> first | rfl | simp [Value.oneCell'] at h1
    rw [e]
    exact .cons h' .nil

structure BOK (μ : Mu) (b : Blk) (m : MA) (w : World) : Prop where
  cells : ∀ (j : Nat) c, b.cs[j]? = some c → ∃ r, w.cell? ⟨m.b, m.o + j, none⟩ = some r ∧ RC μ c r
  k0 : b.k0 = true → m.k = 0
  rw : b.rw = true → ∃ C e, w.heap[m.b]? = some (.cells C e (0, 0)) ∧ m.o = 0 ∧ C.size = m.k * m.s ∧ m.k ≤ maxLen
structure Sim (μ : Mu) (H : Hp) (w : World) : Prop where
  dom : ∀ i m, μ i = some m → i < H.length
  blk : ∀ i b, H[i]? = some (some b) → ∃ m, μ i = some m ∧ BOK μ b m w
  sep : ∀ i j bi bj mi mj, i ≠ j → H[i]? = some (some bi) → H[j]? = some (some bj) → bi.rw = true → (bj.cs ≠ [] ∨ bj.rw = true) → μ i = some mi → μ j = some mj → mi.b ≠ mj.b
structure Stp (lo : Nat) (μ : Mu) (H : Hp) (w : World) (μ' : Mu) (H' : Hp) (w' : World) : Prop where
  ext : Ext μ μ'
  os : w'.os = w.os
  tape : w'.tape = w.tape
  output : w'.output = w.output
  size : w.heap.size ≤ w'.heap.size
  len : H.length ≤ H'.length
  old : ∀ b, b < w.heap.size → (∀ i bl m, lo ≤ i → H[i]? = some (some bl) → bl.rw = true → μ i = some m → m.b ≠ b) → w'.heap[b]? = w.heap[b]?
  wr : ∀ i bl m, lo ≤ i → H'[i]? = some (some bl) → bl.rw = true → μ' i = some m → m.b < w.heap.size → ∃ j bl' m', lo ≤ j ∧ H[j]? = some (some bl') ∧ bl'.rw = true ∧ μ j = some m' ∧ m'.b = m.b
  low : ∀ i, i < lo → i < H.length → H'[i]? = H[i]?
  agree : ∀ i, i < H.length → μ' i = μ i
  ro : ∀ (i : Nat) (bl : Blk), H'[i]? = some (some bl) → bl.rw = false → bl.cs ≠ [] → H[i]? = some (some bl)

theorem Stp.refl (lo : Nat) (μ : Mu) (H : Hp) (w : World) : Stp lo μ H w μ H w :=
  ⟨Ext.refl _, rfl, rfl, rfl, Nat.le_refl _, Nat.le_refl _, fun _ _ _ => rfl, fun i bl m hi hb hr hm _ => ⟨i, bl, m, hi, hb, hr, hm, rfl⟩, fun _ _ _ => rfl, fun _ _ => rfl, fun _ _ h _ _ => h⟩
theorem Stp.trans {lo : Nat} {μ μ1 μ2 : Mu} {H H1 H2 : Hp} {w w1 w2 : World} (a : Stp lo μ H w μ1 H1 w1) (b : Stp lo μ1 H1 w1 μ2 H2 w2) : Stp lo μ H w μ2 H2 w2 where
  ext := a.ext.trans b.ext
  os := b.os.trans a.os
  tape := b.tape.trans a.tape
  output := b.output.trans a.output
  size := Nat.le_trans a.size b.size
  len := Nat.le_trans a.len b.len
  old := fun k hk hn => by
    rw [b.old k (Nat.lt_of_lt_of_le hk a.size) fun i bl m hi hb hr hm e => ?_, a.old k hk hn]
    subst e
    obtain ⟨j, bl', m', hj, hb', hr', hm', e'⟩ := a.wr i bl m hi hb hr hm hk
    exact hn j bl' m' hj hb' hr' hm' e'
  wr := fun i bl m hi hb hr hm hk => by
    obtain ⟨j, bl', m', hj, hb', hr', hm', e'⟩ := b.wr i bl m hi hb hr hm (Nat.lt_of_lt_of_le hk a.size)
    obtain ⟨j2, bl2, m2, hj2, hb2, hr2, hm2, e2⟩ := a.wr j bl' m' hj hb' hr' hm' (e' ▸ hk)
    exact ⟨j2, bl2, m2, hj2, hb2, hr2, hm2, e2.trans e'⟩
  low := fun i hi hl => by rw [b.low i hi (Nat.lt_of_lt_of_le hl a.len), a.low i hi hl]
  agree := fun i hi => (b.agree i (Nat.lt_of_lt_of_le hi a.len)).trans (a.agree i hi)
  ro := fun i bl h hr hc => a.ro i bl (b.ro i bl h hr hc) hr hc
/-- What may be written may be less. -/
theorem Stp.mono {lo lo' : Nat} {μ μ1 : Mu} {H H1 : Hp} {w w1 : World} (a : Stp lo μ H w μ1 H1 w1) (hs : Sim μ H w) (h : lo' ≤ lo) (hlo : lo ≤ H.length) : Stp lo' μ H w μ1 H1 w1 :=
  { a with
    old := fun b hb hn => a.old b hb fun i bl m hi => hn i bl m (Nat.le_trans h hi)
    wr := fun i bl m hi hb hr hm hk => by
      by_cases hil : lo ≤ i
      · obtain ⟨j, bl', m', hj, x⟩ := a.wr i bl m hil hb hr hm hk
        exact ⟨j, bl', m', Nat.le_trans h hj, x⟩
      · rw [a.low i (by omega) (by omega)] at hb
        obtain ⟨m0, hm0, _⟩ := hs.blk i bl hb
        have := a.ext _ _ hm0
        rw [hm] at this
        cases this
        exact ⟨i, bl, m, hi, hb, hr, hm0, rfl⟩
    low := fun i hi hl => a.low i (Nat.lt_of_lt_of_le hi h) hl }

theorem Sim.drew {μ : Mu} {H : Hp} {w w' : World} (hw : w'.heap = w.heap) (h : Sim μ H w) : Sim μ H w' := by
  have hc : ∀ a, w'.cell? a = w.cell? a := fun a => by simp [World.cell?, hw]
  exact ⟨h.dom, fun i b hb => by
    obtain ⟨m, hm, h1, h2, h3⟩ := h.blk i b hb
    exact ⟨m, hm, fun j c hc' => by rw [hc]; exact h1 j c hc', h2, fun hr => by rw [hw]; exact h3 hr⟩, h.sep⟩
theorem Stp.drew {lo : Nat} {μ : Mu} {H : Hp} {w w' : World} (hw : w'.heap = w.heap) (ho : w'.os = w.os) (ht : w'.tape = w.tape) (hp : w'.output = w.output) : Stp lo μ H w μ H w' :=
  ⟨Ext.refl _, ho, ht, hp, by rw [hw]; exact Nat.le_refl _, Nat.le_refl _, fun _ _ _ => by rw [hw], fun i bl m hi hb hr hm _ => ⟨i, bl, m, hi, hb, hr, hm, rfl⟩, fun _ _ _ => rfl, fun _ _ => rfl, fun _ _ h _ _ => h⟩
end Go.Proofs.Ytaahjfjpbilfnaa.V
/-! What the machine's steps on memory are in the program's memory: a new block; cells written; a block that moves. -/
namespace Go.Proofs.Ytaahjfjpbilfnaa.V
open Go
set_option linter.unusedVariables false
set_option linter.unusedSimpArgs false

theorem get_snoc {α : Type} (l : List α) (x : α) (i : Nat) : (l ++ [x])[i]? = if i < l.length then l[i]? else if i = l.length then some x else none := by
  rw [List.getElem?_append]
  split
  · rfl
  · rename_i h
    split
    · rename_i e; subst e; simp
    · rename_i e
      rw [List.getElem?_eq_none]
      simp; omega
theorem snoc_old {α : Type} {l : List α} {x y : α} {i : Nat} (h : (l ++ [x])[i]? = some y) : (i < l.length ∧ l[i]? = some y) ∨ (i = l.length ∧ y = x) := by
  rw [get_snoc] at h
  split at h
  · exact .inl ⟨‹_›, h⟩
  · split at h
    · exact .inr ⟨‹_›, (Option.some.inj h).symm⟩
    · cases h

def upd (μ : Mu) (n : Nat) (m : MA) : Mu := fun i => if i = n then some m else μ i
theorem upd_same (μ : Mu) (n : Nat) (m : MA) : upd μ n m n = some m := by simp [upd]
theorem upd_ne {μ : Mu} {n i : Nat} {m : MA} (h : i ≠ n) : upd μ n m i = μ i := by simp [upd, h]
theorem Sim.ext_upd {μ : Mu} {H : Hp} {w : World} (hs : Sim μ H w) (m : MA) : Ext μ (upd μ H.length m) := fun i x h => by
  rw [upd_ne (by have := hs.dom i x h; omega)]; exact h

theorem BOK.ext {μ μ' : Mu} (h : Ext μ μ') {b m w} (hb : BOK μ b m w) : BOK μ' b m w :=
  ⟨fun j c hc => let ⟨r, h1, h2⟩ := hb.cells j c hc; ⟨r, h1, h2.ext h⟩, hb.k0, hb.rw⟩
/-- A block's facts in a world in which its real block is as it was. -/
theorem BOK.keep {μ : Mu} {b m} {w w' : World} (hb : BOK μ b m w) (h : w'.heap[m.b]? = w.heap[m.b]?) : BOK μ b m w' :=
  ⟨fun j c hc => by rw [World.cell?_of_block (w := w) (a := ⟨m.b, m.o + j, none⟩) h]; exact hb.cells j c hc, hb.k0, fun hr => by rw [h]; exact hb.rw hr⟩
theorem BOK.lt {μ : Mu} {b m} {w : World} (hb : BOK μ b m w) (h : b.cs ≠ [] ∨ b.rw = true) : m.b < w.heap.size := by
  rcases h with h | h
  · obtain ⟨c, hc⟩ : ∃ c, b.cs[0]? = some c := by cases hb' : b.cs with
      | nil => exact absurd hb' h
      | cons x y => exact ⟨x, rfl⟩
    obtain ⟨r, h1, _⟩ := hb.cells 0 c hc
    exact World.block_lt_of_cell? w _ h1
  · obtain ⟨C, e, hg, _⟩ := hb.rw h
    exact (Array.getElem?_eq_some_iff.1 hg).1
theorem BOK.dull {μ : Mu} {b m} {w w' : World} (hb : BOK μ b m w) (h1 : b.cs = []) (h2 : b.rw = false) : BOK μ b m w' :=
  ⟨fun j c hc => by simp [h1] at hc, hb.k0, fun hr => by simp [h2] at hr⟩

/-- A new block. -/
theorem Sim.alloc {μ : Mu} {H : Hp} {w : World} (hs : Sim μ H w) {vs : List Value} {C : Array Value} {e : TypeId} {k s : Nat} {k0 : Bool}
    (hc : ∀ (j : Nat) c, vs[j]? = some c → ∃ r, C[j]? = some r ∧ RC μ c r) (hk0 : k0 = true → k = 0) (hsz : C.size = k * s) (hm : k ≤ maxLen) (lo : Nat) :
    Sim (upd μ H.length ⟨w.heap.size, 0, k, s⟩) (H ++ [some ⟨vs, true, k0⟩]) (w.alloc (.cells C e)) ∧ Stp lo μ H w (upd μ H.length ⟨w.heap.size, 0, k, s⟩) (H ++ [some ⟨vs, true, k0⟩]) (w.alloc (.cells C e)) := by
  have hx := hs.ext_upd ⟨w.heap.size, 0, k, s⟩
  have hnew : (w.alloc (.cells C e)).heap[w.heap.size]? = some (.cells C e (0, 0)) := heap_alloc_new w _
  refine ⟨⟨fun i m hi => ?_, fun i b hb => ?_, fun i j bi bj mi mj hij hbi hbj hr hq hmi hmj => ?_⟩, ⟨hx, rfl, rfl, rfl, by simp, by simp, fun b hb _ => heap_alloc_old w _ b hb, fun i bl m hlo hb hr hm hlt => ?_, fun i _ hi => by rw [get_snoc, if_pos hi], fun i hi => upd_ne (by omega), fun i bl h hr hc => by rcases snoc_old h with ⟨_, h⟩ | ⟨_, h⟩; exact h; cases h; cases hr⟩⟩
  · simp only [upd] at hi
    split at hi
    · simp; omega
    · have := hs.dom i m hi; simp; omega
  · rcases snoc_old hb with ⟨hlt, hb⟩ | ⟨rfl, he⟩
    · obtain ⟨m, hm', hok⟩ := hs.blk i b hb
      refine ⟨m, by rw [upd_ne (by omega)]; exact hm', ?_⟩
      by_cases hq : b.cs ≠ [] ∨ b.rw = true
      · exact (hok.keep (heap_alloc_old w _ _ (hok.lt hq))).ext hx
      · simp only [not_or, ne_eq, Decidable.not_not, Bool.not_eq_true] at hq
        exact (hok.dull hq.1 hq.2).ext hx
    · cases he
      refine ⟨_, upd_same _ _ _, ⟨fun j c hc' => ?_, hk0, fun _ => ⟨C, e, hnew, rfl, hsz, hm⟩⟩⟩
      obtain ⟨r, h1, h2⟩ := hc j c hc'
      exact ⟨r, by simp only [Nat.zero_add]; rw [cell_of_row _ _ j C e (0, 0) hnew]; exact h1, h2.ext hx⟩
  · rcases snoc_old hbi with ⟨hli, hbi⟩ | ⟨rfl, hei⟩
    · rw [upd_ne (by omega)] at hmi
      rcases snoc_old hbj with ⟨hlj, hbj⟩ | ⟨rfl, hej⟩
      · rw [upd_ne (by omega)] at hmj
        exact hs.sep i j bi bj mi mj hij hbi hbj hr hq hmi hmj
      · rw [upd_same] at hmj
        cases hmj
        obtain ⟨m, hm', hok⟩ := hs.blk i bi hbi
        rw [hmi] at hm'; cases hm'
        have := hok.lt (.inr hr)
        simp; omega
    · rw [upd_same] at hmi
      cases hmi
      rcases snoc_old hbj with ⟨hlj, hbj⟩ | ⟨rfl, hej⟩
      · rw [upd_ne (by omega)] at hmj
        obtain ⟨m, hm', hok⟩ := hs.blk j bj hbj
        rw [hmj] at hm'; cases hm'
        have := hok.lt hq
        simp; omega
      · exact absurd rfl hij
  · rcases snoc_old hb with ⟨hli, hb⟩ | ⟨rfl, he⟩
    · rw [upd_ne (by omega)] at hm
      exact ⟨i, bl, m, hlo, hb, hr, hm, rfl⟩
    · rw [upd_same] at hm
      cases hm
      simp at hlt

theorem set_get {α : Type} {l : List α} {i j : Nat} {x y : α} (h : (l.set i x)[j]? = some y) : (i = j ∧ y = x) ∨ (i ≠ j ∧ l[j]? = some y) := by
  by_cases e : i = j
  · subst e
    rw [List.getElem?_set_self'] at h
    cases hl : l[i]? with
    | none => rw [hl] at h; simp at h
    | some z => rw [hl] at h; simp at h; exact .inl ⟨rfl, h.symm⟩
  · rw [List.getElem?_set_ne e] at h
    exact .inr ⟨e, h⟩

/-- Cells of one's own are written. -/
theorem Sim.setRow {μ : Mu} {H : Hp} {w : World} (hs : Sim μ H w) {i : Nat} {b : Blk} {m : MA} (hi : H[i]? = some (some b)) (hr : b.rw = true) (hμ : μ i = some m) {C C' : Array Value} {e : TypeId}
    (hg : w.heap[m.b]? = some (.cells C e (0, 0))) {cs' : List Value} (hsz : C'.size = C.size) (hc : ∀ (j : Nat) c, cs'[j]? = some c → ∃ r, C'[j]? = some r ∧ RC μ c r) {lo : Nat} (hlo : lo ≤ i) :
    Sim μ (H.set i (some ⟨cs', true, b.k0⟩)) (w.setRow m.b C') ∧ Stp lo μ H w μ (H.set i (some ⟨cs', true, b.k0⟩)) (w.setRow m.b C') := by
  obtain ⟨m', hm', hok⟩ := hs.blk i b hi
  rw [hμ] at hm'; cases hm'
  obtain ⟨C0, e0, hg0, ho, hsz0, hml⟩ := hok.rw hr
  rw [hg] at hg0; cases hg0
  have hnew : (w.setRow m.b C').heap[m.b]? = some (.cells C' e (0, 0)) := setRow_heap w m.b C C' e (0, 0) hg
  have live : ∀ (j : Nat) (bj : Blk), (H.set i (some ⟨cs', true, b.k0⟩))[j]? = some (some bj) → ∃ bj0, H[j]? = some (some bj0) ∧ bj0.rw = bj.rw ∧ (j = i ∨ bj0 = bj) := by
    intro (j : Nat) (bj : Blk) hbj
    rcases set_get hbj with ⟨rfl, he⟩ | ⟨hne, hb⟩
    · cases he; exact ⟨b, hi, hr, .inl rfl⟩
    · exact ⟨bj, hb, rfl, .inr rfl⟩
  refine ⟨⟨fun j x hx => by simpa using hs.dom j x hx, fun j bj hbj => ?_, fun p q bp bq mp mq hpq hbp hbq hrp hq hmp hmq => ?_⟩, ⟨Ext.refl _, rfl, rfl, rfl, by simp, by simp, fun k hk hn => setRow_other w _ _ _ (fun e => hn i b m hlo hi hr hμ e.symm), fun j bj mj hj hbj hrj hmj _ => ?_, fun j hj _ => by rw [List.getElem?_set_ne (by omega)], fun _ _ => rfl, fun j bl h hr hc => by rcases set_get h with ⟨_, h⟩ | ⟨_, h⟩; cases h; cases hr; exact h⟩⟩
  · rcases set_get hbj with ⟨rfl, he⟩ | ⟨hne, hb⟩
    · cases he
      refine ⟨m, hμ, ⟨fun j c hc' => ?_, hok.k0, fun _ => ⟨C', e, hnew, ho, by rw [hsz]; exact hsz0, hml⟩⟩⟩
      obtain ⟨r, h1, h2⟩ := hc j c hc'
      exact ⟨r, by rw [ho, Nat.zero_add, cell_of_row _ _ j C' e (0, 0) hnew]; exact h1, h2⟩
    · obtain ⟨mj, hmj, hokj⟩ := hs.blk j bj hb
      refine ⟨mj, hmj, ?_⟩
      by_cases hq : bj.cs ≠ [] ∨ bj.rw = true
      · exact hokj.keep (setRow_other w _ _ _ (fun e => hs.sep i j b bj m mj hne hi hb hr hq hμ hmj e.symm))
      · simp only [not_or, ne_eq, Decidable.not_not, Bool.not_eq_true] at hq
        exact hokj.dull hq.1 hq.2
  · obtain ⟨bp0, hp0, hrp0, _⟩ := live p bp hbp
    obtain ⟨bq0, hq0, hrq0, hor⟩ := live q bq hbq
    refine hs.sep p q bp0 bq0 mp mq hpq hp0 hq0 (hrp0 ▸ hrp) ?_ hmp hmq
    rcases hor with rfl | rfl
    · rw [hi] at hq0; cases hq0; exact .inr hr
    · exact hq
  · obtain ⟨bj0, hj0, hrj0, _⟩ := live j bj hbj
    exact ⟨j, bj0, mj, hj, hj0, hrj0 ▸ hrj, hmj, rfl⟩

/-- A block is forgotten. -/
theorem Sim.kill {μ : Mu} {H : Hp} {w : World} (hs : Sim μ H w) (i : Nat) {lo : Nat} (hlo : lo ≤ i) : Sim μ (H.set i none) w ∧ Stp lo μ H w μ (H.set i none) w := by
  have live : ∀ (j : Nat) (bj : Blk), (H.set i none)[j]? = some (some bj) → H[j]? = some (some bj) := by
    intro (j : Nat) (bj : Blk) hbj
    rcases set_get hbj with ⟨rfl, he⟩ | ⟨hne, hb⟩
    · cases he
    · exact hb
  exact ⟨⟨fun j x hx => by simpa using hs.dom j x hx, fun j bj hbj => hs.blk j bj (live j bj hbj), fun p q bp bq mp mq hpq hbp hbq hrp hq hmp hmq => hs.sep p q bp bq mp mq hpq (live _ _ hbp) (live _ _ hbq) hrp hq hmp hmq⟩,
    ⟨Ext.refl _, rfl, rfl, rfl, Nat.le_refl _, by simp, fun _ _ _ => rfl, fun j bj mj hj hbj hrj hmj _ => ⟨j, bj, mj, hj, live _ _ hbj, hrj, hmj, rfl⟩, fun j hj _ => by rw [List.getElem?_set_ne (by omega)], fun _ _ => rfl, fun j bl h _ _ => live j bl h⟩⟩

/-- A block gets a new number. -/
theorem Sim.move {μ : Mu} {H : Hp} {w : World} (hs : Sim μ H w) {i : Nat} {b : Blk} {m : MA} (hi : H[i]? = some (some b)) (hr : b.rw = true) (hμ : μ i = some m) {lo : Nat} (hlo : lo ≤ i) :
    Sim (upd μ H.length m) (H.set i none ++ [some ⟨b.cs, true, false⟩]) w ∧ Stp lo μ H w (upd μ H.length m) (H.set i none ++ [some ⟨b.cs, true, false⟩]) w := by
  have hx := hs.ext_upd m
  obtain ⟨m', hm', hok⟩ := hs.blk i b hi
  rw [hμ] at hm'; cases hm'
  have hil : i < H.length := (List.getElem?_eq_some_iff.1 hi).1
  have live : ∀ (j : Nat) (bj : Blk), (H.set i none ++ [some ⟨b.cs, true, false⟩])[j]? = some (some bj) → (j < H.length ∧ j ≠ i ∧ H[j]? = some (some bj)) ∨ (j = H.length ∧ bj = ⟨b.cs, true, false⟩) := by
    intro (j : Nat) (bj : Blk) hbj
    rcases snoc_old hbj with ⟨hlt, hb⟩ | ⟨e, hb⟩
    · rcases set_get hb with ⟨rfl, he⟩ | ⟨hne, hb⟩
      · cases he
      · exact .inl ⟨by simpa using hlt, Ne.symm hne, hb⟩
    · exact .inr ⟨by simpa using e, by cases hb; rfl⟩
  refine ⟨⟨fun j x hj => ?_, fun j bj hbj => ?_, fun p q bp bq mp mq hpq hbp hbq hrp hq hmp hmq => ?_⟩, ⟨hx, rfl, rfl, rfl, Nat.le_refl _, by simp, fun _ _ _ => rfl, fun j bj mj hj hbj hrj hmj _ => ?_, fun j hj hl => ?_, fun i hi => upd_ne (by omega), fun i bl h hr hc => by rcases live i bl h with ⟨_, _, h⟩ | ⟨_, h⟩; exact h; subst h; cases hr⟩⟩
  · simp only [upd] at hj
    split at hj
    · simp; omega
    · have := hs.dom j x hj; simp; omega
  · rcases live j bj hbj with ⟨hlt, hne, hb⟩ | ⟨rfl, rfl⟩
    · obtain ⟨mj, hmj, hokj⟩ := hs.blk j bj hb
      exact ⟨mj, by rw [upd_ne (by omega)]; exact hmj, hokj.ext hx⟩
    · exact ⟨m, upd_same _ _ _, ⟨fun j c hc => let ⟨r, h1, h2⟩ := hok.cells j c hc; ⟨r, h1, h2.ext hx⟩, by simp, fun _ => hok.rw hr⟩⟩
  · rcases live p bp hbp with ⟨hlp, hnp, hbp⟩ | ⟨rfl, rfl⟩ <;> rcases live q bq hbq with ⟨hlq, hnq, hbq⟩ | ⟨rfl, rfl⟩
    · rw [upd_ne (by omega)] at hmp hmq
      exact hs.sep p q bp bq mp mq hpq hbp hbq hrp hq hmp hmq
    · rw [upd_ne (by omega)] at hmp; rw [upd_same] at hmq; cases hmq
      exact hs.sep p i bp b mp m hnp hbp hi hrp (.inr hr) hmp hμ
    · rw [upd_same] at hmp; cases hmp; rw [upd_ne (by omega)] at hmq
      exact hs.sep i q b bq m mq (Ne.symm hnq) hi hbq hr hq hμ hmq
    · exact absurd rfl hpq
  · rcases live j bj hbj with ⟨hlt, hne, hb⟩ | ⟨rfl, rfl⟩
    · rw [upd_ne (by omega)] at hmj
      exact ⟨j, bj, mj, hj, hb, hrj, hmj, rfl⟩
    · rw [upd_same] at hmj; cases hmj
      exact ⟨i, b, m, hlo, hi, hr, hμ, rfl⟩
  · rw [get_snoc, if_pos (by simpa using hl), List.getElem?_set_ne (by omega)]

/-- A block that can't be written and has no cells: an empty slice of no capacity. -/
theorem Sim.empty {μ : Mu} {H : Hp} {w : World} (hs : Sim μ H w) (m : MA) (hk : m.k = 0) (lo : Nat) :
    Sim (upd μ H.length m) (H ++ [some ⟨[], false, true⟩]) w ∧ Stp lo μ H w (upd μ H.length m) (H ++ [some ⟨[], false, true⟩]) w := by
  have hx := hs.ext_upd m
  refine ⟨⟨fun i x hi => ?_, fun i b hb => ?_, fun i j bi bj mi mj hij hbi hbj hr hq hmi hmj => ?_⟩, ⟨hx, rfl, rfl, rfl, Nat.le_refl _, by simp, fun _ _ _ => rfl, fun i bl m' hlo hb hr hm hlt => ?_, fun i _ hi => by rw [get_snoc, if_pos hi], fun i hi => upd_ne (by omega), fun i bl h hr hc => by rcases snoc_old h with ⟨_, h⟩ | ⟨_, h⟩; exact h; cases h; exact absurd rfl hc⟩⟩
  · simp only [upd] at hi
    split at hi
    · simp; omega
    · have := hs.dom i x hi; simp; omega
  · rcases snoc_old hb with ⟨hlt, hb⟩ | ⟨rfl, he⟩
    · obtain ⟨m', hm', hok⟩ := hs.blk i b hb
      exact ⟨m', by rw [upd_ne (by omega)]; exact hm', hok.ext hx⟩
    · cases he
      exact ⟨m, upd_same _ _ _, ⟨by simp, fun _ => hk, by simp⟩⟩
  · rcases snoc_old hbi with ⟨hli, hbi⟩ | ⟨rfl, hei⟩
    · rw [upd_ne (by omega)] at hmi
      rcases snoc_old hbj with ⟨hlj, hbj⟩ | ⟨rfl, hej⟩
      · rw [upd_ne (by omega)] at hmj
        exact hs.sep i j bi bj mi mj hij hbi hbj hr hq hmi hmj
      · cases hej; simp at hq
    · cases hei; simp at hr
  · rcases snoc_old hb with ⟨hli, hb⟩ | ⟨rfl, he⟩
    · rw [upd_ne (by omega)] at hm
      exact ⟨i, bl, m', hlo, hb, hr, hm, rfl⟩
    · cases he; simp at hr

theorem blk_some {H : Hp} {i : Nat} {b : Blk} (h : H.blk i = some b) : H[i]? = some (some b) := by
  unfold Hp.blk at h
  cases hx : H[i]? with
  | none => rw [hx] at h; cases h
  | some y => rw [hx] at h; simp at h; rw [h]

/-- A cell that is read. -/
theorem Sim.rd {μ : Mu} {H : Hp} {w : World} (hs : Sim μ H w) {a : Addr} {v : Value} (h : rd H a = some v) {m : MA} (hm : μ a.block = some m) : ∃ r, w.cell? ⟨m.b, m.o + a.off, none⟩ = some r ∧ RC μ v r := by
  unfold V.rd at h
  cases hb : H.blk a.block with
  | none => rw [hb] at h; cases h
  | some b =>
    rw [hb] at h
    obtain ⟨m', hm', hok⟩ := hs.blk _ _ (blk_some hb)
    rw [hm] at hm'; cases hm'
    exact hok.cells _ _ h
theorem addr_add (b o j : Nat) : (⟨b, o, none⟩ : Addr).add j = ⟨b, o + j, none⟩ := by
  unfold Addr.add; split <;> simp_all
theorem exists_list {p : Nat → Value → Prop} : ∀ (n : Nat), (∀ j, j < n → ∃ r, p j r) → ∃ l : List Value, l.length = n ∧ ∀ (j : Nat) r, l[j]? = some r → p j r
  | 0, _ => ⟨[], rfl, by simp⟩
  | n + 1, h => by
    obtain ⟨l, hl, hp⟩ := exists_list n (fun j hj => h j (by omega))
    obtain ⟨r, hr⟩ := h n (by omega)
    refine ⟨l ++ [r], by simp [hl], fun j x hx => ?_⟩
    rcases snoc_old hx with ⟨_, h1⟩ | ⟨rfl, rfl⟩
    · exact hp j x h1
    · rw [hl]; exact hr
theorem Sim.rdN {μ : Mu} {H : Hp} {w : World} (hs : Sim μ H w) {a : Addr} {n : Nat} {vs : List Value} (h : rdN H a n = some vs) {m : MA} (hm : μ a.block = some m) :
    ∃ rs : List Value, rs.length = n ∧ L2 (RC μ) vs rs ∧ ∀ (j : Nat) u, rs[j]? = some u → w.cell? ((⟨m.b, m.o + a.off, none⟩ : Addr).add j) = some u := by
  unfold V.rdN at h
  cases hb : H.blk a.block with
  | none => rw [hb] at h; cases h
  | some b =>
    rw [hb] at h
    simp only [Option.bind_some] at h
    split at h
    · rename_i hle
      cases h
      obtain ⟨m', hm', hok⟩ := hs.blk _ _ (blk_some hb)
      rw [hm] at hm'; cases hm'
      have key : ∀ j, j < n → ∃ r, w.cell? ⟨m.b, m.o + a.off + j, none⟩ = some r ∧ ∃ c, ((b.cs.drop a.off).take n)[j]? = some c ∧ RC μ c r := by
        intro j hj
        have hlt : a.off + j < b.cs.length := by omega
        obtain ⟨r, h1, h2⟩ := hok.cells (a.off + j) b.cs[a.off + j] (List.getElem?_eq_getElem hlt)
        refine ⟨r, by rw [Nat.add_assoc]; exact h1, _, ?_, h2⟩
        rw [List.getElem?_take, if_pos hj, List.getElem?_drop]
        exact List.getElem?_eq_getElem hlt
      obtain ⟨rs, hl, hp⟩ := exists_list n key
      refine ⟨rs, hl, L2.of_get (by simp [hl]; omega) fun i x y hx hy => ?_, fun j u hu => by rw [addr_add]; exact (hp j u hu).1⟩
      obtain ⟨_, c, hc, hrc⟩ := hp i y hy
      rw [hx] at hc; cases hc
      exact hrc
    · cases h
end Go.Proofs.Ytaahjfjpbilfnaa.V
/-! From the program's code to the machine's: each operation without its types. -/
namespace Go.Proofs.Ytaahjfjpbilfnaa.V
open Go
set_option linter.unusedVariables false
set_option linter.unusedSimpArgs false

def okP : Value → Bool
  | .bool _ | .int _ _ | .string _ | .pointer none | .slice none 0 0 => true
  | _ => false
def ok1 : Value → Bool
  | .agg cs => cs.toList.all okP
  | v => okP v
def cA : Operand → Option Arg
  | .tmp t => some (.t t)
  | .const v => if ok1 v then some (.c v) else none
  | .func f => some (.c (.func (.func f) #[] #[]))
  | .global _ => none
def cAs : List Operand → Option (List Arg)
  | [] => some []
  | x :: r => (cA x).bind fun y => (cAs r).bind fun s => some (y :: s)
def aggD : TypeDesc → Bool
  | .struct _ | .array _ _ => true
  | _ => false
def tyL (P : Program) (t : TypeId) : Option (Bool × Nat) := (P.underlying t).bind fun d => (P.info? t).bind fun i => some (aggD d, i.size)
def zeroL (P : Program) (t : TypeId) : Option (List Value) := (P.info? t).bind fun i => i.zero.bind fun z => if ok1 z = true ∧ (vcells z).length = i.size then some (vcells z) else none
def szL (P : Program) (t : TypeId) : Option Nat := (P.info? t).map (·.size)
def slE (P : Program) (t : TypeId) : Option TypeId := match P.underlying t with
  | some (.slice e) => some e
  | _ => none
def stF (P : Program) (t : TypeId) : Option (Array Field) := match P.underlying t with
  | some (.struct fs) => some fs
  | _ => none
def intK (P : Program) (t : TypeId) : Option IntKind := match P.underlying t with
  | some (.int k) => some k
  | _ => none
def isBool (P : Program) (t : TypeId) : Bool := match P.underlying t with
  | some .bool => true
  | _ => false
def cParts (place : Nat → Option (Nat × Nat)) : List (Nat × Operand) → Option (List (Nat × Nat × Arg))
  | [] => some []
  | (i, x) :: r => (place i).bind fun (o, n) => (cA x).bind fun y => (cParts place r).bind fun s => some ((o, n, y) :: s)
def places (P : Program) (fs : List Field) : Option (List (Nat × Nat)) := fs.mapM (fun f => (P.info? f.type).map fun i => (f.offset, i.size))
def cO : Option Operand → Option (Option Arg)
  | none => some none
  | some x => (cA x).map some
def nilSl : Operand → Bool
  | .const (.slice none 0 0) => true
  | _ => false

def compB (P : Program) (b : Builtin) (ts : Array TypeId) (args : List Arg) : Option VOp :=
  match b, ts.toList, args with
  | .len, [t], [x] => (slE P t).map fun _ => .len x
  | .append, [t, t'], [x, y] => if t = t' then (slE P t).bind fun e => (P.info? e).bind fun i => if 0 < i.size ∧ (zeroL P e).isSome = true then some (.append i.size i.bytes x y) else none else
      (intK P t').bind fun _ => (slE P t).bind fun e => (P.info? e).bind fun i => (zeroL P e).bind fun z => some (.appz i.size i.bytes z x y)
  | .cap, [t], [x] => (slE P t).map fun _ => .capn x
  | .copy, [t, t'], [x, y] => (slE P t).bind fun e => (slE P t').bind fun e' => (szL P e).bind fun n => some (.copy n x y)
  | .clear, [t], [x] => (slE P t).bind fun e => (szL P e).bind fun n => (zeroL P e).bind fun z => some (.clear n z x)
  | .max, _, [x, y] => some (.mx x y)
  | .min, _, [x, y] => some (.mn x y)
  | _, _, _ => none
/-- A struct of whole numbers alone. -/
def flatI (P : Program) : Nat → List Field → Bool
  | _, [] => true
  | i, f :: r => decide (f.name ≠ "_") && f.offset == i && (match P.underlying f.type with | some (.int _) => true | _ => false) && flatI P (i + 1) r
def flatS (P : Program) (t : TypeId) : Option Nat := if P.stoodInHeld t = false ∧ P.eqGuardType P.depth t = false then (match P.underlying t with
  | some (.struct fs) => if flatI P 0 fs.toList = true then some fs.size else none
  | _ => none) else none
def compO (P : Program) : Op → Option VOp
  | .move x => (cA x).map .mv
  | .assign x => (cA x).map .mv
  | .pick c a b => (cA c).bind fun c => (cA a).bind fun a => (cA b).map fun b => .pick c a b
  | .alloc e => (zeroL P e).map .new
  | .box _ x => (cA x).map .box
  | .build t ps => (stF P t).bind fun fs => (zeroL P t).bind fun z => (places P fs.toList).bind fun pl => (cParts (pl.toArray[·]?) ps.toList).map (.build z)
  | .buildSlice t len ps => (slE P t).bind fun e => (szL P e).bind fun n => (zeroL P e).bind fun z => if len * n ≤ 2 ^ 24 ∧ 0 < n then
      (cParts (fun i => some (i * n, n)) ps.toList).map (.bslice n (if len * n = 0 then [] else (List.replicate len z).flatten) len) else none
  | .load t a => (tyL P t).bind fun (g, n) => (cA a).map (.load g n)
  | .store t a x => (szL P t).bind fun n => (cA a).bind fun a => (cA x).map (.store n a)
  | .nilCheck x => (cA x).map .nilck
  | .binOp op t x y _ => match op with
    | .eql => if isBool P t then (cA x).bind fun x => (cA y).map (.beq false x) else if (slE P t).isSome = true then (if nilSl y then (cA x).map (.snil false) else none) else match flatS P t with
      | some m => (cA x).bind fun x => (cA y).map (.aeq false m x)
      | none => (cA x).bind fun x => (cA y).map (.bin .eql x)
    | .neq => if isBool P t then (cA x).bind fun x => (cA y).map (.beq true x) else if (slE P t).isSome = true then (if nilSl y then (cA x).map (.snil true) else none) else match flatS P t with
      | some m => (cA x).bind fun x => (cA y).map (.aeq true m x)
      | none => (cA x).bind fun x => (cA y).map (.bin .neq x)
    | op => (cA x).bind fun x => (cA y).map (.bin op x)
  | .unOp .not _ x => (cA x).map .not
  | .convert s d x => if (P.underlying s).isSome = true then (intK P d).bind fun k => (cA x).map (.conv k) else none
  | .makeFunc (.func f) first cap => if first.size = 0 then (cAs cap.toList).map (.mkfn f) else none
  | .makeSlice t l c => (slE P t).bind fun e => (P.info? e).bind fun i => (zeroL P e).bind fun z => (cA l).bind fun l => (cA c).map (.mkslice i.size i.bytes z l)
  | .slice t x lo hi mx => (slE P t).bind fun e => (szL P e).bind fun n => if n = 0 then none else (cA x).bind fun x => (cO lo).bind fun lo => (cO hi).bind fun hi => (cO mx).map (.slice n x lo hi)
  | .fieldAddr s x f => (stF P s).bind fun fs => (fs[f]?).bind fun fl => (szL P fl.type).bind fun n => if n = 0 then none else (cA x).map (.faddr fl.offset)
  | .field s x f => (stF P s).bind fun fs => (fs[f]?).bind fun fl => (tyL P fl.type).bind fun (g, n) => (cA x).map (.field g fl.offset n)
  | .indexAddr t x i => (slE P t).bind fun e => (szL P e).bind fun n => (cA x).bind fun x => (cA i).map (.iaddr n x)
  | .extract x i => (cA x).map (.ext i)
  | .call c => (cAs c.args.toList).bind fun args => match c.callee with
    | .builtin b => compB P b c.argTypes args
    | .value (.func f) => some (.call f args)
    | .value (.tmp t) => some (.callv (.t t) args)
    | _ => none
  | .makeInterface _ _ => some .bad
  | .panic _ => some .bad
  | _ => none

theorem RP.const {μ : Mu} {v : Value} (h : okP v = true) : RP μ v v := by
  cases v <;> simp only [okP, Bool.false_eq_true] at h
  case pointer a => cases a <;> simp at h; rfl
  case slice a n c =>
    cases a
    · cases n <;> cases c <;> simp [okP] at h
      exact ⟨rfl, rfl⟩
    · simp [okP] at h
  all_goals rfl
theorem RC.const {μ : Mu} {v : Value} (h : okP v = true) : RC μ v v := by
  rw [RC_eq (by intro f a b e; subst e; simp [okP] at h)]
  exact RP.const h
theorem L2.refl {R : Value → Value → Prop} : ∀ {l : List Value}, (∀ v ∈ l, R v v) → L2 R l l
  | [], _ => .nil
  | a :: l, h => .cons (h a (by simp)) (L2.refl fun v hv => h v (by simp [hv]))
theorem R1.const {μ : Mu} {v : Value} (h : ok1 v = true) : R1 μ v v := by
  by_cases ha : ∃ cs, v = .agg cs
  · obtain ⟨cs, rfl⟩ := ha
    exact ⟨cs, rfl, L2.refl fun x hx => RC.const (List.all_eq_true.1 h x hx)⟩
  · rw [R1_eq (fun cs e => ha ⟨cs, e⟩)]
    exact RC.const (by cases v <;> first | exact h | exact absurd ⟨_, rfl⟩ ha)
theorem R2.const {μ : Mu} {v : Value} (h : ok1 v = true) : R2 μ v v := R2.of_R1 (R1.const h)
theorem R2.undef {μ : Mu} : R2 μ (.tuple #[]) Go.undef := ⟨#[], rfl, .nil⟩

/-- The temporaries. -/
def TR (μ : Mu) (ts : Ts) (a : Act) : Prop := ∀ t v, lk ts t = some v → ∃ r, a.tmps[t]? = some r ∧ R2 μ v r
theorem TR.ext {μ μ' : Mu} (h : Ext μ μ') {ts a} (ht : TR μ ts a) : TR μ' ts a := fun t v hv => let ⟨r, h1, h2⟩ := ht t v hv; ⟨r, h1, h2.ext h⟩
theorem TR.put {μ : Mu} {ts : Ts} {a : Act} {v r : Value} (ht : TR μ ts a) (hr : R2 μ v r) {d : Option Nat} (hd : ∀ t, d = some t → t < a.tmps.size) : TR μ (put ts d v) (a.put d r) := by
  intro t u hu
  cases d with
  | none => exact ht t u hu
  | some d =>
    simp only [V.put, lk] at hu
    split at hu
    · rename_i e; subst e; cases hu
      exact ⟨r, by simp [Act.put, hd d rfl], hr⟩
    · rename_i e
      obtain ⟨x, h1, h2⟩ := ht t u hu
      exact ⟨x, by simp only [Act.put]; rw [Array.getElem?_setIfInBounds_ne e]; exact h1, h2⟩
theorem size_put (a : Act) (d : Option Nat) (v : Value) : (a.put d v).tmps.size = a.tmps.size := by
  cases d <;> simp [Act.put]
theorem R2.func {μ : Mu} (f : Nat) : R2 μ (.func (.func f) #[] #[]) (.func (.func f) #[] #[]) :=
  ⟨rfl, #[], rfl, .nil⟩
theorem ev_ok {μ : Mu} {ts : Ts} {a : Act} (ht : TR μ ts a) {x : Operand} {y : Arg} (hc : cA x = some y) {v : Value} (hv : ev ts y = some v) : R2 μ v (a.eval x) := by
  cases x with
  | tmp t =>
    simp only [cA, Option.some.injEq] at hc; subst hc
    obtain ⟨r, h1, h2⟩ := ht t v hv
    simpa [Act.eval, h1] using h2
  | const c =>
    simp only [cA] at hc
    split at hc
    · cases hc; simp only [ev, Option.some.injEq] at hv; subst hv
      exact R2.const ‹_›
    · cases hc
  | func f =>
    simp only [cA, Option.some.injEq] at hc; subst hc
    simp only [ev, Option.some.injEq] at hv; subst hv
    exact R2.func f
  | global g => simp [cA] at hc
theorem evs_ok {μ : Mu} {ts : Ts} {a : Act} (ht : TR μ ts a) : ∀ {xs : List Operand} {ys : List Arg}, cAs xs = some ys → ∀ {vs : List Value}, evs ts ys = some vs → L2 (R2 μ) vs (xs.map a.eval)
  | [], ys, hc, vs, hv => by
    simp only [cAs, Option.some.injEq] at hc; subst hc
    simp only [evs, Option.some.injEq] at hv; subst hv
    exact .nil
  | x :: xs, ys, hc, vs, hv => by
    simp only [cAs, Option.bind_eq_some_iff, Option.some.injEq] at hc
    obtain ⟨y, hy, s, hs, rfl⟩ := hc
    simp only [evs, Option.bind_eq_some_iff, Option.some.injEq] at hv
    obtain ⟨v, hv, us, hus, rfl⟩ := hv
    exact .cons (ev_ok ht hy hv) (evs_ok ht hs hus)
end Go.Proofs.Ytaahjfjpbilfnaa.V
/-! Each operation: what the machine computes, the program's operation computes. -/
namespace Go.Proofs.Ytaahjfjpbilfnaa.V
open Go
set_option linter.unusedVariables false
set_option linter.unusedSimpArgs false

section
variable {P : Program}
theorem wp_val {o : Oper} {a : Act} {w w' : World} {r : Value} {K : Act → World → Prop} {Q : Exit → Act → World → Prop} (h : (execOp a.eval o).run P w = .ok (.value r) w') (hk : K (a.put o.dst r) w') : o.wp P a w K Q := by
  unfold Oper.wp; rw [h]; exact hk
theorem wp_skp {o : Oper} {a : Act} {w w' : World} {K : Act → World → Prop} {Q : Exit → Act → World → Prop} (h : (execOp a.eval o).run P w = .ok .skip w') (hk : K (a.put o.dst Go.undef) w') : o.wp P a w K Q := by
  unfold Oper.wp; rw [h]; exact hk

theorem run_isAgg {t : TypeId} {d : TypeDesc} (h : P.underlying t = some d) (w : World) : (isAgg t).run P w = .ok (aggD d) w := by
  unfold isAgg
  rw [Sem.run_bind, run_underlying h w]
  cases d <;> simp [aggD]
theorem run_sizeOf {t : TypeId} {i : TypeInfo} (h : P.info? t = some i) (w : World) : (sizeOf t).run P w = .ok i.size w := by simp [sizeOf, typeInfo, h]
theorem tyL_some {t : TypeId} {g : Bool} {n : Nat} (h : tyL P t = some (g, n)) : ∃ d i, P.underlying t = some d ∧ P.info? t = some i ∧ g = aggD d ∧ n = i.size := by
  simp only [tyL, Option.bind_eq_some_iff, Option.some.injEq, Prod.mk.injEq] at h
  obtain ⟨d, hd, i, hi, rfl, rfl⟩ := h
  exact ⟨d, i, hd, hi, rfl, rfl⟩
theorem slE_some {t e : TypeId} (h : slE P t = some e) : P.underlying t = some (.slice e) := by
  unfold slE at h; split at h
  · cases h; assumption
  · cases h
theorem stF_some {t : TypeId} {fs : Array Field} (h : stF P t = some fs) : P.underlying t = some (.struct fs) := by
  unfold stF at h; split at h
  · cases h; assumption
  · cases h
theorem intK_some {t : TypeId} {k : IntKind} (h : intK P t = some k) : P.underlying t = some (.int k) := by
  unfold intK at h; split at h
  · cases h; assumption
  · cases h
theorem zeroL_some {t : TypeId} {z : List Value} (h : zeroL P t = some z) : ∃ i v, P.info? t = some i ∧ i.zero = some v ∧ ok1 v = true ∧ vcells v = z ∧ z.length = i.size := by
  simp only [zeroL, Option.bind_eq_some_iff] at h
  obtain ⟨i, hi, v, hv, h⟩ := h
  split at h
  · rename_i hc; cases h; exact ⟨i, v, hi, hv, hc.1, rfl, hc.2⟩
  · cases h
theorem szL_some {t : TypeId} {n : Nat} (h : szL P t = some n) : ∃ i, P.info? t = some i ∧ i.size = n := by
  simpa [szL] using h
theorem ok1_cells {v : Value} (h : ok1 v = true) : v.cells.toList = vcells v ∧ ∀ x ∈ vcells v, okP x = true := by
  by_cases ha : ∃ cs, v = .agg cs
  · obtain ⟨cs, rfl⟩ := ha
    exact ⟨rfl, fun x hx => List.all_eq_true.1 h x hx⟩
  · cases v <;> first | exact absurd ⟨_, rfl⟩ ha | (refine ⟨rfl, fun x hx => ?_⟩; simp only [vcells, List.mem_singleton] at hx; subst hx; exact h)

theorem load_ok {μ : Mu} {H : Hp} {w : World} (hs : Sim μ H w) {t : TypeId} {g : Bool} {n : Nat} (ht : tyL P t = some (g, n)) {a : Addr} {rp v : Value} (hp : R2 μ (.pointer (some a)) rp)
    (hv : (if g then (V.rdN H a n).bind fun cs => some (Value.agg cs.toArray) else V.rd H a) = some v) : ∃ r, (Instr.loadAt t rp).run P w = .ok r w ∧ R2 μ v r := by
  obtain ⟨d, i, hd, hi, rfl, rfl⟩ := tyL_some ht
  obtain ⟨h0, m, hm, rfl⟩ := hp
  cases hg : aggD d with
  | true =>
    simp only [hg, if_true, Option.bind_eq_some_iff, Option.some.injEq] at hv
    obtain ⟨cs, hcs, rfl⟩ := hv
    obtain ⟨rs, hl, h2, hr⟩ := hs.rdN hcs hm
    have hload := run_loadCells_list (P := P) w ⟨m.b, m.o + a.off, none⟩ rs hr
    rw [hl] at hload
    refine ⟨.agg rs.toArray, ?_, R2.of_R1 ⟨rs.toArray, rfl, by simpa using h2⟩⟩
    simp [Instr.loadAt, Instr.sureAddr, loadVar, run_isAgg hd, hg, run_sizeOf hi, hload]
  | false =>
    simp only [hg, Bool.false_eq_true, if_false] at hv
    obtain ⟨r, hr, hrc⟩ := hs.rd hv hm
    refine ⟨r, ?_, R2.of_RC hrc⟩
    simp [Instr.loadAt, Instr.sureAddr, loadVar, run_isAgg hd, hg, hr]

theorem setAll_length : ∀ (vs : List Value) (cs : List Value) (o : Nat), (setAll cs o vs).length = cs.length
  | [], _, _ => rfl
  | v :: vs, cs, o => by rw [setAll, setAll_length vs]; simp
theorem setAll_eq : ∀ (vs : List Value) (cs : List Value) (o : Nat), o + vs.length ≤ cs.length → setAll cs o vs = cs.take o ++ vs ++ cs.drop (o + vs.length)
  | [], cs, o, _ => by simp [setAll]
  | v :: vs, cs, o, h => by
    simp only [List.length_cons] at h
    rw [setAll, setAll_eq vs _ _ (by simp; omega)]
    have e := list_seg_step cs o v vs (by omega)
    simpa [Nat.add_assoc, Nat.add_comm 1] using e

theorem setAll_take : ∀ (vs l : List Value) (n o : Nat), (setAll l o vs).take n = setAll (l.take n) o vs
  | [], _, _, _ => rfl
  | v :: vs, l, n, o => by rw [setAll, setAll, setAll_take vs, List.take_set]
theorem L2.setAll {R : Value → Value → Prop} : ∀ {vs rs : List Value}, L2 R vs rs → ∀ {l m : List Value}, L2 R l m → ∀ o, L2 R (V.setAll l o vs) (V.setAll m o rs)
  | _, _, .nil, _, _, h, o => h
  | _, _, .cons x y, _, _, h, o => y.setAll (h.set o x) (o + 1)

theorem storeCells_ok {μ : Mu} {H H' : Hp} {w : World} (hs : Sim μ H w) {a : Addr} {m : MA} (hm : μ a.block = some m) {vs rs : List Value} (hcells : L2 (RC μ) vs rs) {lo : Nat}
    (hw : wrN lo H a vs = some H') : ∃ w', (storeCells ⟨m.b, m.o + a.off, none⟩ rs).run P w = .ok () w' ∧ Sim μ H' w' ∧ Stp lo μ H w μ H' w' := by
  unfold wrN at hw
  cases hb : H.blk a.block with
  | none => rw [hb] at hw; cases hw
  | some b =>
    rw [hb] at hw
    simp only [Option.bind_some] at hw
    split at hw
    · rename_i hc
      obtain ⟨h1, h2, h3⟩ := hc
      cases hw
      have hb' := blk_some hb
      obtain ⟨m', hm', hok⟩ := hs.blk _ _ hb'
      rw [hm] at hm'; cases hm'
      obtain ⟨C, e, hg, ho, hsz, hml⟩ := hok.rw h2
      have hlen := hcells.len
      have hcl : ∀ (j : Nat) c, b.cs[j]? = some c → ∃ r, C[j]? = some r ∧ RC μ c r := fun j c hc => by
        obtain ⟨r, hr1, hr2⟩ := hok.cells j c hc
        rw [ho, Nat.zero_add, cell_of_row w m.b j C e (0, 0) hg] at hr1
        exact ⟨r, hr1, hr2⟩
      have hle : b.cs.length ≤ C.size := by
        rcases Nat.eq_zero_or_pos b.cs.length with h | h
        · omega
        · obtain ⟨r, hr1, _⟩ := hcl (b.cs.length - 1) _ (List.getElem?_eq_getElem (by omega))
          have := (Array.getElem?_eq_some_iff.1 hr1).1
          omega
      have hst := run_storeCells_at P m.b (a.off) e rs 0 C w hg (by rw [← hlen]; omega) (hcells.all (p := fun v => v.oneCell' = true) fun _ _ h => (RC.one h).1)
      simp only [Nat.add_zero] at hst
      have hC' : (C.toList.take a.off ++ rs ++ C.toList.drop (a.off + rs.length)) = V.setAll C.toList a.off rs := (setAll_eq _ _ _ (by simp at hlen ⊢; omega)).symm
      rw [hC'] at hst
      have hres := hs.setRow hb' h2 hm hg (cs' := V.setAll b.cs a.off vs) (C' := (V.setAll C.toList a.off rs).toArray) (by simp [setAll_length]) (fun j c hc => by
        -- both rows are set alike
        have h2 : L2 (RC μ) (V.setAll b.cs a.off vs) (V.setAll (C.toList.take b.cs.length) a.off rs) :=
          hcells.setAll (L2.of_get (by simp; omega) fun i x y hx hy => by
            obtain ⟨r, hr1, hr2⟩ := hcl i x hx
            rw [List.getElem?_take] at hy
            split at hy
            · rw [Array.getElem?_toList] at hy
              rw [hr1] at hy; cases hy; exact hr2
            · cases hy) a.off
        obtain ⟨y, hy, hyr⟩ := h2.get hc
        refine ⟨y, ?_, hyr⟩
        have hj : j < b.cs.length := by
          have := (List.getElem?_eq_some_iff.1 hc).1
          rwa [setAll_length] at this
        rw [List.getElem?_toArray]
        rw [← setAll_take, List.getElem?_take, if_pos hj] at hy
        exact hy) h1
      refine ⟨_, ?_, hres⟩
      have e0 : m.o + a.off = a.off := by omega
      rw [e0]
      exact hst
    · cases hw
theorem storeVar_ok {μ : Mu} {H H' : Hp} {w : World} (hs : Sim μ H w) {t : TypeId} {n : Nat} (ht : szL P t = some n) {a : Addr} {m : MA} (hm : μ a.block = some m) {v rv : Value} (hr : R1 μ v rv) {lo : Nat}
    (hn : (vcells v).length = n) (hw : wrN lo H a (vcells v) = some H') : ∃ w', (storeVar t ⟨m.b, m.o + a.off, none⟩ rv).run P w = .ok () w' ∧ Sim μ H' w' ∧ Stp lo μ H w μ H' w' := by
  obtain ⟨i, hi, rfl⟩ := szL_some ht
  obtain ⟨w', hst, hres⟩ := storeCells_ok (P := P) hs hm hr.cells hw
  refine ⟨w', ?_, hres⟩
  have hsz' : rv.cells.size = i.size := by rw [← hn]; simpa using hr.cells.len.symm
  simp [storeVar, run_sizeOf hi, hsz', hst]

theorem ntup_ok {v : Value} (h : ntup v = true) : ∀ cs, v ≠ .tuple cs := by
  intro cs e; subst e; simp [ntup] at h
theorem foldl_zip (o : Nat) : ∀ (l : List Value) (k : Nat) (cells : Array Value), ((l.zipIdx k).foldl (fun cs (x : Value × Nat) => cs.setIfInBounds (o + x.2) x.1) cells).toList = V.setAll cells.toList (o + k) l
  | [], _, _ => rfl
  | v :: l, k, cells => by
    simp only [List.zipIdx_cons, List.foldl_cons]
    rw [foldl_zip o l (k + 1)]
    simp [V.setAll, Nat.add_assoc]
theorem vfill_ok {μ : Mu} {ts : Ts} {a : Act} (ht : TR μ ts a) (place : Nat → Option (Nat × Nat)) : ∀ (ps : List (Nat × Operand)) (cps : List (Nat × Nat × Arg)), cParts place ps = some cps → ∀ {cells cs : List Value} {rcells : Array Value},
    L2 (RC μ) cells rcells.toList → vfill cells ts cps = some cs → ∃ rcs, Instr.fill place rcells (ps.map fun (i, x) => (i, a.eval x)) = some rcs ∧ L2 (RC μ) cs rcs.toList
  | [], cps, hc, cells, cs, rcells, hl, hv => by
    simp only [cParts, Option.some.injEq] at hc; subst hc
    simp only [vfill, Option.some.injEq] at hv; subst hv
    exact ⟨rcells, rfl, hl⟩
  | (i, x) :: ps, cps, hc, cells, cs, rcells, hl, hv => by
    simp only [cParts, Option.bind_eq_some_iff] at hc
    obtain ⟨⟨o, n⟩, hpl, hc⟩ := hc
    simp only [Option.bind_eq_some_iff, Option.some.injEq] at hc
    obtain ⟨y, hy, s, hs, rfl⟩ := hc
    simp only [vfill, Option.bind_eq_some_iff] at hv
    obtain ⟨v, hv, hv2⟩ := hv
    split at hv2
    · rename_i hcond
      obtain ⟨hn, hlen, hle⟩ := hcond
      have hr := (ev_ok ht hy hv).to_R1 (ntup_ok hn)
      have hcells := hr.cells
      have hsz : (a.eval x).cells.size = n := by rw [← hlen]; simpa using hcells.len.symm
      have hlr := hl.len
      simp only [List.map_cons, Instr.fill, hpl, hsz]
      rw [if_neg (by simp at hlr; simp [← hlr]; omega)]
      refine vfill_ok ht place ps s hs (cells := V.setAll cells o (vcells v)) ?_ hv2
      rw [← Array.foldl_toList, Array.toList_zipIdx]
      have := foldl_zip o (a.eval x).cells.toList 0 rcells
      rw [this]
      exact hcells.setAll hl o
    · cases hv2

theorem mod_flat (z : List Value) : ∀ (n i : Nat), i < n * z.length → (List.replicate n z).flatten[i]? = z[i % z.length]?
  | 0, i, h => by simp at h
  | n + 1, i, h => by
    rw [List.replicate_succ, List.flatten_cons, List.getElem?_append]
    split
    · rename_i hlt; rw [Nat.mod_eq_of_lt hlt]
    · rename_i hlt
      rw [Nat.succ_mul] at h
      rw [mod_flat z n _ (by omega), ← Nat.mod_eq_sub_mod (by omega)]
theorem flat_length (z : List Value) (n : Nat) : (List.replicate n z).flatten.length = n * z.length := by simp
theorem range_map (z : Array Value) (n : Nat) : ((Array.range (n * z.size)).map (z[· % z.size]!)).toList = (List.replicate n z.toList).flatten := by
  apply List.ext_getElem?
  intro i
  by_cases h : i < n * z.size
  · rw [mod_flat _ _ _ (by simpa using h)]
    have hz : 0 < z.size := by rcases Nat.eq_zero_or_pos z.size with h0 | h0; · rw [h0] at h; simp at h
                               · exact h0
    have hm : i % z.size < z.size := Nat.mod_lt _ hz
    simp [h, hm]
  · rw [List.getElem?_eq_none (by simpa using h), List.getElem?_eq_none (by simp; omega)]
end
end Go.Proofs.Ytaahjfjpbilfnaa.V
/-! append: what the machine makes, the program's append makes: a new block, or the old one with more in it. -/
namespace Go.Proofs.Ytaahjfjpbilfnaa.V
open Go
set_option linter.unusedVariables false
set_option linter.unusedSimpArgs false
section
variable {P : Program}
theorem run_append_zero (w : World) (t ty e : TypeId) (i : TypeInfo) (ht : P.underlying t = some (.slice e)) (hi : P.info? e = some i) (base : Option Addr) (n c : Nat) (hnc : n ≤ c) (y : Option Addr) (cy : Nat) :
    (Builtin.append_ #[t, t] ty #[.slice base n c, .slice y 0 cy]).run P w = .ok (.slice base n c) w := by
  cases base <;> cases y <;> simp [Builtin.append_, run_underlying ht, sizeOf, typeInfo, hi, Builtin.lenOf, hnc, Builtin.firstCells, storeCells, loadCells, loadCellsFrom]
theorem run_append_room' (w : World) (t ty e e0 : TypeId) (i : TypeInfo) (ht : P.underlying t = some (.slice e)) (hi : P.info? e = some i)
    (g sLen sCap : Nat) (cur : Array Value) (hg : w.heap[g]? = some (.cells cur e0 (0, 0)))
    (a : Addr) (m c : Nat) (news : List Value) (hl : news.length = m * i.size) (hnews : ∀ (j : Nat) u, news[j]? = some u → w.cell? (a.add j) = some u) (h1 : ∀ u ∈ news, u.oneCell' = true)
    (hroom : sLen + m ≤ sCap) (hfit : sLen * i.size + news.length ≤ cur.size) :
    (Builtin.append_ #[t, t] ty #[.slice (some ⟨g, 0, none⟩) sLen sCap, .slice (some a) m c]).run P w =
      .ok (.slice (some ⟨g, 0, none⟩) (sLen + m) sCap) (w.setRow g (cur.toList.take (sLen * i.size) ++ news ++ cur.toList.drop (sLen * i.size + news.length)).toArray) := by
  have hf := run_firstCells_some (P := P) w i.size m a m c news hl hnews
  have hst := run_storeCells_at P g (sLen * i.size) e0 news 0 cur w hg (by simpa using hfit) h1
  simp only [Nat.add_zero] at hst
  simp [Builtin.append_, run_underlying ht, sizeOf, typeInfo, hi, Builtin.lenOf, hroom, hf, Addr.add_lit, hst]
theorem le_max {n : Nat} (h : n ≤ maxLen) : (n : Int) ≤ 9223372036854775807 := by simp only [maxLen] at h; omega
theorem fits_ok {n by_ : Nat} (h : fits n by_ = true) : n ≤ maxLen ∧ (n + n / 4 + 192) * by_ ≤ 281474976710656 := by
  simpa [fits] using h
theorem grown_size {z : Array Value} {st n k : Nat} (hz : z.size = st) (hk : n ≤ k) : n * st + (Builtin.zeroCells z (k - n)).size = k * st := by
  rw [size_zeroCells, hz, ← Nat.add_mul]; congr 1; omega

theorem append_ok {μ : Mu} {H : Hp} {w : World} (hs : Sim μ H w) {t ty e : TypeId} {i : TypeInfo} {z : Value} (ht : P.underlying t = some (.slice e)) (hi : P.info? e = some i) (hz : i.zero = some z) (hzs : z.cells.size = i.size)
    {x y rx ry v : Value} {H' : Hp} {lo : Nat} (hx : R2 μ x rx) (hy : R2 μ y ry) (hv : vappend i.size i.bytes lo H x y = some (v, H')) :
    ∃ r w' μ', (Builtin.append_ #[t, t] ty #[rx, ry]).run P w = .ok r w' ∧ R2 μ' v r ∧ Sim μ' H' w' ∧ Stp lo μ H w μ' H' w' := by
  unfold vappend at hv
  simp only [Option.bind_eq_some_iff] at hv
  obtain ⟨m, hm, new, hnew, hv⟩ := hv
  -- the source
  obtain ⟨ay, cy, rfl, hsrc⟩ : ∃ (ay : Option Addr) (cy : Nat), ry = .slice ay m cy ∧ (0 < m → ∃ b, ay = some b ∧ ∃ rs : List Value, rs.length = m * i.size ∧ L2 (RC μ) new rs ∧ ∀ (j : Nat) u, rs[j]? = some u → w.cell? (b.add j) = some u) := by
    cases y <;> simp only [slen] at hm <;> try (cases hm; done)
    rename_i ya yn yc
    cases hm
    cases ya with
    | none =>
      obtain ⟨rfl, rfl⟩ := hy
      exact ⟨none, 0, rfl, fun h => absurd h (by omega)⟩
    | some b =>
      obtain ⟨_, mm, hmm, hst, a', c, rfl, _, _, _, h2⟩ := hy
      refine ⟨some a', c, rfl, fun h => ⟨a', rfl, ?_⟩⟩
      simp only [scells] at hnew
      rw [if_neg (show ¬ m = 0 by omega)] at hnew
      split at hnew
      · obtain ⟨rs, hl, hrel, hr⟩ := hs.rdN hnew hmm
        exact ⟨rs, hl, hrel, by rw [h2 h]; exact hr⟩
      · cases hnew
  have key : ∀ (H1 : Hp) (rs : List Value) (n : Nat) (olds vs : List Value) (cap0 : Nat), Sim μ H1 w → H1.length = H.length → Stp lo μ H w μ H1 w → olds.length = n * i.size → rs.length = m * i.size → L2 (RC μ) vs (olds ++ rs) → n + m ≤ maxLen →
      ∃ μ', R2 μ' (.slice (some ⟨H.length, 0, none⟩) (n + m) i.size) (.slice (some ⟨w.heap.size, 0, none⟩) (n + m) (grownCap w (n + m) cap0 e)) ∧
        Sim μ' (H1 ++ [some ⟨vs, true, false⟩]) (w.drew.alloc (.cells (olds.toArray ++ rs.toArray ++ Builtin.zeroCells z.cells (grownCap w (n + m) cap0 e - (n + m))) e)) ∧
        Stp lo μ H w μ' (H1 ++ [some ⟨vs, true, false⟩]) (w.drew.alloc (.cells (olds.toArray ++ rs.toArray ++ Builtin.zeroCells z.cells (grownCap w (n + m) cap0 e - (n + m))) e)) := by
    intro H1 rs n olds vs cap0 hs1 hlen hstp hlo hlr hrel hmax
    have hge := grownCap_ge w (n + m) cap0 e
    have hal := (Sim.drew (w := w) (w' := w.drew) rfl hs1).alloc (vs := vs) (C := olds.toArray ++ rs.toArray ++ Builtin.zeroCells z.cells (grownCap w (n + m) cap0 e - (n + m))) (e := e) (k := grownCap w (n + m) cap0 e) (s := i.size) (k0 := false)
      (fun j c hc => by
        obtain ⟨r, hr, hrc⟩ := hrel.get hc
        have hj := (List.getElem?_eq_some_iff.1 hr).1
        refine ⟨r, ?_, hrc⟩
        rw [← Array.getElem?_toList]
        simp only [Array.toList_append]
        rw [List.getElem?_append_left (by simpa using hj)]
        exact hr) (by simp)
      (by
        simp only [Array.size_append, List.size_toArray, hlo, hlr, ← Nat.add_mul]
        exact grown_size hzs hge) (grownCap_le_maxLen w (n + m) cap0 e hmax) lo
    refine ⟨_, ?_, hal.1, hstp.trans ((Stp.drew (w := w) (w' := w.drew) rfl rfl rfl rfl).trans hal.2)⟩
    exact R2.of_RC ⟨rfl, _, by rw [← hlen]; exact upd_same _ _ _, rfl, _, _, rfl, fun _ => rfl, hge, fun _ => ⟨rfl, rfl⟩, fun _ => rfl⟩
  cases x <;> try (cases hv; done)
  rename_i xa xn xc
  cases xa with
  | none =>
    obtain ⟨rfl, rfl⟩ := hx
    simp only [if_true] at hv
    split at hv
    · rename_i hm0; subst hm0
      cases hv
      exact ⟨_, w, μ, run_append_zero w t ty e i ht hi none 0 0 (Nat.le_refl _) ay cy, R2.of_RC ⟨rfl, rfl⟩, hs, Stp.refl _ _ _ _⟩
    · rename_i hm0
      split at hv
      · rename_i hf
        cases hv
        obtain ⟨hf1, hf2⟩ := fits_ok hf
        obtain ⟨b, rfl, rs, hlr, hrel, hr⟩ := hsrc (by omega)
        have hrun := run_append_nil (P := P) w t ty e i z ht hi hz b m cy rs hlr hr (by omega) (by simp only [maxLen] at hf1; omega) (Nat.le_trans (Nat.mul_le_mul_right _ (by omega)) hf2)
        obtain ⟨μ', h1, h2, h3⟩ := key H rs 0 [] new 0 hs rfl (Stp.refl _ _ _ _) (by simp) hlr (by simpa using hrel) (by omega)
        simp only [Nat.zero_add, Array.empty_append, List.nil_append] at h1 h2 h3
        exact ⟨_, _, μ', hrun, h1, h2, h3⟩
      · cases hv
  | some a =>
    obtain ⟨hsp, mm, hmm, hst, a', c, rfl, hsp', hnc, h0, hpos⟩ := hx
    simp only [Option.bind_eq_some_iff] at hv
    obtain ⟨b, hb, hv⟩ := hv
    split at hv
    · rename_i hcond
      obtain ⟨rfl, hoff, _, hbl, hk, hf⟩ := hcond
      obtain ⟨rfl, rfl⟩ := h0 hoff
      obtain ⟨hf1, hf2⟩ := fits_ok hf
      have hb' := blk_some hb
      obtain ⟨mm', hmm', hok⟩ := hs.blk _ _ hb'
      rw [hmm] at hmm'; cases hmm'
      split at hv
      · rename_i hm0; subst hm0
        cases hv
        exact ⟨_, w, μ, run_append_zero w t ty e i ht hi _ _ _ hnc ay cy, R2.of_RC ⟨hsp, mm, hmm, hst, _, _, rfl, fun _ => rfl, hnc, h0, hpos⟩, hs, Stp.refl _ _ _ _⟩
      · rename_i hm0
        obtain ⟨b2, rfl, rs, hlr, hrel, hr⟩ := hsrc (by omega)
        split at hv
        · rename_i hn0; subst hn0
          cases hv
          rw [Blk.app, if_pos rfl] at hk
          have hk0 := hok.k0 hk
          have g1 : mm.k < 0 + m := by rw [hk0, Nat.zero_add]; exact Nat.pos_of_ne_zero hm0
          have g2 : ((0 + m : Nat) : Int) ≤ 9223372036854775807 := le_max hf1
          have hrun := run_append_grow (P := P) w t ty e i z ht hi hz ⟨mm.b, mm.o, none⟩ 0 mm.k [] (by simp) (by simp) b2 m cy rs hlr hr g1 g2 (growslice_fits_wide g1 hf2)
          obtain ⟨μ', h1, h2, h3⟩ := key H rs 0 [] new mm.k hs rfl (Stp.refl _ _ _ _) (by simp) hlr (by simpa using hrel) hf1
          simp only [Nat.zero_add] at h1 hrun h2 h3
          exact ⟨_, _, μ', hrun, h1, h2, h3⟩
        · rename_i hn0
          rw [Blk.app, if_neg hn0] at hk
          split at hv
          · rename_i hlo
            cases hv
            obtain ⟨C, e0, hg, ho, hsz, hml⟩ := hok.rw hk
            rw [ho]
            have hcl : ∀ (j : Nat) c, b.cs[j]? = some c → ∃ r, C[j]? = some r ∧ RC μ c r := fun j c hc => by
              obtain ⟨r, hr1, hr2⟩ := hok.cells j c hc
              rw [ho, Nat.zero_add, cell_of_row w mm.b j C e0 (0, 0) hg] at hr1
              exact ⟨r, hr1, hr2⟩
            rw [hst] at hsz
            have hle : xn * i.size ≤ C.size := by rw [hsz]; exact Nat.mul_le_mul_right _ hnc
            have hold : L2 (RC μ) b.cs (C.toList.take (xn * i.size)) := L2.of_get (by simp [hbl]; omega) fun j x y hx hy => by
              obtain ⟨r, hr1, hr2⟩ := hcl j x hx
              rw [List.getElem?_take] at hy
              split at hy
              · rw [Array.getElem?_toList, hr1] at hy; cases hy; exact hr2
              · cases hy
            by_cases hroom : xn + m ≤ mm.k
            · have hfit : xn * i.size + rs.length ≤ C.size := by rw [hlr, hsz, ← Nat.add_mul]; exact Nat.mul_le_mul_right _ hroom
              have hrun := run_append_room' (P := P) w t ty e e0 i ht hi mm.b xn mm.k C hg b2 m cy rs hlr hr (hrel.all (p := fun v => v.oneCell' = true) fun _ _ h => (RC.one h).1) hroom hfit
              have h1 := hs.setRow hb' hk hmm hg (cs' := b.cs ++ new) (C' := (C.toList.take (xn * i.size) ++ rs ++ C.toList.drop (xn * i.size + rs.length)).toArray) (by simp; omega) (fun j c hc => by
                obtain ⟨r, hr1, hr2⟩ := (hold.append hrel).get hc
                have hj := (List.getElem?_eq_some_iff.1 hr1).1
                refine ⟨r, ?_, hr2⟩
                rw [List.getElem?_toArray, List.getElem?_append_left hj]
                exact hr1) hlo
              have hin : (H.set a.block (some ⟨b.cs ++ new, true, b.k0⟩))[a.block]? = some (some ⟨b.cs ++ new, true, b.k0⟩) := by
                rw [List.getElem?_set_self (List.getElem?_eq_some_iff.1 hb').1]
              have h2 := h1.1.move hin rfl hmm hlo
              simp only [List.set_set, List.length_set] at h2
              refine ⟨_, _, _, hrun, R2.of_RC ⟨rfl, mm, upd_same _ _ _, hst, _, _, rfl, fun _ => rfl, hroom, fun _ => ⟨by rw [ho], rfl⟩, fun _ => by simp [ho]⟩, h2.1, h1.2.trans h2.2⟩
            · have g1 : mm.k < xn + m := Nat.lt_of_not_le hroom
              have g2 : ((xn + m : Nat) : Int) ≤ 9223372036854775807 := le_max hf1
              have g3 : (C.toList.take (xn * i.size)).length = xn * i.size := by rw [List.length_take, Array.length_toList]; exact Nat.min_eq_left hle
              have hrun := run_append_grow (P := P) w t ty e i z ht hi hz ⟨mm.b, 0, none⟩ xn mm.k (C.toList.take (xn * i.size)) g3 (fun j u hu => by
                rw [addr_add, Nat.zero_add, cell_of_row w mm.b j C e0 (0, 0) hg]
                rw [List.getElem?_take] at hu
                split at hu
                · simpa using hu
                · cases hu) b2 m cy rs hlr hr g1 g2 (growslice_fits_wide g1 hf2)
              have h1 := hs.kill a.block hlo
              obtain ⟨μ', h2, h3, h4⟩ := key (H.set a.block none) rs xn (C.toList.take (xn * i.size)) (b.cs ++ new) mm.k h1.1 (by simp) h1.2 g3 hlr (hold.append hrel) hf1
              exact ⟨_, _, μ', hrun, h2, h3, h4⟩
          · cases hv
    · split at hv
      · rename_i hcond
        obtain ⟨rfl, hoff, _, hrw, hlt, hin0, hlo⟩ := hcond
        obtain ⟨rfl, rfl⟩ := h0 hoff
        have hb' := blk_some hb
        obtain ⟨mm', hmm', hok⟩ := hs.blk _ _ hb'
        rw [hmm] at hmm'; cases hmm'
        split at hv
        · rename_i hm0; subst hm0
          cases hv
          exact ⟨_, w, μ, run_append_zero w t ty e i ht hi _ _ _ hnc ay cy, R2.of_RC ⟨hsp, mm, hmm, hst, _, _, rfl, fun _ => rfl, hnc, h0, hpos⟩, hs, Stp.refl _ _ _ _⟩
        · rename_i hm0
          obtain ⟨b2, rfl, rs, hlr, hrel, hr⟩ := hsrc (by omega)
          cases hv
          obtain ⟨C, e0, hg, ho, hsz, hml⟩ := hok.rw hrw
          rw [ho]
          have hcl : ∀ (j : Nat) c, b.cs[j]? = some c → ∃ r, C[j]? = some r ∧ RC μ c r := fun j c hc => by
            obtain ⟨r, hr1, hr2⟩ := hok.cells j c hc
            rw [ho, Nat.zero_add, cell_of_row w mm.b j C e0 (0, 0) hg] at hr1
            exact ⟨r, hr1, hr2⟩
          rw [hst] at hsz
          have hbC : b.cs.length ≤ C.size := by
            obtain ⟨r, h1, _⟩ := hcl (b.cs.length - 1) _ (List.getElem?_eq_getElem (by omega))
            have := (Array.getElem?_eq_some_iff.1 h1).1
            omega
          have hpos0 : 0 < i.size := by
            rcases Nat.eq_zero_or_pos i.size with h | h
            · rw [h, Nat.mul_zero] at hsz; omega
            · exact h
          have hroom : xn + m ≤ mm.k := Nat.le_of_mul_le_mul_right (by rw [← hsz]; omega) hpos0
          have hxm : xn * i.size + m * i.size = (xn + m) * i.size := by rw [Nat.add_mul]
          have hfit : xn * i.size + rs.length ≤ C.size := by rw [hlr]; omega
          have hold : L2 (RC μ) (b.cs.take (xn * i.size)) (C.toList.take (xn * i.size)) := L2.of_get (by simp; omega) fun j x y hx hy => by
            rw [List.getElem?_take] at hx hy
            split at hx
            · rename_i hj
              rw [if_pos hj] at hy
              obtain ⟨r, hr1, hr2⟩ := hcl j x hx
              rw [Array.getElem?_toList, hr1] at hy; cases hy; exact hr2
            · cases hx
          have htail : L2 (RC μ) (b.cs.drop ((xn + m) * i.size)) ((C.toList.drop ((xn + m) * i.size)).take (b.cs.length - (xn + m) * i.size)) := L2.of_get (by simp; omega) fun j x y hx hy => by
            rw [List.getElem?_take] at hy
            split at hy
            · rw [List.getElem?_drop] at hx hy
              obtain ⟨r, hr1, hr2⟩ := hcl _ x hx
              rw [Array.getElem?_toList, hr1] at hy; cases hy; exact hr2
            · cases hy
          have hrun := run_append_room' (P := P) w t ty e e0 i ht hi mm.b xn mm.k C hg b2 m cy rs hlr hr (hrel.all (p := fun v => v.oneCell' = true) fun _ _ h => (RC.one h).1) hroom hfit
          have hK : xn * i.size + rs.length = (xn + m) * i.size := by rw [hlr]; exact hxm
          have h1 := hs.setRow hb' hrw hmm hg (cs' := b.cs.take (xn * i.size) ++ new ++ b.cs.drop ((xn + m) * i.size)) (C' := (C.toList.take (xn * i.size) ++ rs ++ C.toList.drop (xn * i.size + rs.length)).toArray) (by simp; omega) (fun j c hc => by
            obtain ⟨r, hr1, hr2⟩ := ((hold.append hrel).append htail).get hc
            refine ⟨r, ?_, hr2⟩
            rw [List.getElem?_toArray, hK]
            rcases Nat.lt_or_ge j (C.toList.take (xn * i.size) ++ rs).length with h | h
            · rw [List.getElem?_append_left h] at hr1 ⊢; exact hr1
            · rw [List.getElem?_append_right h] at hr1 ⊢
              rw [List.getElem?_take] at hr1
              split at hr1
              · exact hr1
              · cases hr1) hlo
          have hin : (H.set a.block (some ⟨b.cs.take (xn * i.size) ++ new ++ b.cs.drop ((xn + m) * i.size), true, b.k0⟩))[a.block]? = some (some ⟨b.cs.take (xn * i.size) ++ new ++ b.cs.drop ((xn + m) * i.size), true, b.k0⟩) := by
            rw [List.getElem?_set_self (List.getElem?_eq_some_iff.1 hb').1]
          have h2 := h1.1.move hin rfl hmm hlo
          simp only [List.set_set, List.length_set] at h2
          exact ⟨_, _, _, hrun, R2.of_RC ⟨rfl, mm, upd_same _ _ _, hst, _, _, rfl, fun _ => rfl, hroom, fun _ => ⟨by rw [ho], rfl⟩, fun _ => by simp [ho]⟩, h2.1, h1.2.trans h2.2⟩
      · cases hv
end
end Go.Proofs.Ytaahjfjpbilfnaa.V
/-! All operations: what the machine computes at one, the program comes to. -/
namespace Go.Proofs.Ytaahjfjpbilfnaa.V
open Go
set_option linter.unusedVariables false
set_option linter.unusedSimpArgs false

/-- What a table of calls says is so of the program's calls. -/
def CalOK (P : Program) (call : Cal) : Prop := ∀ (f : Nat) (args : List Value) (lo : Nat) (H : Hp) (v : Value) (H' : Hp), call f args lo H = some (v, H') → lo ≤ H.length → ∀ (μ : Mu) (w : World) (rargs : List Value), L2 (R2 μ) args rargs → Sim μ H w →
  (∃ fn, P.funcs[f]? = some fn ∧ fn.body.isSome = true ∧ (fn.name == "runtime.NumGoroutine") = false) ∧
  Calls P f rargs.toArray w (fun e w' => ∃ r μ', e = .returned r ∧ R2 μ' v r ∧ Sim μ' H' w' ∧ Stp lo μ H w μ' H' w')

section
variable {P : Program}
/-- What is known behind an operation. -/
def Post (lo : Nat) (μ : Mu) (H : Hp) (w : World) (v : Value) (H' : Hp) (a : Act) (d : Option Nat) (K : Act → World → Prop) : Prop :=
  ∀ r w' μ', R2 μ' v r → Sim μ' H' w' → Stp lo μ H w μ' H' w' → K (a.put d r) w'
theorem Post.still {lo : Nat} {μ : Mu} {H : Hp} {w : World} {v : Value} {a : Act} {d : Option Nat} {K : Act → World → Prop} (h : Post lo μ H w v H a d K) (hs : Sim μ H w) {r : Value} (hr : R2 μ v r) : K (a.put d r) w :=
  h r w μ hr hs (Stp.refl _ _ _ _)

theorem bin_ok {op : BinOp} {x y v : Value} {μ : Mu} {rx ry : Value} (hv : vbin op x y = some v) (hx : R2 μ x rx) (hy : R2 μ y ry) (t : TypeId) (ox oy : Operand) (w : World) :
    (do eqGuard op t ox oy rx ry; binOp op t rx ry : Sem Value).run P w = .ok v w ∧ R2 μ v v := by
  cases x <;> try (simp [vbin] at hv; done)
  cases y <;> try (simp [vbin] at hv; done)
  rename_i k a k' b
  obtain rfl : rx = .int k a := hx
  obtain rfl : ry = .int k' b := hy
  simp only [vbin] at hv
  split at hv
  · rename_i hk; subst hk
    cases op <;> simp only at hv <;> try (cases hv; done)
    case quo => split at hv
                · cases hv
                · cases hv; exact ⟨by simp [eqGuard, binOp, Op.intDiv, *], R2.of_RC rfl⟩
    case rem => split at hv
                · cases hv
                · cases hv; exact ⟨by simp [eqGuard, binOp, Op.intDiv, *], R2.of_RC rfl⟩
    case shr => split at hv
                · cases hv
                · rename_i hb
                  cases hv
                  refine ⟨?_, R2.of_RC rfl⟩
                  simp only [eqGuard, binOp, Op.shift, if_neg hb]
                  rfl
    all_goals (cases hv; exact ⟨by simp [eqGuard, binOp, Op.intArith, Op.intCmp], R2.of_RC rfl⟩)
  · cases hv

theorem asI_some {v : Value} {n : Int} (h : asI v = some n) : ∃ k, v = .int k n := by
  cases v <;> simp [asI] at h
  subst h; exact ⟨_, rfl⟩

theorem run_slice_lit (w : World) {t e : TypeId} {i : TypeInfo} (ht : P.underlying t = some (.slice e)) (hi : P.info? e = some i) (a : Option Addr) (n c : Nat) (lo hi' : Option Value) (l h : Nat)
    (hlo : (lo = none ∧ l = 0) ∨ ∃ k, lo = some (.int k (l : Int))) (hhi : (hi' = none ∧ h = n) ∨ ∃ k, hi' = some (.int k (h : Int))) (hlh : l ≤ h) (hhc : h ≤ c) :
    (Instr.sliceAt t (.slice a n c) lo hi' none).run P w = .ok (.slice (if c = l then a else a.map (·.add (l * i.size))) (h - l) (c - l)) w := by
  have hb : ∀ (code : BoundsCode) (k : IntKind) (x y : Nat), x ≤ y → (Instr.sliceBound (.int k (x : Int)) y code).run P w = .ok x w := by
    intro code k x y hxy
    simp [Instr.sliceBound, asIntOf, hxy]
  have hbs : (Instr.sliceBounds true n c lo hi' none).run P w = .ok (l, h, c) w := by
    rcases hlo with ⟨rfl, rfl⟩ | ⟨k, rfl⟩ <;> rcases hhi with ⟨rfl, rfl⟩ | ⟨k', rfl⟩ <;> simp [Instr.sliceBounds, hb _ _ _ _ hlh, hb _ _ _ _ hhc]
  simp only [Instr.sliceAt, Sem.run_bind, run_underlying ht, Result.andThen_ok, Instr.slice, hbs, run_sizeOf hi, Sem.run_pure]

theorem slice_ok {μ : Mu} {t e : TypeId} {n : Nat} (ht : slE P t = some e) (hn : szL P e = some n) (hn0 : 0 < n) {x rx u : Value} (hx : R2 μ x rx) {lo hi : Option Value} (hv : vslice n x lo hi none = some u) (w : World) :
    ∀ {rlo rhi : Option Value}, (∀ v, lo = some v → ∃ r, rlo = some r ∧ R2 μ v r) → (lo = none → rlo = none) → (∀ v, hi = some v → ∃ r, rhi = some r ∧ R2 μ v r) → (hi = none → rhi = none) →
    ∃ r, (Instr.sliceAt t rx rlo rhi none).run P w = .ok r w ∧ R2 μ u r := by
  intro rlo rhi h1 h2 h3 h4
  obtain ⟨i, hi', rfl⟩ := szL_some hn
  cases x <;> try (simp only [vslice] at hv; cases hv; done)
  rename_i xa xn xc
  obtain ⟨l, hl, h, hh, hc, hv⟩ : ∃ l, (match lo with | none => some 0 | some v => asI v) = some l ∧ ∃ h, (match hi with | none => some (xn : Int) | some v => asI v) = some h ∧ (0 ≤ l ∧ l ≤ h ∧ h ≤ xn) ∧ (match xa with
      | none => u = .slice none 0 0
      | some a => xc = i.size ∧ u = .slice (some ⟨a.block, a.off + l.toNat * i.size, none⟩) (h - l).toNat i.size) := by
    cases xa <;> simp only [vslice, Option.bind_eq_some_iff] at hv <;> obtain ⟨l, hl, h, hh, hv⟩ := hv <;> split at hv
    · rename_i hc; cases hv; exact ⟨l, hl, h, hh, hc, rfl⟩
    · cases hv
    · rename_i hc; cases hv; exact ⟨l, hl, h, hh, hc.2, hc.1, rfl⟩
    · cases hv
  · obtain ⟨hl0, hlh, hhn⟩ := hc
    obtain ⟨l, rfl⟩ := Int.eq_ofNat_of_zero_le hl0
    obtain ⟨h, rfl⟩ := Int.eq_ofNat_of_zero_le (Int.le_trans hl0 hlh)
    have hlo' : (rlo = none ∧ l = 0) ∨ ∃ k, rlo = some (.int k (l : Int)) := by
      cases lo with
      | none => simp at hl; exact .inl ⟨h2 rfl, by omega⟩
      | some v =>
        obtain ⟨r, hr, hrr⟩ := h1 v rfl
        obtain ⟨k, rfl⟩ := asI_some hl
        obtain rfl : r = .int k l := hrr
        exact .inr ⟨k, hr⟩
    have hhi' : (rhi = none ∧ h = xn) ∨ ∃ k, rhi = some (.int k (h : Int)) := by
      cases hi with
      | none => simp at hh; exact .inl ⟨h4 rfl, by omega⟩
      | some v =>
        obtain ⟨r, hr, hrr⟩ := h3 v rfl
        obtain ⟨k, rfl⟩ := asI_some hh
        obtain rfl : r = .int k h := hrr
        exact .inr ⟨k, hr⟩
    cases xa with
    | none =>
      simp only at hv; subst hv
      obtain ⟨rfl, rfl⟩ := hx
      have hrun := run_slice_lit w (slE_some ht) hi' none 0 0 rlo rhi l h hlo' hhi' (by omega) (by omega)
      obtain rfl : l = 0 := by omega
      obtain rfl : h = 0 := by omega
      exact ⟨_, hrun, R2.of_RC ⟨rfl, by simp⟩⟩
    | some a =>
      simp only at hv
      obtain ⟨hst, rfl⟩ := hv
      obtain ⟨hsp, m, hm, hms, a', c, rfl, hsp', hnc, h0, hpos⟩ := hx
      have hrun := run_slice_lit w (slE_some ht) hi' (some a') xn c rlo rhi l h hlo' hhi' (by omega) (by omega)
      refine ⟨_, hrun, R2.of_RC ?_⟩
      have e1 : ((h : Int) - (l : Int)).toNat = h - l := by omega
      simp only [Int.toNat_natCast, e1]
      refine ⟨rfl, m, hm, hms.trans hst, if c = l then a' else a'.add (l * i.size), c - l, ?_, ?_, by omega, fun hz => ?_, fun hp => ?_⟩
      · split <;> rfl
      · intro hp0
        have hsp' := hsp' (by omega)
        split
        · exact hsp'
        · unfold Addr.add; split <;> simp [hsp']
      · -- at the head: nothing was cut off
        simp only at hz
        have ha0 : a.off = 0 := by omega
        have hl0' : l * i.size = 0 := by omega
        obtain ⟨rfl, rfl⟩ := h0 ha0
        rcases Nat.mul_eq_zero.1 hl0' with hl | hsz
        · subst hl
          refine ⟨?_, by omega⟩
          split
          · rfl
          · simp [Addr.add]
        · exact absurd hsz (by omega)
      · have hxp : 0 < xn := by omega
        rw [hpos hxp]
        rw [if_neg (by omega), addr_add, Nat.add_assoc]
end
end Go.Proofs.Ytaahjfjpbilfnaa.V
/-! Every operation that the machine knows: the program's operation comes to the same. -/
namespace Go.Proofs.Ytaahjfjpbilfnaa.V
open Go
set_option linter.unusedVariables false
set_option linter.unusedSimpArgs false
section
variable {P : Program}
theorem R2.int {μ : Mu} {k : IntKind} {n : Int} {r : Value} (h : R2 μ (.int k n) r) : r = .int k n := h
theorem R2.boolv {μ : Mu} {b : Bool} {r : Value} (h : R2 μ (.bool b) r) : r = .bool b := h
theorem R2.mkint {μ : Mu} (k : IntKind) (n : Int) : R2 μ (.int k n) (.int k n) := R2.of_RC (v := .int k n) rfl
theorem R2.mkbool {μ : Mu} (b : Bool) : R2 μ (.bool b) (.bool b) := R2.of_RC (v := .bool b) rfl

theorem bltin_ok {o : Oper} {call : Cal} {lo : Nat} {ts : Ts} {H H' : Hp} {v : Value} {b : Builtin} {c : Call} {args : List Arg} {vo : VOp} (hb : c.callee = .builtin b) (ho : o.op = .call c) (ha : cAs c.args.toList = some args) (hc : compB P b c.argTypes args = some vo) (hv : vop call lo ts H vo = some (v, H'))
    {μ : Mu} {a : Act} {w : World} (ht : TR μ ts a) (hs : Sim μ H w) {K : Act → World → Prop} {Q : Exit → Act → World → Prop} (hK : Post lo μ H w v H' a o.dst K) : o.wp P a w K Q := by
  obtain ⟨callee, cargs, argTypes⟩ := c
  simp only at hb ha hc; subst hb
  have hrun : ∀ {r : Value} {w' : World} {s : Sem Value}, (∀ consts, builtin b argTypes o.type consts (cargs.map a.eval) = (do pure (.value (← s)))) → s.run P w = .ok r w' → K (a.put o.dst r) w' → o.wp P a w K Q := by
    intro r w' s hs' hr hk
    refine wp_val (r := r) (w' := w') ?_ hk
    simp only [execOp, ho, resolve, Sem.run_bind, Sem.run_pure, Result.andThen_ok, invoke, hs', hr]
  have hel := @evs_ok μ ts a ht _ _ ha
  unfold compB at hc
  split at hc
  · -- len
    rename_i t x hts
    simp only [Option.map_eq_some_iff] at hc
    obtain ⟨e, he, rfl⟩ := hc
    simp only [vop, Option.bind_eq_some_iff, Option.some.injEq, Prod.mk.injEq] at hv
    obtain ⟨xv, hx, n, hn, rfl, rfl⟩ := hv
    have hl := hel (vs := [xv]) (by simp [evs, hx])
    generalize hrs : cargs.toList.map a.eval = rs at hl
    cases hl with | cons h1 h2 => cases h2; rename_i rx
                                  cases xv <;> simp only [slen] at hn <;> try (cases hn; done)
                                  rename_i xa xn xc
                                  obtain rfl : n = xn := (Option.some.inj hn).symm
                                  have hr : ∃ base c, rx = .slice base n c := by
                                    cases xa with
                                    | none => obtain ⟨rfl, rfl⟩ := h1; exact ⟨_, _, rfl⟩
                                    | some _ => obtain ⟨_, _, _, _, _, _, rfl, _⟩ := h1; exact ⟨_, _, rfl⟩
                                  obtain ⟨base, c, rfl⟩ := hr
                                  have hargs : cargs.map a.eval = #[.slice base n c] := by apply Array.ext'; simpa using hrs
                                  have hty : argTypes = #[t] := by apply Array.ext'; simpa using hts
                                  refine hrun (s := Builtin.len_ #[t] o.type #[.slice base n c]) (fun _ => by rw [hargs, hty]; rfl) (r := goInt n) (w' := w) ?_ (hK.still hs (R2.mkint _ _))
                                  simp [Builtin.len_, run_underlying (slE_some he)]
  · -- append
    rename_i t t' x y hts
    split at hc
    · rename_i htt; subst htt
      simp only [Option.bind_eq_some_iff] at hc
      obtain ⟨e, he, i, hi, hc⟩ := hc
      split at hc
      · rename_i hcc
        obtain ⟨z, hz⟩ := Option.isSome_iff_exists.1 hcc.2
        obtain ⟨i', zv, hi', hzv, hok, hcells, hlen⟩ := zeroL_some hz
        rw [hi] at hi'; cases hi'
        cases hc
        simp only [vop, Option.bind_eq_some_iff] at hv
        obtain ⟨xv, hx, yv, hy, hv⟩ := hv
        have hl := hel (vs := [xv, yv]) (by simp [evs, hx, hy])
        generalize hrs : cargs.toList.map a.eval = rs at hl
        cases hl with | cons h1 h2 => cases h2 with | cons h2 h3 => cases h3; rename_i rx ry
                                                                    have hargs : cargs.map a.eval = #[rx, ry] := by apply Array.ext'; simpa using hrs
                                                                    have hty : argTypes = #[t, t] := by apply Array.ext'; simpa using hts
                                                                    obtain ⟨r, w', μ', hr, h4, h5, h6⟩ := append_ok (ty := o.type) hs (slE_some he) hi hzv (by rw [← hlen, ← hcells, ← (ok1_cells hok).1]; simp) h1 h2 hv
                                                                    exact hrun (s := Builtin.append_ #[t, t] o.type #[rx, ry]) (fun _ => by rw [hargs, hty]; rfl) hr (hK r w' μ' h4 h5 h6)
      · cases hc
    · rename_i htt
      simp only [Option.bind_eq_some_iff, Option.some.injEq] at hc
      obtain ⟨kn, hkn, e, he, i, hi, z, hz, rfl⟩ := hc
      obtain ⟨i', zv, hi', hzv, hok, rfl, hlen⟩ := zeroL_some hz
      rw [hi] at hi'; cases hi'
      obtain ⟨hez, hp⟩ := ok1_cells hok
      have hzs : zv.cells.size = i.size := by rw [← hlen, ← hez]; simp
      simp only [vop, Option.bind_eq_some_iff] at hv
      obtain ⟨xv, hx, yv, hy, n, hn, hv⟩ := hv
      have hl := hel (vs := [xv, yv]) (by simp [evs, hx, hy])
      generalize hrs : cargs.toList.map a.eval = rs at hl
      cases hl with | cons h1 h2 => cases h2 with | cons h2 h3 => cases h3; rename_i rx ry
                                                                  have hargs : cargs.map a.eval = #[rx, ry] := by apply Array.ext'; simpa using hrs
                                                                  have hty : argTypes = #[t, t'] := by apply Array.ext'; simpa using hts
                                                                  cases xv <;> try (cases hv; done)
                                                                  rename_i xa xn xc
                                                                  cases xa <;> try (cases hv; done)
                                                                  simp only at hv
                                                                  split at hv
                                                                  · rename_i hcond
                                                                    obtain ⟨_, hn0, hst0, hf, hzl⟩ := hcond
                                                                    obtain ⟨rfl, rfl⟩ := h1
                                                                    obtain ⟨kq, rfl⟩ : ∃ kq, yv = .int kq n := by
                                                                      cases yv <;> simp only [asI, Option.some.injEq] at hn <;> try (cases hn; done)
                                                                      exact ⟨_, by rw [hn]⟩
                                                                    obtain rfl := h2.int
                                                                    obtain ⟨k, rfl⟩ : ∃ k : Nat, n = (k : Int) := ⟨n.toNat, by omega⟩
                                                                    rw [Int.toNat_natCast] at hf hv
                                                                    obtain ⟨hf1, hf2⟩ := fits_ok hf
                                                                    cases hv
                                                                    have hkn' : P.underlying t' = some (.int kn) := by
                                                                      unfold intK at hkn
                                                                      split at hkn
                                                                      · rename_i h; cases hkn; exact h
                                                                      · cases hkn
                                                                    have hg : 0 < 0 + k := by omega
                                                                    have hrunz := Lib.run_append_grow_zeros (P := P) w t t' o.type e i zv kq kn (slE_some he) hkn' hi hzv none 0 0 [] (run_firstCells_none w.drew i.size 0 0 0) k (by omega) hst0 hg (by rw [Nat.zero_add]; simp only [maxLen] at hf1; omega) (Nat.le_trans (Nat.mul_le_mul_right _ (by omega)) hf2) (growslice_fits_wide hg (by rw [Nat.zero_add]; exact hf2))
                                                                    have hmade : (Builtin.zeroCells zv.cells k).toList = (List.replicate k (vcells zv)).flatten := by
                                                                      rw [← hez]; exact range_map zv.cells k
                                                                    have hge := grownCap_ge w (0 + k) 0 e
                                                                    have hsum : ∀ G : Nat, 0 + k ≤ G → 0 + k * i.size + (G - (0 + k)) * i.size = G * i.size := fun G hG => by
                                                                      simp only [Nat.zero_add] at hG ⊢
                                                                      rw [← Nat.add_mul]; congr 1; omega
                                                                    have hal := (Sim.drew (w := w) (w' := w.drew) rfl hs).alloc (vs := (List.replicate k (vcells zv)).flatten) (C := ([] : List Value).toArray ++ Builtin.zeroCells zv.cells k ++ Builtin.zeroCells zv.cells (grownCap w (0 + k) 0 e - (0 + k))) (e := e) (k := grownCap w (0 + k) 0 e) (s := i.size) (k0 := false)
                                                                      (fun j c hj => ⟨c, by
                                                                        rw [← Array.getElem?_toList]
                                                                        simp only [Array.toList_append]
                                                                        rw [List.nil_append, hmade, List.getElem?_append_left (List.getElem?_eq_some_iff.1 hj).1]
                                                                        exact hj, by
                                                                        obtain ⟨l, hl, hul⟩ := List.mem_flatten.1 (List.mem_of_getElem? hj)
                                                                        obtain ⟨_, rfl⟩ := List.mem_replicate.1 hl
                                                                        exact RC.const (hp c hul)⟩) (by simp)
                                                                      (by
                                                                        simp only [Array.size_append, List.size_toArray, List.length_nil, size_zeroCells, hzs]
                                                                        exact hsum _ hge) (grownCap_le_maxLen w (0 + k) 0 e (by rw [Nat.zero_add]; exact hf1)) lo
                                                                    rw [Nat.zero_add k] at hrunz hge hal
                                                                    refine hrun (s := Builtin.append_ #[t, t'] o.type #[.slice none 0 0, .int kq k]) (fun _ => by rw [hargs, hty]; rfl) hrunz (hK _ _ _ ?_ hal.1 ((Stp.drew (w := w) (w' := w.drew) rfl rfl rfl rfl).trans hal.2))
                                                                    exact R2.of_RC ⟨rfl, _, upd_same _ _ _, rfl, _, _, rfl, fun _ => rfl, by omega, fun _ => ⟨rfl, rfl⟩, fun _ => rfl⟩
                                                                  · cases hv
  · -- cap
    rename_i t x hts
    simp only [Option.map_eq_some_iff] at hc
    obtain ⟨e, he, rfl⟩ := hc
    simp only [vop, Option.bind_eq_some_iff] at hv
    obtain ⟨xv, hx, hv⟩ := hv
    have hl := hel (vs := [xv]) (by simp [evs, hx])
    generalize hrs : cargs.toList.map a.eval = rs at hl
    cases hl with | cons h1 h2 => cases h2; rename_i rx
                                  cases xv <;> try (cases hv; done)
                                  rename_i xa xn xc
                                  cases xa <;> try (cases hv; done)
                                  simp only at hv
                                  split at hv
                                  · cases hv
                                    obtain ⟨rfl, rfl⟩ := h1
                                    have hargs : cargs.map a.eval = #[.slice none 0 0] := by apply Array.ext'; simpa using hrs
                                    have hty : argTypes = #[t] := by apply Array.ext'; simpa using hts
                                    refine hrun (s := Builtin.cap_ #[t] o.type #[.slice none 0 0]) (fun _ => by rw [hargs, hty]; rfl) (r := goInt 0) (w' := w) ?_ (hK.still hs (R2.mkint _ _))
                                    simp [Builtin.cap_, run_underlying (slE_some he)]
                                  · cases hv
  · -- copy
    rename_i t t' x y hts
    simp only [Option.bind_eq_some_iff, Option.some.injEq] at hc
    obtain ⟨e, he, e', he', n, hn, rfl⟩ := hc
    obtain ⟨i, hi, rfl⟩ := szL_some hn
    simp only [vop, Option.bind_eq_some_iff] at hv
    obtain ⟨xv, hx, yv, hy, m, hm, hv⟩ := hv
    have hl := hel (vs := [xv, yv]) (by simp [evs, hx, hy])
    generalize hrs : cargs.toList.map a.eval = rs at hl
    cases hl with | cons h1 h2 => cases h2 with | cons h2 h3 => cases h3; rename_i rx ry
                                                                have hargs : cargs.map a.eval = #[rx, ry] := by apply Array.ext'; simpa using hrs
                                                                have hty : argTypes = #[t, t'] := by apply Array.ext'; simpa using hts
                                                                cases xv <;> try (cases hv; done)
                                                                rename_i xa xn xc
                                                                cases xa <;> try (cases hv; done)
                                                                rename_i xa
                                                                simp only at hv
                                                                split at hv
                                                                · rename_i hst
                                                                  obtain ⟨_, mm, hmm, hms, a', c, rfl, _, hnc, h0, hpos⟩ := h1
                                                                  -- the source
                                                                  obtain ⟨ay, cy, rfl, hsrc⟩ : ∃ (ay : Option Addr) (cy : Nat), ry = .slice ay m cy ∧ ∀ new, scells H i.size yv = some new → 0 < m → ∃ b, ay = some b ∧ ∃ rs : List Value, rs.length = m * i.size ∧ L2 (RC μ) new rs ∧ ∀ (j : Nat) u, rs[j]? = some u → w.cell? (b.add j) = some u := by
                                                                    cases yv <;> simp only [slen] at hm <;> try (cases hm; done)
                                                                    rename_i ya yn yc
                                                                    cases hm
                                                                    cases ya with
                                                                    | none =>
                                                                      obtain ⟨rfl, rfl⟩ := h2
                                                                      exact ⟨none, 0, rfl, fun _ _ h => absurd h (by omega)⟩
                                                                    | some b =>
                                                                      obtain ⟨_, mm2, hmm2, hst2, b', c2, rfl, _, _, _, hp2⟩ := h2
                                                                      refine ⟨some b', c2, rfl, fun new hnew h => ⟨b', rfl, ?_⟩⟩
                                                                      simp only [scells] at hnew
                                                                      rw [if_neg (show ¬ m = 0 by omega)] at hnew
                                                                      split at hnew
                                                                      · obtain ⟨rs, hl, hrel, hr⟩ := hs.rdN hnew hmm2
                                                                        exact ⟨rs, hl, hrel, by rw [hp2 h]; exact hr⟩
                                                                      · cases hnew
                                                                  split at hv
                                                                  · rename_i hz
                                                                    cases hv
                                                                    refine hrun (s := Builtin.copy_ #[t, t'] o.type #[.slice (some a') xn c, .slice ay m cy]) (fun _ => by rw [hargs, hty]; rfl) (r := goInt 0) (w' := w) ?_ (hK.still hs (R2.mkint _ _))
                                                                    have hz' : Nat.min m xn = 0 := by rw [← hz]; exact Nat.min_comm m xn
                                                                    cases ay <;> simp [Builtin.copy_, run_underlying (slE_some he), Builtin.lenOf, Builtin.firstCells, run_sizeOf hi, hz', loadCells, loadCellsFrom, storeCells]
                                                                  · rename_i hz
                                                                    simp only [Option.bind_eq_some_iff, Option.some.injEq, Prod.mk.injEq] at hv
                                                                    obtain ⟨new, hnew, H2, hw, rfl, rfl⟩ := hv
                                                                    obtain ⟨b, rfl, rs, hrl, hrel, hr⟩ := hsrc new hnew (by omega)
                                                                    have hle : min xn m * i.size ≤ m * i.size := Nat.mul_le_mul_right _ (Nat.min_le_right _ _)
                                                                    have hload := run_firstCells_some (P := P) w i.size (min xn m) b m cy (rs.take (min xn m * i.size)) (by rw [List.length_take, hrl]; exact Nat.min_eq_left hle) (fun j u hu => by
                                                                      rw [List.getElem?_take] at hu
                                                                      split at hu
                                                                      · exact hr j u hu
                                                                      · cases hu)
                                                                    obtain ⟨w', hst', h4, h5⟩ := storeCells_ok (P := P) hs hmm (hrel.take (min xn m * i.size)) hw
                                                                    rw [← hpos (by omega)] at hst'
                                                                    refine hrun (s := Builtin.copy_ #[t, t'] o.type #[.slice (some a') xn c, .slice (some b) m cy]) (fun _ => by rw [hargs, hty]; rfl) (r := goInt (min xn m : Nat)) (w' := w') ?_ (hK _ _ _ (R2.mkint _ _) h4 h5)
                                                                    have hmin : Nat.min m xn = min xn m := Nat.min_comm m xn
                                                                    simp only [Builtin.copy_, List.getElem?_toArray, List.getElem?_cons_zero, List.getElem?_cons_succ, Sem.run_bind, run_underlying (slE_some he), Result.andThen_ok, Builtin.lenOf, Sem.run_pure, hmin, run_sizeOf hi, hload, hst']
                                                                · cases hv
  · -- clear
    rename_i t x hts
    simp only [Option.bind_eq_some_iff, Option.some.injEq] at hc
    obtain ⟨e, he, n, hn, z, hz, rfl⟩ := hc
    obtain ⟨i, hi, rfl⟩ := szL_some hn
    obtain ⟨i', zv, hi', hzv, hok, hcells, hlen⟩ := zeroL_some hz
    rw [hi] at hi'; cases hi'
    simp only [vop, Option.bind_eq_some_iff] at hv
    obtain ⟨xv, hx, hv⟩ := hv
    have hl := hel (vs := [xv]) (by simp [evs, hx])
    generalize hrs : cargs.toList.map a.eval = rs at hl
    cases hl with | cons h1 h2 => cases h2; rename_i rx
                                  have hargs : cargs.map a.eval = #[rx] := by apply Array.ext'; simpa using hrs
                                  have hty : argTypes = #[t] := by apply Array.ext'; simpa using hts
                                  cases xv <;> try (cases hv; done)
                                  rename_i xa xn xc
                                  cases xa with
                                  | none =>
                                    obtain ⟨rfl, rfl⟩ := h1
                                    cases hv
                                    refine hrun (s := Builtin.clear_ #[t] o.type #[.slice none 0 0]) (fun _ => by rw [hargs, hty]; rfl) (r := .tuple #[]) (w' := w) ?_ (hK.still hs R2.undef)
                                    simp [Builtin.clear_, run_underlying (slE_some he)]
                                  | some xa =>
                                    obtain ⟨_, mm, hmm, hms, a', c, rfl, _, hnc, h0, hpos⟩ := h1
                                    simp only at hv
                                    split at hv
                                    · rename_i hn0; subst hn0
                                      cases hv
                                      refine hrun (s := Builtin.clear_ #[t] o.type #[.slice (some a') 0 c]) (fun _ => by rw [hargs, hty]; rfl) (r := .tuple #[]) (w' := w) ?_ (hK.still hs R2.undef)
                                      simp [Builtin.clear_, run_underlying (slE_some he)]
                                    · rename_i hn0
                                      split at hv
                                      · simp only [Option.bind_eq_some_iff, Option.some.injEq, Prod.mk.injEq] at hv
                                        obtain ⟨H2, hw, rfl, rfl⟩ := hv
                                        have hzz : (Builtin.zeroCells zv.cells xn).toList = (List.replicate xn z).flatten := by
                                          have h := range_map zv.cells xn
                                          rw [(ok1_cells hok).1, hcells] at h
                                          exact h
                                        have hrel : L2 (RC μ) (List.replicate xn z).flatten (List.replicate xn z).flatten := L2.refl fun u hu => by
                                          obtain ⟨l, hl, hul⟩ := List.mem_flatten.1 hu
                                          obtain ⟨_, rfl⟩ := List.mem_replicate.1 hl
                                          exact RC.const ((ok1_cells hok).2 u (hcells ▸ hul))
                                        obtain ⟨w', hst', h4, h5⟩ := storeCells_ok (P := P) hs hmm hrel hw
                                        rw [← hpos (by omega)] at hst'
                                        refine hrun (s := Builtin.clear_ #[t] o.type #[.slice (some a') xn c]) (fun _ => by rw [hargs, hty]; rfl) (r := .tuple #[]) (w' := w') ?_ (hK _ _ _ R2.undef h4 h5)
                                        have hzr : (zeroValue e).run P w = .ok zv w := by simp [zeroValue, typeInfo, hi, hzv]
                                        cases xn with
                                        | zero => exact absurd rfl hn0
                                        | succ xn => simp [Builtin.clear_, run_underlying (slE_some he), hzr, hzz, hst']
                                      · cases hv
  · -- max
    rename_i x y
    cases hc
    simp only [vop, Option.bind_eq_some_iff] at hv
    obtain ⟨xv, hx, yv, hy, hv⟩ := hv
    have hl := hel (vs := [xv, yv]) (by simp [evs, hx, hy])
    generalize hrs : cargs.toList.map a.eval = rs at hl
    cases hl with | cons h1 h2 => cases h2 with | cons h2 h3 => cases h3; rename_i rx ry
                                                                have hargs : cargs.map a.eval = #[rx, ry] := by apply Array.ext'; simpa using hrs
                                                                cases xv <;> cases yv <;> try (cases hv; done)
                                                                rename_i k p k' q
                                                                obtain rfl := R2.int h1
                                                                obtain rfl := R2.int h2
                                                                simp only at hv
                                                                split at hv
                                                                · rename_i hk; subst hk; cases hv
                                                                  refine hrun (s := Builtin.max_ argTypes o.type #[.int k p, .int k q]) (fun _ => by rw [hargs]; rfl) (r := _) (w' := w) ?_ (hK.still hs (R2.mkint _ _))
                                                                  simp [Builtin.max_, Builtin.max2]
                                                                · cases hv
  · -- min
    rename_i x y
    cases hc
    simp only [vop, Option.bind_eq_some_iff] at hv
    obtain ⟨xv, hx, yv, hy, hv⟩ := hv
    have hl := hel (vs := [xv, yv]) (by simp [evs, hx, hy])
    generalize hrs : cargs.toList.map a.eval = rs at hl
    cases hl with | cons h1 h2 => cases h2 with | cons h2 h3 => cases h3; rename_i rx ry
                                                                have hargs : cargs.map a.eval = #[rx, ry] := by apply Array.ext'; simpa using hrs
                                                                cases xv <;> cases yv <;> try (cases hv; done)
                                                                rename_i k p k' q
                                                                obtain rfl := R2.int h1
                                                                obtain rfl := R2.int h2
                                                                simp only at hv
                                                                split at hv
                                                                · rename_i hk; subst hk; cases hv
                                                                  refine hrun (s := Builtin.min_ argTypes o.type #[.int k p, .int k q]) (fun _ => by rw [hargs]; rfl) (r := _) (w' := w) ?_ (hK.still hs (R2.mkint _ _))
                                                                  simp [Builtin.min_, Builtin.min2]
                                                                · cases hv
  · cases hc
end
end Go.Proofs.Ytaahjfjpbilfnaa.V
/-! One operation of the program and its image: the general law. -/
namespace Go.Proofs.Ytaahjfjpbilfnaa.V
open Go
set_option linter.unusedVariables false
set_option linter.unusedSimpArgs false
section
variable {P : Program}
theorem mapA {α β : Type} (l : Array α) (f : α → β) : (l.map f).toList = l.toList.map f := Array.toList_map
theorem run_eq_bool {t : TypeId} (h : P.underlying t = some .bool) (neg : Bool) (p q : Bool) (x y : Operand) (w : World) :
    (do eqGuard (if neg then .neq else .eql) t x y (.bool p) (.bool q); binOp (if neg then .neq else .eql) t (.bool p) (.bool q) : Sem Value).run P w = .ok (.bool (if neg then !(p == q) else p == q)) w := by
  have he : (Op.equal t (.bool p) (.bool q)).run P w = .ok (p == q) w := by
    show (Op.equalIn (9999 + 1) t (.bool p) (.bool q)).run P w = _
    rw [Op.equalIn, Sem.run_bind, run_underlying h]
    rfl
  cases neg
  · show (do pure (Value.bool (← Op.equal t (.bool p) (.bool q))) : Sem Value).run P w = _
    simp only [Sem.run_bind, he, Result.andThen_ok, Sem.run_pure]; rfl
  · show (do pure (Value.bool (!(← Op.equal t (.bool p) (.bool q)))) : Sem Value).run P w = _
    simp only [Sem.run_bind, he, Result.andThen_ok, Sem.run_pure]; rfl
theorem run_eq_nil {t e : TypeId} (h : P.underlying t = some (.slice e)) (neg : Bool) (base : Option Addr) (n c : Nat) (x y : Operand) (w : World) :
    (do eqGuard (if neg then .neq else .eql) t x y (.slice base n c) (.slice none 0 0); binOp (if neg then .neq else .eql) t (.slice base n c) (.slice none 0 0) : Sem Value).run P w = .ok (.bool (if neg then !base.isNone else base.isNone)) w := by
  have he : (Op.equal t (.slice base n c) (.slice none 0 0)).run P w = .ok base.isNone w := by
    show (Op.equalIn (9999 + 1) t (.slice base n c) (.slice none 0 0)).run P w = _
    rw [Op.equalIn, Sem.run_bind, run_underlying h]
    cases base <;> rfl
  cases neg
  · show (do pure (Value.bool (← Op.equal t (.slice base n c) (.slice none 0 0))) : Sem Value).run P w = _
    simp only [Sem.run_bind, he, Result.andThen_ok, Sem.run_pure]; rfl
  · show (do pure (Value.bool (!(← Op.equal t (.slice base n c) (.slice none 0 0)))) : Sem Value).run P w = _
    simp only [Sem.run_bind, he, Result.andThen_ok, Sem.run_pure]; rfl
theorem ieqs_real {μ : Mu} : ∀ {xs ys rs ss : List Value} {b : Bool}, ieqs xs ys = some b → L2 (RC μ) xs rs → L2 (RC μ) ys ss → ieqs rs ss = some b
  | [], [], _, _, b, h, .nil, .nil => h
  | .int k a :: r, .int k' c :: s, _, _, b, h, .cons h1 t1, .cons h2 t2 => by
    simp only [RC, RP] at h1 h2
    subst h1 h2
    simp only [ieqs] at h ⊢
    split at h
    · rename_i hk
      rw [if_pos hk]
      split at h
      · rename_i he
        rw [if_pos he]; exact ieqs_real h t1 t2
      · rename_i he
        rw [if_neg he]; exact h
    · cases h
theorem run_part_int {t : TypeId} {k : IntKind} (h : P.underlying t = some (.int k)) {cs : Array Value} {i : Nat} {v : Value} (hv : cs[i]? = some v) (w : World) : (part t cs i).run P w = .ok v w := by
  simp [part, isAgg, Sem.run_bind, run_underlying h, hv]
theorem run_eqFields_flat (w : World) (d : Nat) (xs ys : Array Value) : ∀ (fs : List Field) (i : Nat) (b : Bool), flatI P i fs = true → xs.size = i + fs.length → ys.size = i + fs.length → ieqs (xs.toList.drop i) (ys.toList.drop i) = some b → (Op.eqFields (d + 1) xs ys fs).run P w = .ok b w
  | [], i, b, _, h1, h2, h => by
    rw [List.drop_eq_nil_of_le (by simp at h1 ⊢; omega), List.drop_eq_nil_of_le (by simp at h2 ⊢; omega)] at h
    simp only [ieqs, Option.some.injEq] at h
    subst h
    simp [Op.eqFields]
  | f :: fs, i, b, hf, h1, h2, h => by
    simp only [flatI, Bool.and_eq_true, decide_eq_true_eq, beq_iff_eq] at hf
    obtain ⟨⟨⟨hn, ho⟩, hi⟩, hr⟩ := hf
    simp only [List.length_cons] at h1 h2
    have x1 : i < xs.toList.length := by simp; omega
    have y1 : i < ys.toList.length := by simp; omega
    rw [List.drop_eq_getElem_cons x1, List.drop_eq_getElem_cons y1] at h
    generalize hX : xs.toList[i] = X at h
    generalize hY : ys.toList[i] = Y at h
    have gx : xs[i]? = some X := by rw [← hX]; simp [show i < xs.size by omega]
    have gy : ys[i]? = some Y := by rw [← hY]; simp [show i < ys.size by omega]
    cases X <;> cases Y <;> try (cases h; done)
    rename_i k a k' c
    simp only [ieqs] at h
    split at h
    · rename_i hk
      subst hk
      split at hi
      · rename_i k' hu
        have e1 := run_part_int hu gx w
        have e2 := run_part_int hu gy w
        have e3 := run_equalIn_int (P := P) w d f.type k k' a c hu
        simp only [Op.eqFields, if_pos hn, Sem.run_bind, ho, e1, e2, Result.andThen_ok, e3]
        split at h
        · rename_i he
          rw [he]
          simp only [Bool.not_true, Bool.false_eq_true, if_false]
          exact run_eqFields_flat w d xs ys fs (i + 1) b hr (by omega) (by omega) h
        · rename_i he
          simp only [Option.some.injEq] at h
          subst h
          rw [eq_false_of_ne_true he]
          simp
      · cases hi
    · cases h
theorem run_eq_flat {t : TypeId} {m : Nat} (h : flatS P t = some m) (neg : Bool) {xs ys : Array Value} {b : Bool} (hx : xs.size = m) (hy : ys.size = m) (hb : ieqs xs.toList ys.toList = some b) (x y : Operand) (w : World) :
    (do eqGuard (if neg then .neq else .eql) t x y (.agg xs) (.agg ys); binOp (if neg then .neq else .eql) t (.agg xs) (.agg ys) : Sem Value).run P w = .ok (.bool (if neg then !b else b)) w := by
  unfold flatS at h
  split at h
  · rename_i hc
    split at h
    · rename_i fs hu
      split at h
      · rename_i hf
        simp only [Option.some.injEq] at h
        have hfs : P.fieldsOf t = fs := by simp [Program.fieldsOf, hu]
        have he := run_equalIn_struct (P := P) w 9999 t xs ys (by rw [hfs]; exact hu) hc.1
        rw [hfs, run_eqFields_flat w 9998 xs ys fs.toList 0 b hf (by simp; omega) (by simp; omega) (by simpa using hb)] at he
        cases neg
        · simp only [Bool.false_eq_true, if_false]
          rw [Sem.run_bind, run_eqGuard_agg w .eql t x y xs ys hc.2, Result.andThen_ok, run_eql_struct, he]; rfl
        · simp only [if_true]
          rw [Sem.run_bind, run_eqGuard_agg w .neq t x y xs ys hc.2, Result.andThen_ok, run_neq_struct, he]; rfl
      · cases h
    · cases h
  · cases h
theorem L2.ptrs {μ : Mu} : ∀ {vs rs : List Value}, L2 (R2 μ) vs rs → vs.all isPtr = true → L2 (RP μ) vs rs
  | _, _, .nil, _ => .nil
  | _, _, .cons (a := a) h t, hall => by
    simp only [List.all_cons, Bool.and_eq_true] at hall
    refine .cons ?_ (t.ptrs hall.2)
    cases a <;> first | exact h | (exact absurd hall.1 (by simp [isPtr]))
theorem sO {μ : Mu} {ts : Ts} {a : Act} (ht : TR μ ts a) {x : Option Operand} {y : Option Arg} (hc : cO x = some y) : (y = none → x.map a.eval = none) ∧ ∀ z v, y = some z → ev ts z = some v → ∃ r, x.map a.eval = some r ∧ R2 μ v r := by
  cases x with
  | none => simp only [cO, Option.some.injEq] at hc; subst hc; exact ⟨(fun _ => rfl), (fun z v h => by cases h)⟩
  | some x =>
    simp only [cO, Option.map_eq_some_iff] at hc
    obtain ⟨y', hy, rfl⟩ := hc
    exact ⟨(fun h => by cases h), (fun z v h hv => by cases h; exact ⟨_, rfl, ev_ok ht hy hv⟩)⟩

set_option maxHeartbeats 4000000 in
theorem op_ok {call : Cal} (hcall : CalOK P call) {o : Oper} {vo : VOp} (hc : compO P o.op = some vo) {lo : Nat} {ts : Ts} {H H' : Hp} {v : Value} (hv : vop call lo ts H vo = some (v, H')) (hlo : lo ≤ H.length)
    {μ : Mu} {a : Act} {w : World} (ht : TR μ ts a) (hs : Sim μ H w) {K : Act → World → Prop} {Q : Exit → Act → World → Prop} (hK : Post lo μ H w v H' a o.dst K) : o.wp P a w K Q := by
  have one : ∀ {x : Operand} {vo : VOp} {f : Arg → VOp}, (cA x).map f = some vo → ∃ y, cA x = some y ∧ vo = f y := by
    intro x vo f h
    obtain ⟨y, hy, rfl⟩ := Option.map_eq_some_iff.1 h
    exact ⟨y, hy, rfl⟩
  have valw : ∀ {r : Value} {s : Sem Value}, execOp a.eval o = (do pure (.value (← s))) → s.run P w = .ok r w → R2 μ v r → H' = H → o.wp P a w K Q := by
    intro r s he hr hR hH
    subst hH
    exact wp_val (r := r) (w' := w) (by rw [he]; simp [hr]) (hK.still hs hR)
  cases hop : o.op <;> rw [hop] at hc <;> simp only [compO] at hc <;> try (cases hc; done)
  case move x =>
    obtain ⟨y, hy, rfl⟩ := one hc
    simp only [vop, Option.bind_eq_some_iff, Option.some.injEq, Prod.mk.injEq] at hv
    obtain ⟨u, hu, rfl, rfl⟩ := hv
    exact wp_val (by simp only [execOp, hop]; rfl) (hK.still hs (ev_ok ht hy hu))
  case assign x =>
    obtain ⟨y, hy, rfl⟩ := one hc
    simp only [vop, Option.bind_eq_some_iff, Option.some.injEq, Prod.mk.injEq] at hv
    obtain ⟨u, hu, rfl, rfl⟩ := hv
    exact wp_val (by simp only [execOp, hop]; rfl) (hK.still hs (ev_ok ht hy hu))
  case pick c x y =>
    simp only [Option.bind_eq_some_iff, Option.map_eq_some_iff] at hc
    obtain ⟨c', hc', x', hx', y', hy', rfl⟩ := hc
    simp only [vop, Option.bind_eq_some_iff] at hv
    obtain ⟨cv, hcv, hv⟩ := hv
    cases cv <;> try (cases hv; done)
    rename_i t
    simp only [Option.bind_eq_some_iff, Option.some.injEq, Prod.mk.injEq] at hv
    obtain ⟨u, hu, rfl, rfl⟩ := hv
    have hcb := R2.boolv (ev_ok ht hc' hcv)
    cases t
    · simp only [Bool.false_eq_true, if_false] at hu
      exact wp_val (r := a.eval y) (by simp [execOp, hop, hcb, asBool]) (hK.still hs (ev_ok ht hy' hu))
    · simp only [if_true] at hu
      exact wp_val (r := a.eval x) (by simp [execOp, hop, hcb, asBool]) (hK.still hs (ev_ok ht hx' hu))
  case alloc e =>
    simp only [Option.map_eq_some_iff] at hc
    obtain ⟨z, hz, rfl⟩ := hc
    simp only [vop, Option.some.injEq, Prod.mk.injEq] at hv
    obtain ⟨rfl, rfl⟩ := hv
    obtain ⟨i, zv, hi, hzv, hok, rfl, hlen⟩ := zeroL_some hz
    obtain ⟨he, hp⟩ := ok1_cells hok
    have hal := hs.alloc (vs := vcells zv) (C := zv.cells) (e := e) (k := 1) (s := zv.cells.size) (k0 := false) (fun j c hj => ⟨c, by rw [← Array.getElem?_toList, he]; exact hj, RC.const (hp c (List.mem_of_getElem? hj))⟩) (by simp) (by simp) (by simp [maxLen]) lo
    refine wp_val (r := .pointer (some ⟨w.heap.size, 0, none⟩)) (w' := w.alloc (.cells zv.cells e)) ?_ (hK _ _ _ (R2.of_RC ⟨rfl, _, upd_same _ _ _, rfl⟩) hal.1 hal.2)
    simp [execOp, hop, Instr.alloc, zeroValue, typeInfo, hi, hzv, newVar, newRow]
  case box e x =>
    obtain ⟨y, hy, rfl⟩ := one hc
    simp only [vop, Option.bind_eq_some_iff] at hv
    obtain ⟨u, hu, hv⟩ := hv
    split at hv
    · rename_i hn
      simp only [Option.some.injEq, Prod.mk.injEq] at hv
      obtain ⟨rfl, rfl⟩ := hv
      have hr := ((ev_ok ht hy hu).to_R1 (ntup_ok hn)).cells
      have hal := hs.alloc (vs := vcells u) (C := (a.eval x).cells) (e := e) (k := 1) (s := (a.eval x).cells.size) (k0 := false) (fun j c hj => by
        obtain ⟨r, h1, h2⟩ := hr.get hj
        exact ⟨r, by rw [← Array.getElem?_toList]; exact h1, h2⟩) (by simp) (by simp) (by simp [maxLen]) lo
      refine wp_val (r := .pointer (some ⟨w.heap.size, 0, none⟩)) (w' := w.alloc (.cells (a.eval x).cells e)) ?_ (hK _ _ _ (R2.of_RC ⟨rfl, _, upd_same _ _ _, rfl⟩) hal.1 hal.2)
      simp [execOp, hop, Instr.box, newVar, newRow]
    · cases hv
  case build t ps =>
    simp only [Option.bind_eq_some_iff, Option.map_eq_some_iff] at hc
    obtain ⟨fs, hfs, z, hz, pl, hpl, cps, hcps, rfl⟩ := hc
    simp only [vop, Option.bind_eq_some_iff, Option.some.injEq, Prod.mk.injEq] at hv
    obtain ⟨cs, hcs, rfl, rfl⟩ := hv
    obtain ⟨i, zv, hi, hzv, hok, rfl, hlen⟩ := zeroL_some hz
    obtain ⟨he, hp⟩ := ok1_cells hok
    obtain ⟨rcs, hf, hrel⟩ := vfill_ok ht _ _ _ hcps (rcells := zv.cells) (by rw [he]; exact L2.refl fun u hu => RC.const (hp u hu)) hcs
    refine valw (r := .agg rcs) (s := Instr.build t (ps.map fun (i, x) => (i, a.eval x))) (by simp only [execOp, hop]) ?_ (R2.of_R1 ⟨rcs, rfl, by simpa using hrel⟩) rfl
    refine run_build w t _ rcs ?_
    simp only [Program.built, hi, stF_some hfs, hzv]
    simp only [places] at hpl
    rw [hpl]
    simp only
    rw [mapA]
    exact hf
  case buildSlice t len ps =>
    simp only [Option.bind_eq_some_iff] at hc
    obtain ⟨e, he, n, hn, z, hz, hc⟩ := hc
    obtain ⟨i, hi, rfl⟩ := szL_some hn
    split at hc
    · rename_i hle
      obtain ⟨hle, hpos⟩ := hle
      obtain ⟨cps, hcps, rfl⟩ := Option.map_eq_some_iff.1 hc
      simp only [vop, Option.bind_eq_some_iff, Option.some.injEq, Prod.mk.injEq] at hv
      obtain ⟨cs, hcs, rfl, rfl⟩ := hv
      obtain ⟨i', zv, hi', hzv, hok, rfl, hlen⟩ := zeroL_some hz
      rw [hi] at hi'; cases hi'
      obtain ⟨hez, hp⟩ := ok1_cells hok
      have hzs : zv.cells.size = i.size := by rw [← hlen, ← hez]; simp
      -- the row of zeros
      have hzero : ((Array.range (len * i.size)).map (((if len * i.size = 0 then #[] else zv.cells) : Array Value)[· % ((if len * i.size = 0 then #[] else zv.cells) : Array Value).size]!)).toList = (if len * i.size = 0 then [] else (List.replicate len (vcells zv)).flatten) := by
        split
        · rename_i h0; simp [h0]
        · rw [← hez, ← hzs]; exact range_map zv.cells len
      obtain ⟨rcs, hf, hrel⟩ := vfill_ok ht _ _ _ hcps (rcells := (Array.range (len * i.size)).map (((if len * i.size = 0 then #[] else zv.cells) : Array Value)[· % ((if len * i.size = 0 then #[] else zv.cells) : Array Value).size]!)) (by
        rw [hzero]
        refine L2.refl fun u hu => ?_
        split at hu
        · simp at hu
        · obtain ⟨l, hl, hul⟩ := List.mem_flatten.1 hu
          obtain ⟨_, rfl⟩ := List.mem_replicate.1 hl
          exact RC.const (hp u hul)) hcs
      have hfl : ∀ (ps : List (Nat × Nat × Arg)) (c c' : List Value), vfill c ts ps = some c' → c'.length = c.length := by
        intro ps
        induction ps with
        | nil => intro c c' h; simp only [vfill, Option.some.injEq] at h; rw [h]
        | cons p ps ih =>
          intro c c' h
          obtain ⟨o', n', x'⟩ := p
          simp only [vfill, Option.bind_eq_some_iff] at h
          obtain ⟨u, _, h⟩ := h
          split at h
          · rw [ih _ _ h, setAll_length]
          · cases h
      have hsz : rcs.size = len * i.size := by
        have h1 := hfl _ _ _ hcs
        have h2 := hrel.len
        rw [h1, ← hzero] at h2
        simpa using h2.symm
      have hal := hs.alloc (vs := cs) (C := rcs) (e := e) (k := len) (s := i.size) (k0 := len == 0) (fun j c hj => by
        obtain ⟨r, h1, h2⟩ := hrel.get hj
        exact ⟨r, by rw [← Array.getElem?_toList]; exact h1, h2⟩) (by simp) hsz (by
          have : len ≤ len * i.size := Nat.le_mul_of_pos_right _ hpos
          simp only [maxLen]; omega) lo
      refine wp_val (r := .slice (some ⟨w.heap.size, 0, none⟩) len len) (w' := w.alloc (.cells rcs e)) ?_ (hK _ _ _ (R2.of_RC ⟨rfl, _, upd_same _ _ _, rfl, _, _, rfl, fun _ => rfl, Nat.le_refl _, fun _ => ⟨rfl, rfl⟩, fun _ => rfl⟩) hal.1 hal.2)
      have hzr : (zeroValue e).run P w = .ok zv w := by simp [zeroValue, typeInfo, hi, hzv]
      have hfill : Instr.fill (fun i_1 => some (i_1 * i.size, i.size)) ((Array.range (len * i.size)).map (((if len * i.size = 0 then #[] else zv.cells) : Array Value)[· % ((if len * i.size = 0 then #[] else zv.cells) : Array Value).size]!)) (ps.map fun (i, x) => (i, a.eval x)).toList = some rcs := by rw [mapA]; exact hf
      have hng : ¬ (len * i.size > 2 ^ 24) := by omega
      by_cases h0 : len * i.size = 0
      · simp only [if_pos h0] at hfill
        simp only [execOp, hop, Instr.buildSlice, Sem.run_bind, run_underlying (slE_some he), Result.andThen_ok, run_sizeOf hi, if_neg hng, if_pos h0, Sem.run_pure, hfill, newRow, run_newObj, World.alloc_eq]
      · simp only [if_neg h0] at hfill
        simp only [execOp, hop, Instr.buildSlice, Sem.run_bind, run_underlying (slE_some he), Result.andThen_ok, run_sizeOf hi, if_neg hng, if_neg h0, hzr, Sem.run_pure, hfill, newRow, run_newObj, World.alloc_eq]
    · cases hc
  case load t x =>
    simp only [Option.bind_eq_some_iff] at hc
    obtain ⟨⟨g, n⟩, hty, hc⟩ := hc
    obtain ⟨y, hy, rfl⟩ := one hc
    simp only [vop, Option.bind_eq_some_iff] at hv
    obtain ⟨p, hp, hv⟩ := hv
    cases p <;> try (cases hv; done)
    rename_i pa
    cases pa <;> try (cases hv; done)
    rename_i pa
    have hv' : (if g then (V.rdN H pa n).bind fun cs => some (Value.agg cs.toArray) else V.rd H pa) = some v ∧ H' = H := by
      simp only at hv
      split at hv
      · simp only [Option.bind_eq_some_iff, Option.some.injEq, Prod.mk.injEq] at hv
        obtain ⟨cs, hcs, rfl, rfl⟩ := hv
        exact ⟨by rw [if_pos ‹_›, hcs]; rfl, rfl⟩
      · simp only [Option.bind_eq_some_iff, Option.some.injEq, Prod.mk.injEq] at hv
        obtain ⟨u, hu, rfl, rfl⟩ := hv
        exact ⟨by rw [if_neg ‹_›, hu], rfl⟩
    obtain ⟨r, hr, hR⟩ := load_ok (P := P) hs hty (ev_ok ht hy hp) hv'.1
    exact valw (s := Instr.loadAt t (a.eval x)) (by simp only [execOp, hop]) hr hR hv'.2
  case store t x y =>
    simp only [Option.bind_eq_some_iff, Option.map_eq_some_iff] at hc
    obtain ⟨n, hn, x', hx', y', hy', rfl⟩ := hc
    simp only [vop, Option.bind_eq_some_iff] at hv
    obtain ⟨p, hp, u, hu, hv⟩ := hv
    cases p <;> try (cases hv; done)
    rename_i pa
    cases pa <;> try (cases hv; done)
    rename_i pa
    simp only at hv
    split at hv
    · rename_i hcond
      simp only [Option.bind_eq_some_iff, Option.some.injEq, Prod.mk.injEq] at hv
      obtain ⟨H2, hw, rfl, rfl⟩ := hv
      obtain ⟨h0, m, hm, hxe⟩ := (ev_ok ht hx' hp)
      obtain ⟨w', hst, h1, h2⟩ := storeVar_ok (P := P) hs hn hm ((ev_ok ht hy' hu).to_R1 (ntup_ok hcond.1)) hcond.2 hw
      refine wp_skp (w' := w') ?_ (hK _ _ _ R2.undef h1 h2)
      simp [execOp, hop, Instr.storeAt, Instr.sureAddr, hxe, hst]
    · cases hv
  case nilCheck x =>
    obtain ⟨y, hy, rfl⟩ := one hc
    simp only [vop, Option.bind_eq_some_iff] at hv
    obtain ⟨u, hu, hv⟩ := hv
    cases u <;> try (cases hv; done)
    rename_i pa
    cases pa <;> try (cases hv; done)
    simp only [Option.some.injEq, Prod.mk.injEq] at hv
    obtain ⟨rfl, rfl⟩ := hv
    have hr := ev_ok ht hy hu
    obtain ⟨h0, m, hm, hxe⟩ := hr
    exact wp_val (r := a.eval x) (by simp [execOp, hop, hxe]) (hK.still hs (by rw [hxe]; exact ⟨h0, m, hm, rfl⟩))
  case binOp op t x y yt =>
    have ibin : ∀ {x' y' : Arg}, cA x = some x' → cA y = some y' → vop call lo ts H (.bin op x' y') = some (v, H') → o.wp P a w K Q := by
      intro x' y' hx hy hv
      simp only [vop, Option.bind_eq_some_iff, Option.some.injEq, Prod.mk.injEq] at hv
      obtain ⟨p, hp, q, hq, u, hu, rfl, rfl⟩ := hv
      obtain ⟨h1, h2⟩ := bin_ok (P := P) hu (ev_ok ht hx hp) (ev_ok ht hy hq) t x y w
      exact valw (s := do eqGuard op t x y (a.eval x) (a.eval y); binOp op t (a.eval x) (a.eval y)) (by simp only [execOp, hop]) h1 h2 rfl
    have plain : (∃ x' y', cA x = some x' ∧ cA y = some y' ∧ vo = .bin op x' y') → o.wp P a w K Q := by
      rintro ⟨x', y', h1, h2, rfl⟩
      exact ibin h1 h2 hv
    have eqs : ∀ (neg : Bool) (hopn : op = if neg then .neq else .eql), (if isBool P t then (cA x).bind fun x => (cA y).map (.beq neg x) else if (slE P t).isSome = true then (if nilSl y then (cA x).map (.snil neg) else none) else match flatS P t with | some m => (cA x).bind fun x => (cA y).map (.aeq neg m x) | none => (cA x).bind fun x => (cA y).map (.bin op x)) = some vo → o.wp P a w K Q := by
      intro neg hopn hc
      split at hc
      · rename_i hb
        simp only [Option.bind_eq_some_iff, Option.map_eq_some_iff] at hc
        obtain ⟨x', hx, y', hy, rfl⟩ := hc
        simp only [vop, Option.bind_eq_some_iff] at hv
        obtain ⟨p, hp, q, hq, hv⟩ := hv
        cases p <;> try (cases hv; done)
        cases q <;> try (cases hv; done)
        rename_i p q
        simp only [Option.some.injEq, Prod.mk.injEq] at hv
        obtain ⟨rfl, rfl⟩ := hv
        have h1 := R2.boolv (ev_ok ht hx hp)
        have h2 := R2.boolv (ev_ok ht hy hq)
        have hbt : P.underlying t = some .bool := by
          unfold isBool at hb; split at hb
          · assumption
          · cases hb
        refine valw (s := do eqGuard op t x y (a.eval x) (a.eval y); binOp op t (a.eval x) (a.eval y)) (by simp only [execOp, hop]) ?_ (R2.mkbool _) rfl
        rw [h1, h2, hopn]
        exact run_eq_bool hbt neg p q x y w
      · split at hc
        · rename_i hsl
          obtain ⟨e, he⟩ := Option.isSome_iff_exists.1 hsl
          split at hc
          · rename_i hnil
            obtain ⟨x', hx, rfl⟩ := one hc
            simp only [vop, Option.bind_eq_some_iff] at hv
            obtain ⟨p, hp, hv⟩ := hv
            cases p <;> try (cases hv; done)
            rename_i pa pn pc
            simp only [Option.some.injEq, Prod.mk.injEq] at hv
            obtain ⟨rfl, rfl⟩ := hv
            have hy : a.eval y = .slice none 0 0 := by
              unfold nilSl at hnil; split at hnil
              · rfl
              · cases hnil
            have hr : ∃ base c, a.eval x = .slice base pn c ∧ base.isNone = pa.isNone := by
              have h := ev_ok ht hx hp
              cases pa with
              | none => obtain ⟨rfl, h⟩ := h; exact ⟨none, 0, h, rfl⟩
              | some _ => obtain ⟨_, _, _, _, a', c, h, _⟩ := h; exact ⟨some a', c, h, rfl⟩
            obtain ⟨base, c, hxe, hbn⟩ := hr
            refine valw (s := do eqGuard op t x y (a.eval x) (a.eval y); binOp op t (a.eval x) (a.eval y)) (by simp only [execOp, hop]) ?_ (R2.mkbool _) rfl
            rw [hxe, hy, hopn, ← hbn]
            exact run_eq_nil (slE_some he) neg base pn c x y w
          · cases hc
        · cases hfl : flatS P t with
          | none =>
            rw [hfl] at hc
            simp only [Option.bind_eq_some_iff, Option.map_eq_some_iff] at hc
            obtain ⟨x', hx, y', hy, rfl⟩ := hc
            exact ibin hx hy hv
          | some m =>
            rw [hfl] at hc
            simp only [Option.bind_eq_some_iff, Option.map_eq_some_iff] at hc
            obtain ⟨x', hx, y', hy, rfl⟩ := hc
            simp only [vop, Option.bind_eq_some_iff] at hv
            obtain ⟨p, hp, q, hq, hv⟩ := hv
            cases p <;> try (cases hv; done)
            cases q <;> try (cases hv; done)
            rename_i xs ys
            simp only at hv
            split at hv
            · rename_i hsz
              simp only [Option.bind_eq_some_iff, Option.some.injEq, Prod.mk.injEq] at hv
              obtain ⟨r, hr, rfl, rfl⟩ := hv
              obtain ⟨rs, h1, l1⟩ := (ev_ok ht hx hp : R2 _ _ _)
              obtain ⟨ss, h2, l2⟩ := (ev_ok ht hy hq : R2 _ _ _)
              refine valw (s := do eqGuard op t x y (a.eval x) (a.eval y); binOp op t (a.eval x) (a.eval y)) (by simp only [execOp, hop]) ?_ (R2.mkbool _) rfl
              rw [h1, h2, hopn]
              exact run_eq_flat hfl neg (by rw [← hsz.1]; simpa using l1.len.symm) (by rw [← hsz.2]; simpa using l2.len.symm) (ieqs_real hr l1 l2) x y w
            · cases hv
    cases op
    case eql => exact eqs false rfl hc
    case neq => exact eqs true rfl hc
    all_goals
      simp only [Option.bind_eq_some_iff, Option.map_eq_some_iff] at hc
      obtain ⟨x', hx, y', hy, rfl⟩ := hc
      exact ibin hx hy hv
  case unOp op t x =>
    cases op <;> simp only [compO] at hc <;> try (cases hc; done)
    obtain ⟨y, hy, rfl⟩ := one hc
    simp only [vop, Option.bind_eq_some_iff] at hv
    obtain ⟨u, hu, hv⟩ := hv
    cases u <;> try (cases hv; done)
    simp only [Option.some.injEq, Prod.mk.injEq] at hv
    obtain ⟨rfl, rfl⟩ := hv
    have hr := R2.boolv (ev_ok ht hy hu)
    exact valw (s := Op.unary .not (a.eval x)) (by simp only [execOp, hop]) (by rw [hr]; rfl) (R2.mkbool _) rfl
  case convert s d x =>
    split at hc
    · rename_i hsome
      simp only [Option.bind_eq_some_iff] at hc
      obtain ⟨k, hk, hc⟩ := hc
      obtain ⟨y, hy, rfl⟩ := one hc
      simp only [vop, Option.bind_eq_some_iff] at hv
      obtain ⟨u, hu, hv⟩ := hv
      cases u <;> try (cases hv; done)
      simp only [Option.some.injEq, Prod.mk.injEq] at hv
      obtain ⟨rfl, rfl⟩ := hv
      have hr := R2.int (ev_ok ht hy hu)
      obtain ⟨ds, hds⟩ := Option.isSome_iff_exists.1 hsome
      refine valw (s := convert s d (a.eval x)) (by simp only [execOp, hop]) ?_ (R2.mkint _ _) rfl
      rw [hr]
      simp [convert, run_underlying hds, run_underlying (intK_some hk), Conv.intToInt]
    · cases hc
  case makeFunc fn first cap =>
    cases fn <;> simp only [compO] at hc <;> try (cases hc; done)
    rename_i f
    split at hc
    · rename_i hf0
      obtain ⟨args, hargs, rfl⟩ := Option.map_eq_some_iff.1 hc
      simp only [vop, Option.bind_eq_some_iff] at hv
      obtain ⟨vs, hvs, hv⟩ := hv
      split at hv
      · rename_i hall
        simp only [Option.some.injEq, Prod.mk.injEq] at hv
        obtain ⟨rfl, rfl⟩ := hv
        have hel := evs_ok ht hargs hvs
        have hf : first = #[] := Array.eq_empty_of_size_eq_zero hf0
        refine wp_val (r := .func (.func f) #[] (cap.map a.eval)) (w' := w) (by simp [execOp, hop, Instr.makeFunc, hf]) (hK.still hs (R2.of_RC (v := .func (.func f) #[] vs.toArray) ⟨rfl, cap.map a.eval, rfl, ?_⟩))
        rw [mapA]
        exact hel.ptrs hall
      · cases hv
    · cases hc
  case makeSlice t l c =>
    simp only [Option.bind_eq_some_iff, Option.map_eq_some_iff] at hc
    obtain ⟨e, he, i, hi, z, hz, l', hl', c', hc', rfl⟩ := hc
    obtain ⟨i', zv, hi', hzv, hok, rfl, hlen⟩ := zeroL_some hz
    rw [hi] at hi'; cases hi'
    obtain ⟨hez, hp⟩ := ok1_cells hok
    have hzs : zv.cells.size = i.size := by rw [← hlen, ← hez]; simp
    simp only [vop, Option.bind_eq_some_iff] at hv
    obtain ⟨lv, hlv, cv, hcv, n, hn, m, hm, hv⟩ := hv
    split at hv
    · rename_i hcond
      obtain ⟨rfl, h0, hby, hmx, _⟩ := hcond
      simp only [Option.some.injEq, Prod.mk.injEq] at hv
      obtain ⟨rfl, rfl⟩ := hv
      obtain ⟨kl, rfl⟩ := asI_some hn
      obtain ⟨kc, rfl⟩ := asI_some hm
      have h1 := R2.int (ev_ok ht hl' hlv)
      have h2 := R2.int (ev_ok ht hc' hcv)
      have hrun := run_make (P := P) w t e i zv (slE_some he) hi hzv kl kc n n h0 (Int.le_refl _) hby (by omega)
      have hmade : (madeCells zv.cells (n.toNat * i.size)).toList = (List.replicate n.toNat (vcells zv)).flatten := by
        rw [← hez, ← hzs]; exact range_map zv.cells n.toNat
      have hal := hs.alloc (vs := (List.replicate n.toNat (vcells zv)).flatten) (C := madeCells zv.cells (n.toNat * i.size)) (e := e) (k := n.toNat) (s := i.size) (k0 := n == 0) (fun j c hj => ⟨c, by rw [← Array.getElem?_toList, hmade]; exact hj, by
        obtain ⟨l, hl, hul⟩ := List.mem_flatten.1 (List.mem_of_getElem? hj)
        obtain ⟨_, rfl⟩ := List.mem_replicate.1 hl
        exact RC.const (hp c hul)⟩) (by intro h; simp at h; omega) (size_madeCells _ _) (by simp only [maxLen]; omega) lo
      refine wp_val (r := .slice (some ⟨w.heap.size, 0, none⟩) n.toNat n.toNat) (w' := w.alloc (.cells (madeCells zv.cells (n.toNat * i.size)) e)) ?_ (hK _ _ _ (R2.of_RC ⟨rfl, _, upd_same _ _ _, rfl, _, _, rfl, fun _ => rfl, Nat.le_refl _, fun _ => ⟨rfl, rfl⟩, fun _ => rfl⟩) hal.1 hal.2)
      simp only [execOp, hop, h1, h2, Sem.run_bind, hrun, Result.andThen_ok, Sem.run_pure]
    · cases hv
  case fieldAddr s x f =>
    simp only [Option.bind_eq_some_iff] at hc
    obtain ⟨fs, hfs, fl, hfl, n, hn, hc⟩ := hc
    split at hc
    · cases hc
    · rename_i hn0
      obtain ⟨y, hy, rfl⟩ := one hc
      simp only [vop, Option.bind_eq_some_iff] at hv
      obtain ⟨u, hu, hv⟩ := hv
      cases u <;> try (cases hv; done)
      rename_i pa
      cases pa <;> try (cases hv; done)
      rename_i pa
      simp only [Option.some.injEq, Prod.mk.injEq] at hv
      obtain ⟨rfl, rfl⟩ := hv
      obtain ⟨i, hi, rfl⟩ := szL_some hn
      obtain ⟨h0, m, hm, hxe⟩ := ev_ok ht hy hu
      refine valw (r := .pointer (some ⟨m.b, m.o + (pa.off + fl.offset), none⟩)) (s := Instr.fieldAt s (a.eval x) f) (by simp only [execOp, hop]) ?_ (R2.of_RC (v := .pointer (some ⟨pa.block, pa.off + fl.offset, none⟩)) ⟨rfl, m, hm, rfl⟩) rfl
      simp [Instr.fieldAt, hxe, run_underlying (stF_some hfs), hfl, Instr.sureAddr, fieldPlace, run_sizeOf hi, hn0, addr_add, Nat.add_assoc]
  case field s x f =>
    simp only [Option.bind_eq_some_iff] at hc
    obtain ⟨fs, hfs, fl, hfl, ⟨g, n⟩, hty, hc⟩ := hc
    obtain ⟨y, hy, rfl⟩ := one hc
    obtain ⟨d, i, hd, hi, rfl, rfl⟩ := tyL_some hty
    simp only [vop, Option.bind_eq_some_iff] at hv
    obtain ⟨u, hu, hv⟩ := hv
    cases u <;> try (cases hv; done)
    rename_i cs
    obtain ⟨rs, hxe, hrel⟩ := (ev_ok ht hy hu).to_R1 (by simp)
    simp only at hv
    have hpart : ∃ r, (part fl.type rs fl.offset).run P w = .ok r w ∧ R2 μ v r ∧ H' = H := by
      split at hv
      · rename_i hg
        split at hv
        · simp only [Option.some.injEq, Prod.mk.injEq] at hv
          obtain ⟨rfl, rfl⟩ := hv
          refine ⟨.agg (rs.extract fl.offset (fl.offset + i.size)), by simp [part, run_isAgg hd, hg, run_sizeOf hi], R2.of_R1 ⟨_, rfl, ?_⟩, rfl⟩
          simp only [Array.toList_extract, List.extract]
          exact (hrel.drop _).take _
        · cases hv
      · rename_i hg
        simp only [Option.bind_eq_some_iff, Option.some.injEq, Prod.mk.injEq] at hv
        obtain ⟨c, hc, rfl, rfl⟩ := hv
        obtain ⟨r, hr, hrc⟩ := hrel.get (i := fl.offset) (x := c) (by simpa using hc)
        have hr' : rs[fl.offset]? = some r := by simpa using hr
        exact ⟨r, by simp [part, run_isAgg hd, hg, hr'], R2.of_RC hrc, rfl⟩
    obtain ⟨r, hr, hR, hH⟩ := hpart
    refine valw (s := Instr.field s (a.eval x) f) (by simp only [execOp, hop]) ?_ hR hH
    simp [Instr.field, run_underlying (stF_some hfs), hfl, hxe, asAgg, hr]
  case indexAddr t x y =>
    simp only [Option.bind_eq_some_iff, Option.map_eq_some_iff] at hc
    obtain ⟨e, he, n, hn, x', hx', y', hy', rfl⟩ := hc
    obtain ⟨i, hi, rfl⟩ := szL_some hn
    simp only [vop, Option.bind_eq_some_iff] at hv
    obtain ⟨xv, hx, yv, hy, j, hj, hv⟩ := hv
    cases xv <;> try (cases hv; done)
    rename_i xa xn xc
    cases xa <;> try (cases hv; done)
    rename_i xa
    simp only at hv
    split at hv
    · rename_i hcond
      obtain ⟨rfl, h0, h1⟩ := hcond
      simp only [Option.some.injEq, Prod.mk.injEq] at hv
      obtain ⟨rfl, rfl⟩ := hv
      obtain ⟨k, rfl⟩ := asI_some hj
      obtain ⟨_, m, hm, hms, a', c, hxe, _, hnc, _, hpos⟩ := ev_ok ht hx' hx
      have hye := R2.int (ev_ok ht hy' hy)
      have hae := hpos (by omega)
      refine valw (r := .pointer (some ⟨m.b, m.o + (xa.off + j.toNat * i.size), none⟩)) (s := Instr.indexAt t (a.eval x) (a.eval y)) (by simp only [execOp, hop]) ?_ (R2.of_RC (v := .pointer (some ⟨xa.block, xa.off + j.toNat * i.size, none⟩)) ⟨rfl, m, hm, rfl⟩) rfl
      rw [hxe, hye, hae]
      simp [Instr.indexAt, asIntOf, run_underlying (slE_some he), run_sizeOf hi, h0, h1, addr_add, Nat.add_assoc]
    · cases hv
  case extract x ix =>
    obtain ⟨y, hy, rfl⟩ := one hc
    simp only [vop, Option.bind_eq_some_iff] at hv
    obtain ⟨u, hu, hv⟩ := hv
    cases u <;> try (cases hv; done)
    rename_i vs
    simp only [Option.bind_eq_some_iff, Option.some.injEq, Prod.mk.injEq] at hv
    obtain ⟨c, hc, rfl, rfl⟩ := hv
    obtain ⟨rs, hxe, hrel⟩ := ev_ok ht hy hu
    obtain ⟨r, hr, hrc⟩ := hrel.get (i := ix) (x := c) (by simpa using hc)
    have hr' : rs[ix]? = some r := by simpa using hr
    exact valw (s := Instr.extract (a.eval x) ix) (by simp only [execOp, hop]) (by simp [Instr.extract, hxe, hr']) (R2.of_R1 hrc) rfl
  case slice t x lo' hi' mx =>
    simp only [Option.bind_eq_some_iff] at hc
    obtain ⟨e, he, n, hn, hc⟩ := hc
    split at hc
    · cases hc
    · rename_i hn0
      simp only [Option.bind_eq_some_iff, Option.map_eq_some_iff] at hc
      obtain ⟨x', hx', l, hl, h, hh, m, hm, rfl⟩ := hc
      obtain ⟨l0, l1⟩ := sO ht hl
      obtain ⟨h0, h1⟩ := sO ht hh
      obtain ⟨m0, m1⟩ := sO ht hm
      simp only [vop, Option.bind_eq_some_iff] at hv
      obtain ⟨xv, hx, hv⟩ := hv
      have hxr := ev_ok ht hx' hx
      have fin : ∀ {lv hv' : Option Value} {u : Value}, m = none → vslice n xv lv hv' none = some u → (u, H) = (v, H') → (∀ z, lv = some z → ∃ r, lo'.map a.eval = some r ∧ R2 μ z r) → (lv = none → lo'.map a.eval = none) → (∀ z, hv' = some z → ∃ r, hi'.map a.eval = some r ∧ R2 μ z r) → (hv' = none → hi'.map a.eval = none) → o.wp P a w K Q := by
        intro lv hv' u hmn hu huv g1 g2 g3 g4
        cases huv
        have hmx := m0 hmn
        obtain ⟨r, hr, hR⟩ := slice_ok (P := P) he hn (by omega) hxr hu w g1 g2 g3 g4
        exact valw (s := Instr.sliceAt t (a.eval x) (lo'.map a.eval) (hi'.map a.eval) none) (by simp only [execOp, hop, hmx]) hr hR rfl
      cases l with
      | none =>
        cases h with
        | none =>
          cases m with
          | none =>
            simp only [Option.bind_eq_some_iff, Option.some.injEq] at hv
            obtain ⟨u, hu, huv⟩ := hv
            exact fin rfl hu huv (by simp) (fun _ => l0 rfl) (by simp) (fun _ => h0 rfl)
          | some m => cases hv
        | some h =>
          cases m with
          | none =>
            simp only [Option.bind_eq_some_iff, Option.some.injEq] at hv
            obtain ⟨hv1, hhv, u, hu, huv⟩ := hv
            exact fin rfl hu huv (by simp) (fun _ => l0 rfl) (fun z hz => by cases hz; exact h1 _ _ rfl hhv) (by simp)
          | some m =>
            simp only [Option.bind_eq_some_iff] at hv
            obtain ⟨hv1, hhv, mv, hmv, hv⟩ := hv
            obtain ⟨rh, hrh, hRh⟩ := h1 _ _ rfl hhv
            obtain ⟨rm, hrm, hRm⟩ := m1 _ _ rfl hmv
            have hl0 := l0 rfl
            obtain ⟨i, hi, rfl⟩ := szL_some hn
            cases xv <;> try (cases hv; done)
            rename_i xa xn xc
            have zero : asI hv1 = some 0 → asI mv = some 0 → ∃ k k', rh = .int k 0 ∧ rm = .int k' 0 := by
              intro e1 e2
              obtain ⟨k, rfl⟩ := asI_some e1
              obtain ⟨k', rfl⟩ := asI_some e2
              exact ⟨k, k', R2.int hRh, R2.int hRm⟩
            cases xa with
            | none =>
              simp only at hv
              split at hv
              · rename_i hcond
                cases hv
                obtain ⟨k, k', rfl, rfl⟩ := zero hcond.1 hcond.2.1
                obtain ⟨rfl, hxe⟩ := hxr
                refine valw (r := .slice none 0 0) (s := Instr.sliceAt t (a.eval x) (lo'.map a.eval) (hi'.map a.eval) (mx.map a.eval)) (by simp only [execOp, hop]) ?_ (R2.of_RC ⟨rfl, rfl⟩) rfl
                rw [hxe, hl0, hrh, hrm]
                simp [Instr.sliceAt, Instr.slice, Instr.sliceBounds, Instr.sliceBound, asIntOf, run_underlying (slE_some he), run_sizeOf hi]
              · cases hv
            | some xa =>
              simp only at hv
              split at hv
              · rename_i hcond
                cases hv
                obtain ⟨k, k', rfl, rfl⟩ := zero hcond.1 hcond.2.1
                obtain ⟨hsp, mm, hmm, hms, a', c, hxe, hsp', hnc, g0, gpos⟩ := hxr
                have hsp' : a'.spot = none := by
                  rcases Nat.eq_zero_or_pos xn with h00 | h00
                  · rw [(g0 (hcond.2.2.2.2 h00)).1]
                  · exact hsp' h00
                have hal := hs.empty ⟨a'.block, a'.off, 0, i.size⟩ rfl lo
                refine wp_val (r := .slice (some a') 0 0) (w' := w) ?_ (hK _ _ _ (R2.of_RC (v := .slice (some ⟨H.length, 0, none⟩) 0 i.size) ⟨rfl, _, upd_same _ _ _, rfl, a', 0, rfl, fun _ => hsp', Nat.le_refl _, fun _ => ⟨by cases a'; simp only at hsp' ⊢; subst hsp'; rfl, rfl⟩, fun h => absurd h (by omega)⟩) hal.1 hal.2)
                simp [execOp, hop, hxe, hl0, hrh, hrm, Instr.sliceAt, Instr.slice, Instr.sliceBounds, Instr.sliceBound, asIntOf, run_underlying (slE_some he), run_sizeOf hi]
              · cases hv
      | some l =>
        cases h with
        | none =>
          cases m with
          | none =>
            simp only [Option.bind_eq_some_iff, Option.some.injEq] at hv
            obtain ⟨lv1, hlv, u, hu, huv⟩ := hv
            exact fin rfl hu huv (fun z hz => by cases hz; exact l1 _ _ rfl hlv) (by simp) (by simp) (fun _ => h0 rfl)
          | some m => cases hv
        | some h =>
          cases m with
          | none =>
            simp only [Option.bind_eq_some_iff, Option.some.injEq] at hv
            obtain ⟨lv1, hlv, hv1, hhv, u, hu, huv⟩ := hv
            exact fin rfl hu huv (fun z hz => by cases hz; exact l1 _ _ rfl hlv) (by simp) (fun z hz => by cases hz; exact h1 _ _ rfl hhv) (by simp)
          | some m =>
            simp only [Option.bind_eq_some_iff] at hv
            obtain ⟨hv1, hhv, mv, hmv, hv⟩ := hv
            cases xv <;> try (cases hv; done)
            rename_i xa xn xc
            cases xa <;> simp at hv
  case makeInterface t x =>
    cases hc
    simp only [vop] at hv
    cases hv
  case panic x =>
    cases hc
    simp only [vop] at hv
    cases hv
  case call c =>
    simp only [Option.bind_eq_some_iff] at hc
    obtain ⟨args, hargs, hc⟩ := hc
    have go : ∀ {f : Nat} {vs cap capr : List Value} (fop : Operand), c.callee = .value fop → a.eval fop = .func (.func f) #[] capr.toArray → evs ts args = some vs → L2 (R2 μ) cap capr → call f (vs ++ cap) lo H = some (v, H') → o.wp P a w K Q := by
      intro f vs cap capr fop hcal hfop hvs hcap hcl
      have hel := (evs_ok ht hargs hvs).append hcap
      obtain ⟨⟨fn, hfn, hbody, hname⟩, hcalls⟩ := hcall f _ lo H v H' hcl hlo μ w _ hel hs
      have hrun : (execOp a.eval o).run P w = .ok (.enter f (c.args.toList.map a.eval ++ capr).toArray) w := by
        have hb : fn.body.isNone = false := by cases hx : fn.body <;> simp [hx] at hbody ⊢
        have hargs' : (#[] ++ c.args.map a.eval ++ capr.toArray) = (c.args.toList.map a.eval ++ capr).toArray := by
          apply Array.ext'
          simp
        simp only [execOp, hop, resolve, hcal, hfop, Deferred.ofValue, Sem.run_bind, Sem.run_pure, Result.andThen_ok, invoke, callFunc, run_program, hfn, hname, hb, Bool.false_eq_true, if_false, hargs']
      unfold Oper.wp
      rw [hrun, Oper.upon_enter]
      exact hcalls.mono fun e w' ⟨r, μ', he, h1, h2, h3⟩ => by
        subst he
        exact hK r w' μ' h1 h2 h3
    cases hcal : c.callee <;> rw [hcal] at hc <;> (try simp only at hc) <;> try (cases hc; done)
    case builtin b => exact bltin_ok hcal hop hargs hc hv ht hs hK
    case value fop =>
      cases fop <;> simp only [Option.some.injEq] at hc <;> try (cases hc; done)
      case tmp t =>
        subst hc
        simp only [vop, Option.bind_eq_some_iff] at hv
        obtain ⟨fv, hfv, vs, hvs, hv⟩ := hv
        cases fv <;> try (cases hv; done)
        rename_i fn fst cap
        cases fn <;> try (cases hv; done)
        rename_i f
        simp only at hv
        split at hv
        · obtain ⟨r, hr, hR⟩ := ht t _ hfv
          obtain ⟨hf0, capr, rfl, hcap⟩ := hR
          refine go (.tmp t) hcal (capr := capr.toList) ?_ hvs (hcap.mono fun x y h => R2.of_RC (by
            rw [RC_eq (by intro f a b e; subst e; exact h.elim)]; exact h)) hv
          simp [Act.eval, hr]
        · cases hv
      case func f =>
        subst hc
        simp only [vop, Option.bind_eq_some_iff] at hv
        obtain ⟨vs, hvs, hv⟩ := hv
        exact go (.func f) hcal (capr := []) rfl hvs .nil (by simpa using hv)
end
end Go.Proofs.Ytaahjfjpbilfnaa.V
/-! A region: its operations one behind the other. -/
namespace Go.Proofs.Ytaahjfjpbilfnaa.V
open Go
set_option linter.unusedVariables false
set_option linter.unusedSimpArgs false

/-- An operation of a region: its place and its guard are temporaries of the frame. -/
def compV (P : Program) (nt : Nat) (ops : Array Oper) (o : Oper) : Option VO :=
  if o.dst.all (· < nt) then (compO P o.op).bind fun vo => match o.guard with
    | none => some ⟨o.dst, none, vo⟩
    | some (j, b) => ((ops[j]?).bind (·.dst)).map fun t => ⟨o.dst, some (t, b), vo⟩
  else none
def compVs (P : Program) (nt : Nat) (ops : Array Oper) : List Oper → Option (List VO)
  | [] => some []
  | o :: r => (compV P nt ops o).bind fun v => (compVs P nt ops r).bind fun s => some (v :: s)

section
variable {P : Program}
theorem compV_some {nt : Nat} {ops : Array Oper} {o : Oper} {v : VO} (h : compV P nt ops o = some v) : (∀ t, o.dst = some t → t < nt) ∧ compO P o.op = some v.o ∧ v.d = o.dst ∧ ((o.guard = none ∧ v.g = none) ∨ ∃ j b t, o.guard = some (j, b) ∧ (ops[j]?).bind (·.dst) = some t ∧ v.g = some (t, b)) := by
  unfold compV at h
  split at h
  · rename_i hd
    simp only [Option.bind_eq_some_iff] at h
    obtain ⟨vo, hvo, h⟩ := h
    have hd' : ∀ t, o.dst = some t → t < nt := fun t ht => by simpa [ht] using hd
    cases hg : o.guard with
    | none => rw [hg] at h; simp only [Option.some.injEq] at h; subst h; exact ⟨hd', hvo, rfl, .inl ⟨rfl, rfl⟩⟩
    | some jb =>
      obtain ⟨j, b⟩ := jb
      rw [hg] at h
      obtain ⟨t, ht, rfl⟩ := Option.map_eq_some_iff.1 h
      exact ⟨hd', hvo, rfl, .inr ⟨j, b, t, rfl, ht, rfl⟩⟩
  · cases h
theorem R2.not_bool {μ : Mu} {v : Value} {b : Bool} (h : R2 μ v (.bool b)) : v = .bool b := by
  cases v
  case bool x => have := R2.boolv h; cases this; rfl
  case int k n => have := R2.int h; cases this
  case pointer a => cases a with
    | none => cases (show Value.bool b = .pointer none from h)
    | some a => obtain ⟨_, m, _, h⟩ := h; cases h
  case slice a n c => cases a with
    | none => obtain ⟨_, h⟩ := h; cases h
    | some a => obtain ⟨_, m, _, _, a', c', h, _⟩ := h; cases h
  case func f x y => obtain ⟨_, c, h, _⟩ := h; cases h
  case agg cs => obtain ⟨_, h, _⟩ := h; cases h
  case tuple cs => obtain ⟨_, h, _⟩ := h; cases h
  case string s => cases (show Value.bool b = .string s from h)
  all_goals exact (show False from h).elim
theorem wants_ok {μ : Mu} {ts : Ts} {a : Act} (ht : TR μ ts a) {nt : Nat} {ops : Array Oper} {o : Oper} {v : VO} (hc : compV P nt ops o = some v) {b : Bool} (hw : wants ts v.g = some b) : Region.wanted o (yielded ops a.tmps) = b := by
  obtain ⟨_, _, _, hg⟩ := compV_some hc
  rcases hg with ⟨h1, h2⟩ | ⟨j, b', t, h1, h2, h3⟩
  · rw [h2] at hw
    simp only [wants, Option.some.injEq] at hw
    subst hw
    simp [Region.wanted, h1]
  · rw [h3] at hw
    simp only [wants, Option.bind_eq_some_iff, Option.some.injEq] at hw
    obtain ⟨u, hu, hw⟩ := hw
    obtain ⟨r, hr, hR⟩ := ht t u hu
    simp only [Region.wanted, h1, yielded, h2, Option.bind_some, hr]
    by_cases hb : ∃ x, u = .bool x
    · obtain ⟨x, rfl⟩ := hb
      obtain rfl := R2.boolv hR
      rw [← hw]
      cases x <;> cases b' <;> rfl
    · have hnr : ∀ x, r ≠ .bool x := fun x e => hb ⟨x, (e ▸ hR).not_bool⟩
      have h5 : isB u b' = false := by
        cases u <;> first | rfl | exact absurd ⟨_, rfl⟩ hb
      rw [h5] at hw
      rw [← hw]
      cases r <;> first | rfl | exact absurd rfl (hnr _)

/-- What is known behind a piece of code. -/
def Fin (lo : Nat) (μ : Mu) (H : Hp) (w : World) (a : Act) (ts' : Ts) (H' : Hp) (a' : Act) (w' : World) : Prop :=
  ∃ μ', TR μ' ts' a' ∧ Sim μ' H' w' ∧ Stp lo μ H w μ' H' w' ∧ a'.tmps.size = a.tmps.size ∧ a'.defers = a.defers
theorem put_defers (a : Act) (d : Option Nat) (v : Value) : (a.put d v).defers = a.defers := by cases d <;> rfl

theorem vops_ok {call : Cal} (hcall : CalOK P call) {nt : Nat} {ops : Array Oper} {Q : Exit → Act → World → Prop} {lo : Nat} : ∀ (l : List Oper) (vl : List VO), compVs P nt ops l = some vl → ∀ {ts ts' : Ts} {H H' : Hp}, vops call lo vl ts H = some (ts', H') → lo ≤ H.length →
    ∀ {μ : Mu} {a : Act} {w : World}, TR μ ts a → Sim μ H w → a.tmps.size = nt → (∀ a' w', Fin lo μ H w a ts' H' a' w' → Q .normal a' w') → wpList P ops Q l a w
  | [], vl, hc, ts, ts', H, H', hv, hlo, μ, a, w, ht, hs, hn, hQ => by
    simp only [compVs, Option.some.injEq] at hc; subst hc
    simp only [vops, Option.some.injEq, Prod.mk.injEq] at hv
    obtain ⟨rfl, rfl⟩ := hv
    exact wpList_nil (hQ a w ⟨μ, ht, hs, Stp.refl _ _ _ _, rfl, rfl⟩)
  | o :: l, vl, hc, ts, ts', H, H', hv, hlo, μ, a, w, ht, hs, hn, hQ => by
    simp only [compVs, Option.bind_eq_some_iff, Option.some.injEq] at hc
    obtain ⟨vo, hvo, vl, hvl, rfl⟩ := hc
    obtain ⟨hd, hop, hdd, _⟩ := compV_some hvo
    simp only [vops, Option.bind_eq_some_iff] at hv
    obtain ⟨b, hb, hv⟩ := hv
    have hw := wants_ok ht hvo hb
    refine wpList_step fun K hK => ?_
    rw [hw]
    have hd' : ∀ t, o.dst = some t → t < a.tmps.size := fun t h => by rw [hn]; exact hd t h
    cases b
    · simp only [Bool.false_eq_true, if_false] at hv ⊢
      rw [hdd] at hv
      exact hK _ _ (vops_ok hcall l vl hvl hv hlo (ht.put R2.undef hd') hs (by rw [size_put]; exact hn) fun a' w' ⟨μ', h1, h2, h3, h4, h5⟩ => hQ a' w' ⟨μ', h1, h2, h3, by rw [h4, size_put], by rw [h5, put_defers]⟩)
    · simp only [if_true, Option.bind_eq_some_iff] at hv ⊢
      obtain ⟨⟨v, H1⟩, hv1, hv⟩ := hv
      simp only at hv
      rw [hdd] at hv
      refine op_ok hcall hop hv1 hlo ht hs fun r w1 μ1 hR hs1 hst => hK _ _ ?_
      exact vops_ok hcall l vl hvl hv (Nat.le_trans hlo hst.len) ((ht.ext hst.ext).put hR hd') hs1 (by rw [size_put]; exact hn) fun a' w' ⟨μ', h1, h2, h3, h4, h5⟩ => hQ a' w' ⟨μ', h1, h2, hst.trans h3, by rw [h4, size_put], by rw [h5, put_defers]⟩
end
end Go.Proofs.Ytaahjfjpbilfnaa.V
/-! A region that draws its order: in whatever order its operations come, the program comes to what the machine computes in the order of the text. -/
namespace Go.Proofs.Ytaahjfjpbilfnaa.V
open Go
set_option linter.unusedVariables false
set_option linter.unusedSimpArgs false

theorem evs_congr {ts ts' : Ts} : ∀ {l : List Arg}, (∀ x ∈ l, ev ts x = ev ts' x) → evs ts l = evs ts' l
  | [], _ => rfl
  | x :: l, h => by simp only [evs]; rw [h x (by simp), evs_congr (fun y hy => h y (by simp [hy]))]
theorem vfill_congr {ts ts' : Ts} : ∀ {ps : List (Nat × Nat × Arg)} {cs : List Value}, (∀ x ∈ ps.map (·.2.2), ev ts x = ev ts' x) → vfill cs ts ps = vfill cs ts' ps
  | [], _, _ => rfl
  | (o, n, x) :: ps, cs, h => by
    simp only [vfill]
    rw [h x (by simp)]
    congr 1; funext v
    split
    · exact vfill_congr (fun y hy => h y (by simp only [List.map_cons, List.mem_cons]; exact .inr hy))
    · rfl
theorem vop_congr {call : Cal} {lo : Nat} {ts ts' : Ts} {H : Hp} {op : VOp} (h : ∀ x ∈ op.args, ev ts x = ev ts' x) : vop call lo ts H op = vop call lo ts' H op := by
  cases op <;> simp only [VOp.args] at h <;> simp only [vop]
  case build z ps => rw [vfill_congr h]
  case bslice st z n ps => rw [vfill_congr h]
  case mkfn f cap => rw [evs_congr h]
  case call f args => rw [evs_congr h]
  case callv x args => rw [h x (by simp), evs_congr (fun y hy => h y (by simp [hy]))]
  case pick c a b =>
    rw [h c (by simp)]
    congr 1; funext v
    cases v <;> try rfl
    rename_i t
    cases t
    · simp only [Bool.false_eq_true, if_false]; rw [h b (by simp)]
    · simp only [if_true]; rw [h a (by simp)]
  case slice st x lo' hi mx =>
    rw [h x (by simp)]
    congr 1; funext v
    cases lo' <;> cases hi <;> cases mx <;> simp only [optA, List.nil_append, List.append_nil, List.singleton_append, List.mem_cons, List.not_mem_nil, or_false, forall_eq_or_imp, forall_eq, List.cons_append] at h <;> simp only [h]
  all_goals (try simp only [List.mem_cons, List.not_mem_nil, or_false, forall_eq_or_imp, forall_eq] at h)
  all_goals (try simp only [h])

theorem keep_blk {H G : Hp} (h : ∀ i, i < H.length → G[i]? = H[i]?) {i : Nat} {b : Blk} (hb : H.blk i = some b) : G.blk i = some b := by
  have hl : i < H.length := by
    unfold Hp.blk at hb
    rcases Nat.lt_or_ge i H.length with h' | h'
    · exact h'
    · rw [List.getElem?_eq_none h'] at hb; cases hb
  unfold Hp.blk at hb ⊢
  rw [h i hl]; exact hb
theorem rd_keep {H G : Hp} (h : ∀ i b, H.blk i = some b → G.blk i = some b) {a : Addr} {v : Value} (hr : rd H a = some v) : rd G a = some v := by
  unfold rd at hr ⊢
  cases hb : H.blk a.block with
  | none => rw [hb] at hr; cases hr
  | some b => rw [h _ b hb]; rw [hb] at hr; exact hr
theorem rdN_keep {H G : Hp} (h : ∀ i b, H.blk i = some b → G.blk i = some b) {a : Addr} {n : Nat} {v : List Value} (hr : rdN H a n = some v) : rdN G a n = some v := by
  unfold rdN at hr ⊢
  cases hb : H.blk a.block with
  | none => rw [hb] at hr; cases hr
  | some b => rw [h _ b hb]; rw [hb] at hr; exact hr
theorem vop_still {call : Cal} {lo lo' : Nat} {ts : Ts} {H H1 G : Hp} {op : VOp} {v : Value} (hst : op.still = true) (hv : vop call lo ts H op = some (v, H1)) (h : ∀ i b, H.blk i = some b → G.blk i = some b) : vop call lo' ts G op = some (v, G) := by
  cases op <;> simp only [VOp.still, Bool.false_eq_true] at hst <;> simp only [vop] at hv ⊢
  case load g n x =>
    simp only [Option.bind_eq_some_iff] at hv ⊢
    obtain ⟨p, hp, hv⟩ := hv
    refine ⟨p, hp, ?_⟩
    cases p <;> try (cases hv; done)
    rename_i a
    cases a <;> try (cases hv; done)
    simp only at hv ⊢
    split at hv
    · simp only [Option.bind_eq_some_iff, Option.some.injEq, Prod.mk.injEq] at hv
      obtain ⟨cs, hcs, rfl, rfl⟩ := hv
      rw [if_pos ‹_›, rdN_keep h hcs]; rfl
    · simp only [Option.bind_eq_some_iff, Option.some.injEq, Prod.mk.injEq] at hv
      obtain ⟨cs, hcs, rfl, rfl⟩ := hv
      rw [if_neg ‹_›, rd_keep h hcs]; rfl
  case pick c a b =>
    simp only [Option.bind_eq_some_iff] at hv ⊢
    obtain ⟨p, hp, hv⟩ := hv
    refine ⟨p, hp, ?_⟩
    cases p <;> try (cases hv; done)
    simp only [Option.bind_eq_some_iff, Option.some.injEq, Prod.mk.injEq] at hv ⊢
    obtain ⟨u, hu, rfl, rfl⟩ := hv
    exact ⟨u, hu, rfl, trivial⟩
  case slice st x l h' m =>
    cases m with
    | some m => simp only [VOp.still, Bool.false_eq_true] at hst
    | none =>
      simp only [Option.bind_eq_some_iff] at hv ⊢
      obtain ⟨p, hp, hv⟩ := hv
      refine ⟨p, hp, ?_⟩
      cases l <;> cases h' <;> simp only [Option.bind_eq_some_iff, Option.some.injEq, Prod.mk.injEq] at hv ⊢
      · obtain ⟨u, hu, rfl, _⟩ := hv; exact ⟨u, hu, rfl, trivial⟩
      · obtain ⟨a, ha, u, hu, rfl, _⟩ := hv; exact ⟨a, ha, u, hu, rfl, trivial⟩
      · obtain ⟨a, ha, u, hu, rfl, _⟩ := hv; exact ⟨a, ha, u, hu, rfl, trivial⟩
      · obtain ⟨a, ha, b, hb, u, hu, rfl, _⟩ := hv; exact ⟨a, ha, b, hb, u, hu, rfl, trivial⟩
  case aeq n m x y =>
    simp only [Option.bind_eq_some_iff] at hv ⊢
    obtain ⟨p, hp, q, hq, hv⟩ := hv
    refine ⟨p, hp, q, hq, ?_⟩
    cases p <;> try (cases hv; done)
    cases q <;> try (cases hv; done)
    simp only at hv ⊢
    split at hv
    · rw [if_pos ‹_›]
      simp only [Option.bind_eq_some_iff, Option.some.injEq, Prod.mk.injEq] at hv ⊢
      obtain ⟨u, hu, rfl, rfl⟩ := hv
      exact ⟨u, hu, rfl, trivial⟩
    · cases hv
  case field g o n x =>
    simp only [Option.bind_eq_some_iff] at hv ⊢
    obtain ⟨p, hp, hv⟩ := hv
    refine ⟨p, hp, ?_⟩
    cases p <;> try (cases hv; done)
    simp only at hv ⊢
    split at hv
    · rw [if_pos ‹_›]
      split at hv
      · rw [if_pos ‹_›]; cases hv; rfl
      · cases hv
    · rw [if_neg ‹_›]
      simp only [Option.bind_eq_some_iff, Option.some.injEq, Prod.mk.injEq] at hv ⊢
      obtain ⟨u, hu, rfl, rfl⟩ := hv
      exact ⟨u, hu, rfl, trivial⟩
  case ext i x =>
    simp only [Option.bind_eq_some_iff] at hv ⊢
    obtain ⟨p, hp, hv⟩ := hv
    refine ⟨p, hp, ?_⟩
    cases p <;> try (cases hv; done)
    simp only [Option.bind_eq_some_iff, Option.some.injEq, Prod.mk.injEq] at hv ⊢
    obtain ⟨u, hu, rfl, rfl⟩ := hv
    exact ⟨u, hu, rfl, trivial⟩
  case mx x y =>
    simp only [Option.bind_eq_some_iff] at hv ⊢
    obtain ⟨p, hp, q, hq, hv⟩ := hv
    refine ⟨p, hp, q, hq, ?_⟩
    cases p <;> try (cases hv; done)
    cases q <;> try (cases hv; done)
    simp only at hv ⊢
    split at hv
    · rw [if_pos ‹_›]; cases hv; rfl
    · cases hv
  case mn x y =>
    simp only [Option.bind_eq_some_iff] at hv ⊢
    obtain ⟨p, hp, q, hq, hv⟩ := hv
    refine ⟨p, hp, q, hq, ?_⟩
    cases p <;> try (cases hv; done)
    cases q <;> try (cases hv; done)
    simp only at hv ⊢
    split at hv
    · rw [if_pos ‹_›]; cases hv; rfl
    · cases hv
  all_goals
    simp only [Option.bind_eq_some_iff] at hv ⊢
    first
    | (obtain ⟨x, hx, hv⟩ := hv; refine ⟨x, hx, ?_⟩; (repeat' split at hv) <;> simp_all; done)
    | (obtain ⟨x, hx, y, hy, hv⟩ := hv; refine ⟨x, hx, y, hy, ?_⟩; (repeat' split at hv) <;> simp_all; done)
    | (obtain ⟨x, hx, y, hy, z, hz, hv⟩ := hv; refine ⟨x, hx, y, hy, z, hz, ?_⟩; (repeat' split at hv) <;> simp_all; done)
    | skip
end Go.Proofs.Ytaahjfjpbilfnaa.V
