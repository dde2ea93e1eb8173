/- Equations by which the machine is reckoned, one for each kind of operation; what comes behind is kept under a name till the first part is reckoned. -/
import Derived.Test.YtflddpkmajoeaaaVMF
namespace Go.Proofs.Ytflddpkmajoeaaa.V
open Go
set_option linter.unusedVariables false
set_option linter.unusedSimpArgs false

def kO (call : Cal) (lo : Nat) (l : List VO) (ts : Ts) (d : Option Nat) (x : Value × Hp) : Option (Ts × Hp) := vops call lo l (put ts d x.1) x.2
def kG (call : Cal) (lo : Nat) (l : List VO) (ts : Ts) (H : Hp) (d : Option Nat) (b : Bool) (o : VOp) (v : Value) : Option (Ts × Hp) := if isB v b = true then vops call lo (⟨d, none, o⟩ :: l) ts H else vops call lo l (put ts d (.tuple #[])) H
def fO (call : Cal) (H0 : Hp) (l : List VO) (ts : Ts) (H : Hp) (d : Option Nat) (x : Value × Hp) : Option (Ts × Hp) := vfree call H0 l (put ts d x.1) H
def fA (call : Cal) (H0 : Hp) (l : List VO) (ts : Ts) (d : Option Nat) (x : Value × Hp) : Option (Ts × Hp) := vfree call H0 l (put ts d x.1) x.2
def fG (call : Cal) (H0 : Hp) (l : List VO) (ts : Ts) (H : Hp) (d : Option Nat) (b : Bool) (o : VOp) (v : Value) : Option (Ts × Hp) := if isB v b = true then vfree call H0 (⟨d, none, o⟩ :: l) ts H else vfree call H0 l (put ts d (.tuple #[])) H
def kN (x : Ts × Hp) : Option (VE × Ts × Hp) := some (.normal, x.1, x.2)
noncomputable def kS (call : Cal) (lo : Nat) (c : VC) (x : VE × Ts × Hp) : Option (VE × Ts × Hp) := match x with
  | (.normal, ts, H) => vc call lo c ts H
  | x => some x
def kD (call : Cal) (lo : Nat) (l : List VO) (x : Ts × Hp) : Option (Ts × Hp) := vops call lo l x.1 x.2
noncomputable def kC (call : Cal) (lo : Nat) (a b : VC) (ts : Ts) (H : Hp) (v : Value) : Option (VE × Ts × Hp) := match v with
  | .bool t => if t = true then vc call lo a ts H else vc call lo b ts H
  | _ => none
def kB (id : Nat) (x : VE × Ts × Hp) : Option (VE × Ts × Hp) := some (if x.1 = .exit id then .normal else x.1, x.2.1, x.2.2)
def kL (keep kx : List Nat) (x : VE × Ts × Hp) : Option (VE × Ts × Hp) := some (x.1, keepTs x.2.1 (if x.1 = .normal then keep else kx), x.2.2)
/-- One round of a loop. -/
noncomputable def rnd (call : Cal) (lo : Nat) (keep kx : List Nat) (c : VC) (ts : Ts) (H : Hp) : Option (VE × Ts × Hp) := (vc call lo c ts H).bind (kL keep kx)
def kF (f : VF) (H0 : Hp) (x : VE × Ts × Hp) : Option (Value × Hp) := match x with
  | (.exit _, _, _) => none
  | (_, ts, H) => (vress ts H f.res).bind fun vs => some (tup vs, if f.pu && noRef (tup vs) then H0 else H)
def kT (k : Nat) (v : Option Value) (r : Ts) : Ts := match v with
  | some v => (k, v) :: r
  | none => r
section
variable {call : Cal} {lo : Nat} {ts : Ts} {H H0 : Hp} {l : List VO} {d : Option Nat}
theorem xs (o : VOp) : vops call lo (⟨d, none, o⟩ :: l) ts H = (vop call lo ts H o).bind (kO call lo l ts d) := rfl
theorem xg (t : Nat) (b : Bool) (o : VOp) : vops call lo (⟨d, some (t, b), o⟩ :: l) ts H = (lk ts t).bind (kG call lo l ts H d b o) := by
  simp only [vops, wants, Option.bind_assoc, Option.bind_some]
  cases lk ts t with
  | none => rfl
  | some v => simp only [Option.bind_some, kG]; cases isB v b <;> rfl
theorem xn : vops call lo [] ts H = some (ts, H) := rfl
theorem yn : vfree call H0 [] ts H = some (ts, H) := rfl
theorem yx (o : VOp) : vfree call H0 (⟨d, none, o⟩ :: l) ts H = if o.still = true then (vop call 0 ts H0 o).bind (fO call H0 l ts H d) else (vop call H.length ts H o).bind (fA call H0 l ts d) := by
  simp only [vfree, wants, Option.bind_some, if_true]; rfl
theorem yg (t : Nat) (b : Bool) (o : VOp) : vfree call H0 (⟨d, some (t, b), o⟩ :: l) ts H = (lk ts t).bind (fG call H0 l ts H d b o) := by
  simp only [vfree, wants, Option.bind_assoc, Option.bind_some]
  cases lk ts t with
  | none => rfl
  | some v => simp only [Option.bind_some, fG]; cases isB v b <;> rfl
theorem kO_ (v : Value) (H : Hp) : kO call lo l ts d (v, H) = vops call lo l (put ts d v) H := rfl
theorem fO_ (v : Value) (H1 : Hp) : fO call H0 l ts H d (v, H1) = vfree call H0 l (put ts d v) H := rfl
theorem fA_ (v : Value) (H1 : Hp) : fA call H0 l ts d (v, H1) = vfree call H0 l (put ts d v) H1 := rfl
theorem kG1 (x : Bool) (b : Bool) (o : VOp) : kG call lo l ts H d b o (.bool x) = if x = b then vops call lo (⟨d, none, o⟩ :: l) ts H else vops call lo l (put ts d (.tuple #[])) H := by
  cases x <;> cases b <;> rfl
theorem kG2 (x : Array Value) (b : Bool) (o : VOp) : kG call lo l ts H d b o (.tuple x) = vops call lo l (put ts d (.tuple #[])) H := rfl
theorem fG1 (x : Bool) (b : Bool) (o : VOp) : fG call H0 l ts H d b o (.bool x) = if x = b then vfree call H0 (⟨d, none, o⟩ :: l) ts H else vfree call H0 l (put ts d (.tuple #[])) H := by
  cases x <;> cases b <;> rfl
theorem fG2 (x : Array Value) (b : Bool) (o : VOp) : fG call H0 l ts H d b o (.tuple x) = vfree call H0 l (put ts d (.tuple #[])) H := rfl
theorem kN_ (ts : Ts) (H : Hp) : kN (ts, H) = some (.normal, ts, H) := rfl
theorem kS0 (c : VC) : kS call lo c (.normal, ts, H) = vc call lo c ts H := rfl
theorem kS1 (c : VC) : kS call lo c (.ret, ts, H) = some (.ret, ts, H) := rfl
theorem kS2 (c : VC) (i : Nat) : kS call lo c (.exit i, ts, H) = some (.exit i, ts, H) := rfl
theorem kD_ (ts : Ts) (H : Hp) : kD call lo l (ts, H) = vops call lo l ts H := rfl
theorem kC_ (a b : VC) (t : Bool) : kC call lo a b ts H (.bool t) = if t = true then vc call lo a ts H else vc call lo b ts H := rfl
theorem kB0 (id : Nat) : kB id (.normal, ts, H) = some (.normal, ts, H) := rfl
theorem kB1 (id : Nat) : kB id (.ret, ts, H) = some (.ret, ts, H) := rfl
theorem kB2 (id i : Nat) : kB id (.exit i, ts, H) = some (if i = id then .normal else .exit i, ts, H) := by simp [kB]
theorem kL0 (keep kx : List Nat) : kL keep kx (.normal, ts, H) = some (.normal, keepTs ts keep, H) := rfl
theorem kL1 (keep kx : List Nat) : kL keep kx (.ret, ts, H) = some (.ret, keepTs ts kx, H) := rfl
theorem kL2 (keep kx : List Nat) (i : Nat) : kL keep kx (.exit i, ts, H) = some (.exit i, keepTs ts kx, H) := rfl
theorem kF0 (f : VF) : kF f H0 (.normal, ts, H) = (vress ts H f.res).bind fun vs => some (tup vs, if f.pu && noRef (tup vs) then H0 else H) := rfl
theorem kF1 (f : VF) : kF f H0 (.ret, ts, H) = (vress ts H f.res).bind fun vs => some (tup vs, if f.pu && noRef (tup vs) then H0 else H) := rfl
theorem pt (k : Nat) (v : Value) : put ts (some k) v = (k, v) :: ts := rfl
theorem pn (v : Value) : put ts none v = ts := rfl
theorem et (n : Nat) : ev ts (.t n) = lk ts n := rfl
theorem ec (v : Value) : ev ts (.c v) = some v := rfl
theorem lkc (k t : Nat) (v : Value) : lk ((k, v) :: ts) t = if k = t then some v else lk ts t := rfl
theorem lkn (t : Nat) : lk [] t = none := rfl
theorem vsk : vc call lo .skip ts H = some (.normal, ts, H) := rfl
theorem vrt : vc call lo .ret ts H = some (.ret, ts, H) := rfl
theorem vex (i : Nat) : vc call lo (.exit i) ts H = some (.exit i, ts, H) := rfl
theorem vos : vc call lo (.ops l) ts H = (vops call lo l ts H).bind kN := rfl
theorem vdr (r : List VO) : vc call lo (.draw l r) ts H = ((vfree call H l ts H).bind (kD call lo r)).bind kN := by
  simp only [vc, Option.bind_assoc]; rfl
theorem vsq (a b : VC) : vc call lo (.seq a b) ts H = (vc call lo a ts H).bind (kS call lo b) := by
  simp only [vc]; congr 1; funext ⟨e, ts, H⟩; cases e <;> rfl
theorem vcd (c : Arg) (a b : VC) : vc call lo (.cond c a b) ts H = (ev ts c).bind (kC call lo a b ts H) := by
  simp only [vc]; congr 1
theorem vbl (i : Nat) (c : VC) : vc call lo (.block i c) ts H = (vc call lo c ts H).bind (kB i) := rfl
theorem vlp (keep kx : List Nat) (c : VC) : vc call lo (.loop keep kx c) ts H = lim (rnd call lo keep kx c) (keepTs ts keep) H := rfl
theorem kt0 : keepTs ts [] = [] := rfl
theorem kt1 (k : Nat) (r : List Nat) : keepTs ts (k :: r) = kT k (lk ts k) (keepTs ts r) := by simp only [keepTs, kT]; cases lk ts k <;> rfl
theorem kT0 (k : Nat) (r : Ts) : kT k none r = r := rfl
theorem kT1 (k : Nat) (v : Value) (r : Ts) : kT k (some v) r = (k, v) :: r := rfl
theorem vfn (f : VF) (args : List Value) (h : args.length = f.np) : vfun call f args lo H = (vc call (if f.pu then H.length else lo) f.body (start 0 args) H).bind (kF f H) := by
  simp only [vfun, if_pos h]; congr 1; funext ⟨e, ts, H⟩; cases e <;> rfl
theorem bite {α β : Type} (c : Prop) [Decidable c] (x y : Option α) (f : α → Option β) : (if c then x else y).bind f = if c then x.bind f else y.bind f := by split <;> rfl
end

/-! ### Loops -/
theorem iter_mono {f : Ts → Hp → Option (VE × Ts × Hp)} {r : VE × Ts × Hp} : ∀ {n m : Nat}, n ≤ m → ∀ {ts : Ts} {H : Hp}, iter f n ts H = some r → iter f m ts H = some r
  | 0, m, _, ts, H, h => by simp [iter] at h
  | n + 1, m + 1, hnm, ts, H, h => by
    simp only [iter, Option.bind_eq_some_iff] at h ⊢
    obtain ⟨⟨e, ts', H'⟩, h1, h2⟩ := h
    refine ⟨_, h1, ?_⟩
    cases e with
    | normal => exact iter_mono (by omega) h2
    | exit i => exact h2
    | ret => exact h2
theorem lim_of {f : Ts → Hp → Option (VE × Ts × Hp)} {n : Nat} {ts : Ts} {H : Hp} {r : VE × Ts × Hp} (h : iter f n ts H = some r) : lim f ts H = some r := by
  unfold lim
  have hex : ∃ n, (iter f n ts H).isSome = true := ⟨n, by rw [h]; rfl⟩
  rw [dif_pos hex]
  obtain ⟨r', hr'⟩ := Option.isSome_iff_exists.1 hex.choose_spec
  rw [hr']
  have h1 := iter_mono (Nat.le_max_left hex.choose n) hr'
  have h2 := iter_mono (Nat.le_max_right hex.choose n) h
  rw [h1] at h2
  exact h2
/-- A round that ends the loop. -/
theorem lim_end {f : Ts → Hp → Option (VE × Ts × Hp)} {ts ts' : Ts} {H H' : Hp} {e : VE} (h : f ts H = some (e, ts', H')) (he : e ≠ .normal) : lim f ts H = some (e, ts', H') :=
  lim_of (n := 1) (by
    cases e with
    | normal => exact absurd rfl he
    | exit i => simp only [iter, h, Option.bind_some]
    | ret => simp only [iter, h, Option.bind_some])
/-- A round, and what comes of the rest. -/
theorem lim_step {f : Ts → Hp → Option (VE × Ts × Hp)} {ts ts' : Ts} {H H' : Hp} {r : VE × Ts × Hp} (h : f ts H = some (.normal, ts', H')) (hr : lim f ts' H' = some r) : lim f ts H = some r := by
  obtain ⟨n, hn⟩ := lim_some hr
  exact lim_of (n := n + 1) (by simp only [iter, h, Option.bind_some]; exact hn)
end Go.Proofs.Ytflddpkmajoeaaa.V
