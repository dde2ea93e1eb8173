/- A region that draws its order: the law. -/
import Derived.Test.YtohanpndekfbgaaDoorVMK
namespace Go.Proofs.YtohanpndekfbgaaDoor.V
open Go
set_option linter.unusedVariables false
set_option linter.unusedSimpArgs false

/-- Does j come before i, whatever the order? -/
def rch (ops : Array Oper) : Nat → Nat → Nat → Bool
  | 0, _, _ => false
  | f + 1, i, j => match ops[i]? with
    | some o => o.after.any fun e => Region.binds .any e && (decide (j ≤ e.on) && (e.on == j || rch ops f e.on j))
    | none => false
def conf (v u : VO) : Bool :=
  (match u.d with | some d => v.looks.contains d || v.d == some d | none => false) || (match v.d with | some d => u.looks.contains d | none => false) || (!v.o.still && !u.o.still)
def drawOK (ops : Array Oper) (vl : List VO) (n0 : Nat) : Bool :=
  (List.range ops.size).all fun i => match ops[i]?, vl[i]? with
    | some o, some v => o.after.all (fun e => !Region.binds .any e || decide (e.on < i)) && (List.range i).all fun j => match vl[j]? with
      | some u => (!(decide (n0 ≤ i) || conf v u) || rch ops 24 i j) && (decide (n0 ≤ i) || !(v.o.app && allP ((vl.take n0).drop (i + 1))) || u.o.plain || rch ops 24 i j)
      | none => false
    | _, _ => false

def cntF : List Bool → Nat
  | [] => 0
  | true :: r => cntF r
  | false :: r => cntF r + 1
theorem cntF_set : ∀ (l : List Bool) (i : Nat), l[i]? = some false → cntF (l.set i true) + 1 = cntF l
  | [], i, h => by simp at h
  | b :: r, 0, h => by simp at h; subst h; rfl
  | b :: r, i + 1, h => by
    have := cntF_set r i (by simpa using h)
    cases b <;> simp only [List.set_cons_succ, cntF] <;> omega
theorem cntF_zero : ∀ (l : List Bool) (i : Nat), cntF l = 0 → l[i]? ≠ some false
  | [], i, _ => by simp
  | b :: r, 0, h => by cases b <;> simp [cntF] at h ⊢
  | b :: r, i + 1, h => by
    have := cntF_zero r i (by cases b <;> simp [cntF] at h ⊢; exact h)
    simpa using this

/-- The temporaries when the operations of S have come. -/
def tsS (S : Nat → Bool) (vals : Nat → Value) : List VO → Nat → Ts → Ts
  | [], _, ts => ts
  | o :: r, k, ts => tsS S vals r (k + 1) (if S k then put ts o.d (vals k) else ts)
theorem lk_put {ts : Ts} {d : Option Nat} {v : Value} {t : Nat} : lk (put ts d v) t = if d = some t then some v else lk ts t := by
  cases d with
  | none => simp [put]
  | some d => simp only [put, lk]; by_cases h : d = t <;> simp [h]
theorem tsS_congr {S S' : Nat → Bool} {vals : Nat → Value} {t : Nat} : ∀ (l : List VO) (k : Nat) {ts ts' : Ts}, (∀ j o, l[j]? = some o → o.d = some t → S (k + j) = S' (k + j)) → lk ts t = lk ts' t → lk (tsS S vals l k ts) t = lk (tsS S' vals l k ts') t
  | [], _, _, _, _, h => h
  | o :: r, k, ts, ts', h, hl => by
    refine tsS_congr r (k + 1) (fun j u hj hd => by have := h (j + 1) u (by simpa using hj) hd; rwa [Nat.add_assoc, Nat.add_comm 1 j]) ?_
    by_cases hd : o.d = some t
    · have := h 0 o rfl hd
      rw [Nat.add_zero] at this
      rw [this]
      cases S' k <;> simp [lk_put, hl]
    · cases S k <;> cases S' k <;> simp [lk_put, hd, hl]
theorem tsS_at {S : Nat → Bool} {vals : Nat → Value} {t : Nat} : ∀ (l : List VO) (k i : Nat) {ts : Ts} {o : VO}, l[i]? = some o → o.d = some t → S (k + i) = true → (∀ j u, i < j → l[j]? = some u → u.d = some t → S (k + j) = false) → lk (tsS S vals l k ts) t = some (vals (k + i))
  | [], _, _, _, _, h, _, _, _ => by simp at h
  | o :: r, k, 0, ts, u, h, hd, hS, hn => by
    simp only [List.getElem?_cons_zero, Option.some.injEq] at h; subst h
    simp only [Nat.add_zero] at hS ⊢
    simp only [tsS, hS, if_true]
    have := tsS_congr (S := S) (S' := fun _ => false) (vals := vals) (t := t) r (k + 1) (ts := put ts o.d (vals k)) (ts' := put ts o.d (vals k)) (fun j u hj hd => by
      have := hn (j + 1) u (by omega) (by simpa using hj) hd
      rwa [Nat.add_assoc, Nat.add_comm 1 j]) rfl
    rw [this]
    have nil : ∀ (l : List VO) (k : Nat) (ts : Ts), tsS (fun _ => false) vals l k ts = ts := by
      intro l
      induction l with
      | nil => intro k ts; rfl
      | cons x l ih => intro k ts; simp [tsS, ih]
    rw [nil, lk_put, if_pos hd]
  | o :: r, k, i + 1, ts, u, h, hd, hS, hn => by
    have := tsS_at (vals := vals) r (k + 1) i (ts := if S k then put ts o.d (vals k) else ts) (by simpa using h) hd (by rw [Nat.add_assoc, Nat.add_comm 1 i]; exact hS) (fun j x hj hx hxd => by
      have := hn (j + 1) x (by omega) (by simpa using hx) hxd
      rwa [Nat.add_assoc, Nat.add_comm 1 j])
    simp only [tsS]
    rw [this, Nat.add_assoc, Nat.add_comm 1 i]

def StepAt (call : Cal) (lo : Nat) (H0 : Hp) (o : VO) (rs : List VO) (ts : Ts) (v : Value) (h h' : Hp) : Prop :=
  ∃ b, wants ts o.g = some b ∧ if b = true then (if o.o.still = true then (∃ H1, vop call 0 ts H0 o.o = some (v, H1)) ∧ h' = h else vop call (lof lo o rs h) ts h o.o = some (v, h')) else v = .tuple #[] ∧ h' = h
theorem tsS_shift {S : Nat → Bool} {vals : Nat → Value} : ∀ (l : List VO) (k : Nat) (ts : Ts), tsS S vals l (k + 1) ts = tsS (fun j => S (j + 1)) (fun j => vals (j + 1)) l k ts
  | [], _, _ => rfl
  | o :: r, k, ts => by simp only [tsS]; exact tsS_shift r (k + 1) _
/-- What a run of the free part has gone through. -/
theorem trace {call : Cal} {lo : Nat} {H0 : Hp} : ∀ (l : List VO) {ts ts' : Ts} {H H' : Hp}, vfree call lo H0 l ts H = some (ts', H') → ∃ (vals : Nat → Value) (hs : Nat → Hp), hs 0 = H ∧ hs l.length = H' ∧ ts' = tsS (fun _ => true) vals l 0 ts ∧
    ∀ (i : Nat) o, l[i]? = some o → StepAt call lo H0 o (l.drop (i + 1)) (tsS (fun j => decide (j < i)) vals l 0 ts) (vals i) (hs i) (hs (i + 1))
  | [], ts, ts', H, H', h => by
    simp only [vfree, Option.some.injEq, Prod.mk.injEq] at h
    obtain ⟨rfl, rfl⟩ := h
    exact ⟨fun _ => .tuple #[], fun _ => H, rfl, rfl, rfl, fun i o h => by simp at h⟩
  | o :: r, ts, ts', H, H', h => by
    simp only [vfree, Option.bind_eq_some_iff] at h
    obtain ⟨b, hb, h⟩ := h
    have fin : ∀ (v : Value) (H1 : Hp), StepAt call lo H0 o r ts v H H1 → vfree call lo H0 r (put ts o.d v) H1 = some (ts', H') → ∃ (vals : Nat → Value) (hs : Nat → Hp), hs 0 = H ∧ hs (o :: r).length = H' ∧ ts' = tsS (fun _ => true) vals (o :: r) 0 ts ∧
        ∀ (i : Nat) u, (o :: r)[i]? = some u → StepAt call lo H0 u ((o :: r).drop (i + 1)) (tsS (fun j => decide (j < i)) vals (o :: r) 0 ts) (vals i) (hs i) (hs (i + 1)) := by
      intro v H1 hst hr
      obtain ⟨vals, hs, h0, hl, ht, hstep⟩ := trace r hr
      refine ⟨fun i => match i with | 0 => v | i + 1 => vals i, fun i => match i with | 0 => H | i + 1 => hs i, rfl, hl, ?_, ?_⟩
      · simp only [tsS, if_true]
        rw [tsS_shift]
        exact ht
      · intro i u hu
        cases i with
        | zero =>
          simp only [List.getElem?_cons_zero, Option.some.injEq] at hu; subst hu
          simp only [tsS, Nat.lt_irrefl, decide_false, Bool.false_eq_true, if_false]
          have : ∀ (l : List VO) (k : Nat) (ts : Ts) (vals : Nat → Value), tsS (fun j => decide (j < 0)) vals l k ts = ts := by
            intro l
            induction l with
            | nil => intro k ts vals; rfl
            | cons x l ih => intro k ts vals; simp [tsS] at ih ⊢; exact ih _ _ _
          rw [this, h0]
          exact hst
        | succ i =>
          have := hstep i u (by simpa using hu)
          simp only [tsS, Nat.zero_lt_succ, decide_true, if_true]
          rw [tsS_shift]
          simpa using this
    cases b with
    | false =>
      simp only [Bool.false_eq_true, if_false] at h
      exact fin _ H ⟨false, hb, by simp⟩ h
    | true =>
      simp only [if_true] at h
      by_cases hs : o.o.still = true
      · rw [if_pos hs] at h
        simp only [Option.bind_eq_some_iff] at h
        obtain ⟨⟨v, H1⟩, hv, h⟩ := h
        exact fin v H ⟨true, hb, by rw [if_pos rfl, if_pos hs]; exact ⟨⟨H1, hv⟩, rfl⟩⟩ h
      · rw [if_neg hs] at h
        simp only [Option.bind_eq_some_iff] at h
        obtain ⟨⟨v, H1⟩, hv, h⟩ := h
        exact fin v H1 ⟨true, hb, by rw [if_pos rfl, if_neg hs]; exact hv⟩ h
def StepAtD (call : Cal) (lo : Nat) (q : List Nat) (H0 : Hp) (o : VO) (ts : Ts) (v : Value) (h h' : Hp) : Prop :=
  ∃ b, wants ts o.g = some b ∧ if b = true then (if o.o.still = true then (∃ H1, vop call 0 ts (kill q H0) o.o = some (v, H1)) ∧ h' = h else vop call lo ts h o.o = some (v, h') ∧ Same q H0 h') else v = .tuple #[] ∧ h' = h
/-- The same, where a block is written. -/
theorem traceD {call : Cal} {lo : Nat} {q : List Nat} {H0 : Hp} : ∀ (l : List VO) {ts ts' : Ts} {H H' : Hp}, vfreeD call lo q H0 l ts H = some (ts', H') → ∃ (vals : Nat → Value) (hs : Nat → Hp), hs 0 = H ∧ hs l.length = H' ∧ ts' = tsS (fun _ => true) vals l 0 ts ∧
    ∀ (i : Nat) o, l[i]? = some o → StepAtD call lo q H0 o (tsS (fun j => decide (j < i)) vals l 0 ts) (vals i) (hs i) (hs (i + 1))
  | [], ts, ts', H, H', h => by
    simp only [vfreeD, Option.some.injEq, Prod.mk.injEq] at h
    obtain ⟨rfl, rfl⟩ := h
    exact ⟨fun _ => .tuple #[], fun _ => H, rfl, rfl, rfl, fun i o h => by simp at h⟩
  | o :: r, ts, ts', H, H', h => by
    simp only [vfreeD, Option.bind_eq_some_iff] at h
    obtain ⟨b, hb, h⟩ := h
    have fin : ∀ (v : Value) (H1 : Hp), StepAtD call lo q H0 o ts v H H1 → vfreeD call lo q H0 r (put ts o.d v) H1 = some (ts', H') → ∃ (vals : Nat → Value) (hs : Nat → Hp), hs 0 = H ∧ hs (o :: r).length = H' ∧ ts' = tsS (fun _ => true) vals (o :: r) 0 ts ∧
        ∀ (i : Nat) u, (o :: r)[i]? = some u → StepAtD call lo q H0 u (tsS (fun j => decide (j < i)) vals (o :: r) 0 ts) (vals i) (hs i) (hs (i + 1)) := by
      intro v H1 hst hr
      obtain ⟨vals, hs, h0, hl, ht, hstep⟩ := traceD r hr
      refine ⟨fun i => match i with | 0 => v | i + 1 => vals i, fun i => match i with | 0 => H | i + 1 => hs i, rfl, hl, ?_, ?_⟩
      · simp only [tsS, if_true]
        rw [tsS_shift]
        exact ht
      · intro i u hu
        cases i with
        | zero =>
          simp only [List.getElem?_cons_zero, Option.some.injEq] at hu; subst hu
          simp only [tsS, Nat.lt_irrefl, decide_false, Bool.false_eq_true, if_false]
          have : ∀ (l : List VO) (k : Nat) (ts : Ts) (vals : Nat → Value), tsS (fun j => decide (j < 0)) vals l k ts = ts := by
            intro l
            induction l with
            | nil => intro k ts vals; rfl
            | cons x l ih => intro k ts vals; simp [tsS] at ih ⊢; exact ih _ _ _
          rw [this, h0]
          exact hst
        | succ i =>
          have := hstep i u (by simpa using hu)
          simp only [tsS, Nat.zero_lt_succ, decide_true, if_true]
          rw [tsS_shift]
          simpa using this
    cases b with
    | false =>
      simp only [Bool.false_eq_true, if_false] at h
      exact fin _ H ⟨false, hb, by simp⟩ h
    | true =>
      simp only [if_true] at h
      by_cases hs : o.o.still = true
      · rw [if_pos hs] at h
        simp only [Option.bind_eq_some_iff] at h
        obtain ⟨⟨v, H1⟩, hv, h⟩ := h
        exact fin v H ⟨true, hb, by rw [if_pos rfl, if_pos hs]; exact ⟨⟨H1, hv⟩, rfl⟩⟩ h
      · rw [if_neg hs] at h
        simp only [Option.bind_eq_some_iff] at h
        obtain ⟨⟨v, H1⟩, hv, h⟩ := h
        simp only at h
        by_cases hsm : Same q H0 H1
        · rw [if_pos hsm] at h
          exact fin v H1 ⟨true, hb, by rw [if_pos rfl, if_neg hs]; exact ⟨hv, hsm⟩⟩ h
        · rw [if_neg hsm] at h; cases h
def confF (v u : VO) : Bool :=
  (match u.d with | some d => v.looks.contains d || v.d == some d | none => false) || (match v.d with | some d => u.looks.contains d | none => false) || (!v.o.still && !u.o.still && !isF v && !isF u)
def drawOKF (ops : Array Oper) (vl : List VO) (n0 : Nat) : Bool :=
  (List.range ops.size).all fun i => match ops[i]?, vl[i]? with
    | some o, some v => o.after.all (fun e => !Region.binds .any e || decide (e.on < i)) && (List.range i).all fun j => match vl[j]? with
      | some u => (!(decide (n0 ≤ i) || confF v u) || rch ops 24 i j) && (decide (n0 ≤ i) || !isF v || (match v.d with | some d => !u.looks.contains d | none => true))
      | none => false
    | _, _ => false
def StepAtF (call : Cal) (lo : Nat) (q : List Nat) (H0 : Hp) (fx : List (Nat × Option Nat)) (c : Nat) (o : VO) (ts : Ts) (v : Value) (h h' : Hp) : Prop := match flo o with
  | some x => v = x.2 c ∧ h' = h
  | none => ∃ b, wants ts o.g = some b ∧ if b = true then (if o.o.still = true then (∃ H1, vop call 0 ts (kill q H0) o.o = some (v, H1)) ∧ h' = h else ∃ H1, vop call lo ts (kill (keepF fx o) h) o.o = some (v, H1) ∧ h' = back (keepF fx o) h H1 ∧ Same q H0 h') else v = .tuple #[] ∧ h' = h
def cF (l : List VO) (c0 i : Nat) : Nat := c0 + ((l.take i).filter isF).length
theorem cF_zero (l : List VO) (c : Nat) : cF l c 0 = c := by simp [cF]
theorem cF_succ (o : VO) (r : List VO) (c i : Nat) : cF (o :: r) c (i + 1) = cF r (if isF o = true then c + 1 else c) i := by
  unfold cF
  rw [List.take_succ_cons, List.filter_cons]
  split
  · simp only [List.length_cons]; omega
  · rfl
theorem tsS_none {vals : Nat → Value} : ∀ (l : List VO) (k : Nat) (ts : Ts), tsS (fun j => decide (j < 0)) vals l k ts = ts
  | [], _, _ => rfl
  | x :: l, k, ts => by
    have := tsS_none (vals := vals) l (k + 1) ts
    simp only [tsS, Nat.not_lt_zero, decide_false, Bool.false_eq_true, if_false] at this ⊢
    exact this
/-- What a run of the free part has gone through. -/
theorem traceF {call : Cal} {lo : Nat} {q : List Nat} {H0 : Hp} {fx : List (Nat × Option Nat)} : ∀ (l : List VO) {c : Nat} {ts ts' : Ts} {H H' : Hp}, vfreeF call lo q H0 fx l c ts H = some (ts', H') → ∃ (vals : Nat → Value) (hs : Nat → Hp), hs 0 = H ∧ hs l.length = H' ∧ ts' = tsS (fun _ => true) vals l 0 ts ∧
    ∀ (i : Nat) o, l[i]? = some o → StepAtF call lo q H0 fx (cF l c i) o (tsS (fun j => decide (j < i)) vals l 0 ts) (vals i) (hs i) (hs (i + 1))
  | [], c, ts, ts', H, H', h => by
    simp only [vfreeF, Option.some.injEq, Prod.mk.injEq] at h
    obtain ⟨rfl, rfl⟩ := h
    exact ⟨fun _ => .tuple #[], fun _ => H, rfl, rfl, rfl, fun i o h => by simp at h⟩
  | o :: r, c, ts, ts', H, H', h => by
    have fin : ∀ (v : Value) (H1 : Hp), StepAtF call lo q H0 fx c o ts v H H1 → vfreeF call lo q H0 fx r (if isF o = true then c + 1 else c) (put ts o.d v) H1 = some (ts', H') → ∃ (vals : Nat → Value) (hs : Nat → Hp), hs 0 = H ∧ hs (o :: r).length = H' ∧ ts' = tsS (fun _ => true) vals (o :: r) 0 ts ∧
        ∀ (i : Nat) u, (o :: r)[i]? = some u → StepAtF call lo q H0 fx (cF (o :: r) c i) u (tsS (fun j => decide (j < i)) vals (o :: r) 0 ts) (vals i) (hs i) (hs (i + 1)) := by
      intro v H1 hst hr
      obtain ⟨vals, hs, h0, hl, ht, hstep⟩ := traceF r hr
      refine ⟨fun i => match i with | 0 => v | i + 1 => vals i, fun i => match i with | 0 => H | i + 1 => hs i, rfl, hl, ?_, ?_⟩
      · simp only [tsS, if_true]
        rw [tsS_shift]
        exact ht
      · intro i u hu
        cases i with
        | zero =>
          simp only [List.getElem?_cons_zero, Option.some.injEq] at hu; subst hu
          rw [cF_zero]
          have e : tsS (fun j => decide (j < 0)) (fun i => match i with | 0 => v | i + 1 => vals i) (o :: r) 0 ts = ts := tsS_none _ _ _
          rw [e]
          show StepAtF call lo q H0 fx c o ts v H (hs 0)
          rw [h0]; exact hst
        | succ i =>
          have := hstep i u (by simpa using hu)
          rw [cF_succ]
          simp only [tsS, Nat.zero_lt_succ, decide_true, if_true]
          rw [tsS_shift]
          simpa using this
    simp only [vfreeF] at h
    cases hf : flo o with
    | some x =>
      rw [hf] at h
      simp only at h
      exact fin _ H (by unfold StepAtF; rw [hf]; exact ⟨rfl, rfl⟩) (by rw [if_pos (by unfold isF; rw [hf]; rfl)]; exact h)
    | none =>
      rw [hf] at h
      simp only [Option.bind_eq_some_iff] at h
      have hnf : ¬ isF o = true := by unfold isF; rw [hf]; simp
      obtain ⟨b, hb, h⟩ := h
      cases b with
      | false =>
        simp only [Bool.false_eq_true, if_false] at h
        exact fin (.tuple #[]) H (by unfold StepAtF; rw [hf]; exact ⟨false, hb, by simp⟩) (by rw [if_neg hnf]; exact h)
      | true =>
        simp only [if_true] at h
        by_cases hs : o.o.still = true
        · rw [if_pos hs] at h
          simp only [Option.bind_eq_some_iff] at h
          obtain ⟨⟨v, H1⟩, hv, h⟩ := h
          exact fin v H (by unfold StepAtF; rw [hf]; exact ⟨true, hb, by rw [if_pos rfl, if_pos hs]; exact ⟨⟨H1, hv⟩, rfl⟩⟩) (by rw [if_neg hnf]; exact h)
        · rw [if_neg hs] at h
          simp only [Option.bind_eq_some_iff] at h
          obtain ⟨⟨v, H1⟩, hv, h⟩ := h
          simp only at h
          by_cases hsm : Same q H0 (back (keepF fx o) H H1)
          · rw [if_pos hsm] at h
            exact fin v (back (keepF fx o) H H1) (by unfold StepAtF; rw [hf]; exact ⟨true, hb, by rw [if_pos rfl, if_neg hs]; exact ⟨H1, hv, rfl, hsm⟩⟩) (by rw [if_neg hnf]; exact h)
          · rw [if_neg hsm] at h; cases h
end Go.Proofs.YtohanpndekfbgaaDoor.V
/-! A region that draws its order: the proof. -/
namespace Go.Proofs.YtohanpndekfbgaaDoor.V
open Go
variable {TT : List (Nat × Obj)}
set_option linter.unusedVariables false
set_option linter.unusedSimpArgs false
section
variable {P : Program} {ops : Array Oper}
def closedS (ops : Array Oper) (listed : Array Bool) : Prop := ∀ (i : Nat) o, ops[i]? = some o → listed.getD i false = true → ∀ e ∈ o.after, Region.binds .any e = true → listed.getD e.on false = true
theorem rch_ok {listed : Array Bool} (hc : closedS ops listed) : ∀ (f i j : Nat), rch ops f i j = true → (∀ o, ops[i]? = some o → ∀ e ∈ o.after, Region.binds .any e = true → listed.getD e.on false = true) → listed.getD j false = true
  | 0, i, j, h, _ => by simp [rch] at h
  | f + 1, i, j, h, hi => by
    simp only [rch] at h
    cases ho : ops[i]? with
    | none => rw [ho] at h; cases h
    | some o =>
      rw [ho] at h
      simp only [Array.any_eq_true', Bool.and_eq_true, Bool.or_eq_true, beq_iff_eq, decide_eq_true_eq] at h
      obtain ⟨e, he, hb, _, hor⟩ := h
      have hl := hi o ho e he hb
      rcases hor with rfl | hr
      · exact hl
      · exact rch_ok hc f e.on j hr fun o' ho' e' he' hb' => hc e.on o' ho' hl e' he' hb'
theorem compVs_get {nt : Nat} : ∀ {l : List Oper} {vl : List VO}, compVs P nt ops l = some vl → l.length = vl.length ∧ ∀ (i : Nat) o, l[i]? = some o → ∃ v, vl[i]? = some v ∧ compV P nt ops o = some v
  | [], vl, h => by
    simp only [compVs, Option.some.injEq] at h; subst h
    exact ⟨rfl, fun i o h => by simp at h⟩
  | x :: r, vl, h => by
    simp only [compVs, Option.bind_eq_some_iff, Option.some.injEq] at h
    obtain ⟨v, hv, s, hs, rfl⟩ := h
    obtain ⟨h1, h2⟩ := compVs_get hs
    refine ⟨by simp [h1], fun i o hi => ?_⟩
    cases i with
    | zero => simp only [List.getElem?_cons_zero, Option.some.injEq] at hi; subst hi; exact ⟨v, rfl, hv⟩
    | succ i => simpa using h2 i o (by simpa using hi)

/-- What the check of a region gives. -/
structure OK (ops : Array Oper) (vl : List VO) (n0 : Nat) : Prop where
  edge : ∀ (i : Nat) o, ops[i]? = some o → ∀ e ∈ o.after, Region.binds .any e = true → e.on < i
  ord : ∀ (i j : Nat) v u, vl[i]? = some v → vl[j]? = some u → j < i → (n0 ≤ i ∨ conf v u = true) → rch ops 24 i j = true
  app : ∀ (i j : Nat) v u, vl[i]? = some v → vl[j]? = some u → j < i → i < n0 → v.o.app = true → allP ((vl.take n0).drop (i + 1)) = true → u.o.plain = true ∨ rch ops 24 i j = true
theorem drawOK_spec {vl : List VO} {n0 : Nat} (hl : ops.size = vl.length) (h : drawOK ops vl n0 = true) : OK ops vl n0 := by
  unfold drawOK at h
  simp only [List.all_eq_true, List.mem_range] at h
  have key : ∀ (i : Nat) o v, ops[i]? = some o → vl[i]? = some v → (∀ e ∈ o.after, Region.binds .any e = true → e.on < i) ∧ ∀ j u, j < i → vl[j]? = some u → ((n0 ≤ i ∨ conf v u = true) → rch ops 24 i j = true) ∧ (i < n0 → v.o.app = true → allP ((vl.take n0).drop (i + 1)) = true → u.o.plain = true ∨ rch ops 24 i j = true) := by
    intro i o v ho hv
    have h1 := h i (Array.getElem?_eq_some_iff.1 ho).1
    rw [ho, hv] at h1
    simp only [Bool.and_eq_true, Array.all_eq_true_iff_forall_mem, Bool.or_eq_true, Bool.not_eq_true', decide_eq_true_eq, List.all_eq_true, List.mem_range] at h1
    refine ⟨fun e he hb => ?_, fun j u hj hu => ?_⟩
    · rcases h1.1 e he with h2 | h2
      · rw [hb] at h2; cases h2
      · exact h2
    · have h2 := h1.2 j hj
      rw [hu] at h2
      simp only [Bool.and_eq_true, Bool.or_eq_true, Bool.not_eq_true', Bool.or_eq_false_iff, decide_eq_false_iff_not, decide_eq_true_eq] at h2
      refine ⟨fun hc => ?_, fun hi ha hp => ?_⟩
      · rcases h2.1 with h2 | h2
        · rcases hc with hc | hc
          · exact absurd hc h2.1
          · rw [hc] at h2; cases h2.2
        · exact h2
      · rcases h2.2 with ((h2 | h2) | h2) | h2
        · omega
        · rw [ha, hp] at h2; cases h2
        · exact Or.inl h2
        · exact Or.inr h2
  have lt1 : ∀ (i : Nat) v, vl[i]? = some v → i < ops.size := fun i v hv => by rw [hl]; exact (List.getElem?_eq_some_iff.1 hv).1
  refine ⟨fun i o ho => ?_, fun i j v u hv hu hj hc => ?_, fun i j v u hv hu hj hi ha hp => ?_⟩
  · have hlt : i < vl.length := by rw [← hl]; exact (Array.getElem?_eq_some_iff.1 ho).1
    exact (key i o vl[i] ho (List.getElem?_eq_getElem hlt)).1
  · exact ((key i _ v (Array.getElem?_eq_getElem (lt1 i v hv)) hv).2 j u hj hu).1 hc
  · exact ((key i _ v (Array.getElem?_eq_getElem (lt1 i v hv)) hv).2 j u hj hu).2 hi ha hp

/-- What the order behind the free part needs. -/
structure OKs (ops : Array Oper) (vl : List VO) (n0 : Nat) : Prop where
  edge : ∀ (i : Nat) o, ops[i]? = some o → ∀ e ∈ o.after, Region.binds .any e = true → e.on < i
  seq : ∀ (i j : Nat) v u, vl[i]? = some v → vl[j]? = some u → j < i → n0 ≤ i → rch ops 24 i j = true
theorem OK.s {vl : List VO} {n0 : Nat} (h : OK ops vl n0) : OKs ops vl n0 := ⟨h.edge, fun i j v u hv hu hj hn => h.ord i j v u hv hu hj (.inl hn)⟩
structure OKF (ops : Array Oper) (vl : List VO) (n0 : Nat) : Prop where
  edge : ∀ (i : Nat) o, ops[i]? = some o → ∀ e ∈ o.after, Region.binds .any e = true → e.on < i
  ord : ∀ (i j : Nat) v u, vl[i]? = some v → vl[j]? = some u → j < i → (n0 ≤ i ∨ confF v u = true) → rch ops 24 i j = true
  late : ∀ (i j : Nat) v u d, vl[i]? = some v → vl[j]? = some u → j < i → i < n0 → isF v = true → v.d = some d → d ∉ u.looks
theorem OKF.s {vl : List VO} {n0 : Nat} (h : OKF ops vl n0) : OKs ops vl n0 := ⟨h.edge, fun i j v u hv hu hj hn => h.ord i j v u hv hu hj (.inl hn)⟩
theorem drawOKF_spec {vl : List VO} {n0 : Nat} (hl : ops.size = vl.length) (h : drawOKF ops vl n0 = true) : OKF ops vl n0 := by
  unfold drawOKF at h
  simp only [List.all_eq_true, List.mem_range] at h
  have key : ∀ (i : Nat) o v, ops[i]? = some o → vl[i]? = some v → (∀ e ∈ o.after, Region.binds .any e = true → e.on < i) ∧ ∀ j u, j < i → vl[j]? = some u → ((n0 ≤ i ∨ confF v u = true) → rch ops 24 i j = true) ∧ (∀ d, i < n0 → isF v = true → v.d = some d → d ∉ u.looks) := by
    intro i o v ho hv
    have h1 := h i (Array.getElem?_eq_some_iff.1 ho).1
    rw [ho, hv] at h1
    simp only [Bool.and_eq_true, Array.all_eq_true_iff_forall_mem, Bool.or_eq_true, Bool.not_eq_true', decide_eq_true_eq, List.all_eq_true, List.mem_range] at h1
    refine ⟨fun e he hb => ?_, fun j u hj hu => ?_⟩
    · rcases h1.1 e he with h2 | h2
      · rw [hb] at h2; cases h2
      · exact h2
    · have h2 := h1.2 j hj
      rw [hu] at h2
      simp only [Bool.and_eq_true, Bool.or_eq_true, Bool.not_eq_true', Bool.or_eq_false_iff, decide_eq_false_iff_not, decide_eq_true_eq] at h2
      refine ⟨fun hc => ?_, fun d hi hf hd => ?_⟩
      · rcases h2.1 with h2 | h2
        · rcases hc with hc | hc
          · exact absurd hc h2.1
          · rw [hc] at h2; cases h2.2
        · exact h2
      · rcases h2.2 with (h2 | h2) | h2
        · omega
        · rw [hf] at h2; cases h2
        · rw [hd] at h2
          intro hm
          have h3 : u.looks.contains d = true := List.contains_iff_mem.2 hm
          simp only [h3, Bool.not_true, Bool.false_eq_true] at h2
  have lt1 : ∀ (i : Nat) v, vl[i]? = some v → i < ops.size := fun i v hv => by rw [hl]; exact (List.getElem?_eq_some_iff.1 hv).1
  refine ⟨fun i o ho => ?_, fun i j v u hv hu hj hc => ?_, fun i j v u d hv hu hj hi hf hd => ?_⟩
  · have hlt : i < vl.length := by rw [← hl]; exact (Array.getElem?_eq_some_iff.1 ho).1
    exact (key i o vl[i] ho (List.getElem?_eq_getElem hlt)).1
  · exact ((key i _ v (Array.getElem?_eq_getElem (lt1 i v hv)) hv).2 j u hj hu).1 hc
  · exact ((key i _ v (Array.getElem?_eq_getElem (lt1 i v hv)) hv).2 j u hj hu).2 d hi hf hd

theorem getD_set {listed : Array Bool} {i j : Nat} (hi : i < listed.size) : (listed.setIfInBounds i true).getD j false = (decide (j = i) || listed.getD j false) := by
  by_cases h : j = i
  · subst h; simp [hi]
  · have := getD_set_ne (listed := listed) (i := i) (j := j) false (Ne.symm h)
    rw [this]; simp [h]
theorem not_listed {listed : Array Bool} {i : Nat} (h : listed.getD i true = false) : i < listed.size ∧ listed.getD i false = false ∧ listed.toList[i]? = some false := by
  rcases Nat.lt_or_ge i listed.size with h' | h'
  · refine ⟨h', ?_, ?_⟩ <;> simp [h'] at h ⊢ <;> exact h
  · simp [Array.getElem?_eq_none h'] at h
theorem ready_none {listed : Array Bool} (h : ∀ i, i < ops.size → listed.getD i false = true) (hs : listed.size = ops.size) : Region.ready .any ops listed = [] := by
  rw [List.eq_nil_iff_forall_not_mem]
  intro i hi
  obtain ⟨h1, o, ho, _⟩ := mem_ready.1 hi
  have := not_listed h1
  rw [h i (Array.getElem?_eq_some_iff.1 ho).1] at this
  cases this.2.1
theorem ready_some {vl : List VO} {n0 : Nat} (hok : OKs ops vl n0) {listed : Array Bool} (hs : listed.size = ops.size) {j : Nat} (hj : j < ops.size) (hl : listed.getD j false = false) : Region.ready .any ops listed ≠ [] := by
  have key : ∀ (m j : Nat), j ≤ m → j < ops.size → listed.getD j false = false → ∃ i, i ∈ Region.ready .any ops listed := by
    intro m
    induction m with
    | zero =>
      intro j hjm hj hl
      obtain rfl : j = 0 := by omega
      refine ⟨0, mem_ready.2 ⟨by simp [hs, hj] at hl ⊢; exact hl, ops[0], Array.getElem?_eq_getElem hj, fun e he hb => ?_⟩⟩
      exact absurd (hok.edge 0 _ (Array.getElem?_eq_getElem hj) e he hb) (by omega)
    | succ m ih =>
      intro j hjm hj hl
      by_cases hex : ∃ k, k < j ∧ listed.getD k false = false
      · obtain ⟨k, hk, hkl⟩ := hex
        exact ih k (by omega) (by omega) hkl
      · refine ⟨j, mem_ready.2 ⟨by simp [hs, hj] at hl ⊢; exact hl, ops[j], Array.getElem?_eq_getElem hj, fun e he hb => ?_⟩⟩
        have hlt := hok.edge j _ (Array.getElem?_eq_getElem hj) e he hb
        cases hv : listed.getD e.on false with
        | true => rfl
        | false => exact absurd ⟨e.on, hlt, hv⟩ hex
  obtain ⟨i, hi⟩ := key j j (Nat.le_refl _) hj hl
  intro h0
  rw [h0] at hi
  cases hi

variable {call : Cal} (hcall : CalOK TT P call) {nt : Nat} {vl : List VO} (hvl : compVs P nt ops ops.toList = some vl) {n0 : Nat} (hok : OKs ops vl n0) {lo : Nat} {Q : Exit → Act → World → Prop}
include hcall hvl hok

/-- Behind the free part: one behind the other. -/
theorem seq_ok {ts' : Ts} {H' : Hp} : ∀ (fuel k : Nat), n0 ≤ k → k ≤ ops.size → ∀ {listed : Array Bool}, listed.size = ops.size → (∀ j, j < ops.size → listed.getD j false = decide (j < k)) → cntF listed.toList ≤ fuel → closedS ops listed →
    ∀ {ts : Ts} {H : Hp}, vops call lo (vl.drop k) ts H = some (ts', H') → lo ≤ H.length → ∀ {μ : Mu} {a : Act} {w : World}, TR μ ts a → Sim TT μ H w → a.tmps.size = nt → (∀ a' w', Fin TT lo μ H w a ts' H' a' w' → Q .normal a' w') → wpAny P .any ops Q fuel listed a w := by
  obtain ⟨hlen, hget⟩ := compVs_get hvl
  rw [Array.length_toList] at hlen
  intro fuel
  induction fuel with
  | zero =>
    intro k hk hkn listed hls hlist hcnt _ ts H hv hlo μ a w ht hs hn hQ
    have hall : ∀ j, j < ops.size → listed.getD j false = true := by
      intro j hj
      cases hx : listed.getD j false with
      | true => rfl
      | false =>
        have h1 := cntF_zero listed.toList j (by omega)
        exact absurd (by simp [hls, hj] at hx ⊢; exact hx) h1
    have hk' : k = ops.size := by
      rcases Nat.lt_or_ge k ops.size with h | h
      · have h1 := hlist k h; rw [hall k h] at h1; simp at h1
      · omega
    rw [List.drop_eq_nil_of_le (by omega)] at hv
    simp only [vops, Option.some.injEq, Prod.mk.injEq] at hv
    obtain ⟨rfl, rfl⟩ := hv
    exact ⟨ready_none hall hls, hQ a w ⟨μ, ht, hs, Stp.refl _ _ _ _, rfl, rfl⟩⟩
  | succ fuel ih =>
    intro k hk hkn listed hls hlist hcnt hcl ts H hv hlo μ a w ht hs hn hQ
    rcases Nat.lt_or_ge k ops.size with hlt | hge
    · refine ⟨fun h0 => absurd h0 (ready_some hok hls hlt (by rw [hlist k hlt]; simp)), fun i hi => ?_⟩
      obtain ⟨h1, o, ho, hedge⟩ := mem_ready.1 hi
      obtain ⟨hil, hif, hit⟩ := not_listed h1
      have hin : i < ops.size := (Array.getElem?_eq_some_iff.1 ho).1
      have hki : k ≤ i := by
        have := hlist i hin; rw [hif] at this; simp at this; exact this
      obtain ⟨v, hvi, hcomp⟩ := hget i o (by simpa using ho)
      have hik : i = k := by
        rcases Nat.lt_or_ge k i with h | h
        · have hr := hok.seq i k v (vl[k]'(by omega)) hvi (List.getElem?_eq_getElem (by omega)) h (by omega)
          have := rch_ok hcl 24 i k hr fun o' ho' e he hb => by rw [ho] at ho'; cases ho'; exact hedge e he hb
          rw [hlist k hlt] at this; simp at this
        · omega
      subst hik
      have hdrop : vl.drop i = v :: vl.drop (i + 1) := by
        rw [List.drop_eq_getElem_cons (by omega)]
        congr 1
        exact (List.getElem?_eq_some_iff.1 hvi).2
      rw [hdrop] at hv
      obtain ⟨hd, hop, hdd, _⟩ := compV_some hcomp
      simp only [vops, Option.bind_eq_some_iff] at hv
      obtain ⟨b, hb, hv⟩ := hv
      have hw := wants_ok ht hcomp hb
      have hd' : ∀ t, o.dst = some t → t < a.tmps.size := fun t h => by rw [hn]; exact hd t h
      have hlist' : ∀ j, j < ops.size → (listed.setIfInBounds i true).getD j false = decide (j < i + 1) := fun j hj => by
        rw [getD_set hil, hlist j hj]
        by_cases h1 : j < i
        · simp [h1]; omega
        · by_cases h2 : j = i
          · simp [h2]
          · simp [h1, h2]; omega
      have hcl' : closedS ops (listed.setIfInBounds i true) := by
        intro i' o' ho' hl' e he hb'
        by_cases hii : i' = i
        · subst hii
          rw [ho] at ho'; cases ho'
          exact getD_set_true (hedge e he hb')
        · rw [getD_set_ne false (Ne.symm hii)] at hl'
          exact getD_set_true (hcl i' o' ho' hl' e he hb')
      have hcnt' : cntF (listed.setIfInBounds i true).toList ≤ fuel := by
        rw [Array.toList_setIfInBounds]
        have := cntF_set listed.toList i hit
        omega
      unfold wpOp
      rw [ho]
      simp only
      rw [hw]
      cases b
      · simp only [Bool.false_eq_true, if_false] at hv ⊢
        rw [hdd] at hv
        exact ih (i + 1) (by omega) (by omega) (by simpa using hls) hlist' hcnt' hcl' hv hlo (ht.put R2.undef hd') hs (by rw [size_put]; exact hn) fun a' w' ⟨μ', h1, h2, h3, h4, h5⟩ => hQ a' w' ⟨μ', h1, h2, h3, by rw [h4, size_put], by rw [h5, put_defers]⟩
      · simp only [if_true, Option.bind_eq_some_iff] at hv ⊢
        obtain ⟨⟨x, H1⟩, hv1, hv⟩ := hv
        simp only at hv
        rw [hdd] at hv
        refine .inl (op_ok hcall hop hv1 hlo ht hs fun r w1 μ1 hR hs1 hst => ?_)
        exact ih (i + 1) (by omega) (by omega) (by simpa using hls) hlist' hcnt' hcl' hv (Nat.le_trans hlo hst.len) ((ht.ext hst.ext).put hR hd') hs1 (by rw [size_put]; exact hn) fun a' w' ⟨μ', h1, h2, h3, h4, h5⟩ => hQ a' w' ⟨μ', h1, h2, hst.trans h3, by rw [h4, size_put], by rw [h5, put_defers]⟩
    · obtain rfl : k = ops.size := by omega
      rw [List.drop_eq_nil_of_le (by omega)] at hv
      simp only [vops, Option.some.injEq, Prod.mk.injEq] at hv
      obtain ⟨rfl, rfl⟩ := hv
      have hall : ∀ j, j < ops.size → listed.getD j false = true := fun j hj => by rw [hlist j hj]; simp [hj]
      exact wpAny_done (ready_none hall hls) (hQ a w ⟨μ, ht, hs, Stp.refl _ _ _ _, rfl, rfl⟩) _
end
end Go.Proofs.YtohanpndekfbgaaDoor.V
/-! A region that draws its order: its free part, in whatever order. -/
namespace Go.Proofs.YtohanpndekfbgaaDoor.V
open Go
variable {TT : List (Nat × Obj)}
set_option linter.unusedVariables false
set_option linter.unusedSimpArgs false
section
variable {P : Program} {ops : Array Oper}
variable {call : Cal} (hcall : CalOK TT P call) {nt : Nat} {vl : List VO} (hvl : compVs P nt ops ops.toList = some vl) {n0 : Nat} (hok : OK ops vl n0) {lo : Nat} {Q : Exit → Act → World → Prop}

theorem mem_looks {v : VO} {t : Nat} (h : Arg.t t ∈ v.o.args) : t ∈ v.looks := by
  simp only [VO.looks, List.mem_append, tmpsA]
  exact .inl (List.mem_filterMap.2 ⟨.t t, h, rfl⟩)
theorem conf_write {v u : VO} {t : Nat} (h1 : u.d = some t) (h2 : t ∈ v.looks) : conf v u = true := by
  simp only [conf, h1, Bool.or_eq_true, List.contains_iff_mem]
  exact .inl (.inl (.inl h2))
theorem conf_write' {v u : VO} {t : Nat} (h1 : v.d = some t) (h2 : t ∈ u.looks) : conf v u = true := by
  simp only [conf, h1, Bool.or_eq_true, List.contains_iff_mem]
  exact .inl (.inr h2)
theorem conf_both {v u : VO} {t : Nat} (h1 : v.d = some t) (h2 : u.d = some t) : conf v u = true := by
  simp [conf, h1, h2]
theorem conf_comm (v u : VO) : conf v u = conf u v := by
  unfold conf
  rw [Bool.and_comm (!u.o.still)]
  generalize (!v.o.still && !u.o.still) = r
  cases u.d with
  | none => cases v.d with
    | none => rfl
    | some e => simp
  | some d => cases v.d with
    | none => simp
    | some e =>
      have h : ((some e : Option Nat) == some d) = (some d == some e) := BEq.comm
      simp only [h]
      generalize v.looks.contains d = p
      generalize u.looks.contains e = q
      generalize ((some d : Option Nat) == some e) = s
      cases p <;> cases q <;> cases r <;> cases s <;> rfl
theorem conf_active {v u : VO} (h1 : v.o.still = false) (h2 : u.o.still = false) : conf v u = true := by
  simp [conf, h1, h2]

theorem vop_plain {call : Cal} {lo lo' : Nat} {ts : Ts} {H H1 G : Hp} {op : VOp} {v : Value} (hp : op.plain = true) (hv : vop call lo ts H op = some (v, H1)) : vop call lo' ts G op = some (v, G) := by
  cases op <;> simp only [VOp.plain, Bool.false_eq_true] at hp <;> simp only [vop, Option.bind_eq_some_iff, Option.some.injEq, Prod.mk.injEq] at hv ⊢
  obtain ⟨u, h1, h2, _⟩ := hv
  exact ⟨u, h1, h2, trivial⟩
theorem kill_blk : ∀ {q : List Nat} {H : Hp} {k : Nat} {b : Blk}, Hp.blk (kill q H) k = some b → k ∉ q ∧ H.blk k = some b
  | [], H, k, b, h => ⟨by simp, h⟩
  | x :: r, H, k, b, h => by
    obtain ⟨h1, h2⟩ := kill_blk (q := r) h
    unfold Hp.blk at h2
    rw [List.getElem?_set] at h2
    by_cases hx : x = k
    · rw [if_pos hx] at h2
      split at h2 <;> cases h2
    · rw [if_neg hx] at h2
      exact ⟨by simp only [List.mem_cons, not_or]; exact ⟨fun e => hx e.symm, h1⟩, h2⟩
theorem plain_still {op : VOp} (hp : op.plain = true) : op.still = true := by
  cases op <;> simp only [VOp.plain, Bool.false_eq_true] at hp <;> rfl
theorem allP_at : ∀ {l : List VO} {j : Nat} {u : VO}, allP l = true → l[j]? = some u → u.o.plain = true
  | [], j, u, _, h => by simp at h
  | o :: r, 0, u, hp, h => by
    simp only [List.getElem?_cons_zero, Option.some.injEq] at h; subst h
    simp only [allP, Bool.and_eq_true] at hp; exact hp.1
  | o :: r, j + 1, u, hp, h => by
    simp only [allP, Bool.and_eq_true] at hp
    exact allP_at hp.2 (by simpa using h)
include hcall hvl hok
theorem free_ok {ts0 ts' : Ts} {H0 H' : Hp} {vals : Nat → Value} {hs : Nat → Hp} (hn0 : n0 ≤ vl.length)
    (hstep : ∀ (i : Nat) o, (vl.take n0)[i]? = some o → StepAt call lo H0 o ((vl.take n0).drop (i + 1)) (tsS (fun j => decide (j < i)) vals (vl.take n0) 0 ts0) (vals i) (hs i) (hs (i + 1)))
    (hseq : vops call lo (vl.drop n0) (tsS (fun _ => true) vals (vl.take n0) 0 ts0) (hs n0) = some (ts', H')) (hlo : lo ≤ H0.length) {μ0 : Mu} {w0 : World} {a0 : Act} (ha0 : a0.tmps.size = nt)
    (hs0 : Sim TT μ0 H0 w0) (hQ : ∀ a' w', Fin TT lo μ0 H0 w0 a0 ts' H' a' w' → Q .normal a' w') : ∀ (fuel : Nat) {listed : Array Bool}, listed.size = ops.size → closedS ops listed → (∀ j, listed.getD j false = true → j < n0) → cntF listed.toList ≤ fuel →
    ∀ {μ : Mu} {a : Act} {w : World} {p : Nat}, TR μ (tsS (fun j => listed.getD j false) vals (vl.take n0) 0 ts0) a → a.tmps.size = nt → a.defers = a0.defers → p ≤ n0 → (∀ (j : Nat) u, j < p → vl[j]? = some u → u.o.still = false → listed.getD j false = true) →
      (∀ (j : Nat) u, p ≤ j → j < n0 → vl[j]? = some u → u.o.still = false → listed.getD j false = false) → Sim TT μ (hs p) w → ((∀ i, i < H0.length → (hs p)[i]? = H0[i]?) ∨ ∀ (j : Nat) u, j < n0 → vl[j]? = some u → listed.getD j false = false → u.o.plain = true) → H0.length ≤ (hs p).length → Stp lo μ0 H0 w0 μ (hs p) w → wpAny P .any ops Q fuel listed a w := by
  obtain ⟨hlen, hget⟩ := compVs_get hvl
  rw [Array.length_toList] at hlen
  have hconst : ∀ (p q : Nat), p ≤ q → q ≤ n0 → (∀ (j : Nat) u, p ≤ j → j < q → vl[j]? = some u → u.o.still = true) → hs q = hs p := by
    intro p q hpq hq hst
    induction q with
    | zero => obtain rfl : p = 0 := by omega
              rfl
    | succ q ih =>
      rcases Nat.lt_or_ge q p with h | h
      · obtain rfl : p = q + 1 := by omega
        rfl
      · rw [← ih h (by omega) fun j u hj hj2 => hst j u hj (by omega)]
        have hlt : q < vl.length := by omega
        have hv := List.getElem?_eq_getElem hlt
        obtain ⟨b, _, hb⟩ := hstep q vl[q] (by rw [List.getElem?_take, if_pos (by omega)]; exact hv)
        rw [hst q _ h (by omega) hv] at hb
        cases b
        · simp only [Bool.false_eq_true, if_false] at hb; exact hb.2
        · simp only [if_true] at hb; exact hb.2
  intro fuel
  induction fuel with
  | zero =>
    intro listed hls hcl hfree hcnt μ a w p ht hn hdef hp hact1 hact2 hsim hlow hlen0 hst
    -- all is listed, so there is no rest
    have hall : ∀ j, j < ops.size → listed.getD j false = true := by
      intro j hj
      cases hx : listed.getD j false with
      | true => rfl
      | false =>
        have h1 := cntF_zero listed.toList j (by omega)
        exact absurd (by simp [hls, hj] at hx ⊢; exact hx) h1
    have hn : n0 = ops.size := by
      rcases Nat.lt_or_ge n0 ops.size with h | h
      · have := hfree n0 (hall n0 h); omega
      · omega
    have hp' : hs n0 = hs p := hconst p n0 hp (Nat.le_refl _) fun j u hj hj2 hu => by
      cases hx : u.o.still with
      | true => rfl
      | false => have := hact2 j u hj hj2 hu hx; rw [hall j (by omega)] at this; cases this
    have hts : TR μ (tsS (fun _ => true) vals (vl.take n0) 0 ts0) a := fun t v hv => ht t v (by
      rw [← hv]
      exact tsS_congr _ _ (fun j o hj _ => by
        have : j < (vl.take n0).length := (List.getElem?_eq_some_iff.1 hj).1
        simp only [List.length_take] at this
        simp only [Nat.zero_add]; exact hall j (by omega)) rfl)
    rw [hp'] at hseq
    refine seq_ok hcall hvl hok.s 0 n0 (Nat.le_refl _) (by omega) hls (fun j hj => by rw [hall j hj]; simp; omega) hcnt hcl hseq (Nat.le_trans hlo hlen0) hts hsim (by assumption) fun a' w' ⟨μ', h1, h2, h3, h4, h5⟩ => hQ a' w' ⟨μ', h1, h2, hst.trans h3, by rw [h4, ha0]; assumption, by rw [h5, hdef]⟩
  | succ fuel ih =>
    intro listed hls hcl hfree hcnt μ a w p ht hn hdef hp hact1 hact2 hsim hlow hlen0 hst
    by_cases hall : ∀ j, j < n0 → listed.getD j false = true
    · have hp' : hs n0 = hs p := hconst p n0 hp (Nat.le_refl _) fun j u hj hj2 hu => by
        cases hx : u.o.still with
        | true => rfl
        | false => have := hact2 j u hj hj2 hu hx; rw [hall j hj2] at this; cases this
      have hts : TR μ (tsS (fun _ => true) vals (vl.take n0) 0 ts0) a := fun t v hv => ht t v (by
        rw [← hv]
        exact tsS_congr _ _ (fun j o hj _ => by
          have : j < (vl.take n0).length := (List.getElem?_eq_some_iff.1 hj).1
          simp only [List.length_take] at this
          simp only [Nat.zero_add]; exact hall j (by omega)) rfl)
      rw [hp'] at hseq
      refine seq_ok hcall hvl hok.s (fuel + 1) n0 (Nat.le_refl _) (by omega) hls (fun j hj => ?_) hcnt hcl hseq (Nat.le_trans hlo hlen0) hts hsim hn fun a' w' ⟨μ', h1, h2, h3, h4, h5⟩ => hQ a' w' ⟨μ', h1, h2, hst.trans h3, by rw [h4, ha0, hn], by rw [h5, hdef]⟩
      cases hx : listed.getD j false with
      | true => simp [hfree j hx]
      | false => by_cases hj2 : j < n0
                 · rw [hall j hj2] at hx; cases hx
                 · simp [hj2]
    · obtain ⟨j0, hj0, hj0l⟩ : ∃ j, j < n0 ∧ listed.getD j false = false := by
        apply Classical.byContradiction
        intro hno
        apply hall
        intro j hj
        cases hx : listed.getD j false with
        | true => rfl
        | false => exact absurd ⟨j, hj, hx⟩ hno
      refine ⟨fun h0 => absurd h0 (ready_some hok.s hls (by omega) hj0l), fun i hi => ?_⟩
      obtain ⟨h1, o, ho, hedge⟩ := mem_ready.1 hi
      obtain ⟨hil, hif, hit⟩ := not_listed h1
      have hin : i < ops.size := (Array.getElem?_eq_some_iff.1 ho).1
      obtain ⟨v, hvi, hcomp⟩ := hget i o (by simpa using ho)
      have hrch : ∀ j, rch ops 24 i j = true → listed.getD j false = true := fun j hr => rch_ok hcl 24 i j hr fun o' ho' e he hb => by rw [ho] at ho'; cases ho'; exact hedge e he hb
      have hi0 : i < n0 := by
        rcases Nat.lt_or_ge i n0 with h | h
        · exact h
        · have := hrch j0 (hok.ord i j0 v (vl[j0]'(by omega)) hvi (List.getElem?_eq_getElem (by omega)) (by omega) (.inl h))
          rw [hj0l] at this; cases this
      -- what conflicts with i has come just if it stands ahead of i
      have hconf : ∀ (j : Nat) u, vl[j]? = some u → (conf v u = true ∨ conf u v = true) → j ≠ i → (listed.getD j false = decide (j < i)) := by
        intro j u hu hc hji
        rcases Nat.lt_or_ge j i with h | h
        · have hc' : conf v u = true ∨ conf u v = true := hc
          -- both orders of the check name the same pair
          have hcc : conf v u = true := by
            rcases hc with h | h
            · exact h
            · rw [conf_comm]; exact h
          rw [hrch j (hok.ord i j v u hvi hu h (.inr hcc))]; simp [h]
        · have hlt : i < j := by omega
          have hcc : conf u v = true := by
            rcases hc with h | h
            · rw [conf_comm]; exact h
            · exact h
          have hnd : decide (j < i) = false := by simp; omega
          rw [hnd]
          cases hx : listed.getD j false with
          | false => rfl
          | true =>
            exfalso
            have hjs : j < ops.size := by rw [hlen]; exact (List.getElem?_eq_some_iff.1 hu).1
            have hr := hok.ord j i u v hu hvi hlt (.inr hcc)
            have := rch_ok hcl 24 j i hr fun o' ho' e he hb => hcl j o' ho' hx e he hb
            rw [hif] at this; cases this
      have htake : (vl.take n0)[i]? = some v := by rw [List.getElem?_take, if_pos hi0]; exact hvi
      have hlook : ∀ t, t ∈ v.looks → lk (tsS (fun j => listed.getD j false) vals (vl.take n0) 0 ts0) t = lk (tsS (fun j => decide (j < i)) vals (vl.take n0) 0 ts0) t := by
        intro t htl
        refine tsS_congr _ _ (fun j u hj hd => ?_) rfl
        simp only [Nat.zero_add]
        rw [List.getElem?_take] at hj
        split at hj
        · by_cases hji : j = i
          · subst hji; rw [hif]; simp
          · exact hconf j u hj (.inl (conf_write hd htl)) hji
        · cases hj
      have hev : ∀ x ∈ v.o.args, ev (tsS (fun j => listed.getD j false) vals (vl.take n0) 0 ts0) x = ev (tsS (fun j => decide (j < i)) vals (vl.take n0) 0 ts0) x := by
        intro x hx
        cases x with
        | c u => rfl
        | t n => exact hlook n (mem_looks hx)
      obtain ⟨b, hb, hrun⟩ := hstep i v htake
      have hb' : wants (tsS (fun j => listed.getD j false) vals (vl.take n0) 0 ts0) v.g = some b := by
        rw [← hb]
        cases hg : v.g with
        | none => rfl
        | some tb =>
          obtain ⟨t, tb⟩ := tb
          simp only [wants]
          rw [hlook t (by simp [VO.looks, hg])]
      have hw := wants_ok ht hcomp hb'
      obtain ⟨hd, hop, hdd, _⟩ := compV_some hcomp
      have hd' : ∀ t, o.dst = some t → t < a.tmps.size := fun t h => by rw [hn]; exact hd t h
      -- the state behind i
      have hcl' : closedS ops (listed.setIfInBounds i true) := by
        intro i' o' ho' hl' e he hb'
        by_cases hii : i' = i
        · subst hii
          rw [ho] at ho'; cases ho'
          exact getD_set_true (hedge e he hb')
        · rw [getD_set_ne false (Ne.symm hii)] at hl'
          exact getD_set_true (hcl i' o' ho' hl' e he hb')
      have hcnt' : cntF (listed.setIfInBounds i true).toList ≤ fuel := by
        rw [Array.toList_setIfInBounds]
        have := cntF_set listed.toList i hit
        omega
      have hfree' : ∀ j, (listed.setIfInBounds i true).getD j false = true → j < n0 := by
        intro j hj
        rw [getD_set hil] at hj
        simp only [Bool.or_eq_true, decide_eq_true_eq] at hj
        rcases hj with rfl | hj
        · exact hi0
        · exact hfree j hj
      have hput : ∀ {μ' : Mu} {r : Value}, Ext μ μ' → R2 μ' (vals i) r → TR μ' (tsS (fun j => (listed.setIfInBounds i true).getD j false) vals (vl.take n0) 0 ts0) (a.put o.dst r) := by
        intro μ' r hx hr t u hu
        by_cases hdt : o.dst = some t
        · have : lk (tsS (fun j => (listed.setIfInBounds i true).getD j false) vals (vl.take n0) 0 ts0) t = some (vals (0 + i)) := by
            refine tsS_at _ 0 i htake (by rw [hdd]; exact hdt) (by rw [Nat.zero_add, getD_set hil]; simp) fun j x hij hx hxd => ?_
            rw [Nat.zero_add, getD_set hil]
            rw [List.getElem?_take] at hx
            split at hx
            · have := hconf j x hx (.inl (conf_both (by rw [hdd]; exact hdt) hxd)) (by omega)
              rw [this]
              simp; omega
            · cases hx
          rw [this, Nat.zero_add] at hu
          cases hu
          exact ⟨r, by rw [hdt]; simp [Act.put, hd' t hdt], hr⟩
        · have : lk (tsS (fun j => (listed.setIfInBounds i true).getD j false) vals (vl.take n0) 0 ts0) t = lk (tsS (fun j => listed.getD j false) vals (vl.take n0) 0 ts0) t := by
            refine tsS_congr _ _ (fun j x hj hxd => ?_) rfl
            simp only [Nat.zero_add]
            rw [getD_set hil]
            by_cases hji : j = i
            · subst hji
              rw [htake] at hj; cases hj
              rw [hdd] at hxd
              exact absurd hxd hdt
            · simp [hji]
          rw [this] at hu
          obtain ⟨x, hx1, hx2⟩ := (ht.ext hx) t u hu
          refine ⟨x, ?_, hx2⟩
          cases hod : o.dst with
          | none => exact hx1
          | some d =>
            simp only [Act.put]
            rw [Array.getElem?_setIfInBounds_ne (fun e => hdt (by rw [hod, e]))]
            exact hx1
      have stillcase : v.o.still = true → (∀ (j : Nat) u, j < p → vl[j]? = some u → u.o.still = false → (listed.setIfInBounds i true).getD j false = true) ∧ (∀ (j : Nat) u, p ≤ j → j < n0 → vl[j]? = some u → u.o.still = false → (listed.setIfInBounds i true).getD j false = false) := by
        intro hstill
        refine ⟨fun j u hj hu hs => getD_set_true (hact1 j u hj hu hs), fun j u hj hj2 hu hs => ?_⟩
        rw [getD_set hil, hact2 j u hj hj2 hu hs]
        have : j ≠ i := by rintro rfl; rw [hvi] at hu; cases hu; rw [hstill] at hs; cases hs
        simp [this]
      have activecase : v.o.still = false → p ≤ i ∧ hs i = hs p ∧ (∀ (j : Nat) u, j < i + 1 → vl[j]? = some u → u.o.still = false → (listed.setIfInBounds i true).getD j false = true) ∧ (∀ (j : Nat) u, i + 1 ≤ j → j < n0 → vl[j]? = some u → u.o.still = false → (listed.setIfInBounds i true).getD j false = false) := by
        intro hstill
        have hpi : p ≤ i := by
          rcases Nat.lt_or_ge i p with h | h
          · have := hact1 i v h hvi hstill; rw [hif] at this; cases this
          · exact h
        refine ⟨hpi, hconst p i hpi (by omega) fun j u hj hj2 hu => ?_, fun j u hj hu hs => ?_, fun j u hj hj2 hu hs => ?_⟩
        · cases hx : u.o.still with
          | true => rfl
          | false =>
            have h1 := hact2 j u hj (by omega) hu hx
            have h2 := hconf j u hu (.inl (conf_active hstill hx)) (by omega)
            rw [h1] at h2; simp at h2; omega
        · rw [getD_set hil]
          by_cases hji : j = i
          · simp [hji]
          · have h2 := hconf j u hu (.inl (conf_active hstill hs)) hji
            rw [h2]; simp; omega
        · rw [getD_set hil]
          have h2 := hconf j u hu (.inl (conf_active hstill hs)) (by omega)
          rw [h2]; simp; omega
      have hrest : ((∀ k, k < H0.length → (hs p)[k]? = H0[k]?) ∨ ∀ (j : Nat) u, j < n0 → vl[j]? = some u → listed.getD j false = false → u.o.plain = true) → ((∀ k, k < H0.length → (hs p)[k]? = H0[k]?) ∨ ∀ (j : Nat) u, j < n0 → vl[j]? = some u → (listed.setIfInBounds i true).getD j false = false → u.o.plain = true) := by
        rintro (h | h)
        · exact .inl h
        · refine .inr fun j u hj hu hlj => h j u hj hu ?_
          rw [getD_set hil] at hlj
          simp only [Bool.or_eq_false_iff] at hlj
          exact hlj.2
      unfold wpOp
      rw [ho]
      simp only
      rw [hw]
      cases b
      · simp only [Bool.false_eq_true, if_false] at hrun ⊢
        obtain ⟨hval, hsame⟩ := hrun
        have hR : R2 μ (vals i) Go.undef := by rw [hval]; exact R2.undef
        cases hstill : v.o.still with
        | true =>
          obtain ⟨g1, g2⟩ := stillcase hstill
          exact ih (by simpa using hls) hcl' hfree' hcnt' (hput (Ext.refl _) hR) (by rw [size_put]; exact hn) (by rw [put_defers]; exact hdef) hp g1 g2 hsim (hrest hlow) hlen0 hst
        | false =>
          obtain ⟨hpi, hip, g1, g2⟩ := activecase hstill
          have hr := hrest hlow
          rw [← hip, ← hsame] at hsim hr hlen0 hst
          exact ih (by simpa using hls) hcl' hfree' hcnt' (hput (Ext.refl _) hR) (by rw [size_put]; exact hn) (by rw [put_defers]; exact hdef) (by omega) g1 g2 hsim hr hlen0 hst
      · simp only [if_true] at hrun ⊢
        cases hstill : v.o.still with
        | true =>
          obtain ⟨g1, g2⟩ := stillcase hstill
          rw [hstill] at hrun
          simp only [if_true] at hrun
          obtain ⟨⟨H1, hv⟩, hsame⟩ := hrun
          have hv' : vop call lo (tsS (fun j => listed.getD j false) vals (vl.take n0) 0 ts0) (hs p) v.o = some (vals i, hs p) := by
            rcases hlow with hlow | hlow
            · exact vop_still (lo' := lo) hstill (by rw [vop_congr hev]; exact hv) (fun i b => keep_blk hlow)
            · exact vop_plain (hlow i v hi0 hvi hif) (by rw [vop_congr hev]; exact hv)
          refine .inl (op_ok hcall hop hv' (Nat.le_trans hlo hlen0) ht hsim fun r w1 μ1 hR hs1 hst1 => ?_)
          -- memory is as it was
          exact ih (by simpa using hls) hcl' hfree' hcnt' (hput hst1.ext hR) (by rw [size_put]; exact hn) (by rw [put_defers]; exact hdef) hp g1 g2 hs1 (hrest hlow) hlen0 (hst.trans hst1)
        | false =>
          obtain ⟨hpi, hip, g1, g2⟩ := activecase hstill
          rw [hstill] at hrun
          simp only [Bool.false_eq_true, if_false] at hrun
          rw [← hip] at hsim hlow hlen0 hst
          rcases hlow with hlow | hlow
          case inr => have := plain_still (hlow i v hi0 hvi hif); rw [hstill] at this; cases this
          by_cases hap : (v.o.app && allP ((vl.take n0).drop (i + 1))) = true
          · have hv' : vop call lo (tsS (fun j => listed.getD j false) vals (vl.take n0) 0 ts0) (hs i) v.o = some (vals i, hs (i + 1)) := by
              rw [vop_congr hev]
              simp only [lof, if_pos hap] at hrun
              exact hrun
            rw [Bool.and_eq_true] at hap
            refine .inl (op_ok hcall hop hv' (Nat.le_trans hlo hlen0) ht hsim fun r w1 μ1 hR hs1 hst1 => ?_)
            exact ih (by simpa using hls) hcl' hfree' hcnt' (hput hst1.ext hR) (by rw [size_put]; exact hn) (by rw [put_defers]; exact hdef) (by omega) g1 g2 hs1
              (.inr fun j u hj hu hlj => by
                rw [getD_set hil] at hlj
                simp only [Bool.or_eq_false_iff, decide_eq_false_iff_not] at hlj
                rcases Nat.lt_or_ge j i with h | h
                · rcases hok.app i j v u hvi hu h hi0 hap.1 hap.2 with h2 | h2
                  · exact h2
                  · rw [hrch j h2] at hlj; cases hlj.2
                · have hji : i + 1 ≤ j := by have := hlj.1; omega
                  refine allP_at (j := j - (i + 1)) hap.2 ?_
                  rw [List.getElem?_drop, List.getElem?_take, if_pos (by omega), show i + 1 + (j - (i + 1)) = j by omega]
                  exact hu) (Nat.le_trans hlen0 hst1.len) (hst.trans hst1)
          · have hv' : vop call (hs i).length (tsS (fun j => listed.getD j false) vals (vl.take n0) 0 ts0) (hs i) v.o = some (vals i, hs (i + 1)) := by
              rw [vop_congr hev]
              simp only [lof, if_neg hap] at hrun
              exact hrun
            refine .inl (op_ok hcall hop hv' (Nat.le_refl _) ht hsim fun r w1 μ1 hR hs1 hst1 => ?_)
            exact ih (by simpa using hls) hcl' hfree' hcnt' (hput hst1.ext hR) (by rw [size_put]; exact hn) (by rw [put_defers]; exact hdef) (by omega) g1 g2 hs1
              (.inl fun k hk => by rw [hst1.low k (Nat.lt_of_lt_of_le hk hlen0) (Nat.lt_of_lt_of_le hk hlen0)]; exact hlow k hk) (Nat.le_trans hlen0 hst1.len) (hst.trans (hst1.mono hsim (Nat.le_trans hlo hlen0) (Nat.le_refl _)))
theorem free_okD {q : List Nat} {ts0 ts' : Ts} {H0 H' : Hp} {vals : Nat → Value} {hs : Nat → Hp} (hn0 : n0 ≤ vl.length)
    (hstep : ∀ (i : Nat) o, (vl.take n0)[i]? = some o → StepAtD call lo q H0 o (tsS (fun j => decide (j < i)) vals (vl.take n0) 0 ts0) (vals i) (hs i) (hs (i + 1)))
    (hseq : vops call lo (vl.drop n0) (tsS (fun _ => true) vals (vl.take n0) 0 ts0) (hs n0) = some (ts', H')) (hlo : lo ≤ H0.length) {μ0 : Mu} {w0 : World} {a0 : Act} (ha0 : a0.tmps.size = nt)
    (hs0 : Sim TT μ0 H0 w0) (hQ : ∀ a' w', Fin TT lo μ0 H0 w0 a0 ts' H' a' w' → Q .normal a' w') : ∀ (fuel : Nat) {listed : Array Bool}, listed.size = ops.size → closedS ops listed → (∀ j, listed.getD j false = true → j < n0) → cntF listed.toList ≤ fuel →
    ∀ {μ : Mu} {a : Act} {w : World} {p : Nat}, TR μ (tsS (fun j => listed.getD j false) vals (vl.take n0) 0 ts0) a → a.tmps.size = nt → a.defers = a0.defers → p ≤ n0 → (∀ (j : Nat) u, j < p → vl[j]? = some u → u.o.still = false → listed.getD j false = true) →
      (∀ (j : Nat) u, p ≤ j → j < n0 → vl[j]? = some u → u.o.still = false → listed.getD j false = false) → Sim TT μ (hs p) w → (∀ i, i < H0.length → i ∉ q → (hs p)[i]? = H0[i]?) → H0.length ≤ (hs p).length → Stp lo μ0 H0 w0 μ (hs p) w → wpAny P .any ops Q fuel listed a w := by
  obtain ⟨hlen, hget⟩ := compVs_get hvl
  rw [Array.length_toList] at hlen
  have hconst : ∀ (p q : Nat), p ≤ q → q ≤ n0 → (∀ (j : Nat) u, p ≤ j → j < q → vl[j]? = some u → u.o.still = true) → hs q = hs p := by
    intro p q hpq hq hst
    induction q with
    | zero => obtain rfl : p = 0 := by omega
              rfl
    | succ q ih =>
      rcases Nat.lt_or_ge q p with h | h
      · obtain rfl : p = q + 1 := by omega
        rfl
      · rw [← ih h (by omega) fun j u hj hj2 => hst j u hj (by omega)]
        have hlt : q < vl.length := by omega
        have hv := List.getElem?_eq_getElem hlt
        obtain ⟨b, _, hb⟩ := hstep q vl[q] (by rw [List.getElem?_take, if_pos (by omega)]; exact hv)
        rw [hst q _ h (by omega) hv] at hb
        cases b
        · simp only [Bool.false_eq_true, if_false] at hb; exact hb.2
        · simp only [if_true] at hb; exact hb.2
  intro fuel
  induction fuel with
  | zero =>
    intro listed hls hcl hfree hcnt μ a w p ht hn hdef hp hact1 hact2 hsim hlow hlen0 hst
    -- all is listed, so there is no rest
    have hall : ∀ j, j < ops.size → listed.getD j false = true := by
      intro j hj
      cases hx : listed.getD j false with
      | true => rfl
      | false =>
        have h1 := cntF_zero listed.toList j (by omega)
        exact absurd (by simp [hls, hj] at hx ⊢; exact hx) h1
    have hn : n0 = ops.size := by
      rcases Nat.lt_or_ge n0 ops.size with h | h
      · have := hfree n0 (hall n0 h); omega
      · omega
    have hp' : hs n0 = hs p := hconst p n0 hp (Nat.le_refl _) fun j u hj hj2 hu => by
      cases hx : u.o.still with
      | true => rfl
      | false => have := hact2 j u hj hj2 hu hx; rw [hall j (by omega)] at this; cases this
    have hts : TR μ (tsS (fun _ => true) vals (vl.take n0) 0 ts0) a := fun t v hv => ht t v (by
      rw [← hv]
      exact tsS_congr _ _ (fun j o hj _ => by
        have : j < (vl.take n0).length := (List.getElem?_eq_some_iff.1 hj).1
        simp only [List.length_take] at this
        simp only [Nat.zero_add]; exact hall j (by omega)) rfl)
    rw [hp'] at hseq
    refine seq_ok hcall hvl hok.s 0 n0 (Nat.le_refl _) (by omega) hls (fun j hj => by rw [hall j hj]; simp; omega) hcnt hcl hseq (Nat.le_trans hlo hlen0) hts hsim (by assumption) fun a' w' ⟨μ', h1, h2, h3, h4, h5⟩ => hQ a' w' ⟨μ', h1, h2, hst.trans h3, by rw [h4, ha0]; assumption, by rw [h5, hdef]⟩
  | succ fuel ih =>
    intro listed hls hcl hfree hcnt μ a w p ht hn hdef hp hact1 hact2 hsim hlow hlen0 hst
    by_cases hall : ∀ j, j < n0 → listed.getD j false = true
    · have hp' : hs n0 = hs p := hconst p n0 hp (Nat.le_refl _) fun j u hj hj2 hu => by
        cases hx : u.o.still with
        | true => rfl
        | false => have := hact2 j u hj hj2 hu hx; rw [hall j hj2] at this; cases this
      have hts : TR μ (tsS (fun _ => true) vals (vl.take n0) 0 ts0) a := fun t v hv => ht t v (by
        rw [← hv]
        exact tsS_congr _ _ (fun j o hj _ => by
          have : j < (vl.take n0).length := (List.getElem?_eq_some_iff.1 hj).1
          simp only [List.length_take] at this
          simp only [Nat.zero_add]; exact hall j (by omega)) rfl)
      rw [hp'] at hseq
      refine seq_ok hcall hvl hok.s (fuel + 1) n0 (Nat.le_refl _) (by omega) hls (fun j hj => ?_) hcnt hcl hseq (Nat.le_trans hlo hlen0) hts hsim hn fun a' w' ⟨μ', h1, h2, h3, h4, h5⟩ => hQ a' w' ⟨μ', h1, h2, hst.trans h3, by rw [h4, ha0, hn], by rw [h5, hdef]⟩
      cases hx : listed.getD j false with
      | true => simp [hfree j hx]
      | false => by_cases hj2 : j < n0
                 · rw [hall j hj2] at hx; cases hx
                 · simp [hj2]
    · obtain ⟨j0, hj0, hj0l⟩ : ∃ j, j < n0 ∧ listed.getD j false = false := by
        apply Classical.byContradiction
        intro hno
        apply hall
        intro j hj
        cases hx : listed.getD j false with
        | true => rfl
        | false => exact absurd ⟨j, hj, hx⟩ hno
      refine ⟨fun h0 => absurd h0 (ready_some hok.s hls (by omega) hj0l), fun i hi => ?_⟩
      obtain ⟨h1, o, ho, hedge⟩ := mem_ready.1 hi
      obtain ⟨hil, hif, hit⟩ := not_listed h1
      have hin : i < ops.size := (Array.getElem?_eq_some_iff.1 ho).1
      obtain ⟨v, hvi, hcomp⟩ := hget i o (by simpa using ho)
      have hrch : ∀ j, rch ops 24 i j = true → listed.getD j false = true := fun j hr => rch_ok hcl 24 i j hr fun o' ho' e he hb => by rw [ho] at ho'; cases ho'; exact hedge e he hb
      have hi0 : i < n0 := by
        rcases Nat.lt_or_ge i n0 with h | h
        · exact h
        · have := hrch j0 (hok.ord i j0 v (vl[j0]'(by omega)) hvi (List.getElem?_eq_getElem (by omega)) (by omega) (.inl h))
          rw [hj0l] at this; cases this
      -- what conflicts with i has come just if it stands ahead of i
      have hconf : ∀ (j : Nat) u, vl[j]? = some u → (conf v u = true ∨ conf u v = true) → j ≠ i → (listed.getD j false = decide (j < i)) := by
        intro j u hu hc hji
        rcases Nat.lt_or_ge j i with h | h
        · have hc' : conf v u = true ∨ conf u v = true := hc
          -- both orders of the check name the same pair
          have hcc : conf v u = true := by
            rcases hc with h | h
            · exact h
            · rw [conf_comm]; exact h
          rw [hrch j (hok.ord i j v u hvi hu h (.inr hcc))]; simp [h]
        · have hlt : i < j := by omega
          have hcc : conf u v = true := by
            rcases hc with h | h
            · rw [conf_comm]; exact h
            · exact h
          have hnd : decide (j < i) = false := by simp; omega
          rw [hnd]
          cases hx : listed.getD j false with
          | false => rfl
          | true =>
            exfalso
            have hjs : j < ops.size := by rw [hlen]; exact (List.getElem?_eq_some_iff.1 hu).1
            have hr := hok.ord j i u v hu hvi hlt (.inr hcc)
            have := rch_ok hcl 24 j i hr fun o' ho' e he hb => hcl j o' ho' hx e he hb
            rw [hif] at this; cases this
      have htake : (vl.take n0)[i]? = some v := by rw [List.getElem?_take, if_pos hi0]; exact hvi
      have hlook : ∀ t, t ∈ v.looks → lk (tsS (fun j => listed.getD j false) vals (vl.take n0) 0 ts0) t = lk (tsS (fun j => decide (j < i)) vals (vl.take n0) 0 ts0) t := by
        intro t htl
        refine tsS_congr _ _ (fun j u hj hd => ?_) rfl
        simp only [Nat.zero_add]
        rw [List.getElem?_take] at hj
        split at hj
        · by_cases hji : j = i
          · subst hji; rw [hif]; simp
          · exact hconf j u hj (.inl (conf_write hd htl)) hji
        · cases hj
      have hev : ∀ x ∈ v.o.args, ev (tsS (fun j => listed.getD j false) vals (vl.take n0) 0 ts0) x = ev (tsS (fun j => decide (j < i)) vals (vl.take n0) 0 ts0) x := by
        intro x hx
        cases x with
        | c u => rfl
        | t n => exact hlook n (mem_looks hx)
      obtain ⟨b, hb, hrun⟩ := hstep i v htake
      have hb' : wants (tsS (fun j => listed.getD j false) vals (vl.take n0) 0 ts0) v.g = some b := by
        rw [← hb]
        cases hg : v.g with
        | none => rfl
        | some tb =>
          obtain ⟨t, tb⟩ := tb
          simp only [wants]
          rw [hlook t (by simp [VO.looks, hg])]
      have hw := wants_ok ht hcomp hb'
      obtain ⟨hd, hop, hdd, _⟩ := compV_some hcomp
      have hd' : ∀ t, o.dst = some t → t < a.tmps.size := fun t h => by rw [hn]; exact hd t h
      -- the state behind i
      have hcl' : closedS ops (listed.setIfInBounds i true) := by
        intro i' o' ho' hl' e he hb'
        by_cases hii : i' = i
        · subst hii
          rw [ho] at ho'; cases ho'
          exact getD_set_true (hedge e he hb')
        · rw [getD_set_ne false (Ne.symm hii)] at hl'
          exact getD_set_true (hcl i' o' ho' hl' e he hb')
      have hcnt' : cntF (listed.setIfInBounds i true).toList ≤ fuel := by
        rw [Array.toList_setIfInBounds]
        have := cntF_set listed.toList i hit
        omega
      have hfree' : ∀ j, (listed.setIfInBounds i true).getD j false = true → j < n0 := by
        intro j hj
        rw [getD_set hil] at hj
        simp only [Bool.or_eq_true, decide_eq_true_eq] at hj
        rcases hj with rfl | hj
        · exact hi0
        · exact hfree j hj
      have hput : ∀ {μ' : Mu} {r : Value}, Ext μ μ' → R2 μ' (vals i) r → TR μ' (tsS (fun j => (listed.setIfInBounds i true).getD j false) vals (vl.take n0) 0 ts0) (a.put o.dst r) := by
        intro μ' r hx hr t u hu
        by_cases hdt : o.dst = some t
        · have : lk (tsS (fun j => (listed.setIfInBounds i true).getD j false) vals (vl.take n0) 0 ts0) t = some (vals (0 + i)) := by
            refine tsS_at _ 0 i htake (by rw [hdd]; exact hdt) (by rw [Nat.zero_add, getD_set hil]; simp) fun j x hij hx hxd => ?_
            rw [Nat.zero_add, getD_set hil]
            rw [List.getElem?_take] at hx
            split at hx
            · have := hconf j x hx (.inl (conf_both (by rw [hdd]; exact hdt) hxd)) (by omega)
              rw [this]
              simp; omega
            · cases hx
          rw [this, Nat.zero_add] at hu
          cases hu
          exact ⟨r, by rw [hdt]; simp [Act.put, hd' t hdt], hr⟩
        · have : lk (tsS (fun j => (listed.setIfInBounds i true).getD j false) vals (vl.take n0) 0 ts0) t = lk (tsS (fun j => listed.getD j false) vals (vl.take n0) 0 ts0) t := by
            refine tsS_congr _ _ (fun j x hj hxd => ?_) rfl
            simp only [Nat.zero_add]
            rw [getD_set hil]
            by_cases hji : j = i
            · subst hji
              rw [htake] at hj; cases hj
              rw [hdd] at hxd
              exact absurd hxd hdt
            · simp [hji]
          rw [this] at hu
          obtain ⟨x, hx1, hx2⟩ := (ht.ext hx) t u hu
          refine ⟨x, ?_, hx2⟩
          cases hod : o.dst with
          | none => exact hx1
          | some d =>
            simp only [Act.put]
            rw [Array.getElem?_setIfInBounds_ne (fun e => hdt (by rw [hod, e]))]
            exact hx1
      have stillcase : v.o.still = true → (∀ (j : Nat) u, j < p → vl[j]? = some u → u.o.still = false → (listed.setIfInBounds i true).getD j false = true) ∧ (∀ (j : Nat) u, p ≤ j → j < n0 → vl[j]? = some u → u.o.still = false → (listed.setIfInBounds i true).getD j false = false) := by
        intro hstill
        refine ⟨fun j u hj hu hs => getD_set_true (hact1 j u hj hu hs), fun j u hj hj2 hu hs => ?_⟩
        rw [getD_set hil, hact2 j u hj hj2 hu hs]
        have : j ≠ i := by rintro rfl; rw [hvi] at hu; cases hu; rw [hstill] at hs; cases hs
        simp [this]
      have activecase : v.o.still = false → p ≤ i ∧ hs i = hs p ∧ (∀ (j : Nat) u, j < i + 1 → vl[j]? = some u → u.o.still = false → (listed.setIfInBounds i true).getD j false = true) ∧ (∀ (j : Nat) u, i + 1 ≤ j → j < n0 → vl[j]? = some u → u.o.still = false → (listed.setIfInBounds i true).getD j false = false) := by
        intro hstill
        have hpi : p ≤ i := by
          rcases Nat.lt_or_ge i p with h | h
          · have := hact1 i v h hvi hstill; rw [hif] at this; cases this
          · exact h
        refine ⟨hpi, hconst p i hpi (by omega) fun j u hj hj2 hu => ?_, fun j u hj hu hs => ?_, fun j u hj hj2 hu hs => ?_⟩
        · cases hx : u.o.still with
          | true => rfl
          | false =>
            have h1 := hact2 j u hj (by omega) hu hx
            have h2 := hconf j u hu (.inl (conf_active hstill hx)) (by omega)
            rw [h1] at h2; simp at h2; omega
        · rw [getD_set hil]
          by_cases hji : j = i
          · simp [hji]
          · have h2 := hconf j u hu (.inl (conf_active hstill hs)) hji
            rw [h2]; simp; omega
        · rw [getD_set hil]
          have h2 := hconf j u hu (.inl (conf_active hstill hs)) (by omega)
          rw [h2]; simp; omega
      unfold wpOp
      rw [ho]
      simp only
      rw [hw]
      cases b
      · simp only [Bool.false_eq_true, if_false] at hrun ⊢
        obtain ⟨hval, hsame⟩ := hrun
        have hR : R2 μ (vals i) Go.undef := by rw [hval]; exact R2.undef
        cases hstill : v.o.still with
        | true =>
          obtain ⟨g1, g2⟩ := stillcase hstill
          exact ih (by simpa using hls) hcl' hfree' hcnt' (hput (Ext.refl _) hR) (by rw [size_put]; exact hn) (by rw [put_defers]; exact hdef) hp g1 g2 hsim hlow hlen0 hst
        | false =>
          obtain ⟨hpi, hip, g1, g2⟩ := activecase hstill
          rw [← hip, ← hsame] at hsim hlow hlen0 hst
          exact ih (by simpa using hls) hcl' hfree' hcnt' (hput (Ext.refl _) hR) (by rw [size_put]; exact hn) (by rw [put_defers]; exact hdef) (by omega) g1 g2 hsim hlow hlen0 hst
      · simp only [if_true] at hrun ⊢
        cases hstill : v.o.still with
        | true =>
          obtain ⟨g1, g2⟩ := stillcase hstill
          rw [hstill] at hrun
          simp only [if_true] at hrun
          obtain ⟨⟨H1, hv⟩, hsame⟩ := hrun
          have hv' : vop call lo (tsS (fun j => listed.getD j false) vals (vl.take n0) 0 ts0) (hs p) v.o = some (vals i, hs p) := by
            refine vop_still (lo' := lo) hstill (by rw [vop_congr hev]; exact hv) (fun k bl hb => ?_)
            obtain ⟨hkq, hbl⟩ := kill_blk hb
            have hk : k < H0.length := by
              unfold Hp.blk at hbl
              rcases Nat.lt_or_ge k H0.length with h' | h'
              · exact h'
              · rw [List.getElem?_eq_none h'] at hbl; cases hbl
            unfold Hp.blk at hbl ⊢
            rw [hlow k hk hkq]; exact hbl
          refine .inl (op_ok hcall hop hv' (Nat.le_trans hlo hlen0) ht hsim fun r w1 μ1 hR hs1 hst1 => ?_)
          -- memory is as it was
          exact ih (by simpa using hls) hcl' hfree' hcnt' (hput hst1.ext hR) (by rw [size_put]; exact hn) (by rw [put_defers]; exact hdef) hp g1 g2 hs1 hlow hlen0 (hst.trans hst1)
        | false =>
          obtain ⟨hpi, hip, g1, g2⟩ := activecase hstill
          rw [hstill] at hrun
          simp only [Bool.false_eq_true, if_false] at hrun
          rw [← hip] at hsim hlow hlen0 hst
          have hv' : vop call lo (tsS (fun j => listed.getD j false) vals (vl.take n0) 0 ts0) (hs i) v.o = some (vals i, hs (i + 1)) := by
            rw [vop_congr hev]; exact hrun.1
          refine .inl (op_ok hcall hop hv' (Nat.le_trans hlo hlen0) ht hsim fun r w1 μ1 hR hs1 hst1 => ?_)
          exact ih (by simpa using hls) hcl' hfree' hcnt' (hput hst1.ext hR) (by rw [size_put]; exact hn) (by rw [put_defers]; exact hdef) (by omega) g1 g2 hs1
            hrun.2.2 hrun.2.1 (hst.trans hst1)
end
end Go.Proofs.YtohanpndekfbgaaDoor.V
/-! A region that draws its order, with lists of known numbers that are made at whatever time. -/
namespace Go.Proofs.YtohanpndekfbgaaDoor.V
open Go
variable {TT : List (Nat × Obj)}
set_option linter.unusedVariables false
set_option linter.unusedSimpArgs false
section
variable {P : Program} {ops : Array Oper}
theorem kill_get : ∀ (B : List Nat) (H : Hp) (i : Nat), (kill B H)[i]? = if i ∈ B ∧ i < H.length then some none else H[i]?
  | [], H, i => by simp [kill]
  | x :: r, H, i => by
    simp only [kill]
    rw [kill_get r (H.set x none) i, List.length_set, List.getElem?_set]
    by_cases hx : x = i
    · subst hx
      by_cases hl : x < H.length
      · by_cases hr : x ∈ r <;> simp [hl, hr]
      · have : H[x]? = none := List.getElem?_eq_none (by omega)
        simp [hl]
    · have hx' : ¬ i = x := fun e => hx e.symm
      by_cases hr : i ∈ r <;> by_cases hl : i < H.length <;> simp [hx, hx', hr, hl]
theorem kill_len : ∀ (B : List Nat) (H : Hp), (kill B H).length = H.length
  | [], H => rfl
  | x :: r, H => by simp only [kill]; rw [kill_len r, List.length_set]
theorem kill_same {B B' : List Nat} (h : ∀ x, x ∈ B ↔ x ∈ B') (H : Hp) : kill B H = kill B' H := by
  refine List.ext_getElem? fun i => ?_
  rw [kill_get, kill_get]
  by_cases hi : i ∈ B
  · have hi' := (h i).1 hi
    simp only [hi, hi']
  · have : i ∉ B' := fun e => hi ((h i).2 e)
    simp only [hi, this, false_and, if_false]
theorem kill_less {B B' : List Nat} {e : Nat} (h : ∀ x, x ∈ B ↔ (x ∈ B' ∨ x = e)) (he : e ∉ B') {H : Hp} {y : Option Blk} (hy : H[e]? = some y) : kill B' H = (kill B H).set e y := by
  obtain ⟨hl, hye⟩ := List.getElem?_eq_some_iff.1 hy
  refine List.ext_getElem? fun i => ?_
  rw [List.getElem?_set, kill_get, kill_get, kill_len]
  by_cases hi : e = i
  · subst hi
    rw [if_neg (fun hh => he hh.1), if_pos rfl, if_pos hl, hy]
  · rw [if_neg hi]
    have hi' : ¬ i = e := fun hh => hi hh.symm
    by_cases hb : i ∈ B'
    · have : i ∈ B := (h i).2 (.inl hb)
      simp only [hb, this, true_and]
    · have : i ∉ B := fun hh => by
        rcases (h i).1 hh with h2 | h2
        · exact hb h2
        · exact hi' h2
      simp only [hb, this, false_and, if_false]
theorem Sim.grow {μ : Mu} {H G : Hp} {w : World} (hs : Sim TT μ H w) (hl : H.length ≤ G.length) (ho : ∀ i, i < H.length → G[i]? = H[i]?) (hn : ∀ i b, H.length ≤ i → G[i]? ≠ some (some b)) (lo : Nat) : Sim TT μ G w ∧ Stp lo μ H w μ G w := by
  have back : ∀ i b, G[i]? = some (some b) → i < H.length ∧ H[i]? = some (some b) := fun i b hb => by
    rcases Nat.lt_or_ge i H.length with h | h
    · exact ⟨h, by rw [← ho i h]; exact hb⟩
    · exact absurd hb (hn i b h)
  exact ⟨⟨fun i m hi => Nat.lt_of_lt_of_le (hs.dom i m hi) hl, fun i b hb => hs.blk i b (back i b hb).2, fun i j bi bj mi mj hij hi hj hr hq hmi hmj => hs.sep i j bi bj mi mj hij (back i bi hi).2 (back j bj hj).2 hr hq hmi hmj, fun x hx => ⟨(hs.tab x hx).1, fun i b m hb hr hm => (hs.tab x hx).2 i b m (back i b hb).2 hr hm⟩⟩,
    ⟨Ext.refl _, rfl, rfl, rfl, Nat.le_refl _, hl, fun _ _ _ => rfl, fun i bl m hi hb hr hm _ => ⟨i, bl, m, hi, (back i bl hb).2, hr, hm, rfl⟩, fun i _ hi => ho i hi, fun _ _ => rfl, fun i bl h _ _ => (back i bl h).2⟩⟩
theorem RC.lit {μ μ' : Mu} {c r : Value} (h : litC c = true) (hr : RC μ c r) : RC μ' c r := by
  cases c <;> (try simp only [litC, Bool.false_eq_true] at h) <;> try exact hr
  rename_i a n k
  cases a with
  | none => exact hr
  | some a => simp only [litC, Bool.false_eq_true] at h
/-- What was made lies in a place that was kept for it. -/
theorem Sim.float {μ μ1 : Mu} {G : Hp} {w w1 : World} {e : Nat} {b : Blk} (hs : Sim TT μ G w) (he : G[e]? = some none) (hμ : μ e = none) (h1 : Sim TT μ1 (G ++ [some b]) w1) (st : Stp G.length μ G w μ1 (G ++ [some b]) w1) (hrw : b.rw = true) (hc : ∀ c ∈ b.cs, litC c = true) : ∃ μ2, Ext μ μ2 ∧ Sim TT μ2 (G.set e (some b)) w1 ∧ (∀ m, μ1 G.length = some m → μ2 e = some m) ∧ (∀ i, i ≠ e → μ2 i = μ i) ∧ (∀ m, μ2 e = some m → w.heap.size ≤ m.b) := by
  have hel : e < G.length := (List.getElem?_eq_some_iff.1 he).1
  have hgl : (G ++ [some b])[G.length]? = some (some b) := by simp
  obtain ⟨m, hm, hok⟩ := h1.blk G.length b hgl
  have hfr : w.heap.size ≤ m.b := by
    rcases Nat.lt_or_ge m.b w.heap.size with h | h
    · obtain ⟨j, bl', m', hj, hb', _⟩ := st.wr G.length b m (Nat.le_refl _) hgl hrw hm h
      have := (List.getElem?_eq_some_iff.1 hb').1
      omega
    · exact h
  have hold : ∀ k, k < w.heap.size → w1.heap[k]? = w.heap[k]? := fun k hk => st.old k hk fun i bl m hi hb _ _ => by
    have := (List.getElem?_eq_some_iff.1 hb).1; omega
  have hx : Ext μ (upd μ e m) := fun i x h => by
    by_cases hi : i = e
    · rw [hi, hμ] at h; cases h
    · rw [upd_ne hi]; exact h
  have get : ∀ i bi, (G.set e (some b))[i]? = some (some bi) → (i = e ∧ bi = b) ∨ (i ≠ e ∧ G[i]? = some (some bi)) := fun i bi h => by
    rw [List.getElem?_set] at h
    by_cases hi : e = i
    · rw [if_pos hi, if_pos hel] at h; cases h; exact .inl ⟨hi.symm, rfl⟩
    · rw [if_neg hi] at h; exact .inr ⟨fun h => hi h.symm, h⟩
  refine ⟨upd μ e m, hx, ⟨fun i x h => ?_, fun i bi h => ?_, fun i j bi bj mi mj hij hbi hbj hr hq hmi hmj => ?_, fun y hy => ⟨(h1.tab y hy).1, fun i bi mi h hr hm' => by
    rcases get i bi h with ⟨rfl, rfl⟩ | ⟨hi, hb⟩
    · rw [upd_same] at hm'
      cases hm'
      have := hs.tabLt hy
      omega
    · rw [upd_ne hi] at hm'
      exact (hs.tab y hy).2 i bi mi hb hr hm'⟩⟩, ?_, fun i hi => upd_ne hi, fun m' hm' => by rw [upd_same] at hm'; cases hm'; exact hfr⟩
  · rw [List.length_set]
    by_cases hi : i = e
    · omega
    · rw [upd_ne hi] at h; exact hs.dom i x h
  · rcases get i bi h with ⟨rfl, rfl⟩ | ⟨hi, hb⟩
    · refine ⟨m, upd_same _ _ _, fun j c hj => ?_, hok.k0, hok.rw⟩
      obtain ⟨r, h1, h2⟩ := hok.cells j c hj
      exact ⟨r, h1, h2.lit (hc c (List.mem_of_getElem? hj))⟩
    · obtain ⟨mi, hmi, hoki⟩ := hs.blk i bi hb
      refine ⟨mi, by rw [upd_ne hi]; exact hmi, ?_⟩
      by_cases hq : bi.cs ≠ [] ∨ bi.rw = true
      · exact (hoki.keep (hold _ (hoki.lt hq))).ext hx
      · simp only [not_or, ne_eq, Decidable.not_not, Bool.not_eq_true] at hq
        exact (hoki.dull hq.1 hq.2).ext hx
  · rcases get i bi hbi with ⟨rfl, rfl⟩ | ⟨hi, hbi⟩
    · rcases get j bj hbj with ⟨rfl, rfl⟩ | ⟨hj, hbj⟩
      · exact absurd rfl hij
      · rw [upd_same] at hmi; cases hmi
        rw [upd_ne hj] at hmj
        obtain ⟨mj', hmj', hokj⟩ := hs.blk j bj hbj
        rw [hmj] at hmj'; cases hmj'
        have := hokj.lt hq
        omega
    · rw [upd_ne hi] at hmi
      obtain ⟨mi', hmi', hoki⟩ := hs.blk i bi hbi
      rw [hmi] at hmi'; cases hmi'
      rcases get j bj hbj with ⟨rfl, rfl⟩ | ⟨hj, hbj⟩
      · rw [upd_same] at hmj; cases hmj
        have := hoki.lt (.inr hr)
        omega
      · rw [upd_ne hj] at hmj
        exact hs.sep i j bi bj mi mj hij hbi hbj hr hq hmi hmj
  · intro m' hm'
    rw [hm] at hm'; cases hm'
    exact upd_same _ _ _
theorem Stp.float {lo : Nat} {μ0 μ μ1 μ2 : Mu} {H0 G : Hp} {w0 w w1 : World} {e : Nat} {b : Blk} (hrw : b.rw = true) (a : Stp lo μ0 H0 w0 μ G w) (st : Stp G.length μ G w μ1 (G ++ [some b]) w1) (hlo : lo ≤ H0.length) (he : H0.length ≤ e) (hel : e < G.length) (hx : Ext μ μ2) (h2 : ∀ i, i ≠ e → μ2 i = μ i) (h3 : ∀ m, μ2 e = some m → w.heap.size ≤ m.b) : Stp lo μ0 H0 w0 μ2 (G.set e (some b)) w1 where
  ext := a.ext.trans hx
  os := st.os.trans a.os
  tape := st.tape.trans a.tape
  output := st.output.trans a.output
  size := Nat.le_trans a.size st.size
  len := by rw [List.length_set]; exact a.len
  old := fun k hk hn => by
    rw [st.old k (Nat.lt_of_lt_of_le hk a.size) fun i bl m hi hb _ _ => by have := (List.getElem?_eq_some_iff.1 hb).1; omega, a.old k hk hn]
  wr := fun i bl m hi hb hr hm hk => by
    by_cases hie : i = e
    · rw [hie] at hm
      have := h3 m hm
      have := a.size
      omega
    · rw [List.getElem?_set, if_neg (fun h => hie h.symm)] at hb
      rw [h2 i hie] at hm
      exact a.wr i bl m hi hb hr hm hk
  low := fun i hi hl => by rw [List.getElem?_set, if_neg (by omega)]; exact a.low i hi hl
  agree := fun i hi => by rw [h2 i (by omega)]; exact a.agree i hi
  ro := fun i bl h hr hc => by
    rw [List.getElem?_set] at h
    by_cases hie : e = i
    · rw [if_pos hie, if_pos hel] at h
      cases h
      rw [hrw] at hr; cases hr
    · rw [if_neg hie] at h
      exact a.ro i bl h hr hc
theorem back_len : ∀ (K : List Nat) (H G : Hp), (back K H G).length = G.length
  | [], _, _ => rfl
  | x :: r, H, G => by rw [back, back_len r, List.length_set]
theorem back_get : ∀ (K : List Nat) (H G : Hp) (i : Nat), (back K H G)[i]? = if i ∈ K ∧ i < G.length then some ((H[i]?).getD none) else G[i]?
  | [], H, G, i => by simp [back]
  | x :: r, H, G, i => by
    rw [back, back_get r, List.length_set, List.getElem?_set]
    by_cases hl : i < G.length
    · by_cases hr : i ∈ r
      · simp [hr, hl]
      · by_cases hx : x = i
        · subst hx; simp [hr, hl]
        · have h2 : ¬ i = x := fun e => hx e.symm
          simp [hr, hl, hx, h2]
    · have h0 : G[i]? = none := List.getElem?_eq_none (by omega)
      by_cases hx : x = i
      · subst hx; simp [hl, h0]
      · simp [hl, hx]
/-- Less is known of a state. -/
theorem Sim.less {μ : Mu} {H : Hp} {w : World} {U K : List Nat} (hU : ∀ x, x ∈ U → x ∈ K) (hs : Sim TT μ (V.kill U H) w) : Sim TT μ (V.kill K H) w := by
  have old : ∀ (i : Nat) (b : Blk), (V.kill K H)[i]? = some (some b) → (V.kill U H)[i]? = some (some b) := fun i b h => by
    rw [kill_get] at h ⊢
    by_cases hk : i ∈ K ∧ i < H.length
    · rw [if_pos hk] at h; cases h
    · rw [if_neg hk] at h
      rw [if_neg (fun hh => hk ⟨hU _ hh.1, hh.2⟩)]; exact h
  exact ⟨fun i m h => by have := hs.dom i m h; rw [kill_len] at this ⊢; exact this, fun i b h => hs.blk i b (old i b h), fun i j bi bj mi mj hij hi hj hr hq hmi hmj => hs.sep i j bi bj mi mj hij (old i bi hi) (old j bj hj) hr hq hmi hmj, fun x hx => ⟨(hs.tab x hx).1, fun i b m h hr hm => (hs.tab x hx).2 i b m (old i b h) hr hm⟩⟩
/-- What was reckoned without some blocks holds with them. -/
theorem Sim.back {μ μ1 : Mu} {H H1 : Hp} {w w1 : World} {U K : List Nat} {lo : Nat} (hU : ∀ x, x ∈ U → x ∈ K) (hs : Sim TT μ (V.kill U H) w) (h1 : Sim TT μ1 H1 w1) (st : Stp lo μ (V.kill K H) w μ1 H1 w1) (hlo : lo ≤ H.length) :
    Sim TT μ1 (V.kill U (V.back K H H1)) w1 ∧ Stp lo μ (V.kill U H) w μ1 (V.kill U (V.back K H H1)) w1 := by
  have hlen : H.length ≤ H1.length := by have := st.len; rwa [kill_len] at this
  have lG : (V.kill U (V.back K H H1)).length = H1.length := by rw [kill_len, back_len]
  have get : ∀ (i : Nat) (b : Blk), (V.kill U (V.back K H H1))[i]? = some (some b) → (i ∈ K ∧ i ∉ U ∧ H[i]? = some (some b)) ∨ (i ∉ K ∧ H1[i]? = some (some b)) := by
    intro i b h
    rw [kill_get, back_len, back_get] at h
    by_cases hu : i ∈ U ∧ i < H1.length
    · rw [if_pos hu] at h; cases h
    · rw [if_neg hu] at h
      by_cases hk : i ∈ K ∧ i < H1.length
      · rw [if_pos hk] at h
        refine .inl ⟨hk.1, fun hh => hu ⟨hh, hk.2⟩, ?_⟩
        cases hx : H[i]? with
        | none => rw [hx] at h; cases h
        | some y => rw [hx] at h; simpa using h
      · rw [if_neg hk] at h
        have hil := (List.getElem?_eq_some_iff.1 h).1
        exact .inr ⟨fun hh => hk ⟨hh, hil⟩, h⟩
  have kk : ∀ (i : Nat) (b : Blk), (V.kill K H)[i]? = some (some b) → i ∉ K := fun i b h hi => by
    rw [kill_get] at h
    by_cases hl : i < H.length
    · rw [if_pos ⟨hi, hl⟩] at h; cases h
    · rw [if_neg (fun hh => hl hh.2), List.getElem?_eq_none (by omega)] at h; cases h
  have old : ∀ (i : Nat) (b : Blk), (V.kill K H)[i]? = some (some b) → (V.kill U H)[i]? = some (some b) := fun i b h => by
    have hi := kk i b h
    rw [kill_get] at h ⊢
    rw [if_neg (fun hh => hi hh.1)] at h
    rw [if_neg (fun hh => hi (hU _ hh.1))]; exact h
  have fl : ∀ (i : Nat) (b : Blk), i ∉ U → H[i]? = some (some b) → (V.kill U H)[i]? = some (some b) := fun i b hu h => by rw [kill_get, if_neg (fun hh => hu hh.1)]; exact h
  have lt : ∀ (i : Nat) (b : Blk), H[i]? = some (some b) → i < (V.kill K H).length := fun i b h => by rw [kill_len]; exact (List.getElem?_eq_some_iff.1 h).1
  have keep : ∀ (i : Nat) (b : Blk) (m : MA), i ∈ K → (V.kill U H)[i]? = some (some b) → (b.cs ≠ [] ∨ b.rw = true) → μ i = some m → m.b < w.heap.size → w1.heap[m.b]? = w.heap[m.b]? := fun i b m hi hb hq hm hlt => st.old _ hlt fun j bl m' hj hbl hr hm' e => by
    have hjK := kk j bl hbl
    exact hs.sep j i bl b m' m (fun e => hjK (e ▸ hi)) (old j bl hbl) hb hr hq hm' hm e
  -- a block that an operation left or made has, if its real block is old, a block of that place ahead of it
  have src : ∀ (j : Nat) (bj : Blk) (mj : MA), H1[j]? = some (some bj) → (bj.cs ≠ [] ∨ bj.rw = true) → μ1 j = some mj → mj.b < w.heap.size → ∃ (j' : Nat) (bl' : Blk) (m' : MA), j' ∉ K ∧ (V.kill U H)[j']? = some (some bl') ∧ (bl'.cs ≠ [] ∨ bl'.rw = true) ∧ (bj.rw = true → bl'.rw = true) ∧ μ j' = some m' ∧ m'.b = mj.b := by
    intro j bj mj hj hq hmj hlt
    by_cases hrj : bj.rw = true
    · by_cases hjl : lo ≤ j
      · obtain ⟨j', bl', m', hj', hb', hr', hm', e'⟩ := st.wr j bj mj hjl hj hrj hmj hlt
        exact ⟨j', bl', m', kk j' bl' hb', old j' bl' hb', .inr hr', fun _ => hr', hm', e'⟩
      · have e := st.low j (by omega) (by rw [kill_len]; omega)
        rw [hj] at e
        exact ⟨j, bj, mj, kk j bj e.symm, old j bj e.symm, hq, fun h => h, by rw [← st.agree j (by rw [kill_len]; omega)]; exact hmj, rfl⟩
    · have hc : bj.cs ≠ [] := hq.resolve_right hrj
      have e := st.ro j bj hj (by cases h : bj.rw; rfl; exact absurd h hrj) hc
      exact ⟨j, bj, mj, kk j bj e, old j bj e, hq, fun h => h, by rw [← st.agree j (List.getElem?_eq_some_iff.1 e).1]; exact hmj, rfl⟩
  refine ⟨⟨fun i m h => by rw [lG]; exact h1.dom i m h, fun i b h => ?_, fun i j bi bj mi mj hij hi hj hr hq hmi hmj => ?_, fun x hx => ⟨(h1.tab x hx).1, fun i b m h hr hm => by
    rcases get i b h with ⟨hk, hu, hb⟩ | ⟨hk, hb⟩
    · exact (hs.tab x hx).2 i b m (fl i b hu hb) hr ((st.agree i (lt i b hb)).symm.trans hm)
    · exact (h1.tab x hx).2 i b m hb hr hm⟩⟩, ⟨st.ext, st.os, st.tape, st.output, st.size, by rw [kill_len, lG]; exact hlen, fun b hb hn => st.old b hb fun i bl m hi hbl hr hm => hn i bl m hi (old i bl hbl) hr hm, fun i bl m hi hb hr hm hlt => ?_, fun i hi hl => ?_, fun i hi => st.agree i (by rw [kill_len] at hi ⊢; exact hi), fun i bl h hr hc => ?_⟩⟩
  · rcases get i b h with ⟨hk, hu, hb⟩ | ⟨hk, hb⟩
    · obtain ⟨m, hm, hok⟩ := hs.blk i b (fl i b hu hb)
      refine ⟨m, st.ext _ _ hm, ?_⟩
      by_cases hq : b.cs ≠ [] ∨ b.rw = true
      · exact (hok.keep (keep i b m hk (fl i b hu hb) hq hm (hok.lt hq))).ext st.ext
      · simp only [not_or, ne_eq, Decidable.not_not, Bool.not_eq_true] at hq
        exact (hok.dull hq.1 hq.2).ext st.ext
    · exact h1.blk i b hb
  · rcases get i bi hi with ⟨hki, hui, hbi⟩ | ⟨hki, hbi⟩
    · have hmi' : μ i = some mi := (st.agree i (lt i bi hbi)).symm.trans hmi
      rcases get j bj hj with ⟨hkj, huj, hbj⟩ | ⟨hkj, hbj⟩
      · exact hs.sep i j bi bj mi mj hij (fl i bi hui hbi) (fl j bj huj hbj) hr hq hmi' ((st.agree j (lt j bj hbj)).symm.trans hmj)
      · intro e
        obtain ⟨m0, hm0, hok⟩ := hs.blk i bi (fl i bi hui hbi)
        rw [hmi'] at hm0; cases hm0
        obtain ⟨j', bl', m', hk', hb', hq', _, hm', e'⟩ := src j bj mj hbj hq hmj (by rw [← e]; exact hok.lt (.inr hr))
        exact hs.sep i j' bi bl' mi m' (fun h => hk' (h ▸ hki)) (fl i bi hui hbi) hb' hr hq' hmi' hm' (e.trans e'.symm)
    · rcases get j bj hj with ⟨hkj, huj, hbj⟩ | ⟨hkj, hbj⟩
      · intro e
        have hmj' : μ j = some mj := (st.agree j (lt j bj hbj)).symm.trans hmj
        obtain ⟨m0, hm0, hok⟩ := hs.blk j bj (fl j bj huj hbj)
        rw [hmj'] at hm0; cases hm0
        obtain ⟨j', bl', m', hk', hb', _, hr', hm', e'⟩ := src i bi mi hbi (.inr hr) hmi (by rw [e]; exact hok.lt hq)
        exact hs.sep j' j bl' bj m' mj (fun h => hk' (h ▸ hkj)) hb' (fl j bj huj hbj) (hr' hr) hq hm' hmj' (e'.trans e)
      · exact h1.sep i j bi bj mi mj hij hbi hbj hr hq hmi hmj
  · rcases get i bl hb with ⟨hk, hu, hb⟩ | ⟨hk, hb⟩
    · exact ⟨i, bl, m, hi, fl i bl hu hb, hr, (st.agree i (lt i bl hb)).symm.trans hm, rfl⟩
    · obtain ⟨j, bl', m', hj, hb', x⟩ := st.wr i bl m hi hb hr hm hlt
      exact ⟨j, bl', m', hj, old j bl' hb', x⟩
  · rw [kill_len] at hl
    have e := st.low i hi (by rw [kill_len]; exact hl)
    rw [kill_get] at e
    rw [kill_get, kill_get, back_len, back_get]
    by_cases hu : i ∈ U
    · rw [if_pos ⟨hu, by omega⟩, if_pos ⟨hu, hl⟩]
    · have n1 : ¬ (i ∈ U ∧ i < H1.length) := fun hh => hu hh.1
      have n2 : ¬ (i ∈ U ∧ i < H.length) := fun hh => hu hh.1
      rw [if_neg n1, if_neg n2]
      by_cases hk : i ∈ K
      · have p1 : i ∈ K ∧ i < H1.length := ⟨hk, by omega⟩
        rw [if_pos p1, List.getElem?_eq_getElem hl, Option.getD_some]
      · have n3 : ¬ (i ∈ K ∧ i < H1.length) := fun hh => hk hh.1
        have n4 : ¬ (i ∈ K ∧ i < H.length) := fun hh => hk hh.1
        rw [if_neg n4] at e
        rw [if_neg n3]; exact e
  · rcases get i bl h with ⟨hk, hu, hb⟩ | ⟨hk, hb⟩
    · exact fl i bl hu hb
    · exact old i bl (st.ro i bl hb hr hc)
theorem confF_write {v u : VO} {t : Nat} (h1 : u.d = some t) (h2 : t ∈ v.looks) : confF v u = true := by
  simp only [confF, h1, Bool.or_eq_true, List.contains_iff_mem]
  exact .inl (.inl (.inl h2))
theorem confF_both {v u : VO} {t : Nat} (h1 : v.d = some t) (h2 : u.d = some t) : confF v u = true := by
  simp [confF, h1, h2]
theorem confF_comm (v u : VO) : confF v u = confF u v := by
  unfold confF
  have e : (!v.o.still && !u.o.still && !isF v && !isF u) = (!u.o.still && !v.o.still && !isF u && !isF v) := by
    cases v.o.still <;> cases u.o.still <;> cases isF v <;> cases isF u <;> rfl
  rw [e]
  generalize (!u.o.still && !v.o.still && !isF u && !isF v) = r
  cases u.d with
  | none => cases v.d with
    | none => rfl
    | some e => simp
  | some d => cases v.d with
    | none => simp
    | some e =>
      have h : ((some e : Option Nat) == some d) = (some d == some e) := BEq.comm
      simp only [h]
      generalize v.looks.contains d = p
      generalize u.looks.contains e = q
      generalize ((some d : Option Nat) == some e) = s
      cases p <;> cases q <;> cases r <;> cases s <;> rfl
theorem confF_active {v u : VO} (h1 : v.o.still = false ∧ isF v = false) (h2 : u.o.still = false ∧ isF u = false) : confF v u = true := by
  simp [confF, h1.1, h1.2, h2.1, h2.2]
theorem isF_some {o : VO} (h : isF o = true) : ∃ x, flo o = some x := Option.isSome_iff_exists.1 h
theorem isF_none {o : VO} (h : isF o = false) : flo o = none := by
  unfold isF at h
  cases hf : flo o with
  | none => rfl
  | some x => rw [hf] at h; cases h
theorem vfill_lit {ts : Ts} : ∀ {ps : List (Nat × Nat × Arg)} {cs : List Value}, ps.all (fun p => litA p.2.2) = true → vfill cs ts ps = vfill cs [] ps := fun {ps cs} h => vfill_congr fun x hx => by
  obtain ⟨p, hp, rfl⟩ := List.mem_map.1 hx
  have := List.all_eq_true.1 h p hp
  cases hq : p.2.2 with
  | c v => rfl
  | t n => rw [hq] at this; cases this
theorem flo_op {o : VO} {x : Blk × (Nat → Value)} (h : flo o = some x) : o.g = none ∧ x.1.rw = true ∧ (∀ c ∈ x.1.cs, litC c = true) ∧ o.o.still = false ∧ (∀ (call : Cal) (lo : Nat) (ts : Ts) (G : Hp), vop call lo ts G o.o = some (x.2 G.length, G ++ [some x.1])) ∧
    ∀ (μ1 μ2 : Mu) (c e : Nat) (r : Value), (∀ m, μ1 c = some m → μ2 e = some m) → R2 μ1 (x.2 c) r → R2 μ2 (x.2 e) r := by
  obtain ⟨d, g, op⟩ := o
  unfold flo at h
  split at h
  · rename_i st z n ps hg ho
    simp only at hg ho
    subst hg ho
    split at h
    · rename_i hl
      simp only [Option.bind_eq_some_iff] at h
      obtain ⟨cs, hcs, h⟩ := h
      split at h
      · rename_i hlit
        cases h
        exact ⟨rfl, rfl, fun c hc => List.all_eq_true.1 hlit c hc, rfl, fun call lo ts G => by simp only [vop]; rw [vfill_lit hl, hcs]; rfl, fun μ1 μ2 c e r hm hR => by
          obtain ⟨hsp, m', hm', hrest⟩ := hR
          exact ⟨hsp, m', hm m' hm', hrest⟩⟩
      · cases h
    · cases h
  · rename_i z hg ho
    simp only at hg ho
    subst hg ho
    split at h
    · rename_i hlit
      cases h
      exact ⟨rfl, rfl, fun c hc => List.all_eq_true.1 hlit c hc, rfl, fun call lo ts G => by simp only [vop], fun μ1 μ2 c e r hm hR => by
        obtain ⟨hsp, m', hm', hrest⟩ := hR
        exact ⟨hsp, m', hm m' hm', hrest⟩⟩
    · cases h
  · cases h
theorem flx_mem : ∀ {l : List VO} {c k : Nat} {u : VO}, l[k]? = some u → isF u = true → (cF l c k, u.d) ∈ flx l c
  | [], c, k, u, h, _ => by simp at h
  | o :: r, c, 0, u, h, hf => by
    simp only [List.getElem?_cons_zero, Option.some.injEq] at h; subst h
    rw [cF_zero]; simp only [flx, hf, if_true]; exact List.mem_cons_self
  | o :: r, c, k + 1, u, h, hf => by
    have := flx_mem (c := if isF o = true then c + 1 else c) (l := r) (k := k) (by simpa using h) hf
    rw [cF_succ]
    simp only [flx]
    split
    · rename_i ho; rw [if_pos ho] at this; exact List.mem_cons_of_mem _ this
    · rename_i ho; rw [if_neg ho] at this; exact this
theorem cF_lt {l : List VO} {c : Nat} : ∀ {k k' : Nat} {u : VO}, l[k]? = some u → isF u = true → k < k' → cF l c k < cF l c k' := by
  intro k k' u h hf hk
  have hl : k < l.length := (List.getElem?_eq_some_iff.1 h).1
  have e : cF l c (k + 1) = cF l c k + 1 := by
    unfold cF
    rw [List.take_succ_eq_append_getElem hl, List.filter_append, List.length_append]
    have : l[k] = u := (List.getElem?_eq_some_iff.1 h).2
    rw [this, List.filter_cons, if_pos hf]; rfl
  have mono : ∀ n, cF l c (k + 1) ≤ cF l c (k + 1 + n) := fun n => by
    unfold cF
    have : (l.take (k + 1)).Sublist (l.take (k + 1 + n)) := by
      have e2 : l.take (k + 1) = (l.take (k + 1 + n)).take (k + 1) := by rw [List.take_take]; congr 1; omega
      rw [e2]; exact List.take_sublist _ _
    have := (this.filter isF).length_le
    omega
  have := mono (k' - (k + 1))
  rw [show k + 1 + (k' - (k + 1)) = k' by omega] at this
  omega
theorem flos_at : ∀ {l : List VO} {c k : Nat} {u : VO} {x : Blk × (Nat → Value)} {H : Hp}, H.length = c → l[k]? = some u → flo u = some x → (H ++ flos l)[cF l c k]? = some (some x.1)
  | [], c, k, u, x, H, _, h, _ => by simp at h
  | o :: r, c, 0, u, x, H, hc, h, hf => by
    simp only [List.getElem?_cons_zero, Option.some.injEq] at h; subst h
    rw [cF_zero, ← hc, List.getElem?_append_right (Nat.le_refl _), Nat.sub_self]
    simp only [flos, List.filterMap_cons, flB, hf, Option.map_some, List.getElem?_cons_zero]
  | o :: r, c, k + 1, u, x, H, hc, h, hf => by
    rw [cF_succ]
    cases ho : flo o with
    | none =>
      have hn : ¬ isF o = true := by unfold isF; rw [ho]; simp
      have := flos_at (l := r) (c := c) (k := k) (H := H) hc (by simpa using h) hf
      rw [if_neg hn]
      simpa only [flos, List.filterMap_cons, flB, ho, Option.map_none] using this
    | some y =>
      have hn : isF o = true := by unfold isF; rw [ho]; rfl
      have := flos_at (l := r) (c := c + 1) (k := k) (H := H ++ [some y.1]) (by simp [hc]) (by simpa using h) hf
      rw [if_pos hn]
      simpa only [flos, List.filterMap_cons, flB, ho, Option.map_some, List.append_assoc, List.singleton_append] using this
theorem flos_len : ∀ (l : List VO) (c : Nat), (flos l).length + c = cF l c l.length
  | [], c => by simp [flos, cF]
  | o :: r, c => by
    rw [List.length_cons, cF_succ]
    cases ho : flo o with
    | none =>
      have hn : ¬ isF o = true := by unfold isF; rw [ho]; simp
      rw [if_neg hn, ← flos_len r c]
      simp only [flos, List.filterMap_cons, flB, ho, Option.map_none]
    | some y =>
      have hn : isF o = true := by unfold isF; rw [ho]; rfl
      rw [if_pos hn, ← flos_len r (c + 1)]
      simp only [flos, List.filterMap_cons, flB, ho, Option.map_some, List.length_cons]
      omega
theorem flos_cover : ∀ (l : List VO) (c i : Nat), c ≤ i → i < (flos l).length + c → ∃ k u, l[k]? = some u ∧ isF u = true ∧ cF l c k = i
  | [], c, i, h1, h2 => by simp [flos] at h2; omega
  | o :: r, c, i, h1, h2 => by
    cases ho : flo o with
    | none =>
      have hn : ¬ isF o = true := by unfold isF; rw [ho]; simp
      have e : flos (o :: r) = flos r := by simp only [flos, List.filterMap_cons, flB, ho, Option.map_none]
      rw [e] at h2
      obtain ⟨k, u, a, b, d⟩ := flos_cover r c i h1 h2
      exact ⟨k + 1, u, by simpa using a, b, by rw [cF_succ, if_neg hn]; exact d⟩
    | some y =>
      have hn : isF o = true := by unfold isF; rw [ho]; rfl
      have e : (flos (o :: r)).length = (flos r).length + 1 := by simp only [flos, List.filterMap_cons, flB, ho, Option.map_some, List.length_cons]
      rw [e] at h2
      by_cases hi : i = c
      · exact ⟨0, o, rfl, hn, by rw [cF_zero]; exact hi.symm⟩
      · obtain ⟨k, u, a, b, d⟩ := flos_cover r (c + 1) i (by omega) (by omega)
        exact ⟨k + 1, u, by simpa using a, b, by rw [cF_succ, if_pos hn]; exact d⟩
/-- What lists of known numbers have not come. -/
def unl (vl : List VO) (n0 c0 : Nat) (listed : Array Bool) : List Nat := (List.range n0).filterMap fun k => match vl[k]? with
  | some u => if isF u = true ∧ listed.getD k false = false then some (cF (vl.take n0) c0 k) else none
  | none => none
theorem mem_unl {vl : List VO} {n0 c0 : Nat} {listed : Array Bool} {x : Nat} : x ∈ unl vl n0 c0 listed ↔ ∃ k u, k < n0 ∧ vl[k]? = some u ∧ isF u = true ∧ listed.getD k false = false ∧ x = cF (vl.take n0) c0 k := by
  unfold unl
  rw [List.mem_filterMap]
  constructor
  · rintro ⟨k, hk, h⟩
    have hk := List.mem_range.1 hk
    cases hv : vl[k]? with
    | none => rw [hv] at h; cases h
    | some u =>
      rw [hv] at h
      simp only at h
      split at h
      · rename_i hc
        cases h
        exact ⟨k, u, hk, hv, hc.1, hc.2, rfl⟩
      · cases h
  · rintro ⟨k, u, hk, hv, hf, hl, rfl⟩
    exact ⟨k, List.mem_range.2 hk, by rw [hv]; simp only; rw [if_pos ⟨hf, hl⟩]⟩
variable {call : Cal} (hcall : CalOK TT P call) {nt : Nat} {vl : List VO} (hvl : compVs P nt ops ops.toList = some vl) {n0 : Nat} (hok : OKF ops vl n0) {lo : Nat} {Q : Exit → Act → World → Prop}
include hcall hvl hok
theorem free_okF {q : List Nat} {ts0 ts' : Ts} {H0 H' : Hp} {vals : Nat → Value} {hs : Nat → Hp} (hn0 : n0 ≤ vl.length)
    (hstep : ∀ (i : Nat) o, (vl.take n0)[i]? = some o → StepAtF call lo q H0 (flx (vl.take n0) H0.length) (cF (vl.take n0) H0.length i) o (tsS (fun j => decide (j < i)) vals (vl.take n0) 0 ts0) (vals i) (hs i) (hs (i + 1)))
    (hseq : vops call lo (vl.drop n0) (tsS (fun _ => true) vals (vl.take n0) 0 ts0) (hs n0) = some (ts', H')) (hlo : lo ≤ H0.length) {μ0 : Mu} {w0 : World} {a0 : Act} (ha0 : a0.tmps.size = nt)
    (hs0 : Sim TT μ0 H0 w0) (hQ : ∀ a' w', Fin TT lo μ0 H0 w0 a0 ts' H' a' w' → Q .normal a' w') : ∀ (fuel : Nat) {listed : Array Bool}, listed.size = ops.size → closedS ops listed → (∀ j, listed.getD j false = true → j < n0) → cntF listed.toList ≤ fuel →
    ∀ {μ : Mu} {a : Act} {w : World} {p : Nat}, TR μ (tsS (fun j => listed.getD j false) vals (vl.take n0) 0 ts0) a → a.tmps.size = nt → a.defers = a0.defers → p ≤ n0 → (∀ (j : Nat) u, j < p → vl[j]? = some u → (u.o.still = false ∧ isF u = false) → listed.getD j false = true) →
      (∀ (j : Nat) u, p ≤ j → j < n0 → vl[j]? = some u → (u.o.still = false ∧ isF u = false) → listed.getD j false = false) → Sim TT μ (kill (unl vl n0 H0.length listed) (hs p)) w → (∀ (k : Nat) u x, k < n0 → vl[k]? = some u → flo u = some x → listed.getD k false = false → μ (cF (vl.take n0) H0.length k) = none ∧ (hs p)[cF (vl.take n0) H0.length k]? = some (some x.1)) → (∀ i, i < H0.length → i ∉ q → (hs p)[i]? = H0[i]?) → H0.length ≤ (hs p).length → Stp lo μ0 H0 w0 μ (kill (unl vl n0 H0.length listed) (hs p)) w → wpAny P .any ops Q fuel listed a w := by
  obtain ⟨hlen, hget⟩ := compVs_get hvl
  rw [Array.length_toList] at hlen
  have hconst : ∀ (p q : Nat), p ≤ q → q ≤ n0 → (∀ (j : Nat) u, p ≤ j → j < q → vl[j]? = some u → ¬ (u.o.still = false ∧ isF u = false)) → hs q = hs p := by
    intro p q hpq hq hst
    induction q with
    | zero => obtain rfl : p = 0 := by omega
              rfl
    | succ q ih =>
      rcases Nat.lt_or_ge q p with h | h
      · obtain rfl : p = q + 1 := by omega
        rfl
      · rw [← ih h (by omega) fun j u hj hj2 => hst j u hj (by omega)]
        have hlt : q < vl.length := by omega
        have hv := List.getElem?_eq_getElem hlt
        have hb := hstep q vl[q] (by rw [List.getElem?_take, if_pos (by omega)]; exact hv)
        unfold StepAtF at hb
        cases hf : flo vl[q] with
        | some x => rw [hf] at hb; exact hb.2
        | none =>
          rw [hf] at hb
          obtain ⟨b, _, hb⟩ := hb
          have hnf : isF vl[q] = false := by unfold isF; rw [hf]; rfl
          have hst' : vl[q].o.still = true := by
            cases hx : vl[q].o.still with
            | true => rfl
            | false => exact absurd ⟨hx, hnf⟩ (hst q _ h (by omega) hv)
          rw [hst'] at hb
          cases b
          · simp only [Bool.false_eq_true, if_false] at hb; exact hb.2
          · simp only [if_true] at hb; exact hb.2
  have hunl : ∀ {listed : Array Bool}, (∀ j, j < n0 → listed.getD j false = true) → unl vl n0 H0.length listed = [] := fun {listed} hall => by
    rw [List.eq_nil_iff_forall_not_mem]
    intro x hx
    obtain ⟨k, u, hk, _, _, hl, _⟩ := mem_unl.1 hx
    rw [hall k hk] at hl; cases hl
  intro fuel
  induction fuel with
  | zero =>
    intro listed hls hcl hfree hcnt μ a w p ht hn hdef hp hact1 hact2 hsim hfl hlow hlen0 hst
    -- all is listed, so there is no rest
    have hall : ∀ j, j < ops.size → listed.getD j false = true := by
      intro j hj
      cases hx : listed.getD j false with
      | true => rfl
      | false =>
        have h1 := cntF_zero listed.toList j (by omega)
        exact absurd (by simp [hls, hj] at hx ⊢; exact hx) h1
    have hn : n0 = ops.size := by
      rcases Nat.lt_or_ge n0 ops.size with h | h
      · have := hfree n0 (hall n0 h); omega
      · omega
    have hp' : hs n0 = hs p := hconst p n0 hp (Nat.le_refl _) fun j u hj hj2 hu hx => by
      have := hact2 j u hj hj2 hu hx; rw [hall j (by omega)] at this; cases this
    have hts : TR μ (tsS (fun _ => true) vals (vl.take n0) 0 ts0) a := fun t v hv => ht t v (by
      rw [← hv]
      exact tsS_congr _ _ (fun j o hj _ => by
        have : j < (vl.take n0).length := (List.getElem?_eq_some_iff.1 hj).1
        simp only [List.length_take] at this
        simp only [Nat.zero_add]; exact hall j (by omega)) rfl)
    rw [hp'] at hseq
    rw [hunl (fun j hj => hall j (by omega))] at hsim hst
    refine seq_ok hcall hvl hok.s 0 n0 (Nat.le_refl _) (by omega) hls (fun j hj => by rw [hall j hj]; simp; omega) hcnt hcl hseq (Nat.le_trans hlo hlen0) hts hsim (by assumption) fun a' w' ⟨μ', h1, h2, h3, h4, h5⟩ => hQ a' w' ⟨μ', h1, h2, hst.trans h3, by rw [h4, ha0]; assumption, by rw [h5, hdef]⟩
  | succ fuel ih =>
    intro listed hls hcl hfree hcnt μ a w p ht hn hdef hp hact1 hact2 hsim hfl hlow hlen0 hst
    by_cases hall : ∀ j, j < n0 → listed.getD j false = true
    · have hp' : hs n0 = hs p := hconst p n0 hp (Nat.le_refl _) fun j u hj hj2 hu hx => by
        have := hact2 j u hj hj2 hu hx; rw [hall j hj2] at this; cases this
      have hts : TR μ (tsS (fun _ => true) vals (vl.take n0) 0 ts0) a := fun t v hv => ht t v (by
        rw [← hv]
        exact tsS_congr _ _ (fun j o hj _ => by
          have : j < (vl.take n0).length := (List.getElem?_eq_some_iff.1 hj).1
          simp only [List.length_take] at this
          simp only [Nat.zero_add]; exact hall j (by omega)) rfl)
      rw [hp'] at hseq
      rw [hunl hall] at hsim hst
      refine seq_ok hcall hvl hok.s (fuel + 1) n0 (Nat.le_refl _) (by omega) hls (fun j hj => ?_) hcnt hcl hseq (Nat.le_trans hlo hlen0) hts hsim hn fun a' w' ⟨μ', h1, h2, h3, h4, h5⟩ => hQ a' w' ⟨μ', h1, h2, hst.trans h3, by rw [h4, ha0, hn], by rw [h5, hdef]⟩
      cases hx : listed.getD j false with
      | true => simp [hfree j hx]
      | false => by_cases hj2 : j < n0
                 · rw [hall j hj2] at hx; cases hx
                 · simp [hj2]
    · obtain ⟨j0, hj0, hj0l⟩ : ∃ j, j < n0 ∧ listed.getD j false = false := by
        apply Classical.byContradiction
        intro hno
        apply hall
        intro j hj
        cases hx : listed.getD j false with
        | true => rfl
        | false => exact absurd ⟨j, hj, hx⟩ hno
      refine ⟨fun h0 => absurd h0 (ready_some hok.s hls (by omega) hj0l), fun i hi => ?_⟩
      obtain ⟨h1, o, ho, hedge⟩ := mem_ready.1 hi
      obtain ⟨hil, hif, hit⟩ := not_listed h1
      have hin : i < ops.size := (Array.getElem?_eq_some_iff.1 ho).1
      obtain ⟨v, hvi, hcomp⟩ := hget i o (by simpa using ho)
      have hrch : ∀ j, rch ops 24 i j = true → listed.getD j false = true := fun j hr => rch_ok hcl 24 i j hr fun o' ho' e he hb => by rw [ho] at ho'; cases ho'; exact hedge e he hb
      have hi0 : i < n0 := by
        rcases Nat.lt_or_ge i n0 with h | h
        · exact h
        · have := hrch j0 (hok.ord i j0 v (vl[j0]'(by omega)) hvi (List.getElem?_eq_getElem (by omega)) (by omega) (.inl h))
          rw [hj0l] at this; cases this
      -- what conflicts with i has come just if it stands ahead of i
      have hconf : ∀ (j : Nat) u, vl[j]? = some u → (confF v u = true ∨ confF u v = true) → j ≠ i → (listed.getD j false = decide (j < i)) := by
        intro j u hu hc hji
        rcases Nat.lt_or_ge j i with h | h
        · have hc' : confF v u = true ∨ confF u v = true := hc
          -- both orders of the check name the same pair
          have hcc : confF v u = true := by
            rcases hc with h | h
            · exact h
            · rw [confF_comm]; exact h
          rw [hrch j (hok.ord i j v u hvi hu h (.inr hcc))]; simp [h]
        · have hlt : i < j := by omega
          have hcc : confF u v = true := by
            rcases hc with h | h
            · rw [confF_comm]; exact h
            · exact h
          have hnd : decide (j < i) = false := by simp; omega
          rw [hnd]
          cases hx : listed.getD j false with
          | false => rfl
          | true =>
            exfalso
            have hjs : j < ops.size := by rw [hlen]; exact (List.getElem?_eq_some_iff.1 hu).1
            have hr := hok.ord j i u v hu hvi hlt (.inr hcc)
            have := rch_ok hcl 24 j i hr fun o' ho' e he hb => hcl j o' ho' hx e he hb
            rw [hif] at this; cases this
      have htake : (vl.take n0)[i]? = some v := by rw [List.getElem?_take, if_pos hi0]; exact hvi
      have hlook : ∀ t, t ∈ v.looks → lk (tsS (fun j => listed.getD j false) vals (vl.take n0) 0 ts0) t = lk (tsS (fun j => decide (j < i)) vals (vl.take n0) 0 ts0) t := by
        intro t htl
        refine tsS_congr _ _ (fun j u hj hd => ?_) rfl
        simp only [Nat.zero_add]
        rw [List.getElem?_take] at hj
        split at hj
        · by_cases hji : j = i
          · subst hji; rw [hif]; simp
          · exact hconf j u hj (.inl (confF_write hd htl)) hji
        · cases hj
      have hev : ∀ x ∈ v.o.args, ev (tsS (fun j => listed.getD j false) vals (vl.take n0) 0 ts0) x = ev (tsS (fun j => decide (j < i)) vals (vl.take n0) 0 ts0) x := by
        intro x hx
        cases x with
        | c u => rfl
        | t n => exact hlook n (mem_looks hx)
      obtain ⟨hd, hop, hdd, _⟩ := compV_some hcomp
      have hd' : ∀ t, o.dst = some t → t < a.tmps.size := fun t h => by rw [hn]; exact hd t h
      -- the state behind i
      have hcl' : closedS ops (listed.setIfInBounds i true) := by
        intro i' o' ho' hl' e he hb'
        by_cases hii : i' = i
        · subst hii
          rw [ho] at ho'; cases ho'
          exact getD_set_true (hedge e he hb')
        · rw [getD_set_ne false (Ne.symm hii)] at hl'
          exact getD_set_true (hcl i' o' ho' hl' e he hb')
      have hcnt' : cntF (listed.setIfInBounds i true).toList ≤ fuel := by
        rw [Array.toList_setIfInBounds]
        have := cntF_set listed.toList i hit
        omega
      have hfree' : ∀ j, (listed.setIfInBounds i true).getD j false = true → j < n0 := by
        intro j hj
        rw [getD_set hil] at hj
        simp only [Bool.or_eq_true, decide_eq_true_eq] at hj
        rcases hj with rfl | hj
        · exact hi0
        · exact hfree j hj
      have hput : ∀ {μ' : Mu} {r : Value}, Ext μ μ' → R2 μ' (vals i) r → TR μ' (tsS (fun j => (listed.setIfInBounds i true).getD j false) vals (vl.take n0) 0 ts0) (a.put o.dst r) := by
        intro μ' r hx hr t u hu
        by_cases hdt : o.dst = some t
        · have : lk (tsS (fun j => (listed.setIfInBounds i true).getD j false) vals (vl.take n0) 0 ts0) t = some (vals (0 + i)) := by
            refine tsS_at _ 0 i htake (by rw [hdd]; exact hdt) (by rw [Nat.zero_add, getD_set hil]; simp) fun j x hij hx hxd => ?_
            rw [Nat.zero_add, getD_set hil]
            rw [List.getElem?_take] at hx
            split at hx
            · have := hconf j x hx (.inl (confF_both (by rw [hdd]; exact hdt) hxd)) (by omega)
              rw [this]
              simp; omega
            · cases hx
          rw [this, Nat.zero_add] at hu
          cases hu
          exact ⟨r, by rw [hdt]; simp [Act.put, hd' t hdt], hr⟩
        · have : lk (tsS (fun j => (listed.setIfInBounds i true).getD j false) vals (vl.take n0) 0 ts0) t = lk (tsS (fun j => listed.getD j false) vals (vl.take n0) 0 ts0) t := by
            refine tsS_congr _ _ (fun j x hj hxd => ?_) rfl
            simp only [Nat.zero_add]
            rw [getD_set hil]
            by_cases hji : j = i
            · subst hji
              rw [htake] at hj; cases hj
              rw [hdd] at hxd
              exact absurd hxd hdt
            · simp [hji]
          rw [this] at hu
          obtain ⟨x, hx1, hx2⟩ := (ht.ext hx) t u hu
          refine ⟨x, ?_, hx2⟩
          cases hod : o.dst with
          | none => exact hx1
          | some d =>
            simp only [Act.put]
            rw [Array.getElem?_setIfInBounds_ne (fun e => hdt (by rw [hod, e]))]
            exact hx1
      have hel : ∀ (k : Nat) u, k < n0 → vl[k]? = some u → isF u = true → H0.length ≤ cF (vl.take n0) H0.length k := fun k u _ _ _ => by unfold cF; omega
      -- another that comes leaves the list of those that have not come, if it makes no such list
      have hsame : isF v = false → ∀ x, x ∈ unl vl n0 H0.length (listed.setIfInBounds i true) ↔ x ∈ unl vl n0 H0.length listed := fun hnf x => by
        rw [mem_unl, mem_unl]
        constructor
        · rintro ⟨k, u, hk, hu, hf, hl, rfl⟩
          rw [getD_set hil] at hl
          simp only [Bool.or_eq_false_iff] at hl
          exact ⟨k, u, hk, hu, hf, hl.2, rfl⟩
        · rintro ⟨k, u, hk, hu, hf, hl, rfl⟩
          have hki : k ≠ i := by rintro rfl; rw [hvi] at hu; cases hu; rw [hnf] at hf; cases hf
          exact ⟨k, u, hk, hu, hf, by rw [getD_set hil, hl]; simp [hki], rfl⟩
      have hfl' : ∀ {μ' : Mu} {h' : Hp}, (∀ k u, k < n0 → vl[k]? = some u → isF u = true → listed.getD k false = false → k ≠ i → μ' (cF (vl.take n0) H0.length k) = μ (cF (vl.take n0) H0.length k) ∧ h'[cF (vl.take n0) H0.length k]? = (hs p)[cF (vl.take n0) H0.length k]?) → (∀ (k : Nat) u x, k < n0 → vl[k]? = some u → flo u = some x → (listed.setIfInBounds i true).getD k false = false → μ' (cF (vl.take n0) H0.length k) = none ∧ h'[cF (vl.take n0) H0.length k]? = some (some x.1)) := fun {μ' h'} hh k u x hk hu hf hl => by
        rw [getD_set hil] at hl
        simp only [Bool.or_eq_false_iff, decide_eq_false_iff_not] at hl
        obtain ⟨e1, e2⟩ := hh k u hk hu (by unfold isF; rw [hf]; rfl) hl.2 hl.1
        obtain ⟨g1, g2⟩ := hfl k u x hk hu hf hl.2
        exact ⟨e1.trans g1, e2.trans g2⟩
      have pcase : (v.o.still = true ∨ isF v = true) → (∀ (j : Nat) u, j < p → vl[j]? = some u → (u.o.still = false ∧ isF u = false) → (listed.setIfInBounds i true).getD j false = true) ∧ (∀ (j : Nat) u, p ≤ j → j < n0 → vl[j]? = some u → (u.o.still = false ∧ isF u = false) → (listed.setIfInBounds i true).getD j false = false) := by
        intro hstill
        refine ⟨fun j u hj hu hs => getD_set_true (hact1 j u hj hu hs), fun j u hj hj2 hu hs => ?_⟩
        rw [getD_set hil, hact2 j u hj hj2 hu hs]
        have : j ≠ i := by
          rintro rfl
          rw [hvi] at hu; cases hu
          rcases hstill with h | h
          · rw [h] at hs; cases hs.1
          · rw [h] at hs; cases hs.2
        simp [this]
      have activecase : (v.o.still = false ∧ isF v = false) → p ≤ i ∧ hs i = hs p ∧ (∀ (j : Nat) u, j < i + 1 → vl[j]? = some u → (u.o.still = false ∧ isF u = false) → (listed.setIfInBounds i true).getD j false = true) ∧ (∀ (j : Nat) u, i + 1 ≤ j → j < n0 → vl[j]? = some u → (u.o.still = false ∧ isF u = false) → (listed.setIfInBounds i true).getD j false = false) := by
        intro hstill
        have hpi : p ≤ i := by
          rcases Nat.lt_or_ge i p with h | h
          · have := hact1 i v h hvi hstill; rw [hif] at this; cases this
          · exact h
        refine ⟨hpi, hconst p i hpi (by omega) fun j u hj hj2 hu hx => ?_, fun j u hj hu hs => ?_, fun j u hj hj2 hu hs => ?_⟩
        · have h1 := hact2 j u hj (by omega) hu hx
          have h2 := hconf j u hu (.inl (confF_active hstill hx)) (by omega)
          rw [h1] at h2; simp at h2; omega
        · rw [getD_set hil]
          by_cases hji : j = i
          · simp [hji]
          · have h2 := hconf j u hu (.inl (confF_active hstill hs)) hji
            rw [h2]; simp; omega
        · rw [getD_set hil]
          have h2 := hconf j u hu (.inl (confF_active hstill hs)) (by omega)
          rw [h2]; simp; omega
      have hst0 := hstep i v htake
      unfold StepAtF at hst0
      cases hF : isF v with
      | true =>
        obtain ⟨x, hx⟩ := isF_some hF
        rw [hx] at hst0
        simp only at hst0
        obtain ⟨hval, hsame'⟩ := hst0
        obtain ⟨hg, hrw, hlit, hns, hvop, htr⟩ := flo_op hx
        have hb' : wants (tsS (fun j => listed.getD j false) vals (vl.take n0) 0 ts0) v.g = some true := by rw [hg]; rfl
        have hw := wants_ok ht hcomp hb'
        unfold wpOp
        rw [ho]
        simp only
        rw [hw]
        simp only [if_true]
        obtain ⟨g1, g2⟩ := pcase (.inr hF)
        obtain ⟨hμe, hbe⟩ := hfl i v x hi0 hvi hx hif
        generalize hE : cF (vl.take n0) H0.length i = E at *
        have hEmem : E ∈ unl vl n0 H0.length listed := mem_unl.2 ⟨i, v, hi0, hvi, hF, hif, hE.symm⟩
        have hEl : E < (hs p).length := (List.getElem?_eq_some_iff.1 hbe).1
        have hEn : (kill (unl vl n0 H0.length listed) (hs p))[E]? = some none := by rw [kill_get, if_pos ⟨hEmem, hEl⟩]
        have hE0 : H0.length ≤ E := by rw [← hE]; exact hel i v hi0 hvi hF
        have hless : ∀ y, y ∈ unl vl n0 H0.length listed ↔ (y ∈ unl vl n0 H0.length (listed.setIfInBounds i true) ∨ y = E) := fun y => by
          rw [mem_unl, mem_unl]
          constructor
          · rintro ⟨k, u, hk, hu, hf, hl, rfl⟩
            by_cases hki : k = i
            · exact .inr (by rw [hki]; exact hE)
            · exact .inl ⟨k, u, hk, hu, hf, by rw [getD_set hil, hl]; simp [hki], rfl⟩
          · rintro (⟨k, u, hk, hu, hf, hl, rfl⟩ | rfl)
            · rw [getD_set hil] at hl
              simp only [Bool.or_eq_false_iff] at hl
              exact ⟨k, u, hk, hu, hf, hl.2, rfl⟩
            · exact ⟨i, v, hi0, hvi, hF, hif, hE.symm⟩
        have hne : ∀ k u, k < n0 → vl[k]? = some u → isF u = true → k ≠ i → cF (vl.take n0) H0.length k ≠ E := fun k u hk hu hf hki => by
          have tk : (vl.take n0)[k]? = some u := by rw [List.getElem?_take, if_pos hk]; exact hu
          rw [← hE]
          rcases Nat.lt_or_ge k i with h | h
          · have := cF_lt (c := H0.length) tk hf h; omega
          · have := cF_lt (c := H0.length) htake hF (show i < k by omega); omega
        have hnot : E ∉ unl vl n0 H0.length (listed.setIfInBounds i true) := fun hh => by
          obtain ⟨k, u, hk, hu, hf, hl, e⟩ := mem_unl.1 hh
          rw [getD_set hil] at hl
          simp only [Bool.or_eq_false_iff, decide_eq_false_iff_not] at hl
          exact hne k u hk hu hf hl.1 e.symm
        have hkl := kill_less hless hnot hbe
        have hlk : (kill (unl vl n0 H0.length listed) (hs p)).length = (hs p).length := kill_len _ _
        have hv' := hvop call (kill (unl vl n0 H0.length listed) (hs p)).length (tsS (fun j => listed.getD j false) vals (vl.take n0) 0 ts0) (kill (unl vl n0 H0.length listed) (hs p))
        refine .inl (op_ok hcall hop hv' (Nat.le_refl _) ht hsim fun r w1 μ1 hR hs1 hst1 => ?_)
        obtain ⟨μ2, hx2, hs2, hm2, hoth, hfresh⟩ := hsim.float hEn hμe hs1 hst1 hrw hlit
        have hR2 := htr μ1 μ2 _ E r hm2 hR
        have hst2 := Stp.float hrw hst hst1 hlo hE0 (by rw [hlk]; exact hEl) hx2 hoth hfresh
        rw [← hkl] at hs2 hst2
        refine ih (by simpa using hls) hcl' hfree' hcnt' (hput hx2 (by rw [hval]; exact hR2)) (by rw [size_put]; exact hn) (by rw [put_defers]; exact hdef) hp g1 g2 hs2 (hfl' fun k u hk hu hf hl hki => ⟨hoth _ (hne k u hk hu hf hki), rfl⟩) hlow hlen0 hst2
      | false =>
        rw [isF_none hF] at hst0
        simp only at hst0
        obtain ⟨b, hb, hrun⟩ := hst0
        have hb' : wants (tsS (fun j => listed.getD j false) vals (vl.take n0) 0 ts0) v.g = some b := by
          rw [← hb]
          cases hg : v.g with
          | none => rfl
          | some tb =>
            obtain ⟨t, tb⟩ := tb
            simp only [wants]
            rw [hlook t (by simp [VO.looks, hg])]
        have hw := wants_ok ht hcomp hb'
        have hks := kill_same (hsame hF)
        unfold wpOp
        rw [ho]
        simp only
        rw [hw]
        cases b
        · simp only [Bool.false_eq_true, if_false] at hrun ⊢
          obtain ⟨hval, hsm⟩ := hrun
          have hR : R2 μ (vals i) Go.undef := by rw [hval]; exact R2.undef
          cases hstill : v.o.still with
          | true =>
            obtain ⟨g1, g2⟩ := pcase (.inl hstill)
            rw [← hks] at hsim hst
            exact ih (by simpa using hls) hcl' hfree' hcnt' (hput (Ext.refl _) hR) (by rw [size_put]; exact hn) (by rw [put_defers]; exact hdef) hp g1 g2 hsim (hfl' fun _ _ _ _ _ _ _ => ⟨rfl, rfl⟩) hlow hlen0 hst
          | false =>
            obtain ⟨hpi, hip, g1, g2⟩ := activecase ⟨hstill, hF⟩
            have hfl2 := hfl' (μ' := μ) (h' := hs (i + 1)) fun _ _ _ _ _ _ _ => ⟨rfl, by rw [hsm, hip]⟩
            rw [← hks, ← hip, ← hsm] at hsim hst
            rw [← hip, ← hsm] at hlow hlen0
            exact ih (by simpa using hls) hcl' hfree' hcnt' (hput (Ext.refl _) hR) (by rw [size_put]; exact hn) (by rw [put_defers]; exact hdef) (by omega) g1 g2 hsim hfl2 hlow hlen0 hst
        · simp only [if_true] at hrun ⊢
          cases hstill : v.o.still with
          | true =>
            obtain ⟨g1, g2⟩ := pcase (.inl hstill)
            rw [hstill] at hrun
            simp only [if_true] at hrun
            obtain ⟨⟨H1, hv⟩, hsm⟩ := hrun
            have hv' : vop call lo (tsS (fun j => listed.getD j false) vals (vl.take n0) 0 ts0) (kill (unl vl n0 H0.length listed) (hs p)) v.o = some (vals i, kill (unl vl n0 H0.length listed) (hs p)) := by
              refine vop_still (lo' := lo) hstill (by rw [vop_congr hev]; exact hv) (fun k bl hb => ?_)
              obtain ⟨hkq, hbl⟩ := kill_blk hb
              have hk : k < H0.length := by
                unfold Hp.blk at hbl
                rcases Nat.lt_or_ge k H0.length with h' | h'
                · exact h'
                · rw [List.getElem?_eq_none h'] at hbl; cases hbl
              have hku : k ∉ unl vl n0 H0.length listed := fun hh => by
                obtain ⟨k', u, hk', hu, hf, hl, e⟩ := mem_unl.1 hh
                have := hel k' u hk' hu hf
                omega
              unfold Hp.blk at hbl ⊢
              rw [kill_get, if_neg (fun hh => hku hh.1), hlow k hk hkq]; exact hbl
            refine .inl (op_ok hcall hop hv' (Nat.le_trans hlo (by rw [kill_len]; exact hlen0)) ht hsim fun r w1 μ1 hR hs1 hst1 => ?_)
            have hfl2 := hfl' (μ' := μ1) (h' := hs p) fun k u hk hu hf hl _ => ⟨hst1.agree _ (by
              rw [kill_len]
              obtain ⟨y, hy⟩ := isF_some hf
              exact (List.getElem?_eq_some_iff.1 (hfl k u y hk hu hy hl).2).1), rfl⟩
            have hstt := hst.trans hst1
            rw [← hks] at hs1 hstt
            exact ih (by simpa using hls) hcl' hfree' hcnt' (hput hst1.ext hR) (by rw [size_put]; exact hn) (by rw [put_defers]; exact hdef) hp g1 g2 hs1 hfl2 hlow hlen0 hstt
          | false =>
            obtain ⟨hpi, hip, g1, g2⟩ := activecase ⟨hstill, hF⟩
            rw [hstill] at hrun
            simp only [Bool.false_eq_true, if_false] at hrun
            obtain ⟨HK, hvr, hbk, hsmq⟩ := hrun
            have hsub : ∀ x, x ∈ unl vl n0 H0.length listed → x ∈ keepF (flx (vl.take n0) H0.length) v := fun x hxm => by
              obtain ⟨k, u, hk, hu, hf, hl, rfl⟩ := mem_unl.1 hxm
              have tk : (vl.take n0)[k]? = some u := by rw [List.getElem?_take, if_pos hk]; exact hu
              unfold keepF
              refine List.mem_filterMap.2 ⟨_, flx_mem tk hf, ?_⟩
              simp only
              cases hud : u.d with
              | none => rfl
              | some dd =>
                simp only
                have hnl : dd ∉ v.looks := fun hm => by
                  have hki : k ≠ i := by rintro rfl; rw [hvi] at hu; cases hu; rw [hF] at hf; cases hf
                  rcases Nat.lt_or_ge k i with h | h
                  · have := hconf k u hu (.inl (confF_write hud hm)) hki
                    rw [hl] at this; simp at this; omega
                  · exact hok.late k i u v dd hu hvi (by omega) hk hf hud hm
                rw [if_neg (by rw [List.contains_iff_mem]; exact hnl)]
            have hv' : vop call lo (tsS (fun j => listed.getD j false) vals (vl.take n0) 0 ts0) (kill (keepF (flx (vl.take n0) H0.length) v) (hs p)) v.o = some (vals i, HK) := by
              rw [vop_congr hev, ← hip]; exact hvr
            refine .inl (op_ok hcall hop hv' (Nat.le_trans hlo (by rw [kill_len]; exact hlen0)) ht (hsim.less hsub) fun r w1 μ1 hR hs1 hst1 => ?_)
            obtain ⟨hs2, hst2⟩ := Sim.back hsub hsim hs1 hst1 (Nat.le_trans hlo hlen0)
            have hbk' : hs (i + 1) = V.back (keepF (flx (vl.take n0) H0.length) v) (hs p) HK := by rw [hbk, hip]
            have hlK : (hs p).length ≤ HK.length := by have := hst1.len; rwa [kill_len] at this
            have hfl2 := hfl' (μ' := μ1) (h' := hs (i + 1)) fun k u hk hu hf hl _ => by
              obtain ⟨y, hy⟩ := isF_some hf
              have hg := (hfl k u y hk hu hy hl).2
              have hgl := (List.getElem?_eq_some_iff.1 hg).1
              refine ⟨hst1.agree _ (by rw [kill_len]; exact hgl), ?_⟩
              rw [hbk', back_get, if_pos ⟨hsub _ (mem_unl.2 ⟨k, u, hk, hu, hf, hl, rfl⟩), by omega⟩, hg, Option.getD_some]
            rw [← hbk'] at hs2 hst2
            have hstt := hst.trans hst2
            rw [← hks] at hs2 hstt
            exact ih (by simpa using hls) hcl' hfree' hcnt' (hput hst1.ext hR) (by rw [size_put]; exact hn) (by rw [put_defers]; exact hdef) (by omega) g1 g2 hs2 hfl2 hsmq.2 hsmq.1 hstt
end
end Go.Proofs.YtohanpndekfbgaaDoor.V
/-! Code, functions, calls: what the machine computes the program computes. -/
namespace Go.Proofs.YtohanpndekfbgaaDoor.V
open Go
variable {TT : List (Nat × Obj)}
set_option linter.unusedVariables false
set_option linter.unusedSimpArgs false

def compC (P : Program) (nt : Nat) : Code → VC → Option VC
  | .skip, .skip => some .skip
  | .region _ ops false, .ops _ => (compVs P nt ops ops.toList).map .ops
  | .region _ ops true, .draw free _ => (compVs P nt ops ops.toList).bind fun vl => if free.length ≤ vl.length ∧ drawOK ops vl free.length = true then some (.draw (vl.take free.length) (vl.drop free.length)) else none
  | .region _ ops true, .drawD t free _ => (compVs P nt ops ops.toList).bind fun vl => if free.length ≤ vl.length ∧ drawOK ops vl free.length = true then some (.drawD t (vl.take free.length) (vl.drop free.length)) else none
  | .region _ ops true, .drawF t free _ => (compVs P nt ops ops.toList).bind fun vl => if free.length ≤ vl.length ∧ drawOKF ops vl free.length = true then some (.drawF t (vl.take free.length) (vl.drop free.length)) else none
  | .seq a b, .seq x y => (compC P nt a x).bind fun x => (compC P nt b y).map (.seq x)
  | .cond c a b, .cond _ x y => (cA c).bind fun c => (compC P nt a x).bind fun x => (compC P nt b y).map (.cond c x)
  | .block id c, .block _ x => (compC P nt c x).map (.block id)
  | .exit id, .exit _ => some (.exit id)
  | .loop c, .loop keep kx x => (compC P nt c x).map (.loop keep kx)
  | .ret, .ret => some .ret
  | _, _ => none
def compR (P : Program) : ResultVar → Option VR
  | .tmp t => some (.t t)
  | .cell a t => (tyL P t).map fun (g, n) => .cell a g n
def compRs (P : Program) : List ResultVar → Option (List VR)
  | [] => some []
  | r :: s => (compR P r).bind fun x => (compRs P s).map (x :: ·)
def VE.toExit : VE → Exit
  | .normal => .normal
  | .exit id => .exit id
  | .ret => .ret

theorem lk_keep {ts : Ts} {t : Nat} {v : Value} : ∀ (l : List Nat), lk (keepTs ts l) t = some v → lk ts t = some v
  | [], h => by simp [keepTs, lk] at h
  | k :: l, h => by
    simp only [keepTs] at h
    cases hk : lk ts k with
    | none => rw [hk] at h; exact lk_keep l h
    | some u =>
      rw [hk] at h
      simp only [lk] at h
      split at h
      · rename_i e; subst e; rw [← h]; exact hk
      · exact lk_keep l h
theorem TR.keep {μ : Mu} {ts : Ts} {a : Act} (h : TR μ ts a) (l : List Nat) : TR μ (keepTs ts l) a := fun t v hv => h t v (lk_keep l hv)

section
variable {P : Program}
theorem wp_loop_n {c : Code} {Q : Exit → Act → World → Prop} (I : Nat → Act → World → Prop) (round : ∀ n a w, I n a w → c.wp P (Exit.then (fun a' w' => ∃ m, m < n ∧ I m a' w') Q) a w) {n : Nat} {a : Act} {w : World} (h₀ : I n a w) : (Code.loop c).wp P Q a w := by
  intro b k cs
  have key : ∀ n a w, I n a w → ∃ e a' w', Q e a' w' ∧ Arrives P (lone (b.at a (.code c :: .inLoop c :: k)) cs w) b k cs e a' w' := by
    intro n
    induction n using Nat.strongRecOn with
    | _ n ih =>
      intro a w hI
      obtain ⟨e, a₁, w₁, hq, harr⟩ := round n a w hI b (.inLoop c :: k) cs
      cases e with
      | normal =>
        obtain ⟨m, hlt, hI₁⟩ := hq
        obtain ⟨e₂, a₂, w₂, hq₂, harr₂⟩ := ih m hlt a₁ w₁ hI₁
        exact ⟨e₂, a₂, w₂, hq₂, .of_steps (Steps.trans harr (.one step_inLoop)) harr₂⟩
      | exit id => exact ⟨_, a₁, w₁, hq, .pass (x := .inLoop c) rfl (fun _ _ => .inl (by simp)) harr⟩
      | goto l => exact ⟨_, a₁, w₁, hq, .pass (x := .inLoop c) rfl (fun _ _ => .inl (by simp)) harr⟩
      | ret => exact ⟨_, a₁, w₁, hq, .pass (x := .inLoop c) rfl (fun _ _ => .inl (by simp)) harr⟩
      | panic ch => exact ⟨_, a₁, w₁, hq, .pass (x := .inLoop c) rfl (fun _ _ => .inl (by simp)) harr⟩
      | outgrown => exact ⟨_, a₁, w₁, hq, .pass (x := .inLoop c) rfl (fun _ _ => .inl (by simp)) harr⟩
  obtain ⟨e, a', w', hq, harr⟩ := key n a w h₀
  exact ⟨e, a', w', hq, .of_steps (.one step_loop) harr⟩

theorem lim_some {f : Ts → Hp → Option (VE × Ts × Hp)} {ts : Ts} {H : Hp} {r : VE × Ts × Hp} (h : lim f ts H = some r) : ∃ n, iter f n ts H = some r := by
  unfold lim at h
  split at h
  · exact ⟨_, h⟩
  · cases h

theorem vc_ok {call : Cal} (hcall : CalOK TT P call) (hm : P.follows .mixedOrders = true) {nt : Nat} {lo : Nat} : ∀ (c : Code) (v v' : VC), compC P nt c v = some v' → ∀ {ts ts' : Ts} {H H' : Hp} {e : VE}, vc call lo v' ts H = some (e, ts', H') → lo ≤ H.length →
    ∀ {μ : Mu} {a : Act} {w : World} {Q : Exit → Act → World → Prop}, TR μ ts a → Sim TT μ H w → a.tmps.size = nt → (∀ a' w', Fin TT lo μ H w a ts' H' a' w' → Q e.toExit a' w') → c.wp P Q a w := by
  intro c
  induction c with
  | skip =>
    intro v v' hc ts ts' H H' e hv hlo μ a w Q ht hs hn hQ
    cases v <;> simp only [compC] at hc <;> try (cases hc; done)
    cases hc
    simp only [vc, Option.some.injEq, Prod.mk.injEq] at hv
    obtain ⟨rfl, rfl, rfl⟩ := hv
    exact wp_skip (hQ a w ⟨μ, ht, hs, Stp.refl _ _ _ _, rfl, rfl⟩)
  | region id ops d =>
    intro v v' hc ts ts' H H' e hv hlo μ a w Q ht hs hn hQ
    cases d with
    | false =>
      cases v <;> simp only [compC] at hc <;> try (cases hc; done)
      obtain ⟨vl, hvl, rfl⟩ := Option.map_eq_some_iff.1 hc
      simp only [vc, Option.bind_eq_some_iff, Option.some.injEq, Prod.mk.injEq] at hv
      obtain ⟨⟨ts1, H1⟩, hv, rfl, rfl, rfl⟩ := hv
      exact wp_region_list (vops_ok hcall _ _ hvl hv hlo ht hs hn hQ)
    | true =>
      cases v <;> simp only [compC] at hc <;> try (cases hc; done)
      case draw free seq =>
        simp only [Option.bind_eq_some_iff] at hc
        obtain ⟨vl, hvl, hc⟩ := hc
        split at hc
        · rename_i hcond
          cases hc
          simp only [vc, Option.bind_eq_some_iff, Option.some.injEq, Prod.mk.injEq] at hv
          obtain ⟨⟨ts1, H1⟩, hf, ⟨ts2, H2⟩, hv, rfl, rfl, rfl⟩ := hv
          simp only at hv
          obtain ⟨hlen, hget⟩ := compVs_get hvl
          rw [Array.length_toList] at hlen
          have hok := drawOK_spec hlen hcond.2
          obtain ⟨vals, hss, h0, hl, rfl, hstep⟩ := trace _ hf
          have hl' : (vl.take free.length).length = free.length := by rw [List.length_take]; exact Nat.min_eq_left hcond.1
          rw [hl'] at hl
          refine wp_region_any hm ?_
          have hs' : Sim TT μ H { w with drawn := w.drawn + 1 } := Sim.drew (w := w) rfl hs
          refine free_ok hcall hvl hok hcond.1 (lo := lo) (ts' := ts2) (H' := H2) (H0 := H) (hs := hss) (vals := vals) (ts0 := ts) (μ0 := μ) (w0 := { w with drawn := w.drawn + 1 }) (a0 := a) hstep (by rw [hl]; exact hv) hlo hn hs' ?_ ops.size (by simp) ?_ ?_ ?_ (p := 0) (μ := μ) ?_ hn rfl (Nat.zero_le _) ?_ ?_ ?_ ?_ ?_ ?_
          · intro a' w' ⟨μ', g1, g2, g3, g4, g5⟩
            exact hQ a' w' ⟨μ', g1, g2, (Stp.drew (w := w) (w' := { w with drawn := w.drawn + 1 }) rfl rfl rfl rfl).trans g3, g4, g5⟩
          · intro i o ho hl; simp [Array.getElem?_replicate] at hl; split at hl <;> simp at hl
          · intro j hj; simp [Array.getElem?_replicate] at hj; split at hj <;> simp at hj
          · have : ∀ n, cntF (List.replicate n false) = n := by
              intro n; induction n with
              | zero => rfl
              | succ n ih => simp [List.replicate_succ, cntF, ih]
            simp [this]
          · intro t u hu
            refine ht t u ?_
            rw [← hu]
            have nil : ∀ (l : List VO) (k : Nat) (S : Nat → Bool), (∀ j, S j = false) → tsS S vals l k ts = ts := by
              intro l
              induction l with
              | nil => intro k S hS; rfl
              | cons x l ih => intro k S hS; simp only [tsS, hS]; exact ih _ _ hS
            rw [nil _ _ _ (fun j => by simp [Array.getElem?_replicate]; split <;> simp)]
          · intro j u hj; omega
          · intro j u _ _ _ _; simp [Array.getElem?_replicate]; split <;> simp
          · rw [h0]; exact hs'
          · exact .inl fun i hi => by rw [h0]
          · rw [h0]; exact Nat.le_refl _
          · rw [h0]; exact Stp.refl _ _ _ _
        · cases hc
      case drawD tq free seq =>
        simp only [Option.bind_eq_some_iff] at hc
        obtain ⟨vl, hvl, hc⟩ := hc
        split at hc
        · rename_i hcond
          cases hc
          simp only [vc, Option.bind_eq_some_iff, Option.some.injEq, Prod.mk.injEq] at hv
          obtain ⟨qq, hqq, ⟨ts1, H1⟩, hf, ⟨ts2, H2⟩, hv, rfl, rfl, rfl⟩ := hv
          simp only at hv
          obtain ⟨hlen, hget⟩ := compVs_get hvl
          rw [Array.length_toList] at hlen
          have hok := drawOK_spec hlen hcond.2
          obtain ⟨vals, hss, h0, hl, rfl, hstep⟩ := traceD _ hf
          have hl' : (vl.take free.length).length = free.length := by rw [List.length_take]; exact Nat.min_eq_left hcond.1
          rw [hl'] at hl
          refine wp_region_any hm ?_
          have hs' : Sim TT μ H { w with drawn := w.drawn + 1 } := Sim.drew (w := w) rfl hs
          refine free_okD hcall hvl hok hcond.1 (lo := lo) (ts' := ts2) (H' := H2) (H0 := H) (hs := hss) (vals := vals) (ts0 := ts) (μ0 := μ) (w0 := { w with drawn := w.drawn + 1 }) (a0 := a) hstep (by rw [hl]; exact hv) hlo hn hs' ?_ ops.size (by simp) ?_ ?_ ?_ (p := 0) (μ := μ) ?_ hn rfl (Nat.zero_le _) ?_ ?_ ?_ ?_ ?_ ?_
          · intro a' w' ⟨μ', g1, g2, g3, g4, g5⟩
            exact hQ a' w' ⟨μ', g1, g2, (Stp.drew (w := w) (w' := { w with drawn := w.drawn + 1 }) rfl rfl rfl rfl).trans g3, g4, g5⟩
          · intro i o ho hl; simp [Array.getElem?_replicate] at hl; split at hl <;> simp at hl
          · intro j hj; simp [Array.getElem?_replicate] at hj; split at hj <;> simp at hj
          · have : ∀ n, cntF (List.replicate n false) = n := by
              intro n; induction n with
              | zero => rfl
              | succ n ih => simp [List.replicate_succ, cntF, ih]
            simp [this]
          · intro t u hu
            refine ht t u ?_
            rw [← hu]
            have nil : ∀ (l : List VO) (k : Nat) (S : Nat → Bool), (∀ j, S j = false) → tsS S vals l k ts = ts := by
              intro l
              induction l with
              | nil => intro k S hS; rfl
              | cons x l ih => intro k S hS; simp only [tsS, hS]; exact ih _ _ hS
            rw [nil _ _ _ (fun j => by simp [Array.getElem?_replicate]; split <;> simp)]
          · intro j u hj; omega
          · intro j u _ _ _ _; simp [Array.getElem?_replicate]; split <;> simp
          · rw [h0]; exact hs'
          · exact fun i hi _ => by rw [h0]
          · rw [h0]; exact Nat.le_refl _
          · rw [h0]; exact Stp.refl _ _ _ _
        · cases hc
      case drawF tq free seq =>
        simp only [Option.bind_eq_some_iff] at hc
        obtain ⟨vl, hvl, hc⟩ := hc
        split at hc
        · rename_i hcond
          cases hc
          simp only [vc, Option.bind_eq_some_iff, Option.some.injEq, Prod.mk.injEq] at hv
          obtain ⟨qq, hqq, ⟨ts1, H1⟩, hf, ⟨ts2, H2⟩, hv, rfl, rfl, rfl⟩ := hv
          simp only at hv
          obtain ⟨hlen, hget⟩ := compVs_get hvl
          rw [Array.length_toList] at hlen
          have hok := drawOKF_spec hlen hcond.2
          obtain ⟨vals, hss, h0, hl, rfl, hstep⟩ := traceF _ hf
          have hl' : (vl.take free.length).length = free.length := by rw [List.length_take]; exact Nat.min_eq_left hcond.1
          rw [hl'] at hl
          refine wp_region_any hm ?_
          have hs' : Sim TT μ H { w with drawn := w.drawn + 1 } := Sim.drew (w := w) rfl hs
          have hrep : ∀ j, (Array.replicate ops.size false).getD j false = false := fun j => by simp [Array.getElem?_replicate]; split <;> simp
          have hgr := Sim.grow (G := kill (unl vl free.length H.length (Array.replicate ops.size false)) (H ++ flos (vl.take free.length))) hs' (by rw [kill_len]; simp) (fun i hi => by
            rw [kill_get, if_neg (fun hh => ?_), List.getElem?_append_left hi]
            obtain ⟨k, u, hk, hu, hfu, hlu, e⟩ := mem_unl.1 hh.1
            have : H.length ≤ cF (vl.take free.length) H.length k := by unfold cF; omega
            omega) (fun i bl hi hb => by
            rw [kill_get] at hb
            by_cases hil : i < (H ++ flos (vl.take free.length)).length
            · obtain ⟨k, u, hu, hfu, e⟩ := flos_cover (vl.take free.length) H.length i hi (by simpa [Nat.add_comm] using hil)
              have hk : k < free.length := by
                have := (List.getElem?_eq_some_iff.1 hu).1
                rw [hl'] at this; exact this
              have hu' : vl[k]? = some u := by rw [List.getElem?_take, if_pos hk] at hu; exact hu
              rw [if_pos ⟨mem_unl.2 ⟨k, u, hk, hu', hfu, hrep k, e.symm⟩, hil⟩] at hb
              cases hb
            · rw [if_neg (fun hh => hil hh.2), List.getElem?_eq_none (by omega)] at hb
              cases hb) lo
          refine free_okF hcall hvl hok hcond.1 (lo := lo) (ts' := ts2) (H' := H2) (H0 := H) (hs := hss) (vals := vals) (ts0 := ts) (μ0 := μ) (w0 := { w with drawn := w.drawn + 1 }) (a0 := a) hstep (by rw [hl]; exact hv) hlo hn hs' ?_ ops.size (by simp) ?_ ?_ ?_ (p := 0) (μ := μ) ?_ hn rfl (Nat.zero_le _) ?_ ?_ ?_ ?_ ?_ ?_ ?_
          · intro a' w' ⟨μ', g1, g2, g3, g4, g5⟩
            exact hQ a' w' ⟨μ', g1, g2, (Stp.drew (w := w) (w' := { w with drawn := w.drawn + 1 }) rfl rfl rfl rfl).trans g3, g4, g5⟩
          · intro i o ho hl; simp [Array.getElem?_replicate] at hl; split at hl <;> simp at hl
          · intro j hj; simp [Array.getElem?_replicate] at hj; split at hj <;> simp at hj
          · have : ∀ n, cntF (List.replicate n false) = n := by
              intro n; induction n with
              | zero => rfl
              | succ n ih => simp [List.replicate_succ, cntF, ih]
            simp [this]
          · intro t u hu
            refine ht t u ?_
            rw [← hu]
            have nil : ∀ (l : List VO) (k : Nat) (S : Nat → Bool), (∀ j, S j = false) → tsS S vals l k ts = ts := by
              intro l
              induction l with
              | nil => intro k S hS; rfl
              | cons x l ih => intro k S hS; simp only [tsS, hS]; exact ih _ _ hS
            rw [nil _ _ _ (fun j => by simp [Array.getElem?_replicate]; split <;> simp)]
          · intro j u hj; omega
          · intro j u _ _ _ _; simp [Array.getElem?_replicate]; split <;> simp
          · rw [h0]; exact hgr.1
          · intro k u x hk hu hx hlk
            rw [h0]
            have tk : (vl.take free.length)[k]? = some u := by rw [List.getElem?_take, if_pos hk]; exact hu
            refine ⟨?_, flos_at rfl tk hx⟩
            cases hm' : μ (cF (vl.take free.length) H.length k) with
            | none => rfl
            | some m' =>
              have := hs'.dom _ _ hm'
              have : H.length ≤ cF (vl.take free.length) H.length k := by unfold cF; omega
              omega
          · exact fun i hi _ => by rw [h0, List.getElem?_append_left hi]
          · rw [h0]; simp
          · rw [h0]; exact hgr.2
        · cases hc
  | seq x y ihx ihy =>
    intro v v' hc ts ts' H H' e hv hlo μ a w Q ht hs hn hQ
    cases v <;> simp only [compC] at hc <;> try (cases hc; done)
    simp only [Option.bind_eq_some_iff, Option.map_eq_some_iff] at hc
    obtain ⟨x', hx', y', hy', rfl⟩ := hc
    simp only [vc, Option.bind_eq_some_iff] at hv
    obtain ⟨⟨e1, ts1, H1⟩, hv1, hv2⟩ := hv
    refine wp_seq (ihx _ _ hx' hv1 hlo ht hs hn fun a1 w1 ⟨μ1, g1, g2, g3, g4, g5⟩ => ?_)
    cases e1 with
    | normal =>
      simp only at hv2
      exact ihy _ _ hy' hv2 (Nat.le_trans hlo g3.len) g1 g2 (by rw [g4]; exact hn) fun a2 w2 ⟨μ2, k1, k2, k3, k4, k5⟩ => hQ a2 w2 ⟨μ2, k1, k2, g3.trans k3, k4.trans g4, k5.trans g5⟩
    | exit id =>
      simp only [Option.some.injEq, Prod.mk.injEq] at hv2
      obtain ⟨rfl, rfl, rfl⟩ := hv2
      exact hQ a1 w1 ⟨μ1, g1, g2, g3, g4, g5⟩
    | ret =>
      simp only [Option.some.injEq, Prod.mk.injEq] at hv2
      obtain ⟨rfl, rfl, rfl⟩ := hv2
      exact hQ a1 w1 ⟨μ1, g1, g2, g3, g4, g5⟩
  | cond cnd x y ihx ihy =>
    intro v v' hc ts ts' H H' e hv hlo μ a w Q ht hs hn hQ
    cases v <;> simp only [compC] at hc <;> try (cases hc; done)
    simp only [Option.bind_eq_some_iff, Option.map_eq_some_iff] at hc
    obtain ⟨c', hc', x', hx', y', hy', rfl⟩ := hc
    simp only [vc, Option.bind_eq_some_iff] at hv
    obtain ⟨u, hu, hv⟩ := hv
    cases u <;> try (cases hv; done)
    rename_i t
    have hb := R2.boolv (ev_ok ht hc' hu)
    cases t
    · simp only [Bool.false_eq_true, if_false] at hv
      exact wp_cond_false hb (ihy _ _ hy' hv hlo ht hs hn hQ)
    · simp only [if_true] at hv
      exact wp_cond_true hb (ihx _ _ hx' hv hlo ht hs hn hQ)
  | block id x ih =>
    intro v v' hc ts ts' H H' e hv hlo μ a w Q ht hs hn hQ
    cases v <;> simp only [compC] at hc <;> try (cases hc; done)
    obtain ⟨x', hx', rfl⟩ := Option.map_eq_some_iff.1 hc
    simp only [vc, Option.bind_eq_some_iff, Option.some.injEq, Prod.mk.injEq] at hv
    obtain ⟨⟨e1, ts1, H1⟩, hv1, rfl, rfl, rfl⟩ := hv
    refine wp_block (ih _ _ hx' hv1 hlo ht hs hn fun a1 w1 hf => ?_)
    have hq := hQ a1 w1 hf
    cases e1 with
    | normal => exact hq
    | exit id' =>
      by_cases hid : id' = id
      · subst hid; simpa [VE.toExit, Exit.inBlock] using hq
      · have hne : ¬ (VE.exit id' = VE.exit id) := by simpa using hid
        simp only [hne, if_false] at hq
        simp only [VE.toExit, Exit.inBlock, hid, if_false]
        exact hq
    | ret => exact hq
  | exit id =>
    intro v v' hc ts ts' H H' e hv hlo μ a w Q ht hs hn hQ
    cases v <;> simp only [compC] at hc <;> try (cases hc; done)
    cases hc
    simp only [vc, Option.some.injEq, Prod.mk.injEq] at hv
    obtain ⟨rfl, rfl, rfl⟩ := hv
    exact wp_exit (hQ a w ⟨μ, ht, hs, Stp.refl _ _ _ _, rfl, rfl⟩)
  | ret =>
    intro v v' hc ts ts' H H' e hv hlo μ a w Q ht hs hn hQ
    cases v <;> simp only [compC] at hc <;> try (cases hc; done)
    cases hc
    simp only [vc, Option.some.injEq, Prod.mk.injEq] at hv
    obtain ⟨rfl, rfl, rfl⟩ := hv
    exact wp_ret (hQ a w ⟨μ, ht, hs, Stp.refl _ _ _ _, rfl, rfl⟩)
  | loop x ih =>
    intro v v' hc ts ts' H H' e hv hlo μ a w Q ht hs hn hQ
    cases v <;> simp only [compC] at hc <;> try (cases hc; done)
    rename_i keep kx xv
    obtain ⟨x', hx', rfl⟩ := Option.map_eq_some_iff.1 hc
    simp only [vc] at hv
    obtain ⟨n, hv⟩ := lim_some hv
    refine wp_loop_n (fun n a1 w1 => ∃ μ1 ts1 H1, iter (fun ts H => (vc call lo x' ts H).bind fun (e, ts', H') => some (e, keepTs ts' (if e = .normal then keep else kx), H')) n ts1 H1 = some (e, ts', H') ∧ TR μ1 ts1 a1 ∧ Sim TT μ1 H1 w1 ∧ Stp lo μ H w μ1 H1 w1 ∧ a1.tmps.size = a.tmps.size ∧ a1.defers = a.defers) (fun n a1 w1 hI => ?_) (n := n) ⟨μ, keepTs ts keep, H, hv, ht.keep keep, hs, Stp.refl _ _ _ _, rfl, rfl⟩
    obtain ⟨μ1, ts1, H1, hit, g1, g2, g3, g4, g5⟩ := hI
    cases n with
    | zero => simp [iter] at hit
    | succ n =>
      simp only [iter, Option.bind_eq_some_iff, Option.some.injEq] at hit
      obtain ⟨⟨e2, ts2, H2⟩, ⟨⟨e3, ts3, H3⟩, hv3, heq⟩, hit⟩ := hit
      cases heq
      refine ih _ _ hx' hv3 (Nat.le_trans hlo g3.len) g1 g2 (by rw [g4]; exact hn) fun a2 w2 ⟨μ2, k1, k2, k3, k4, k5⟩ => ?_
      cases e3 with
      | normal => exact ⟨n, Nat.lt_succ_self n, μ2, _, _, hit, k1.keep _, k2, g3.trans k3, k4.trans g4, k5.trans g5⟩
      | exit id =>
        simp only [Option.some.injEq, Prod.mk.injEq] at hit
        obtain ⟨rfl, rfl, rfl⟩ := hit
        exact hQ a2 w2 ⟨μ2, k1.keep _, k2, g3.trans k3, k4.trans g4, k5.trans g5⟩
      | ret =>
        simp only [Option.some.injEq, Prod.mk.injEq] at hit
        obtain ⟨rfl, rfl, rfl⟩ := hit
        exact hQ a2 w2 ⟨μ2, k1.keep _, k2, g3.trans k3, k4.trans g4, k5.trans g5⟩
  | rangeFunc f ps x y ihx ihy => intro v v' hc; cases v <;> simp [compC] at hc
  | scope x ih => intro v v' hc; cases v <;> simp [compC] at hc
  | label l => intro v v' hc; cases v <;> simp [compC] at hc
  | goto l => intro v v' hc; cases v <;> simp [compC] at hc
  | refuse s => intro v v' hc; cases v <;> simp [compC] at hc

theorem noRef_RC {μ μ' : Mu} {v r : Value} (h : isRef v = false) (hr : RC μ v r) : RC μ' v r := by
  cases v <;> simp only [isRef, Bool.true_eq_false] at h
  case pointer a => cases a with
    | none => exact hr
    | some a => simp at h
  case slice a n c => cases a with
    | none => exact hr
    | some a => simp at h
  all_goals (first | exact hr | simp at h)
theorem noRef_R1 {μ μ' : Mu} {v r : Value} (h : noRef1 v = true) (hr : R1 μ v r) : R1 μ' v r := by
  by_cases ha : ∃ cs, v = .agg cs
  · obtain ⟨cs, rfl⟩ := ha
    obtain ⟨rs, rfl, hl⟩ := hr
    refine ⟨rs, rfl, ?_⟩
    simp only [noRef1, List.all_eq_true, Bool.not_eq_true'] at h
    generalize cs.toList = l at hl h
    generalize rs.toList = m at hl
    induction hl with
    | nil => exact .nil
    | cons h1 h2 ih => exact .cons (noRef_RC (h _ (by simp)) h1) (ih fun x hx => h x (by simp [hx]))
  · have hna : ∀ cs, v ≠ .agg cs := fun cs e => ha ⟨cs, e⟩
    rw [R1_eq hna] at hr ⊢
    exact noRef_RC (by cases v <;> simp [noRef1] at h ⊢ <;> first | exact h | exact absurd rfl (hna _)) hr
theorem noRef_R2 {μ μ' : Mu} {v r : Value} (h : noRef v = true) (hr : R2 μ v r) : R2 μ' v r := by
  by_cases ha : ∃ cs, v = .tuple cs
  · obtain ⟨cs, rfl⟩ := ha
    obtain ⟨rs, rfl, hl⟩ := hr
    refine ⟨rs, rfl, ?_⟩
    simp only [noRef, List.all_eq_true] at h
    generalize cs.toList = l at hl h
    generalize rs.toList = m at hl
    induction hl with
    | nil => exact .nil
    | cons h1 h2 ih => exact .cons (noRef_R1 (h _ (by simp)) h1) (ih fun x hx => h x (by simp [hx]))
  · have hna : ∀ cs, v ≠ .tuple cs := fun cs e => ha ⟨cs, e⟩
    rw [R2_eq hna] at hr ⊢
    exact noRef_R1 (by cases v <;> simp [noRef] at h ⊢ <;> first | exact h | exact absurd rfl (hna _)) hr

def resF (tmps : Array Value) : ResultVar → Sem Value
  | .tmp t => pure (tmps.getD t Go.undef)
  | .cell a t => do loadVar t (← asAddr (tmps.getD a Go.undef))
theorem results_eq (fn : Func) (tmps : Array Value) : results fn tmps = (do let vs ← fn.results.mapM (resF tmps); pure (if h : vs.size = 1 then vs[0] else .tuple vs)) := by
  unfold results
  congr 1
theorem vress_ok {μ : Mu} {ts : Ts} {H : Hp} {a : Act} {w : World} (ht : TR μ ts a) (hs : Sim TT μ H w) : ∀ (rs : List ResultVar) (vr : List VR), compRs P rs = some vr → ∀ {vs : List Value}, vress ts H vr = some vs →
    ∃ xs : List Value, (rs.mapM (resF a.tmps)).run P w = .ok xs w ∧ L2 (R1 μ) vs xs
  | [], vr, hc, vs, hv => by
    simp only [compRs, Option.some.injEq] at hc; subst hc
    simp only [vress, Option.some.injEq] at hv; subst hv
    exact ⟨[], by simp, .nil⟩
  | r :: rs, vr, hc, vs, hv => by
    simp only [compRs, Option.bind_eq_some_iff, Option.map_eq_some_iff] at hc
    obtain ⟨x, hx, s, hs', rfl⟩ := hc
    simp only [vress, Option.bind_eq_some_iff] at hv
    obtain ⟨v, hv1, us, hus, hv⟩ := hv
    split at hv
    · rename_i hn
      cases hv
      obtain ⟨xs, hxs, hrel⟩ := vress_ok ht hs rs s hs' hus
      have hone : ∃ y, (resF a.tmps r).run P w = .ok y w ∧ R1 μ v y := by
        cases r with
        | tmp t =>
          simp only [compR, Option.some.injEq] at hx; subst hx
          obtain ⟨y, hy, hR⟩ := ht t v hv1
          exact ⟨y, by simp [resF, hy], hR.to_R1 (ntup_ok hn)⟩
        | cell p t =>
          simp only [compR, Option.map_eq_some_iff] at hx
          obtain ⟨⟨g, n⟩, hty, rfl⟩ := hx
          simp only [vres, Option.bind_eq_some_iff] at hv1
          obtain ⟨pv, hpv, hv1⟩ := hv1
          cases pv <;> try (cases hv1; done)
          rename_i pa
          cases pa <;> try (cases hv1; done)
          rename_i pa
          obtain ⟨y, hy, hR⟩ := ht p _ hpv
          obtain ⟨z, hz, hRz⟩ := load_ok (P := P) hs hty hR hv1
          refine ⟨z, ?_, hRz.to_R1 (ntup_ok hn)⟩
          obtain ⟨_, m, hm, rfl⟩ := hR
          have hz' : (loadVar t ⟨m.b, m.o + pa.off, none⟩).run P w = .ok z w := by simpa [Instr.loadAt, Instr.sureAddr] using hz
          have hy' : a.tmps.getD p Go.undef = .pointer (some ⟨m.b, m.o + pa.off, none⟩) := by simp [hy]
          simp only [resF, hy', asAddr, Sem.run_bind, Sem.run_pure, Result.andThen_ok, hz']
      obtain ⟨y, hy, hR⟩ := hone
      refine ⟨y :: xs, ?_, .cons hR hrel⟩
      rw [List.mapM_cons, Sem.run_bind, hy, Result.andThen_ok, Sem.run_bind, hxs]
      rfl
    · cases hv

structure FnOK (P : Program) (f : Nat) (vf : VF) : Prop where
  ok : ∃ fn c, P.funcs[f]? = some fn ∧ fn.body = some c ∧ (fn.name == "runtime.NumGoroutine") = false ∧ fn.ntmps = vf.nt ∧ vf.np ≤ vf.nt ∧ compC P vf.nt c vf.body = some vf.body ∧ compRs P fn.results.toList = some vf.res

theorem start_lk : ∀ (l : List Value) (k t : Nat) (v : Value), lk (start k l) t = some v → k ≤ t ∧ l[t - k]? = some v
  | [], k, t, v, h => by simp [start, lk] at h
  | x :: l, k, t, v, h => by
    simp only [start, lk] at h
    split at h
    · rename_i e; subst e; cases h; exact ⟨Nat.le_refl _, by simp⟩
    · obtain ⟨h1, h2⟩ := start_lk l (k + 1) t v h
      refine ⟨by omega, ?_⟩
      have e : t - k = (t - (k + 1)) + 1 := by omega
      rw [e]; simpa using h2

theorem fn_ok {call : Cal} (hcall : CalOK TT P call) (hm : P.follows .mixedOrders = true) {f : Nat} {vf : VF} (hf : FnOK P f vf) {args : List Value} {lo : Nat} {H H' : Hp} {v : Value} (hv : vfun call vf args lo H = some (v, H')) (hlo : lo ≤ H.length) {μ : Mu} {w : World} {rargs : List Value} (ha : L2 (R2 μ) args rargs) (hs : Sim TT μ H w) :
    (∃ fn, P.funcs[f]? = some fn ∧ fn.body.isSome = true ∧ (fn.name == "runtime.NumGoroutine") = false) ∧ Calls P f rargs.toArray w (fun e w' => ∃ r μ', e = .returned r ∧ R2 μ' v r ∧ Sim TT μ' H' w' ∧ Stp lo μ H w μ' H' w') := by
  obtain ⟨fn, c, hfn, hbody, hname, hnt, hnp, hc, hr⟩ := hf.ok
  refine ⟨⟨fn, hfn, by simp [hbody], hname⟩, calls_of_wp hfn hbody ?_⟩
  unfold vfun at hv
  split at hv
  · rename_i hnargs
    simp only [Option.bind_eq_some_iff] at hv
    obtain ⟨⟨e, ts, H1⟩, hvc, hv⟩ := hv
    have hv' : (∀ id, e ≠ .exit id) ∧ ∃ vs, vress ts H1 vf.res = some vs ∧ v = tup vs ∧ H' = (if vf.pu && noRef (tup vs) then H else H1) := by
      cases e with
      | exit id => cases hv
      | normal =>
        simp only [Option.bind_eq_some_iff, Option.some.injEq, Prod.mk.injEq] at hv
        obtain ⟨vs, h1, h2, h3⟩ := hv
        exact ⟨by simp, vs, h1, h2.symm, h3.symm⟩
      | ret =>
        simp only [Option.bind_eq_some_iff, Option.some.injEq, Prod.mk.injEq] at hv
        obtain ⟨vs, h1, h2, h3⟩ := hv
        exact ⟨by simp, vs, h1, h2.symm, h3.symm⟩
    obtain ⟨hne, vs, hvs, rfl, hH'⟩ := hv'
    have hral := ha.len
    refine vc_ok hcall hm _ _ _ hc hvc (by split; exact Nat.le_refl _; exact hlo) (μ := μ) ?_ hs ?_ fun a' w' ⟨μ', g1, g2, g3, g4, g5⟩ => ?_
    · -- the arguments lie in the first temporaries
      intro t u hu
      obtain ⟨_, h2⟩ := start_lk args 0 t u hu
      obtain ⟨r, h3, h4⟩ := ha.get (i := t) (x := u) (by simpa using h2)
      refine ⟨r, ?_, h4⟩
      have hlt := (List.getElem?_eq_some_iff.1 h3).1
      simp only
      rw [Array.getElem?_append_left (by simpa using hlt)]
      simpa using h3
    · simp only [Array.size_append, List.size_toArray, Array.size_replicate]
      omega
    · obtain ⟨xs, hxs, hrel⟩ := vress_ok (P := P) g1 g2 fn.results.toList vf.res hr hvs
      have hres : (results fn a'.tmps).run P w' = .ok (if h : xs.toArray.size = 1 then xs.toArray[0] else .tuple xs.toArray) w' := by
        rw [results_eq, Sem.run_bind, Array.mapM_eq_mapM_toList]
        simp only [Sem.run_map, hxs]
        rfl
      have hR : R2 μ' (tup vs) (if h : xs.toArray.size = 1 then xs.toArray[0] else .tuple xs.toArray) := by
        cases hrel with
        | nil => exact ⟨#[], by simp, .nil⟩
        | cons h1 h2 => cases h2 with
          | nil => exact R2.of_R1 (by simpa [tup] using h1)
          | cons h2 h3 => exact ⟨_, by simp; rfl, by simpa [tup] using L2.cons h1 (L2.cons h2 h3)⟩
      have fin : ∃ r μ'', Ending.returned (if h : xs.toArray.size = 1 then xs.toArray[0] else .tuple xs.toArray) = .returned r ∧ R2 μ'' (tup vs) r ∧ Sim TT μ'' H' w' ∧ Stp lo μ H w μ'' H' w' := by
        cases hpu : vf.pu with
        | false =>
          rw [hpu] at g3 hH'
          simp only [Bool.false_and, Bool.false_eq_true, if_false] at g3 hH'
          subst hH'
          exact ⟨_, μ', rfl, hR, g2, g3⟩
        | true =>
          rw [hpu] at g3 hH'
          simp only [if_true, Bool.true_and] at g3 hH'
          cases hnr : noRef (tup vs) with
          | false =>
            rw [hnr] at hH'
            simp only [Bool.false_eq_true, if_false] at hH'
            subst hH'
            exact ⟨_, μ', rfl, hR, g2, g3.mono hs hlo (Nat.le_refl _)⟩
          | true =>
            rw [hnr] at hH'
            simp only [if_true] at hH'
            subst hH'
            have hold : ∀ b, b < w.heap.size → w'.heap[b]? = w.heap[b]? := fun b hb => g3.old b hb fun i bl m hi hbl _ _ => by
              have := (List.getElem?_eq_some_iff.1 hbl).1; omega
            refine ⟨_, μ, rfl, noRef_R2 hnr hR, ⟨hs.dom, fun i b hb => ?_, hs.sep, fun x hx => ⟨(hold _ (hs.tabLt hx)).trans (hs.tab x hx).1, (hs.tab x hx).2⟩⟩, ⟨Ext.refl _, g3.os, g3.tape, g3.output, g3.size, Nat.le_refl _, fun b hb _ => hold b hb, fun i bl m hi hb hr hm _ => ⟨i, bl, m, hi, hb, hr, hm, rfl⟩, fun _ _ _ => rfl, fun _ _ => rfl, fun _ _ h _ _ => h⟩⟩
            obtain ⟨m, hm, hok⟩ := hs.blk i b hb
            refine ⟨m, hm, ?_⟩
            by_cases hq : b.cs ≠ [] ∨ b.rw = true
            · exact hok.keep (hold _ (hok.lt hq))
            · simp only [not_or, ne_eq, Decidable.not_not, Bool.not_eq_true] at hq
              exact hok.dull hq.1 hq.2
      have hdef : a'.defers = [] := by rw [g5]
      cases e with
      | normal => exact bodyPost_end hres hdef fin
      | exit id => exact absurd rfl (hne id)
      | ret => exact bodyPost_ret hres hdef fin
  · cases hv

def EnvOK (P : Program) (E : EnvL) : Prop := ∀ x ∈ E, FnOK P x.1 x.2
/-- What functions of Go's library give is told by their contracts. -/
def NatOK (TT : List (Nat × Obj)) (P : Program) (nat : Nat → List Value → Hp → Option Value) : Prop := ∀ (f : Nat) (args : List Value) (H : Hp) (v : Value), nat f args H = some v → ∀ (μ : Mu) (w : World) (rargs : List Value), L2 (R2 μ) args rargs → Sim TT μ H w →
  (∃ fn, P.funcs[f]? = some fn ∧ fn.body.isSome = true ∧ (fn.name == "runtime.NumGoroutine") = false) ∧ Calls P f rargs.toArray w (fun e w' => ∃ r, e = .returned r ∧ R2 μ v r ∧ (∀ b, b < w.heap.size → w'.heap[b]? = w.heap[b]?) ∧ w'.os = w.os ∧ w'.tape = w.tape ∧ w'.output = w.output ∧ w.heap.size ≤ w'.heap.size)
theorem EnvOK.nil : EnvOK P [] := fun x h => by simp at h
theorem EnvOK.cons {E : EnvL} {f : Nat} {vf : VF} (h : FnOK P f vf) (hE : EnvOK P E) : EnvOK P ((f, vf) :: E) := fun x hx => by
  rcases List.mem_cons.1 hx with rfl | hx
  · exact h
  · exact hE x hx
theorem EnvOK.append {E F : EnvL} (h : EnvOK P E) (k : EnvOK P F) : EnvOK P (E ++ F) := fun x hx => by
  rcases List.mem_append.1 hx with hx | hx
  · exact h x hx
  · exact k x hx
theorem EnvOK.find : ∀ {E : EnvL}, EnvOK P E → ∀ {f vf}, E.find f = some vf → FnOK P f vf
  | [], _, f, vf, h => by simp [EnvL.find] at h
  | (n, g) :: E, hE, f, vf, h => by
    simp only [EnvL.find] at h
    split at h
    · rename_i e; subst e; cases h; exact hE (n, g) (by simp)
    · exact EnvOK.find (E := E) (fun x hx => hE x (by simp [hx])) h

/-- THE LAW: what the machine computes at a call, the program's call comes to. -/
theorem call_ok (hm : P.follows .mixedOrders = true) {E : Env} (hE : EnvOK P E.fs) (hN : NatOK TT P E.nat) : ∀ d, CalOK TT P (vcall E d)
  | 0 => fun f args lo H v H' h => by simp [vcall] at h
  | d + 1 => fun f args lo H v H' h hlo μ w rargs ha hs => by
    simp only [vcall] at h
    split at h
    · rename_i vf hvf
      exact fn_ok (call_ok hm hE hN d) hm (hE.find hvf) h hlo ha hs
    · simp only [Option.bind_eq_some_iff, Option.some.injEq, Prod.mk.injEq] at h
      obtain ⟨v', hv, rfl, rfl⟩ := h
      obtain ⟨h1, h2⟩ := hN f args H v' hv μ w rargs ha hs
      exact ⟨h1, h2.mono fun e w' ⟨r, he, hr, hold, ho, ht, hp, hz⟩ => ⟨r, μ, he, hr, hs.later hold, Stp.later hold ho ht hp hz⟩⟩
end
end Go.Proofs.YtohanpndekfbgaaDoor.V
/-! Equations by which the machine is reckoned, one for each kind of operation; what comes behind is kept under a name till the first part is reckoned. -/
namespace Go.Proofs.YtohanpndekfbgaaDoor.V
open Go
set_option linter.unusedVariables false
set_option linter.unusedSimpArgs false

def kO (call : Cal) (lo : Nat) (l : List VO) (ts : Ts) (d : Option Nat) (x : Value × Hp) : Option (Ts × Hp) := vops call lo l (put ts d x.1) x.2
def kG (call : Cal) (lo : Nat) (l : List VO) (ts : Ts) (H : Hp) (d : Option Nat) (b : Bool) (o : VOp) (v : Value) : Option (Ts × Hp) := if isB v b = true then vops call lo (⟨d, none, o⟩ :: l) ts H else vops call lo l (put ts d (.tuple #[])) H
def fO (call : Cal) (lo : Nat) (H0 : Hp) (l : List VO) (ts : Ts) (H : Hp) (d : Option Nat) (x : Value × Hp) : Option (Ts × Hp) := vfree call lo H0 l (put ts d x.1) H
def fA (call : Cal) (lo : Nat) (H0 : Hp) (l : List VO) (ts : Ts) (d : Option Nat) (x : Value × Hp) : Option (Ts × Hp) := vfree call lo H0 l (put ts d x.1) x.2
def fG (call : Cal) (lo : Nat) (H0 : Hp) (l : List VO) (ts : Ts) (H : Hp) (d : Option Nat) (b : Bool) (o : VOp) (v : Value) : Option (Ts × Hp) := if isB v b = true then vfree call lo H0 (⟨d, none, o⟩ :: l) ts H else vfree call lo H0 l (put ts d (.tuple #[])) H
noncomputable def gO (call : Cal) (lo : Nat) (q : List Nat) (H0 : Hp) (l : List VO) (ts : Ts) (H : Hp) (d : Option Nat) (x : Value × Hp) : Option (Ts × Hp) := vfreeD call lo q H0 l (put ts d x.1) H
open Classical in
noncomputable def gA (call : Cal) (lo : Nat) (q : List Nat) (H0 : Hp) (l : List VO) (ts : Ts) (d : Option Nat) (x : Value × Hp) : Option (Ts × Hp) := if Same q H0 x.2 then vfreeD call lo q H0 l (put ts d x.1) x.2 else none
noncomputable def gG (call : Cal) (lo : Nat) (q : List Nat) (H0 : Hp) (l : List VO) (ts : Ts) (H : Hp) (d : Option Nat) (b : Bool) (o : VOp) (v : Value) : Option (Ts × Hp) := if isB v b = true then vfreeD call lo q H0 (⟨d, none, o⟩ :: l) ts H else vfreeD call lo q H0 l (put ts d (.tuple #[])) H
noncomputable def gQ (call : Cal) (lo : Nat) (l : List VO) (ts : Ts) (H : Hp) (q : List Nat) : Option (Ts × Hp) := vfreeD call lo q H l ts H
noncomputable def wO (call : Cal) (lo : Nat) (q : List Nat) (H0 : Hp) (fx : List (Nat × Option Nat)) (l : List VO) (c : Nat) (ts : Ts) (H : Hp) (d : Option Nat) (x : Value × Hp) : Option (Ts × Hp) := vfreeF call lo q H0 fx l c (put ts d x.1) H
open Classical in
noncomputable def wA (call : Cal) (lo : Nat) (q : List Nat) (H0 : Hp) (fx : List (Nat × Option Nat)) (l : List VO) (c : Nat) (ts : Ts) (H : Hp) (o : VO) (x : Value × Hp) : Option (Ts × Hp) := if Same q H0 (back (keepF fx o) H x.2) then vfreeF call lo q H0 fx l c (put ts o.d x.1) (back (keepF fx o) H x.2) else none
noncomputable def wQ (call : Cal) (lo : Nat) (l : List VO) (ts : Ts) (H : Hp) (q : List Nat) : Option (Ts × Hp) := vfreeF call lo q H (flx l H.length) l H.length ts (H ++ flos l)
def kN (x : Ts × Hp) : Option (VE × Ts × Hp) := some (.normal, x.1, x.2)
noncomputable def kS (call : Cal) (lo : Nat) (c : VC) (x : VE × Ts × Hp) : Option (VE × Ts × Hp) := match x with
  | (.normal, ts, H) => vc call lo c ts H
  | x => some x
def kD (call : Cal) (lo : Nat) (l : List VO) (x : Ts × Hp) : Option (Ts × Hp) := vops call lo l x.1 x.2
noncomputable def kC (call : Cal) (lo : Nat) (a b : VC) (ts : Ts) (H : Hp) (v : Value) : Option (VE × Ts × Hp) := match v with
  | .bool t => if t = true then vc call lo a ts H else vc call lo b ts H
  | _ => none
def kB (id : Nat) (x : VE × Ts × Hp) : Option (VE × Ts × Hp) := some (if x.1 = .exit id then .normal else x.1, x.2.1, x.2.2)
def kL (keep kx : List Nat) (x : VE × Ts × Hp) : Option (VE × Ts × Hp) := some (x.1, keepTs x.2.1 (if x.1 = .normal then keep else kx), x.2.2)
/-- One round of a loop. -/
noncomputable def rnd (call : Cal) (lo : Nat) (keep kx : List Nat) (c : VC) (ts : Ts) (H : Hp) : Option (VE × Ts × Hp) := (vc call lo c ts H).bind (kL keep kx)
def kF (f : VF) (H0 : Hp) (x : VE × Ts × Hp) : Option (Value × Hp) := match x with
  | (.exit _, _, _) => none
  | (_, ts, H) => (vress ts H f.res).bind fun vs => some (tup vs, if f.pu && noRef (tup vs) then H0 else H)
def kT (k : Nat) (v : Option Value) (r : Ts) : Ts := match v with
  | some v => (k, v) :: r
  | none => r
section
variable {call : Cal} {lo : Nat} {ts : Ts} {H H0 : Hp} {l : List VO} {d : Option Nat}
theorem xs (o : VOp) : vops call lo (⟨d, none, o⟩ :: l) ts H = (vop call lo ts H o).bind (kO call lo l ts d) := rfl
theorem xg (t : Nat) (b : Bool) (o : VOp) : vops call lo (⟨d, some (t, b), o⟩ :: l) ts H = (lk ts t).bind (kG call lo l ts H d b o) := by
  simp only [vops, wants, Option.bind_assoc, Option.bind_some]
  cases lk ts t with
  | none => rfl
  | some v => simp only [Option.bind_some, kG]; cases isB v b <;> rfl
theorem xn : vops call lo [] ts H = some (ts, H) := rfl
theorem yn : vfree call lo H0 [] ts H = some (ts, H) := rfl
theorem yx (o : VOp) : vfree call lo H0 (⟨d, none, o⟩ :: l) ts H = if o.still = true then (vop call 0 ts H0 o).bind (fO call lo H0 l ts H d) else (vop call (lof lo ⟨d, none, o⟩ l H) ts H o).bind (fA call lo H0 l ts d) := by
  simp only [vfree, wants, Option.bind_some, if_true]; rfl
theorem yg (t : Nat) (b : Bool) (o : VOp) : vfree call lo H0 (⟨d, some (t, b), o⟩ :: l) ts H = (lk ts t).bind (fG call lo H0 l ts H d b o) := by
  simp only [vfree, wants, Option.bind_assoc, Option.bind_some]
  cases lk ts t with
  | none => rfl
  | some v => simp only [Option.bind_some, fG]; cases isB v b <;> rfl
theorem zn {q : List Nat} : vfreeD call lo q H0 [] ts H = some (ts, H) := rfl
theorem zx {q : List Nat} (o : VOp) : vfreeD call lo q H0 (⟨d, none, o⟩ :: l) ts H = if o.still = true then (vop call 0 ts (kill q H0) o).bind (gO call lo q H0 l ts H d) else (vop call lo ts H o).bind (gA call lo q H0 l ts d) := by
  simp only [vfreeD, wants, Option.bind_some, if_true]; rfl
theorem zg {q : List Nat} (t : Nat) (b : Bool) (o : VOp) : vfreeD call lo q H0 (⟨d, some (t, b), o⟩ :: l) ts H = (lk ts t).bind (gG call lo q H0 l ts H d b o) := by
  simp only [vfreeD, wants, Option.bind_assoc, Option.bind_some]
  cases lk ts t with
  | none => rfl
  | some v => simp only [Option.bind_some, gG]; cases isB v b <;> rfl
theorem gO_ {q : List Nat} (v : Value) (H1 : Hp) : gO call lo q H0 l ts H d (v, H1) = vfreeD call lo q H0 l (put ts d v) H := rfl
/-- But for the block, old memory is as it was. -/
theorem gA_ {q : List Nat} (v : Value) (H1 : Hp) (h : Same q H0 H1) : gA call lo q H0 l ts d (v, H1) = vfreeD call lo q H0 l (put ts d v) H1 := by simp only [gA, if_pos h]
theorem gG1 {q : List Nat} (x : Bool) (b : Bool) (o : VOp) : gG call lo q H0 l ts H d b o (.bool x) = if x = b then vfreeD call lo q H0 (⟨d, none, o⟩ :: l) ts H else vfreeD call lo q H0 l (put ts d (.tuple #[])) H := by
  cases x <;> cases b <;> rfl
theorem gG2 {q : List Nat} (x : Array Value) (b : Bool) (o : VOp) : gG call lo q H0 l ts H d b o (.tuple x) = vfreeD call lo q H0 l (put ts d (.tuple #[])) H := rfl
theorem gQ_ (q : List Nat) : gQ call lo l ts H q = vfreeD call lo q H l ts H := rfl
variable {q : List Nat} {fx : List (Nat × Option Nat)} {c : Nat}
theorem wn : vfreeF call lo q H0 fx [] c ts H = some (ts, H) := rfl
theorem wf (o : VO) (x : Blk × (Nat → Value)) (h : flo o = some x) : vfreeF call lo q H0 fx (o :: l) c ts H = vfreeF call lo q H0 fx l (c + 1) (put ts o.d (x.2 c)) H := by
  simp only [vfreeF, h]
theorem wx (o : VOp) (h : flo ⟨d, none, o⟩ = none) : vfreeF call lo q H0 fx (⟨d, none, o⟩ :: l) c ts H = if o.still = true then (vop call 0 ts (kill q H0) o).bind (wO call lo q H0 fx l c ts H d) else (vop call lo ts (kill (keepF fx ⟨d, none, o⟩) H) o).bind (wA call lo q H0 fx l c ts H ⟨d, none, o⟩) := by
  simp only [vfreeF, h, wants, Option.bind_some, if_true]; rfl
theorem wO_ (v : Value) (H1 : Hp) : wO call lo q H0 fx l c ts H d (v, H1) = vfreeF call lo q H0 fx l c (put ts d v) H := rfl
theorem wA_ (o : VO) (v : Value) (H1 : Hp) (h : Same q H0 (back (keepF fx o) H H1)) : wA call lo q H0 fx l c ts H o (v, H1) = vfreeF call lo q H0 fx l c (put ts o.d v) (back (keepF fx o) H H1) := by simp only [wA, if_pos h]
theorem wQ_ (q : List Nat) : wQ call lo l ts H q = vfreeF call lo q H (flx l H.length) l H.length ts (H ++ flos l) := rfl
theorem kill_snoc : ∀ (B : List Nat) (H : Hp) (x : Option Blk), (∀ i, i ∈ B → i < H.length) → kill B (H ++ [x]) = kill B H ++ [x]
  | [], H, x, _ => rfl
  | b :: r, H, x, h => by
    simp only [kill]
    rw [List.set_append_left _ _ (h b List.mem_cons_self)]
    exact kill_snoc r (H.set b none) x (fun i hi => by rw [List.length_set]; exact h i (List.mem_cons_of_mem _ hi))
theorem vdF (t : List Nat) (r : List VO) : vc call lo (.drawF t l r) ts H = (((qats ts t).bind (wQ call lo l ts H)).bind (kD call lo r)).bind kN := by
  simp only [vc, Option.bind_assoc]; rfl
theorem kO_ (v : Value) (H : Hp) : kO call lo l ts d (v, H) = vops call lo l (put ts d v) H := rfl
theorem fO_ (v : Value) (H1 : Hp) : fO call lo H0 l ts H d (v, H1) = vfree call lo H0 l (put ts d v) H := rfl
theorem fA_ (v : Value) (H1 : Hp) : fA call lo H0 l ts d (v, H1) = vfree call lo H0 l (put ts d v) H1 := rfl
theorem kG1 (x : Bool) (b : Bool) (o : VOp) : kG call lo l ts H d b o (.bool x) = if x = b then vops call lo (⟨d, none, o⟩ :: l) ts H else vops call lo l (put ts d (.tuple #[])) H := by
  cases x <;> cases b <;> rfl
theorem kG2 (x : Array Value) (b : Bool) (o : VOp) : kG call lo l ts H d b o (.tuple x) = vops call lo l (put ts d (.tuple #[])) H := rfl
theorem fG1 (x : Bool) (b : Bool) (o : VOp) : fG call lo H0 l ts H d b o (.bool x) = if x = b then vfree call lo H0 (⟨d, none, o⟩ :: l) ts H else vfree call lo H0 l (put ts d (.tuple #[])) H := by
  cases x <;> cases b <;> rfl
theorem fG2 (x : Array Value) (b : Bool) (o : VOp) : fG call lo H0 l ts H d b o (.tuple x) = vfree call lo H0 l (put ts d (.tuple #[])) H := rfl
theorem kN_ (ts : Ts) (H : Hp) : kN (ts, H) = some (.normal, ts, H) := rfl
theorem kS0 (c : VC) : kS call lo c (.normal, ts, H) = vc call lo c ts H := rfl
theorem kS1 (c : VC) : kS call lo c (.ret, ts, H) = some (.ret, ts, H) := rfl
theorem kS2 (c : VC) (i : Nat) : kS call lo c (.exit i, ts, H) = some (.exit i, ts, H) := rfl
theorem kD_ (ts : Ts) (H : Hp) : kD call lo l (ts, H) = vops call lo l ts H := rfl
theorem kC_ (a b : VC) (t : Bool) : kC call lo a b ts H (.bool t) = if t = true then vc call lo a ts H else vc call lo b ts H := rfl
theorem kB0 (id : Nat) : kB id (.normal, ts, H) = some (.normal, ts, H) := rfl
theorem kB1 (id : Nat) : kB id (.ret, ts, H) = some (.ret, ts, H) := rfl
theorem kB2 (id i : Nat) : kB id (.exit i, ts, H) = some (if i = id then .normal else .exit i, ts, H) := by simp [kB]
theorem kL0 (keep kx : List Nat) : kL keep kx (.normal, ts, H) = some (.normal, keepTs ts keep, H) := rfl
theorem kL1 (keep kx : List Nat) : kL keep kx (.ret, ts, H) = some (.ret, keepTs ts kx, H) := rfl
theorem kL2 (keep kx : List Nat) (i : Nat) : kL keep kx (.exit i, ts, H) = some (.exit i, keepTs ts kx, H) := rfl
theorem kF0 (f : VF) : kF f H0 (.normal, ts, H) = (vress ts H f.res).bind fun vs => some (tup vs, if f.pu && noRef (tup vs) then H0 else H) := rfl
theorem kF1 (f : VF) : kF f H0 (.ret, ts, H) = (vress ts H f.res).bind fun vs => some (tup vs, if f.pu && noRef (tup vs) then H0 else H) := rfl
theorem pt (k : Nat) (v : Value) : put ts (some k) v = (k, v) :: ts := rfl
theorem pn (v : Value) : put ts none v = ts := rfl
theorem et (n : Nat) : ev ts (.t n) = lk ts n := rfl
theorem ec (v : Value) : ev ts (.c v) = some v := rfl
theorem lkc (k t : Nat) (v : Value) : lk ((k, v) :: ts) t = if k = t then some v else lk ts t := rfl
theorem lkn (t : Nat) : lk [] t = none := rfl
theorem vsk : vc call lo .skip ts H = some (.normal, ts, H) := rfl
theorem vrt : vc call lo .ret ts H = some (.ret, ts, H) := rfl
theorem vex (i : Nat) : vc call lo (.exit i) ts H = some (.exit i, ts, H) := rfl
theorem vos : vc call lo (.ops l) ts H = (vops call lo l ts H).bind kN := rfl
theorem vdr (r : List VO) : vc call lo (.draw l r) ts H = ((vfree call lo H l ts H).bind (kD call lo r)).bind kN := by
  simp only [vc, Option.bind_assoc]; rfl
theorem vdD (t : List Nat) (r : List VO) : vc call lo (.drawD t l r) ts H = (((qats ts t).bind (gQ call lo l ts H)).bind (kD call lo r)).bind kN := by
  simp only [vc, Option.bind_assoc]; rfl
theorem q0 : qats ts [] = some [] := rfl
theorem q1 (t : Nat) (r : List Nat) (a : Addr) (h : lk ts t = some (.pointer (some a))) : qats ts (t :: r) = (qats ts r).map (a.block :: ·) := by simp only [qats, qat, h, Option.bind_some]
theorem vsq (a b : VC) : vc call lo (.seq a b) ts H = (vc call lo a ts H).bind (kS call lo b) := by
  simp only [vc]; congr 1; funext ⟨e, ts, H⟩; cases e <;> rfl
theorem vcd (c : Arg) (a b : VC) : vc call lo (.cond c a b) ts H = (ev ts c).bind (kC call lo a b ts H) := by
  simp only [vc]; congr 1
theorem vbl (i : Nat) (c : VC) : vc call lo (.block i c) ts H = (vc call lo c ts H).bind (kB i) := rfl
theorem vlp (keep kx : List Nat) (c : VC) : vc call lo (.loop keep kx c) ts H = lim (rnd call lo keep kx c) (keepTs ts keep) H := rfl
theorem kt0 : keepTs ts [] = [] := rfl
theorem kt1 (k : Nat) (r : List Nat) : keepTs ts (k :: r) = kT k (lk ts k) (keepTs ts r) := by simp only [keepTs, kT] <;> (cases lk ts k <;> rfl)
theorem kT0 (k : Nat) (r : Ts) : kT k none r = r := rfl
theorem kT1 (k : Nat) (v : Value) (r : Ts) : kT k (some v) r = (k, v) :: r := rfl
theorem vfn (f : VF) (args : List Value) (h : args.length = f.np) : vfun call f args lo H = (vc call (if f.pu then H.length else lo) f.body (start 0 args) H).bind (kF f H) := by
  simp only [vfun, if_pos h]; congr 1; funext ⟨e, ts, H⟩; cases e <;> rfl
theorem bite {α β : Type} (c : Prop) [Decidable c] (x y : Option α) (f : α → Option β) : (if c then x else y).bind f = if c then x.bind f else y.bind f := by split <;> rfl
end

/-! ### Loops -/
theorem iter_mono {f : Ts → Hp → Option (VE × Ts × Hp)} {r : VE × Ts × Hp} : ∀ {n m : Nat}, n ≤ m → ∀ {ts : Ts} {H : Hp}, iter f n ts H = some r → iter f m ts H = some r
  | 0, m, _, ts, H, h => by simp [iter] at h
  | n + 1, m + 1, hnm, ts, H, h => by
    simp only [iter, Option.bind_eq_some_iff] at h ⊢
    obtain ⟨⟨e, ts', H'⟩, h1, h2⟩ := h
    refine ⟨_, h1, ?_⟩
    cases e with
    | normal => exact iter_mono (by omega) h2
    | exit i => exact h2
    | ret => exact h2
theorem lim_of {f : Ts → Hp → Option (VE × Ts × Hp)} {n : Nat} {ts : Ts} {H : Hp} {r : VE × Ts × Hp} (h : iter f n ts H = some r) : lim f ts H = some r := by
  unfold lim
  have hex : ∃ n, (iter f n ts H).isSome = true := ⟨n, by rw [h]; rfl⟩
  rw [dif_pos hex]
  obtain ⟨r', hr'⟩ := Option.isSome_iff_exists.1 hex.choose_spec
  rw [hr']
  have h1 := iter_mono (Nat.le_max_left hex.choose n) hr'
  have h2 := iter_mono (Nat.le_max_right hex.choose n) h
  rw [h1] at h2
  exact h2
/-- A round that ends the loop. -/
theorem lim_end {f : Ts → Hp → Option (VE × Ts × Hp)} {ts ts' : Ts} {H H' : Hp} {e : VE} (h : f ts H = some (e, ts', H')) (he : e ≠ .normal) : lim f ts H = some (e, ts', H') :=
  lim_of (n := 1) (by
    cases e with
    | normal => exact absurd rfl he
    | exit i => simp only [iter, h, Option.bind_some]
    | ret => simp only [iter, h, Option.bind_some])
/-- A round, and what comes of the rest. -/
theorem lim_step {f : Ts → Hp → Option (VE × Ts × Hp)} {ts ts' : Ts} {H H' : Hp} {r : VE × Ts × Hp} (h : f ts H = some (.normal, ts', H')) (hr : lim f ts' H' = some r) : lim f ts H = some r := by
  obtain ⟨n, hn⟩ := lim_some hr
  exact lim_of (n := n + 1) (by simp only [iter, h, Option.bind_some]; exact hn)
end Go.Proofs.YtohanpndekfbgaaDoor.V
