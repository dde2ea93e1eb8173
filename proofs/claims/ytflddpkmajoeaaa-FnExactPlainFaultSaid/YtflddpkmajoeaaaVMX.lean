/- A region that draws its order: the law. -/
import Derived.Test.YtflddpkmajoeaaaVMD
namespace Go.Proofs.Ytflddpkmajoeaaa.V
open Go
set_option linter.unusedVariables false
set_option linter.unusedSimpArgs false

/-- Does j come before i, whatever the order? -/
def rch (ops : Array Oper) : Nat → Nat → Nat → Bool
  | 0, _, _ => false
  | f + 1, i, j => match ops[i]? with
    | some o => o.after.any fun e => Region.binds .any e && (decide (j ≤ e.on) && (e.on == j || rch ops f e.on j))
    | none => false
def conf (v u : VO) : Bool :=
  (match u.d with | some d => v.looks.contains d || v.d == some d | none => false) || (match v.d with | some d => u.looks.contains d | none => false) || (!v.o.still && !u.o.still)
def drawOK (ops : Array Oper) (vl : List VO) (n0 : Nat) : Bool :=
  (List.range ops.size).all fun i => match ops[i]?, vl[i]? with
    | some o, some v => o.after.all (fun e => !Region.binds .any e || decide (e.on < i)) && (List.range i).all fun j => match vl[j]? with
      | some u => !(decide (n0 ≤ i) || conf v u) || rch ops 24 i j
      | none => false
    | _, _ => false

def cntF : List Bool → Nat
  | [] => 0
  | true :: r => cntF r
  | false :: r => cntF r + 1
theorem cntF_set : ∀ (l : List Bool) (i : Nat), l[i]? = some false → cntF (l.set i true) + 1 = cntF l
  | [], i, h => by simp at h
  | b :: r, 0, h => by simp at h; subst h; rfl
  | b :: r, i + 1, h => by
    have := cntF_set r i (by simpa using h)
    cases b <;> simp only [List.set_cons_succ, cntF] <;> omega
theorem cntF_zero : ∀ (l : List Bool) (i : Nat), cntF l = 0 → l[i]? ≠ some false
  | [], i, _ => by simp
  | b :: r, 0, h => by cases b <;> simp [cntF] at h ⊢
  | b :: r, i + 1, h => by
    have := cntF_zero r i (by cases b <;> simp [cntF] at h ⊢; exact h)
    simpa using this

/-- The temporaries when the operations of S have come. -/
def tsS (S : Nat → Bool) (vals : Nat → Value) : List VO → Nat → Ts → Ts
  | [], _, ts => ts
  | o :: r, k, ts => tsS S vals r (k + 1) (if S k then put ts o.d (vals k) else ts)
theorem lk_put {ts : Ts} {d : Option Nat} {v : Value} {t : Nat} : lk (put ts d v) t = if d = some t then some v else lk ts t := by
  cases d with
  | none => simp [put]
  | some d => simp only [put, lk]; by_cases h : d = t <;> simp [h]
theorem tsS_congr {S S' : Nat → Bool} {vals : Nat → Value} {t : Nat} : ∀ (l : List VO) (k : Nat) {ts ts' : Ts}, (∀ j o, l[j]? = some o → o.d = some t → S (k + j) = S' (k + j)) → lk ts t = lk ts' t → lk (tsS S vals l k ts) t = lk (tsS S' vals l k ts') t
  | [], _, _, _, _, h => h
  | o :: r, k, ts, ts', h, hl => by
    refine tsS_congr r (k + 1) (fun j u hj hd => by have := h (j + 1) u (by simpa using hj) hd; rwa [Nat.add_assoc, Nat.add_comm 1 j]) ?_
    by_cases hd : o.d = some t
    · have := h 0 o rfl hd
      rw [Nat.add_zero] at this
      rw [this]
      cases S' k <;> simp [lk_put, hl]
    · cases S k <;> cases S' k <;> simp [lk_put, hd, hl]
theorem tsS_at {S : Nat → Bool} {vals : Nat → Value} {t : Nat} : ∀ (l : List VO) (k i : Nat) {ts : Ts} {o : VO}, l[i]? = some o → o.d = some t → S (k + i) = true → (∀ j u, i < j → l[j]? = some u → u.d = some t → S (k + j) = false) → lk (tsS S vals l k ts) t = some (vals (k + i))
  | [], _, _, _, _, h, _, _, _ => by simp at h
  | o :: r, k, 0, ts, u, h, hd, hS, hn => by
    simp only [List.getElem?_cons_zero, Option.some.injEq] at h; subst h
    simp only [Nat.add_zero] at hS ⊢
    simp only [tsS, hS, if_true]
    have := tsS_congr (S := S) (S' := fun _ => false) (vals := vals) (t := t) r (k + 1) (ts := put ts o.d (vals k)) (ts' := put ts o.d (vals k)) (fun j u hj hd => by
      have := hn (j + 1) u (by omega) (by simpa using hj) hd
      rwa [Nat.add_assoc, Nat.add_comm 1 j]) rfl
    rw [this]
    have nil : ∀ (l : List VO) (k : Nat) (ts : Ts), tsS (fun _ => false) vals l k ts = ts := by
      intro l
      induction l with
      | nil => intro k ts; rfl
      | cons x l ih => intro k ts; simp [tsS, ih]
    rw [nil, lk_put, if_pos hd]
  | o :: r, k, i + 1, ts, u, h, hd, hS, hn => by
    have := tsS_at (vals := vals) r (k + 1) i (ts := if S k then put ts o.d (vals k) else ts) (by simpa using h) hd (by rw [Nat.add_assoc, Nat.add_comm 1 i]; exact hS) (fun j x hj hx hxd => by
      have := hn (j + 1) x (by omega) (by simpa using hx) hxd
      rwa [Nat.add_assoc, Nat.add_comm 1 j])
    simp only [tsS]
    rw [this, Nat.add_assoc, Nat.add_comm 1 i]

def StepAt (call : Cal) (H0 : Hp) (o : VO) (ts : Ts) (v : Value) (h h' : Hp) : Prop :=
  ∃ b, wants ts o.g = some b ∧ if b = true then (if o.o.still = true then (∃ H1, vop call 0 ts H0 o.o = some (v, H1)) ∧ h' = h else vop call h.length ts h o.o = some (v, h')) else v = .tuple #[] ∧ h' = h
theorem tsS_shift {S : Nat → Bool} {vals : Nat → Value} : ∀ (l : List VO) (k : Nat) (ts : Ts), tsS S vals l (k + 1) ts = tsS (fun j => S (j + 1)) (fun j => vals (j + 1)) l k ts
  | [], _, _ => rfl
  | o :: r, k, ts => by simp only [tsS]; exact tsS_shift r (k + 1) _
/-- What a run of the free part has gone through. -/
theorem trace {call : Cal} {H0 : Hp} : ∀ (l : List VO) {ts ts' : Ts} {H H' : Hp}, vfree call H0 l ts H = some (ts', H') → ∃ (vals : Nat → Value) (hs : Nat → Hp), hs 0 = H ∧ hs l.length = H' ∧ ts' = tsS (fun _ => true) vals l 0 ts ∧
    ∀ (i : Nat) o, l[i]? = some o → StepAt call H0 o (tsS (fun j => decide (j < i)) vals l 0 ts) (vals i) (hs i) (hs (i + 1))
  | [], ts, ts', H, H', h => by
    simp only [vfree, Option.some.injEq, Prod.mk.injEq] at h
    obtain ⟨rfl, rfl⟩ := h
    exact ⟨fun _ => .tuple #[], fun _ => H, rfl, rfl, rfl, fun i o h => by simp at h⟩
  | o :: r, ts, ts', H, H', h => by
    simp only [vfree, Option.bind_eq_some_iff] at h
    obtain ⟨b, hb, h⟩ := h
    have fin : ∀ (v : Value) (H1 : Hp), StepAt call H0 o ts v H H1 → vfree call H0 r (put ts o.d v) H1 = some (ts', H') → ∃ (vals : Nat → Value) (hs : Nat → Hp), hs 0 = H ∧ hs (o :: r).length = H' ∧ ts' = tsS (fun _ => true) vals (o :: r) 0 ts ∧
        ∀ (i : Nat) u, (o :: r)[i]? = some u → StepAt call H0 u (tsS (fun j => decide (j < i)) vals (o :: r) 0 ts) (vals i) (hs i) (hs (i + 1)) := by
      intro v H1 hst hr
      obtain ⟨vals, hs, h0, hl, ht, hstep⟩ := trace r hr
      refine ⟨fun i => match i with | 0 => v | i + 1 => vals i, fun i => match i with | 0 => H | i + 1 => hs i, rfl, hl, ?_, ?_⟩
      · simp only [tsS, if_true]
        rw [tsS_shift]
        exact ht
      · intro i u hu
        cases i with
        | zero =>
          simp only [List.getElem?_cons_zero, Option.some.injEq] at hu; subst hu
          simp only [tsS, Nat.lt_irrefl, decide_false, Bool.false_eq_true, if_false]
          have : ∀ (l : List VO) (k : Nat) (ts : Ts) (vals : Nat → Value), tsS (fun j => decide (j < 0)) vals l k ts = ts := by
            intro l
            induction l with
            | nil => intro k ts vals; rfl
            | cons x l ih => intro k ts vals; simp [tsS] at ih ⊢; exact ih _ _ _
          rw [this, h0]
          exact hst
        | succ i =>
          have := hstep i u (by simpa using hu)
          simp only [tsS, Nat.zero_lt_succ, decide_true, if_true]
          rw [tsS_shift]
          simpa using this
    cases b with
    | false =>
      simp only [Bool.false_eq_true, if_false] at h
      exact fin _ H ⟨false, hb, by simp⟩ h
    | true =>
      simp only [if_true] at h
      by_cases hs : o.o.still = true
      · rw [if_pos hs] at h
        simp only [Option.bind_eq_some_iff] at h
        obtain ⟨⟨v, H1⟩, hv, h⟩ := h
        exact fin v H ⟨true, hb, by rw [if_pos rfl, if_pos hs]; exact ⟨⟨H1, hv⟩, rfl⟩⟩ h
      · rw [if_neg hs] at h
        simp only [Option.bind_eq_some_iff] at h
        obtain ⟨⟨v, H1⟩, hv, h⟩ := h
        exact fin v H1 ⟨true, hb, by rw [if_pos rfl, if_neg hs]; exact hv⟩ h
end Go.Proofs.Ytflddpkmajoeaaa.V
