/- A region: its operations one behind the other. -/
import Derived.Test.YtflddpkmajoeaaaVMT
namespace Go.Proofs.Ytflddpkmajoeaaa.V
open Go
set_option linter.unusedVariables false
set_option linter.unusedSimpArgs false

/-- An operation of a region: its place and its guard are temporaries of the frame. -/
def compV (P : Program) (nt : Nat) (ops : Array Oper) (o : Oper) : Option VO :=
  if o.dst.all (· < nt) then (compO P o.op).bind fun vo => match o.guard with
    | none => some ⟨o.dst, none, vo⟩
    | some (j, b) => ((ops[j]?).bind (·.dst)).map fun t => ⟨o.dst, some (t, b), vo⟩
  else none
def compVs (P : Program) (nt : Nat) (ops : Array Oper) : List Oper → Option (List VO)
  | [] => some []
  | o :: r => (compV P nt ops o).bind fun v => (compVs P nt ops r).bind fun s => some (v :: s)

section
variable {P : Program}
theorem compV_some {nt : Nat} {ops : Array Oper} {o : Oper} {v : VO} (h : compV P nt ops o = some v) : (∀ t, o.dst = some t → t < nt) ∧ compO P o.op = some v.o ∧ v.d = o.dst ∧ ((o.guard = none ∧ v.g = none) ∨ ∃ j b t, o.guard = some (j, b) ∧ (ops[j]?).bind (·.dst) = some t ∧ v.g = some (t, b)) := by
  unfold compV at h
  split at h
  · rename_i hd
    simp only [Option.bind_eq_some_iff] at h
    obtain ⟨vo, hvo, h⟩ := h
    have hd' : ∀ t, o.dst = some t → t < nt := fun t ht => by simpa [ht] using hd
    cases hg : o.guard with
    | none => rw [hg] at h; simp only [Option.some.injEq] at h; subst h; exact ⟨hd', hvo, rfl, .inl ⟨rfl, rfl⟩⟩
    | some jb =>
      obtain ⟨j, b⟩ := jb
      rw [hg] at h
      obtain ⟨t, ht, rfl⟩ := Option.map_eq_some_iff.1 h
      exact ⟨hd', hvo, rfl, .inr ⟨j, b, t, rfl, ht, rfl⟩⟩
  · cases h
theorem R2.not_bool {μ : Mu} {v : Value} {b : Bool} (h : R2 μ v (.bool b)) : v = .bool b := by
  cases v
  case bool x => have := R2.boolv h; cases this; rfl
  case int k n => have := R2.int h; cases this
  case pointer a => cases a with
    | none => cases (show Value.bool b = .pointer none from h)
    | some a => obtain ⟨_, m, _, h⟩ := h; cases h
  case slice a n c => cases a with
    | none => obtain ⟨_, h⟩ := h; cases h
    | some a => obtain ⟨_, m, _, _, a', c', h, _⟩ := h; cases h
  case func f x y => obtain ⟨_, c, h, _⟩ := h; cases h
  case agg cs => obtain ⟨_, h, _⟩ := h; cases h
  case tuple cs => obtain ⟨_, h, _⟩ := h; cases h
  case string s => cases (show Value.bool b = .string s from h)
  all_goals exact (show False from h).elim
theorem wants_ok {μ : Mu} {ts : Ts} {a : Act} (ht : TR μ ts a) {nt : Nat} {ops : Array Oper} {o : Oper} {v : VO} (hc : compV P nt ops o = some v) {b : Bool} (hw : wants ts v.g = some b) : Region.wanted o (yielded ops a.tmps) = b := by
  obtain ⟨_, _, _, hg⟩ := compV_some hc
  rcases hg with ⟨h1, h2⟩ | ⟨j, b', t, h1, h2, h3⟩
  · rw [h2] at hw
    simp only [wants, Option.some.injEq] at hw
    subst hw
    simp [Region.wanted, h1]
  · rw [h3] at hw
    simp only [wants, Option.bind_eq_some_iff, Option.some.injEq] at hw
    obtain ⟨u, hu, hw⟩ := hw
    obtain ⟨r, hr, hR⟩ := ht t u hu
    simp only [Region.wanted, h1, yielded, h2, Option.bind_some, hr]
    by_cases hb : ∃ x, u = .bool x
    · obtain ⟨x, rfl⟩ := hb
      obtain rfl := R2.boolv hR
      rw [← hw]
      cases x <;> cases b' <;> rfl
    · have hnr : ∀ x, r ≠ .bool x := fun x e => hb ⟨x, (e ▸ hR).not_bool⟩
      have h5 : isB u b' = false := by
        cases u <;> first | rfl | exact absurd ⟨_, rfl⟩ hb
      rw [h5] at hw
      rw [← hw]
      cases r <;> first | rfl | exact absurd rfl (hnr _)

/-- What is known behind a piece of code. -/
def Fin (lo : Nat) (μ : Mu) (H : Hp) (w : World) (a : Act) (ts' : Ts) (H' : Hp) (a' : Act) (w' : World) : Prop :=
  ∃ μ', TR μ' ts' a' ∧ Sim μ' H' w' ∧ Stp lo μ H w μ' H' w' ∧ a'.tmps.size = a.tmps.size ∧ a'.defers = a.defers
theorem put_defers (a : Act) (d : Option Nat) (v : Value) : (a.put d v).defers = a.defers := by cases d <;> rfl

theorem vops_ok {call : Cal} (hcall : CalOK P call) {nt : Nat} {ops : Array Oper} {Q : Exit → Act → World → Prop} {lo : Nat} : ∀ (l : List Oper) (vl : List VO), compVs P nt ops l = some vl → ∀ {ts ts' : Ts} {H H' : Hp}, vops call lo vl ts H = some (ts', H') → lo ≤ H.length →
    ∀ {μ : Mu} {a : Act} {w : World}, TR μ ts a → Sim μ H w → a.tmps.size = nt → (∀ a' w', Fin lo μ H w a ts' H' a' w' → Q .normal a' w') → wpList P ops Q l a w
  | [], vl, hc, ts, ts', H, H', hv, hlo, μ, a, w, ht, hs, hn, hQ => by
    simp only [compVs, Option.some.injEq] at hc; subst hc
    simp only [vops, Option.some.injEq, Prod.mk.injEq] at hv
    obtain ⟨rfl, rfl⟩ := hv
    exact wpList_nil (hQ a w ⟨μ, ht, hs, Stp.refl _ _ _ _, rfl, rfl⟩)
  | o :: l, vl, hc, ts, ts', H, H', hv, hlo, μ, a, w, ht, hs, hn, hQ => by
    simp only [compVs, Option.bind_eq_some_iff, Option.some.injEq] at hc
    obtain ⟨vo, hvo, vl, hvl, rfl⟩ := hc
    obtain ⟨hd, hop, hdd, _⟩ := compV_some hvo
    simp only [vops, Option.bind_eq_some_iff] at hv
    obtain ⟨b, hb, hv⟩ := hv
    have hw := wants_ok ht hvo hb
    refine wpList_step fun K hK => ?_
    rw [hw]
    have hd' : ∀ t, o.dst = some t → t < a.tmps.size := fun t h => by rw [hn]; exact hd t h
    cases b
    · simp only [Bool.false_eq_true, if_false] at hv ⊢
      rw [hdd] at hv
      exact hK _ _ (vops_ok hcall l vl hvl hv hlo (ht.put R2.undef hd') hs (by rw [size_put]; exact hn) fun a' w' ⟨μ', h1, h2, h3, h4, h5⟩ => hQ a' w' ⟨μ', h1, h2, h3, by rw [h4, size_put], by rw [h5, put_defers]⟩)
    · simp only [if_true, Option.bind_eq_some_iff] at hv ⊢
      obtain ⟨⟨v, H1⟩, hv1, hv⟩ := hv
      simp only at hv
      rw [hdd] at hv
      refine op_ok hcall hop hv1 hlo ht hs fun r w1 μ1 hR hs1 hst => hK _ _ ?_
      exact vops_ok hcall l vl hvl hv (Nat.le_trans hlo hst.len) ((ht.ext hst.ext).put hR hd') hs1 (by rw [size_put]; exact hn) fun a' w' ⟨μ', h1, h2, h3, h4, h5⟩ => hQ a' w' ⟨μ', h1, h2, hst.trans h3, by rw [h4, size_put], by rw [h5, put_defers]⟩
end
end Go.Proofs.Ytflddpkmajoeaaa.V
