/- All operations: what the machine computes at one, the program comes to. -/
import Derived.Test.YtflddpkmajoeaaaVMA
namespace Go.Proofs.Ytflddpkmajoeaaa.V
open Go
set_option linter.unusedVariables false
set_option linter.unusedSimpArgs false

/-- What a table of calls says is so of the program's calls. -/
def CalOK (P : Program) (call : Cal) : Prop := ∀ (f : Nat) (args : List Value) (lo : Nat) (H : Hp) (v : Value) (H' : Hp), call f args lo H = some (v, H') → lo ≤ H.length → ∀ (μ : Mu) (w : World) (rargs : List Value), L2 (R2 μ) args rargs → Sim μ H w →
  (∃ fn, P.funcs[f]? = some fn ∧ fn.body.isSome = true ∧ (fn.name == "runtime.NumGoroutine") = false) ∧
  Calls P f rargs.toArray w (fun e w' => ∃ r μ', e = .returned r ∧ R2 μ' v r ∧ Sim μ' H' w' ∧ Stp lo μ H w μ' H' w')

section
variable {P : Program}
/-- What is known behind an operation. -/
def Post (lo : Nat) (μ : Mu) (H : Hp) (w : World) (v : Value) (H' : Hp) (a : Act) (d : Option Nat) (K : Act → World → Prop) : Prop :=
  ∀ r w' μ', R2 μ' v r → Sim μ' H' w' → Stp lo μ H w μ' H' w' → K (a.put d r) w'
theorem Post.still {lo : Nat} {μ : Mu} {H : Hp} {w : World} {v : Value} {a : Act} {d : Option Nat} {K : Act → World → Prop} (h : Post lo μ H w v H a d K) (hs : Sim μ H w) {r : Value} (hr : R2 μ v r) : K (a.put d r) w :=
  h r w μ hr hs (Stp.refl _ _ _ _)

theorem bin_ok {op : BinOp} {x y v : Value} {μ : Mu} {rx ry : Value} (hv : vbin op x y = some v) (hx : R2 μ x rx) (hy : R2 μ y ry) (t : TypeId) (ox oy : Operand) (w : World) :
    (do eqGuard op t ox oy rx ry; binOp op t rx ry : Sem Value).run P w = .ok v w ∧ R2 μ v v := by
  cases x <;> try (simp [vbin] at hv; done)
  cases y <;> try (simp [vbin] at hv; done)
  rename_i k a k' b
  obtain rfl : rx = .int k a := hx
  obtain rfl : ry = .int k' b := hy
  simp only [vbin] at hv
  split at hv
  · rename_i hk; subst hk
    cases op <;> simp only at hv <;> try (cases hv; done)
    case quo => split at hv
                · cases hv
                · cases hv; exact ⟨by simp [eqGuard, binOp, Op.intDiv, *], R2.of_RC rfl⟩
    case rem => split at hv
                · cases hv
                · cases hv; exact ⟨by simp [eqGuard, binOp, Op.intDiv, *], R2.of_RC rfl⟩
    all_goals (cases hv; exact ⟨by simp [eqGuard, binOp, Op.intArith, Op.intCmp], R2.of_RC rfl⟩)
  · cases hv

theorem asI_some {v : Value} {n : Int} (h : asI v = some n) : ∃ k, v = .int k n := by
  cases v <;> simp [asI] at h
  subst h; exact ⟨_, rfl⟩

theorem run_slice_lit (w : World) {t e : TypeId} {i : TypeInfo} (ht : P.underlying t = some (.slice e)) (hi : P.info? e = some i) (a : Option Addr) (n c : Nat) (lo hi' : Option Value) (l h : Nat)
    (hlo : (lo = none ∧ l = 0) ∨ ∃ k, lo = some (.int k (l : Int))) (hhi : (hi' = none ∧ h = n) ∨ ∃ k, hi' = some (.int k (h : Int))) (hlh : l ≤ h) (hhc : h ≤ c) :
    (Instr.sliceAt t (.slice a n c) lo hi' none).run P w = .ok (.slice (if c = l then a else a.map (·.add (l * i.size))) (h - l) (c - l)) w := by
  have hb : ∀ (code : BoundsCode) (k : IntKind) (x y : Nat), x ≤ y → (Instr.sliceBound (.int k (x : Int)) y code).run P w = .ok x w := by
    intro code k x y hxy
    simp [Instr.sliceBound, asIntOf, hxy]
  have hbs : (Instr.sliceBounds true n c lo hi' none).run P w = .ok (l, h, c) w := by
    rcases hlo with ⟨rfl, rfl⟩ | ⟨k, rfl⟩ <;> rcases hhi with ⟨rfl, rfl⟩ | ⟨k', rfl⟩ <;> simp [Instr.sliceBounds, hb _ _ _ _ hlh, hb _ _ _ _ hhc]
  simp only [Instr.sliceAt, Sem.run_bind, run_underlying ht, Result.andThen_ok, Instr.slice, hbs, run_sizeOf hi, Sem.run_pure]

theorem slice_ok {μ : Mu} {t e : TypeId} {n : Nat} (ht : slE P t = some e) (hn : szL P e = some n) (hn0 : 0 < n) {x rx u : Value} (hx : R2 μ x rx) {lo hi : Option Value} (hv : vslice n x lo hi none = some u) (w : World) :
    ∀ {rlo rhi : Option Value}, (∀ v, lo = some v → ∃ r, rlo = some r ∧ R2 μ v r) → (lo = none → rlo = none) → (∀ v, hi = some v → ∃ r, rhi = some r ∧ R2 μ v r) → (hi = none → rhi = none) →
    ∃ r, (Instr.sliceAt t rx rlo rhi none).run P w = .ok r w ∧ R2 μ u r := by
  intro rlo rhi h1 h2 h3 h4
  obtain ⟨i, hi', rfl⟩ := szL_some hn
  cases x <;> simp only [vslice] at hv <;> try (cases hv; done)
  rename_i xa xn xc
  simp only [Option.bind_eq_some_iff] at hv
  obtain ⟨l, hl, h, hh, hv⟩ := hv
  split at hv
  · rename_i hc
    obtain ⟨hst, hl0, hlh, hhn⟩ := hc
    obtain ⟨l, rfl⟩ := Int.eq_ofNat_of_zero_le hl0
    obtain ⟨h, rfl⟩ := Int.eq_ofNat_of_zero_le (Int.le_trans hl0 hlh)
    have hlo' : (rlo = none ∧ l = 0) ∨ ∃ k, rlo = some (.int k (l : Int)) := by
      cases lo with
      | none => simp at hl; exact .inl ⟨h2 rfl, by omega⟩
      | some v =>
        obtain ⟨r, hr, hrr⟩ := h1 v rfl
        obtain ⟨k, rfl⟩ := asI_some hl
        obtain rfl : r = .int k l := hrr
        exact .inr ⟨k, hr⟩
    have hhi' : (rhi = none ∧ h = xn) ∨ ∃ k, rhi = some (.int k (h : Int)) := by
      cases hi with
      | none => simp at hh; exact .inl ⟨h4 rfl, by omega⟩
      | some v =>
        obtain ⟨r, hr, hrr⟩ := h3 v rfl
        obtain ⟨k, rfl⟩ := asI_some hh
        obtain rfl : r = .int k h := hrr
        exact .inr ⟨k, hr⟩
    cases xa with
    | none =>
      simp only [Option.some.injEq] at hv; subst hv
      obtain ⟨rfl, rfl⟩ := hx
      have hrun := run_slice_lit w (slE_some ht) hi' none 0 0 rlo rhi l h hlo' hhi' (by omega) (by omega)
      obtain rfl : l = 0 := by omega
      obtain rfl : h = 0 := by omega
      exact ⟨_, hrun, R2.of_RC ⟨rfl, by simp⟩⟩
    | some a =>
      simp only [Option.some.injEq] at hv; subst hv
      obtain ⟨hsp, m, hm, hms, a', c, rfl, hsp', hnc, h0, hpos⟩ := hx
      have hrun := run_slice_lit w (slE_some ht) hi' (some a') xn c rlo rhi l h hlo' hhi' (by omega) (by omega)
      refine ⟨_, hrun, R2.of_RC ?_⟩
      have e1 : ((h : Int) - (l : Int)).toNat = h - l := by omega
      simp only [Int.toNat_natCast, e1]
      refine ⟨rfl, m, hm, hms.trans hst, if c = l then a' else a'.add (l * i.size), c - l, ?_, ?_, by omega, fun hz => ?_, fun hp => ?_⟩
      · split <;> rfl
      · intro hp0
        have hsp' := hsp' (by omega)
        split
        · exact hsp'
        · unfold Addr.add; split <;> simp [hsp']
      · -- at the head: nothing was cut off
        simp only at hz
        have ha0 : a.off = 0 := by omega
        have hl0' : l * i.size = 0 := by omega
        obtain ⟨rfl, rfl⟩ := h0 ha0
        rcases Nat.mul_eq_zero.1 hl0' with hl | hsz
        · subst hl
          refine ⟨?_, by omega⟩
          split
          · rfl
          · simp [Addr.add]
        · exact absurd hsz (by omega)
      · have hxp : 0 < xn := by omega
        rw [hpos hxp]
        rw [if_neg (by omega), addr_add, Nat.add_assoc]
  · cases hv
end
end Go.Proofs.Ytflddpkmajoeaaa.V
