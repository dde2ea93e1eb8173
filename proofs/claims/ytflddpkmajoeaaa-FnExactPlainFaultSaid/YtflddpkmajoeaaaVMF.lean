/- Code, functions, calls: what the machine computes the program computes. -/
import Derived.Test.YtflddpkmajoeaaaVMZ
namespace Go.Proofs.Ytflddpkmajoeaaa.V
open Go
set_option linter.unusedVariables false
set_option linter.unusedSimpArgs false

def compC (P : Program) (nt : Nat) : Code → VC → Option VC
  | .skip, .skip => some .skip
  | .region _ ops false, .ops _ => (compVs P nt ops ops.toList).map .ops
  | .region _ ops true, .draw free _ => (compVs P nt ops ops.toList).bind fun vl => if free.length ≤ vl.length ∧ drawOK ops vl free.length = true then some (.draw (vl.take free.length) (vl.drop free.length)) else none
  | .seq a b, .seq x y => (compC P nt a x).bind fun x => (compC P nt b y).map (.seq x)
  | .cond c a b, .cond _ x y => (cA c).bind fun c => (compC P nt a x).bind fun x => (compC P nt b y).map (.cond c x)
  | .block id c, .block _ x => (compC P nt c x).map (.block id)
  | .exit id, .exit _ => some (.exit id)
  | .loop c, .loop keep kx x => (compC P nt c x).map (.loop keep kx)
  | .ret, .ret => some .ret
  | _, _ => none
def compR (P : Program) : ResultVar → Option VR
  | .tmp t => some (.t t)
  | .cell a t => (tyL P t).map fun (g, n) => .cell a g n
def compRs (P : Program) : List ResultVar → Option (List VR)
  | [] => some []
  | r :: s => (compR P r).bind fun x => (compRs P s).map (x :: ·)
def VE.toExit : VE → Exit
  | .normal => .normal
  | .exit id => .exit id
  | .ret => .ret

theorem lk_keep {ts : Ts} {t : Nat} {v : Value} : ∀ (l : List Nat), lk (keepTs ts l) t = some v → lk ts t = some v
  | [], h => by simp [keepTs, lk] at h
  | k :: l, h => by
    simp only [keepTs] at h
    cases hk : lk ts k with
    | none => rw [hk] at h; exact lk_keep l h
    | some u =>
      rw [hk] at h
      simp only [lk] at h
      split at h
      · rename_i e; subst e; rw [← h]; exact hk
      · exact lk_keep l h
theorem TR.keep {μ : Mu} {ts : Ts} {a : Act} (h : TR μ ts a) (l : List Nat) : TR μ (keepTs ts l) a := fun t v hv => h t v (lk_keep l hv)

section
variable {P : Program}
theorem wp_loop_n {c : Code} {Q : Exit → Act → World → Prop} (I : Nat → Act → World → Prop) (round : ∀ n a w, I n a w → c.wp P (Exit.then (fun a' w' => ∃ m, m < n ∧ I m a' w') Q) a w) {n : Nat} {a : Act} {w : World} (h₀ : I n a w) : (Code.loop c).wp P Q a w := by
  intro b k cs
  have key : ∀ n a w, I n a w → ∃ e a' w', Q e a' w' ∧ Arrives P (lone (b.at a (.code c :: .inLoop c :: k)) cs w) b k cs e a' w' := by
    intro n
    induction n using Nat.strongRecOn with
    | _ n ih =>
      intro a w hI
      obtain ⟨e, a₁, w₁, hq, harr⟩ := round n a w hI b (.inLoop c :: k) cs
      cases e with
      | normal =>
        obtain ⟨m, hlt, hI₁⟩ := hq
        obtain ⟨e₂, a₂, w₂, hq₂, harr₂⟩ := ih m hlt a₁ w₁ hI₁
        exact ⟨e₂, a₂, w₂, hq₂, .of_steps (Steps.trans harr (.one step_inLoop)) harr₂⟩
      | exit id => exact ⟨_, a₁, w₁, hq, .pass (x := .inLoop c) rfl (fun _ _ => .inl (by simp)) harr⟩
      | goto l => exact ⟨_, a₁, w₁, hq, .pass (x := .inLoop c) rfl (fun _ _ => .inl (by simp)) harr⟩
      | ret => exact ⟨_, a₁, w₁, hq, .pass (x := .inLoop c) rfl (fun _ _ => .inl (by simp)) harr⟩
      | panic ch => exact ⟨_, a₁, w₁, hq, .pass (x := .inLoop c) rfl (fun _ _ => .inl (by simp)) harr⟩
      | outgrown => exact ⟨_, a₁, w₁, hq, .pass (x := .inLoop c) rfl (fun _ _ => .inl (by simp)) harr⟩
  obtain ⟨e, a', w', hq, harr⟩ := key n a w h₀
  exact ⟨e, a', w', hq, .of_steps (.one step_loop) harr⟩

theorem lim_some {f : Ts → Hp → Option (VE × Ts × Hp)} {ts : Ts} {H : Hp} {r : VE × Ts × Hp} (h : lim f ts H = some r) : ∃ n, iter f n ts H = some r := by
  unfold lim at h
  split at h
  · exact ⟨_, h⟩
  · cases h

theorem vc_ok {call : Cal} (hcall : CalOK P call) (hm : P.follows .mixedOrders = true) {nt : Nat} {lo : Nat} : ∀ (c : Code) (v v' : VC), compC P nt c v = some v' → ∀ {ts ts' : Ts} {H H' : Hp} {e : VE}, vc call lo v' ts H = some (e, ts', H') → lo ≤ H.length →
    ∀ {μ : Mu} {a : Act} {w : World} {Q : Exit → Act → World → Prop}, TR μ ts a → Sim μ H w → a.tmps.size = nt → (∀ a' w', Fin lo μ H w a ts' H' a' w' → Q e.toExit a' w') → c.wp P Q a w := by
  intro c
  induction c with
  | skip =>
    intro v v' hc ts ts' H H' e hv hlo μ a w Q ht hs hn hQ
    cases v <;> simp only [compC] at hc <;> try (cases hc; done)
    cases hc
    simp only [vc, Option.some.injEq, Prod.mk.injEq] at hv
    obtain ⟨rfl, rfl, rfl⟩ := hv
    exact wp_skip (hQ a w ⟨μ, ht, hs, Stp.refl _ _ _ _, rfl, rfl⟩)
  | region id ops d =>
    intro v v' hc ts ts' H H' e hv hlo μ a w Q ht hs hn hQ
    cases d with
    | false =>
      cases v <;> simp only [compC] at hc <;> try (cases hc; done)
      obtain ⟨vl, hvl, rfl⟩ := Option.map_eq_some_iff.1 hc
      simp only [vc, Option.bind_eq_some_iff, Option.some.injEq, Prod.mk.injEq] at hv
      obtain ⟨⟨ts1, H1⟩, hv, rfl, rfl, rfl⟩ := hv
      exact wp_region_list (vops_ok hcall _ _ hvl hv hlo ht hs hn hQ)
    | true =>
      cases v <;> simp only [compC] at hc <;> try (cases hc; done)
      rename_i free seq
      simp only [Option.bind_eq_some_iff] at hc
      obtain ⟨vl, hvl, hc⟩ := hc
      split at hc
      · rename_i hcond
        cases hc
        simp only [vc, Option.bind_eq_some_iff, Option.some.injEq, Prod.mk.injEq] at hv
        obtain ⟨⟨ts1, H1⟩, hf, ⟨ts2, H2⟩, hv, rfl, rfl, rfl⟩ := hv
        simp only at hv
        obtain ⟨hlen, hget⟩ := compVs_get hvl
        rw [Array.length_toList] at hlen
        have hok := drawOK_spec hlen hcond.2
        obtain ⟨vals, hss, h0, hl, rfl, hstep⟩ := trace _ hf
        have hl' : (vl.take free.length).length = free.length := by rw [List.length_take]; exact Nat.min_eq_left hcond.1
        rw [hl'] at hl
        refine wp_region_any hm ?_
        have hs' : Sim μ H { w with drawn := w.drawn + 1 } := Sim.drew (w := w) rfl hs
        refine free_ok hcall hvl hok hcond.1 (lo := lo) (ts' := ts2) (H' := H2) (H0 := H) (hs := hss) (vals := vals) (ts0 := ts) (μ0 := μ) (w0 := { w with drawn := w.drawn + 1 }) (a0 := a) hstep (by rw [hl]; exact hv) hlo hn hs' ?_ ops.size (by simp) ?_ ?_ ?_ (p := 0) (μ := μ) ?_ hn rfl (Nat.zero_le _) ?_ ?_ ?_ ?_ ?_ ?_
        · intro a' w' ⟨μ', g1, g2, g3, g4, g5⟩
          exact hQ a' w' ⟨μ', g1, g2, (Stp.drew (w := w) (w' := { w with drawn := w.drawn + 1 }) rfl rfl rfl rfl).trans g3, g4, g5⟩
        · intro i o ho hl; simp [Array.getElem?_replicate] at hl; split at hl <;> simp at hl
        · intro j hj; simp [Array.getElem?_replicate] at hj; split at hj <;> simp at hj
        · have : ∀ n, cntF (List.replicate n false) = n := by
            intro n; induction n with
            | zero => rfl
            | succ n ih => simp [List.replicate_succ, cntF, ih]
          simp [this]
        · intro t u hu
          refine ht t u ?_
          rw [← hu]
          have nil : ∀ (l : List VO) (k : Nat) (S : Nat → Bool), (∀ j, S j = false) → tsS S vals l k ts = ts := by
            intro l
            induction l with
            | nil => intro k S hS; rfl
            | cons x l ih => intro k S hS; simp only [tsS, hS]; exact ih _ _ hS
          rw [nil _ _ _ (fun j => by simp [Array.getElem?_replicate]; split <;> simp)]
        · intro j u hj; omega
        · intro j u _ _ _ _; simp [Array.getElem?_replicate]; split <;> simp
        · rw [h0]; exact hs'
        · intro i hi; rw [h0]
        · rw [h0]; exact Nat.le_refl _
        · rw [h0]; exact Stp.refl _ _ _ _
      · cases hc
  | seq x y ihx ihy =>
    intro v v' hc ts ts' H H' e hv hlo μ a w Q ht hs hn hQ
    cases v <;> simp only [compC] at hc <;> try (cases hc; done)
    simp only [Option.bind_eq_some_iff, Option.map_eq_some_iff] at hc
    obtain ⟨x', hx', y', hy', rfl⟩ := hc
    simp only [vc, Option.bind_eq_some_iff] at hv
    obtain ⟨⟨e1, ts1, H1⟩, hv1, hv2⟩ := hv
    refine wp_seq (ihx _ _ hx' hv1 hlo ht hs hn fun a1 w1 ⟨μ1, g1, g2, g3, g4, g5⟩ => ?_)
    cases e1 with
    | normal =>
      simp only at hv2
      exact ihy _ _ hy' hv2 (Nat.le_trans hlo g3.len) g1 g2 (by rw [g4]; exact hn) fun a2 w2 ⟨μ2, k1, k2, k3, k4, k5⟩ => hQ a2 w2 ⟨μ2, k1, k2, g3.trans k3, k4.trans g4, k5.trans g5⟩
    | exit id =>
      simp only [Option.some.injEq, Prod.mk.injEq] at hv2
      obtain ⟨rfl, rfl, rfl⟩ := hv2
      exact hQ a1 w1 ⟨μ1, g1, g2, g3, g4, g5⟩
    | ret =>
      simp only [Option.some.injEq, Prod.mk.injEq] at hv2
      obtain ⟨rfl, rfl, rfl⟩ := hv2
      exact hQ a1 w1 ⟨μ1, g1, g2, g3, g4, g5⟩
  | cond cnd x y ihx ihy =>
    intro v v' hc ts ts' H H' e hv hlo μ a w Q ht hs hn hQ
    cases v <;> simp only [compC] at hc <;> try (cases hc; done)
    simp only [Option.bind_eq_some_iff, Option.map_eq_some_iff] at hc
    obtain ⟨c', hc', x', hx', y', hy', rfl⟩ := hc
    simp only [vc, Option.bind_eq_some_iff] at hv
    obtain ⟨u, hu, hv⟩ := hv
    cases u <;> try (cases hv; done)
    rename_i t
    have hb := R2.boolv (ev_ok ht hc' hu)
    cases t
    · simp only [Bool.false_eq_true, if_false] at hv
      exact wp_cond_false hb (ihy _ _ hy' hv hlo ht hs hn hQ)
    · simp only [if_true] at hv
      exact wp_cond_true hb (ihx _ _ hx' hv hlo ht hs hn hQ)
  | block id x ih =>
    intro v v' hc ts ts' H H' e hv hlo μ a w Q ht hs hn hQ
    cases v <;> simp only [compC] at hc <;> try (cases hc; done)
    obtain ⟨x', hx', rfl⟩ := Option.map_eq_some_iff.1 hc
    simp only [vc, Option.bind_eq_some_iff, Option.some.injEq, Prod.mk.injEq] at hv
    obtain ⟨⟨e1, ts1, H1⟩, hv1, rfl, rfl, rfl⟩ := hv
    refine wp_block (ih _ _ hx' hv1 hlo ht hs hn fun a1 w1 hf => ?_)
    have hq := hQ a1 w1 hf
    cases e1 with
    | normal => exact hq
    | exit id' =>
      by_cases hid : id' = id
      · subst hid; simpa [VE.toExit, Exit.inBlock] using hq
      · have hne : ¬ (VE.exit id' = VE.exit id) := by simpa using hid
        simp only [hne, if_false] at hq
        simp only [VE.toExit, Exit.inBlock, hid, if_false]
        exact hq
    | ret => exact hq
  | exit id =>
    intro v v' hc ts ts' H H' e hv hlo μ a w Q ht hs hn hQ
    cases v <;> simp only [compC] at hc <;> try (cases hc; done)
    cases hc
    simp only [vc, Option.some.injEq, Prod.mk.injEq] at hv
    obtain ⟨rfl, rfl, rfl⟩ := hv
    exact wp_exit (hQ a w ⟨μ, ht, hs, Stp.refl _ _ _ _, rfl, rfl⟩)
  | ret =>
    intro v v' hc ts ts' H H' e hv hlo μ a w Q ht hs hn hQ
    cases v <;> simp only [compC] at hc <;> try (cases hc; done)
    cases hc
    simp only [vc, Option.some.injEq, Prod.mk.injEq] at hv
    obtain ⟨rfl, rfl, rfl⟩ := hv
    exact wp_ret (hQ a w ⟨μ, ht, hs, Stp.refl _ _ _ _, rfl, rfl⟩)
  | loop x ih =>
    intro v v' hc ts ts' H H' e hv hlo μ a w Q ht hs hn hQ
    cases v <;> simp only [compC] at hc <;> try (cases hc; done)
    rename_i keep kx xv
    obtain ⟨x', hx', rfl⟩ := Option.map_eq_some_iff.1 hc
    simp only [vc] at hv
    obtain ⟨n, hv⟩ := lim_some hv
    refine wp_loop_n (fun n a1 w1 => ∃ μ1 ts1 H1, iter (fun ts H => (vc call lo x' ts H).bind fun (e, ts', H') => some (e, keepTs ts' (if e = .normal then keep else kx), H')) n ts1 H1 = some (e, ts', H') ∧ TR μ1 ts1 a1 ∧ Sim μ1 H1 w1 ∧ Stp lo μ H w μ1 H1 w1 ∧ a1.tmps.size = a.tmps.size ∧ a1.defers = a.defers) (fun n a1 w1 hI => ?_) (n := n) ⟨μ, keepTs ts keep, H, hv, ht.keep keep, hs, Stp.refl _ _ _ _, rfl, rfl⟩
    obtain ⟨μ1, ts1, H1, hit, g1, g2, g3, g4, g5⟩ := hI
    cases n with
    | zero => simp [iter] at hit
    | succ n =>
      simp only [iter, Option.bind_eq_some_iff, Option.some.injEq] at hit
      obtain ⟨⟨e2, ts2, H2⟩, ⟨⟨e3, ts3, H3⟩, hv3, heq⟩, hit⟩ := hit
      cases heq
      refine ih _ _ hx' hv3 (Nat.le_trans hlo g3.len) g1 g2 (by rw [g4]; exact hn) fun a2 w2 ⟨μ2, k1, k2, k3, k4, k5⟩ => ?_
      cases e3 with
      | normal => exact ⟨n, Nat.lt_succ_self n, μ2, _, _, hit, k1.keep _, k2, g3.trans k3, k4.trans g4, k5.trans g5⟩
      | exit id =>
        simp only [Option.some.injEq, Prod.mk.injEq] at hit
        obtain ⟨rfl, rfl, rfl⟩ := hit
        exact hQ a2 w2 ⟨μ2, k1.keep _, k2, g3.trans k3, k4.trans g4, k5.trans g5⟩
      | ret =>
        simp only [Option.some.injEq, Prod.mk.injEq] at hit
        obtain ⟨rfl, rfl, rfl⟩ := hit
        exact hQ a2 w2 ⟨μ2, k1.keep _, k2, g3.trans k3, k4.trans g4, k5.trans g5⟩
  | rangeFunc f ps x y ihx ihy => intro v v' hc; cases v <;> simp [compC] at hc
  | scope x ih => intro v v' hc; cases v <;> simp [compC] at hc
  | label l => intro v v' hc; cases v <;> simp [compC] at hc
  | goto l => intro v v' hc; cases v <;> simp [compC] at hc
  | refuse s => intro v v' hc; cases v <;> simp [compC] at hc

theorem noRef_RC {μ μ' : Mu} {v r : Value} (h : isRef v = false) (hr : RC μ v r) : RC μ' v r := by
  cases v <;> simp only [isRef, Bool.true_eq_false] at h
  case pointer a => cases a with
    | none => exact hr
    | some a => simp at h
  case slice a n c => cases a with
    | none => exact hr
    | some a => simp at h
  all_goals (first | exact hr | simp at h)
theorem noRef_R1 {μ μ' : Mu} {v r : Value} (h : noRef1 v = true) (hr : R1 μ v r) : R1 μ' v r := by
  by_cases ha : ∃ cs, v = .agg cs
  · obtain ⟨cs, rfl⟩ := ha
    obtain ⟨rs, rfl, hl⟩ := hr
    refine ⟨rs, rfl, ?_⟩
    simp only [noRef1, List.all_eq_true, Bool.not_eq_true'] at h
    generalize cs.toList = l at hl h
    generalize rs.toList = m at hl
    induction hl with
    | nil => exact .nil
    | cons h1 h2 ih => exact .cons (noRef_RC (h _ (by simp)) h1) (ih fun x hx => h x (by simp [hx]))
  · have hna : ∀ cs, v ≠ .agg cs := fun cs e => ha ⟨cs, e⟩
    rw [R1_eq hna] at hr ⊢
    exact noRef_RC (by cases v <;> simp [noRef1] at h ⊢ <;> first | exact h | exact absurd rfl (hna _)) hr
theorem noRef_R2 {μ μ' : Mu} {v r : Value} (h : noRef v = true) (hr : R2 μ v r) : R2 μ' v r := by
  by_cases ha : ∃ cs, v = .tuple cs
  · obtain ⟨cs, rfl⟩ := ha
    obtain ⟨rs, rfl, hl⟩ := hr
    refine ⟨rs, rfl, ?_⟩
    simp only [noRef, List.all_eq_true] at h
    generalize cs.toList = l at hl h
    generalize rs.toList = m at hl
    induction hl with
    | nil => exact .nil
    | cons h1 h2 ih => exact .cons (noRef_R1 (h _ (by simp)) h1) (ih fun x hx => h x (by simp [hx]))
  · have hna : ∀ cs, v ≠ .tuple cs := fun cs e => ha ⟨cs, e⟩
    rw [R2_eq hna] at hr ⊢
    exact noRef_R1 (by cases v <;> simp [noRef] at h ⊢ <;> first | exact h | exact absurd rfl (hna _)) hr

def resF (tmps : Array Value) : ResultVar → Sem Value
  | .tmp t => pure (tmps.getD t Go.undef)
  | .cell a t => do loadVar t (← asAddr (tmps.getD a Go.undef))
theorem results_eq (fn : Func) (tmps : Array Value) : results fn tmps = (do let vs ← fn.results.mapM (resF tmps); pure (if h : vs.size = 1 then vs[0] else .tuple vs)) := by
  unfold results
  congr 1
theorem vress_ok {μ : Mu} {ts : Ts} {H : Hp} {a : Act} {w : World} (ht : TR μ ts a) (hs : Sim μ H w) : ∀ (rs : List ResultVar) (vr : List VR), compRs P rs = some vr → ∀ {vs : List Value}, vress ts H vr = some vs →
    ∃ xs : List Value, (rs.mapM (resF a.tmps)).run P w = .ok xs w ∧ L2 (R1 μ) vs xs
  | [], vr, hc, vs, hv => by
    simp only [compRs, Option.some.injEq] at hc; subst hc
    simp only [vress, Option.some.injEq] at hv; subst hv
    exact ⟨[], by simp, .nil⟩
  | r :: rs, vr, hc, vs, hv => by
    simp only [compRs, Option.bind_eq_some_iff, Option.map_eq_some_iff] at hc
    obtain ⟨x, hx, s, hs', rfl⟩ := hc
    simp only [vress, Option.bind_eq_some_iff] at hv
    obtain ⟨v, hv1, us, hus, hv⟩ := hv
    split at hv
    · rename_i hn
      cases hv
      obtain ⟨xs, hxs, hrel⟩ := vress_ok ht hs rs s hs' hus
      have hone : ∃ y, (resF a.tmps r).run P w = .ok y w ∧ R1 μ v y := by
        cases r with
        | tmp t =>
          simp only [compR, Option.some.injEq] at hx; subst hx
          obtain ⟨y, hy, hR⟩ := ht t v hv1
          exact ⟨y, by simp [resF, hy], hR.to_R1 (ntup_ok hn)⟩
        | cell p t =>
          simp only [compR, Option.map_eq_some_iff] at hx
          obtain ⟨⟨g, n⟩, hty, rfl⟩ := hx
          simp only [vres, Option.bind_eq_some_iff] at hv1
          obtain ⟨pv, hpv, hv1⟩ := hv1
          cases pv <;> try (cases hv1; done)
          rename_i pa
          cases pa <;> try (cases hv1; done)
          rename_i pa
          obtain ⟨y, hy, hR⟩ := ht p _ hpv
          obtain ⟨z, hz, hRz⟩ := load_ok (P := P) hs hty hR hv1
          refine ⟨z, ?_, hRz.to_R1 (ntup_ok hn)⟩
          obtain ⟨_, m, hm, rfl⟩ := hR
          have hz' : (loadVar t ⟨m.b, m.o + pa.off, none⟩).run P w = .ok z w := by simpa [Instr.loadAt, Instr.sureAddr] using hz
          have hy' : a.tmps.getD p Go.undef = .pointer (some ⟨m.b, m.o + pa.off, none⟩) := by simp [hy]
          simp only [resF, hy', asAddr, Sem.run_bind, Sem.run_pure, Result.andThen_ok, hz']
      obtain ⟨y, hy, hR⟩ := hone
      refine ⟨y :: xs, ?_, .cons hR hrel⟩
      rw [List.mapM_cons, Sem.run_bind, hy, Result.andThen_ok, Sem.run_bind, hxs]
      rfl
    · cases hv

structure FnOK (P : Program) (f : Nat) (vf : VF) : Prop where
  ok : ∃ fn c, P.funcs[f]? = some fn ∧ fn.body = some c ∧ (fn.name == "runtime.NumGoroutine") = false ∧ fn.ntmps = vf.nt ∧ vf.np ≤ vf.nt ∧ compC P vf.nt c vf.body = some vf.body ∧ compRs P fn.results.toList = some vf.res

theorem start_lk : ∀ (l : List Value) (k t : Nat) (v : Value), lk (start k l) t = some v → k ≤ t ∧ l[t - k]? = some v
  | [], k, t, v, h => by simp [start, lk] at h
  | x :: l, k, t, v, h => by
    simp only [start, lk] at h
    split at h
    · rename_i e; subst e; cases h; exact ⟨Nat.le_refl _, by simp⟩
    · obtain ⟨h1, h2⟩ := start_lk l (k + 1) t v h
      refine ⟨by omega, ?_⟩
      have e : t - k = (t - (k + 1)) + 1 := by omega
      rw [e]; simpa using h2

theorem fn_ok {call : Cal} (hcall : CalOK P call) (hm : P.follows .mixedOrders = true) {f : Nat} {vf : VF} (hf : FnOK P f vf) {args : List Value} {lo : Nat} {H H' : Hp} {v : Value} (hv : vfun call vf args lo H = some (v, H')) (hlo : lo ≤ H.length) {μ : Mu} {w : World} {rargs : List Value} (ha : L2 (R2 μ) args rargs) (hs : Sim μ H w) :
    (∃ fn, P.funcs[f]? = some fn ∧ fn.body.isSome = true ∧ (fn.name == "runtime.NumGoroutine") = false) ∧ Calls P f rargs.toArray w (fun e w' => ∃ r μ', e = .returned r ∧ R2 μ' v r ∧ Sim μ' H' w' ∧ Stp lo μ H w μ' H' w') := by
  obtain ⟨fn, c, hfn, hbody, hname, hnt, hnp, hc, hr⟩ := hf.ok
  refine ⟨⟨fn, hfn, by simp [hbody], hname⟩, calls_of_wp hfn hbody ?_⟩
  unfold vfun at hv
  split at hv
  · rename_i hnargs
    simp only [Option.bind_eq_some_iff] at hv
    obtain ⟨⟨e, ts, H1⟩, hvc, hv⟩ := hv
    have hv' : (∀ id, e ≠ .exit id) ∧ ∃ vs, vress ts H1 vf.res = some vs ∧ v = tup vs ∧ H' = (if vf.pu && noRef (tup vs) then H else H1) := by
      cases e with
      | exit id => cases hv
      | normal =>
        simp only [Option.bind_eq_some_iff, Option.some.injEq, Prod.mk.injEq] at hv
        obtain ⟨vs, h1, h2, h3⟩ := hv
        exact ⟨by simp, vs, h1, h2.symm, h3.symm⟩
      | ret =>
        simp only [Option.bind_eq_some_iff, Option.some.injEq, Prod.mk.injEq] at hv
        obtain ⟨vs, h1, h2, h3⟩ := hv
        exact ⟨by simp, vs, h1, h2.symm, h3.symm⟩
    obtain ⟨hne, vs, hvs, rfl, hH'⟩ := hv'
    have hral := ha.len
    refine vc_ok hcall hm _ _ _ hc hvc (by split; exact Nat.le_refl _; exact hlo) (μ := μ) ?_ hs ?_ fun a' w' ⟨μ', g1, g2, g3, g4, g5⟩ => ?_
    · -- the arguments lie in the first temporaries
      intro t u hu
      obtain ⟨_, h2⟩ := start_lk args 0 t u hu
      obtain ⟨r, h3, h4⟩ := ha.get (i := t) (x := u) (by simpa using h2)
      refine ⟨r, ?_, h4⟩
      have hlt := (List.getElem?_eq_some_iff.1 h3).1
      simp only
      rw [Array.getElem?_append_left (by simpa using hlt)]
      simpa using h3
    · simp only [Array.size_append, List.size_toArray, Array.size_replicate]
      omega
    · obtain ⟨xs, hxs, hrel⟩ := vress_ok (P := P) g1 g2 fn.results.toList vf.res hr hvs
      have hres : (results fn a'.tmps).run P w' = .ok (if h : xs.toArray.size = 1 then xs.toArray[0] else .tuple xs.toArray) w' := by
        rw [results_eq, Sem.run_bind, Array.mapM_eq_mapM_toList]
        simp only [Sem.run_map, hxs]
        rfl
      have hR : R2 μ' (tup vs) (if h : xs.toArray.size = 1 then xs.toArray[0] else .tuple xs.toArray) := by
        cases hrel with
        | nil => exact ⟨#[], by simp, .nil⟩
        | cons h1 h2 => cases h2 with
          | nil => exact R2.of_R1 (by simpa [tup] using h1)
          | cons h2 h3 => exact ⟨_, by simp; rfl, by simpa [tup] using L2.cons h1 (L2.cons h2 h3)⟩
      have fin : ∃ r μ'', Ending.returned (if h : xs.toArray.size = 1 then xs.toArray[0] else .tuple xs.toArray) = .returned r ∧ R2 μ'' (tup vs) r ∧ Sim μ'' H' w' ∧ Stp lo μ H w μ'' H' w' := by
        cases hpu : vf.pu with
        | false =>
          rw [hpu] at g3 hH'
          simp only [Bool.false_and, Bool.false_eq_true, if_false] at g3 hH'
          subst hH'
          exact ⟨_, μ', rfl, hR, g2, g3⟩
        | true =>
          rw [hpu] at g3 hH'
          simp only [if_true, Bool.true_and] at g3 hH'
          cases hnr : noRef (tup vs) with
          | false =>
            rw [hnr] at hH'
            simp only [Bool.false_eq_true, if_false] at hH'
            subst hH'
            exact ⟨_, μ', rfl, hR, g2, g3.mono hs hlo (Nat.le_refl _)⟩
          | true =>
            rw [hnr] at hH'
            simp only [if_true] at hH'
            subst hH'
            have hold : ∀ b, b < w.heap.size → w'.heap[b]? = w.heap[b]? := fun b hb => g3.old b hb fun i bl m hi hbl _ _ => by
              have := (List.getElem?_eq_some_iff.1 hbl).1; omega
            refine ⟨_, μ, rfl, noRef_R2 hnr hR, ⟨hs.dom, fun i b hb => ?_, hs.sep⟩, ⟨Ext.refl _, g3.os, g3.tape, g3.output, g3.size, Nat.le_refl _, fun b hb _ => hold b hb, fun i bl m hi hb hr hm _ => ⟨i, bl, m, hi, hb, hr, hm, rfl⟩, fun _ _ _ => rfl⟩⟩
            obtain ⟨m, hm, hok⟩ := hs.blk i b hb
            refine ⟨m, hm, ?_⟩
            by_cases hq : b.cs ≠ [] ∨ b.rw = true
            · exact hok.keep (hold _ (hok.lt hq))
            · simp only [not_or, ne_eq, Decidable.not_not, Bool.not_eq_true] at hq
              exact hok.dull hq.1 hq.2
      have hdef : a'.defers = [] := by rw [g5]
      cases e with
      | normal => exact bodyPost_end hres hdef fin
      | exit id => exact absurd rfl (hne id)
      | ret => exact bodyPost_ret hres hdef fin
  · cases hv

def EnvOK (P : Program) (E : Env) : Prop := ∀ x ∈ E, FnOK P x.1 x.2
theorem EnvOK.nil : EnvOK P [] := fun x h => by simp at h
theorem EnvOK.cons {E : Env} {f : Nat} {vf : VF} (h : FnOK P f vf) (hE : EnvOK P E) : EnvOK P ((f, vf) :: E) := fun x hx => by
  rcases List.mem_cons.1 hx with rfl | hx
  · exact h
  · exact hE x hx
theorem EnvOK.append {E F : Env} (h : EnvOK P E) (k : EnvOK P F) : EnvOK P (E ++ F) := fun x hx => by
  rcases List.mem_append.1 hx with hx | hx
  · exact h x hx
  · exact k x hx
theorem EnvOK.find : ∀ {E : Env}, EnvOK P E → ∀ {f vf}, E.find f = some vf → FnOK P f vf
  | [], _, f, vf, h => by simp [Env.find] at h
  | (n, g) :: E, hE, f, vf, h => by
    simp only [Env.find] at h
    split at h
    · rename_i e; subst e; cases h; exact hE (n, g) (by simp)
    · exact EnvOK.find (E := E) (fun x hx => hE x (by simp [hx])) h

/-- THE LAW: what the machine computes at a call, the program's call comes to. -/
theorem call_ok (hm : P.follows .mixedOrders = true) {E : Env} (hE : EnvOK P E) : ∀ d, CalOK P (vcall E d)
  | 0 => fun f args lo H v H' h => by simp [vcall] at h
  | d + 1 => fun f args lo H v H' h hlo μ w rargs ha hs => by
    simp only [vcall, Option.bind_eq_some_iff] at h
    obtain ⟨vf, hvf, h⟩ := h
    exact fn_ok (call_ok hm hE d) hm (hE.find hvf) h hlo ha hs
end
end Go.Proofs.Ytflddpkmajoeaaa.V
