/- One operation of the program and its image: the general law. -/
import Derived.Test.YtmcljallamhccaaVMQ
namespace Go.Proofs.Ytmcljallamhccaa.V
open Go
set_option linter.unusedVariables false
set_option linter.unusedSimpArgs false
section
variable {P : Program}
theorem mapA {α β : Type} (l : Array α) (f : α → β) : (l.map f).toList = l.toList.map f := Array.toList_map
theorem run_eq_bool {t : TypeId} (h : P.underlying t = some .bool) (neg : Bool) (p q : Bool) (x y : Operand) (w : World) :
    (do eqGuard (if neg then .neq else .eql) t x y (.bool p) (.bool q); binOp (if neg then .neq else .eql) t (.bool p) (.bool q) : Sem Value).run P w = .ok (.bool (if neg then !(p == q) else p == q)) w := by
  have he : (Op.equal t (.bool p) (.bool q)).run P w = .ok (p == q) w := by
    show (Op.equalIn (9999 + 1) t (.bool p) (.bool q)).run P w = _
    rw [Op.equalIn, Sem.run_bind, run_underlying h]
    rfl
  cases neg
  · show (do pure (Value.bool (← Op.equal t (.bool p) (.bool q))) : Sem Value).run P w = _
    simp only [Sem.run_bind, he, Result.andThen_ok, Sem.run_pure]; rfl
  · show (do pure (Value.bool (!(← Op.equal t (.bool p) (.bool q)))) : Sem Value).run P w = _
    simp only [Sem.run_bind, he, Result.andThen_ok, Sem.run_pure]; rfl
theorem run_eq_nil {t e : TypeId} (h : P.underlying t = some (.slice e)) (neg : Bool) (base : Option Addr) (n c : Nat) (x y : Operand) (w : World) :
    (do eqGuard (if neg then .neq else .eql) t x y (.slice base n c) (.slice none 0 0); binOp (if neg then .neq else .eql) t (.slice base n c) (.slice none 0 0) : Sem Value).run P w = .ok (.bool (if neg then !base.isNone else base.isNone)) w := by
  have he : (Op.equal t (.slice base n c) (.slice none 0 0)).run P w = .ok base.isNone w := by
    show (Op.equalIn (9999 + 1) t (.slice base n c) (.slice none 0 0)).run P w = _
    rw [Op.equalIn, Sem.run_bind, run_underlying h]
    cases base <;> rfl
  cases neg
  · show (do pure (Value.bool (← Op.equal t (.slice base n c) (.slice none 0 0))) : Sem Value).run P w = _
    simp only [Sem.run_bind, he, Result.andThen_ok, Sem.run_pure]; rfl
  · show (do pure (Value.bool (!(← Op.equal t (.slice base n c) (.slice none 0 0)))) : Sem Value).run P w = _
    simp only [Sem.run_bind, he, Result.andThen_ok, Sem.run_pure]; rfl
theorem L2.ptrs {μ : Mu} : ∀ {vs rs : List Value}, L2 (R2 μ) vs rs → vs.all isPtr = true → L2 (RP μ) vs rs
  | _, _, .nil, _ => .nil
  | _, _, .cons (a := a) h t, hall => by
    simp only [List.all_cons, Bool.and_eq_true] at hall
    refine .cons ?_ (t.ptrs hall.2)
    cases a <;> first | exact h | (exact absurd hall.1 (by simp [isPtr]))
theorem sO {μ : Mu} {ts : Ts} {a : Act} (ht : TR μ ts a) {x : Option Operand} {y : Option Arg} (hc : cO x = some y) : (y = none → x.map a.eval = none) ∧ ∀ z v, y = some z → ev ts z = some v → ∃ r, x.map a.eval = some r ∧ R2 μ v r := by
  cases x with
  | none => simp only [cO, Option.some.injEq] at hc; subst hc; exact ⟨(fun _ => rfl), (fun z v h => by cases h)⟩
  | some x =>
    simp only [cO, Option.map_eq_some_iff] at hc
    obtain ⟨y', hy, rfl⟩ := hc
    exact ⟨(fun h => by cases h), (fun z v h hv => by cases h; exact ⟨_, rfl, ev_ok ht hy hv⟩)⟩

set_option maxHeartbeats 4000000 in
theorem op_ok {call : Cal} (hcall : CalOK P call) {o : Oper} {vo : VOp} (hc : compO P o.op = some vo) {lo : Nat} {ts : Ts} {H H' : Hp} {v : Value} (hv : vop call lo ts H vo = some (v, H')) (hlo : lo ≤ H.length)
    {μ : Mu} {a : Act} {w : World} (ht : TR μ ts a) (hs : Sim μ H w) {K : Act → World → Prop} {Q : Exit → Act → World → Prop} (hK : Post lo μ H w v H' a o.dst K) : o.wp P a w K Q := by
  have one : ∀ {x : Operand} {vo : VOp} {f : Arg → VOp}, (cA x).map f = some vo → ∃ y, cA x = some y ∧ vo = f y := by
    intro x vo f h
    obtain ⟨y, hy, rfl⟩ := Option.map_eq_some_iff.1 h
    exact ⟨y, hy, rfl⟩
  have valw : ∀ {r : Value} {s : Sem Value}, execOp a.eval o = (do pure (.value (← s))) → s.run P w = .ok r w → R2 μ v r → H' = H → o.wp P a w K Q := by
    intro r s he hr hR hH
    subst hH
    exact wp_val (r := r) (w' := w) (by rw [he]; simp [hr]) (hK.still hs hR)
  cases hop : o.op <;> rw [hop] at hc <;> simp only [compO] at hc <;> try (cases hc; done)
  case move x =>
    obtain ⟨y, hy, rfl⟩ := one hc
    simp only [vop, Option.bind_eq_some_iff, Option.some.injEq, Prod.mk.injEq] at hv
    obtain ⟨u, hu, rfl, rfl⟩ := hv
    exact wp_val (by simp only [execOp, hop]; rfl) (hK.still hs (ev_ok ht hy hu))
  case assign x =>
    obtain ⟨y, hy, rfl⟩ := one hc
    simp only [vop, Option.bind_eq_some_iff, Option.some.injEq, Prod.mk.injEq] at hv
    obtain ⟨u, hu, rfl, rfl⟩ := hv
    exact wp_val (by simp only [execOp, hop]; rfl) (hK.still hs (ev_ok ht hy hu))
  case pick c x y =>
    simp only [Option.bind_eq_some_iff, Option.map_eq_some_iff] at hc
    obtain ⟨c', hc', x', hx', y', hy', rfl⟩ := hc
    simp only [vop, Option.bind_eq_some_iff] at hv
    obtain ⟨cv, hcv, hv⟩ := hv
    cases cv <;> try (cases hv; done)
    rename_i t
    simp only [Option.bind_eq_some_iff, Option.some.injEq, Prod.mk.injEq] at hv
    obtain ⟨u, hu, rfl, rfl⟩ := hv
    have hcb := R2.boolv (ev_ok ht hc' hcv)
    cases t
    · simp only [Bool.false_eq_true, if_false] at hu
      exact wp_val (r := a.eval y) (by simp [execOp, hop, hcb, asBool]) (hK.still hs (ev_ok ht hy' hu))
    · simp only [if_true] at hu
      exact wp_val (r := a.eval x) (by simp [execOp, hop, hcb, asBool]) (hK.still hs (ev_ok ht hx' hu))
  case alloc e =>
    simp only [Option.map_eq_some_iff] at hc
    obtain ⟨z, hz, rfl⟩ := hc
    simp only [vop, Option.some.injEq, Prod.mk.injEq] at hv
    obtain ⟨rfl, rfl⟩ := hv
    obtain ⟨i, zv, hi, hzv, hok, rfl, hlen⟩ := zeroL_some hz
    obtain ⟨he, hp⟩ := ok1_cells hok
    have hal := hs.alloc (vs := vcells zv) (C := zv.cells) (e := e) (k := 1) (s := zv.cells.size) (k0 := false) (fun j c hj => ⟨c, by rw [← Array.getElem?_toList, he]; exact hj, RC.const (hp c (List.mem_of_getElem? hj))⟩) (by simp) (by simp) (by simp [maxLen]) lo
    refine wp_val (r := .pointer (some ⟨w.heap.size, 0, none⟩)) (w' := w.alloc (.cells zv.cells e)) ?_ (hK _ _ _ (R2.of_RC ⟨rfl, _, upd_same _ _ _, rfl⟩) hal.1 hal.2)
    simp [execOp, hop, Instr.alloc, zeroValue, typeInfo, hi, hzv, newVar, newRow]
  case box e x =>
    obtain ⟨y, hy, rfl⟩ := one hc
    simp only [vop, Option.bind_eq_some_iff] at hv
    obtain ⟨u, hu, hv⟩ := hv
    split at hv
    · rename_i hn
      simp only [Option.some.injEq, Prod.mk.injEq] at hv
      obtain ⟨rfl, rfl⟩ := hv
      have hr := ((ev_ok ht hy hu).to_R1 (ntup_ok hn)).cells
      have hal := hs.alloc (vs := vcells u) (C := (a.eval x).cells) (e := e) (k := 1) (s := (a.eval x).cells.size) (k0 := false) (fun j c hj => by
        obtain ⟨r, h1, h2⟩ := hr.get hj
        exact ⟨r, by rw [← Array.getElem?_toList]; exact h1, h2⟩) (by simp) (by simp) (by simp [maxLen]) lo
      refine wp_val (r := .pointer (some ⟨w.heap.size, 0, none⟩)) (w' := w.alloc (.cells (a.eval x).cells e)) ?_ (hK _ _ _ (R2.of_RC ⟨rfl, _, upd_same _ _ _, rfl⟩) hal.1 hal.2)
      simp [execOp, hop, Instr.box, newVar, newRow]
    · cases hv
  case build t ps =>
    simp only [Option.bind_eq_some_iff, Option.map_eq_some_iff] at hc
    obtain ⟨fs, hfs, z, hz, pl, hpl, cps, hcps, rfl⟩ := hc
    simp only [vop, Option.bind_eq_some_iff, Option.some.injEq, Prod.mk.injEq] at hv
    obtain ⟨cs, hcs, rfl, rfl⟩ := hv
    obtain ⟨i, zv, hi, hzv, hok, rfl, hlen⟩ := zeroL_some hz
    obtain ⟨he, hp⟩ := ok1_cells hok
    obtain ⟨rcs, hf, hrel⟩ := vfill_ok ht _ _ _ hcps (rcells := zv.cells) (by rw [he]; exact L2.refl fun u hu => RC.const (hp u hu)) hcs
    refine valw (r := .agg rcs) (s := Instr.build t (ps.map fun (i, x) => (i, a.eval x))) (by simp only [execOp, hop]) ?_ (R2.of_R1 ⟨rcs, rfl, by simpa using hrel⟩) rfl
    refine run_build w t _ rcs ?_
    simp only [Program.built, hi, stF_some hfs, hzv]
    simp only [places] at hpl
    rw [hpl]
    simp only
    rw [mapA]
    exact hf
  case buildSlice t len ps =>
    simp only [Option.bind_eq_some_iff] at hc
    obtain ⟨e, he, n, hn, z, hz, hc⟩ := hc
    obtain ⟨i, hi, rfl⟩ := szL_some hn
    split at hc
    · rename_i hle
      obtain ⟨hle, hpos⟩ := hle
      obtain ⟨cps, hcps, rfl⟩ := Option.map_eq_some_iff.1 hc
      simp only [vop, Option.bind_eq_some_iff, Option.some.injEq, Prod.mk.injEq] at hv
      obtain ⟨cs, hcs, rfl, rfl⟩ := hv
      obtain ⟨i', zv, hi', hzv, hok, rfl, hlen⟩ := zeroL_some hz
      rw [hi] at hi'; cases hi'
      obtain ⟨hez, hp⟩ := ok1_cells hok
      have hzs : zv.cells.size = i.size := by rw [← hlen, ← hez]; simp
      -- the row of zeros
      have hzero : ((Array.range (len * i.size)).map (((if len * i.size = 0 then #[] else zv.cells) : Array Value)[· % ((if len * i.size = 0 then #[] else zv.cells) : Array Value).size]!)).toList = (if len * i.size = 0 then [] else (List.replicate len (vcells zv)).flatten) := by
        split
        · rename_i h0; simp [h0]
        · rw [← hez, ← hzs]; exact range_map zv.cells len
      obtain ⟨rcs, hf, hrel⟩ := vfill_ok ht _ _ _ hcps (rcells := (Array.range (len * i.size)).map (((if len * i.size = 0 then #[] else zv.cells) : Array Value)[· % ((if len * i.size = 0 then #[] else zv.cells) : Array Value).size]!)) (by
        rw [hzero]
        refine L2.refl fun u hu => ?_
        split at hu
        · simp at hu
        · obtain ⟨l, hl, hul⟩ := List.mem_flatten.1 hu
          obtain ⟨_, rfl⟩ := List.mem_replicate.1 hl
          exact RC.const (hp u hul)) hcs
      have hfl : ∀ (ps : List (Nat × Nat × Arg)) (c c' : List Value), vfill c ts ps = some c' → c'.length = c.length := by
        intro ps
        induction ps with
        | nil => intro c c' h; simp only [vfill, Option.some.injEq] at h; rw [h]
        | cons p ps ih =>
          intro c c' h
          obtain ⟨o', n', x'⟩ := p
          simp only [vfill, Option.bind_eq_some_iff] at h
          obtain ⟨u, _, h⟩ := h
          split at h
          · rw [ih _ _ h, setAll_length]
          · cases h
      have hsz : rcs.size = len * i.size := by
        have h1 := hfl _ _ _ hcs
        have h2 := hrel.len
        rw [h1, ← hzero] at h2
        simpa using h2.symm
      have hal := hs.alloc (vs := cs) (C := rcs) (e := e) (k := len) (s := i.size) (k0 := len == 0) (fun j c hj => by
        obtain ⟨r, h1, h2⟩ := hrel.get hj
        exact ⟨r, by rw [← Array.getElem?_toList]; exact h1, h2⟩) (by simp) hsz (by
          have : len ≤ len * i.size := Nat.le_mul_of_pos_right _ hpos
          simp only [maxLen]; omega) lo
      refine wp_val (r := .slice (some ⟨w.heap.size, 0, none⟩) len len) (w' := w.alloc (.cells rcs e)) ?_ (hK _ _ _ (R2.of_RC ⟨rfl, _, upd_same _ _ _, rfl, _, _, rfl, rfl, Nat.le_refl _, fun _ => ⟨rfl, rfl⟩, fun _ => rfl⟩) hal.1 hal.2)
      have hzr : (zeroValue e).run P w = .ok zv w := by simp [zeroValue, typeInfo, hi, hzv]
      have hfill : Instr.fill (fun i_1 => some (i_1 * i.size, i.size)) ((Array.range (len * i.size)).map (((if len * i.size = 0 then #[] else zv.cells) : Array Value)[· % ((if len * i.size = 0 then #[] else zv.cells) : Array Value).size]!)) (ps.map fun (i, x) => (i, a.eval x)).toList = some rcs := by rw [mapA]; exact hf
      have hng : ¬ (len * i.size > 2 ^ 24) := by omega
      by_cases h0 : len * i.size = 0
      · simp only [if_pos h0] at hfill
        simp only [execOp, hop, Instr.buildSlice, Sem.run_bind, run_underlying (slE_some he), Result.andThen_ok, run_sizeOf hi, if_neg hng, if_pos h0, Sem.run_pure, hfill, newRow, run_newObj, World.alloc_eq]
      · simp only [if_neg h0] at hfill
        simp only [execOp, hop, Instr.buildSlice, Sem.run_bind, run_underlying (slE_some he), Result.andThen_ok, run_sizeOf hi, if_neg hng, if_neg h0, hzr, Sem.run_pure, hfill, newRow, run_newObj, World.alloc_eq]
    · cases hc
  case load t x =>
    simp only [Option.bind_eq_some_iff] at hc
    obtain ⟨⟨g, n⟩, hty, hc⟩ := hc
    obtain ⟨y, hy, rfl⟩ := one hc
    simp only [vop, Option.bind_eq_some_iff] at hv
    obtain ⟨p, hp, hv⟩ := hv
    cases p <;> try (cases hv; done)
    rename_i pa
    cases pa <;> try (cases hv; done)
    rename_i pa
    have hv' : (if g then (V.rdN H pa n).bind fun cs => some (Value.agg cs.toArray) else V.rd H pa) = some v ∧ H' = H := by
      simp only at hv
      split at hv
      · simp only [Option.bind_eq_some_iff, Option.some.injEq, Prod.mk.injEq] at hv
        obtain ⟨cs, hcs, rfl, rfl⟩ := hv
        exact ⟨by rw [if_pos ‹_›, hcs]; rfl, rfl⟩
      · simp only [Option.bind_eq_some_iff, Option.some.injEq, Prod.mk.injEq] at hv
        obtain ⟨u, hu, rfl, rfl⟩ := hv
        exact ⟨by rw [if_neg ‹_›, hu], rfl⟩
    obtain ⟨r, hr, hR⟩ := load_ok (P := P) hs hty (ev_ok ht hy hp) hv'.1
    exact valw (s := Instr.loadAt t (a.eval x)) (by simp only [execOp, hop]) hr hR hv'.2
  case store t x y =>
    simp only [Option.bind_eq_some_iff, Option.map_eq_some_iff] at hc
    obtain ⟨n, hn, x', hx', y', hy', rfl⟩ := hc
    simp only [vop, Option.bind_eq_some_iff] at hv
    obtain ⟨p, hp, u, hu, hv⟩ := hv
    cases p <;> try (cases hv; done)
    rename_i pa
    cases pa <;> try (cases hv; done)
    rename_i pa
    simp only at hv
    split at hv
    · rename_i hcond
      simp only [Option.bind_eq_some_iff, Option.some.injEq, Prod.mk.injEq] at hv
      obtain ⟨H2, hw, rfl, rfl⟩ := hv
      obtain ⟨h0, m, hm, hxe⟩ := (ev_ok ht hx' hp)
      obtain ⟨w', hst, h1, h2⟩ := storeVar_ok (P := P) hs hn hm ((ev_ok ht hy' hu).to_R1 (ntup_ok hcond.1)) hcond.2 hw
      refine wp_skp (w' := w') ?_ (hK _ _ _ R2.undef h1 h2)
      simp [execOp, hop, Instr.storeAt, Instr.sureAddr, hxe, hst]
    · cases hv
  case nilCheck x =>
    obtain ⟨y, hy, rfl⟩ := one hc
    simp only [vop, Option.bind_eq_some_iff] at hv
    obtain ⟨u, hu, hv⟩ := hv
    cases u <;> try (cases hv; done)
    rename_i pa
    cases pa <;> try (cases hv; done)
    simp only [Option.some.injEq, Prod.mk.injEq] at hv
    obtain ⟨rfl, rfl⟩ := hv
    have hr := ev_ok ht hy hu
    obtain ⟨h0, m, hm, hxe⟩ := hr
    exact wp_val (r := a.eval x) (by simp [execOp, hop, hxe]) (hK.still hs (by rw [hxe]; exact ⟨h0, m, hm, rfl⟩))
  case binOp op t x y yt =>
    have ibin : ∀ {x' y' : Arg}, cA x = some x' → cA y = some y' → vop call lo ts H (.bin op x' y') = some (v, H') → o.wp P a w K Q := by
      intro x' y' hx hy hv
      simp only [vop, Option.bind_eq_some_iff, Option.some.injEq, Prod.mk.injEq] at hv
      obtain ⟨p, hp, q, hq, u, hu, rfl, rfl⟩ := hv
      obtain ⟨h1, h2⟩ := bin_ok (P := P) hu (ev_ok ht hx hp) (ev_ok ht hy hq) t x y w
      exact valw (s := do eqGuard op t x y (a.eval x) (a.eval y); binOp op t (a.eval x) (a.eval y)) (by simp only [execOp, hop]) h1 h2 rfl
    have plain : (∃ x' y', cA x = some x' ∧ cA y = some y' ∧ vo = .bin op x' y') → o.wp P a w K Q := by
      rintro ⟨x', y', h1, h2, rfl⟩
      exact ibin h1 h2 hv
    have eqs : ∀ (neg : Bool) (hopn : op = if neg then .neq else .eql), (if isBool P t then (cA x).bind fun x => (cA y).map (.beq neg x) else if (slE P t).isSome = true then (if nilSl y then (cA x).map (.snil neg) else none) else (cA x).bind fun x => (cA y).map (.bin op x)) = some vo → o.wp P a w K Q := by
      intro neg hopn hc
      split at hc
      · rename_i hb
        simp only [Option.bind_eq_some_iff, Option.map_eq_some_iff] at hc
        obtain ⟨x', hx, y', hy, rfl⟩ := hc
        simp only [vop, Option.bind_eq_some_iff] at hv
        obtain ⟨p, hp, q, hq, hv⟩ := hv
        cases p <;> try (cases hv; done)
        cases q <;> try (cases hv; done)
        rename_i p q
        simp only [Option.some.injEq, Prod.mk.injEq] at hv
        obtain ⟨rfl, rfl⟩ := hv
        have h1 := R2.boolv (ev_ok ht hx hp)
        have h2 := R2.boolv (ev_ok ht hy hq)
        have hbt : P.underlying t = some .bool := by
          unfold isBool at hb; split at hb
          · assumption
          · cases hb
        refine valw (s := do eqGuard op t x y (a.eval x) (a.eval y); binOp op t (a.eval x) (a.eval y)) (by simp only [execOp, hop]) ?_ (R2.mkbool _) rfl
        rw [h1, h2, hopn]
        exact run_eq_bool hbt neg p q x y w
      · split at hc
        · rename_i hsl
          obtain ⟨e, he⟩ := Option.isSome_iff_exists.1 hsl
          split at hc
          · rename_i hnil
            obtain ⟨x', hx, rfl⟩ := one hc
            simp only [vop, Option.bind_eq_some_iff] at hv
            obtain ⟨p, hp, hv⟩ := hv
            cases p <;> try (cases hv; done)
            rename_i pa pn pc
            simp only [Option.some.injEq, Prod.mk.injEq] at hv
            obtain ⟨rfl, rfl⟩ := hv
            have hy : a.eval y = .slice none 0 0 := by
              unfold nilSl at hnil; split at hnil
              · rfl
              · cases hnil
            have hr : ∃ base c, a.eval x = .slice base pn c ∧ base.isNone = pa.isNone := by
              have h := ev_ok ht hx hp
              cases pa with
              | none => obtain ⟨rfl, h⟩ := h; exact ⟨none, 0, h, rfl⟩
              | some _ => obtain ⟨_, _, _, _, a', c, h, _⟩ := h; exact ⟨some a', c, h, rfl⟩
            obtain ⟨base, c, hxe, hbn⟩ := hr
            refine valw (s := do eqGuard op t x y (a.eval x) (a.eval y); binOp op t (a.eval x) (a.eval y)) (by simp only [execOp, hop]) ?_ (R2.mkbool _) rfl
            rw [hxe, hy, hopn, ← hbn]
            exact run_eq_nil (slE_some he) neg base pn c x y w
          · cases hc
        · simp only [Option.bind_eq_some_iff, Option.map_eq_some_iff] at hc
          obtain ⟨x', hx, y', hy, rfl⟩ := hc
          exact ibin hx hy hv
    cases op
    case eql => exact eqs false rfl hc
    case neq => exact eqs true rfl hc
    all_goals
      simp only [Option.bind_eq_some_iff, Option.map_eq_some_iff] at hc
      obtain ⟨x', hx, y', hy, rfl⟩ := hc
      exact ibin hx hy hv
  case unOp op t x =>
    cases op <;> simp only [compO] at hc <;> try (cases hc; done)
    obtain ⟨y, hy, rfl⟩ := one hc
    simp only [vop, Option.bind_eq_some_iff] at hv
    obtain ⟨u, hu, hv⟩ := hv
    cases u <;> try (cases hv; done)
    simp only [Option.some.injEq, Prod.mk.injEq] at hv
    obtain ⟨rfl, rfl⟩ := hv
    have hr := R2.boolv (ev_ok ht hy hu)
    exact valw (s := Op.unary .not (a.eval x)) (by simp only [execOp, hop]) (by rw [hr]; rfl) (R2.mkbool _) rfl
  case convert s d x =>
    split at hc
    · rename_i hsome
      simp only [Option.bind_eq_some_iff] at hc
      obtain ⟨k, hk, hc⟩ := hc
      obtain ⟨y, hy, rfl⟩ := one hc
      simp only [vop, Option.bind_eq_some_iff] at hv
      obtain ⟨u, hu, hv⟩ := hv
      cases u <;> try (cases hv; done)
      simp only [Option.some.injEq, Prod.mk.injEq] at hv
      obtain ⟨rfl, rfl⟩ := hv
      have hr := R2.int (ev_ok ht hy hu)
      obtain ⟨ds, hds⟩ := Option.isSome_iff_exists.1 hsome
      refine valw (s := convert s d (a.eval x)) (by simp only [execOp, hop]) ?_ (R2.mkint _ _) rfl
      rw [hr]
      simp [convert, run_underlying hds, run_underlying (intK_some hk), Conv.intToInt]
    · cases hc
  case makeFunc fn first cap =>
    cases fn <;> simp only [compO] at hc <;> try (cases hc; done)
    rename_i f
    split at hc
    · rename_i hf0
      obtain ⟨args, hargs, rfl⟩ := Option.map_eq_some_iff.1 hc
      simp only [vop, Option.bind_eq_some_iff] at hv
      obtain ⟨vs, hvs, hv⟩ := hv
      split at hv
      · rename_i hall
        simp only [Option.some.injEq, Prod.mk.injEq] at hv
        obtain ⟨rfl, rfl⟩ := hv
        have hel := evs_ok ht hargs hvs
        have hf : first = #[] := Array.eq_empty_of_size_eq_zero hf0
        refine wp_val (r := .func (.func f) #[] (cap.map a.eval)) (w' := w) (by simp [execOp, hop, Instr.makeFunc, hf]) (hK.still hs (R2.of_RC (v := .func (.func f) #[] vs.toArray) ⟨rfl, cap.map a.eval, rfl, ?_⟩))
        rw [mapA]
        exact hel.ptrs hall
      · cases hv
    · cases hc
  case makeSlice t l c =>
    simp only [Option.bind_eq_some_iff, Option.map_eq_some_iff] at hc
    obtain ⟨e, he, i, hi, z, hz, l', hl', c', hc', rfl⟩ := hc
    obtain ⟨i', zv, hi', hzv, hok, rfl, hlen⟩ := zeroL_some hz
    rw [hi] at hi'; cases hi'
    obtain ⟨hez, hp⟩ := ok1_cells hok
    have hzs : zv.cells.size = i.size := by rw [← hlen, ← hez]; simp
    simp only [vop, Option.bind_eq_some_iff] at hv
    obtain ⟨lv, hlv, cv, hcv, n, hn, m, hm, hv⟩ := hv
    split at hv
    · rename_i hcond
      obtain ⟨rfl, h0, hby, hmx, _⟩ := hcond
      simp only [Option.some.injEq, Prod.mk.injEq] at hv
      obtain ⟨rfl, rfl⟩ := hv
      obtain ⟨kl, rfl⟩ := asI_some hn
      obtain ⟨kc, rfl⟩ := asI_some hm
      have h1 := R2.int (ev_ok ht hl' hlv)
      have h2 := R2.int (ev_ok ht hc' hcv)
      have hrun := run_make (P := P) w t e i zv (slE_some he) hi hzv kl kc n n h0 (Int.le_refl _) hby (by omega)
      have hmade : (madeCells zv.cells (n.toNat * i.size)).toList = (List.replicate n.toNat (vcells zv)).flatten := by
        rw [← hez, ← hzs]; exact range_map zv.cells n.toNat
      have hal := hs.alloc (vs := (List.replicate n.toNat (vcells zv)).flatten) (C := madeCells zv.cells (n.toNat * i.size)) (e := e) (k := n.toNat) (s := i.size) (k0 := n == 0) (fun j c hj => ⟨c, by rw [← Array.getElem?_toList, hmade]; exact hj, by
        obtain ⟨l, hl, hul⟩ := List.mem_flatten.1 (List.mem_of_getElem? hj)
        obtain ⟨_, rfl⟩ := List.mem_replicate.1 hl
        exact RC.const (hp c hul)⟩) (by intro h; simp at h; omega) (size_madeCells _ _) (by simp only [maxLen]; omega) lo
      refine wp_val (r := .slice (some ⟨w.heap.size, 0, none⟩) n.toNat n.toNat) (w' := w.alloc (.cells (madeCells zv.cells (n.toNat * i.size)) e)) ?_ (hK _ _ _ (R2.of_RC ⟨rfl, _, upd_same _ _ _, rfl, _, _, rfl, rfl, Nat.le_refl _, fun _ => ⟨rfl, rfl⟩, fun _ => rfl⟩) hal.1 hal.2)
      simp only [execOp, hop, h1, h2, Sem.run_bind, hrun, Result.andThen_ok, Sem.run_pure]
    · cases hv
  case fieldAddr s x f =>
    simp only [Option.bind_eq_some_iff] at hc
    obtain ⟨fs, hfs, fl, hfl, n, hn, hc⟩ := hc
    split at hc
    · cases hc
    · rename_i hn0
      obtain ⟨y, hy, rfl⟩ := one hc
      simp only [vop, Option.bind_eq_some_iff] at hv
      obtain ⟨u, hu, hv⟩ := hv
      cases u <;> try (cases hv; done)
      rename_i pa
      cases pa <;> try (cases hv; done)
      rename_i pa
      simp only [Option.some.injEq, Prod.mk.injEq] at hv
      obtain ⟨rfl, rfl⟩ := hv
      obtain ⟨i, hi, rfl⟩ := szL_some hn
      obtain ⟨h0, m, hm, hxe⟩ := ev_ok ht hy hu
      refine valw (r := .pointer (some ⟨m.b, m.o + (pa.off + fl.offset), none⟩)) (s := Instr.fieldAt s (a.eval x) f) (by simp only [execOp, hop]) ?_ (R2.of_RC (v := .pointer (some ⟨pa.block, pa.off + fl.offset, none⟩)) ⟨rfl, m, hm, rfl⟩) rfl
      simp [Instr.fieldAt, hxe, run_underlying (stF_some hfs), hfl, Instr.sureAddr, fieldPlace, run_sizeOf hi, hn0, addr_add, Nat.add_assoc]
  case field s x f =>
    simp only [Option.bind_eq_some_iff] at hc
    obtain ⟨fs, hfs, fl, hfl, ⟨g, n⟩, hty, hc⟩ := hc
    obtain ⟨y, hy, rfl⟩ := one hc
    obtain ⟨d, i, hd, hi, rfl, rfl⟩ := tyL_some hty
    simp only [vop, Option.bind_eq_some_iff] at hv
    obtain ⟨u, hu, hv⟩ := hv
    cases u <;> try (cases hv; done)
    rename_i cs
    obtain ⟨rs, hxe, hrel⟩ := (ev_ok ht hy hu).to_R1 (by simp)
    simp only at hv
    have hpart : ∃ r, (part fl.type rs fl.offset).run P w = .ok r w ∧ R2 μ v r ∧ H' = H := by
      split at hv
      · rename_i hg
        split at hv
        · simp only [Option.some.injEq, Prod.mk.injEq] at hv
          obtain ⟨rfl, rfl⟩ := hv
          refine ⟨.agg (rs.extract fl.offset (fl.offset + i.size)), by simp [part, run_isAgg hd, hg, run_sizeOf hi], R2.of_R1 ⟨_, rfl, ?_⟩, rfl⟩
          simp only [Array.toList_extract, List.extract]
          exact (hrel.drop _).take _
        · cases hv
      · rename_i hg
        simp only [Option.bind_eq_some_iff, Option.some.injEq, Prod.mk.injEq] at hv
        obtain ⟨c, hc, rfl, rfl⟩ := hv
        obtain ⟨r, hr, hrc⟩ := hrel.get (i := fl.offset) (x := c) (by simpa using hc)
        have hr' : rs[fl.offset]? = some r := by simpa using hr
        exact ⟨r, by simp [part, run_isAgg hd, hg, hr'], R2.of_RC hrc, rfl⟩
    obtain ⟨r, hr, hR, hH⟩ := hpart
    refine valw (s := Instr.field s (a.eval x) f) (by simp only [execOp, hop]) ?_ hR hH
    simp [Instr.field, run_underlying (stF_some hfs), hfl, hxe, asAgg, hr]
  case indexAddr t x y =>
    simp only [Option.bind_eq_some_iff, Option.map_eq_some_iff] at hc
    obtain ⟨e, he, n, hn, x', hx', y', hy', rfl⟩ := hc
    obtain ⟨i, hi, rfl⟩ := szL_some hn
    simp only [vop, Option.bind_eq_some_iff] at hv
    obtain ⟨xv, hx, yv, hy, j, hj, hv⟩ := hv
    cases xv <;> try (cases hv; done)
    rename_i xa xn xc
    cases xa <;> try (cases hv; done)
    rename_i xa
    simp only at hv
    split at hv
    · rename_i hcond
      obtain ⟨rfl, h0, h1⟩ := hcond
      simp only [Option.some.injEq, Prod.mk.injEq] at hv
      obtain ⟨rfl, rfl⟩ := hv
      obtain ⟨k, rfl⟩ := asI_some hj
      obtain ⟨_, m, hm, hms, a', c, hxe, _, hnc, _, hpos⟩ := ev_ok ht hx' hx
      have hye := R2.int (ev_ok ht hy' hy)
      have hae := hpos (by omega)
      refine valw (r := .pointer (some ⟨m.b, m.o + (xa.off + j.toNat * i.size), none⟩)) (s := Instr.indexAt t (a.eval x) (a.eval y)) (by simp only [execOp, hop]) ?_ (R2.of_RC (v := .pointer (some ⟨xa.block, xa.off + j.toNat * i.size, none⟩)) ⟨rfl, m, hm, rfl⟩) rfl
      rw [hxe, hye, hae]
      simp [Instr.indexAt, asIntOf, run_underlying (slE_some he), run_sizeOf hi, h0, h1, addr_add, Nat.add_assoc]
    · cases hv
  case extract x ix =>
    obtain ⟨y, hy, rfl⟩ := one hc
    simp only [vop, Option.bind_eq_some_iff] at hv
    obtain ⟨u, hu, hv⟩ := hv
    cases u <;> try (cases hv; done)
    rename_i vs
    simp only [Option.bind_eq_some_iff, Option.some.injEq, Prod.mk.injEq] at hv
    obtain ⟨c, hc, rfl, rfl⟩ := hv
    obtain ⟨rs, hxe, hrel⟩ := ev_ok ht hy hu
    obtain ⟨r, hr, hrc⟩ := hrel.get (i := ix) (x := c) (by simpa using hc)
    have hr' : rs[ix]? = some r := by simpa using hr
    exact valw (s := Instr.extract (a.eval x) ix) (by simp only [execOp, hop]) (by simp [Instr.extract, hxe, hr']) (R2.of_R1 hrc) rfl
  case slice t x lo' hi' mx =>
    simp only [Option.bind_eq_some_iff] at hc
    obtain ⟨e, he, n, hn, hc⟩ := hc
    split at hc
    · cases hc
    · rename_i hn0
      simp only [Option.bind_eq_some_iff, Option.map_eq_some_iff] at hc
      obtain ⟨x', hx', l, hl, h, hh, m, hm, rfl⟩ := hc
      obtain ⟨l0, l1⟩ := sO ht hl
      obtain ⟨h0, h1⟩ := sO ht hh
      obtain ⟨m0, m1⟩ := sO ht hm
      simp only [vop, Option.bind_eq_some_iff] at hv
      obtain ⟨xv, hx, hv⟩ := hv
      have hxr := ev_ok ht hx' hx
      have fin : ∀ {lv hv' : Option Value} {u : Value}, m = none → vslice n xv lv hv' none = some u → (u, H) = (v, H') → (∀ z, lv = some z → ∃ r, lo'.map a.eval = some r ∧ R2 μ z r) → (lv = none → lo'.map a.eval = none) → (∀ z, hv' = some z → ∃ r, hi'.map a.eval = some r ∧ R2 μ z r) → (hv' = none → hi'.map a.eval = none) → o.wp P a w K Q := by
        intro lv hv' u hmn hu huv g1 g2 g3 g4
        cases huv
        have hmx := m0 hmn
        obtain ⟨r, hr, hR⟩ := slice_ok (P := P) he hn (by omega) hxr hu w g1 g2 g3 g4
        exact valw (s := Instr.sliceAt t (a.eval x) (lo'.map a.eval) (hi'.map a.eval) none) (by simp only [execOp, hop, hmx]) hr hR rfl
      cases l with
      | none =>
        cases h with
        | none =>
          cases m with
          | none =>
            simp only [Option.bind_eq_some_iff, Option.some.injEq] at hv
            obtain ⟨u, hu, huv⟩ := hv
            exact fin rfl hu huv (by simp) (fun _ => l0 rfl) (by simp) (fun _ => h0 rfl)
          | some m => cases hv
        | some h =>
          cases m with
          | none =>
            simp only [Option.bind_eq_some_iff, Option.some.injEq] at hv
            obtain ⟨hv1, hhv, u, hu, huv⟩ := hv
            exact fin rfl hu huv (by simp) (fun _ => l0 rfl) (fun z hz => by cases hz; exact h1 _ _ rfl hhv) (by simp)
          | some m =>
            simp only [Option.bind_eq_some_iff] at hv
            obtain ⟨hv1, hhv, mv, hmv, hv⟩ := hv
            obtain ⟨rh, hrh, hRh⟩ := h1 _ _ rfl hhv
            obtain ⟨rm, hrm, hRm⟩ := m1 _ _ rfl hmv
            have hl0 := l0 rfl
            obtain ⟨i, hi, rfl⟩ := szL_some hn
            cases xv <;> try (cases hv; done)
            rename_i xa xn xc
            have zero : asI hv1 = some 0 → asI mv = some 0 → ∃ k k', rh = .int k 0 ∧ rm = .int k' 0 := by
              intro e1 e2
              obtain ⟨k, rfl⟩ := asI_some e1
              obtain ⟨k', rfl⟩ := asI_some e2
              exact ⟨k, k', R2.int hRh, R2.int hRm⟩
            cases xa with
            | none =>
              simp only at hv
              split at hv
              · rename_i hcond
                cases hv
                obtain ⟨k, k', rfl, rfl⟩ := zero hcond.1 hcond.2.1
                obtain ⟨rfl, hxe⟩ := hxr
                refine valw (r := .slice none 0 0) (s := Instr.sliceAt t (a.eval x) (lo'.map a.eval) (hi'.map a.eval) (mx.map a.eval)) (by simp only [execOp, hop]) ?_ (R2.of_RC ⟨rfl, rfl⟩) rfl
                rw [hxe, hl0, hrh, hrm]
                simp [Instr.sliceAt, Instr.slice, Instr.sliceBounds, Instr.sliceBound, asIntOf, run_underlying (slE_some he), run_sizeOf hi]
              · cases hv
            | some xa =>
              simp only at hv
              split at hv
              · rename_i hcond
                cases hv
                obtain ⟨k, k', rfl, rfl⟩ := zero hcond.1 hcond.2.1
                obtain ⟨hsp, mm, hmm, hms, a', c, hxe, hsp', hnc, g0, gpos⟩ := hxr
                have hal := hs.empty ⟨a'.block, a'.off, 0, i.size⟩ rfl lo
                refine wp_val (r := .slice (some a') 0 0) (w' := w) ?_ (hK _ _ _ (R2.of_RC (v := .slice (some ⟨H.length, 0, none⟩) 0 i.size) ⟨rfl, _, upd_same _ _ _, rfl, a', 0, rfl, hsp', Nat.le_refl _, fun _ => ⟨by cases a'; simp only at hsp' ⊢; subst hsp'; rfl, rfl⟩, fun h => absurd h (by omega)⟩) hal.1 hal.2)
                simp [execOp, hop, hxe, hl0, hrh, hrm, Instr.sliceAt, Instr.slice, Instr.sliceBounds, Instr.sliceBound, asIntOf, run_underlying (slE_some he), run_sizeOf hi]
              · cases hv
      | some l =>
        cases h with
        | none =>
          cases m with
          | none =>
            simp only [Option.bind_eq_some_iff, Option.some.injEq] at hv
            obtain ⟨lv1, hlv, u, hu, huv⟩ := hv
            exact fin rfl hu huv (fun z hz => by cases hz; exact l1 _ _ rfl hlv) (by simp) (by simp) (fun _ => h0 rfl)
          | some m => cases hv
        | some h =>
          cases m with
          | none =>
            simp only [Option.bind_eq_some_iff, Option.some.injEq] at hv
            obtain ⟨lv1, hlv, hv1, hhv, u, hu, huv⟩ := hv
            exact fin rfl hu huv (fun z hz => by cases hz; exact l1 _ _ rfl hlv) (by simp) (fun z hz => by cases hz; exact h1 _ _ rfl hhv) (by simp)
          | some m =>
            simp only [Option.bind_eq_some_iff] at hv
            obtain ⟨hv1, hhv, mv, hmv, hv⟩ := hv
            cases xv <;> try (cases hv; done)
            rename_i xa xn xc
            cases xa <;> simp at hv
  case call c =>
    simp only [Option.bind_eq_some_iff] at hc
    obtain ⟨args, hargs, hc⟩ := hc
    have go : ∀ {f : Nat} {vs cap capr : List Value} (fop : Operand), c.callee = .value fop → a.eval fop = .func (.func f) #[] capr.toArray → evs ts args = some vs → L2 (R2 μ) cap capr → call f (vs ++ cap) lo H = some (v, H') → o.wp P a w K Q := by
      intro f vs cap capr fop hcal hfop hvs hcap hcl
      have hel := (evs_ok ht hargs hvs).append hcap
      obtain ⟨⟨fn, hfn, hbody, hname⟩, hcalls⟩ := hcall f _ lo H v H' hcl hlo μ w _ hel hs
      have hrun : (execOp a.eval o).run P w = .ok (.enter f (c.args.toList.map a.eval ++ capr).toArray) w := by
        have hb : fn.body.isNone = false := by cases hx : fn.body <;> simp [hx] at hbody ⊢
        have hargs' : (#[] ++ c.args.map a.eval ++ capr.toArray) = (c.args.toList.map a.eval ++ capr).toArray := by
          apply Array.ext'
          simp
        simp only [execOp, hop, resolve, hcal, hfop, Deferred.ofValue, Sem.run_bind, Sem.run_pure, Result.andThen_ok, invoke, callFunc, run_program, hfn, hname, hb, Bool.false_eq_true, if_false, hargs']
      unfold Oper.wp
      rw [hrun, Oper.upon_enter]
      exact hcalls.mono fun e w' ⟨r, μ', he, h1, h2, h3⟩ => by
        subst he
        exact hK r w' μ' h1 h2 h3
    cases hcal : c.callee <;> rw [hcal] at hc <;> (try simp only at hc) <;> try (cases hc; done)
    case builtin b => exact bltin_ok hcal hop hargs hc hv ht hs hK
    case value fop =>
      cases fop <;> simp only [Option.some.injEq] at hc <;> try (cases hc; done)
      case tmp t =>
        subst hc
        simp only [vop, Option.bind_eq_some_iff] at hv
        obtain ⟨fv, hfv, vs, hvs, hv⟩ := hv
        cases fv <;> try (cases hv; done)
        rename_i fn fst cap
        cases fn <;> try (cases hv; done)
        rename_i f
        simp only at hv
        split at hv
        · obtain ⟨r, hr, hR⟩ := ht t _ hfv
          obtain ⟨hf0, capr, rfl, hcap⟩ := hR
          refine go (.tmp t) hcal (capr := capr.toList) ?_ hvs (hcap.mono fun x y h => R2.of_RC (by
            rw [RC_eq (by intro f a b e; subst e; exact h.elim)]; exact h)) hv
          simp [Act.eval, hr]
        · cases hv
      case func f =>
        subst hc
        simp only [vop, Option.bind_eq_some_iff] at hv
        obtain ⟨vs, hvs, hv⟩ := hv
        exact go (.func f) hcal (capr := []) rfl hvs .nil (by simpa using hv)
end
end Go.Proofs.Ytmcljallamhccaa.V
