/- Every operation that the machine knows: the program's operation comes to the same. -/
import Derived.Test.YtmcljallamhccaaVMP
namespace Go.Proofs.Ytmcljallamhccaa.V
open Go
set_option linter.unusedVariables false
set_option linter.unusedSimpArgs false
section
variable {P : Program}
theorem R2.int {μ : Mu} {k : IntKind} {n : Int} {r : Value} (h : R2 μ (.int k n) r) : r = .int k n := h
theorem R2.boolv {μ : Mu} {b : Bool} {r : Value} (h : R2 μ (.bool b) r) : r = .bool b := h
theorem R2.mkint {μ : Mu} (k : IntKind) (n : Int) : R2 μ (.int k n) (.int k n) := R2.of_RC (v := .int k n) rfl
theorem R2.mkbool {μ : Mu} (b : Bool) : R2 μ (.bool b) (.bool b) := R2.of_RC (v := .bool b) rfl

theorem bltin_ok {o : Oper} {call : Cal} {lo : Nat} {ts : Ts} {H H' : Hp} {v : Value} {b : Builtin} {c : Call} {args : List Arg} {vo : VOp} (hb : c.callee = .builtin b) (ho : o.op = .call c) (ha : cAs c.args.toList = some args) (hc : compB P b c.argTypes args = some vo) (hv : vop call lo ts H vo = some (v, H'))
    {μ : Mu} {a : Act} {w : World} (ht : TR μ ts a) (hs : Sim μ H w) {K : Act → World → Prop} {Q : Exit → Act → World → Prop} (hK : Post lo μ H w v H' a o.dst K) : o.wp P a w K Q := by
  obtain ⟨callee, cargs, argTypes⟩ := c
  simp only at hb ha hc; subst hb
  have hrun : ∀ {r : Value} {w' : World} {s : Sem Value}, (∀ consts, builtin b argTypes o.type consts (cargs.map a.eval) = (do pure (.value (← s)))) → s.run P w = .ok r w' → K (a.put o.dst r) w' → o.wp P a w K Q := by
    intro r w' s hs' hr hk
    refine wp_val (r := r) (w' := w') ?_ hk
    simp only [execOp, ho, resolve, Sem.run_bind, Sem.run_pure, Result.andThen_ok, invoke, hs', hr]
  have hel := @evs_ok μ ts a ht _ _ ha
  unfold compB at hc
  split at hc
  · -- len
    rename_i t x hts
    simp only [Option.map_eq_some_iff] at hc
    obtain ⟨e, he, rfl⟩ := hc
    simp only [vop, Option.bind_eq_some_iff, Option.some.injEq, Prod.mk.injEq] at hv
    obtain ⟨xv, hx, n, hn, rfl, rfl⟩ := hv
    have hl := hel (vs := [xv]) (by simp [evs, hx])
    generalize hrs : cargs.toList.map a.eval = rs at hl
    cases hl with | cons h1 h2 => cases h2; rename_i rx
                                  cases xv <;> simp only [slen] at hn <;> try (cases hn; done)
                                  rename_i xa xn xc
                                  obtain rfl : n = xn := (Option.some.inj hn).symm
                                  have hr : ∃ base c, rx = .slice base n c := by
                                    cases xa with
                                    | none => obtain ⟨rfl, rfl⟩ := h1; exact ⟨_, _, rfl⟩
                                    | some _ => obtain ⟨_, _, _, _, _, _, rfl, _⟩ := h1; exact ⟨_, _, rfl⟩
                                  obtain ⟨base, c, rfl⟩ := hr
                                  have hargs : cargs.map a.eval = #[.slice base n c] := by apply Array.ext'; simpa using hrs
                                  have hty : argTypes = #[t] := by apply Array.ext'; simpa using hts
                                  refine hrun (s := Builtin.len_ #[t] o.type #[.slice base n c]) (fun _ => by rw [hargs, hty]; rfl) (r := goInt n) (w' := w) ?_ (hK.still hs (R2.mkint _ _))
                                  simp [Builtin.len_, run_underlying (slE_some he)]
  · -- append
    rename_i t t' x y hts
    split at hc
    · rename_i htt; subst htt
      simp only [Option.bind_eq_some_iff] at hc
      obtain ⟨e, he, i, hi, hc⟩ := hc
      split at hc
      · rename_i hcc
        obtain ⟨z, hz⟩ := Option.isSome_iff_exists.1 hcc.2
        obtain ⟨i', zv, hi', hzv, hok, hcells, hlen⟩ := zeroL_some hz
        rw [hi] at hi'; cases hi'
        cases hc
        simp only [vop, Option.bind_eq_some_iff] at hv
        obtain ⟨xv, hx, yv, hy, hv⟩ := hv
        have hl := hel (vs := [xv, yv]) (by simp [evs, hx, hy])
        generalize hrs : cargs.toList.map a.eval = rs at hl
        cases hl with | cons h1 h2 => cases h2 with | cons h2 h3 => cases h3; rename_i rx ry
                                                                    have hargs : cargs.map a.eval = #[rx, ry] := by apply Array.ext'; simpa using hrs
                                                                    have hty : argTypes = #[t, t] := by apply Array.ext'; simpa using hts
                                                                    obtain ⟨r, w', μ', hr, h4, h5, h6⟩ := append_ok (ty := o.type) hs (slE_some he) hi hzv (by rw [← hlen, ← hcells, ← (ok1_cells hok).1]; simp) h1 h2 hv
                                                                    exact hrun (s := Builtin.append_ #[t, t] o.type #[rx, ry]) (fun _ => by rw [hargs, hty]; rfl) hr (hK r w' μ' h4 h5 h6)
      · cases hc
    · cases hc
  · -- copy
    rename_i t t' x y hts
    simp only [Option.bind_eq_some_iff, Option.some.injEq] at hc
    obtain ⟨e, he, e', he', n, hn, rfl⟩ := hc
    obtain ⟨i, hi, rfl⟩ := szL_some hn
    simp only [vop, Option.bind_eq_some_iff] at hv
    obtain ⟨xv, hx, yv, hy, m, hm, hv⟩ := hv
    have hl := hel (vs := [xv, yv]) (by simp [evs, hx, hy])
    generalize hrs : cargs.toList.map a.eval = rs at hl
    cases hl with | cons h1 h2 => cases h2 with | cons h2 h3 => cases h3; rename_i rx ry
                                                                have hargs : cargs.map a.eval = #[rx, ry] := by apply Array.ext'; simpa using hrs
                                                                have hty : argTypes = #[t, t'] := by apply Array.ext'; simpa using hts
                                                                cases xv <;> try (cases hv; done)
                                                                rename_i xa xn xc
                                                                cases xa <;> try (cases hv; done)
                                                                rename_i xa
                                                                simp only at hv
                                                                split at hv
                                                                · rename_i hst
                                                                  obtain ⟨_, mm, hmm, hms, a', c, rfl, _, hnc, h0, hpos⟩ := h1
                                                                  -- the source
                                                                  obtain ⟨ay, cy, rfl, hsrc⟩ : ∃ (ay : Option Addr) (cy : Nat), ry = .slice ay m cy ∧ ∀ new, scells H i.size yv = some new → 0 < m → ∃ b, ay = some b ∧ ∃ rs : List Value, rs.length = m * i.size ∧ L2 (RC μ) new rs ∧ ∀ (j : Nat) u, rs[j]? = some u → w.cell? (b.add j) = some u := by
                                                                    cases yv <;> simp only [slen] at hm <;> try (cases hm; done)
                                                                    rename_i ya yn yc
                                                                    cases hm
                                                                    cases ya with
                                                                    | none =>
                                                                      obtain ⟨rfl, rfl⟩ := h2
                                                                      exact ⟨none, 0, rfl, fun _ _ h => absurd h (by omega)⟩
                                                                    | some b =>
                                                                      obtain ⟨_, mm2, hmm2, hst2, b', c2, rfl, _, _, _, hp2⟩ := h2
                                                                      refine ⟨some b', c2, rfl, fun new hnew h => ⟨b', rfl, ?_⟩⟩
                                                                      simp only [scells] at hnew
                                                                      split at hnew
                                                                      · obtain ⟨rs, hl, hrel, hr⟩ := hs.rdN hnew hmm2
                                                                        exact ⟨rs, hl, hrel, by rw [hp2 h]; exact hr⟩
                                                                      · cases hnew
                                                                  split at hv
                                                                  · rename_i hz
                                                                    cases hv
                                                                    refine hrun (s := Builtin.copy_ #[t, t'] o.type #[.slice (some a') xn c, .slice ay m cy]) (fun _ => by rw [hargs, hty]; rfl) (r := goInt 0) (w' := w) ?_ (hK.still hs (R2.mkint _ _))
                                                                    have hz' : Nat.min m xn = 0 := by rw [← hz]; exact Nat.min_comm m xn
                                                                    cases ay <;> simp [Builtin.copy_, run_underlying (slE_some he), Builtin.lenOf, Builtin.firstCells, run_sizeOf hi, hz', loadCells, loadCellsFrom, storeCells]
                                                                  · rename_i hz
                                                                    simp only [Option.bind_eq_some_iff, Option.some.injEq, Prod.mk.injEq] at hv
                                                                    obtain ⟨new, hnew, H2, hw, rfl, rfl⟩ := hv
                                                                    obtain ⟨b, rfl, rs, hrl, hrel, hr⟩ := hsrc new hnew (by omega)
                                                                    have hle : min xn m * i.size ≤ m * i.size := Nat.mul_le_mul_right _ (Nat.min_le_right _ _)
                                                                    have hload := run_firstCells_some (P := P) w i.size (min xn m) b m cy (rs.take (min xn m * i.size)) (by rw [List.length_take, hrl]; exact Nat.min_eq_left hle) (fun j u hu => by
                                                                      rw [List.getElem?_take] at hu
                                                                      split at hu
                                                                      · exact hr j u hu
                                                                      · cases hu)
                                                                    obtain ⟨w', hst', h4, h5⟩ := storeCells_ok (P := P) hs hmm (hrel.take (min xn m * i.size)) hw
                                                                    rw [← hpos (by omega)] at hst'
                                                                    refine hrun (s := Builtin.copy_ #[t, t'] o.type #[.slice (some a') xn c, .slice (some b) m cy]) (fun _ => by rw [hargs, hty]; rfl) (r := goInt (min xn m : Nat)) (w' := w') ?_ (hK _ _ _ (R2.mkint _ _) h4 h5)
                                                                    have hmin : Nat.min m xn = min xn m := Nat.min_comm m xn
                                                                    simp only [Builtin.copy_, List.getElem?_toArray, List.getElem?_cons_zero, List.getElem?_cons_succ, Sem.run_bind, run_underlying (slE_some he), Result.andThen_ok, Builtin.lenOf, Sem.run_pure, hmin, run_sizeOf hi, hload, hst']
                                                                · cases hv
  · -- clear
    rename_i t x hts
    simp only [Option.bind_eq_some_iff, Option.some.injEq] at hc
    obtain ⟨e, he, n, hn, z, hz, rfl⟩ := hc
    obtain ⟨i, hi, rfl⟩ := szL_some hn
    obtain ⟨i', zv, hi', hzv, hok, hcells, hlen⟩ := zeroL_some hz
    rw [hi] at hi'; cases hi'
    simp only [vop, Option.bind_eq_some_iff] at hv
    obtain ⟨xv, hx, hv⟩ := hv
    have hl := hel (vs := [xv]) (by simp [evs, hx])
    generalize hrs : cargs.toList.map a.eval = rs at hl
    cases hl with | cons h1 h2 => cases h2; rename_i rx
                                  have hargs : cargs.map a.eval = #[rx] := by apply Array.ext'; simpa using hrs
                                  have hty : argTypes = #[t] := by apply Array.ext'; simpa using hts
                                  cases xv <;> try (cases hv; done)
                                  rename_i xa xn xc
                                  cases xa with
                                  | none =>
                                    obtain ⟨rfl, rfl⟩ := h1
                                    cases hv
                                    refine hrun (s := Builtin.clear_ #[t] o.type #[.slice none 0 0]) (fun _ => by rw [hargs, hty]; rfl) (r := .tuple #[]) (w' := w) ?_ (hK.still hs R2.undef)
                                    simp [Builtin.clear_, run_underlying (slE_some he)]
                                  | some xa =>
                                    obtain ⟨_, mm, hmm, hms, a', c, rfl, _, hnc, h0, hpos⟩ := h1
                                    simp only at hv
                                    split at hv
                                    · rename_i hn0; subst hn0
                                      cases hv
                                      refine hrun (s := Builtin.clear_ #[t] o.type #[.slice (some a') 0 c]) (fun _ => by rw [hargs, hty]; rfl) (r := .tuple #[]) (w' := w) ?_ (hK.still hs R2.undef)
                                      simp [Builtin.clear_, run_underlying (slE_some he)]
                                    · rename_i hn0
                                      split at hv
                                      · simp only [Option.bind_eq_some_iff, Option.some.injEq, Prod.mk.injEq] at hv
                                        obtain ⟨H2, hw, rfl, rfl⟩ := hv
                                        have hzz : (Builtin.zeroCells zv.cells xn).toList = (List.replicate xn z).flatten := by
                                          have h := range_map zv.cells xn
                                          rw [(ok1_cells hok).1, hcells] at h
                                          exact h
                                        have hrel : L2 (RC μ) (List.replicate xn z).flatten (List.replicate xn z).flatten := L2.refl fun u hu => by
                                          obtain ⟨l, hl, hul⟩ := List.mem_flatten.1 hu
                                          obtain ⟨_, rfl⟩ := List.mem_replicate.1 hl
                                          exact RC.const ((ok1_cells hok).2 u (hcells ▸ hul))
                                        obtain ⟨w', hst', h4, h5⟩ := storeCells_ok (P := P) hs hmm hrel hw
                                        rw [← hpos (by omega)] at hst'
                                        refine hrun (s := Builtin.clear_ #[t] o.type #[.slice (some a') xn c]) (fun _ => by rw [hargs, hty]; rfl) (r := .tuple #[]) (w' := w') ?_ (hK _ _ _ R2.undef h4 h5)
                                        have hzr : (zeroValue e).run P w = .ok zv w := by simp [zeroValue, typeInfo, hi, hzv]
                                        cases xn with
                                        | zero => exact absurd rfl hn0
                                        | succ xn => simp [Builtin.clear_, run_underlying (slE_some he), hzr, hzz, hst']
                                      · cases hv
  · -- max
    rename_i x y
    cases hc
    simp only [vop, Option.bind_eq_some_iff] at hv
    obtain ⟨xv, hx, yv, hy, hv⟩ := hv
    have hl := hel (vs := [xv, yv]) (by simp [evs, hx, hy])
    generalize hrs : cargs.toList.map a.eval = rs at hl
    cases hl with | cons h1 h2 => cases h2 with | cons h2 h3 => cases h3; rename_i rx ry
                                                                have hargs : cargs.map a.eval = #[rx, ry] := by apply Array.ext'; simpa using hrs
                                                                cases xv <;> cases yv <;> try (cases hv; done)
                                                                rename_i k p k' q
                                                                obtain rfl := R2.int h1
                                                                obtain rfl := R2.int h2
                                                                simp only at hv
                                                                split at hv
                                                                · rename_i hk; subst hk; cases hv
                                                                  refine hrun (s := Builtin.max_ argTypes o.type #[.int k p, .int k q]) (fun _ => by rw [hargs]; rfl) (r := _) (w' := w) ?_ (hK.still hs (R2.mkint _ _))
                                                                  simp [Builtin.max_, Builtin.max2]
                                                                · cases hv
  · -- min
    rename_i x y
    cases hc
    simp only [vop, Option.bind_eq_some_iff] at hv
    obtain ⟨xv, hx, yv, hy, hv⟩ := hv
    have hl := hel (vs := [xv, yv]) (by simp [evs, hx, hy])
    generalize hrs : cargs.toList.map a.eval = rs at hl
    cases hl with | cons h1 h2 => cases h2 with | cons h2 h3 => cases h3; rename_i rx ry
                                                                have hargs : cargs.map a.eval = #[rx, ry] := by apply Array.ext'; simpa using hrs
                                                                cases xv <;> cases yv <;> try (cases hv; done)
                                                                rename_i k p k' q
                                                                obtain rfl := R2.int h1
                                                                obtain rfl := R2.int h2
                                                                simp only at hv
                                                                split at hv
                                                                · rename_i hk; subst hk; cases hv
                                                                  refine hrun (s := Builtin.min_ argTypes o.type #[.int k p, .int k q]) (fun _ => by rw [hargs]; rfl) (r := _) (w' := w) ?_ (hK.still hs (R2.mkint _ _))
                                                                  simp [Builtin.min_, Builtin.min2]
                                                                · cases hv
  · cases hc
end
end Go.Proofs.Ytmcljallamhccaa.V
