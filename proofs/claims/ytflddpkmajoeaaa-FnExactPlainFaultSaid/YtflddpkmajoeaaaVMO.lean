/- Each operation: what the machine computes, the program's operation computes. -/
import Derived.Test.YtflddpkmajoeaaaVMC
namespace Go.Proofs.Ytflddpkmajoeaaa.V
open Go
set_option linter.unusedVariables false
set_option linter.unusedSimpArgs false

section
variable {P : Program}
theorem wp_val {o : Oper} {a : Act} {w w' : World} {r : Value} {K : Act → World → Prop} {Q : Exit → Act → World → Prop} (h : (execOp a.eval o).run P w = .ok (.value r) w') (hk : K (a.put o.dst r) w') : o.wp P a w K Q := by
  unfold Oper.wp; rw [h]; exact hk
theorem wp_skp {o : Oper} {a : Act} {w w' : World} {K : Act → World → Prop} {Q : Exit → Act → World → Prop} (h : (execOp a.eval o).run P w = .ok .skip w') (hk : K (a.put o.dst Go.undef) w') : o.wp P a w K Q := by
  unfold Oper.wp; rw [h]; exact hk

theorem run_isAgg {t : TypeId} {d : TypeDesc} (h : P.underlying t = some d) (w : World) : (isAgg t).run P w = .ok (aggD d) w := by
  unfold isAgg
  rw [Sem.run_bind, run_underlying h w]
  cases d <;> simp [aggD]
theorem run_sizeOf {t : TypeId} {i : TypeInfo} (h : P.info? t = some i) (w : World) : (sizeOf t).run P w = .ok i.size w := by simp [sizeOf, typeInfo, h]
theorem tyL_some {t : TypeId} {g : Bool} {n : Nat} (h : tyL P t = some (g, n)) : ∃ d i, P.underlying t = some d ∧ P.info? t = some i ∧ g = aggD d ∧ n = i.size := by
  simp only [tyL, Option.bind_eq_some_iff, Option.some.injEq, Prod.mk.injEq] at h
  obtain ⟨d, hd, i, hi, rfl, rfl⟩ := h
  exact ⟨d, i, hd, hi, rfl, rfl⟩
theorem slE_some {t e : TypeId} (h : slE P t = some e) : P.underlying t = some (.slice e) := by
  unfold slE at h; split at h
  · cases h; assumption
  · cases h
theorem stF_some {t : TypeId} {fs : Array Field} (h : stF P t = some fs) : P.underlying t = some (.struct fs) := by
  unfold stF at h; split at h
  · cases h; assumption
  · cases h
theorem intK_some {t : TypeId} {k : IntKind} (h : intK P t = some k) : P.underlying t = some (.int k) := by
  unfold intK at h; split at h
  · cases h; assumption
  · cases h
theorem zeroL_some {t : TypeId} {z : List Value} (h : zeroL P t = some z) : ∃ i v, P.info? t = some i ∧ i.zero = some v ∧ ok1 v = true ∧ vcells v = z ∧ z.length = i.size := by
  simp only [zeroL, Option.bind_eq_some_iff] at h
  obtain ⟨i, hi, v, hv, h⟩ := h
  split at h
  · rename_i hc; cases h; exact ⟨i, v, hi, hv, hc.1, rfl, hc.2⟩
  · cases h
theorem szL_some {t : TypeId} {n : Nat} (h : szL P t = some n) : ∃ i, P.info? t = some i ∧ i.size = n := by
  simpa [szL] using h
theorem ok1_cells {v : Value} (h : ok1 v = true) : v.cells.toList = vcells v ∧ ∀ x ∈ vcells v, okP x = true := by
  by_cases ha : ∃ cs, v = .agg cs
  · obtain ⟨cs, rfl⟩ := ha
    exact ⟨rfl, fun x hx => List.all_eq_true.1 h x hx⟩
  · cases v <;> first | exact absurd ⟨_, rfl⟩ ha | (refine ⟨rfl, fun x hx => ?_⟩; simp only [vcells, List.mem_singleton] at hx; subst hx; exact h)

theorem load_ok {μ : Mu} {H : Hp} {w : World} (hs : Sim μ H w) {t : TypeId} {g : Bool} {n : Nat} (ht : tyL P t = some (g, n)) {a : Addr} {rp v : Value} (hp : R2 μ (.pointer (some a)) rp)
    (hv : (if g then (V.rdN H a n).bind fun cs => some (Value.agg cs.toArray) else V.rd H a) = some v) : ∃ r, (Instr.loadAt t rp).run P w = .ok r w ∧ R2 μ v r := by
  obtain ⟨d, i, hd, hi, rfl, rfl⟩ := tyL_some ht
  obtain ⟨h0, m, hm, rfl⟩ := hp
  cases hg : aggD d with
  | true =>
    simp only [hg, if_true, Option.bind_eq_some_iff, Option.some.injEq] at hv
    obtain ⟨cs, hcs, rfl⟩ := hv
    obtain ⟨rs, hl, h2, hr⟩ := hs.rdN hcs hm
    have hload := run_loadCells_list (P := P) w ⟨m.b, m.o + a.off, none⟩ rs hr
    rw [hl] at hload
    refine ⟨.agg rs.toArray, ?_, R2.of_R1 ⟨rs.toArray, rfl, by simpa using h2⟩⟩
    simp [Instr.loadAt, Instr.sureAddr, loadVar, run_isAgg hd, hg, run_sizeOf hi, hload]
  | false =>
    simp only [hg, Bool.false_eq_true, if_false] at hv
    obtain ⟨r, hr, hrc⟩ := hs.rd hv hm
    refine ⟨r, ?_, R2.of_RC hrc⟩
    simp [Instr.loadAt, Instr.sureAddr, loadVar, run_isAgg hd, hg, hr]

theorem setAll_length : ∀ (vs : List Value) (cs : List Value) (o : Nat), (setAll cs o vs).length = cs.length
  | [], _, _ => rfl
  | v :: vs, cs, o => by rw [setAll, setAll_length vs]; simp
theorem setAll_eq : ∀ (vs : List Value) (cs : List Value) (o : Nat), o + vs.length ≤ cs.length → setAll cs o vs = cs.take o ++ vs ++ cs.drop (o + vs.length)
  | [], cs, o, _ => by simp [setAll]
  | v :: vs, cs, o, h => by
    simp only [List.length_cons] at h
    rw [setAll, setAll_eq vs _ _ (by simp; omega)]
    have e := list_seg_step cs o v vs (by omega)
    simpa [Nat.add_assoc, Nat.add_comm 1] using e

theorem setAll_take : ∀ (vs l : List Value) (n o : Nat), (setAll l o vs).take n = setAll (l.take n) o vs
  | [], _, _, _ => rfl
  | v :: vs, l, n, o => by rw [setAll, setAll, setAll_take vs, List.take_set]
theorem L2.setAll {R : Value → Value → Prop} : ∀ {vs rs : List Value}, L2 R vs rs → ∀ {l m : List Value}, L2 R l m → ∀ o, L2 R (V.setAll l o vs) (V.setAll m o rs)
  | _, _, .nil, _, _, h, o => h
  | _, _, .cons x y, _, _, h, o => y.setAll (h.set o x) (o + 1)

theorem storeCells_ok {μ : Mu} {H H' : Hp} {w : World} (hs : Sim μ H w) {a : Addr} {m : MA} (hm : μ a.block = some m) {vs rs : List Value} (hcells : L2 (RC μ) vs rs) {lo : Nat}
    (hw : wrN lo H a vs = some H') : ∃ w', (storeCells ⟨m.b, m.o + a.off, none⟩ rs).run P w = .ok () w' ∧ Sim μ H' w' ∧ Stp lo μ H w μ H' w' := by
  unfold wrN at hw
  cases hb : H.blk a.block with
  | none => rw [hb] at hw; cases hw
  | some b =>
    rw [hb] at hw
    simp only [Option.bind_some] at hw
    split at hw
    · rename_i hc
      obtain ⟨h1, h2, h3⟩ := hc
      cases hw
      have hb' := blk_some hb
      obtain ⟨m', hm', hok⟩ := hs.blk _ _ hb'
      rw [hm] at hm'; cases hm'
      obtain ⟨C, e, hg, ho, hsz, hml⟩ := hok.rw h2
      have hlen := hcells.len
      have hcl : ∀ (j : Nat) c, b.cs[j]? = some c → ∃ r, C[j]? = some r ∧ RC μ c r := fun j c hc => by
        obtain ⟨r, hr1, hr2⟩ := hok.cells j c hc
        rw [ho, Nat.zero_add, cell_of_row w m.b j C e (0, 0) hg] at hr1
        exact ⟨r, hr1, hr2⟩
      have hle : b.cs.length ≤ C.size := by
        rcases Nat.eq_zero_or_pos b.cs.length with h | h
        · omega
        · obtain ⟨r, hr1, _⟩ := hcl (b.cs.length - 1) _ (List.getElem?_eq_getElem (by omega))
          have := (Array.getElem?_eq_some_iff.1 hr1).1
          omega
      have hst := run_storeCells_at P m.b (a.off) e rs 0 C w hg (by rw [← hlen]; omega) (hcells.all (p := fun v => v.oneCell' = true) fun _ _ h => (RC.one h).1)
      simp only [Nat.add_zero] at hst
      have hC' : (C.toList.take a.off ++ rs ++ C.toList.drop (a.off + rs.length)) = V.setAll C.toList a.off rs := (setAll_eq _ _ _ (by simp at hlen ⊢; omega)).symm
      rw [hC'] at hst
      have hres := hs.setRow hb' h2 hm hg (cs' := V.setAll b.cs a.off vs) (C' := (V.setAll C.toList a.off rs).toArray) (by simp [setAll_length]) (fun j c hc => by
        -- both rows are set alike
        have h2 : L2 (RC μ) (V.setAll b.cs a.off vs) (V.setAll (C.toList.take b.cs.length) a.off rs) :=
          hcells.setAll (L2.of_get (by simp; omega) fun i x y hx hy => by
            obtain ⟨r, hr1, hr2⟩ := hcl i x hx
            rw [List.getElem?_take] at hy
            split at hy
            · rw [Array.getElem?_toList] at hy
              rw [hr1] at hy; cases hy; exact hr2
            · cases hy) a.off
        obtain ⟨y, hy, hyr⟩ := h2.get hc
        refine ⟨y, ?_, hyr⟩
        have hj : j < b.cs.length := by
          have := (List.getElem?_eq_some_iff.1 hc).1
          rwa [setAll_length] at this
        rw [List.getElem?_toArray]
        rw [← setAll_take, List.getElem?_take, if_pos hj] at hy
        exact hy) h1
      refine ⟨_, ?_, hres⟩
      have e0 : m.o + a.off = a.off := by omega
      rw [e0]
      exact hst
    · cases hw
theorem storeVar_ok {μ : Mu} {H H' : Hp} {w : World} (hs : Sim μ H w) {t : TypeId} {n : Nat} (ht : szL P t = some n) {a : Addr} {m : MA} (hm : μ a.block = some m) {v rv : Value} (hr : R1 μ v rv) {lo : Nat}
    (hn : (vcells v).length = n) (hw : wrN lo H a (vcells v) = some H') : ∃ w', (storeVar t ⟨m.b, m.o + a.off, none⟩ rv).run P w = .ok () w' ∧ Sim μ H' w' ∧ Stp lo μ H w μ H' w' := by
  obtain ⟨i, hi, rfl⟩ := szL_some ht
  obtain ⟨w', hst, hres⟩ := storeCells_ok (P := P) hs hm hr.cells hw
  refine ⟨w', ?_, hres⟩
  have hsz' : rv.cells.size = i.size := by rw [← hn]; simpa using hr.cells.len.symm
  simp [storeVar, run_sizeOf hi, hsz', hst]

theorem ntup_ok {v : Value} (h : ntup v = true) : ∀ cs, v ≠ .tuple cs := by
  intro cs e; subst e; simp [ntup] at h
theorem foldl_zip (o : Nat) : ∀ (l : List Value) (k : Nat) (cells : Array Value), ((l.zipIdx k).foldl (fun cs (x : Value × Nat) => cs.setIfInBounds (o + x.2) x.1) cells).toList = V.setAll cells.toList (o + k) l
  | [], _, _ => rfl
  | v :: l, k, cells => by
    simp only [List.zipIdx_cons, List.foldl_cons]
    rw [foldl_zip o l (k + 1)]
    simp [V.setAll, Nat.add_assoc]
theorem vfill_ok {μ : Mu} {ts : Ts} {a : Act} (ht : TR μ ts a) (place : Nat → Option (Nat × Nat)) : ∀ (ps : List (Nat × Operand)) (cps : List (Nat × Nat × Arg)), cParts place ps = some cps → ∀ {cells cs : List Value} {rcells : Array Value},
    L2 (RC μ) cells rcells.toList → vfill cells ts cps = some cs → ∃ rcs, Instr.fill place rcells (ps.map fun (i, x) => (i, a.eval x)) = some rcs ∧ L2 (RC μ) cs rcs.toList
  | [], cps, hc, cells, cs, rcells, hl, hv => by
    simp only [cParts, Option.some.injEq] at hc; subst hc
    simp only [vfill, Option.some.injEq] at hv; subst hv
    exact ⟨rcells, rfl, hl⟩
  | (i, x) :: ps, cps, hc, cells, cs, rcells, hl, hv => by
    simp only [cParts, Option.bind_eq_some_iff] at hc
    obtain ⟨⟨o, n⟩, hpl, hc⟩ := hc
    simp only [Option.bind_eq_some_iff, Option.some.injEq] at hc
    obtain ⟨y, hy, s, hs, rfl⟩ := hc
    simp only [vfill, Option.bind_eq_some_iff] at hv
    obtain ⟨v, hv, hv2⟩ := hv
    split at hv2
    · rename_i hcond
      obtain ⟨hn, hlen, hle⟩ := hcond
      have hr := (ev_ok ht hy hv).to_R1 (ntup_ok hn)
      have hcells := hr.cells
      have hsz : (a.eval x).cells.size = n := by rw [← hlen]; simpa using hcells.len.symm
      have hlr := hl.len
      simp only [List.map_cons, Instr.fill, hpl, hsz]
      rw [if_neg (by simp at hlr; simp [← hlr]; omega)]
      refine vfill_ok ht place ps s hs (cells := V.setAll cells o (vcells v)) ?_ hv2
      rw [← Array.foldl_toList, Array.toList_zipIdx]
      have := foldl_zip o (a.eval x).cells.toList 0 rcells
      rw [this]
      exact hcells.setAll hl o
    · cases hv2

theorem mod_flat (z : List Value) : ∀ (n i : Nat), i < n * z.length → (List.replicate n z).flatten[i]? = z[i % z.length]?
  | 0, i, h => by simp at h
  | n + 1, i, h => by
    rw [List.replicate_succ, List.flatten_cons, List.getElem?_append]
    split
    · rename_i hlt; rw [Nat.mod_eq_of_lt hlt]
    · rename_i hlt
      rw [Nat.succ_mul] at h
      rw [mod_flat z n _ (by omega), ← Nat.mod_eq_sub_mod (by omega)]
theorem flat_length (z : List Value) (n : Nat) : (List.replicate n z).flatten.length = n * z.length := by simp
theorem range_map (z : Array Value) (n : Nat) : ((Array.range (n * z.size)).map (z[· % z.size]!)).toList = (List.replicate n z.toList).flatten := by
  apply List.ext_getElem?
  intro i
  by_cases h : i < n * z.size
  · rw [mod_flat _ _ _ (by simpa using h)]
    have hz : 0 < z.size := by rcases Nat.eq_zero_or_pos z.size with h0 | h0; · rw [h0] at h; simp at h
                               · exact h0
    have hm : i % z.size < z.size := Nat.mod_lt _ hz
    simp [h, hm]
  · rw [List.getElem?_eq_none (by simpa using h), List.getElem?_eq_none (by simp; omega)]
end
end Go.Proofs.Ytflddpkmajoeaaa.V
