/- A region that draws its order: its free part, in whatever order. -/
import Derived.Test.YtflddpkmajoeaaaVMY
namespace Go.Proofs.Ytflddpkmajoeaaa.V
open Go
set_option linter.unusedVariables false
set_option linter.unusedSimpArgs false
section
variable {P : Program} {ops : Array Oper}
variable {call : Cal} (hcall : CalOK P call) {nt : Nat} {vl : List VO} (hvl : compVs P nt ops ops.toList = some vl) {n0 : Nat} (hok : OK ops vl n0) {lo : Nat} {Q : Exit → Act → World → Prop}

theorem mem_looks {v : VO} {t : Nat} (h : Arg.t t ∈ v.o.args) : t ∈ v.looks := by
  simp only [VO.looks, List.mem_append, tmpsA]
  exact .inl (List.mem_filterMap.2 ⟨.t t, h, rfl⟩)
theorem conf_write {v u : VO} {t : Nat} (h1 : u.d = some t) (h2 : t ∈ v.looks) : conf v u = true := by
  simp only [conf, h1, Bool.or_eq_true, List.contains_iff_mem]
  exact .inl (.inl (.inl h2))
theorem conf_write' {v u : VO} {t : Nat} (h1 : v.d = some t) (h2 : t ∈ u.looks) : conf v u = true := by
  simp only [conf, h1, Bool.or_eq_true, List.contains_iff_mem]
  exact .inl (.inr h2)
theorem conf_both {v u : VO} {t : Nat} (h1 : v.d = some t) (h2 : u.d = some t) : conf v u = true := by
  simp [conf, h1, h2]
theorem conf_comm (v u : VO) : conf v u = conf u v := by
  unfold conf
  rw [Bool.and_comm (!u.o.still)]
  generalize (!v.o.still && !u.o.still) = r
  cases u.d with
  | none => cases v.d with
    | none => rfl
    | some e => simp
  | some d => cases v.d with
    | none => simp
    | some e =>
      have h : ((some e : Option Nat) == some d) = (some d == some e) := BEq.comm
      simp only [h]
      generalize v.looks.contains d = p
      generalize u.looks.contains e = q
      generalize ((some d : Option Nat) == some e) = s
      cases p <;> cases q <;> cases r <;> cases s <;> rfl
theorem conf_active {v u : VO} (h1 : v.o.still = false) (h2 : u.o.still = false) : conf v u = true := by
  simp [conf, h1, h2]

include hcall hvl hok
theorem free_ok {ts0 ts' : Ts} {H0 H' : Hp} {vals : Nat → Value} {hs : Nat → Hp} (hn0 : n0 ≤ vl.length)
    (hstep : ∀ (i : Nat) o, (vl.take n0)[i]? = some o → StepAt call H0 o (tsS (fun j => decide (j < i)) vals (vl.take n0) 0 ts0) (vals i) (hs i) (hs (i + 1)))
    (hseq : vops call lo (vl.drop n0) (tsS (fun _ => true) vals (vl.take n0) 0 ts0) (hs n0) = some (ts', H')) (hlo : lo ≤ H0.length) {μ0 : Mu} {w0 : World} {a0 : Act} (ha0 : a0.tmps.size = nt)
    (hs0 : Sim μ0 H0 w0) (hQ : ∀ a' w', Fin lo μ0 H0 w0 a0 ts' H' a' w' → Q .normal a' w') : ∀ (fuel : Nat) {listed : Array Bool}, listed.size = ops.size → closedS ops listed → (∀ j, listed.getD j false = true → j < n0) → cntF listed.toList ≤ fuel →
    ∀ {μ : Mu} {a : Act} {w : World} {p : Nat}, TR μ (tsS (fun j => listed.getD j false) vals (vl.take n0) 0 ts0) a → a.tmps.size = nt → a.defers = a0.defers → p ≤ n0 → (∀ (j : Nat) u, j < p → vl[j]? = some u → u.o.still = false → listed.getD j false = true) →
      (∀ (j : Nat) u, p ≤ j → j < n0 → vl[j]? = some u → u.o.still = false → listed.getD j false = false) → Sim μ (hs p) w → (∀ i, i < H0.length → (hs p)[i]? = H0[i]?) → H0.length ≤ (hs p).length → Stp lo μ0 H0 w0 μ (hs p) w → wpAny P .any ops Q fuel listed a w := by
  obtain ⟨hlen, hget⟩ := compVs_get hvl
  rw [Array.length_toList] at hlen
  have hconst : ∀ (p q : Nat), p ≤ q → q ≤ n0 → (∀ (j : Nat) u, p ≤ j → j < q → vl[j]? = some u → u.o.still = true) → hs q = hs p := by
    intro p q hpq hq hst
    induction q with
    | zero => obtain rfl : p = 0 := by omega
              rfl
    | succ q ih =>
      rcases Nat.lt_or_ge q p with h | h
      · obtain rfl : p = q + 1 := by omega
        rfl
      · rw [← ih h (by omega) fun j u hj hj2 => hst j u hj (by omega)]
        have hlt : q < vl.length := by omega
        have hv := List.getElem?_eq_getElem hlt
        obtain ⟨b, _, hb⟩ := hstep q vl[q] (by rw [List.getElem?_take, if_pos (by omega)]; exact hv)
        rw [hst q _ h (by omega) hv] at hb
        cases b
        · simp only [Bool.false_eq_true, if_false] at hb; exact hb.2
        · simp only [if_true] at hb; exact hb.2
  intro fuel
  induction fuel with
  | zero =>
    intro listed hls hcl hfree hcnt μ a w p ht hn hdef hp hact1 hact2 hsim hlow hlen0 hst
    -- all is listed, so there is no rest
    have hall : ∀ j, j < ops.size → listed.getD j false = true := by
      intro j hj
      cases hx : listed.getD j false with
      | true => rfl
      | false =>
        have h1 := cntF_zero listed.toList j (by omega)
        exact absurd (by simp [hls, hj] at hx ⊢; exact hx) h1
    have hn : n0 = ops.size := by
      rcases Nat.lt_or_ge n0 ops.size with h | h
      · have := hfree n0 (hall n0 h); omega
      · omega
    have hp' : hs n0 = hs p := hconst p n0 hp (Nat.le_refl _) fun j u hj hj2 hu => by
      cases hx : u.o.still with
      | true => rfl
      | false => have := hact2 j u hj hj2 hu hx; rw [hall j (by omega)] at this; cases this
    have hts : TR μ (tsS (fun _ => true) vals (vl.take n0) 0 ts0) a := fun t v hv => ht t v (by
      rw [← hv]
      exact tsS_congr _ _ (fun j o hj _ => by
        have : j < (vl.take n0).length := (List.getElem?_eq_some_iff.1 hj).1
        simp only [List.length_take] at this
        simp only [Nat.zero_add]; exact hall j (by omega)) rfl)
    rw [hp'] at hseq
    refine seq_ok hcall hvl hok 0 n0 (Nat.le_refl _) (by omega) hls (fun j hj => by rw [hall j hj]; simp; omega) hcnt hcl hseq (Nat.le_trans hlo hlen0) hts hsim (by assumption) fun a' w' ⟨μ', h1, h2, h3, h4, h5⟩ => hQ a' w' ⟨μ', h1, h2, hst.trans h3, by rw [h4, ha0]; assumption, by rw [h5, hdef]⟩
  | succ fuel ih =>
    intro listed hls hcl hfree hcnt μ a w p ht hn hdef hp hact1 hact2 hsim hlow hlen0 hst
    by_cases hall : ∀ j, j < n0 → listed.getD j false = true
    · have hp' : hs n0 = hs p := hconst p n0 hp (Nat.le_refl _) fun j u hj hj2 hu => by
        cases hx : u.o.still with
        | true => rfl
        | false => have := hact2 j u hj hj2 hu hx; rw [hall j hj2] at this; cases this
      have hts : TR μ (tsS (fun _ => true) vals (vl.take n0) 0 ts0) a := fun t v hv => ht t v (by
        rw [← hv]
        exact tsS_congr _ _ (fun j o hj _ => by
          have : j < (vl.take n0).length := (List.getElem?_eq_some_iff.1 hj).1
          simp only [List.length_take] at this
          simp only [Nat.zero_add]; exact hall j (by omega)) rfl)
      rw [hp'] at hseq
      refine seq_ok hcall hvl hok (fuel + 1) n0 (Nat.le_refl _) (by omega) hls (fun j hj => ?_) hcnt hcl hseq (Nat.le_trans hlo hlen0) hts hsim hn fun a' w' ⟨μ', h1, h2, h3, h4, h5⟩ => hQ a' w' ⟨μ', h1, h2, hst.trans h3, by rw [h4, ha0, hn], by rw [h5, hdef]⟩
      cases hx : listed.getD j false with
      | true => simp [hfree j hx]
      | false => by_cases hj2 : j < n0
                 · rw [hall j hj2] at hx; cases hx
                 · simp [hj2]
    · obtain ⟨j0, hj0, hj0l⟩ : ∃ j, j < n0 ∧ listed.getD j false = false := by
        apply Classical.byContradiction
        intro hno
        apply hall
        intro j hj
        cases hx : listed.getD j false with
        | true => rfl
        | false => exact absurd ⟨j, hj, hx⟩ hno
      refine ⟨fun h0 => absurd h0 (ready_some hok hls (by omega) hj0l), fun i hi => ?_⟩
      obtain ⟨h1, o, ho, hedge⟩ := mem_ready.1 hi
      obtain ⟨hil, hif, hit⟩ := not_listed h1
      have hin : i < ops.size := (Array.getElem?_eq_some_iff.1 ho).1
      obtain ⟨v, hvi, hcomp⟩ := hget i o (by simpa using ho)
      have hrch : ∀ j, rch ops 24 i j = true → listed.getD j false = true := fun j hr => rch_ok hcl 24 i j hr fun o' ho' e he hb => by rw [ho] at ho'; cases ho'; exact hedge e he hb
      have hi0 : i < n0 := by
        rcases Nat.lt_or_ge i n0 with h | h
        · exact h
        · have := hrch j0 (hok.ord i j0 v (vl[j0]'(by omega)) hvi (List.getElem?_eq_getElem (by omega)) (by omega) (.inl h))
          rw [hj0l] at this; cases this
      -- what conflicts with i has come just if it stands ahead of i
      have hconf : ∀ (j : Nat) u, vl[j]? = some u → (conf v u = true ∨ conf u v = true) → j ≠ i → (listed.getD j false = decide (j < i)) := by
        intro j u hu hc hji
        rcases Nat.lt_or_ge j i with h | h
        · have hc' : conf v u = true ∨ conf u v = true := hc
          -- both orders of the check name the same pair
          have hcc : conf v u = true := by
            rcases hc with h | h
            · exact h
            · rw [conf_comm]; exact h
          rw [hrch j (hok.ord i j v u hvi hu h (.inr hcc))]; simp [h]
        · have hlt : i < j := by omega
          have hcc : conf u v = true := by
            rcases hc with h | h
            · rw [conf_comm]; exact h
            · exact h
          have hnd : decide (j < i) = false := by simp; omega
          rw [hnd]
          cases hx : listed.getD j false with
          | false => rfl
          | true =>
            exfalso
            have hjs : j < ops.size := by rw [hlen]; exact (List.getElem?_eq_some_iff.1 hu).1
            have hr := hok.ord j i u v hu hvi hlt (.inr hcc)
            have := rch_ok hcl 24 j i hr fun o' ho' e he hb => hcl j o' ho' hx e he hb
            rw [hif] at this; cases this
      have htake : (vl.take n0)[i]? = some v := by rw [List.getElem?_take, if_pos hi0]; exact hvi
      have hlook : ∀ t, t ∈ v.looks → lk (tsS (fun j => listed.getD j false) vals (vl.take n0) 0 ts0) t = lk (tsS (fun j => decide (j < i)) vals (vl.take n0) 0 ts0) t := by
        intro t htl
        refine tsS_congr _ _ (fun j u hj hd => ?_) rfl
        simp only [Nat.zero_add]
        rw [List.getElem?_take] at hj
        split at hj
        · by_cases hji : j = i
          · subst hji; rw [hif]; simp
          · exact hconf j u hj (.inl (conf_write hd htl)) hji
        · cases hj
      have hev : ∀ x ∈ v.o.args, ev (tsS (fun j => listed.getD j false) vals (vl.take n0) 0 ts0) x = ev (tsS (fun j => decide (j < i)) vals (vl.take n0) 0 ts0) x := by
        intro x hx
        cases x with
        | c u => rfl
        | t n => exact hlook n (mem_looks hx)
      obtain ⟨b, hb, hrun⟩ := hstep i v htake
      have hb' : wants (tsS (fun j => listed.getD j false) vals (vl.take n0) 0 ts0) v.g = some b := by
        rw [← hb]
        cases hg : v.g with
        | none => rfl
        | some tb =>
          obtain ⟨t, tb⟩ := tb
          simp only [wants]
          rw [hlook t (by simp [VO.looks, hg])]
      have hw := wants_ok ht hcomp hb'
      obtain ⟨hd, hop, hdd, _⟩ := compV_some hcomp
      have hd' : ∀ t, o.dst = some t → t < a.tmps.size := fun t h => by rw [hn]; exact hd t h
      -- the state behind i
      have hcl' : closedS ops (listed.setIfInBounds i true) := by
        intro i' o' ho' hl' e he hb'
        by_cases hii : i' = i
        · subst hii
          rw [ho] at ho'; cases ho'
          exact getD_set_true (hedge e he hb')
        · rw [getD_set_ne false (Ne.symm hii)] at hl'
          exact getD_set_true (hcl i' o' ho' hl' e he hb')
      have hcnt' : cntF (listed.setIfInBounds i true).toList ≤ fuel := by
        rw [Array.toList_setIfInBounds]
        have := cntF_set listed.toList i hit
        omega
      have hfree' : ∀ j, (listed.setIfInBounds i true).getD j false = true → j < n0 := by
        intro j hj
        rw [getD_set hil] at hj
        simp only [Bool.or_eq_true, decide_eq_true_eq] at hj
        rcases hj with rfl | hj
        · exact hi0
        · exact hfree j hj
      have hput : ∀ {μ' : Mu} {r : Value}, Ext μ μ' → R2 μ' (vals i) r → TR μ' (tsS (fun j => (listed.setIfInBounds i true).getD j false) vals (vl.take n0) 0 ts0) (a.put o.dst r) := by
        intro μ' r hx hr t u hu
        by_cases hdt : o.dst = some t
        · have : lk (tsS (fun j => (listed.setIfInBounds i true).getD j false) vals (vl.take n0) 0 ts0) t = some (vals (0 + i)) := by
            refine tsS_at _ 0 i htake (by rw [hdd]; exact hdt) (by rw [Nat.zero_add, getD_set hil]; simp) fun j x hij hx hxd => ?_
            rw [Nat.zero_add, getD_set hil]
            rw [List.getElem?_take] at hx
            split at hx
            · have := hconf j x hx (.inl (conf_both (by rw [hdd]; exact hdt) hxd)) (by omega)
              rw [this]
              simp; omega
            · cases hx
          rw [this, Nat.zero_add] at hu
          cases hu
          exact ⟨r, by rw [hdt]; simp [Act.put, hd' t hdt], hr⟩
        · have : lk (tsS (fun j => (listed.setIfInBounds i true).getD j false) vals (vl.take n0) 0 ts0) t = lk (tsS (fun j => listed.getD j false) vals (vl.take n0) 0 ts0) t := by
            refine tsS_congr _ _ (fun j x hj hxd => ?_) rfl
            simp only [Nat.zero_add]
            rw [getD_set hil]
            by_cases hji : j = i
            · subst hji
              rw [htake] at hj; cases hj
              rw [hdd] at hxd
              exact absurd hxd hdt
            · simp [hji]
          rw [this] at hu
          obtain ⟨x, hx1, hx2⟩ := (ht.ext hx) t u hu
          refine ⟨x, ?_, hx2⟩
          cases hod : o.dst with
          | none => exact hx1
          | some d =>
            simp only [Act.put]
            rw [Array.getElem?_setIfInBounds_ne (fun e => hdt (by rw [hod, e]))]
            exact hx1
      have stillcase : v.o.still = true → (∀ (j : Nat) u, j < p → vl[j]? = some u → u.o.still = false → (listed.setIfInBounds i true).getD j false = true) ∧ (∀ (j : Nat) u, p ≤ j → j < n0 → vl[j]? = some u → u.o.still = false → (listed.setIfInBounds i true).getD j false = false) := by
        intro hstill
        refine ⟨fun j u hj hu hs => getD_set_true (hact1 j u hj hu hs), fun j u hj hj2 hu hs => ?_⟩
        rw [getD_set hil, hact2 j u hj hj2 hu hs]
        have : j ≠ i := by rintro rfl; rw [hvi] at hu; cases hu; rw [hstill] at hs; cases hs
        simp [this]
      have activecase : v.o.still = false → p ≤ i ∧ hs i = hs p ∧ (∀ (j : Nat) u, j < i + 1 → vl[j]? = some u → u.o.still = false → (listed.setIfInBounds i true).getD j false = true) ∧ (∀ (j : Nat) u, i + 1 ≤ j → j < n0 → vl[j]? = some u → u.o.still = false → (listed.setIfInBounds i true).getD j false = false) := by
        intro hstill
        have hpi : p ≤ i := by
          rcases Nat.lt_or_ge i p with h | h
          · have := hact1 i v h hvi hstill; rw [hif] at this; cases this
          · exact h
        refine ⟨hpi, hconst p i hpi (by omega) fun j u hj hj2 hu => ?_, fun j u hj hu hs => ?_, fun j u hj hj2 hu hs => ?_⟩
        · cases hx : u.o.still with
          | true => rfl
          | false =>
            have h1 := hact2 j u hj (by omega) hu hx
            have h2 := hconf j u hu (.inl (conf_active hstill hx)) (by omega)
            rw [h1] at h2; simp at h2; omega
        · rw [getD_set hil]
          by_cases hji : j = i
          · simp [hji]
          · have h2 := hconf j u hu (.inl (conf_active hstill hs)) hji
            rw [h2]; simp; omega
        · rw [getD_set hil]
          have h2 := hconf j u hu (.inl (conf_active hstill hs)) (by omega)
          rw [h2]; simp; omega
      unfold wpOp
      rw [ho]
      simp only
      rw [hw]
      cases b
      · simp only [Bool.false_eq_true, if_false] at hrun ⊢
        obtain ⟨hval, hsame⟩ := hrun
        have hR : R2 μ (vals i) Go.undef := by rw [hval]; exact R2.undef
        cases hstill : v.o.still with
        | true =>
          obtain ⟨g1, g2⟩ := stillcase hstill
          exact ih (by simpa using hls) hcl' hfree' hcnt' (hput (Ext.refl _) hR) (by rw [size_put]; exact hn) (by rw [put_defers]; exact hdef) hp g1 g2 hsim hlow hlen0 hst
        | false =>
          obtain ⟨hpi, hip, g1, g2⟩ := activecase hstill
          rw [← hip, ← hsame] at hsim hlow hlen0 hst
          exact ih (by simpa using hls) hcl' hfree' hcnt' (hput (Ext.refl _) hR) (by rw [size_put]; exact hn) (by rw [put_defers]; exact hdef) (by omega) g1 g2 hsim hlow hlen0 hst
      · simp only [if_true] at hrun ⊢
        cases hstill : v.o.still with
        | true =>
          obtain ⟨g1, g2⟩ := stillcase hstill
          rw [hstill] at hrun
          simp only [if_true] at hrun
          obtain ⟨⟨H1, hv⟩, hsame⟩ := hrun
          have hv' := vop_still (lo' := lo) hstill (by rw [vop_congr hev]; exact hv) hlow
          refine .inl (op_ok hcall hop hv' (Nat.le_trans hlo hlen0) ht hsim fun r w1 μ1 hR hs1 hst1 => ?_)
          -- memory is as it was
          exact ih (by simpa using hls) hcl' hfree' hcnt' (hput hst1.ext hR) (by rw [size_put]; exact hn) (by rw [put_defers]; exact hdef) hp g1 g2 hs1 hlow hlen0 (hst.trans hst1)
        | false =>
          obtain ⟨hpi, hip, g1, g2⟩ := activecase hstill
          rw [hstill] at hrun
          simp only [Bool.false_eq_true, if_false] at hrun
          have hv' : vop call (hs i).length (tsS (fun j => listed.getD j false) vals (vl.take n0) 0 ts0) (hs i) v.o = some (vals i, hs (i + 1)) := by rw [vop_congr hev]; exact hrun
          rw [← hip] at hsim hlow hlen0 hst
          refine .inl (op_ok hcall hop hv' (Nat.le_refl _) ht hsim fun r w1 μ1 hR hs1 hst1 => ?_)
          exact ih (by simpa using hls) hcl' hfree' hcnt' (hput hst1.ext hR) (by rw [size_put]; exact hn) (by rw [put_defers]; exact hdef) (by omega) g1 g2 hs1
            (fun k hk => by rw [hst1.low k (Nat.lt_of_lt_of_le hk hlen0) (Nat.lt_of_lt_of_le hk hlen0)]; exact hlow k hk) (Nat.le_trans hlen0 hst1.len) (hst.trans (hst1.mono hsim (Nat.le_trans hlo hlen0) (Nat.le_refl _)))
end
end Go.Proofs.Ytflddpkmajoeaaa.V
