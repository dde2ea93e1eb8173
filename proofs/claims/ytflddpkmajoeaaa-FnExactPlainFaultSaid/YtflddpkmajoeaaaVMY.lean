/- A region that draws its order: the proof. -/
import Derived.Test.YtflddpkmajoeaaaVMX
namespace Go.Proofs.Ytflddpkmajoeaaa.V
open Go
set_option linter.unusedVariables false
set_option linter.unusedSimpArgs false
section
variable {P : Program} {ops : Array Oper}
def closedS (ops : Array Oper) (listed : Array Bool) : Prop := ∀ (i : Nat) o, ops[i]? = some o → listed.getD i false = true → ∀ e ∈ o.after, Region.binds .any e = true → listed.getD e.on false = true
theorem rch_ok {listed : Array Bool} (hc : closedS ops listed) : ∀ (f i j : Nat), rch ops f i j = true → (∀ o, ops[i]? = some o → ∀ e ∈ o.after, Region.binds .any e = true → listed.getD e.on false = true) → listed.getD j false = true
  | 0, i, j, h, _ => by simp [rch] at h
  | f + 1, i, j, h, hi => by
    simp only [rch] at h
    cases ho : ops[i]? with
    | none => rw [ho] at h; cases h
    | some o =>
      rw [ho] at h
      simp only [Array.any_eq_true', Bool.and_eq_true, Bool.or_eq_true, beq_iff_eq, decide_eq_true_eq] at h
      obtain ⟨e, he, hb, _, hor⟩ := h
      have hl := hi o ho e he hb
      rcases hor with rfl | hr
      · exact hl
      · exact rch_ok hc f e.on j hr fun o' ho' e' he' hb' => hc e.on o' ho' hl e' he' hb'
theorem compVs_get {nt : Nat} : ∀ {l : List Oper} {vl : List VO}, compVs P nt ops l = some vl → l.length = vl.length ∧ ∀ (i : Nat) o, l[i]? = some o → ∃ v, vl[i]? = some v ∧ compV P nt ops o = some v
  | [], vl, h => by
    simp only [compVs, Option.some.injEq] at h; subst h
    exact ⟨rfl, fun i o h => by simp at h⟩
  | x :: r, vl, h => by
    simp only [compVs, Option.bind_eq_some_iff, Option.some.injEq] at h
    obtain ⟨v, hv, s, hs, rfl⟩ := h
    obtain ⟨h1, h2⟩ := compVs_get hs
    refine ⟨by simp [h1], fun i o hi => ?_⟩
    cases i with
    | zero => simp only [List.getElem?_cons_zero, Option.some.injEq] at hi; subst hi; exact ⟨v, rfl, hv⟩
    | succ i => simpa using h2 i o (by simpa using hi)

/-- What the check of a region gives. -/
structure OK (ops : Array Oper) (vl : List VO) (n0 : Nat) : Prop where
  edge : ∀ (i : Nat) o, ops[i]? = some o → ∀ e ∈ o.after, Region.binds .any e = true → e.on < i
  ord : ∀ (i j : Nat) v u, vl[i]? = some v → vl[j]? = some u → j < i → (n0 ≤ i ∨ conf v u = true) → rch ops 24 i j = true
theorem drawOK_spec {vl : List VO} {n0 : Nat} (hl : ops.size = vl.length) (h : drawOK ops vl n0 = true) : OK ops vl n0 := by
  unfold drawOK at h
  simp only [List.all_eq_true, List.mem_range] at h
  have key : ∀ (i : Nat) o v, ops[i]? = some o → vl[i]? = some v → (∀ e ∈ o.after, Region.binds .any e = true → e.on < i) ∧ ∀ j u, j < i → vl[j]? = some u → (n0 ≤ i ∨ conf v u = true) → rch ops 24 i j = true := by
    intro i o v ho hv
    have h1 := h i (Array.getElem?_eq_some_iff.1 ho).1
    rw [ho, hv] at h1
    simp only [Bool.and_eq_true, Array.all_eq_true_iff_forall_mem, Bool.or_eq_true, Bool.not_eq_true', decide_eq_true_eq, List.all_eq_true, List.mem_range] at h1
    refine ⟨fun e he hb => ?_, fun j u hj hu hc => ?_⟩
    · rcases h1.1 e he with h2 | h2
      · rw [hb] at h2; cases h2
      · exact h2
    · have h2 := h1.2 j hj
      rw [hu] at h2
      simp only [Bool.or_eq_true, Bool.not_eq_true', Bool.or_eq_false_iff, decide_eq_false_iff_not] at h2
      rcases h2 with h2 | h2
      · rcases hc with hc | hc
        · exact absurd hc h2.1
        · rw [hc] at h2; cases h2.2
      · exact h2
  refine ⟨fun i o ho => ?_, fun i j v u hv hu hj hc => ?_⟩
  · have hlt : i < vl.length := by rw [← hl]; exact (Array.getElem?_eq_some_iff.1 ho).1
    exact (key i o vl[i] ho (List.getElem?_eq_getElem hlt)).1
  · have hlt : i < ops.size := by rw [hl]; exact (List.getElem?_eq_some_iff.1 hv).1
    exact (key i ops[i] v (Array.getElem?_eq_getElem hlt) hv).2 j u hj hu hc

theorem getD_set {listed : Array Bool} {i j : Nat} (hi : i < listed.size) : (listed.setIfInBounds i true).getD j false = (decide (j = i) || listed.getD j false) := by
  by_cases h : j = i
  · subst h; simp [hi]
  · have := getD_set_ne (listed := listed) (i := i) (j := j) false (Ne.symm h)
    rw [this]; simp [h]
theorem not_listed {listed : Array Bool} {i : Nat} (h : listed.getD i true = false) : i < listed.size ∧ listed.getD i false = false ∧ listed.toList[i]? = some false := by
  rcases Nat.lt_or_ge i listed.size with h' | h'
  · refine ⟨h', ?_, ?_⟩ <;> simp [h'] at h ⊢ <;> exact h
  · simp [Array.getElem?_eq_none h'] at h
theorem ready_none {listed : Array Bool} (h : ∀ i, i < ops.size → listed.getD i false = true) (hs : listed.size = ops.size) : Region.ready .any ops listed = [] := by
  rw [List.eq_nil_iff_forall_not_mem]
  intro i hi
  obtain ⟨h1, o, ho, _⟩ := mem_ready.1 hi
  have := not_listed h1
  rw [h i (Array.getElem?_eq_some_iff.1 ho).1] at this
  cases this.2.1
theorem ready_some {vl : List VO} {n0 : Nat} (hok : OK ops vl n0) {listed : Array Bool} (hs : listed.size = ops.size) {j : Nat} (hj : j < ops.size) (hl : listed.getD j false = false) : Region.ready .any ops listed ≠ [] := by
  have key : ∀ (m j : Nat), j ≤ m → j < ops.size → listed.getD j false = false → ∃ i, i ∈ Region.ready .any ops listed := by
    intro m
    induction m with
    | zero =>
      intro j hjm hj hl
      obtain rfl : j = 0 := by omega
      refine ⟨0, mem_ready.2 ⟨by simp [hs, hj] at hl ⊢; exact hl, ops[0], Array.getElem?_eq_getElem hj, fun e he hb => ?_⟩⟩
      exact absurd (hok.edge 0 _ (Array.getElem?_eq_getElem hj) e he hb) (by omega)
    | succ m ih =>
      intro j hjm hj hl
      by_cases hex : ∃ k, k < j ∧ listed.getD k false = false
      · obtain ⟨k, hk, hkl⟩ := hex
        exact ih k (by omega) (by omega) hkl
      · refine ⟨j, mem_ready.2 ⟨by simp [hs, hj] at hl ⊢; exact hl, ops[j], Array.getElem?_eq_getElem hj, fun e he hb => ?_⟩⟩
        have hlt := hok.edge j _ (Array.getElem?_eq_getElem hj) e he hb
        cases hv : listed.getD e.on false with
        | true => rfl
        | false => exact absurd ⟨e.on, hlt, hv⟩ hex
  obtain ⟨i, hi⟩ := key j j (Nat.le_refl _) hj hl
  intro h0
  rw [h0] at hi
  cases hi

variable {call : Cal} (hcall : CalOK P call) {nt : Nat} {vl : List VO} (hvl : compVs P nt ops ops.toList = some vl) {n0 : Nat} (hok : OK ops vl n0) {lo : Nat} {Q : Exit → Act → World → Prop}
include hcall hvl hok

/-- Behind the free part: one behind the other. -/
theorem seq_ok {ts' : Ts} {H' : Hp} : ∀ (fuel k : Nat), n0 ≤ k → k ≤ ops.size → ∀ {listed : Array Bool}, listed.size = ops.size → (∀ j, j < ops.size → listed.getD j false = decide (j < k)) → cntF listed.toList ≤ fuel → closedS ops listed →
    ∀ {ts : Ts} {H : Hp}, vops call lo (vl.drop k) ts H = some (ts', H') → lo ≤ H.length → ∀ {μ : Mu} {a : Act} {w : World}, TR μ ts a → Sim μ H w → a.tmps.size = nt → (∀ a' w', Fin lo μ H w a ts' H' a' w' → Q .normal a' w') → wpAny P .any ops Q fuel listed a w := by
  obtain ⟨hlen, hget⟩ := compVs_get hvl
  rw [Array.length_toList] at hlen
  intro fuel
  induction fuel with
  | zero =>
    intro k hk hkn listed hls hlist hcnt _ ts H hv hlo μ a w ht hs hn hQ
    have hall : ∀ j, j < ops.size → listed.getD j false = true := by
      intro j hj
      cases hx : listed.getD j false with
      | true => rfl
      | false =>
        have h1 := cntF_zero listed.toList j (by omega)
        exact absurd (by simp [hls, hj] at hx ⊢; exact hx) h1
    have hk' : k = ops.size := by
      rcases Nat.lt_or_ge k ops.size with h | h
      · have h1 := hlist k h; rw [hall k h] at h1; simp at h1
      · omega
    rw [List.drop_eq_nil_of_le (by omega)] at hv
    simp only [vops, Option.some.injEq, Prod.mk.injEq] at hv
    obtain ⟨rfl, rfl⟩ := hv
    exact ⟨ready_none hall hls, hQ a w ⟨μ, ht, hs, Stp.refl _ _ _ _, rfl, rfl⟩⟩
  | succ fuel ih =>
    intro k hk hkn listed hls hlist hcnt hcl ts H hv hlo μ a w ht hs hn hQ
    rcases Nat.lt_or_ge k ops.size with hlt | hge
    · refine ⟨fun h0 => absurd h0 (ready_some hok hls hlt (by rw [hlist k hlt]; simp)), fun i hi => ?_⟩
      obtain ⟨h1, o, ho, hedge⟩ := mem_ready.1 hi
      obtain ⟨hil, hif, hit⟩ := not_listed h1
      have hin : i < ops.size := (Array.getElem?_eq_some_iff.1 ho).1
      have hki : k ≤ i := by
        have := hlist i hin; rw [hif] at this; simp at this; exact this
      obtain ⟨v, hvi, hcomp⟩ := hget i o (by simpa using ho)
      have hik : i = k := by
        rcases Nat.lt_or_ge k i with h | h
        · have hr := hok.ord i k v (vl[k]'(by omega)) hvi (List.getElem?_eq_getElem (by omega)) h (.inl (by omega))
          have := rch_ok hcl 24 i k hr fun o' ho' e he hb => by rw [ho] at ho'; cases ho'; exact hedge e he hb
          rw [hlist k hlt] at this; simp at this
        · omega
      subst hik
      have hdrop : vl.drop i = v :: vl.drop (i + 1) := by
        rw [List.drop_eq_getElem_cons (by omega)]
        congr 1
        exact (List.getElem?_eq_some_iff.1 hvi).2
      rw [hdrop] at hv
      obtain ⟨hd, hop, hdd, _⟩ := compV_some hcomp
      simp only [vops, Option.bind_eq_some_iff] at hv
      obtain ⟨b, hb, hv⟩ := hv
      have hw := wants_ok ht hcomp hb
      have hd' : ∀ t, o.dst = some t → t < a.tmps.size := fun t h => by rw [hn]; exact hd t h
      have hlist' : ∀ j, j < ops.size → (listed.setIfInBounds i true).getD j false = decide (j < i + 1) := fun j hj => by
        rw [getD_set hil, hlist j hj]
        by_cases h1 : j < i
        · simp [h1]; omega
        · by_cases h2 : j = i
          · simp [h2]
          · simp [h1, h2]; omega
      have hcl' : closedS ops (listed.setIfInBounds i true) := by
        intro i' o' ho' hl' e he hb'
        by_cases hii : i' = i
        · subst hii
          rw [ho] at ho'; cases ho'
          exact getD_set_true (hedge e he hb')
        · rw [getD_set_ne false (Ne.symm hii)] at hl'
          exact getD_set_true (hcl i' o' ho' hl' e he hb')
      have hcnt' : cntF (listed.setIfInBounds i true).toList ≤ fuel := by
        rw [Array.toList_setIfInBounds]
        have := cntF_set listed.toList i hit
        omega
      unfold wpOp
      rw [ho]
      simp only
      rw [hw]
      cases b
      · simp only [Bool.false_eq_true, if_false] at hv ⊢
        rw [hdd] at hv
        exact ih (i + 1) (by omega) (by omega) (by simpa using hls) hlist' hcnt' hcl' hv hlo (ht.put R2.undef hd') hs (by rw [size_put]; exact hn) fun a' w' ⟨μ', h1, h2, h3, h4, h5⟩ => hQ a' w' ⟨μ', h1, h2, h3, by rw [h4, size_put], by rw [h5, put_defers]⟩
      · simp only [if_true, Option.bind_eq_some_iff] at hv ⊢
        obtain ⟨⟨x, H1⟩, hv1, hv⟩ := hv
        simp only at hv
        rw [hdd] at hv
        refine .inl (op_ok hcall hop hv1 hlo ht hs fun r w1 μ1 hR hs1 hst => ?_)
        exact ih (i + 1) (by omega) (by omega) (by simpa using hls) hlist' hcnt' hcl' hv (Nat.le_trans hlo hst.len) ((ht.ext hst.ext).put hR hd') hs1 (by rw [size_put]; exact hn) fun a' w' ⟨μ', h1, h2, h3, h4, h5⟩ => hQ a' w' ⟨μ', h1, h2, hst.trans h3, by rw [h4, size_put], by rw [h5, put_defers]⟩
    · obtain rfl : k = ops.size := by omega
      rw [List.drop_eq_nil_of_le (by omega)] at hv
      simp only [vops, Option.some.injEq, Prod.mk.injEq] at hv
      obtain ⟨rfl, rfl⟩ := hv
      have hall : ∀ j, j < ops.size → listed.getD j false = true := fun j hj => by rw [hlist j hj]; simp [hj]
      exact wpAny_done (ready_none hall hls) (hQ a w ⟨μ, ht, hs, Stp.refl _ _ _ _, rfl, rfl⟩) _
end
end Go.Proofs.Ytflddpkmajoeaaa.V
