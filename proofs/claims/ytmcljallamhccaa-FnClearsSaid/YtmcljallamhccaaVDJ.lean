/- A node more, another kid: what is made of a forest, plain law. -/
import Derived.Test.YtmcljallamhccaaVDD
namespace Go.Proofs.Ytmcljallamhccaa.V
open Go
set_option linter.unusedVariables false
set_option linter.unusedSimpArgs false
set_option maxRecDepth 100000
def withK (ks : List Int) (p : Nat) (k : Int) : List Int := (if ks = [] then [-1, -1, -1, -1] else ks).set p k
def noK (ks : List Int) : Bool := !(ks.any fun k => k != -1)
def kidsF (F : Fo) (n : Int) : List Int := if n = -1 then [] else ((F.n[n.toNat]?).map Nd.k).getD []
def aloneF (F : Fo) (n : Int) : Bool := if n = -1 then false else ((F.n[n.toNat]?).map fun x => x.r == 1).getD false
def slotOf (l : List Nd) : Nat := l.findIdx fun x => x.r == 0
def putN (l : List Nd) (i : Nat) (y : Nd) : List Nd := if i < l.length then l.set i y else l ++ [y]
def moreK (leaf : Bool) (F : Fo) (k : Int) : Option Fo :=
  if k < 0 then some F else if leaf = true then
    match F.b[k.toNat]? with
    | some b => if 200 ≤ b.r then none else some ⟨F.n, F.b.set k.toNat ⟨b.r + 1, b.d⟩⟩
    | none => none
  else match F.n[k.toNat]? with
    | some x => if 200 ≤ x.r then none else some ⟨F.n.set k.toNat ⟨x.r + 1, x.f, x.k⟩, F.b⟩
    | none => none
def moreAll (leaf : Bool) (F : Fo) (ks : List Int) : Option Fo := ks.foldl (fun o k => o.bind fun F => moreK leaf F k) (some F)
def freshF (F : Fo) (leaf : Bool) (ks : List Int) (but : Nat) : Option (Nat × Fo) :=
  if slotOf F.n < 60 then (moreAll leaf ⟨putN F.n (slotOf F.n) ⟨1, leaf, ks⟩, F.b⟩ (ks.set but (-1))).map fun F' => (slotOf F.n, F') else none
def setRootF (F : Fo) (root : Int) (p : Nat) (leaf : Int) : Option (Int × Fo) :=
  if noK (withK (kidsF F root) p leaf) = true then some (-1, if root = -1 then F else lessR F root.toNat)
  else if aloneF F root = true then some (root, lessK ⟨F.n.set root.toNat ⟨1, false, withK (kidsF F root) p leaf⟩, F.b⟩ (kidOf F root p))
  else (freshF F false (withK (kidsF F root) p leaf) p).map fun r => ((r.1 : Int), if root = -1 then r.2 else lessR r.2 root.toNat)
def leafF (F : Fo) (root : Int) (p : Nat) (block : Int) : List Int := withK (kidsF F (kidOf F root (p / 4))) (p % 4) block
def putF (F : Fo) (root : Int) (p : Nat) (block : Int) : Option (Int × Fo) :=
  if noK (leafF F root p block) = true then setRootF F root (p / 4) (-1)
  else if aloneF F root = true ∧ aloneF F (kidOf F root (p / 4)) = true then
    some (root, ⟨F.n.set (kidOf F root (p / 4)).toNat ⟨1, true, leafF F root p block⟩, dropB F.b (kidOf F (kidOf F root (p / 4)) (p % 4))⟩)
  else (freshF F true (leafF F root p block) (p % 4)).bind fun r => setRootF r.2 root (p / 4) (r.1 : Int)
/-! ### Kids -/
theorem withK_len {ks : List Int} {p : Nat} {k : Int} (h : ks = [] ∨ ks.length = 4) : (withK ks p k).length = 4 := by
  unfold withK
  rcases h with rfl | h
  · simp
  · have : ks ≠ [] := by intro e; rw [e] at h; simp at h
    rw [if_neg this]; simpa using h
theorem withK_mem {ks : List Int} {p : Nat} {k x : Int} (h : x ∈ withK ks p k) : x = -1 ∨ x ∈ ks ∨ x = k := by
  unfold withK at h
  rcases List.mem_or_eq_of_mem_set h with h | h
  · split at h
    · simp at h; exact Or.inl h
    · exact Or.inr (Or.inl h)
  · exact Or.inr (Or.inr h)
theorem withK_has {ks : List Int} {p : Nat} {k : Int} (h : ks = [] ∨ ks.length = 4) (hp : p < 4) : k ∈ withK ks p k := by
  have hl : p < (if ks = [] then [-1, -1, -1, -1] else ks).length := by
    rcases h with rfl | h
    · simpa using hp
    · have : ks ≠ [] := by intro e; rw [e] at h; simp at h
      rw [if_neg this]; omega
  exact List.mem_iff_getElem?.2 ⟨p, by unfold withK; simp [hl]⟩
theorem count_set {ks : List Int} {p : Nat} (k : Int) (hp : p < ks.length) (i : Nat) : ((ks.set p k).count (i : Int) : Int) = ((ks.set p (-1)).count (i : Int) : Int) + kI k i := by
  induction ks generalizing p with
  | nil => simp at hp
  | cons x r ih =>
    cases p with
    | zero =>
      simp only [List.set_cons_zero]
      rw [count_kI, count_kI]
      unfold kI
      rw [if_neg (by omega : ¬ (-1 : Int) = (i : Int))]; omega
    | succ p =>
      simp only [List.set_cons_succ]
      rw [count_kI, count_kI, ih (by simpa using hp)]; omega
theorem withK_count {ks : List Int} {p : Nat} (k : Int) (h : ks = [] ∨ ks.length = 4) (hp : p < 4) (i : Nat) : ((withK ks p k).count (i : Int) : Int) = (((withK ks p k).set p (-1)).count (i : Int) : Int) + kI k i := by
  unfold withK
  rw [List.set_set]
  refine count_set k ?_ i
  rcases h with rfl | h
  · simpa using hp
  · have : ks ≠ [] := by intro e; rw [e] at h; simp at h
    rw [if_neg this]; omega
/-- The kid that was in the place. -/
theorem withK_old {ks : List Int} {p : Nat} (k : Int) (h : ks.length = 4) (hp : p < ks.length) (i : Nat) : (ks.count (i : Int) : Int) + kI k i = ((withK ks p k).count (i : Int) : Int) + kI ks[p] i := by
  have hne : ks ≠ [] := by intro e; rw [e] at h; simp at h
  have h1 := count_set k hp i
  have h2 := count_set ks[p] hp i
  rw [List.set_getElem_self] at h2
  unfold withK
  rw [if_neg hne]; omega
theorem noK_has {ks : List Int} (h : noK ks = false) (hk : ∀ k ∈ ks, k = -1 ∨ 0 ≤ k) : ∃ k ∈ ks, 0 ≤ k := by
  unfold noK at h
  simp only [Bool.not_eq_false', List.any_eq_true, bne_iff_ne] at h
  obtain ⟨k, hk1, hk2⟩ := h
  exact ⟨k, hk1, by have := hk k hk1; omega⟩
theorem noK_all {ks : List Int} (h : noK ks = true) : ∀ k ∈ ks, k = -1 := by
  unfold noK at h
  intro k hk
  simp only [Bool.not_eq_true', List.any_eq_false, bne_iff_ne] at h
  have := h k hk
  omega
/-! ### The place of a node more -/
theorem slot_le (l : List Nd) : slotOf l ≤ l.length := List.findIdx_le_length
theorem slot_dead {l : List Nd} (h : slotOf l < l.length) : l[slotOf l].r = 0 := by
  have := List.findIdx_getElem (xs := l) (p := fun x : Nd => x.r == 0) (w := h)
  exact beq_iff_eq.1 this
theorem slot_live {l : List Nd} {j : Nat} (h : j < slotOf l) (hj : j < l.length) : l[j].r ≠ 0 := by
  have := List.not_of_lt_findIdx (xs := l) (p := fun x : Nd => x.r == 0) (i := j) h
  simpa using this
theorem slot_eq {l : List Nd} {i : Nat} (hi : i < l.length) (h : l[i].r = 0) (hl : ∀ (j : Nat) (hj : j < i), (l[j]'(by omega)).r ≠ 0) : slotOf l = i := by
  unfold slotOf
  rw [List.findIdx_eq hi]
  exact ⟨by simp [h], fun j hj => by have := hl j hj; simpa using this⟩
theorem slot_none {l : List Nd} (h : ∀ x ∈ l, x.r ≠ 0) : slotOf l = l.length := by
  unfold slotOf
  rw [List.findIdx_eq_length]
  intro x hx; simpa using h x hx
theorem putN_len (l : List Nd) (y : Nd) : l.length ≤ (putN l (slotOf l) y).length := by unfold putN; split <;> simp
theorem putN_at (l : List Nd) (y : Nd) : (putN l (slotOf l) y)[slotOf l]? = some y := by
  have := slot_le l
  unfold putN
  by_cases h : slotOf l < l.length
  · rw [if_pos h]; simp [h]
  · rw [if_neg h]
    have e : slotOf l = l.length := by omega
    rw [e]; simp
theorem putN_old {l : List Nd} (y : Nd) {i : Nat} (hi : i < l.length) (hr : l[i].r ≠ 0) : (putN l (slotOf l) y)[i]? = some l[i] := by
  unfold putN
  by_cases h : slotOf l < l.length
  · rw [if_pos h, List.getElem?_set, if_neg, getE hi]
    intro e
    have := slot_dead h
    simp only [e] at this
    exact hr this
  · rw [if_neg h, List.getElem?_append_left hi, getE hi]
theorem nmS_zero {F : Fo} {eB eN : Nat → Int} (h : Inv F eB eN) {j : Nat} (hj : ∀ (hj : j < F.n.length), F.n[j].f = false) : nmS F.n false (j : Int) = 0 := by
  have key : ∀ l : List Nd, (∀ x ∈ l, nm false (j : Int) x = 0) → nmS l false (j : Int) = 0 := by
    intro l
    induction l with
    | nil => intro _; simp [nmS]
    | cons x r ih => intro hx; rw [nmS_cons, hx x (by simp), ih fun z hz => hx z (by simp [hz])]; rfl
  refine key _ fun x hx => ?_
  by_cases hr : x.r = 0
  · exact nm_oth (Or.inl hr)
  · by_cases hxf : x.f = false
    · rw [nm_live hr hxf]
      have : (j : Int) ∉ x.k := fun hk => by
        rcases h.kr x hx hxf _ hk with e | ⟨i, hi, e, hf⟩
        · omega
        · obtain rfl : i = j := by omega
          rw [hj hi] at hf; cases hf
      rw [List.count_eq_zero.2 this]; rfl
    · exact nm_oth (Or.inr hxf)
/-- A leaf more. -/
theorem Inv.putL {F : Fo} {eB : Nat → Int} (h : Inv F eB z0) (hm : slotOf F.n < 60) {ks : List Int} (h4 : ks.length = 4) (hh : ∃ k ∈ ks, 0 ≤ k) (hk : ∀ k ∈ ks, k = -1 ∨ (0 ≤ k ∧ k < (F.b.length : Int))) :
    Inv ⟨putN F.n (slotOf F.n) ⟨1, true, ks⟩, F.b⟩ (fun i => eB i - (ks.count (i : Int) : Int)) (kI (slotOf F.n : Int)) := by
  have hnt : ∀ i : Nat, nm true (i : Int) ⟨1, true, ks⟩ = (ks.count (i : Int) : Int) := fun i => nm_live (by simp) rfl
  have hnf : ∀ i : Nat, nm false (i : Int) ⟨1, true, ks⟩ = 0 := fun i => nm_oth (Or.inr (by simp))
  unfold putN
  by_cases hs : slotOf F.n < F.n.length
  · rw [if_pos hs]
    have hd := slot_dead hs
    have hd0 := h.n0 _ (List.getElem_mem hs) hd
    have hnd : ∀ leaf a, nm leaf a F.n[slotOf F.n] = 0 := fun leaf a => nm_oth (Or.inl hd)
    have hz := nmS_zero h (j := slotOf F.n) (fun _ => hd0.1)
    refine h.upd hs _ _ _ ⟨by simp, by simp⟩ (fun e => by simp at e) (fun _ => ⟨h4, hh⟩) (fun _ => hk) (fun e => by cases e) (fun e => Or.inl rfl) (fun i _ => by rw [hnd, hnt]; omega) (fun i _ hi => ?_) (fun _ => ?_)
    · rw [hnd, hnf]; unfold kI; rw [if_neg (by omega)]; simp
    · rw [hnd, hnf, hz]; unfold kI; rw [if_pos rfl]; simp
  · rw [if_neg hs]
    have hle := slot_le F.n
    have e : slotOf F.n = F.n.length := by omega
    rw [e]
    refine h.add _ _ _ (by omega) ⟨by simp, by simp⟩ (by simp) ⟨h4, hh⟩ (fun _ => hk) (fun e => by cases e) (fun i _ => by rw [hnt]) (fun i hi => ?_) (fun _ => ?_)
    · rw [hnf]; unfold kI; rw [if_neg (by omega)]; simp
    · unfold kI; rw [if_pos rfl]; simp
/-- A root more. -/
theorem Inv.putR {F : Fo} {eB eN : Nat → Int} (h : Inv F eB eN) (hm : slotOf F.n < 60) {ks : List Int} (h4 : ks.length = 4) (hh : ∃ k ∈ ks, 0 ≤ k) (hk : ∀ k ∈ ks, k = -1 ∨ ∃ (i : Nat) (hi : i < F.n.length), k = (i : Int) ∧ F.n[i].f = true) :
    Inv ⟨putN F.n (slotOf F.n) ⟨1, false, ks⟩, F.b⟩ eB (fun i => eN i - (ks.count (i : Int) : Int)) := by
  have hnf : ∀ i : Nat, nm false (i : Int) ⟨1, false, ks⟩ = (ks.count (i : Int) : Int) := fun i => nm_live (by simp) rfl
  have hnt : ∀ i : Nat, nm true (i : Int) ⟨1, false, ks⟩ = 0 := fun i => nm_oth (Or.inr (by simp))
  unfold putN
  by_cases hs : slotOf F.n < F.n.length
  · rw [if_pos hs]
    have hd := slot_dead hs
    have hd0 := h.n0 _ (List.getElem_mem hs) hd
    have hnd : ∀ leaf a, nm leaf a F.n[slotOf F.n] = 0 := fun leaf a => nm_oth (Or.inl hd)
    refine h.upd hs _ _ _ ⟨by simp, by simp⟩ (fun e => by simp at e) (fun _ => ⟨h4, hh⟩) (fun e => by cases e) (fun _ k hk' => ?_) (fun e => by rw [hd0.1] at e; cases e) (fun i _ => by rw [hnd, hnt]; omega) (fun i _ hi => by rw [hnd, hnf]; omega) (fun e => by cases e)
    rcases hk k hk' with e | ⟨i, hi, e, hf⟩
    · exact Or.inl e
    · refine Or.inr ⟨i, hi, e, fun e2 => ?_, hf⟩
      subst e2
      rw [hd0.1] at hf; cases hf
  · rw [if_neg hs]
    have hle := slot_le F.n
    have e : slotOf F.n = F.n.length := by omega
    exact h.add _ _ _ (by omega) ⟨by simp, by simp⟩ (by simp) ⟨h4, hh⟩ (fun e => by cases e) (fun _ => hk) (fun i _ => by rw [hnt]; omega) (fun i hi => by rw [hnf]; omega) (fun e => by cases e)
/-! ### One more refers to a kid -/
/-- A kid to which one more may refer. -/
def Kid (leaf : Bool) (F : Fo) (k : Int) : Prop := k = -1 ∨ ∃ i : Nat, k = (i : Int) ∧ (leaf = true → ∃ h : i < F.b.length, 1 ≤ F.b[i].r ∧ F.b[i].r ≤ 200) ∧ (leaf = false → ∃ h : i < F.n.length, 1 ≤ F.n[i].r ∧ F.n[i].r ≤ 200)
theorem moreK_m (leaf : Bool) (F : Fo) {k : Int} (h : k < 0) : moreK leaf F k = some F := by unfold moreK; rw [if_pos h]
theorem moreK_b {F : Fo} {j : Nat} (h : j < F.b.length) : moreK true F (j : Int) = if 200 ≤ F.b[j].r then none else some ⟨F.n, F.b.set j ⟨F.b[j].r + 1, F.b[j].d⟩⟩ := by
  unfold moreK; rw [if_neg (by omega), if_pos rfl, Int.toNat_natCast, getE h]
theorem moreK_n {F : Fo} {j : Nat} (h : j < F.n.length) : moreK false F (j : Int) = if 200 ≤ F.n[j].r then none else some ⟨F.n.set j ⟨F.n[j].r + 1, F.n[j].f, F.n[j].k⟩, F.b⟩ := by
  unfold moreK; rw [if_neg (by omega), if_neg (by simp), Int.toNat_natCast, getE h]
theorem Kid.more {leaf : Bool} {F F' : Fo} {k k' : Int} (hm : moreK leaf F k = some F') (hk : Kid leaf F k) (h : Kid leaf F k') : Kid leaf F' k' := by
  rcases hk with rfl | ⟨j, rfl, h1, h2⟩
  · rw [moreK_m _ _ (by omega)] at hm; cases hm; exact h
  · rcases h with e | ⟨i, e, g1, g2⟩
    · exact Or.inl e
    · refine Or.inr ⟨i, e, fun hl => ?_, fun hl => ?_⟩
      · subst hl
        obtain ⟨hj, hr⟩ := h1 rfl
        obtain ⟨hi, hr'⟩ := g1 rfl
        rw [moreK_b hj] at hm
        by_cases h200 : 200 ≤ F.b[j].r
        · rw [if_pos h200] at hm; cases hm
        · rw [if_neg h200] at hm; cases hm
          refine ⟨by simpa using hi, ?_⟩
          simp only [List.getElem_set]
          by_cases hji : j = i
          · subst hji; rw [if_pos rfl]; simp only; omega
          · rw [if_neg hji]; exact hr'
      · subst hl
        obtain ⟨hj, hr⟩ := h2 rfl
        obtain ⟨hi, hr'⟩ := g2 rfl
        rw [moreK_n hj] at hm
        by_cases h200 : 200 ≤ F.n[j].r
        · rw [if_pos h200] at hm; cases hm
        · rw [if_neg h200] at hm; cases hm
          refine ⟨by simpa using hi, ?_⟩
          simp only [List.getElem_set]
          by_cases hji : j = i
          · subst hji; rw [if_pos rfl]; simp only; omega
          · rw [if_neg hji]; exact hr'
theorem Inv.moreB {F F' : Fo} {eB eN : Nat → Int} (h : Inv F eB eN) {k : Int} (hk : Kid true F k) (hm : moreK true F k = some F') : Inv F' (fun i => eB i + kI k i) eN := by
  rcases hk with rfl | ⟨j, rfl, h1, _⟩
  · rw [moreK_m _ _ (by omega)] at hm; cases hm
    exact h.eq (fun i _ => by unfold kI; rw [if_neg (by omega)]; omega) (fun _ _ => Int.le_refl _)
  · obtain ⟨hj, hr⟩ := h1 rfl
    rw [moreK_b hj] at hm
    by_cases h200 : 200 ≤ F.b[j].r
    · rw [if_pos h200] at hm; cases hm
    · rw [if_neg h200] at hm; cases hm
      have hb := h.bd _ (List.getElem_mem hj)
      refine h.blk hj _ _ ⟨⟨by simp only; omega, by simp only; omega⟩, hb.2.1, fun e => by simp only at e; omega⟩ (fun i hi => by unfold kI; rw [if_neg (by omega)]; omega) (by simp only; unfold kI; rw [if_pos rfl]; omega)
theorem Inv.moreN {F F' : Fo} {eB eN : Nat → Int} (h : Inv F eB eN) {k : Int} (hk : Kid false F k) (hm : moreK false F k = some F') : Inv F' eB (fun i => eN i + kI k i) := by
  rcases hk with rfl | ⟨j, rfl, _, h2⟩
  · rw [moreK_m _ _ (by omega)] at hm; cases hm
    exact h.eq (fun i _ => rfl) (fun i _ => by unfold kI; rw [if_neg (by omega)]; omega)
  · obtain ⟨hj, hr⟩ := h2 rfl
    rw [moreK_n hj] at hm
    by_cases h200 : 200 ≤ F.n[j].r
    · rw [if_pos h200] at hm; cases hm
    · rw [if_neg h200] at hm; cases hm
      refine (h.refs hj 1 (by omega) (by omega) (by omega)).eq (fun _ _ => rfl) (fun i _ => ?_)
      unfold kI
      by_cases e : i = j
      · rw [if_pos e, if_pos (by rw [e])]; omega
      · rw [if_neg e, if_neg (by omega)]; omega
theorem moreAll_nil (leaf : Bool) (F : Fo) : moreAll leaf F [] = some F := rfl
theorem fold_none (leaf : Bool) : ∀ ks : List Int, ks.foldl (fun o k => o.bind fun F => moreK leaf F k) (none : Option Fo) = none
  | [] => rfl
  | _ :: ks => fold_none leaf ks
theorem moreAll_cons (leaf : Bool) (F : Fo) (k : Int) (ks : List Int) : moreAll leaf F (k :: ks) = (moreK leaf F k).bind fun F' => moreAll leaf F' ks := by
  unfold moreAll
  rw [List.foldl_cons, Option.bind_some]
  cases moreK leaf F k with
  | none => exact fold_none leaf ks
  | some F' => rfl
theorem Inv.moresB {eN : Nat → Int} : ∀ (ks : List Int) (F F' : Fo) (eB : Nat → Int), Inv F eB eN → (∀ k ∈ ks, Kid true F k) → moreAll true F ks = some F' → Inv F' (fun i => eB i + (ks.count (i : Int) : Int)) eN
  | [], F, F', eB, h, _, hm => by rw [moreAll_nil] at hm; cases hm; exact h.eq (fun i _ => by simp) (fun _ _ => Int.le_refl _)
  | k :: ks, F, F', eB, h, hk, hm => by
    rw [moreAll_cons] at hm
    obtain ⟨F1, h1, h2⟩ := Option.bind_eq_some_iff.1 hm
    refine (Inv.moresB ks F1 F' _ (h.moreB (hk k (by simp)) h1) (fun k' hk' => (hk k (by simp)).more h1 (hk k' (by simp [hk']))) h2).eq (fun i _ => by rw [count_kI]; omega) (fun _ _ => Int.le_refl _)
theorem Inv.moresN {eB : Nat → Int} : ∀ (ks : List Int) (F F' : Fo) (eN : Nat → Int), Inv F eB eN → (∀ k ∈ ks, Kid false F k) → moreAll false F ks = some F' → Inv F' eB (fun i => eN i + (ks.count (i : Int) : Int))
  | [], F, F', eN, h, _, hm => by rw [moreAll_nil] at hm; cases hm; exact h.eq (fun i _ => rfl) (fun _ _ => by simp)
  | k :: ks, F, F', eN, h, hk, hm => by
    rw [moreAll_cons] at hm
    obtain ⟨F1, h1, h2⟩ := Option.bind_eq_some_iff.1 hm
    refine (Inv.moresN ks F1 F' _ (h.moreN (hk k (by simp)) h1) (fun k' hk' => (hk k (by simp)).more h1 (hk k' (by simp [hk']))) h2).eq (fun _ _ => rfl) (fun i _ => by rw [count_kI]; omega)
/-- What a node is keeps being, but for how many refer to it. -/
def Kept (F F' : Fo) : Prop := F.n.length ≤ F'.n.length ∧ ∀ (i : Nat) (x : Nd), F.n[i]? = some x → x.r ≠ 0 → ∃ r, F'.n[i]? = some ⟨r, x.f, x.k⟩ ∧ x.r ≤ r
theorem Kept.refl (F : Fo) : Kept F F := ⟨Nat.le_refl _, fun i x h _ => ⟨x.r, h, Int.le_refl _⟩⟩
theorem Kept.trans {F F' F'' : Fo} (h : Kept F F') (h' : Kept F' F'') (hp : ∀ x ∈ F.n, 0 ≤ x.r) : Kept F F'' := ⟨Nat.le_trans h.1 h'.1, fun i x hx hr => by
  obtain ⟨r, h1, h2⟩ := h.2 i x hx hr
  have := hp x (List.mem_of_getElem? hx)
  obtain ⟨r', h3, h4⟩ := h'.2 i _ h1 (by simp only; omega)
  exact ⟨r', h3, by simp only at h4; omega⟩⟩
theorem moreK_kept {leaf : Bool} {F F' : Fo} {k : Int} (hm : moreK leaf F k = some F') : Kept F F' := by
  unfold moreK at hm
  by_cases h0 : k < 0
  · rw [if_pos h0] at hm; cases hm; exact Kept.refl _
  · rw [if_neg h0] at hm
    by_cases hl : leaf = true
    · rw [if_pos hl] at hm
      split at hm
      · split at hm
        · cases hm
        · cases hm; exact ⟨Nat.le_refl _, fun i x h _ => ⟨x.r, h, Int.le_refl _⟩⟩
      · cases hm
    · rw [if_neg hl] at hm
      split at hm
      · rename_i y hy
        split at hm
        · cases hm
        · cases hm
          refine ⟨by simp, fun i x h _ => ?_⟩
          obtain ⟨hi, e⟩ := List.getElem?_eq_some_iff.1 h
          simp only [List.getElem?_set]
          by_cases hki : k.toNat = i
          · rw [if_pos hki, if_pos (by omega)]
            rw [hki, h] at hy
            cases hy
            exact ⟨_, rfl, by omega⟩
          · rw [if_neg hki]; exact ⟨x.r, h, Int.le_refl _⟩
      · cases hm
theorem moreK_nonneg {leaf : Bool} {F F' : Fo} {k : Int} (hm : moreK leaf F k = some F') (hp : ∀ x ∈ F.n, 0 ≤ x.r) : ∀ x ∈ F'.n, 0 ≤ x.r := by
  unfold moreK at hm
  by_cases h0 : k < 0
  · rw [if_pos h0] at hm; cases hm; exact hp
  · rw [if_neg h0] at hm
    by_cases hl : leaf = true
    · rw [if_pos hl] at hm
      split at hm
      · split at hm
        · cases hm
        · cases hm; exact hp
      · cases hm
    · rw [if_neg hl] at hm
      split at hm
      · rename_i y hy
        split at hm
        · cases hm
        · cases hm
          intro x hx
          rcases List.mem_or_eq_of_mem_set hx with e | e
          · exact hp x e
          · rw [e]; have := hp y (List.mem_of_getElem? hy); simp only; omega
      · cases hm
theorem moreAll_kept {leaf : Bool} : ∀ (ks : List Int) (F F' : Fo), moreAll leaf F ks = some F' → (∀ x ∈ F.n, 0 ≤ x.r) → Kept F F'
  | [], F, F', hm, _ => by rw [moreAll_nil] at hm; cases hm; exact Kept.refl _
  | k :: ks, F, F', hm, hp => by
    rw [moreAll_cons] at hm
    obtain ⟨F1, h1, h2⟩ := Option.bind_eq_some_iff.1 hm
    exact (moreK_kept h1).trans (moreAll_kept ks F1 F' h2 (moreK_nonneg h1 hp)) hp
/-- A leaf more changes no node that there was. -/
theorem moreK_n_same {F F' : Fo} {k : Int} (hm : moreK true F k = some F') : F'.n = F.n := by
  unfold moreK at hm
  by_cases h0 : k < 0
  · rw [if_pos h0] at hm; cases hm; rfl
  · rw [if_neg h0, if_pos rfl] at hm
    split at hm
    · split at hm
      · cases hm
      · cases hm; rfl
    · cases hm
theorem moreAll_n_same : ∀ (ks : List Int) (F F' : Fo), moreAll true F ks = some F' → F'.n = F.n
  | [], F, F', hm => by rw [moreAll_nil] at hm; cases hm; rfl
  | k :: ks, F, F', hm => by
    rw [moreAll_cons] at hm
    obtain ⟨F1, h1, h2⟩ := Option.bind_eq_some_iff.1 hm
    rw [moreAll_n_same ks F1 F' h2, moreK_n_same h1]
theorem Inv.kidB {F : Fo} {eB eN : Nat → Int} (h : Inv F eB eN) {k : Int} (hk : k = -1 ∨ (0 ≤ k ∧ k < (F.b.length : Int))) (h1 : ∀ i : Nat, k = (i : Int) → ∀ (hi : i < F.b.length), 1 ≤ F.b[i].r) : Kid true F k := by
  rcases hk with e | ⟨e1, e2⟩
  · exact Or.inl e
  · have hi : k.toNat < F.b.length := by omega
    exact Or.inr ⟨k.toNat, by omega, fun _ => ⟨hi, h1 _ (by omega) hi, (h.bd _ (List.getElem_mem hi)).1.2⟩, fun e => by cases e⟩
theorem Inv.kidN {F : Fo} {eB eN : Nat → Int} (h : Inv F eB eN) {k : Int} (hk : k = -1 ∨ ∃ (i : Nat) (hi : i < F.n.length), k = (i : Int) ∧ F.n[i].f = true) : Kid false F k := by
  rcases hk with e | ⟨i, hi, e, hf⟩
  · exact Or.inl e
  · have h1 := h.live (List.getElem_mem hi) hf
    have h2 := h.nr _ (List.getElem_mem hi)
    exact Or.inr ⟨i, e, (fun e => by cases e), fun _ => ⟨hi, by omega, h2.2⟩⟩
end Go.Proofs.Ytmcljallamhccaa.V
