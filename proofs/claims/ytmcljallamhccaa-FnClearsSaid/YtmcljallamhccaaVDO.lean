/- A place of a tree with another block: what holds at each stage, plain law. -/
import Derived.Test.YtmcljallamhccaaVDN
namespace Go.Proofs.Ytmcljallamhccaa.V
open Go
set_option linter.unusedVariables false
set_option linter.unusedSimpArgs false
set_option maxRecDepth 100000
theorem Kid.put {leaf l : Bool} {F : Fo} {k : Int} (ks : List Int) (h : Kid leaf F k) : Kid leaf (putF1 F l ks) k := by
  rcases h with e | ⟨i, e, h1, h2⟩
  · exact Or.inl e
  · refine Or.inr ⟨i, e, h1, fun hl => ?_⟩
    obtain ⟨hi, hr⟩ := h2 hl
    have hp := putN_old (l := F.n) ⟨1, l, ks⟩ hi (by omega)
    obtain ⟨hi', e'⟩ := List.getElem?_eq_some_iff.1 hp
    exact ⟨hi', by simp only [putF1]; rw [e']; exact hr⟩
theorem put_kept {F : Fo} (l : Bool) (ks : List Int) : Kept F (putF1 F l ks) := ⟨putN_len _ _, fun i x hx hr => by
  obtain ⟨hi, rfl⟩ := List.getElem?_eq_some_iff.1 hx
  exact ⟨_, putN_old _ hi hr, Int.le_refl _⟩⟩
def LeafOK (F : Fo) (k : Int) : Prop := k = -1 ∨ ∃ (i : Nat) (hi : i < F.n.length), k = (i : Int) ∧ F.n[i].f = true
def RootOK (F : Fo) (k : Int) : Prop := k = -1 ∨ ∃ (j : Nat) (hj : j < F.n.length), k = (j : Int) ∧ F.n[j].f = false ∧ F.n[j].r ≠ 0
theorem freshR_inv {F F' : Fo} {leaf : Int} (h : Inv F z0 (kI leaf)) {ks : List Int} {p m : Nat} (h4 : ks.length = 4) (hh : ∃ k ∈ ks, 0 ≤ k) (hk : ∀ k ∈ ks, LeafOK F k) (hc : ∀ i : Nat, (ks.count (i : Int) : Int) = ((ks.set p (-1)).count (i : Int) : Int) + kI leaf i) (hf : freshF F false ks p = some (m, F')) : Inv F' z0 z0 ∧ Kept F F' := by
  obtain ⟨hs, rfl, hm⟩ := freshF_some hf
  have h1 := h.putR hs h4 hh hk
  have hK : ∀ k ∈ ks.set p (-1), Kid false (putF1 F false ks) k := fun k hk' => by
    rcases List.mem_or_eq_of_mem_set hk' with e | e
    · exact (h.kidN (hk k e)).put ks
    · exact Or.inl e
  refine ⟨(Inv.moresN _ _ F' _ h1 hK hm).eq (fun _ _ => rfl) (fun i _ => ?_), (put_kept false ks).trans (moreAll_kept _ _ _ hm (fun x hx => (h1.nr x hx).1)) (fun x hx => (h.nr x hx).1)⟩
  rw [hc i]; (try simp only [z0]); omega
theorem freshL_inv {F F' : Fo} {block : Int} (h : Inv F (kI block) z0) {ks : List Int} {p m : Nat} (h4 : ks.length = 4) (hh : ∃ k ∈ ks, 0 ≤ k) (hk : ∀ k ∈ ks, k = -1 ∨ (0 ≤ k ∧ k < (F.b.length : Int))) (hK : ∀ k ∈ ks.set p (-1), Kid true (putF1 F true ks) k) (hc : ∀ i : Nat, (ks.count (i : Int) : Int) = ((ks.set p (-1)).count (i : Int) : Int) + kI block i) (hf : freshF F true ks p = some (m, F')) : Inv F' z0 (kI (m : Int)) ∧ m = slotOf F.n ∧ F'.n = putN F.n (slotOf F.n) ⟨1, true, ks⟩ := by
  obtain ⟨hs, rfl, hm⟩ := freshF_some hf
  have h1 := h.putL hs h4 hh hk
  refine ⟨(Inv.moresB _ _ F' _ h1 hK hm).eq (fun i _ => ?_) (fun _ _ => Int.le_refl _), rfl, moreAll_n_same _ _ _ hm⟩
  rw [hc i]; (try simp only [z0]); omega
theorem kids4 {F : Fo} {eB eN : Nat → Int} (h : Inv F eB eN) {root : Int} (hr : RootOK F root) : kidsF F root = [] ∨ (kidsF F root).length = 4 := by
  rcases hr with rfl | ⟨j, hj, rfl, hf, hr⟩
  · exact Or.inl (kidsF_m F)
  · rw [kidsF_n hj]; exact Or.inr (h.n4 _ (List.getElem_mem hj) hr).1
theorem kids4L {F : Fo} {eB eN : Nat → Int} (h : Inv F eB eN) {k : Int} (hr : LeafOK F k) : kidsF F k = [] ∨ (kidsF F k).length = 4 := by
  rcases hr with rfl | ⟨j, hj, rfl, hf⟩
  · exact Or.inl (kidsF_m F)
  · rw [kidsF_n hj]; exact Or.inr (h.n4 _ (List.getElem_mem hj) (h.live (List.getElem_mem hj) hf)).1
theorem kidsOK {F : Fo} {eB eN : Nat → Int} (h : Inv F eB eN) {root leaf : Int} (hr : RootOK F root) (hl : LeafOK F leaf) {p : Nat} : ∀ k ∈ withK (kidsF F root) p leaf, LeafOK F k := fun k hk => by
  rcases withK_mem hk with e | e | e
  · exact Or.inl e
  · rcases hr with rfl | ⟨j, hj, rfl, hf, hr⟩
    · rw [kidsF_m] at e; simp at e
    · rw [kidsF_n hj] at e
      exact h.kr _ (List.getElem_mem hj) hf k e
  · rw [e]; exact hl
theorem LeafOK.ge {F : Fo} {k : Int} (h : LeafOK F k) : k = -1 ∨ 0 ≤ k := by
  rcases h with e | ⟨i, _, e, _⟩
  · exact Or.inl e
  · exact Or.inr (by omega)
theorem noK_leaf {ks : List Int} {p : Nat} {k : Int} (h : ks = [] ∨ ks.length = 4) (hp : p < 4) (hn : noK (withK ks p k) = true) : k = -1 := noK_all hn k (withK_has h hp)
theorem Inv.kI_m {F : Fo} {eB : Nat → Int} (h : Inv F eB (kI (-1))) : Inv F eB z0 := h.eq (fun _ _ => rfl) (fun i _ => by unfold kI; rw [if_neg (by omega)]; exact Int.le_refl _)
theorem Inv.kB_m {F : Fo} {eN : Nat → Int} (h : Inv F (kI (-1)) eN) : Inv F z0 eN := h.eq (fun i _ => by unfold kI; rw [if_neg (by omega)]) (fun _ _ => Int.le_refl _)
theorem aloneF_n {F : Fo} {j : Nat} (hj : j < F.n.length) : aloneF F (j : Int) = (F.n[j].r == 1) := by
  unfold aloneF; rw [if_neg (by omega), Int.toNat_natCast, getE hj]; rfl
theorem aloneF_m (F : Fo) : aloneF F (-1) = false := rfl
/-- The root's kids are others. -/
theorem Inv.setR {F : Fo} {leaf : Int} (h : Inv F z0 (kI leaf)) {j : Nat} (hj : j < F.n.length) (hf : F.n[j].f = false) (hr : F.n[j].r ≠ 0) (ha : F.n[j].r = 1) (hl : LeafOK F leaf) {p : Nat} (hp : p < 4) (hn : noK (withK F.n[j].k p leaf) = false) (h4 : p < F.n[j].k.length) :
    Inv ⟨F.n.set j ⟨1, false, withK F.n[j].k p leaf⟩, F.b⟩ z0 (kI F.n[j].k[p]) := by
  have hx := List.getElem_mem hj
  have hk4 := (h.n4 _ hx hr).1
  have hko : ∀ k ∈ withK F.n[j].k p leaf, LeafOK F k := by
    have := kidsOK h (root := (j : Int)) (Or.inr ⟨j, hj, rfl, hf, hr⟩) hl (p := p)
    rw [kidsF_n hj] at this; exact this
  have hnt : ∀ i : Nat, nm true (i : Int) ⟨1, false, withK F.n[j].k p leaf⟩ = 0 := fun i => nm_oth (Or.inr (by simp))
  have hnf : ∀ i : Nat, nm false (i : Int) ⟨1, false, withK F.n[j].k p leaf⟩ = ((withK F.n[j].k p leaf).count (i : Int) : Int) := fun i => nm_live (by simp) rfl
  have hot : ∀ i : Nat, nm true (i : Int) F.n[j] = 0 := fun i => nm_oth (Or.inr (by rw [hf]; simp))
  have hof : ∀ i : Nat, nm false (i : Int) F.n[j] = (F.n[j].k.count (i : Int) : Int) := fun i => nm_live hr hf
  refine h.upd hj _ _ _ ⟨by simp, by simp⟩ (fun e => by simp at e) (fun _ => ⟨withK_len (Or.inr hk4), noK_has hn (fun k hk => (hko k hk).ge)⟩) (fun e => by cases e) (fun _ k hk => ?_) (fun e => by rw [hf] at e; cases e) (fun i _ => by rw [hot, hnt]; omega) (fun i _ _ => ?_) (fun e => by cases e)
  · rcases hko k hk with e | ⟨i, hi, e, hf'⟩
    · exact Or.inl e
    · refine Or.inr ⟨i, hi, e, fun e2 => ?_, hf'⟩
      subst e2
      rw [hf] at hf'; cases hf'
  · rw [hof, hnf]
    have := withK_old leaf hk4 h4 i
    omega
theorem Inv.lessK0 {F : Fo} {old : Int} (h : Inv F z0 (kI old)) (ho : LeafOK F old) : Inv (lessK F old) z0 z0 := by
  rcases ho with rfl | ⟨i, hi, rfl, hf⟩
  · exact h.kI_m
  · have e : lessK F (i : Int) = V.lessL F i := by unfold lessK; rw [if_neg (by omega), Int.toNat_natCast]
    rw [e]
    refine (h.lessL (fun _ => Int.le_refl _) hi hf (by unfold kI; rw [if_pos rfl]; exact Int.le_refl _)).eq (fun _ _ => rfl) (fun z _ => ?_)
    unfold kI
    by_cases e : z = i
    · rw [if_pos e, if_pos (by rw [e])]; simp
    · rw [if_neg e, if_neg (by omega)]; simp
theorem LeafOK.set {F : Fo} {k : Int} (h : LeafOK F k) {j : Nat} (hj : j < F.n.length) (hf : F.n[j].f = false) (y : Nd) (B : List Bk) : LeafOK ⟨F.n.set j y, B⟩ k := by
  rcases h with e | ⟨i, hi, e, hf'⟩
  · exact Or.inl e
  · refine Or.inr ⟨i, by simpa using hi, e, ?_⟩
    simp only [List.getElem_set]
    rw [if_neg (fun e2 => by subst e2; rw [hf] at hf'; cases hf')]
    exact hf'
theorem Kept.root {F F' : Fo} (h : Kept F F') (hp : ∀ x ∈ F.n, 0 ≤ x.r) {root : Int} (hr : RootOK F root) : RootOK F' root := by
  rcases hr with rfl | ⟨j, hj, rfl, hf, hr⟩
  · exact Or.inl rfl
  · obtain ⟨r, h1, h2⟩ := h.2 j _ (getE hj) hr
    obtain ⟨hj', e⟩ := List.getElem?_eq_some_iff.1 h1
    have := hp _ (List.getElem_mem hj)
    exact Or.inr ⟨j, hj', rfl, by rw [e]; exact hf, by rw [e]; simp only; omega⟩
theorem Inv.lessRoot {F : Fo} (h : Inv F z0 z0) {root : Int} (hr : RootOK F root) : Inv (if root = -1 then F else V.lessR F root.toNat) z0 z0 := by
  rcases hr with rfl | ⟨j, hj, rfl, hf, hr⟩
  · rw [if_pos rfl]; exact h
  · rw [if_neg (by omega), Int.toNat_natCast]
    exact h.lessR (fun _ => Int.le_refl _) (fun _ => Int.le_refl _) hj hf hr
/-- What has the root set holds. -/
theorem setRoot_inv {F F' : Fo} {root leaf r : Int} {p : Nat} (h : Inv F z0 (kI leaf)) (hr : RootOK F root) (hl : LeafOK F leaf) (hp : p < 4) (hs : setRootF F root p leaf = some (r, F')) : Inv F' z0 z0 := by
  have k4 := kids4 h hr
  have hko := kidsOK h hr hl (p := p)
  unfold setRootF at hs
  by_cases hn : noK (withK (kidsF F root) p leaf) = true
  · rw [if_pos hn] at hs
    cases hs
    have := noK_leaf k4 hp hn
    subst this
    exact h.kI_m.lessRoot hr
  · rw [if_neg hn] at hs
    replace hn := eq_false_of_ne_true hn
    by_cases ha : aloneF F root = true
    · rw [if_pos ha] at hs
      cases hs
      rcases hr with rfl | ⟨j, hj, rfl, hf, hr⟩
      · cases ha
      · rw [aloneF_n hj, beq_iff_eq] at ha
        have hk4 := (h.n4 _ (List.getElem_mem hj) hr).1
        rw [kidsF_n hj] at hn ⊢
        rw [Int.toNat_natCast, kidOf_n hj (by omega)]
        have h1 := h.setR hj hf hr ha hl hp hn (by omega)
        refine h1.lessK0 (LeafOK.set ?_ hj hf _ _)
        exact h.kr _ (List.getElem_mem hj) hf _ (List.getElem_mem _)
    · rw [if_neg ha] at hs
      obtain ⟨⟨m, F1⟩, h1, h2⟩ := Option.map_eq_some_iff.1 hs
      cases h2
      obtain ⟨i1, i2⟩ := freshR_inv h (withK_len k4) (noK_has hn (fun k hk => (hko k hk).ge)) hko (fun i => withK_count leaf k4 hp i) h1
      exact i1.lessRoot (i2.root (fun x hx => (h.nr x hx).1) hr)
end Go.Proofs.Ytmcljallamhccaa.V
