/- Plain: what stays of a disk, what is put, what is new. -/
import Derived.Test.YtaahjfjpbilfnaaVQE
namespace Go.Proofs.Ytaahjfjpbilfnaa.V
open Go
set_option linter.unusedVariables false
set_option linter.unusedSimpArgs false
/-- What was picked of what was put. -/
def kp : List Bk → List Bool → List Bk
  | x :: p, b :: bs => if b then x :: kp p bs else kp p bs
  | [], _ => []
  | _ :: _, [] => []
theorem kp_nil (p : List Bk) : kp p [] = [] := by cases p <;> rfl
theorem kp_take : ∀ (p : List Bk) (bs : List Bool) (j : Nat) (hj : j < p.length), kp (p.take (j + 1)) bs = kp (p.take j) bs ++ (if bs[j]? = some true then [p[j]] else [])
  | x :: p, [], j, hj => by simp [kp_nil]
  | x :: p, b :: bs, 0, hj => by cases b <;> simp [kp]
  | x :: p, b :: bs, j + 1, hj => by
    have ih := kp_take p bs j (by simpa using hj)
    simp only [List.take_succ_cons, kp, ih, List.getElem?_cons_succ, List.getElem_cons_succ]
    cases b <;> simp
theorem kp_end : ∀ (p : List Bk) (bs : List Bool), kp (p.take bs.length) bs = kp p bs
  | [], bs => by simp [kp]
  | x :: p, [] => by simp [kp]
  | x :: p, b :: bs => by simp only [List.length_cons, List.take_succ_cons, kp, kp_end p bs]
theorem kp_mem : ∀ (p : List Bk) (bs : List Bool), ∀ x ∈ kp p bs, x ∈ p
  | [], bs, x, h => by simp [kp] at h
  | y :: p, [], x, h => by simp [kp] at h
  | y :: p, b :: bs, x, h => by
    simp only [kp] at h
    cases b
    · exact List.mem_cons_of_mem _ (kp_mem p bs x h)
    · simp only [if_true, List.mem_cons] at h
      rcases h with h | h
      · rw [h]; exact List.mem_cons_self
      · exact List.mem_cons_of_mem _ (kp_mem p bs x h)
theorem kp_len : ∀ (p : List Bk) (bs : List Bool), (kp p bs).length ≤ p.length
  | [], bs => by simp [kp]
  | y :: p, [] => by simp [kp]
  | y :: p, b :: bs => by
    have := kp_len p bs
    simp only [kp]
    cases b <;> simp <;> omega
theorem dF_all {D : Dk} (h : dF D = 0) : (∀ x ∈ D.w, wOK x = true) ∧ ∀ x ∈ D.p, pOK x = true := by
  have g := dF_zero h
  unfold dF at h
  rw [if_pos g.w, if_neg (by have := g.p; omega)] at h
  by_cases h3 : D.w.all wOK = true
  · rw [if_pos h3] at h
    by_cases h4 : D.p.all pOK = true
    · exact ⟨List.all_eq_true.1 h3, List.all_eq_true.1 h4⟩
    · rw [if_neg h4] at h; cases h
  · rw [if_neg h3] at h; cases h
theorem dF_of {D : Dk} (h1 : D.w.length = 64) (h2 : D.p.length ≤ 200) (h3 : ∀ x ∈ D.w, wOK x = true) (h4 : ∀ x ∈ D.p, pOK x = true) : dF D = 0 := by
  unfold dF
  rw [if_pos h1, if_neg (by omega), if_pos (List.all_eq_true.2 h3), if_pos (List.all_eq_true.2 h4)]
theorem pOK_w {x : Bk} (h : pOK x = true) : wOK x.d = true := by unfold pOK at h; simp only [Bool.and_eq_true] at h; exact h.2
theorem pOK_r {x : Bk} (h : pOK x = true) : 0 ≤ x.r ∧ x.r ≤ 63 := by unfold pOK at h; simp only [Bool.and_eq_true, decide_eq_true_eq] at h; exact h.1
theorem flP_ok : ∀ (p : List Bk) (w : List Int), (∀ x ∈ w, wOK x = true) → (∀ x ∈ p, pOK x = true) → ∀ x ∈ flP w p, wOK x = true
  | [], w, h, _, x, hx => h x hx
  | y :: p, w, h, h', x, hx => flP_ok p (w.set y.r.toNat y.d) (fun z hz => by
      rcases List.mem_or_eq_of_mem_set hz with e | e
      · exact h z e
      · rw [e]; exact pOK_w (h' y (by simp))) (fun z hz => h' z (by simp [hz])) x hx
theorem flP_snoc (w : List Int) (p : List Bk) (x : Bk) : flP w (p ++ [x]) = (flP w p).set x.r.toNat x.d := by simp [flP]
/-- What is left of a right disk is a right disk. -/
theorem dF_left {D : Dk} (h : dF D = 0) (bs : List Bool) : dF ⟨flP D.w (kp D.p bs), []⟩ = 0 := by
  have g := dF_zero h
  obtain ⟨h1, h2⟩ := dF_all h
  exact dF_of (by rw [flP_len]; exact g.w) (by simp) (flP_ok _ _ h1 fun x hx => h2 x (kp_mem _ _ x hx)) (by simp)
theorem dF_put {D : Dk} (h : dF D = 0) (hp : D.p.length < 200) {x : Bk} (hx : pOK x = true) : dF ⟨D.w, D.p ++ [x]⟩ = 0 := by
  have g := dF_zero h
  obtain ⟨h1, h2⟩ := dF_all h
  refine dF_of g.w (by simp; omega) h1 fun y hy => ?_
  rcases List.mem_append.1 hy with e | e
  · exact h2 y e
  · simp only [List.mem_singleton] at e; rw [e]; exact hx
theorem newDk_full {w : List Int} (h : w.length = 64) : newDk w = ⟨w, []⟩ := by simp [newDk, h]
theorem resND_full {D : Dk} (h : dF D = 0) : resND D.w = (0, ⟨D.w, []⟩) := by
  have g := dF_zero h
  have e := newDk_full g.w
  have h0 : dF (newDk D.w) = 0 := by rw [e]; exact dF_of g.w (by simp) (dF_all h).1 (by simp)
  unfold resND
  rw [if_pos h0, e]
/-- The word wanted at a place, one put more. -/
theorem want_hit {D : Dk} (g : DGood D) {bs : List Bool} {j : Nat} (hj : j < D.p.length) (hb : bs[j]? = some true) {k : Nat} (hk : k < 64) (he : D.p[j].r = (k : Int)) :
    ((flP D.w (kp (D.p.take (j + 1)) bs))[k]?).getD 0 = D.p[j].d := by
  have hl : (flP D.w (kp (D.p.take j) bs)).length = 64 := by rw [flP_len]; exact g.w
  rw [kp_take _ _ _ hj, if_pos hb, flP_snoc, he, Int.toNat_natCast, List.getElem?_set, if_pos rfl, if_pos (by omega)]; rfl
theorem want_miss {D : Dk} (g : DGood D) {bs : List Bool} {j : Nat} (hj : j < D.p.length) {k : Nat} (hk : k < 64) (he : ¬ (bs[j]? = some true ∧ D.p[j].r = (k : Int))) :
    ((flP D.w (kp (D.p.take (j + 1)) bs))[k]?).getD 0 = ((flP D.w (kp (D.p.take j) bs))[k]?).getD 0 := by
  rw [kp_take _ _ _ hj]
  by_cases hb : bs[j]? = some true
  · have := (g.a _ (List.getElem_mem hj)).1
    have hne : ¬ D.p[j].r = (k : Int) := fun e => he ⟨hb, e⟩
    rw [if_pos hb, flP_snoc, List.getElem?_set, if_neg (by omega)]
  · rw [if_neg hb, List.append_nil]
end Go.Proofs.Ytaahjfjpbilfnaa.V
