/- What is put behind a slice of own memory. -/
import Derived.Test.YtohanpndekfbgaaDoorVCE
namespace Go.Proofs.YtohanpndekfbgaaDoor.V
open Go
set_option linter.unusedVariables false
set_option linter.unusedSimpArgs false
set_option maxRecDepth 100000
/-- Old memory stays, though a new block dies. -/
theorem Fn.kill {H H1 : Hp} (hf : Fn H H1) {i : Nat} (hi : H.length ≤ i) (l : List (Option Blk)) : Fn H (H1.set i none ++ l) := by
  have key : ∀ j, j < H.length → Hp.blk (H1.set i none ++ l) j = H1.blk j := fun j hj => by
    have := hf.len
    unfold Hp.blk
    rw [List.getElem?_append_left (by simp; omega), List.getElem?_set, if_neg (by omega)]
  refine ⟨by have := hf.len; simp; omega, fun j hj _ => (key j hj).trans (hf.blk j hj id), fun lo j ⟨h1, b, h2, h3⟩ => ⟨h1, b, ?_, h3⟩⟩
  rw [key j (blk_lt h2), hf.blk j (blk_lt h2) id]; exact h2
theorem app_own {st by_ lo : Nat} {H : Hp} {i n m : Nat} {L M : List Value} {k0 : Bool} {y : Value} (hb : H.blk i = some ⟨L, true, k0⟩) (hL : L.length = n * st) (h0 : n = 0 → k0 = true) (hlo : lo ≤ i) (hm : slen y = some m) (hM : scells H st y = some M) (hm0 : 0 < m) (hfit : fits (n + m) by_ = true) :
    ∃ H', vappend st by_ lo H (.slice (some ⟨i, 0, none⟩) n st) y = some (.slice (some ⟨H.length, 0, none⟩) (n + m) st, H') ∧ H'.blk H.length = some ⟨L ++ M, true, false⟩ ∧ H'.length = H.length + 1 ∧ (∀ H0 : Hp, Fn H0 H → H0.length ≤ i → Fn H0 H') ∧ ∀ j, j ≠ i → j < H.length → H'.blk j = H.blk j := by
  have hi := blk_lt hb
  have happ : Blk.app ⟨L, true, k0⟩ n = true := by
    unfold Blk.app
    by_cases hn : n = 0
    · rw [if_pos hn]; exact h0 hn
    · rw [if_neg hn]
  by_cases hn : n = 0
  · subst hn
    have hL0 : L = [] := List.length_eq_zero_iff.1 (by rw [hL, Nat.zero_mul])
    subst hL0
    refine ⟨H ++ [some ⟨M, true, false⟩], ?_, by rw [blk0]; rfl, by simp, fun H0 hf _ => hf.trans Fr.app, fun j _ hj => blk_old hj⟩
    simp only [vappend, hm, hM, Option.bind_some, hb]
    rw [if_pos ⟨trivial, trivial, trivial, by simp, happ, hfit⟩, if_neg (by omega), if_true, Nat.zero_add]
  · refine ⟨H.set i none ++ [some ⟨L ++ M, true, false⟩], ?_, ?_, by simp, fun H0 hf h => Fn.kill hf h _, fun j hj hjl => ?_⟩
    · simp only [vappend, hm, hM, Option.bind_some, hb]
      rw [if_pos ⟨trivial, trivial, trivial, hL, happ, hfit⟩, if_neg (by omega), if_neg hn, if_pos hlo]
    · unfold Hp.blk
      rw [List.getElem?_append_right (by simp)]; simp
    · unfold Hp.blk
      rw [List.getElem?_append_left (by simp; exact hjl), List.getElem?_set, if_neg (fun e => hj e.symm)]

theorem fits_small {n b : Nat} (h : n ≤ 1000 ∧ b ≤ 40) : fits n b = true := by
  have h1 : (n + n / 4 + 192) * b ≤ 1442 * 40 := Nat.mul_le_mul (by omega) h.2
  unfold fits maxLen
  rw [Bool.and_eq_true, decide_eq_true_eq, decide_eq_true_eq]
  exact ⟨Nat.le_trans h.1 (by decide), Nat.le_trans h1 (by decide)⟩
/-! ### The walk over a tree -/
def walkF (F : Fo) (root : Int) (p : Nat) : List Int := if blkOf F root p = -1 then [] else [(p : Int), ((F.b[(blkOf F root p).toNat]?).map Bk.d).getD 0]
def walkL (F : Fo) (root : Int) (n : Nat) : List Int := (List.range n).flatMap (walkF F root)
theorem walkL_succ (F : Fo) (root : Int) (n : Nat) : walkL F root (n + 1) = walkL F root n ++ walkF F root n := by
  simp only [walkL, List.range_succ, List.flatMap_append, List.flatMap_cons, List.flatMap_nil, List.append_nil]
theorem walkL_len (F : Fo) (root : Int) : ∀ n, (walkL F root n).length ≤ 2 * n
  | 0 => by simp [walkL]
  | n + 1 => by
    rw [walkL_succ, List.length_append]
    have h1 := walkL_len F root n
    have h2 : (walkF F root n).length ≤ 2 := by unfold walkF; split <;> simp
    omega
theorem vI_app (a b : List Int) : vI a ++ vI b = vI (a ++ b) := by simp [vI]
theorem vI_len (a : List Int) : (vI a).length = a.length := by simp [vI]
/-- Numbers in own memory. -/
structure NI (lo : Nat) (H : Hp) (i : Nat) (l : List Int) : Prop where
  b : ∃ k0, H.blk i = some ⟨vI l, true, k0⟩ ∧ (l = [] → k0 = true)
  lo : lo ≤ i

end Go.Proofs.YtohanpndekfbgaaDoor.V
