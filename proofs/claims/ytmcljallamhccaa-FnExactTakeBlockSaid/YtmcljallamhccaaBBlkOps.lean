/- Taking, sharing and dropping a block, and counting the free ones: the program's answers and the reference's are one. -/
import Derived.Test.YtmcljallamhccaaPBx6
import Derived.Test.YtmcljallamhccaaPBx6
import Derived.Test.YtmcljallamhccaaPBx4
import Derived.Test.YtmcljallamhccaaPBx4
import Derived.Test.YtmcljallamhccaaPBx5
import Derived.Test.YtmcljallamhccaaPBx5
import Derived.Test.YtmcljallamhccaaPBx3
import Derived.Test.YtmcljallamhccaaPBx2
import Derived.Test.YtmcljallamhccaaBBlk
namespace Go.Proofs.Ytmcljallamhccaa.BlkB
open Go.RowKit Go.Proofs.Ytmcljallamhccaa.PB Go.Proofs.YtmcljallamhccaaW.PrintWords Go.Proofs.Ytmcljallamhccaa.Lem Go.Proofs.Ytmcljallamhccaa.SmallB
set_option linter.unusedVariables false
set_option linter.unusedSimpArgs false

theorem clone_eq (l : List B) (h : l.length < 8796093022208) : slices_Clone_impl_Block.f l = some l := by
  unfold slices_Clone_impl_Block.f
  simp only [Option.bind_some, List.length_nil, Nat.zero_add, if_pos h, List.nil_append]
theorem bfL_mem : ∀ {l : List B}, bfL l = 0 → ∀ b ∈ l, 0 ≤ b.f0 ∧ b.f0 ≤ 200 ∧ 0 ≤ b.f1 ∧ b.f1 ≤ 255 ∧ (b.f0 = 0 → b.f1 = 0)
  | b :: r, h, b', hb => by
    simp only [bfL] at h
    by_cases h1 : (inB b.f0 0 200 && inB b.f1 0 255) = true
    · rw [if_pos h1] at h
      simp only [Bool.and_eq_true, inB_iff] at h1
      by_cases h2 : b.f0 = 0
      · rw [if_pos h2] at h
        by_cases h3 : b.f1 = 0
        · rw [if_pos h3] at h
          rcases List.mem_cons.1 hb with rfl | hb
          · exact ⟨by omega, by omega, by omega, by omega, fun _ => h3⟩
          · exact bfL_mem h b' hb
        · rw [if_neg h3] at h; omega
      · rw [if_neg h2] at h
        rcases List.mem_cons.1 hb with rfl | hb
        · exact ⟨by omega, by omega, by omega, by omega, fun e => absurd e h2⟩
        · exact bfL_mem h b' hb
    · rw [if_neg h1] at h; omega
theorem bf_mem {l : List B} (h : bf l = 0) : l.length ≤ 24 ∧ bfL l = 0 ∧ ∀ b ∈ l, 0 ≤ b.f0 ∧ b.f0 ≤ 200 ∧ 0 ≤ b.f1 ∧ b.f1 ≤ 255 ∧ (b.f0 = 0 → b.f1 = 0) := by
  unfold bf at h
  by_cases h1 : (l.length : Int) > 24
  · rw [if_pos h1] at h; omega
  · rw [if_neg h1] at h; exact ⟨by omega, h, bfL_mem h⟩
def ffI : List B → Nat → Int
  | [], _ => -1
  | b :: r, i => if b.f0 = 0 then (i : Int) else ffI r (i + 1)
theorem ffI_range : ∀ (l : List B) (i : Nat), ffI l i = -1 ∨ ((i : Int) ≤ ffI l i ∧ ffI l i < i + l.length)
  | [], i => .inl rfl
  | b :: r, i => by
    simp only [ffI]
    by_cases h : b.f0 = 0
    · rw [if_pos h]; right; simp only [List.length_cons]; omega
    · rw [if_neg h]
      rcases ffI_range r (i + 1) with h1 | h1
      · exact .inl h1
      · right; simp only [List.length_cons]; omega
theorem free_loop (l : List B) (hl : l.length ≤ 140737488351232) : ∀ (d i : Nat), l.length - i = d → i ≤ l.length → Ev (fun k => spec_l3Free.l0 k l (i : Int)) (ffI (l.drop i) i) := by
  intro d
  induction d with
  | zero =>
    intro i hd hi
    refine ev_succ ?_
    simp only [spec_l3Free.l0]
    simp only [if_neg (show ¬ (i : Int) < (l.length : Int) by omega)]
    exact ev_now (by rw [List.drop_of_length_le (by omega)]; rfl)
  | succ d ih =>
    intro i hd hi
    have hlt : i < l.length := by omega
    rw [List.drop_eq_getElem_cons hlt]
    refine ev_succ ?_
    simp only [spec_l3Free.l0, rdB hlt, ffI]
    simp only [if_pos (show (i : Int) < (l.length : Int) by omega), if_pos (show 0 ≤ (i : Int) by omega), wrap_succ hlt hl]
    by_cases h : l[i].f0 = 0
    · simp only [if_pos h]; exact ev_now rfl
    · simp only [if_neg h]; exact ih (i + 1) (by omega) (by omega)
theorem idx_loop (l : List B) (hl : l.length ≤ 140737488351232) : ∀ (d i : Nat), l.length - i = d → i ≤ l.length → Ev (fun k => slices_IndexFunc_impl_Block__impl_take_1.l0 k l (l.length : Int) (i : Int)) (ffI (l.drop i) i) := by
  intro d
  induction d with
  | zero =>
    intro i hd hi
    refine ev_succ ?_
    simp only [slices_IndexFunc_impl_Block__impl_take_1.l0]
    simp only [if_neg (show ¬ (i : Int) < (l.length : Int) by omega)]
    exact ev_now (by rw [List.drop_of_length_le (by omega)]; rfl)
  | succ d ih =>
    intro i hd hi
    have hlt : i < l.length := by omega
    rw [List.drop_eq_getElem_cons hlt]
    refine ev_succ ?_
    simp only [slices_IndexFunc_impl_Block__impl_take_1.l0, impl_take_1.f, rdB hlt, ffI, Option.bind_some]
    simp only [if_pos (show (i : Int) < (l.length : Int) by omega), if_pos (show 0 ≤ (i : Int) by omega), wrap_succ hlt hl]
    by_cases h : l[i].f0 = 0
    · simp only [if_pos h, beq_iff_eq]; exact ev_now rfl
    · simp only [if_neg h, beq_iff_eq]; exact ih (i + 1) (by omega) (by omega)
theorem take_ev (l : List B) (a : Int) (hl : l.length < 8796093022208) : Ev (fun k => impl_take.f k l a) (if ffI l 0 < 0 then (0, 8, l) else (ffI l 0, 0, l.set (ffI l 0).toNat ⟨1, a⟩)) := by
  unfold impl_take.f slices_IndexFunc_impl_Block__impl_take_1.f
  refine ev_bind (idx_loop l (by omega) l.length 0 (by omega) (by omega)) ?_
  rw [List.drop_zero]
  have hr := ffI_range l 0
  by_cases h : ffI l 0 < 0
  · simp only [if_pos h]; exact ev_now rfl
  · simp only [if_neg h, if_pos (show 0 ≤ ffI l 0 by omega), if_pos (show ffI l 0 < (l.length : Int) by omega)]; exact ev_now rfl
theorem free_ev (l : List B) (hl : l.length < 8796093022208) : Ev (fun k => spec_l3Free.f k l) (ffI l 0) := by
  unfold spec_l3Free.f
  exact free_loop l (by omega) l.length 0 (by omega) (by omega)
def takeR (l : List B) (a : Int) : Int × Int × List B := if bf l = 0 then (if inB a 0 255 = true then (if ffI l 0 < 0 then (8, 0, []) else (0, ffI l 0, l.set (ffI l 0).toNat ⟨1, a⟩)) else (3, 0, [])) else (bf l, 0, [])
theorem take_spec (l : List B) (a : Int) (hl : l.length ≤ 1048576) : Ev (fun k => spec_TakeBlock.f k l a) (takeR l a) := by
  unfold spec_TakeBlock.f takeR
  refine ev_bind (spec_ev l (by omega)) ?_
  by_cases h0 : bf l = 0
  · simp only [if_pos h0, l3Data_eq, Option.bind_some]
    by_cases h1 : inB a 0 255 = true
    · simp only [if_pos h1]
      refine ev_bind (free_ev l (by omega)) ?_
      have hr := ffI_range l 0
      by_cases h : ffI l 0 < 0
      · simp only [if_pos h, spec_l3Bad.f, Option.bind_some]; exact ev_now rfl
      · simp only [if_neg h, List.nil_append, List.length_nil, Nat.zero_add, if_pos (show l.length < 8796093022208 by omega), if_pos (show 0 ≤ ffI l 0 by omega), if_pos (show ffI l 0 < (l.length : Int) by omega)]; exact ev_now rfl
    · simp only [if_neg h1, spec_l3Bad.f, Option.bind_some]; exact ev_now rfl
  · simp only [if_neg h0, spec_l3Bad.f, Option.bind_some]; exact ev_now rfl
theorem take_impl (l : List B) (a : Int) (hl : l.length ≤ 1048576) : Ev (fun k => impl_TakeBlock.f k l a) (takeR l a) := by
  unfold impl_TakeBlock.f takeR
  refine ev_bind (impl_ev l (by omega)) ?_
  by_cases h0 : bf l = 0
  · simp only [if_pos h0, isByte_eq, Option.bind_some]
    by_cases h1 : inB a 0 255 = true
    · simp only [if_pos h1, clone_eq l (by omega), Option.bind_some]
      refine ev_bind (take_ev l a (by omega)) ?_
      by_cases h : ffI l 0 < 0
      · simp only [if_pos h, show ¬ ((8 : Int) = 0) by decide, if_false]; exact ev_now rfl
      · simp only [if_neg h, if_true]; exact ev_now rfl
    · simp only [if_neg h1]; exact ev_now rfl
  · simp only [if_neg h0]; exact ev_now rfl
theorem takeR_length (l : List B) (a : Int) (hl : l.length ≤ 1048576) : (takeR l a).2.2.length ≤ 1048576 := by
  unfold takeR
  split
  · split
    · split
      · simp
      · simp only [List.length_set]; exact hl
    · simp
  · simp

def askR (l : List B) (a : Int) : Int := if bf l = 0 then (if inB a 0 ((l.length : Int) - 1) = true then (if (rd_T46 l a).f0 = 0 then 4 else 0) else 3) else bf l
theorem rd_mem {l : List B} {a : Int} (h0 : 0 ≤ a) (h : a < l.length) : rd_T46 l a ∈ l := by
  have h' : a.toNat < l.length := by omega
  show l.getD a.toNat _ ∈ l
  rw [List.getD_eq_getElem?_getD, List.getElem?_eq_getElem h']
  exact List.getElem_mem h'
theorem ask_ev (l : List B) (a : Int) (hl : l.length ≤ 1048576) : Ev (fun k => spec_l3Asked.f k l a) (askR l a) := by
  unfold spec_l3Asked.f askR
  refine ev_bind (spec_ev l (by omega)) ?_
  by_cases h0 : bf l = 0
  · simp only [if_pos h0, l1In_eq, Option.bind_some, wrap_id (show -9223372036854775808 ≤ (l.length : Int) - 1 by omega) (by omega)]
    by_cases h1 : inB a 0 ((l.length : Int) - 1) = true
    · have h2 := inB_iff.1 h1
      simp only [if_pos h1, if_pos h2.1, if_pos (show a < (l.length : Int) by omega)]
      by_cases h : (rd_T46 l a).f0 = 0
      · simp only [if_pos h]; exact ev_now rfl
      · simp only [if_neg h]; exact ev_now rfl
    · simp only [if_neg h1]; exact ev_now rfl
  · simp only [if_neg h0]; exact ev_now rfl
def shareR (l : List B) (a : Int) : Int × Int × List B := if askR l a = 0 then (if (rd_T46 l a).f0 ≥ 200 then (2, 0, []) else (0, a, l.set a.toNat ⟨(rd_T46 l a).f0 + 1, (rd_T46 l a).f1⟩)) else (askR l a, 0, [])
theorem askR_zero {l : List B} {a : Int} (h : askR l a = 0) : bf l = 0 ∧ 0 ≤ a ∧ a < l.length ∧ inB a 0 ((l.length : Int) - 1) = true ∧ (rd_T46 l a).f0 ≠ 0 ∧ 0 ≤ (rd_T46 l a).f0 ∧ (rd_T46 l a).f0 ≤ 200 := by
  unfold askR at h
  by_cases h0 : bf l = 0
  · rw [if_pos h0] at h
    by_cases h1 : inB a 0 ((l.length : Int) - 1) = true
    · rw [if_pos h1] at h
      have h2 := inB_iff.1 h1
      by_cases h3 : (rd_T46 l a).f0 = 0
      · rw [if_pos h3] at h; omega
      · have hm := (bf_mem h0).2.2 _ (rd_mem h2.1 (by omega))
        exact ⟨h0, h2.1, by omega, h1, h3, hm.1, hm.2.1⟩
    · rw [if_neg h1] at h; omega
  · rw [if_neg h0] at h; exact absurd h h0
theorem share_spec (l : List B) (a : Int) (hl : l.length ≤ 1048576) : Ev (fun k => spec_ShareBlock.f k l a) (shareR l a) := by
  unfold spec_ShareBlock.f shareR
  refine ev_bind (ask_ev l a hl) ?_
  by_cases h0 : askR l a = 0
  · obtain ⟨_, h1, h2, _, h3, h4, h5⟩ := askR_zero h0
    simp only [if_pos h0, if_pos h1, if_pos h2, Option.bind_some, List.nil_append, List.length_nil, Nat.zero_add, if_pos (show l.length < 8796093022208 by omega)]
    by_cases h6 : (rd_T46 l a).f0 ≥ 200
    · simp only [if_pos h6, spec_l3Bad.f, Option.bind_some]; exact ev_now rfl
    · simp only [if_neg h6, wrap_id (show -9223372036854775808 ≤ (rd_T46 l a).f0 + 1 by omega) (by omega)]; exact ev_now rfl
  · simp only [if_neg h0, spec_l3Bad.f, Option.bind_some]; exact ev_now rfl
theorem share_impl (l : List B) (a : Int) (hl : l.length ≤ 1048576) : Ev (fun k => impl_ShareBlock.f k l a) (shareR l a) := by
  unfold impl_ShareBlock.f impl_referred__impl_share.f
  refine ev_bind (a := shareR l a) ?_ (ev_now rfl)
  refine ev_bind (impl_ev l (by omega)) ?_
  unfold shareR
  by_cases h0 : bf l = 0
  · simp only [if_pos h0, within_eq, Option.bind_some, wrap_id (show -9223372036854775808 ≤ (l.length : Int) - 1 by omega) (by omega)]
    by_cases h1 : inB a 0 ((l.length : Int) - 1) = true
    · have h2 := inB_iff.1 h1
      simp only [if_pos h1, clone_eq l (by omega), Option.bind_some, impl_share.f, if_pos h2.1, if_pos (show a < (l.length : Int) by omega)]
      by_cases h3 : (rd_T46 l a).f0 = 0
      · have ha : askR l a = 4 := by unfold askR; rw [if_pos h0, if_pos h1, if_pos h3]
        simp only [if_pos h3, ha, Option.bind_some, show ¬ ((4 : Int) = 0) by decide, if_false]; exact ev_now rfl
      · have ha : askR l a = 0 := by unfold askR; rw [if_pos h0, if_pos h1, if_neg h3]
        obtain ⟨_, _, _, _, _, h4, h5⟩ := askR_zero ha
        simp only [if_neg h3, ha, if_true]
        by_cases h6 : (rd_T46 l a).f0 = 200
        · simp only [if_pos h6, if_pos (show (rd_T46 l a).f0 ≥ 200 by omega), Option.bind_some, show ¬ ((2 : Int) = 0) by decide, if_false]; exact ev_now rfl
        · simp only [if_neg h6, if_neg (show ¬ (rd_T46 l a).f0 ≥ 200 by omega), Option.bind_some, if_true, wrap_id (show -9223372036854775808 ≤ (rd_T46 l a).f0 + 1 by omega) (by omega)]; exact ev_now rfl
    · have ha : askR l a = 3 := by unfold askR; rw [if_pos h0, if_neg h1]
      simp only [if_neg h1, ha, show ¬ ((3 : Int) = 0) by decide, if_false]; exact ev_now rfl
  · have ha : askR l a = bf l := by unfold askR; rw [if_neg h0]
    simp only [if_neg h0, ha]; exact ev_now rfl
theorem shareR_length (l : List B) (a : Int) (hl : l.length ≤ 1048576) : (shareR l a).2.2.length ≤ 1048576 := by
  unfold shareR
  split
  · split
    · simp
    · simp only [List.length_set]; exact hl
  · simp
def dropB (b : B) : B := if b.f0 - 1 = 0 then ⟨b.f0 - 1, 0⟩ else ⟨b.f0 - 1, b.f1⟩
def dropR (l : List B) (a : Int) : Int × Int × List B := if askR l a = 0 then (0, a, l.set a.toNat (dropB (rd_T46 l a))) else (askR l a, 0, [])
theorem rd_set {l : List B} {a : Int} (h0 : 0 ≤ a) (h : a < l.length) (v : B) : rd_T46 (l.set a.toNat v) a = v := by
  have h' : a.toNat < l.length := by omega
  show (l.set a.toNat v).getD a.toNat _ = v
  rw [List.getD_eq_getElem?_getD, List.getElem?_set_self h']; rfl
theorem drop_spec (l : List B) (a : Int) (hl : l.length ≤ 1048576) : Ev (fun k => spec_DropBlock.f k l a) (dropR l a) := by
  unfold spec_DropBlock.f dropR
  refine ev_bind (ask_ev l a hl) ?_
  by_cases h0 : askR l a = 0
  · obtain ⟨_, h1, h2, _, h3, h4, h5⟩ := askR_zero h0
    simp only [if_pos h0, Option.bind_some, List.nil_append, List.length_nil, Nat.zero_add, if_pos (show l.length < 8796093022208 by omega), spec_l3Drop.f, if_pos h1, if_pos h2, rd_set (show 0 ≤ a by omega) (show a < (l.length : Int) by omega), List.set_set, wrap_id (show -9223372036854775808 ≤ (rd_T46 l a).f0 - 1 by omega) (by omega), dropB]
    by_cases h6 : (rd_T46 l a).f0 - 1 = 0
    · simp only [h6, if_true, Option.bind_some]; exact ev_now rfl
    · simp only [h6, if_false, Option.bind_some]; exact ev_now rfl
  · simp only [if_neg h0, spec_l3Bad.f, Option.bind_some]; exact ev_now rfl
theorem drop_impl (l : List B) (a : Int) (hl : l.length ≤ 1048576) : Ev (fun k => impl_DropBlock.f k l a) (dropR l a) := by
  unfold impl_DropBlock.f impl_referred__impl_drop.f
  refine ev_bind (a := dropR l a) ?_ (ev_now rfl)
  refine ev_bind (impl_ev l (by omega)) ?_
  unfold dropR
  by_cases h0 : bf l = 0
  · simp only [if_pos h0, within_eq, Option.bind_some, wrap_id (show -9223372036854775808 ≤ (l.length : Int) - 1 by omega) (by omega)]
    by_cases h1 : inB a 0 ((l.length : Int) - 1) = true
    · have h2 := inB_iff.1 h1
      simp only [if_pos h1, clone_eq l (by omega), Option.bind_some, impl_drop.f, if_pos h2.1, if_pos (show a < (l.length : Int) by omega)]
      by_cases h3 : (rd_T46 l a).f0 = 0
      · have ha : askR l a = 4 := by unfold askR; rw [if_pos h0, if_pos h1, if_pos h3]
        simp only [if_pos h3, ha, Option.bind_some, show ¬ ((4 : Int) = 0) by decide, if_false]; exact ev_now rfl
      · have ha : askR l a = 0 := by unfold askR; rw [if_pos h0, if_pos h1, if_neg h3]
        obtain ⟨_, _, _, _, _, h4, h5⟩ := askR_zero ha
        simp only [if_neg h3, ha, if_true, rd_set (show 0 ≤ a by omega) (show a < (l.length : Int) by omega), List.set_set, wrap_id (show -9223372036854775808 ≤ (rd_T46 l a).f0 - 1 by omega) (by omega), dropB]
        by_cases h6 : (rd_T46 l a).f0 - 1 = 0
        · simp only [h6, Option.bind_some, if_true]; exact ev_now rfl
        · simp only [h6, if_false, Option.bind_some, if_true]; exact ev_now rfl
    · have ha : askR l a = 3 := by unfold askR; rw [if_pos h0, if_neg h1]
      simp only [if_neg h1, ha, show ¬ ((3 : Int) = 0) by decide, if_false]; exact ev_now rfl
  · have ha : askR l a = bf l := by unfold askR; rw [if_neg h0]
    simp only [if_neg h0, ha]; exact ev_now rfl
theorem dropR_length (l : List B) (a : Int) (hl : l.length ≤ 1048576) : (dropR l a).2.2.length ≤ 1048576 := by
  unfold dropR
  split
  · simp only [List.length_set]; exact hl
  · simp
def cntF : List B → Int
  | [] => 0
  | b :: r => (if b.f0 = 0 then 1 else 0) + cntF r
theorem cntF_range : ∀ l : List B, 0 ≤ cntF l ∧ cntF l ≤ l.length
  | [] => ⟨Int.le_refl _, Int.le_refl _⟩
  | b :: r => by
    have := cntF_range r
    simp only [cntF, List.length_cons]
    split <;> omega
theorem count_loop (l : List B) (hl : l.length ≤ 1048576) : ∀ (d i : Nat) (c : Int), l.length - i = d → i ≤ l.length → 0 ≤ c → c ≤ i → Ev (fun k => spec_l3Count.l0 k l c (i : Int)) (c + cntF (l.drop i)) := by
  intro d
  induction d with
  | zero =>
    intro i c hd hi hc hc2
    refine ev_succ ?_
    simp only [spec_l3Count.l0]
    simp only [if_neg (show ¬ (i : Int) < (l.length : Int) by omega)]
    exact ev_now (by rw [List.drop_of_length_le (by omega)]; simp [cntF])
  | succ d ih =>
    intro i c hd hi hc hc2
    have hlt : i < l.length := by omega
    rw [List.drop_eq_getElem_cons hlt]
    refine ev_succ ?_
    simp only [spec_l3Count.l0, rdB hlt, cntF]
    simp only [if_pos (show (i : Int) < (l.length : Int) by omega), if_pos (show 0 ≤ (i : Int) by omega), wrap_succ hlt (by omega), wrap_id (show -9223372036854775808 ≤ c + 1 by omega) (by omega)]
    by_cases h : l[i].f0 = 0
    · simp only [if_pos h]; exact ev_eq (ih (i + 1) (c + 1) (by omega) (by omega) (by omega) (by omega)) (by omega)
    · simp only [if_neg h]; exact ev_eq (ih (i + 1) c (by omega) (by omega) (by omega) (by omega)) (by omega)
theorem fcount_loop (l : List B) (hl : l.length ≤ 1048576) : ∀ (d i : Nat) (c : Int), l.length - i = d → i ≤ l.length → 0 ≤ c → c ≤ i → Ev (fun k => impl_FreeOf.l0 k c l (l.length : Int) (i : Int)) (0, c + cntF (l.drop i)) := by
  intro d
  induction d with
  | zero =>
    intro i c hd hi hc hc2
    refine ev_succ ?_
    simp only [impl_FreeOf.l0]
    simp only [if_neg (show ¬ (i : Int) < (l.length : Int) by omega)]
    exact ev_now (by rw [List.drop_of_length_le (by omega)]; simp [cntF])
  | succ d ih =>
    intro i c hd hi hc hc2
    have hlt : i < l.length := by omega
    rw [List.drop_eq_getElem_cons hlt]
    refine ev_succ ?_
    simp only [impl_FreeOf.l0, rdB hlt, cntF]
    simp only [if_pos (show (i : Int) < (l.length : Int) by omega), if_pos (show 0 ≤ (i : Int) by omega), wrap_succ hlt (by omega), wrap_id (show -9223372036854775808 ≤ c + 1 by omega) (by omega)]
    by_cases h : l[i].f0 = 0
    · simp only [if_pos h]; exact ev_eq (ih (i + 1) (c + 1) (by omega) (by omega) (by omega) (by omega)) (by congr 1; omega)
    · simp only [if_neg h]; exact ev_eq (ih (i + 1) c (by omega) (by omega) (by omega) (by omega)) (by congr 1; omega)
def freeR (l : List B) : Int × Int := if bf l = 0 then (0, cntF l) else (bf l, 0)
theorem free_spec (l : List B) (hl : l.length ≤ 1048576) : Ev (fun k => spec_FreeOf.f k l) (freeR l) := by
  unfold spec_FreeOf.f freeR
  refine ev_bind (spec_ev l (by omega)) ?_
  by_cases h0 : bf l = 0
  · simp only [if_pos h0]
    unfold spec_l3Count.f
    refine ev_bind (count_loop l hl l.length 0 0 (by omega) (by omega) (by omega) (by omega)) (ev_now ?_)
    simp
  · simp only [if_neg h0]; exact ev_now rfl
theorem free_impl (l : List B) (hl : l.length ≤ 1048576) : Ev (fun k => impl_FreeOf.f k l) (freeR l) := by
  unfold impl_FreeOf.f freeR
  refine ev_bind (impl_ev l (by omega)) ?_
  by_cases h0 : bf l = 0
  · simp only [if_pos h0]
    exact ev_eq (fcount_loop l hl l.length 0 0 (by omega) (by omega) (by omega) (by omega)) (by simp)
  · simp only [if_neg h0]; exact ev_now rfl
end Go.Proofs.Ytmcljallamhccaa.BlkB
