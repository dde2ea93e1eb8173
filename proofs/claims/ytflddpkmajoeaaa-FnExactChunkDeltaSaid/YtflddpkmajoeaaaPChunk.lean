/- Some of a delta's words: both answers are one. -/
import Derived.Test.YtflddpkmajoeaaaPPx6
import Derived.Test.YtflddpkmajoeaaaPPx4
import Derived.Test.YtflddpkmajoeaaaPSmall
namespace Go.Proofs.Ytflddpkmajoeaaa.DiskP
open Go.RowKit Go.Proofs.Ytflddpkmajoeaaa.PP Go.Proofs.YtflddpkmajoeaaaW.PrintWords Go.Proofs.Ytflddpkmajoeaaa.Lem Go.Proofs.Ytflddpkmajoeaaa.SmallP
set_option linter.unusedVariables false
set_option linter.unusedSimpArgs false

theorem clone_ints (l : List Int) (h : l.length < 17592186044416) : slices_Clone_int64.f l = some l := by
  unfold slices_Clone_int64.f
  simp only [Option.bind_some, List.length_nil, Nat.zero_add, if_pos h, List.nil_append]
theorem chunk_both (l : List Int) (a n : Int) (h : l.length ≤ 1048576) : ∃ r : Int × List Int, spec_ChunkDelta.f l a n = some r ∧ impl_ChunkDelta.f l a n = some r ∧ r.2.length ≤ 1048576 := by
  by_cases c : (l.length : Int) > 300
  · exact ⟨(2, []), by unfold spec_ChunkDelta.f; rw [if_pos c], by unfold impl_ChunkDelta.f; rw [if_pos c], Nat.zero_le _⟩
  · cases h1 : inB a 0 (l.length : Int)
    · refine ⟨(3, []), ?_, ?_, Nat.zero_le _⟩
      · unfold spec_ChunkDelta.f; rw [if_neg c, l1In_eq, h1]; rfl
      · unfold impl_ChunkDelta.f; rw [if_neg c, within_eq, h1]; rfl
    · cases h2 : inB n 1 20
      · refine ⟨(3, []), ?_, ?_, Nat.zero_le _⟩
        · unfold spec_ChunkDelta.f; rw [if_neg c, l1In_eq, h1, l1In_eq, h2]; rfl
        · unfold impl_ChunkDelta.f; rw [if_neg c, within_eq, h1, within_eq, h2]; rfl
      · obtain ⟨a0, a1⟩ := inB_iff.1 h1
        obtain ⟨n0, n1⟩ := inB_iff.1 h2
        have hw : wrap64 (a + n) = a + n := wrap_id (by omega) (by omega)
        obtain ⟨t, ht, t0, t1, hs, hi⟩ : ∃ t : Int, t = (if (l.length : Int) < a + n then (l.length : Int) else a + n) ∧ a ≤ t ∧ t ≤ l.length ∧ spec_l1Min.f (l.length : Int) (a + n) = some t ∧ mn (a + n) (l.length : Int) = t := by
          refine ⟨_, rfl, ?_, ?_, ?_, ?_⟩
          · split <;> omega
          · split <;> omega
          · unfold spec_l1Min.f; split <;> rfl
          · unfold mn; split <;> rfl
        refine ⟨(0, (l.take t.toNat).drop a.toNat), ?_, ?_, ?_⟩
        · unfold spec_ChunkDelta.f
          rw [if_neg c, l1In_eq, h1, l1In_eq, h2]
          simp only [Option.bind_some, if_true, hw, hs, if_pos a0, if_pos t0, if_pos t1, List.nil_append, List.length_nil, Nat.zero_add]
          rw [if_pos (by rw [List.length_drop, List.length_take]; omega)]
        · unfold impl_ChunkDelta.f
          rw [if_neg c, within_eq, h1, within_eq, h2]
          simp only [Option.bind_some, if_true, hw, hi, if_pos a0, if_pos t0, if_pos t1]
          rw [clone_ints _ (by rw [List.length_drop, List.length_take]; omega)]
          rfl
        · show ((l.take t.toNat).drop a.toNat).length ≤ 1048576
          rw [List.length_drop, List.length_take]; omega
end Go.Proofs.Ytflddpkmajoeaaa.DiskP
