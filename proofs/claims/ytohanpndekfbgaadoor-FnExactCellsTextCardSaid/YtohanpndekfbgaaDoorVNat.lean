/- strconv.FormatInt at base 10 and strings.Join give what is told of them: the shelf's contracts, as the machine asks for them. -/
import Derived.Test.YtohanpndekfbgaaDoorVE
import Derived.Test.YtohanpndekfbgaaDoorShelf
import Derived.Lib.LaidTab
namespace Go.Proofs.YtohanpndekfbgaaDoor.V
open Go Go.RowKit
set_option linter.unusedVariables false
/-- The table that strconv reads, as it lies. -/
def tabArr : Array Value := (Lib.pow10Tab.map fun z => Value.int .u64 z).toArray
theorem tab_is {gi : Nat} {e : TypeId} {fl : Nat × Nat} {w : World} (hg : Tryd.prog.globalNamed "internal/strconv.uint64pow10" = some gi) (h : w.heap[gi]? = some (.cells tabArr e fl)) : Lib.TabIs Tryd.prog w "internal/strconv.uint64pow10" .u64 Lib.pow10Tab := by
  unfold Lib.TabIs World.var?
  rw [hg, Option.bind_some, h]; rfl
theorem strs_rel {μ : Mu} : ∀ {cs rs : List Value} {xs : List ByteArray}, strsOf cs = some xs → L2 (RC μ) cs rs → rs = xs.map Value.string
  | [], _, xs, h, hr => by
    simp only [strsOf, Option.some.injEq] at h
    subst h
    cases hr; rfl
  | c :: cs, _, xs, h, hr => by
    cases hr with
    | cons h1 h2 =>
      cases c <;> try (simp [strsOf] at h; done)
      rename_i s
      simp only [strsOf] at h
      obtain ⟨xs', h3, rfl⟩ := Option.map_eq_some_iff.1 h
      rw [strs_rel h3 h2]
      have : _ = Value.string s := h1
      rw [this]; rfl
theorem natOK {gi : Nat} {e : TypeId} {fl : Nat × Nat} (hg : Tryd.prog.globalNamed "internal/strconv.uint64pow10" = some gi) : NatOK [(gi, .cells tabArr e fl)] Tryd.prog nat := by
  intro f args H v hv μ w rargs ha hs
  unfold nat at hv
  split at hv
  · rename_i hf
    subst hf
    refine ⟨⟨_, Tryd.func38, by kernel_rfl, by kernel_rfl⟩, ?_⟩
    unfold natJoin at hv
    split at hv
    · rename_i a n s sep
      split at hv
      · rename_i hn
        simp only [Option.bind_eq_some_iff] at hv
        obtain ⟨cs, hcs, xs, hxs, hv⟩ := hv
        split at hv
        · rename_i hlen
          cases hv
          cases ha with
          | cons h1 h2 =>
            cases h2 with
            | cons h2 h3 =>
              cases h3
              obtain ⟨_, m, hm, hst, a', c, rfl, _, hc, _, hat⟩ := h1
              obtain rfl := hat hn.1
              have hsep : _ = Value.string sep := h2
              subst hsep
              simp only [scells] at hcs
              rw [if_neg (by omega)] at hcs
              split at hcs
              · obtain ⟨rs, hl, hrel, hrd⟩ := hs.rdN hcs hm
                have hrs := strs_rel hxs hrel
                have hxl : xs.length = n := by rw [hrs, List.length_map] at hl; omega
                subst hxl
                have hcell : ∀ (j : Nat) x, xs[j]? = some x → w.cell? ⟨m.b, m.o + a.off + j, none⟩ = some (.string x) := fun j x hx => by
                  have := hrd j (.string x) (by rw [hrs, List.getElem?_map, hx]; rfl)
                  unfold Addr.add at this
                  by_cases hj : j = 0
                  · subst hj; simpa using this
                  · rw [if_neg hj] at this; simpa using this
                have hb : m.b < w.heap.size := by
                  have h0 : 0 < xs.length := hn.1
                  exact World.block_lt_of_cell? w _ (hcell 0 _ (List.getElem?_eq_getElem h0))
                exact (Tryd.strings_Join m.b (m.o + a.off) c xs sep w hcell hb (by omega) hc (by omega)).mono fun e' w' ⟨he, hbel⟩ => ⟨_, he, rfl, hbel.block, hbel.os, hbel.tape, hbel.output, hbel.size⟩
              · cases hcs
        · cases hv
      · cases hv
    · cases hv
  · split at hv
    · rename_i _ hf
      subst hf
      refine ⟨⟨_, Tryd.func55, by kernel_rfl, by kernel_rfl⟩, ?_⟩
      unfold natInt at hv
      split at hv
      · rename_i n b
        split at hv
        · rename_i hb
          obtain ⟨rfl, h1, h2⟩ := hb
          cases hv
          cases ha with
          | cons r1 ha =>
            cases ha with
            | cons r2 ha =>
              cases ha
              have e1 : _ = Value.int .i64 n := r1
              have e2 : _ = Value.int .i64 10 := r2
              subst e1 e2
              refine (Tryd.strconv_FormatInt_10 n h1 h2 w (tab_is hg (hs.tab _ List.mem_cons_self).1)).mono fun e' w' ⟨he, k, os, hw⟩ => ?_
              subst hw
              have hbel : Below w.heap.size w (w.drewN k) := ⟨rfl, rfl, rfl, Nat.le_refl _, fun _ _ => rfl⟩
              refine ⟨_, he, rfl, fun b hb => ?_, hbel.os, hbel.tape, hbel.output, ?_⟩
              · show ((w.drewN k).heap ++ os)[b]? = w.heap[b]?
                rw [Array.getElem?_append_left (Nat.lt_of_lt_of_le hb hbel.size)]
                exact hbel.block b hb
              · show w.heap.size ≤ ((w.drewN k).heap ++ os).size
                rw [Array.size_append]
                exact Nat.le_trans hbel.size (Nat.le_add_right _ _)
        · cases hv
      · cases hv
    · cases hv
end Go.Proofs.YtohanpndekfbgaaDoor.V
