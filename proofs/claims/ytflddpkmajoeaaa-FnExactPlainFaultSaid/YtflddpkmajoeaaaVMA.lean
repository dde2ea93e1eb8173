/- append: what the machine makes, the program's append makes: a new block, or the old one with more in it. -/
import Derived.Test.YtflddpkmajoeaaaVMO
namespace Go.Proofs.Ytflddpkmajoeaaa.V
open Go
set_option linter.unusedVariables false
set_option linter.unusedSimpArgs false
section
variable {P : Program}
theorem run_append_zero (w : World) (t ty e : TypeId) (i : TypeInfo) (ht : P.underlying t = some (.slice e)) (hi : P.info? e = some i) (base : Option Addr) (n c : Nat) (hnc : n ≤ c) (y : Option Addr) (cy : Nat) :
    (Builtin.append_ #[t, t] ty #[.slice base n c, .slice y 0 cy]).run P w = .ok (.slice base n c) w := by
  cases base <;> cases y <;> simp [Builtin.append_, run_underlying ht, sizeOf, typeInfo, hi, Builtin.lenOf, hnc, Builtin.firstCells, storeCells, loadCells, loadCellsFrom]
theorem run_append_room' (w : World) (t ty e e0 : TypeId) (i : TypeInfo) (ht : P.underlying t = some (.slice e)) (hi : P.info? e = some i)
    (g sLen sCap : Nat) (cur : Array Value) (hg : w.heap[g]? = some (.cells cur e0 (0, 0)))
    (a : Addr) (m c : Nat) (news : List Value) (hl : news.length = m * i.size) (hnews : ∀ (j : Nat) u, news[j]? = some u → w.cell? (a.add j) = some u) (h1 : ∀ u ∈ news, u.oneCell' = true)
    (hroom : sLen + m ≤ sCap) (hfit : sLen * i.size + news.length ≤ cur.size) :
    (Builtin.append_ #[t, t] ty #[.slice (some ⟨g, 0, none⟩) sLen sCap, .slice (some a) m c]).run P w =
      .ok (.slice (some ⟨g, 0, none⟩) (sLen + m) sCap) (w.setRow g (cur.toList.take (sLen * i.size) ++ news ++ cur.toList.drop (sLen * i.size + news.length)).toArray) := by
  have hf := run_firstCells_some (P := P) w i.size m a m c news hl hnews
  have hst := run_storeCells_at P g (sLen * i.size) e0 news 0 cur w hg (by simpa using hfit) h1
  simp only [Nat.add_zero] at hst
  simp [Builtin.append_, run_underlying ht, sizeOf, typeInfo, hi, Builtin.lenOf, hroom, hf, Addr.add_lit, hst]
theorem le_max {n : Nat} (h : n ≤ maxLen) : (n : Int) ≤ 9223372036854775807 := by simp only [maxLen] at h; omega
theorem fits_ok {n by_ : Nat} (h : fits n by_ = true) : n ≤ maxLen ∧ (n + n / 4 + 192) * by_ ≤ 281474976710656 := by
  simpa [fits] using h
theorem grown_size {z : Array Value} {st n k : Nat} (hz : z.size = st) (hk : n ≤ k) : n * st + (Builtin.zeroCells z (k - n)).size = k * st := by
  rw [size_zeroCells, hz, ← Nat.add_mul]; congr 1; omega

theorem append_ok {μ : Mu} {H : Hp} {w : World} (hs : Sim μ H w) {t ty e : TypeId} {i : TypeInfo} {z : Value} (ht : P.underlying t = some (.slice e)) (hi : P.info? e = some i) (hz : i.zero = some z) (hzs : z.cells.size = i.size)
    {x y rx ry v : Value} {H' : Hp} {lo : Nat} (hx : R2 μ x rx) (hy : R2 μ y ry) (hv : vappend i.size i.bytes lo H x y = some (v, H')) :
    ∃ r w' μ', (Builtin.append_ #[t, t] ty #[rx, ry]).run P w = .ok r w' ∧ R2 μ' v r ∧ Sim μ' H' w' ∧ Stp lo μ H w μ' H' w' := by
  unfold vappend at hv
  simp only [Option.bind_eq_some_iff] at hv
  obtain ⟨m, hm, new, hnew, hv⟩ := hv
  -- the source
  obtain ⟨ay, cy, rfl, hsrc⟩ : ∃ (ay : Option Addr) (cy : Nat), ry = .slice ay m cy ∧ (0 < m → ∃ b, ay = some b ∧ ∃ rs : List Value, rs.length = m * i.size ∧ L2 (RC μ) new rs ∧ ∀ (j : Nat) u, rs[j]? = some u → w.cell? (b.add j) = some u) := by
    cases y <;> simp only [slen] at hm <;> try (cases hm; done)
    rename_i ya yn yc
    cases hm
    cases ya with
    | none =>
      obtain ⟨rfl, rfl⟩ := hy
      exact ⟨none, 0, rfl, fun h => absurd h (by omega)⟩
    | some b =>
      obtain ⟨_, mm, hmm, hst, a', c, rfl, _, _, _, h2⟩ := hy
      refine ⟨some a', c, rfl, fun h => ⟨a', rfl, ?_⟩⟩
      simp only [scells] at hnew
      split at hnew
      · obtain ⟨rs, hl, hrel, hr⟩ := hs.rdN hnew hmm
        exact ⟨rs, hl, hrel, by rw [h2 h]; exact hr⟩
      · cases hnew
  have key : ∀ (H1 : Hp) (rs : List Value) (n : Nat) (olds vs : List Value) (cap0 : Nat), Sim μ H1 w → H1.length = H.length → Stp lo μ H w μ H1 w → olds.length = n * i.size → rs.length = m * i.size → L2 (RC μ) vs (olds ++ rs) → n + m ≤ maxLen →
      ∃ μ', R2 μ' (.slice (some ⟨H.length, 0, none⟩) (n + m) i.size) (.slice (some ⟨w.heap.size, 0, none⟩) (n + m) (grownCap w (n + m) cap0 e)) ∧
        Sim μ' (H1 ++ [some ⟨vs, true, false⟩]) (w.drew.alloc (.cells (olds.toArray ++ rs.toArray ++ Builtin.zeroCells z.cells (grownCap w (n + m) cap0 e - (n + m))) e)) ∧
        Stp lo μ H w μ' (H1 ++ [some ⟨vs, true, false⟩]) (w.drew.alloc (.cells (olds.toArray ++ rs.toArray ++ Builtin.zeroCells z.cells (grownCap w (n + m) cap0 e - (n + m))) e)) := by
    intro H1 rs n olds vs cap0 hs1 hlen hstp hlo hlr hrel hmax
    have hge := grownCap_ge w (n + m) cap0 e
    have hal := (Sim.drew (w := w) (w' := w.drew) rfl hs1).alloc (vs := vs) (C := olds.toArray ++ rs.toArray ++ Builtin.zeroCells z.cells (grownCap w (n + m) cap0 e - (n + m))) (e := e) (k := grownCap w (n + m) cap0 e) (s := i.size) (k0 := false)
      (fun j c hc => by
        obtain ⟨r, hr, hrc⟩ := hrel.get hc
        have hj := (List.getElem?_eq_some_iff.1 hr).1
        refine ⟨r, ?_, hrc⟩
        rw [← Array.getElem?_toList]
        simp only [Array.toList_append]
        rw [List.getElem?_append_left (by simpa using hj)]
        exact hr) (by simp)
      (by
        simp only [Array.size_append, List.size_toArray, hlo, hlr, ← Nat.add_mul]
        exact grown_size hzs hge) (grownCap_le_maxLen w (n + m) cap0 e hmax) lo
    refine ⟨_, ?_, hal.1, hstp.trans ((Stp.drew (w := w) (w' := w.drew) rfl rfl rfl rfl).trans hal.2)⟩
    exact R2.of_RC ⟨rfl, _, by rw [← hlen]; exact upd_same _ _ _, rfl, _, _, rfl, fun _ => rfl, hge, fun _ => ⟨rfl, rfl⟩, fun _ => rfl⟩
  cases x <;> try (cases hv; done)
  rename_i xa xn xc
  cases xa with
  | none =>
    obtain ⟨rfl, rfl⟩ := hx
    simp only [if_true] at hv
    split at hv
    · rename_i hm0; subst hm0
      cases hv
      exact ⟨_, w, μ, run_append_zero w t ty e i ht hi none 0 0 (Nat.le_refl _) ay cy, R2.of_RC ⟨rfl, rfl⟩, hs, Stp.refl _ _ _ _⟩
    · rename_i hm0
      split at hv
      · rename_i hf
        cases hv
        obtain ⟨hf1, hf2⟩ := fits_ok hf
        obtain ⟨b, rfl, rs, hlr, hrel, hr⟩ := hsrc (by omega)
        have hrun := run_append_nil (P := P) w t ty e i z ht hi hz b m cy rs hlr hr (by omega) (by simp only [maxLen] at hf1; omega) (Nat.le_trans (Nat.mul_le_mul_right _ (by omega)) hf2)
        obtain ⟨μ', h1, h2, h3⟩ := key H rs 0 [] new 0 hs rfl (Stp.refl _ _ _ _) (by simp) hlr (by simpa using hrel) (by omega)
        simp only [Nat.zero_add, Array.empty_append, List.nil_append] at h1 h2 h3
        exact ⟨_, _, μ', hrun, h1, h2, h3⟩
      · cases hv
  | some a =>
    obtain ⟨hsp, mm, hmm, hst, a', c, rfl, hsp', hnc, h0, hpos⟩ := hx
    simp only [Option.bind_eq_some_iff] at hv
    obtain ⟨b, hb, hv⟩ := hv
    split at hv
    · rename_i hcond
      obtain ⟨rfl, hoff, _, hbl, hk, hf⟩ := hcond
      obtain ⟨rfl, rfl⟩ := h0 hoff
      obtain ⟨hf1, hf2⟩ := fits_ok hf
      have hb' := blk_some hb
      obtain ⟨mm', hmm', hok⟩ := hs.blk _ _ hb'
      rw [hmm] at hmm'; cases hmm'
      split at hv
      · rename_i hm0; subst hm0
        cases hv
        exact ⟨_, w, μ, run_append_zero w t ty e i ht hi _ _ _ hnc ay cy, R2.of_RC ⟨hsp, mm, hmm, hst, _, _, rfl, fun _ => rfl, hnc, h0, hpos⟩, hs, Stp.refl _ _ _ _⟩
      · rename_i hm0
        obtain ⟨b2, rfl, rs, hlr, hrel, hr⟩ := hsrc (by omega)
        split at hv
        · rename_i hn0; subst hn0
          cases hv
          rw [Blk.app, if_pos rfl] at hk
          have hk0 := hok.k0 hk
          have g1 : mm.k < 0 + m := by rw [hk0, Nat.zero_add]; exact Nat.pos_of_ne_zero hm0
          have g2 : ((0 + m : Nat) : Int) ≤ 9223372036854775807 := le_max hf1
          have hrun := run_append_grow (P := P) w t ty e i z ht hi hz ⟨mm.b, mm.o, none⟩ 0 mm.k [] (by simp) (by simp) b2 m cy rs hlr hr g1 g2 (growslice_fits_wide g1 hf2)
          obtain ⟨μ', h1, h2, h3⟩ := key H rs 0 [] new mm.k hs rfl (Stp.refl _ _ _ _) (by simp) hlr (by simpa using hrel) hf1
          simp only [Nat.zero_add] at h1 hrun h2 h3
          exact ⟨_, _, μ', hrun, h1, h2, h3⟩
        · rename_i hn0
          rw [Blk.app, if_neg hn0] at hk
          split at hv
          · rename_i hlo
            cases hv
            obtain ⟨C, e0, hg, ho, hsz, hml⟩ := hok.rw hk
            rw [ho]
            have hcl : ∀ (j : Nat) c, b.cs[j]? = some c → ∃ r, C[j]? = some r ∧ RC μ c r := fun j c hc => by
              obtain ⟨r, hr1, hr2⟩ := hok.cells j c hc
              rw [ho, Nat.zero_add, cell_of_row w mm.b j C e0 (0, 0) hg] at hr1
              exact ⟨r, hr1, hr2⟩
            rw [hst] at hsz
            have hle : xn * i.size ≤ C.size := by rw [hsz]; exact Nat.mul_le_mul_right _ hnc
            have hold : L2 (RC μ) b.cs (C.toList.take (xn * i.size)) := L2.of_get (by simp [hbl]; omega) fun j x y hx hy => by
              obtain ⟨r, hr1, hr2⟩ := hcl j x hx
              rw [List.getElem?_take] at hy
              split at hy
              · rw [Array.getElem?_toList, hr1] at hy; cases hy; exact hr2
              · cases hy
            by_cases hroom : xn + m ≤ mm.k
            · have hfit : xn * i.size + rs.length ≤ C.size := by rw [hlr, hsz, ← Nat.add_mul]; exact Nat.mul_le_mul_right _ hroom
              have hrun := run_append_room' (P := P) w t ty e e0 i ht hi mm.b xn mm.k C hg b2 m cy rs hlr hr (hrel.all (p := fun v => v.oneCell' = true) fun _ _ h => (RC.one h).1) hroom hfit
              have h1 := hs.setRow hb' hk hmm hg (cs' := b.cs ++ new) (C' := (C.toList.take (xn * i.size) ++ rs ++ C.toList.drop (xn * i.size + rs.length)).toArray) (by simp; omega) (fun j c hc => by
                obtain ⟨r, hr1, hr2⟩ := (hold.append hrel).get hc
                have hj := (List.getElem?_eq_some_iff.1 hr1).1
                refine ⟨r, ?_, hr2⟩
                rw [List.getElem?_toArray, List.getElem?_append_left hj]
                exact hr1) hlo
              have hin : (H.set a.block (some ⟨b.cs ++ new, true, b.k0⟩))[a.block]? = some (some ⟨b.cs ++ new, true, b.k0⟩) := by
                rw [List.getElem?_set_self (List.getElem?_eq_some_iff.1 hb').1]
              have h2 := h1.1.move hin rfl hmm hlo
              simp only [List.set_set, List.length_set] at h2
              refine ⟨_, _, _, hrun, R2.of_RC ⟨rfl, mm, upd_same _ _ _, hst, _, _, rfl, fun _ => rfl, hroom, fun _ => ⟨by rw [ho], rfl⟩, fun _ => by simp [ho]⟩, h2.1, h1.2.trans h2.2⟩
            · have g1 : mm.k < xn + m := Nat.lt_of_not_le hroom
              have g2 : ((xn + m : Nat) : Int) ≤ 9223372036854775807 := le_max hf1
              have g3 : (C.toList.take (xn * i.size)).length = xn * i.size := by rw [List.length_take, Array.length_toList]; exact Nat.min_eq_left hle
              have hrun := run_append_grow (P := P) w t ty e i z ht hi hz ⟨mm.b, 0, none⟩ xn mm.k (C.toList.take (xn * i.size)) g3 (fun j u hu => by
                rw [addr_add, Nat.zero_add, cell_of_row w mm.b j C e0 (0, 0) hg]
                rw [List.getElem?_take] at hu
                split at hu
                · simpa using hu
                · cases hu) b2 m cy rs hlr hr g1 g2 (growslice_fits_wide g1 hf2)
              have h1 := hs.kill a.block hlo
              obtain ⟨μ', h2, h3, h4⟩ := key (H.set a.block none) rs xn (C.toList.take (xn * i.size)) (b.cs ++ new) mm.k h1.1 (by simp) h1.2 g3 hlr (hold.append hrel) hf1
              exact ⟨_, _, μ', hrun, h2, h3, h4⟩
          · cases hv
    · cases hv
end
end Go.Proofs.Ytflddpkmajoeaaa.V
