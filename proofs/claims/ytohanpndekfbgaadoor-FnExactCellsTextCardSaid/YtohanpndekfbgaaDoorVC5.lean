/- Several cells written at once; the laws' helpers that copy and that measure. -/
import Derived.Test.YtohanpndekfbgaaDoorVC4
namespace Go.Proofs.YtohanpndekfbgaaDoor.V
open Go
set_option linter.unusedVariables false
set_option linter.unusedSimpArgs false
set_option maxRecDepth 100000
theorem setAll_len : ∀ (vs cs : List Value) (o : Nat), (setAll cs o vs).length = cs.length
  | [], cs, o => rfl
  | v :: vs, cs, o => by simp only [setAll, setAll_len vs]; simp
theorem setAll_at : ∀ (vs cs : List Value) (o k : Nat), o + vs.length ≤ cs.length → (setAll cs o vs)[k]? = if o ≤ k ∧ k < o + vs.length then vs[k - o]? else cs[k]?
  | [], cs, o, k, h => by simp only [setAll, List.length_nil, Nat.add_zero]; rw [if_neg (by omega)]
  | v :: vs, cs, o, k, h => by
    simp only [setAll, List.length_cons] at h ⊢
    rw [setAll_at vs (cs.set o v) (o + 1) k (by simp; omega), List.getElem?_set]
    by_cases h1 : k = o
    · subst h1
      rw [if_neg (by omega), if_pos rfl, if_pos (by omega), if_pos (by omega)]
      simp
    · by_cases h2 : o + 1 ≤ k ∧ k < o + 1 + vs.length
      · rw [if_pos h2, if_pos (by omega)]
        obtain ⟨m, rfl⟩ : ∃ m, k = o + 1 + m := ⟨k - (o + 1), by omega⟩
        rw [show o + 1 + m - (o + 1) = m by omega, show o + 1 + m - o = m + 1 by omega]
        rfl
      · rw [if_neg h2, if_neg (fun e => h1 e.symm), if_neg (by omega)]
/-- Cells are written. -/
structure UpN (i o : Nat) (vs : List Value) (H H' : Hp) : Prop where
  len : H'.length = H.length
  at_ : ∀ k, k < vs.length → rd H' ⟨i, o + k, none⟩ = vs[k]?
  oth : ∀ i' o', ¬ (i' = i ∧ o ≤ o' ∧ o' < o + vs.length) → rd H' ⟨i', o', none⟩ = rd H ⟨i', o', none⟩
  blk : ∀ i', i' ≠ i → H'.blk i' = H.blk i'
  wb : ∀ lo i', WB lo H i' → WB lo H' i'
/-- How many cells a block has. -/
def Sz (H : Hp) (i n : Nat) : Prop := ∃ b, H.blk i = some b ∧ b.cs.length = n
theorem Sz.rd {H : Hp} {i n o : Nat} (h : Sz H i n) (ho : o < n) : ∃ v, rd H ⟨i, o, none⟩ = some v := by
  obtain ⟨b, hb, hl⟩ := h
  exact ⟨b.cs[o], by simp only [V.rd, hb, Option.bind_some]; exact getE (by omega)⟩
theorem upN {lo : Nat} {H : Hp} {i o n : Nat} (vs : List Value) (hw : WB lo H i) (hs : Sz H i n) (hn : o + vs.length ≤ n) : ∃ H', wrN lo H ⟨i, o, none⟩ vs = some H' ∧ UpN i o vs H H' ∧ Sz H' i n := by
  obtain ⟨hlo, b, hb, hrw⟩ := hw
  obtain ⟨b', hb', hl⟩ := hs
  rw [hb] at hb'; cases hb'
  have hi := blk_lt hb
  have hol : o + vs.length ≤ b.cs.length := by omega
  refine ⟨H.set i (some ⟨setAll b.cs o vs, true, b.k0⟩), ?_, ⟨?_, ?_, ?_, ?_, ?_⟩, ⟨_, by rw [blk_set hi, if_pos rfl], by simp only [setAll_len]; exact hl⟩⟩
  · simp only [wrN, hb, Option.bind_some]
    rw [if_pos ⟨hlo, hrw, hol⟩]
  · simp
  · intro k hk
    simp only [rd, blk_set hi, if_true, Option.bind_some]
    rw [setAll_at _ _ _ _ hol, if_pos (by omega), show o + k - o = k by omega]
  · intro i' o' hn
    simp only [rd, blk_set hi]
    by_cases h : i' = i
    · subst h
      rw [if_pos rfl, hb]; simp only [Option.bind_some]
      rw [setAll_at _ _ _ _ hol, if_neg (fun e => hn ⟨rfl, e⟩)]
    · rw [if_neg h]
  · intro i' h; rw [blk_set hi, if_neg h]
  · intro lo' i' ⟨h1, b', h2, h3⟩
    by_cases h : i' = i
    · subst h; exact ⟨h1, _, by rw [blk_set hi, if_pos rfl], rfl⟩
    · exact ⟨h1, b', by rw [blk_set hi, if_neg h, h2], h3⟩
theorem UpN.fr {i o : Nat} {vs : List Value} {H H' : Hp} (h : UpN i o vs H H') : Fr (· = i) H H' := ⟨Nat.le_of_eq h.len.symm, fun i' _ hs => h.blk i' hs, h.wb⟩
/-- What is old is as it was. -/
abbrev Fn (H H' : Hp) : Prop := Fr (fun _ => False) H H'
theorem Sz.fr {H H' : Hp} {i n : Nat} {S : Nat → Prop} (h : Sz H i n) (hf : Fr S H H') (hs : ¬ S i) : Sz H' i n := by
  obtain ⟨b, hb, hl⟩ := h
  exact ⟨b, (hf.blk i (blk_lt hb) hs).trans hb, hl⟩
theorem Rep.fnI {H H' : Hp} {a : Option Addr} {n : Nat} {l : List Int} (h : Rep EI 1 H a n l) (hf : Fn H H') : Rep EI 1 H' a n l := h.fr (fun _ _ => id) hf
theorem Rep.fnB {H H' : Hp} {a : Option Addr} {n : Nat} {l : List Bk} (h : Rep EB 2 H a n l) (hf : Fn H H') : Rep EB 2 H' a n l := h.frB (fun _ _ => id) hf
theorem EN.fn {H H' : Hp} (hf : Fn H H') {i o : Nat} {x : Nd} (h : EN H i o x) : EN H' i o x := by
  obtain ⟨h1, h2, a, n, h3, h4⟩ := h
  exact ⟨(hf.rd _ _ (rd_lt h1) id).trans h1, (hf.rd _ _ (rd_lt h2) id).trans h2, a, n, (hf.rd _ _ (rd_lt h3) id).trans h3, h4.fnI hf⟩
theorem Rep.fnN {H H' : Hp} {a : Option Addr} {n : Nat} {l : List Nd} (h : Rep EN 3 H a n l) (hf : Fn H H') : Rep EN 3 H' a n l := h.mono fun _ _ _ => EN.fn hf
theorem RF.fn {H H' : Hp} {an nn ab nb F} (h : RF H an nn ab nb F) (hf : Fn H H') : RF H' an nn ab nb F := ⟨h.n.fnN hf, h.b.fnB hf⟩
/-! ### Numbers, copied -/
def vI (l : List Int) : List Value := l.map (.int .i64)
theorem vI_rep {H : Hp} {i : Nat} {l : List Int} {b : Blk} (hb : H.blk i = some b) (hc : b.cs = vI l) : Rep EI 1 H (some ⟨i, 0, none⟩) l.length l :=
  ⟨rfl, fun _ => ⟨i, 0, rfl, fun j x hx => by simp only [EI, rd, hb, Option.bind_some, hc, vI, List.getElem?_map, Nat.zero_add, Nat.mul_one, hx, Option.map_some]⟩⟩
theorem Sm.le {n : Nat} (h : Sm n) : ((n : Int) ≤ 4611686018427387904) = True := eq_true (by unfold Sm at h; omega)
theorem zI_len (n st : Nat) (z : List Value) (hz : z.length = st) : (List.replicate n z).flatten.length = n * st := by
  induction n with
  | zero => simp
  | succ n ih => rw [List.replicate_succ, List.flatten_cons, List.length_append, ih, hz, Nat.add_mul]; omega
theorem sz_new {H : Hp} {b : Blk} {n : Nat} (h : b.cs.length = n) : Sz (H ++ [some b]) H.length n := ⟨b, blk0, h⟩
theorem wb_new {H : Hp} {b : Blk} (h : b.rw = true) : WB H.length (H ++ [some b]) H.length := ⟨Nat.le_refl _, b, blk0, h⟩
theorem toInt64S_c (d lo : Nat) (H : Hp) (a : Option Addr) (n : Nat) (l : List Int) (h : Rep EI 1 H a n l) (hn : Sm n) (hb : n * 8 ≤ 140737488351232) :
    ∃ H', vcall env (d + 1) 17 [.slice a n (sg a 1)] lo H = some (.slice (some ⟨H.length, 0, none⟩) n 1, H') ∧ Fn H H' ∧ H'.length = H.length + 1 ∧ WB H.length H' H.length ∧ Rep EI 1 H' (some ⟨H.length, 0, none⟩) n l := by
  have m1 : (((8 : Nat) : Int) * (n : Int) ≤ 281474976710656) = True := eq_true (by omega)
  have hloop : ∃ r, lim (rnd (vcall env d) H.length [0, 3, 4] [2, 3] l17_0) [(0, .slice a n (sg a 1)), (3, .slice (some ⟨H.length, 0, none⟩) n 1), (4, .int .i64 0)] (H ++ [some ⟨(List.replicate n [Value.int .i64 0]).flatten, true, (n : Int) == 0⟩]) = some r ∧ ∃ H', r = (.exit 0, [(3, .slice (some ⟨H.length, 0, none⟩) n 1)], H') ∧ Fn H H' ∧ H'.length = H.length + 1 ∧ WB H.length H' H.length ∧ Rep EI 1 H' (some ⟨H.length, 0, none⟩) n l := by
    refine lim_inv (fun i ts H1 => ts = [(0, .slice a n (sg a 1)), (3, .slice (some ⟨H.length, 0, none⟩) n 1), (4, .int .i64 (i : Int))] ∧ Fn H H1 ∧ H1.length = H.length + 1 ∧ WB H.length H1 H.length ∧ Sz H1 H.length n ∧ ∀ j x, j < i → l[j]? = some x → rd H1 ⟨H.length, j, none⟩ = some (.int .i64 x)) n ?_ ?_ ?_
    · rintro i ts H1 hi ⟨rfl, hf, hlen, hwb, hsz, hcs⟩
      have hil : i < l.length := by rw [← h.1]; exact hi
      obtain ⟨p, o, rfl, e⟩ := (h.fnI hf).at hil
      simp only [EI, Nat.mul_one] at e
      obtain ⟨H2, hu, u, hsz2⟩ := upN (o := i) [.int .i64 l[i]] hwb hsz (by simp; omega)
      refine ⟨_, H2, by simp -implicitDefEqProofs only [rnd, l17_0, VMs, noRef, noRef1, isRef, List.all_cons, List.all_nil, vop, VOp.still, VOp.app, VOp.plain, allP, lof, evs, start, asI, vbin, vcells, ntup, setAll, vfill, vress, vres, tup, Nat.reduceEqDiff, ↓reduceIte, Nat.reduceAdd, Nat.reduceMul, Nat.reduceLeDiff, reduceCtorEq, slen, ltc hi, ge0, decide_true, Int.toNat_natCast, Nat.mul_one, Nat.zero_add, e, hu, hn.w hi], rfl, (hf.no.trans u.fr).new fun i e => Nat.le_of_eq e.symm, by rw [u.len, hlen], u.wb _ _ hwb, hsz2, ?_⟩
      intro j x hj hx
      rcases Nat.lt_succ_iff_lt_or_eq.1 hj with h' | h'
      · exact (u.oth _ _ (by simp; omega)).trans (hcs j x h' hx)
      · subst h'
        rw [getE hil] at hx; cases hx
        exact u.at_ 0 (by simp)
    · rintro ts H1 ⟨rfl, hf, hlen, hwb, hsz, hcs⟩
      refine ⟨_, by simp -implicitDefEqProofs only [rnd, l17_0, VMs, noRef, noRef1, isRef, List.all_cons, List.all_nil, vop, VOp.still, VOp.app, VOp.plain, allP, lof, evs, start, asI, vbin, vcells, ntup, setAll, vfill, vress, vres, tup, Nat.reduceEqDiff, ↓reduceIte, Nat.reduceAdd, Nat.reduceMul, Nat.reduceLeDiff, reduceCtorEq, slen, Int.lt_irrefl, decide_false], by simp, H1, rfl, hf, hlen, hwb, h.1, fun _ => ⟨H.length, 0, rfl, fun j x hx => ?_⟩⟩
      simp only [EI, Nat.zero_add, Nat.mul_one]
      exact hcs j x (by rw [h.1]; exact (List.getElem?_eq_some_iff.1 hx).1) hx
    · exact ⟨rfl, Fr.app, by simp, wb_new rfl, sz_new (by rw [zI_len n 1 _ rfl, Nat.mul_one]), fun j x hj => by omega⟩
  obtain ⟨_, hl, H', rfl, h1, h2, h3, h4⟩ := hloop
  refine ⟨H', ?_, h1, h2, h3, h4⟩
  rw [call_eq find17 _ _ _ rfl]
  simp -implicitDefEqProofs only [v17, VMs, noRef, noRef1, isRef, List.all_cons, List.all_nil, vop, VOp.still, VOp.app, VOp.plain, allP, lof, evs, start, asI, vbin, vcells, ntup, setAll, vfill, vress, vres, tup, Nat.reduceEqDiff, ↓reduceIte, Nat.reduceAdd, Nat.reduceMul, Nat.reduceLeDiff, reduceCtorEq, slen, ge0, m1, hn.le, Int.toNat_natCast, vlp, hl]

/-! ### Nodes and forests, copied -/
theorem wr_at {lo : Nat} {H : Hp} {i o : Nat} {cs : List Value} (hb : H.blk i = some ⟨cs, true, false⟩) (hlo : lo ≤ i) (vs : List Value) (hl : o + vs.length ≤ cs.length) : wrN lo H ⟨i, o, none⟩ vs = some (setB H i (setAll cs o vs)) := by
  simp only [wrN, hb, Option.bind_some, setB]
  rw [if_pos ⟨hlo, trivial, hl⟩]
theorem setB_len {H : Hp} {i : Nat} {cs : List Value} : (setB H i cs).length = H.length := by simp [setB]
theorem Fn.setB {H H' : Hp} {i : Nat} {cs : List Value} (hf : Fn H H') (hi : H.length ≤ i) (hb : H'.blk i = some ⟨cs, true, false⟩) (vs : List Value) : Fn H (setB H' i vs) :=
  (hf.no.trans (Fr.setB hb vs)).new fun j e => by rw [e]; exact hi
theorem WB.fn {lo : Nat} {H H' : Hp} {i : Nat} (h : WB lo H i) (S : Nat → Prop) (hf : Fr S H H') : WB lo H' i := hf.wb _ _ h
/-- A forest in new memory. -/
def NewF (H H' : Hp) (v : Value) (F : Fo) : Prop := ∃ S T an nn ab nb, v = .agg #[.slice an nn (sg an 3), .slice ab nb (sg ab 2)] ∧ Fn H H' ∧ (∀ i, S i ∨ T i → H.length ≤ i) ∧ FO H.length H' S T an nn ab nb F
/-- What lengths an argument has at most. -/
structure ArgF (F : Fo) : Prop where
  n : F.n.length * 40 ≤ 140737488351232
  b : F.b.length * 16 ≤ 140737488351232
  k : ∀ x ∈ F.n, x.k.length * 8 ≤ 140737488351232
theorem Sm.of8 {n c : Nat} (h : n * c ≤ 140737488351232) (hc : 1 ≤ c) : Sm n := by
  have : n * 1 ≤ n * c := Nat.mul_le_mul_left _ hc
  unfold Sm; omega
theorem ArgF.sf {F : Fo} (h : ArgF F) : SF F := ⟨Sm.of8 h.n (by omega), Sm.of8 h.b (by omega), fun x hx => Sm.of8 (h.k x hx) (by omega)⟩
/-- A forest in new memory, its blocks from the head of a block on. -/
def NewFX (H H' : Hp) (v : Value) (F : Fo) : Prop := ∃ S T an nn ab nb, v = .agg #[.slice an nn (sg an 3), .slice ab nb (sg ab 2)] ∧ Fn H H' ∧ (∀ i, S i ∨ T i → H.length ≤ i) ∧ FO H.length H' S T an nn ab nb F ∧ ∃ i, ab = some ⟨i, 0, none⟩ ∧ WB H.length H' i
theorem NewFX.newF {H H' : Hp} {v : Value} {F : Fo} (h : NewFX H H' v F) : NewF H H' v F := let ⟨S, T, an, nn, ab, nb, h1, h2, h3, h4, _⟩ := h; ⟨S, T, an, nn, ab, nb, h1, h2, h3, h4⟩
end Go.Proofs.YtohanpndekfbgaaDoor.V
