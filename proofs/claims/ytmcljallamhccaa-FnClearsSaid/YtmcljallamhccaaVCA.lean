/- How often nodes name a place. -/
import Derived.Test.YtmcljallamhccaaVC9
namespace Go.Proofs.Ytmcljallamhccaa.V
open Go
set_option linter.unusedVariables false
set_option linter.unusedSimpArgs false
set_option maxRecDepth 100000
def nm (leaf : Bool) (at_ : Int) (x : Nd) : Int := if x.r = 0 ∨ x.f ≠ leaf then 0 else (x.k.count at_ : Int)
def nmS (l : List Nd) (leaf : Bool) (at_ : Int) : Int := (l.map (nm leaf at_)).sum
theorem nmS_take (l : List Nd) (leaf : Bool) (at_ : Int) (j : Nat) (h : j < l.length) : nmS (l.take (j + 1)) leaf at_ = nmS (l.take j) leaf at_ + nm leaf at_ l[j] := by
  unfold nmS
  rw [List.take_succ_eq_append_getElem h, List.map_append, List.sum_append]
  simp only [List.map_cons, List.map_nil, List.sum_cons, List.sum_nil, Int.add_zero]
/-- Nodes as they may be: no more than 60, and those that are referred to have four kids. -/
structure Four (F : Fo) : Prop where
  n : F.n.length ≤ 60
  k : ∀ x ∈ F.n, x.r ≠ 0 → x.k.length = 4
theorem nm_le {F : Fo} (h : Four F) (leaf : Bool) (at_ : Int) (x : Nd) (hx : x ∈ F.n) : 0 ≤ nm leaf at_ x ∧ nm leaf at_ x ≤ 4 := by
  unfold nm
  by_cases h1 : x.r = 0 ∨ x.f ≠ leaf
  · rw [if_pos h1]; omega
  · rw [if_neg h1]
    have h2 : x.r ≠ 0 := fun e => h1 (Or.inl e)
    have h3 := h.k x hx h2
    have h4 := List.count_le_length (a := at_) (l := x.k)
    omega
theorem nmS_le {F : Fo} (h : Four F) (leaf : Bool) (at_ : Int) : ∀ i, i ≤ F.n.length → 0 ≤ nmS (F.n.take i) leaf at_ ∧ nmS (F.n.take i) leaf at_ ≤ 4 * (i : Int)
  | 0, _ => by simp [nmS]
  | i + 1, hi => by
    have h1 := nmS_le h leaf at_ i (by omega)
    have h2 := nm_le h leaf at_ F.n[i] (List.getElem_mem (by omega))
    rw [nmS_take _ _ _ _ (by omega)]
    omega
theorem count_take (l : List Int) (v : Int) (j : Nat) (h : j < l.length) : (l.take (j + 1)).count v = (l.take j).count v + if l[j] = v then 1 else 0 := by
  rw [List.take_succ_eq_append_getElem h, List.count_append]
  congr 1
  simp only [List.count_cons, List.count_nil, beq_iff_eq, Nat.zero_add]
theorem l4Named_c (d lo : Nat) (H : Hp) {q o an nn ab nb F} (h : PF H q o an nn ab nb F) (h4 : Four F) (leaf : Bool) (at_ : Int) :
    vcall env (d + 1) 140 [.pointer (some ⟨q, o, none⟩), .bool leaf, .int .i64 at_] lo H = some (.int .i64 (nmS F.n leaf at_), H) := by
  have n1 := h.f.n.1
  have hn := h.n
  have hnn : nn ≤ 60 := by have := h4.n; omega
  have hsm : Sm nn := by unfold Sm; omega
  have hl := lim_up (f := rnd (vcall env d) H.length [0, 1, 2, 7, 8] [6, 7] l140_1) (r := (.exit 0, [(7, .int .i64 (nmS F.n leaf at_))], H)) (by simp) (fun i => [(0, .pointer (some ⟨q, o, none⟩)), (1, .bool leaf), (2, .int .i64 at_), (7, .int .i64 (nmS (F.n.take i) leaf at_)), (8, .int .i64 (i : Nat))]) (fun _ => H) nn
    (by
      have : F.n.take nn = F.n := by rw [n1, List.take_length]
      simp -implicitDefEqProofs only [this, rnd, l140_1, VMs, noRef, noRef1, isRef, List.all_cons, List.all_nil, vop, VOp.still, VOp.app, VOp.plain, allP, lof, evs, start, asI, vbin, vcells, ntup, setAll, vfill, vress, vres, tup, Nat.reduceEqDiff, ↓reduceIte, Nat.reduceAdd, Nat.reduceMul, Nat.reduceLeDiff, reduceCtorEq, hn, slen, Int.lt_irrefl, decide_false])
    (fun i hi => by
      have hil : i < F.n.length := by omega
      have hb := nmS_le h4 leaf at_ i (by omega)
      have hs := nmS_take F.n leaf at_ i hil
      have hmem := List.getElem_mem hil
      obtain ⟨p, po, rfl, e1, e2, a3, n3, e3, e4⟩ := h.f.n.at hil
      generalize nmS (F.n.take i) leaf at_ = acc at *
      by_cases h1 : F.n[i].r = 0 ∨ F.n[i].f ≠ leaf
      · have hz : nm leaf at_ F.n[i] = 0 := by unfold nm; rw [if_pos h1]
        rw [hz, Int.add_zero] at hs
        by_cases hr : F.n[i].r = 0
        · have hr' : (F.n[i].r == 0) = true := by simp [hr]
          simp -implicitDefEqProofs only [rnd, l140_1, VMs, noRef, noRef1, isRef, List.all_cons, List.all_nil, vop, VOp.still, VOp.app, VOp.plain, allP, lof, evs, start, asI, vbin, vcells, ntup, setAll, vfill, vress, vres, tup, Nat.reduceEqDiff, ↓reduceIte, Nat.reduceAdd, Nat.reduceMul, Nat.reduceLeDiff, reduceCtorEq, hn, slen, ltc hi, ge0, decide_true, Int.toNat_natCast, e1, hr', hsm.w hi, hs]
        · have hr' : (F.n[i].r == 0) = false := by simp [hr]
          have hf : F.n[i].f ≠ leaf := by rcases h1 with h1 | h1; exact absurd h1 hr; exact h1
          have hf' : (F.n[i].f == leaf) = false := by simp [hf]
          simp -implicitDefEqProofs only [rnd, l140_1, VMs, noRef, noRef1, isRef, List.all_cons, List.all_nil, vop, VOp.still, VOp.app, VOp.plain, allP, lof, evs, start, asI, vbin, vcells, ntup, setAll, vfill, vress, vres, tup, Nat.reduceEqDiff, ↓reduceIte, Nat.reduceAdd, Nat.reduceMul, Nat.reduceLeDiff, reduceCtorEq, hn, slen, ltc hi, ge0, decide_true, Int.toNat_natCast, e1, e2, hr', hf', hsm.w hi, hs]
      · have hr : F.n[i].r ≠ 0 := fun e => h1 (Or.inl e)
        have hf : F.n[i].f = leaf := Decidable.not_not.1 fun e => h1 (Or.inr e)
        have hr' : (F.n[i].r == 0) = false := by simp [hr]
        have hf' : (F.n[i].f == leaf) = true := by simp [hf]
        have hk4 := h4.k _ hmem hr
        have hz : nm leaf at_ F.n[i] = (F.n[i].k.count at_ : Int) := by unfold nm; rw [if_neg h1]
        rw [hz] at hs
        have hin := lim_up (f := rnd (vcall env d) H.length [0, 1, 2, 7, 8, 9] [0, 1, 2, 6, 7, 8] l140_0) (r := (.exit 2, [(0, .pointer (some ⟨q, o, none⟩)), (1, .bool leaf), (2, .int .i64 at_), (7, .int .i64 (acc + (F.n[i].k.count at_ : Int))), (8, .int .i64 (i : Nat))], H)) (by simp) (fun j => [(0, .pointer (some ⟨q, o, none⟩)), (1, .bool leaf), (2, .int .i64 at_), (7, .int .i64 (acc + ((F.n[i].k.take j).count at_ : Int))), (8, .int .i64 (i : Nat)), (9, .int .i64 (j : Nat))]) (fun _ => H) 4
          (by
            have h44 : (((4 : Nat) : Int) < 4) = False := eq_false (by omega)
            have : F.n[i].k.take 4 = F.n[i].k := by rw [← hk4, List.take_length]
            simp -implicitDefEqProofs only [this, rnd, l140_0, VMs, noRef, noRef1, isRef, List.all_cons, List.all_nil, vop, VOp.still, VOp.app, VOp.plain, allP, lof, evs, start, asI, vbin, vcells, ntup, setAll, vfill, vress, vres, tup, Nat.reduceEqDiff, ↓reduceIte, Nat.reduceAdd, Nat.reduceMul, Nat.reduceLeDiff, reduceCtorEq, h44, decide_false])
          (fun j hj => by
            have hj4 : ((j : Int) < 4) = True := eq_true (by omega)
            have hjl : j < F.n[i].k.length := by omega
            have hjn : j < n3 := by rw [e4.1]; exact hjl
            obtain ⟨p', o', rfl, e⟩ := e4.at hjl
            simp only [EI, Nat.mul_one] at e
            have hct := count_take F.n[i].k at_ j hjl
            have hcl := List.count_le_length (a := at_) (l := F.n[i].k.take j)
            rw [List.length_take] at hcl
            have hw : IntKind.i64.wrap ((j : Int) + 1) = ((j + 1 : Nat) : Int) := by rw [wr (by omega) (by omega)]; rfl
            generalize hcj : (F.n[i].k.take j).count at_ = cj at *
            by_cases hv : F.n[i].k[j] = at_
            · rw [if_pos hv] at hct
              have hv' : (F.n[i].k[j] == at_) = true := by simp [hv]
              have hw2 : IntKind.i64.wrap (acc + (cj : Int) + 1) = acc + ((cj + 1 : Nat) : Int) := by rw [wr (by omega) (by omega)]; omega
              simp -implicitDefEqProofs only [rnd, l140_0, VMs, noRef, noRef1, isRef, List.all_cons, List.all_nil, vop, VOp.still, VOp.app, VOp.plain, allP, lof, evs, start, asI, vbin, vcells, ntup, setAll, vfill, vress, vres, tup, Nat.reduceEqDiff, ↓reduceIte, Nat.reduceAdd, Nat.reduceMul, Nat.reduceLeDiff, reduceCtorEq, hj4, decide_true, hn, slen, ltc hi, ltc hjn, ge0, Int.toNat_natCast, e3, Nat.mul_one, e, hv', hw, hw2, hct]
            · rw [if_neg hv, Nat.add_zero] at hct
              have hv' : (F.n[i].k[j] == at_) = false := by simp [hv]
              simp -implicitDefEqProofs only [rnd, l140_0, VMs, noRef, noRef1, isRef, List.all_cons, List.all_nil, vop, VOp.still, VOp.app, VOp.plain, allP, lof, evs, start, asI, vbin, vcells, ntup, setAll, vfill, vress, vres, tup, Nat.reduceEqDiff, ↓reduceIte, Nat.reduceAdd, Nat.reduceMul, Nat.reduceLeDiff, reduceCtorEq, hj4, decide_true, hn, slen, ltc hi, ltc hjn, ge0, Int.toNat_natCast, e3, Nat.mul_one, e, hv', hw, hct])
        simp only [List.take_zero, List.count_nil, Int.natCast_zero, Int.add_zero] at hin
        simp -implicitDefEqProofs only [rnd, l140_1, VMs, noRef, noRef1, isRef, List.all_cons, List.all_nil, vop, VOp.still, VOp.app, VOp.plain, allP, lof, evs, start, asI, vbin, vcells, ntup, setAll, vfill, vress, vres, tup, Nat.reduceEqDiff, ↓reduceIte, Nat.reduceAdd, Nat.reduceMul, Nat.reduceLeDiff, reduceCtorEq, hn, slen, ltc hi, ge0, decide_true, Int.toNat_natCast, e1, e2, hr', hf', vlp, hin, hsm.w hi, hs])
  simp only [Int.natCast_zero, List.take_zero, nmS, List.map_nil, List.sum_nil] at hl
  rw [call_eq find140 _ _ _ rfl]
  simp -implicitDefEqProofs only [v140, VMs, noRef, noRef1, isRef, List.all_cons, List.all_nil, vop, VOp.still, VOp.app, VOp.plain, allP, lof, evs, start, asI, vbin, vcells, ntup, setAll, vfill, vress, vres, tup, Nat.reduceEqDiff, ↓reduceIte, Nat.reduceAdd, Nat.reduceMul, Nat.reduceLeDiff, reduceCtorEq, vlp, hl, nmS]

theorem flat1 (v : Value) : ∀ m : Nat, (List.replicate m [v]).flatten = List.replicate m v
  | 0 => rfl
  | m + 1 => by rw [List.replicate_succ, List.flatten_cons, flat1 v m, List.replicate_succ]; rfl
theorem named_c (d lo : Nat) (H : Hp) {an nn ab nb F} (h : RF H an nn ab nb F) (h4 : Four F) (leaf : Bool) (m : Nat) (hm : m ≤ 60) (hk : ∀ x ∈ F.n, x.r ≠ 0 → x.f = leaf → ∀ k ∈ x.k, k < (m : Int)) :
    ∃ i H', vcall env (d + 1) 110 [.agg #[.slice an nn (sg an 3), .slice ab nb (sg ab 2)], .bool leaf, .int .i64 (m : Nat)] lo H = some (.slice (some ⟨i, 0, none⟩) m 1, H') ∧ Fn H H' ∧ H.length ≤ i ∧ ∀ j, j < m → rd H' ⟨i, j, none⟩ = some (.int .i64 (nmS F.n leaf (j : Int))) := by
  have n1 := h.n.1
  have hnn : nn ≤ 60 := by have := h4.n; omega
  have hsm : Sm nn := by unfold Sm; omega
  have hmm : Sm m := by unfold Sm; omega
  have m1 : (((8 : Nat) : Int) * (m : Int) ≤ 281474976710656) = True := eq_true (by omega)
  obtain ⟨ob, hob⟩ : ∃ ob, ob = H.length + 1 := ⟨_, rfl⟩
  have hloop : ∃ r, lim (rnd (vcall env d) H.length [1, 7, 15, 16, 17] [6, 7] l110_1) [(1, .bool leaf), (7, .slice (some ⟨H.length + 1, 0, none⟩) m 1), (15, .slice an nn (sg an 3)), (16, .int .i64 (nn : Nat)), (17, .int .i64 0)] (H ++ [some ⟨[.slice an nn (sg an 3), .slice ab nb (sg ab 2)], true, false⟩, some ⟨(List.replicate m [Value.int .i64 0]).flatten, true, (m : Int) == 0⟩]) = some r ∧ ∃ H', r = (.exit 0, [(7, .slice (some ⟨ob, 0, none⟩) m 1)], H') ∧ Fn H H' ∧ ∀ j, j < m → rd H' ⟨ob, j, none⟩ = some (.int .i64 (nmS F.n leaf (j : Int))) := by
    rw [← hob]
    refine lim_inv (fun i ts H1 => ts = [(1, .bool leaf), (7, .slice (some ⟨ob, 0, none⟩) m 1), (15, .slice an nn (sg an 3)), (16, .int .i64 (nn : Nat)), (17, .int .i64 (i : Nat))] ∧ Fn H H1 ∧ ob < H1.length ∧ WB H.length H1 ob ∧ Sz H1 ob m ∧ ∀ j, j < m → rd H1 ⟨ob, j, none⟩ = some (.int .i64 (nmS (F.n.take i) leaf (j : Int)))) nn ?_ ?_ ?_
    · rintro i ts H1 hi ⟨rfl, hf, hlt, hwb, hsz, hcs⟩
      have hil : i < F.n.length := by omega
      have hmem := List.getElem_mem hil
      obtain ⟨p, po, rfl, e1, e2, a3, n3, e3, e4⟩ := (h.fn hf).n.at hil
      have he := rdN3 e1 e2 e3
      have hle : (H.length ≤ H1.length) = True := eq_true hf.len
      have hs := fun at_ => nmS_take F.n leaf at_ i hil
      have hb := fun at_ => nmS_le h4 leaf at_ i (by omega)
      let C : Option Blk := some ⟨[.int .i64 F.n[i].r, .bool F.n[i].f, .slice a3 n3 (sg a3 1)], true, false⟩
      have fC : Fn H1 (H1 ++ [C]) := Fr.app
      have hcs' : ∀ j, j < m → rd (H1 ++ [C]) ⟨ob, j, none⟩ = some (.int .i64 (nmS (F.n.take i) leaf (j : Int))) := fun j hj => rd_app (hcs j hj)
      by_cases h1 : F.n[i].r = 0 ∨ F.n[i].f ≠ leaf
      · have hz : ∀ at_, nm leaf at_ F.n[i] = 0 := fun at_ => by unfold nm; rw [if_pos h1]
        refine ⟨[(1, .bool leaf), (7, .slice (some ⟨ob, 0, none⟩) m 1), (15, .slice (some ⟨p, po, none⟩) nn 3), (16, .int .i64 (nn : Nat)), (17, .int .i64 ((i + 1 : Nat) : Int))], H1 ++ [C], ?_, rfl, hf.trans fC, by simp; omega, hwb.fn _ fC, hsz.fr fC id, fun j hj => by rw [hs, hz, Int.add_zero]; exact hcs' j hj⟩
        by_cases hr : F.n[i].r = 0
        · have hr' : (F.n[i].r == 0) = true := by simp [hr]
          simp -implicitDefEqProofs only [rnd, l110_1, VMs, noRef, noRef1, isRef, List.all_cons, List.all_nil, vop, VOp.still, VOp.app, VOp.plain, allP, lof, evs, start, asI, vbin, vcells, ntup, setAll, vfill, vress, vres, tup, Nat.reduceEqDiff, ↓reduceIte, Nat.reduceAdd, Nat.reduceMul, Nat.reduceLeDiff, reduceCtorEq, slen, ltc hi, ge0, hle, decide_true, Int.toNat_natCast, he, hr', hsm.w hi, C]
        · have hr' : (F.n[i].r == 0) = false := by simp [hr]
          have hff : F.n[i].f ≠ leaf := by rcases h1 with h1 | h1; exact absurd h1 hr; exact h1
          have hf' : (F.n[i].f == leaf) = false := by simp [hff]
          simp -implicitDefEqProofs only [rnd, l110_1, VMs, noRef, noRef1, isRef, List.all_cons, List.all_nil, vop, VOp.still, VOp.app, VOp.plain, allP, lof, evs, start, asI, vbin, vcells, ntup, setAll, vfill, vress, vres, tup, Nat.reduceEqDiff, ↓reduceIte, Nat.reduceAdd, Nat.reduceMul, Nat.reduceLeDiff, reduceCtorEq, slen, ltc hi, ge0, hle, decide_true, Int.toNat_natCast, he, hr', hf', hsm.w hi, C]
      · have hr : F.n[i].r ≠ 0 := fun e => h1 (Or.inl e)
        have hff : F.n[i].f = leaf := Decidable.not_not.1 fun e => h1 (Or.inr e)
        have hr' : (F.n[i].r == 0) = false := by simp [hr]
        have hf' : (F.n[i].f == leaf) = true := by simp [hff]
        have hk4 := h4.k _ hmem hr
        have hkm := hk _ hmem hr hff
        have hz : ∀ at_, nm leaf at_ F.n[i] = (F.n[i].k.count at_ : Int) := fun at_ => by unfold nm; rw [if_neg h1]
        have hn3 : n3 = 4 := e4.1.trans hk4
        have hsm3 : Sm n3 := by unfold Sm; omega
        have hin : ∃ r, lim (rnd (vcall env d) H.length [1, 7, 15, 16, 17, 31, 32, 33] [1, 6, 7, 15, 16, 17] l110_0) [(1, .bool leaf), (7, .slice (some ⟨ob, 0, none⟩) m 1), (15, .slice (some ⟨p, po, none⟩) nn 3), (16, .int .i64 (nn : Nat)), (17, .int .i64 (i : Nat)), (31, .slice a3 n3 (sg a3 1)), (32, .int .i64 (n3 : Nat)), (33, .int .i64 0)] (H1 ++ [C]) = some r ∧ ∃ H', r = (.exit 2, [(1, .bool leaf), (7, .slice (some ⟨ob, 0, none⟩) m 1), (15, .slice (some ⟨p, po, none⟩) nn 3), (16, .int .i64 (nn : Nat)), (17, .int .i64 (i : Nat))], H') ∧ Fn H H' ∧ ob < H'.length ∧ WB H.length H' ob ∧ Sz H' ob m ∧ ∀ j, j < m → rd H' ⟨ob, j, none⟩ = some (.int .i64 (nmS (F.n.take (i + 1)) leaf (j : Int))) := by
          refine lim_inv (fun j ts H2 => ts = [(1, .bool leaf), (7, .slice (some ⟨ob, 0, none⟩) m 1), (15, .slice (some ⟨p, po, none⟩) nn 3), (16, .int .i64 (nn : Nat)), (17, .int .i64 (i : Nat)), (31, .slice a3 n3 (sg a3 1)), (32, .int .i64 (n3 : Nat)), (33, .int .i64 (j : Nat))] ∧ Fn H H2 ∧ Fr (· = ob) H1 H2 ∧ ob < H2.length ∧ WB H.length H2 ob ∧ Sz H2 ob m ∧ ∀ q, q < m → rd H2 ⟨ob, q, none⟩ = some (.int .i64 (nmS (F.n.take i) leaf (q : Int) + ((F.n[i].k.take j).count (q : Int) : Int)))) n3 ?_ ?_ ?_
          · rintro j ts H2 hj ⟨rfl, g1, g2, g3, g4, g5, g6⟩
            have hjl : j < F.n[i].k.length := by omega
            have hw : IntKind.i64.wrap ((j : Int) + 1) = ((j + 1 : Nat) : Int) := by rw [wr (by omega) (by omega)]; rfl
            -- the kids lie in old memory
            obtain ⟨p0, po0, ep0, e10, e20, a30, n30, e30, e40⟩ := h.n.at hil
            cases ep0
            have hsame : a30 = a3 ∧ n30 = n3 := by
              have := (hf.rd _ _ (rd_lt e30) id).trans e30
              rw [e3] at this
              injection this with this; injection this with t1 t2; exact ⟨t1.symm, t2.symm⟩
            obtain ⟨rfl, rfl⟩ := hsame
            obtain ⟨p', o', rfl, e⟩ := (e40.fnI g1).at hjl
            simp only [EI, Nat.mul_one] at e
            have hct := fun v => count_take F.n[i].k v j hjl
            have hkj := hkm _ (List.getElem_mem hjl)
            by_cases hv : 0 ≤ F.n[i].k[j]
            · obtain ⟨v, hvv⟩ : ∃ v : Nat, F.n[i].k[j] = (v : Int) := ⟨F.n[i].k[j].toNat, by omega⟩
              rw [hvv] at hkj e hct
              have hvm : v < m := by omega
              have old := g6 v hvm
              have hcl := List.count_le_length (a := (v : Int)) (l := F.n[i].k.take j)
              rw [List.length_take] at hcl
              have hbv := hb (v : Int)
              generalize hacc : nmS (F.n.take i) leaf (v : Int) + ((F.n[i].k.take j).count (v : Int) : Int) = acc at *
              obtain ⟨H3, hu, u, hsz3⟩ := upN (o := v) [.int .i64 (acc + 1)] g4 g5 (by simp; omega)
              have hw2 : IntKind.i64.wrap (acc + 1) = acc + 1 := wr (by omega) (by omega)
              refine ⟨[(1, .bool leaf), (7, .slice (some ⟨ob, 0, none⟩) m 1), (15, .slice (some ⟨p, po, none⟩) nn 3), (16, .int .i64 (nn : Nat)), (17, .int .i64 (i : Nat)), (31, .slice (some ⟨p', o', none⟩) n30 1), (32, .int .i64 (n30 : Nat)), (33, .int .i64 ((j + 1 : Nat) : Int))], H3, ?_, rfl, (g1.no.trans u.fr).new fun i e => by omega, g2.trans u.fr, by rw [u.len]; exact g3, u.wb _ _ g4, hsz3, fun q hq => ?_⟩
              · simp -implicitDefEqProofs only [rnd, l110_0, VMs, noRef, noRef1, isRef, List.all_cons, List.all_nil, vop, VOp.still, VOp.app, VOp.plain, allP, lof, evs, start, asI, vbin, vcells, ntup, setAll, vfill, vress, vres, tup, Nat.reduceEqDiff, ↓reduceIte, Nat.reduceAdd, Nat.reduceMul, Nat.reduceLeDiff, reduceCtorEq, slen, ltc hj, ltc hvm, ge0, decide_true, Int.toNat_natCast, Nat.mul_one, e, old, hu, hw, hw2, ge_iff_le]
              · rw [hct]
                by_cases hqv : q = v
                · subst hqv
                  rw [if_pos rfl]
                  have := u.at_ 0 (by simp)
                  simp only [Nat.add_zero] at this
                  rw [this]
                  simp only [List.getElem?_cons_zero, Option.some.injEq, Value.int.injEq, true_and]
                  omega
                · rw [if_neg (fun e => hqv (by omega)), Nat.add_zero]
                  exact (u.oth _ _ (by simp; omega)).trans (g6 q hq)
            · have hd : decide (F.n[i].k[j] ≥ 0) = false := decide_eq_false (by omega)
              refine ⟨[(1, .bool leaf), (7, .slice (some ⟨ob, 0, none⟩) m 1), (15, .slice (some ⟨p, po, none⟩) nn 3), (16, .int .i64 (nn : Nat)), (17, .int .i64 (i : Nat)), (31, .slice (some ⟨p', o', none⟩) n30 1), (32, .int .i64 (n30 : Nat)), (33, .int .i64 ((j + 1 : Nat) : Int))], H2, ?_, rfl, g1, g2, g3, g4, g5, fun q hq => ?_⟩
              · simp -implicitDefEqProofs only [rnd, l110_0, VMs, noRef, noRef1, isRef, List.all_cons, List.all_nil, vop, VOp.still, VOp.app, VOp.plain, allP, lof, evs, start, asI, vbin, vcells, ntup, setAll, vfill, vress, vres, tup, Nat.reduceEqDiff, ↓reduceIte, Nat.reduceAdd, Nat.reduceMul, Nat.reduceLeDiff, reduceCtorEq, slen, ltc hj, ge0, decide_true, Int.toNat_natCast, Nat.mul_one, e, hd, hw]
              · rw [hct, if_neg (fun e => hv (by omega)), Nat.add_zero]
                exact g6 q hq
          · rintro ts H2 ⟨rfl, g1, g2, g3, g4, g5, g6⟩
            refine ⟨(.exit 2, [(1, .bool leaf), (7, .slice (some ⟨ob, 0, none⟩) m 1), (15, .slice (some ⟨p, po, none⟩) nn 3), (16, .int .i64 (nn : Nat)), (17, .int .i64 (i : Nat))], H2), by simp -implicitDefEqProofs only [rnd, l110_0, VMs, noRef, noRef1, isRef, List.all_cons, List.all_nil, vop, VOp.still, VOp.app, VOp.plain, allP, lof, evs, start, asI, vbin, vcells, ntup, setAll, vfill, vress, vres, tup, Nat.reduceEqDiff, ↓reduceIte, Nat.reduceAdd, Nat.reduceMul, Nat.reduceLeDiff, reduceCtorEq, slen, Int.lt_irrefl, decide_false], by simp, H2, rfl, g1, g3, g4, g5, fun j hj => ?_⟩
            rw [hs, hz, g6 j hj, e4.1, List.take_length]
          · exact ⟨rfl, hf.trans fC, fC.no, by simp; omega, hwb.fn _ fC, hsz.fr fC id, fun q hq => by rw [hcs' q hq]; simp⟩
        obtain ⟨_, hl, H', rfl, g1, g3, g4, g5, g6⟩ := hin
        refine ⟨[(1, .bool leaf), (7, .slice (some ⟨ob, 0, none⟩) m 1), (15, .slice (some ⟨p, po, none⟩) nn 3), (16, .int .i64 (nn : Nat)), (17, .int .i64 ((i + 1 : Nat) : Int))], H', ?_, rfl, g1, g3, g4, g5, g6⟩
        simp only [C] at hl
        simp -implicitDefEqProofs only [rnd, l110_1, VMs, noRef, noRef1, isRef, List.all_cons, List.all_nil, vop, VOp.still, VOp.app, VOp.plain, allP, lof, evs, start, asI, vbin, vcells, ntup, setAll, vfill, vress, vres, tup, Nat.reduceEqDiff, ↓reduceIte, Nat.reduceAdd, Nat.reduceMul, Nat.reduceLeDiff, reduceCtorEq, slen, ltc hi, ge0, hle, decide_true, Int.toNat_natCast, he, hr', hf', hsm.w hi, vlp, hl]
    · rintro ts H1 ⟨rfl, hf, hlt, hwb, hsz, hcs⟩
      have ht : F.n.take nn = F.n := by rw [n1, List.take_length]
      rw [ht] at hcs
      exact ⟨(.exit 0, [(7, .slice (some ⟨ob, 0, none⟩) m 1)], H1), by simp -implicitDefEqProofs only [rnd, l110_1, VMs, noRef, noRef1, isRef, List.all_cons, List.all_nil, vop, VOp.still, VOp.app, VOp.plain, allP, lof, evs, start, asI, vbin, vcells, ntup, setAll, vfill, vress, vres, tup, Nat.reduceEqDiff, ↓reduceIte, Nat.reduceAdd, Nat.reduceMul, Nat.reduceLeDiff, reduceCtorEq, slen, Int.lt_irrefl, decide_false], by simp, H1, rfl, hf, hcs⟩
    · have hbk : Hp.blk (H ++ [some ⟨[.slice an nn (sg an 3), .slice ab nb (sg ab 2)], true, false⟩, some ⟨(List.replicate m [Value.int .i64 0]).flatten, true, (m : Int) == 0⟩]) ob = some ⟨(List.replicate m [Value.int .i64 0]).flatten, true, (m : Int) == 0⟩ := by rw [hob, blkn]; rfl
      refine ⟨rfl, Fr.app, by simp; omega, ⟨by omega, _, hbk, rfl⟩, ⟨_, hbk, by rw [zI_len m 1 _ rfl, Nat.mul_one]⟩, fun j hj => ?_⟩
      simp only [rd, hbk, Option.bind_some, List.take_zero, nmS, List.map_nil, List.sum_nil]
      rw [flat1, List.getElem?_replicate, if_pos hj]
  obtain ⟨_, hl, H', rfl, h1, h2⟩ := hloop
  refine ⟨ob, H', ?_, h1, by omega, h2⟩
  rw [call_eq find110 _ _ _ rfl]
  simp -implicitDefEqProofs only [v110, VMs, noRef, noRef1, isRef, List.all_cons, List.all_nil, vop, VOp.still, VOp.app, VOp.plain, allP, lof, evs, start, asI, vbin, vcells, ntup, setAll, vfill, vress, vres, tup, Nat.reduceEqDiff, ↓reduceIte, Nat.reduceAdd, Nat.reduceMul, Nat.reduceLeDiff, reduceCtorEq, slen, ge0, m1, hmm.le, Int.toNat_natCast, vlp, hl]
end Go.Proofs.Ytmcljallamhccaa.V
