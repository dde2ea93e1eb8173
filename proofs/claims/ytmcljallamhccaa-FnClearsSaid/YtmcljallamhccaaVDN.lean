/- A fresh node: the reference's and the program's. -/
import Derived.Test.YtmcljallamhccaaVDM
namespace Go.Proofs.Ytmcljallamhccaa.V
open Go
set_option linter.unusedVariables false
set_option linter.unusedSimpArgs false
set_option maxRecDepth 100000
def putF1 (F : Fo) (leaf : Bool) (ks : List Int) : Fo := ⟨putN F.n (slotOf F.n) ⟨1, leaf, ks⟩, F.b⟩
theorem freshF_none {F : Fo} {leaf : Bool} {ks : List Int} {p : Nat} (h : freshF F leaf ks p = none) : ¬ slotOf F.n < 60 ∨ (slotOf F.n < 60 ∧ moreAll leaf (putF1 F leaf ks) (ks.set p (-1)) = none) := by
  unfold freshF at h
  by_cases h0 : slotOf F.n < 60
  · rw [if_pos h0] at h
    exact Or.inr ⟨h0, Option.map_eq_none_iff.1 h⟩
  · exact Or.inl h0
theorem freshF_some {F F' : Fo} {leaf : Bool} {ks : List Int} {p m : Nat} (h : freshF F leaf ks p = some (m, F')) : slotOf F.n < 60 ∧ m = slotOf F.n ∧ moreAll leaf (putF1 F leaf ks) (ks.set p (-1)) = some F' := by
  unfold freshF at h
  by_cases h0 : slotOf F.n < 60
  · rw [if_pos h0] at h
    obtain ⟨F1, h1, h2⟩ := Option.map_eq_some_iff.1 h
    cases h2
    exact ⟨h0, rfl, h1⟩
  · rw [if_neg h0] at h; cases h
theorem FQ.of {q : Nat} {a a' b : Option Addr} {H H1 H2 : Hp} (h : Fw (fun i => i = q ∨ Ad a i) H H1) (h' : Fr (FP a' b) H1 H2) (ha : ∀ i, Ad a' i → Ad a i ∨ H.length ≤ i) : Fw (FQ q a b) H H2 :=
  (h.mono fun i hi => hi.elim Or.inl fun hi => Or.inr (Or.inl hi)).then h'.w fun i hi hl => hi.elim (fun hi => (ha i hi).elim (fun hi => Or.inr (Or.inl hi)) fun hi => by omega) fun hi => Or.inr (Or.inr hi)
theorem specFresh (d lo L : Nat) (H : Hp) {q : Nat} {a b : Option Addr} {ps : List (Nd × Option Addr)} {B : List Bk} (h : MF L H q a b ps B) (hL : lo ≤ L) {N : Nat} {ks : List Int} (hk : KB L H q a b ps N ks) (h4 : ks.length = 4) (leaf : Bool) {p : Nat} (hp : p < 4) (hl60 : ps.length ≤ 60) (hK : ∀ k ∈ ks.set p (-1), Kid leaf (putF1 (foP ps B) leaf ks) k) :
    (freshF (foP ps B) leaf ks p = none → (∃ H', vcall env (d + 1) 162 [.pointer (some ⟨q, 0, none⟩), .agg #[.int .i64 1, .bool leaf, .slice (some ⟨N, 0, none⟩) 4 1]] lo H = some (.int .i64 (-1), H') ∧ Fw (FQ q a b) H H') ∨
      (∃ (m : Nat) (H1 H' : Hp), vcall env (d + 1) 162 [.pointer (some ⟨q, 0, none⟩), .agg #[.int .i64 1, .bool leaf, .slice (some ⟨N, 0, none⟩) 4 1]] lo H = some (.int .i64 (m : Nat), H1) ∧ vcall env (d + 1) 163 [.pointer (some ⟨q, 0, none⟩), .bool leaf, .slice (some ⟨N, 0, none⟩) 4 1, .int .i64 (p : Nat)] lo H1 = some (.bool false, H') ∧ Fw (FQ q a b) H H')) ∧
    (∀ m F', freshF (foP ps B) leaf ks p = some (m, F') → ∃ H1 H' a' ps' B', vcall env (d + 1) 162 [.pointer (some ⟨q, 0, none⟩), .agg #[.int .i64 1, .bool leaf, .slice (some ⟨N, 0, none⟩) 4 1]] lo H = some (.int .i64 (m : Nat), H1) ∧ vcall env (d + 1) 163 [.pointer (some ⟨q, 0, none⟩), .bool leaf, .slice (some ⟨N, 0, none⟩) 4 1, .int .i64 (p : Nat)] lo H1 = some (.bool true, H') ∧
      MF L H' q a' b ps' B' ∧ foP ps' B' = F' ∧ Fw (FQ q a b) H H' ∧ ∀ i, Ad a' i → Ad a i ∨ H.length ≤ i) := by
  obtain ⟨n1, n2⟩ := l4New_c d lo L H h hL hk h4 leaf hl60
  have key : slotOf (foP ps B).n < 60 → ∃ H1 a' H', vcall env (d + 1) 162 [.pointer (some ⟨q, 0, none⟩), .agg #[.int .i64 1, .bool leaf, .slice (some ⟨N, 0, none⟩) 4 1]] lo H = some (.int .i64 (slotOf (foP ps B).n : Nat), H1) ∧
      vcall env (d + 1) 163 [.pointer (some ⟨q, 0, none⟩), .bool leaf, .slice (some ⟨N, 0, none⟩) 4 1, .int .i64 (p : Nat)] lo H1 = some (.bool (moreAll leaf (putF1 (foP ps B) leaf ks) (ks.set p (-1))).isSome, H') ∧ Fw (FQ q a b) H H' ∧ (∀ i, Ad a' i → Ad a i ∨ H.length ≤ i) ∧ ∀ F', moreAll leaf (putF1 (foP ps B) leaf ks) (ks.set p (-1)) = some F' → ∃ ps' B', MF L H' q a' b ps' B' ∧ foP ps' B' = F' := by
    intro hs
    obtain ⟨H1, a', ps1, c1, m1, e1, f1, ha⟩ := n1 hs
    have hNl := blk_lt hk.w
    have hb1 : H1.blk N = some ⟨vI ks, true, false⟩ := (f1.blk N hNl (fun hh => hh.elim hk.nq hk.na)).trans hk.w
    have hna : ¬ Ad a' N := fun hh => (ha N hh).elim hk.na (fun hh => by omega)
    have e1' : foP ps1 B = putF1 (foP ps B) leaf ks := e1
    obtain ⟨H', c2, f2, r2⟩ := l4More_c d lo L H1 m1 hL hb1 hna hk.nb h4 hp leaf (by rw [e1']; exact hK)
    rw [e1'] at c2 r2
    exact ⟨H1, a', H', c1, c2, FQ.of f1 f2 ha, ha, r2⟩
  refine ⟨fun hf => ?_, fun m F' hf => ?_⟩
  · rcases freshF_none hf with hs | ⟨hs, hm⟩
    · obtain ⟨H', c, f⟩ := n2 hs
      exact Or.inl ⟨H', c, f.w.mono fun _ => False.elim⟩
    · obtain ⟨H1, a', H', c1, c2, f, _⟩ := key hs
      rw [hm] at c2
      exact Or.inr ⟨_, H1, H', c1, c2, f⟩
  · obtain ⟨hs, rfl, hm⟩ := freshF_some hf
    obtain ⟨H1, a', H', c1, c2, f, ha, r⟩ := key hs
    obtain ⟨ps', B', m, e⟩ := r F' hm
    rw [hm] at c2
    exact ⟨H1, H', a', ps', B', c1, c2, m, e, f, ha⟩
theorem fresh_c (d lo L : Nat) (H : Hp) {q : Nat} {a b : Option Addr} {ps : List (Nd × Option Addr)} {B : List Bk} (h : MF L H q a b ps B) (hL : lo ≤ L) {N : Nat} {ks : List Int} (hk : KB L H q a b ps N ks) (h4 : ks.length = 4) (leaf : Bool) {p : Nat} (hp : p < 4) (hl60 : ps.length ≤ 60) (hK : ∀ k ∈ ks.set p (-1), Kid leaf (putF1 (foP ps B) leaf ks) k) :
    (freshF (foP ps B) leaf ks p = none → ∃ H', vcall env (d + 3) 154 [.pointer (some ⟨q, 0, none⟩), .bool leaf, .slice (some ⟨N, 0, none⟩) 4 1, .int .i64 (p : Nat)] lo H = some (.tuple #[.int .i64 0, .int .i64 2], H') ∧ Fw (FQ q a b) H H') ∧
    (∀ m F', freshF (foP ps B) leaf ks p = some (m, F') → ∃ H' a' ps' B', vcall env (d + 3) 154 [.pointer (some ⟨q, 0, none⟩), .bool leaf, .slice (some ⟨N, 0, none⟩) 4 1, .int .i64 (p : Nat)] lo H = some (.tuple #[.int .i64 (m : Nat), .int .i64 0], H') ∧
      MF L H' q a' b ps' B' ∧ foP ps' B' = F' ∧ Fw (FQ q a b) H H' ∧ ∀ i, Ad a' i → Ad a i ∨ H.length ≤ i) := by
  have hpl := foP_len ps B
  have gq := h.pf.n
  have hNl := blk_lt hk.w
  have hrep := h.pf.f.n
  rw [← hpl] at hrep
  obtain ⟨r, hc, hr⟩ := indexN_c (d + 1) lo H a ps.length (foP ps B).n h.pf.f.n (by unfold Sm; omega) 165 #[] (fun x => x.r == 0) (fun y _ a n lo => fresh1_c d lo H a n y)
  -- the loop, behind a node that is laid
  have fin : ∀ {H2 : Hp} {a' : Option Addr} {ps2 : List (Nd × Option Addr)}, MF L H2 q a' b ps2 B → foP ps2 B = putF1 (foP ps B) leaf ks → Fw (fun i => i = q ∨ Ad a i) H H2 → (∀ i, Ad a' i → Ad a i ∨ H.length ≤ i) → slotOf (foP ps B).n < 60 →
      ∃ rr, lim (rnd (vcall env (d + 2)) lo [0, 1, 3, 10, 51, 52, 53] [8, 9, 10] l154_0) [(0, .pointer (some ⟨q, 0, none⟩)), (1, .bool leaf), (3, .int .i64 (p : Nat)), (10, .int .i64 (slotOf (foP ps B).n : Nat)), (51, .slice (some ⟨N, 0, none⟩) 4 1), (52, .int .i64 (4 : Nat)), (53, .int .i64 0)] H2 = some rr ∧
        ∃ H', Fw (FQ q a b) H H' ∧ ((freshF (foP ps B) leaf ks p = none ∧ rr = (.ret, [(8, .int .i64 0), (9, .int .i64 2), (10, .int .i64 (slotOf (foP ps B).n : Nat))], H')) ∨ (∃ ps' B', freshF (foP ps B) leaf ks p = some (slotOf (foP ps B).n, foP ps' B') ∧ MF L H' q a' b ps' B' ∧ rr = (.exit 0, [(10, .int .i64 (slotOf (foP ps B).n : Nat))], H'))) := by
    intro H2 a' ps2 m2 e2 f2 ha hs
    have hb2 : H2.blk N = some ⟨vI ks, true, false⟩ := (f2.blk N hNl (fun hh => hh.elim hk.nq hk.na)).trans hk.w
    have hna : ¬ Ad a' N := fun hh => (ha N hh).elim hk.na (fun hh => by omega)
    obtain ⟨rr, hl, H', f3, hh⟩ := freshLoop d lo L H2 m2 hL hb2 hna hk.nb h4 hp leaf (slotOf (foP ps B).n : Nat) (by rw [e2]; exact hK)
    rw [e2] at hh
    refine ⟨rr, hl, H', FQ.of f2 f3 ha, ?_⟩
    have hfe : freshF (foP ps B) leaf ks p = (moreAll leaf (putF1 (foP ps B) leaf ks) (ks.set p (-1))).map fun F' => (slotOf (foP ps B).n, F') := by
      unfold freshF; rw [if_pos hs]; rfl
    rcases hh with ⟨h1, h2⟩ | ⟨ps', B', h1, h2, h3⟩
    · exact Or.inl ⟨by rw [hfe, h1]; rfl, h2⟩
    · exact Or.inr ⟨ps', B', by rw [hfe, h1]; rfl, h2, h3⟩
  rw [call_eq find154 _ _ _ rfl]
  rcases hr with ⟨i, x, rfl, h1, h2, h3⟩ | ⟨rfl, h1⟩
  · obtain ⟨hi, rfl⟩ := List.getElem?_eq_some_iff.1 h1
    have hsl : slotOf (foP ps B).n = i := slot_eq hi (beq_iff_eq.1 h2) (fun j hj => by
      have := h3 j _ hj (getE (by omega))
      exact beq_eq_false_iff_ne.1 this)
    obtain ⟨ad, hpi⟩ := foP_at hi
    obtain ⟨pa, H2, rfl, w, m2, f2, l2⟩ := h.renode hk hpi 1 leaf
    rw [h4] at w
    have w' := wr_lo w hL
    have e2 : foP (ps.set i (⟨1, leaf, ks⟩, some ⟨N, 0, none⟩)) B = putF1 (foP ps B) leaf ks := by
      rw [foP_set1]; unfold putF1 putN; rw [hsl, if_pos hi]
    obtain ⟨rr, hl, H', f, hh⟩ := fin m2 e2 (f2.w.mono fun i e => Or.inr e) (fun i e => Or.inl e) (by omega)
    rw [hsl] at hl hh
    have hd : decide ((i : Int) < 0) = false := decide_eq_false (by omega)
    have hip : i < ps.length := by omega
    simp only [sgs] at hc gq
    rcases hh with ⟨hf, rfl⟩ | ⟨ps', B', hf, m, rfl⟩
    · refine ⟨fun _ => ⟨H', ?_, f⟩, fun m F' e => by rw [hf] at e; cases e⟩
      simp -implicitDefEqProofs only [v154, VMs, noRef, noRef1, isRef, List.all_cons, List.all_nil, vop, VOp.still, VOp.app, VOp.plain, allP, lof, evs, start, asI, vbin, vcells, ntup, setAll, vfill, vress, vres, tup, Nat.reduceEqDiff, ↓reduceIte, Nat.reduceAdd, Nat.reduceMul, Nat.reduceLeDiff, reduceCtorEq, gq, hc, hd, slen, ltc hip, ge0, decide_true, Int.toNat_natCast, vfill, ev, lk, setAll, ntup, vcells, w', vlp, hl]
    · refine ⟨fun e => by (rw [hf] at e; cases e), fun m' F' e => ?_⟩
      rw [hf] at e; cases e
      refine ⟨H', _, ps', B', ?_, m, rfl, f, fun i e => Or.inl e⟩
      simp -implicitDefEqProofs only [v154, VMs, noRef, noRef1, isRef, List.all_cons, List.all_nil, vop, VOp.still, VOp.app, VOp.plain, allP, lof, evs, start, asI, vbin, vcells, ntup, setAll, vfill, vress, vres, tup, Nat.reduceEqDiff, ↓reduceIte, Nat.reduceAdd, Nat.reduceMul, Nat.reduceLeDiff, reduceCtorEq, gq, hc, hd, slen, ltc hip, ge0, decide_true, Int.toNat_natCast, vfill, ev, lk, setAll, ntup, vcells, w', vlp, hl]
  · have hsl : slotOf (foP ps B).n = ps.length := (slot_none fun x hx => beq_eq_false_iff_ne.1 (h1 x hx)).trans hpl
    have hd : decide ((-1 : Int) < 0) = true := rfl
    by_cases h60 : ps.length = 60
    · have hfn : freshF (foP ps B) leaf ks p = none := by unfold freshF; rw [if_neg (by omega)]
      refine ⟨fun _ => ⟨H, ?_, Fw.refl⟩, fun m F' e => by rw [hfn] at e; cases e⟩
      have hb : ((ps.length : Int) == 60) = true := by rw [beq_iff_eq]; omega
      simp -implicitDefEqProofs only [v154, VMs, noRef, noRef1, isRef, List.all_cons, List.all_nil, vop, VOp.still, VOp.app, VOp.plain, allP, lof, evs, start, asI, vbin, vcells, ntup, setAll, vfill, vress, vres, tup, Nat.reduceEqDiff, ↓reduceIte, Nat.reduceAdd, Nat.reduceMul, Nat.reduceLeDiff, reduceCtorEq, gq, hc, hd, slen, hb]
    · have hb : ((ps.length : Int) == 60) = false := by rw [beq_eq_false_iff_ne]; omega
      obtain ⟨H1, hH1⟩ : ∃ H1 : Hp, H1 = H ++ [some ⟨[.int .i64 0, .bool false, .slice none 0 0], true, false⟩] := ⟨_, rfl⟩
      have f1 : Fn H H1 := hH1 ▸ Fr.app
      have l1 : H1.length = H.length + 1 := by rw [hH1]; simp
      obtain ⟨H2, H3, ha, w, m3, fw, l3⟩ := (h.new f1).push (x := ⟨0, false, []⟩) (c := none) (y := .slice (some ⟨H.length, 0, none⟩) 1 3) Rep.nil (fun A e => by cases e) rfl (by rw [hH1]; simp [scells, rdN0, nV, sg]) (by omega)
      have ha' := vappend_lo hL ha
      have w' := wr_lo w hL
      have k3 : KB L H3 q (some ⟨H1.length, 0, none⟩) b (ps ++ [(⟨0, false, []⟩, none)]) N ks := by
        have k1 := hk.fw f1.w id
        have hN1 : N < H1.length := by omega
        refine ⟨(fw.blk N hN1 (fun hh => hh.elim hk.nq hk.na)).trans k1.w, hk.lo, ?_, hk.nb, hk.nq, fun j pp hpp => ?_⟩
        · rintro ⟨o, e⟩; cases e; omega
        · rw [List.getElem?_append] at hpp
          split at hpp
          · exact hk.nk j pp hpp
          · have hpe : pp = (⟨0, false, []⟩, none) := by
              have := List.mem_of_getElem? hpp
              simpa using this
            subst hpe
            rintro ⟨o, e⟩; cases e
      have hx3 : (ps ++ [((⟨0, false, []⟩ : Nd), (none : Option Addr))])[ps.length]? = some (⟨0, false, []⟩, none) := by simp
      obtain ⟨pa, H4, e', w4, m4, f4, l4⟩ := m3.renode k3 hx3 1 leaf
      cases e'
      rw [h4] at w4
      have w4' := wr_lo w4 hL
      have e4 : foP ((ps ++ [((⟨0, false, []⟩ : Nd), (none : Option Addr))]).set ps.length (⟨1, leaf, ks⟩, some ⟨N, 0, none⟩)) B = putF1 (foP ps B) leaf ks := by
        unfold putF1 putN
        rw [if_neg (by omega)]
        unfold foP
        simp
      have fw4 : Fw (fun i => i = q ∨ Ad a i) H H4 := ((f1.w.mono (fun _ => False.elim)).then fw (fun i hi _ => hi)).then f4.w (fun i ⟨o, e⟩ hi => by cases e; omega)
      obtain ⟨rr, hl, H', f, hh⟩ := fin m4 e4 fw4 (fun i ⟨o, e⟩ => by cases e; exact Or.inr (by omega)) (by omega)
      rw [hsl] at hl hh
      have gq3 := m3.pf.n
      simp only [List.length_append, List.length_cons, List.length_nil, Nat.zero_add, sgs] at gq3
      have hip : ps.length < ps.length + 1 := by omega
      subst hH1
      simp only [List.length_append, List.length_cons, List.length_nil, Nat.zero_add] at ha' w' gq3 w4'
      rcases hh with ⟨hf, rfl⟩ | ⟨ps', B', hf, m, rfl⟩
      · refine ⟨fun _ => ⟨H', ?_, f⟩, fun m F' e => by rw [hf] at e; cases e⟩
        simp -implicitDefEqProofs only [v154, VMs, noRef, noRef1, isRef, List.all_cons, List.all_nil, vop, VOp.still, VOp.app, VOp.plain, allP, lof, evs, start, asI, vbin, vcells, ntup, setAll, vfill, vress, vres, tup, Nat.reduceEqDiff, ↓reduceIte, Nat.reduceAdd, Nat.reduceMul, Nat.reduceLeDiff, reduceCtorEq, gq, hc, hd, hb, slen, ltc hip, ge0, decide_true, Int.toNat_natCast, vfill, ev, lk, setAll, ntup, vcells, h10, ha', w', gq3, w4', vlp, hl]
      · refine ⟨fun e => by (rw [hf] at e; cases e), fun m' F' e => ?_⟩
        rw [hf] at e; cases e
        refine ⟨H', _, ps', B', ?_, m, rfl, f, fun i ⟨o, e⟩ => by cases e; exact Or.inr (by simp)⟩
        simp -implicitDefEqProofs only [v154, VMs, noRef, noRef1, isRef, List.all_cons, List.all_nil, vop, VOp.still, VOp.app, VOp.plain, allP, lof, evs, start, asI, vbin, vcells, ntup, setAll, vfill, vress, vres, tup, Nat.reduceEqDiff, ↓reduceIte, Nat.reduceAdd, Nat.reduceMul, Nat.reduceLeDiff, reduceCtorEq, gq, hc, hd, hb, slen, ltc hip, ge0, decide_true, Int.toNat_natCast, vfill, ev, lk, setAll, ntup, vcells, h10, ha', w', gq3, w4', vlp, hl]
end Go.Proofs.Ytmcljallamhccaa.V
