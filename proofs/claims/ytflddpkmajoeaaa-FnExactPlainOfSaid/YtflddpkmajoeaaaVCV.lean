/- Volumes: are they the same, marks on them, whether these are held. -/
import Derived.Test.YtflddpkmajoeaaaVC4
namespace Go.Proofs.Ytflddpkmajoeaaa.V
open Go
set_option linter.unusedVariables false
set_option linter.unusedSimpArgs false
set_option maxRecDepth 100000
structure Vo where
  i : Int
  q : Int
  r : Int
  deriving DecidableEq
def VV (b : Vo) : Value := .agg #[.int .i64 b.i, .int .i64 b.q, .int .i64 b.r]
def EV (H : Hp) (i o : Nat) (b : Vo) : Prop := rd H ⟨i, o, none⟩ = some (.int .i64 b.i) ∧ rd H ⟨i, o + 1, none⟩ = some (.int .i64 b.q) ∧ rd H ⟨i, o + 2, none⟩ = some (.int .i64 b.r)
theorem EV.val {H : Hp} {i o : Nat} {b : Vo} (h : EV H i o b) : rdN H ⟨i, o, none⟩ 3 = some [.int .i64 b.i, .int .i64 b.q, .int .i64 b.r] := rdN3 h.1 h.2.1 h.2.2
theorem EV.app {H : Hp} {l : List (Option Blk)} {i o : Nat} {x : Vo} (h : EV H i o x) : EV (H ++ l) i o x := ⟨rd_app h.1, rd_app h.2.1, rd_app h.2.2⟩
theorem Rep.frV {T : Nat → Prop} {H H' : Hp} {a : Option Addr} {n : Nat} {l : List Vo} (h : Rep EV 3 H a n l) (hT : ∀ i, Ad a i → ¬ T i) (hf : Fr T H H') : Rep EV 3 H' a n l :=
  ⟨h.1, fun hl => let ⟨i, o, ha, h2⟩ := h.2 hl; ⟨i, o, ha, fun j x hx => by
    have hi := hT i ⟨o, ha⟩
    obtain ⟨g1, g2, g3⟩ := h2 j x hx
    exact ⟨(hf.rd _ _ (rd_lt g1) hi).trans g1, (hf.rd _ _ (rd_lt g2) hi).trans g2, (hf.rd _ _ (rd_lt g3) hi).trans g3⟩⟩⟩
def mV (n : Nat) (k : Int) : List Vo := (List.range n).map fun (j : Nat) => ⟨k + 3 * (j : Int), k + 3 * (j : Int) + 1, k + 3 * (j : Int) + 2⟩
theorem mV_len (n : Nat) (k : Int) : (mV n k).length = n := by simp [mV]
theorem mV_at {n : Nat} {k : Int} {j : Nat} (h : j < n) : (mV n k)[j]? = some ⟨k + 3 * (j : Int), k + 3 * (j : Int) + 1, k + 3 * (j : Int) + 2⟩ := by simp [mV, h]
theorem eqVol_c (d lo : Nat) (H : Hp) (a b : Vo) : vcall env (d + 1) 110 [VV a, VV b] lo H = some (.bool (decide (a = b)), H) := by
  rw [call_eq find110 _ _ _ rfl]
  obtain ⟨r, x, y⟩ := a
  obtain ⟨r', x', y'⟩ := b
  simp -implicitDefEqProofs only [VV, v110, VMs, noRef, noRef1, isRef, List.all_cons, List.all_nil, vop, VOp.still, VOp.app, VOp.plain, allP, lof, evs, start, asI, vbin, vcells, ntup, setAll, vfill, vress, vres, tup, Nat.reduceEqDiff, ↓reduceIte, Nat.reduceAdd, Nat.reduceMul, Nat.reduceLeDiff, reduceCtorEq]
  by_cases h1 : r = r' <;> by_cases h2 : x = x' <;> by_cases h3 : y = y' <;> simp [h1, h2, h3]
theorem eqVolS_c (d lo : Nat) (H : Hp) (a b : Option Addr) (n m : Nat) (la lb : List Vo) (ha : Rep EV 3 H a n la) (hb : Rep EV 3 H b m lb) (hn : Sm n) :
    vcall env (d + 2) 65 [.slice a n (sg a 3), .slice b m (sg b 3)] lo H = some (.bool (decide (la = lb)), H) := by
  rw [call_eq find65 _ _ _ rfl]
  by_cases hnm : n = m
  · subst hnm
    have hl := lim_all (f := rnd (vcall env (d + 1)) H.length [0, 1, 5] [4] l65_0) (R := (.exit 0, [], H)) (E := (.ret, [(4, .bool false)], H)) (by simp) (by simp) (fun i => [(0, .slice a n (sg a 3)), (1, .slice b n (sg b 3)), (5, .int .i64 (i : Nat))]) H n (fun i => la[i]? = lb[i]?)
      (by simp -implicitDefEqProofs only [rnd, l65_0, VMs, noRef, noRef1, isRef, List.all_cons, List.all_nil, vop, VOp.still, VOp.app, VOp.plain, allP, lof, evs, start, asI, vbin, vcells, ntup, setAll, vfill, vress, vres, tup, Nat.reduceEqDiff, ↓reduceIte, Nat.reduceAdd, Nat.reduceMul, Nat.reduceLeDiff, reduceCtorEq, slen, Int.lt_irrefl, decide_false])
      (fun i hi => by
        have hla : i < la.length := by rw [← ha.1]; exact hi
        have hlb : i < lb.length := by rw [← hb.1]; exact hi
        obtain ⟨i1, o1, rfl, e1⟩ := ha.at hla
        obtain ⟨i2, o2, rfl, e2⟩ := hb.at hlb
        have hc := eqVol_c d H.length H la[i] lb[i]
        simp only [VV] at hc
        simp -implicitDefEqProofs only [rnd, l65_0, VMs, noRef, noRef1, isRef, List.all_cons, List.all_nil, vop, VOp.still, VOp.app, VOp.plain, allP, lof, evs, start, asI, vbin, vcells, ntup, setAll, vfill, vress, vres, tup, Nat.reduceEqDiff, ↓reduceIte, Nat.reduceAdd, Nat.reduceMul, Nat.reduceLeDiff, reduceCtorEq, slen, ltc hi, ge0, decide_true, e1.val, e2.val, Int.toNat_natCast, hc, hn.w hi, getE hla, getE hlb, Option.some.injEq]
        by_cases h : la[i] = lb[i] <;> simp [h])
      (all_eq ha.1 hb.1)
    simp only [Int.natCast_zero] at hl
    simp -implicitDefEqProofs only [v65, VMs, noRef, noRef1, isRef, List.all_cons, List.all_nil, vop, VOp.still, VOp.app, VOp.plain, allP, lof, evs, start, asI, vbin, vcells, ntup, setAll, vfill, vress, vres, tup, Nat.reduceEqDiff, ↓reduceIte, Nat.reduceAdd, Nat.reduceMul, Nat.reduceLeDiff, reduceCtorEq, slen, bne_self_eq_false, vlp, hl]
    by_cases h : la = lb <;> simp -implicitDefEqProofs only [h, decide_true, decide_false, VMs, noRef, noRef1, isRef, List.all_cons, List.all_nil, vop, VOp.still, VOp.app, VOp.plain, allP, lof, evs, start, asI, vbin, vcells, ntup, setAll, vfill, vress, vres, tup, Nat.reduceEqDiff, ↓reduceIte, Nat.reduceAdd, Nat.reduceMul, Nat.reduceLeDiff, reduceCtorEq]
  · have hne : la ≠ lb := by intro e; subst e; exact hnm (ha.1.trans hb.1.symm)
    have h1 : ((n : Int) != (m : Int)) = true := by simp; omega
    simp -implicitDefEqProofs only [v65, VMs, noRef, noRef1, isRef, List.all_cons, List.all_nil, vop, VOp.still, VOp.app, VOp.plain, allP, lof, evs, start, asI, vbin, vcells, ntup, setAll, vfill, vress, vres, tup, Nat.reduceEqDiff, ↓reduceIte, Nat.reduceAdd, Nat.reduceMul, Nat.reduceLeDiff, reduceCtorEq, slen, h1, hne, decide_false]

theorem markVolS_c (d lo : Nat) (H : Hp) (S : Nat → Prop) (a : Option Addr) (n : Nat) (l : List Vo) (k : Int) (hr : Rep EV 3 H a n l) (hw : Own S lo H a n) (hn : Sm n) (hk : 0 ≤ k) (hk' : Km (k + 3 * (n : Int))) :
    ∃ H', vcall env (d + 1) 88 [.slice a n (sg a 3), .int .i64 k] lo H = some (.int .i64 (k + 3 * (n : Int)), H') ∧ H'.length = H.length ∧ Fr S H H' ∧ Rep EV 3 H' a n (mV n k) := by
  have hloop : ∃ r, lim (rnd (vcall env d) lo [0, 1, 5] [1, 4] l88_0) [(0, .slice a n (sg a 3)), (1, .int .i64 k), (5, .int .i64 0)] H = some r ∧ ∃ H', r = (.exit 0, [(1, .int .i64 (k + 3 * (n : Int)))], H') ∧ H'.length = H.length ∧ Fr S H H' ∧ Rep EV 3 H' a n (mV n k) := by
    refine lim_inv (fun j ts H' => ts = [(0, .slice a n (sg a 3)), (1, .int .i64 (k + 3 * (j : Int))), (5, .int .i64 (j : Int))] ∧ H'.length = H.length ∧ Fr S H H' ∧ ∀ p o, a = some ⟨p, o, none⟩ → (∀ j', j' < j → EV H' p (o + j' * 3) ⟨k + 3 * (j' : Int), k + 3 * (j' : Int) + 1, k + 3 * (j' : Int) + 2⟩) ∧ ∀ j' x, j ≤ j' → l[j']? = some x → EV H' p (o + j' * 3) x) n ?_ ?_ ?_
    · rintro j ts H1 hj ⟨rfl, hlen, hfr, hcs⟩
      have hjl : j < l.length := by rw [← hr.1]; exact hj
      obtain ⟨p, o, rfl, e0⟩ := hr.at hjl
      obtain ⟨hwb, hsp⟩ := hw (by omega) p o rfl
      obtain ⟨hc1, hc2⟩ := hcs p o rfl
      have ej := hc2 j _ (Nat.le_refl _) (getE hjl)
      obtain ⟨H2, hu1, u1⟩ := up1 (v := .int .i64 (k + 3 * (j : Int))) (hfr.wb _ _ hwb) ej.1
      obtain ⟨H3, hu2, u2⟩ := up1 (v := .int .i64 (k + 3 * (j : Int) + 1)) (u1.wb _ _ (hfr.wb _ _ hwb)) ((u1.oth p (o + j * 3 + 1) (by omega)).trans ej.2.1)
      obtain ⟨H4, hu3, u3⟩ := up1 (v := .int .i64 (k + 3 * (j : Int) + 2)) (u2.wb _ _ (u1.wb _ _ (hfr.wb _ _ hwb))) ((u2.oth p (o + j * 3 + 2) (by omega)).trans ((u1.oth p (o + j * 3 + 2) (by omega)).trans ej.2.2))
      have k1 : IntKind.i64.wrap (k + 3 * (j : Int) + 1) = k + 3 * (j : Int) + 1 := Km.w (hk'.lt (by omega) (by omega))
      have k2 : IntKind.i64.wrap (k + 3 * (j : Int) + 1 + 1) = k + 3 * (j : Int) + 2 := by rw [Km.w (hk'.lt (by omega) (by omega))]; omega
      have k3 : IntKind.i64.wrap (k + 3 * (j : Int) + 2 + 1) = k + 3 * ((j + 1 : Nat) : Int) := by rw [Km.w (hk'.lt (by omega) (by omega))]; omega
      refine ⟨_, H4, by simp -implicitDefEqProofs only [rnd, l88_0, VMs, noRef, noRef1, isRef, List.all_cons, List.all_nil, vop, VOp.still, VOp.app, VOp.plain, allP, lof, evs, start, asI, vbin, vcells, ntup, setAll, vfill, vress, vres, tup, Nat.reduceEqDiff, ↓reduceIte, Nat.reduceAdd, Nat.reduceMul, Nat.reduceLeDiff, reduceCtorEq, slen, ltc hj, ge0, decide_true, Int.toNat_natCast, hu1, hu2, hu3, k1, k2, k3, hn.w hj], rfl, by rw [u3.len, u2.len, u1.len, hlen], hfr.trans (((u1.fr.trans u2.fr).trans u3.fr).mono fun i e => by rw [e]; exact hsp), ?_⟩
      intro p' o' he
      cases he
      have q : ∀ z, z < o + j * 3 ∨ o + j * 3 + 2 < z → rd H4 ⟨p, z, none⟩ = rd H1 ⟨p, z, none⟩ := fun z hz => (u3.oth _ _ (by omega)).trans ((u2.oth _ _ (by omega)).trans (u1.oth _ _ (by omega)))
      refine ⟨fun j' hj' => ?_, fun j' x hj' hx => ?_⟩
      · rcases Nat.lt_succ_iff_lt_or_eq.1 hj' with h | h
        · obtain ⟨g1, g2, g3⟩ := hc1 j' h
          exact ⟨(q _ (by omega)).trans g1, (q _ (by omega)).trans g2, (q _ (by omega)).trans g3⟩
        · subst h
          exact ⟨(u3.oth _ _ (by omega)).trans ((u2.oth _ _ (by omega)).trans u1.at_), (u3.oth _ _ (by omega)).trans u2.at_, u3.at_⟩
      · obtain ⟨g1, g2, g3⟩ := hc2 j' x (by omega) hx
        exact ⟨(q _ (by omega)).trans g1, (q _ (by omega)).trans g2, (q _ (by omega)).trans g3⟩
    · rintro ts H1 ⟨rfl, hlen, hfr, hcs⟩
      refine ⟨_, by simp -implicitDefEqProofs only [rnd, l88_0, VMs, noRef, noRef1, isRef, List.all_cons, List.all_nil, vop, VOp.still, VOp.app, VOp.plain, allP, lof, evs, start, asI, vbin, vcells, ntup, setAll, vfill, vress, vres, tup, Nat.reduceEqDiff, ↓reduceIte, Nat.reduceAdd, Nat.reduceMul, Nat.reduceLeDiff, reduceCtorEq, slen, Int.lt_irrefl, decide_false], by simp, H1, rfl, hlen, hfr, by rw [mV_len], fun hne => ?_⟩
      have h0 : 0 < n := by rcases Nat.eq_zero_or_pos n with h | h; subst h; exact absurd rfl hne; exact h
      obtain ⟨p, o, rfl, e0⟩ := hr.at (j := 0) (by rw [← hr.1]; exact h0)
      refine ⟨p, o, rfl, fun j x hx => ?_⟩
      have hj : j < n := by have := (List.getElem?_eq_some_iff.1 hx).1; rw [mV_len] at this; exact this
      rw [mV_at hj] at hx; cases hx
      exact (hcs p o rfl).1 j hj
    · exact ⟨by simp, rfl, Fr.refl, fun p o he => ⟨fun j' h => by omega, fun j' x _ hx => by
        obtain ⟨p', o', he', h2⟩ := hr.2 (by intro e; rw [e] at hx; simp at hx)
        rw [he] at he'; cases he'
        exact h2 j' x hx⟩⟩
  obtain ⟨_, hl, H', rfl, h1, h2, h3⟩ := hloop
  refine ⟨H', ?_, h1, h2, h3⟩
  rw [call_eq find88 _ _ _ rfl]
  simp -implicitDefEqProofs only [v88, VMs, noRef, noRef1, isRef, List.all_cons, List.all_nil, vop, VOp.still, VOp.app, VOp.plain, allP, lof, evs, start, asI, vbin, vcells, ntup, setAll, vfill, vress, vres, tup, Nat.reduceEqDiff, ↓reduceIte, Nat.reduceAdd, Nat.reduceMul, Nat.reduceLeDiff, reduceCtorEq, vlp, hl]
theorem heldVolS_c (d lo : Nat) (H : Hp) (a : Option Addr) (n : Nat) (k : Int) (hr : Rep EV 3 H a n (mV n k)) (hn : Sm n) (hk : 0 ≤ k) (hk' : Km (k + 3 * (n : Int))) :
    vcall env (d + 1) 135 [.slice a n (sg a 3), .int .i64 k] lo H = some (.int .i64 (k + 3 * (n : Int)), H) := by
  have hl := lim_up (f := rnd (vcall env d) H.length [0, 1, 5] [1, 4] l135_0) (r := (.exit 0, [(1, .int .i64 (k + 3 * (n : Int)))], H)) (by simp) (fun j => [(0, .slice a n (sg a 3)), (1, .int .i64 (k + 3 * (j : Int))), (5, .int .i64 (j : Nat))]) (fun _ => H) n
    (by simp -implicitDefEqProofs only [rnd, l135_0, VMs, noRef, noRef1, isRef, List.all_cons, List.all_nil, vop, VOp.still, VOp.app, VOp.plain, allP, lof, evs, start, asI, vbin, vcells, ntup, setAll, vfill, vress, vres, tup, Nat.reduceEqDiff, ↓reduceIte, Nat.reduceAdd, Nat.reduceMul, Nat.reduceLeDiff, reduceCtorEq, slen, Int.lt_irrefl, decide_false])
    (fun j hj => by
      have hjl : j < (mV n k).length := by rw [mV_len]; exact hj
      obtain ⟨p, o, rfl, e0⟩ := hr.at hjl
      have e1 : (mV n k)[j] = ⟨k + 3 * (j : Int), k + 3 * (j : Int) + 1, k + 3 * (j : Int) + 2⟩ := by have := mV_at (k := k) hj; rw [getE hjl] at this; exact Option.some.inj this
      rw [e1] at e0
      obtain ⟨g1, g2, g3⟩ := e0
      simp only at g1 g2 g3
      have k1 : IntKind.i64.wrap (k + 3 * (j : Int) + 1) = k + 3 * (j : Int) + 1 := Km.w (hk'.lt (by omega) (by omega))
      have k2 : IntKind.i64.wrap (k + 3 * (j : Int) + 1 + 1) = k + 3 * (j : Int) + 2 := by rw [Km.w (hk'.lt (by omega) (by omega))]; omega
      have k3 : IntKind.i64.wrap (k + 3 * (j : Int) + 2 + 1) = k + 3 * ((j + 1 : Nat) : Int) := by rw [Km.w (hk'.lt (by omega) (by omega))]; omega
      simp -implicitDefEqProofs only [rnd, l135_0, VMs, noRef, noRef1, isRef, List.all_cons, List.all_nil, vop, VOp.still, VOp.app, VOp.plain, allP, lof, evs, start, asI, vbin, vcells, ntup, setAll, vfill, vress, vres, tup, Nat.reduceEqDiff, ↓reduceIte, Nat.reduceAdd, Nat.reduceMul, Nat.reduceLeDiff, reduceCtorEq, slen, ltc hj, ge0, decide_true, Int.toNat_natCast, g1, g2, g3, bne_self_eq_false, k1, k2, k3, hn.w hj])
  simp only [Int.natCast_zero, Int.mul_zero, Int.add_zero] at hl
  rw [call_eq find135 _ _ _ rfl]
  simp -implicitDefEqProofs only [v135, VMs, noRef, noRef1, isRef, List.all_cons, List.all_nil, vop, VOp.still, VOp.app, VOp.plain, allP, lof, evs, start, asI, vbin, vcells, ntup, setAll, vfill, vress, vres, tup, Nat.reduceEqDiff, ↓reduceIte, Nat.reduceAdd, Nat.reduceMul, Nat.reduceLeDiff, reduceCtorEq, vlp, hl]

/-! ### Pools -/
structure Po where
  f : Fo
  v : List Vo
  deriving DecidableEq
structure RPs (U : Nat → Prop) (H : Hp) (an : Option Addr) (nn : Nat) (ab : Option Addr) (nb : Nat) (av : Option Addr) (nv : Nat) (p : Po) : Prop where
  f : RFs U H an nn ab nb p.f
  v : Rep EV 3 H av nv p.v
  a : ∀ i, Ad av i → U i
structure RP' (H : Hp) (an : Option Addr) (nn : Nat) (ab : Option Addr) (nb : Nat) (av : Option Addr) (nv : Nat) (p : Po) : Prop where
  f : RF H an nn ab nb p.f
  v : Rep EV 3 H av nv p.v
theorem RPs.rp {U : Nat → Prop} {H : Hp} {an nn ab nb av nv p} (h : RPs U H an nn ab nb av nv p) : RP' H an nn ab nb av nv p := ⟨h.f.rf, h.v⟩
theorem RPs.fr {U T : Nat → Prop} {H H' : Hp} {an nn ab nb av nv p} (h : RPs U H an nn ab nb av nv p) (hT : ∀ i, U i → ¬ T i) (hf : Fr T H H') : RPs U H' an nn ab nb av nv p :=
  ⟨h.f.fr hT hf, h.v.frV (fun i hi => hT _ (h.a i hi)) hf, h.a⟩
theorem RP'.app {H : Hp} {l : List (Option Blk)} {an nn ab nb av nv p} (h : RP' H an nn ab nb av nv p) : RP' (H ++ l) an nn ab nb av nv p := ⟨h.f.app, h.v.app fun _ _ _ => EV.app⟩
structure SP (p : Po) : Prop where
  f : SF p.f
  v : Sm p.v.length
theorem eqPool_c (d lo : Nat) (H : Hp) {an nn ab nb av nv an' nn' ab' nb' av' nv'} {p q : Po} (hp : RP' H an nn ab nb av nv p) (hq : RP' H an' nn' ab' nb' av' nv' q) (hs : SP p) :
    vcall env (d + 5) 30 [.agg #[.slice an nn (sg an 3), .slice ab nb (sg ab 2), .slice av nv (sg av 3)], .agg #[.slice an' nn' (sg an' 3), .slice ab' nb' (sg ab' 2), .slice av' nv' (sg av' 3)]] lo H = some (.bool (decide (p = q)), H) := by
  rw [call_eq find30 _ _ _ rfl]
  have c1 := fun l => eqForest_c d H.length (H ++ l) hp.app.f hq.app.f hs.f
  have c2 := fun l => eqVolS_c (d + 2) H.length (H ++ l) av av' nv nv' p.v q.v hp.app.v hq.app.v (hp.v.1 ▸ hs.v)
  simp -implicitDefEqProofs only [v30, VMs, noRef, noRef1, isRef, List.all_cons, List.all_nil, vop, VOp.still, VOp.app, VOp.plain, allP, lof, evs, start, asI, vbin, vcells, ntup, setAll, vfill, vress, vres, tup, Nat.reduceEqDiff, ↓reduceIte, Nat.reduceAdd, Nat.reduceMul, Nat.reduceLeDiff, reduceCtorEq, c1, c2]
  obtain ⟨n, b⟩ := p
  obtain ⟨n', b'⟩ := q
  by_cases h1 : n = n' <;> by_cases h2 : b = b' <;> simp [h1, h2]
/-- A pool in own memory. -/
structure PO (lo : Nat) (H : Hp) (S T U : Nat → Prop) (an : Option Addr) (nn : Nat) (ab : Option Addr) (nb : Nat) (av : Option Addr) (nv : Nat) (p : Po) : Prop where
  f : FO lo H S T an nn ab nb p.f
  v : Rep EV 3 H av nv p.v
  o : ∀ i, Ad av i → WB lo H i ∧ U i
  d : ∀ i, S i ∨ T i → ¬ U i
  lt : ∀ i, U i → i < H.length
theorem PO.fr {lo : Nat} {H H' : Hp} {S T U X : Nat → Prop} {an nn ab nb av nv p} (h : PO lo H S T U an nn ab nb av nv p) (hX : ∀ i, S i ∨ T i ∨ U i → ¬ X i) (hf : Fr X H H') : PO lo H' S T U an nn ab nb av nv p :=
  ⟨h.f.fr (fun i hi => hX i (by rcases hi with hi | hi; exact Or.inl hi; exact Or.inr (Or.inl hi))) hf, h.v.frV (fun i hi => hX i (Or.inr (Or.inr (h.o i hi).2))) hf, fun i hi => ⟨hf.wb _ _ (h.o i hi).1, (h.o i hi).2⟩, h.d, fun i hi => Nat.lt_of_lt_of_le (h.lt i hi) hf.len⟩
theorem PO.lo {lo lo' : Nat} {H : Hp} {S T U : Nat → Prop} {an nn ab nb av nv p} (h : PO lo H S T U an nn ab nb av nv p) (hl : lo' ≤ lo) : PO lo' H S T U an nn ab nb av nv p :=
  ⟨h.f.lo hl, h.v, fun i hi => ⟨(h.o i hi).1.lo hl, (h.o i hi).2⟩, h.d, h.lt⟩
theorem PO.rps {lo : Nat} {H : Hp} {S T U : Nat → Prop} {an nn ab nb av nv p} (h : PO lo H S T U an nn ab nb av nv p) : RPs (fun i => S i ∨ T i ∨ U i) H an nn ab nb av nv p :=
  ⟨h.f.rfs.mono fun i hi => by rcases hi with hi | hi; exact Or.inl hi; exact Or.inr (Or.inl hi), h.v, fun i hi => Or.inr (Or.inr (h.o i hi).2)⟩
def mP (p : Po) (k : Int) : Po := ⟨mF p.f k, mV p.v.length (k + sF p.f)⟩
def sP (p : Po) : Int := sF p.f + 3 * (p.v.length : Int)
theorem sP_nonneg (p : Po) : 0 ≤ sP p := by have := sF_nonneg p.f; unfold sP; omega
theorem markPool_c (d lo : Nat) (H : Hp) (S T U : Nat → Prop) {an nn ab nb av nv p} (k : Int) (h : PO lo H S T U an nn ab nb av nv p) (hs : SP p) (hk : 0 ≤ k) (hk' : Km (k + sP p)) :
    ∃ H', vcall env (d + 4) 41 [.agg #[.slice an nn (sg an 3), .slice ab nb (sg ab 2), .slice av nv (sg av 3)], .int .i64 k] lo H = some (.int .i64 (k + sP p), H') ∧ Fr (fun i => S i ∨ T i ∨ U i) H H' ∧ RPs (fun i => S i ∨ T i ∨ U i) H' an nn ab nb av nv (mP p k) := by
  have sn := sF_nonneg p.f
  have h1 := h.fr (X := fun _ => False) (fun i _ => id) (Fr.app (l := [some ⟨[.slice an nn (sg an 3), .slice ab nb (sg ab 2), .slice av nv (sg av 3)], true, false⟩]))
  obtain ⟨H1, c1, f1, r1⟩ := markForest_c d lo _ S T k h1.f hs.f hk (hk'.lt (by omega) (by unfold sP; omega))
  have hv1 := h1.v.frV (T := fun i => S i ∨ T i) (fun i hi hs => h.d i hs (h.o i hi).2) f1
  obtain ⟨H2, c2, l2, f2, r2⟩ := markVolS_c (d + 2) lo H1 U av nv p.v (k + sF p.f) hv1 (ON.own fun i hi => ⟨f1.wb _ _ (h1.o i hi).1, (h1.o i hi).2⟩) (h.v.1 ▸ hs.v) (by omega) (by have := hk'; unfold sP at this; rw [← h.v.1, ← Int.add_assoc] at this; exact this)
  have hrd : rd H1 ⟨H.length, 2, none⟩ = some (.slice av nv (sg av 3)) := (f1.rd _ _ (by simp) (fun hs => Nat.lt_irrefl _ (h.f.lt _ hs))).trans (by simp [rd0])
  refine ⟨H2, ?_, Fr.trans Fr.app ((f1.mono fun i hi => by rcases hi with hi | hi; exact Or.inl hi; exact Or.inr (Or.inl hi)).trans (f2.mono fun i hi => Or.inr (Or.inr hi))), (r1.fr (fun i hs => h.d i hs) f2).mono (fun i hi => by rcases hi with hi | hi; exact Or.inl hi; exact Or.inr (Or.inl hi)), ?_, fun i hi => Or.inr (Or.inr (h.o i hi).2)⟩
  · rw [call_eq find41 _ _ _ rfl]
    simp -implicitDefEqProofs only [v41, VMs, noRef, noRef1, isRef, List.all_cons, List.all_nil, vop, VOp.still, VOp.app, VOp.plain, allP, lof, evs, start, asI, vbin, vcells, ntup, setAll, vfill, vress, vres, tup, Nat.reduceEqDiff, ↓reduceIte, Nat.reduceAdd, Nat.reduceMul, Nat.reduceLeDiff, reduceCtorEq, c1, c2, hrd, sP]
    rw [h.v.1, Int.add_assoc]
  · unfold mP; rw [← h.v.1]; exact r2
end Go.Proofs.Ytflddpkmajoeaaa.V
