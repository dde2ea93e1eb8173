/- Marks on numbers and nodes, and whether they are held. -/
import Derived.Test.YtaahjfjpbilfnaaVC2
namespace Go.Proofs.Ytaahjfjpbilfnaa.V
open Go
set_option linter.unusedVariables false
set_option linter.unusedSimpArgs false
set_option maxRecDepth 100000
theorem markInt64S_c (d lo : Nat) (H : Hp) (S : Nat → Prop) (a : Option Addr) (n : Nat) (l : List Int) (k : Int) (hr : Rep EI 1 H a n l) (hw : Own S lo H a n) (hn : Sm n) (hk : 0 ≤ k) (hk' : Km (k + (n : Int))) :
    ∃ H', vcall env (d + 1) 36 [.slice a n (sg a 1), .int .i64 k] lo H = some (.int .i64 (k + (n : Int)), H') ∧ H'.length = H.length ∧ Fr S H H' ∧ Rep EI 1 H' a n (mI n k) := by
  have hloop : ∃ r, lim (rnd (vcall env d) lo [0, 1, 5] [1, 4] l36_0) [(0, .slice a n (sg a 1)), (1, .int .i64 k), (5, .int .i64 0)] H = some r ∧ ∃ H', r = (.exit 0, [(1, .int .i64 (k + (n : Int)))], H') ∧ H'.length = H.length ∧ Fr S H H' ∧ Rep EI 1 H' a n (mI n k) := by
    refine lim_inv (fun j ts H' => ts = [(0, .slice a n (sg a 1)), (1, .int .i64 (k + (j : Int))), (5, .int .i64 (j : Int))] ∧ H'.length = H.length ∧ Fr S H H' ∧ ∀ p o, a = some ⟨p, o, none⟩ → (∀ j', j' < j → EI H' p (o + j' * 1) (k + (j' : Int))) ∧ ∀ j' x, j ≤ j' → l[j']? = some x → EI H' p (o + j' * 1) x) n ?_ ?_ ?_
    · rintro j ts H1 hj ⟨rfl, hlen, hfr, hcs⟩
      have hjl : j < l.length := by rw [← hr.1]; exact hj
      obtain ⟨p, o, rfl, e0⟩ := hr.at hjl
      obtain ⟨hwb, hsp⟩ := hw (by omega) p o rfl
      obtain ⟨hc1, hc2⟩ := hcs p o rfl
      have ej := hc2 j _ (Nat.le_refl _) (getE hjl)
      rw [Nat.mul_one] at ej
      obtain ⟨H2, hu1, u1⟩ := up1 (v := .int .i64 (k + (j : Int))) (hfr.wb _ _ hwb) ej
      have k1 : IntKind.i64.wrap (k + (j : Int) + 1) = k + ((j + 1 : Nat) : Int) := by rw [Km.w (hk'.lt (by omega) (by omega))]; omega
      refine ⟨_, H2, by simp -implicitDefEqProofs only [rnd, l36_0, VMs, noRef, noRef1, isRef, List.all_cons, List.all_nil, vop, VOp.still, VOp.app, VOp.plain, allP, lof, evs, start, asI, vbin, vcells, ntup, setAll, vfill, vress, vres, tup, Nat.reduceEqDiff, ↓reduceIte, Nat.reduceAdd, Nat.reduceMul, Nat.reduceLeDiff, reduceCtorEq, slen, ltc hj, ge0, decide_true, Int.toNat_natCast, Nat.mul_one, hu1, k1, hn.w hj], rfl, by rw [u1.len, hlen], hfr.trans (u1.fr.mono fun i e => by rw [e]; exact hsp), ?_⟩
      intro p' o' he
      cases he
      refine ⟨fun j' hj' => ?_, fun j' x hj' hx => ?_⟩
      · rcases Nat.lt_succ_iff_lt_or_eq.1 hj' with h | h
        · exact (u1.oth _ _ (by omega)).trans (hc1 j' h)
        · subst h
          rw [Nat.mul_one]; exact u1.at_
      · exact (u1.oth _ _ (by omega)).trans (hc2 j' x (by omega) hx)
    · rintro ts H1 ⟨rfl, hlen, hfr, hcs⟩
      refine ⟨_, by simp -implicitDefEqProofs only [rnd, l36_0, VMs, noRef, noRef1, isRef, List.all_cons, List.all_nil, vop, VOp.still, VOp.app, VOp.plain, allP, lof, evs, start, asI, vbin, vcells, ntup, setAll, vfill, vress, vres, tup, Nat.reduceEqDiff, ↓reduceIte, Nat.reduceAdd, Nat.reduceMul, Nat.reduceLeDiff, reduceCtorEq, slen, Int.lt_irrefl, decide_false], by simp, H1, rfl, hlen, hfr, by rw [mI_len], fun hne => ?_⟩
      have h0 : 0 < n := by rcases Nat.eq_zero_or_pos n with h | h; subst h; exact absurd rfl hne; exact h
      obtain ⟨p, o, rfl, e0⟩ := hr.at (j := 0) (by rw [← hr.1]; exact h0)
      refine ⟨p, o, rfl, fun j x hx => ?_⟩
      have hj : j < n := by have := (List.getElem?_eq_some_iff.1 hx).1; rw [mI_len] at this; exact this
      rw [mI_at hj] at hx; cases hx
      exact (hcs p o rfl).1 j hj
    · exact ⟨by simp, rfl, Fr.refl, fun p o he => ⟨fun j' h => by omega, fun j' x _ hx => by
        obtain ⟨p', o', he', h2⟩ := hr.2 (by intro e; rw [e] at hx; simp at hx)
        rw [he] at he'; cases he'
        exact h2 j' x hx⟩⟩
  obtain ⟨_, hl, H', rfl, h1, h2, h3⟩ := hloop
  refine ⟨H', ?_, h1, h2, h3⟩
  rw [call_eq find36 _ _ _ rfl]
  simp -implicitDefEqProofs only [v36, VMs, noRef, noRef1, isRef, List.all_cons, List.all_nil, vop, VOp.still, VOp.app, VOp.plain, allP, lof, evs, start, asI, vbin, vcells, ntup, setAll, vfill, vress, vres, tup, Nat.reduceEqDiff, ↓reduceIte, Nat.reduceAdd, Nat.reduceMul, Nat.reduceLeDiff, reduceCtorEq, vlp, hl]

theorem heldInt64S_c (d lo : Nat) (H : Hp) (a : Option Addr) (n : Nat) (k : Int) (hr : Rep EI 1 H a n (mI n k)) (hn : Sm n) (hk : 0 ≤ k) (hk' : Km (k + (n : Int))) :
    vcall env (d + 1) 89 [.slice a n (sg a 1), .int .i64 k] lo H = some (.int .i64 (k + (n : Int)), H) := by
  have hl := lim_up (f := rnd (vcall env d) H.length [0, 1, 5] [1, 4] l89_0) (r := (.exit 0, [(1, .int .i64 (k + (n : Int)))], H)) (by simp) (fun j => [(0, .slice a n (sg a 1)), (1, .int .i64 (k + (j : Int))), (5, .int .i64 (j : Nat))]) (fun _ => H) n
    (by simp -implicitDefEqProofs only [rnd, l89_0, VMs, noRef, noRef1, isRef, List.all_cons, List.all_nil, vop, VOp.still, VOp.app, VOp.plain, allP, lof, evs, start, asI, vbin, vcells, ntup, setAll, vfill, vress, vres, tup, Nat.reduceEqDiff, ↓reduceIte, Nat.reduceAdd, Nat.reduceMul, Nat.reduceLeDiff, reduceCtorEq, slen, Int.lt_irrefl, decide_false])
    (fun j hj => by
      have hjl : j < (mI n k).length := by rw [mI_len]; exact hj
      obtain ⟨p, o, rfl, e0⟩ := hr.at hjl
      have e1 : (mI n k)[j] = k + (j : Int) := by have := mI_at (k := k) hj; rw [getE hjl] at this; exact Option.some.inj this
      rw [e1, EI, Nat.mul_one] at e0
      have k1 : IntKind.i64.wrap (k + (j : Int) + 1) = k + ((j + 1 : Nat) : Int) := by rw [Km.w (hk'.lt (by omega) (by omega))]; omega
      simp -implicitDefEqProofs only [rnd, l89_0, VMs, noRef, noRef1, isRef, List.all_cons, List.all_nil, vop, VOp.still, VOp.app, VOp.plain, allP, lof, evs, start, asI, vbin, vcells, ntup, setAll, vfill, vress, vres, tup, Nat.reduceEqDiff, ↓reduceIte, Nat.reduceAdd, Nat.reduceMul, Nat.reduceLeDiff, reduceCtorEq, slen, ltc hj, ge0, decide_true, Int.toNat_natCast, Nat.mul_one, e0, bne_self_eq_false, k1, hn.w hj])
  simp only [Int.natCast_zero, Int.add_zero] at hl
  rw [call_eq find89 _ _ _ rfl]
  simp -implicitDefEqProofs only [v89, VMs, noRef, noRef1, isRef, List.all_cons, List.all_nil, vop, VOp.still, VOp.app, VOp.plain, allP, lof, evs, start, asI, vbin, vcells, ntup, setAll, vfill, vress, vres, tup, Nat.reduceEqDiff, ↓reduceIte, Nat.reduceAdd, Nat.reduceMul, Nat.reduceLeDiff, reduceCtorEq, vlp, hl]

/-! ### Nodes -/
def Ad (a : Option Addr) (i : Nat) : Prop := ∃ o, a = some ⟨i, o, none⟩
structure EK (H : Hp) (p o : Nat) (x : Nd) (a : Option Addr) : Prop where
  r : rd H ⟨p, o, none⟩ = some (.int .i64 x.r)
  f : rd H ⟨p, o + 1, none⟩ = some (.bool x.f)
  s : rd H ⟨p, o + 2, none⟩ = some (.slice a x.k.length (sg a 1))
  k : Rep EI 1 H a x.k.length x.k
theorem Rep.fr {T : Nat → Prop} {H H' : Hp} {a : Option Addr} {n : Nat} {l : List Int} (h : Rep V.EI 1 H a n l) (hT : ∀ i, Ad a i → ¬ T i) (hf : Fr T H H') : Rep V.EI 1 H' a n l :=
  ⟨h.1, fun hl => let ⟨i, o, ha, h2⟩ := h.2 hl; ⟨i, o, ha, fun j x hx => hf.EI (hT i ⟨o, ha⟩) (h2 j x hx)⟩⟩
theorem Rep.frB {T : Nat → Prop} {H H' : Hp} {a : Option Addr} {n : Nat} {l : List Bk} (h : Rep V.EB 2 H a n l) (hT : ∀ i, Ad a i → ¬ T i) (hf : Fr T H H') : Rep V.EB 2 H' a n l :=
  ⟨h.1, fun hl => let ⟨i, o, ha, h2⟩ := h.2 hl; ⟨i, o, ha, fun j x hx => hf.EB (hT i ⟨o, ha⟩) (h2 j x hx)⟩⟩
theorem EK.fr {T : Nat → Prop} {H H' : Hp} {p o : Nat} {x : Nd} {a : Option Addr} (h : EK H p o x a) (hp : ¬ T p) (hT : ∀ i, Ad a i → ¬ T i) (hf : Fr T H H') : EK H' p o x a :=
  ⟨(hf.rd _ _ (rd_lt h.r) hp).trans h.r, (hf.rd _ _ (rd_lt h.f) hp).trans h.f, (hf.rd _ _ (rd_lt h.s) hp).trans h.s, h.k.fr hT hf⟩
/-- Nodes in own memory: K j are the kids of the j-th. -/
structure OKN (S : Nat → Prop) (lo : Nat) (H : Hp) (p o : Nat) (K : Nat → Option Addr) (l : List Nd) : Prop where
  w : WB lo H p ∧ S p
  e : ∀ j x, l[j]? = some x → EK H p (o + j * 3) x (K j)
  own : ∀ j x, l[j]? = some x → ∀ i, Ad (K j) i → WB lo H i ∧ S i ∧ i ≠ p
  ne : ∀ j j' x x', l[j]? = some x → l[j']? = some x' → j ≠ j' → ∀ i, Ad (K j) i → ¬ Ad (K j') i
  z : ∀ j x, l[j]? = some x → ∀ A, K j = some A → A.spot = none ∧ A.off = 0
/-- A node whose kids lie in S. -/
def ENs (S : Nat → Prop) (H : Hp) (i o : Nat) (x : Nd) : Prop := S i ∧ ∃ a, EK H i o x a ∧ ∀ i, Ad a i → S i
theorem ENs.en {S : Nat → Prop} {H : Hp} {i o : Nat} {x : Nd} (h : ENs S H i o x) : EN H i o x := let ⟨_, a, e, _⟩ := h; ⟨e.r, e.f, a, _, e.s, e.k⟩
theorem ENs.fr {S T : Nat → Prop} {H H' : Hp} (hT : ∀ i, S i → ¬ T i) (hf : Fr T H H') {i o : Nat} {x : Nd} (h : ENs S H i o x) : ENs S H' i o x := let ⟨s, a, e, ha⟩ := h; ⟨s, a, e.fr (hT _ s) (fun j hj => hT _ (ha j hj)) hf, ha⟩
def ON (S : Nat → Prop) (lo : Nat) (H : Hp) (a : Option Addr) (n : Nat) (l : List Nd) : Prop := n = l.length ∧ (l ≠ [] → ∃ p o K, a = some ⟨p, o, none⟩ ∧ OKN S lo H p o K l)
def sN : List Nd → Int
  | [] => 0
  | x :: r => 2 + (x.k.length : Int) + sN r
def mN : List Nd → Int → List Nd
  | [], _ => []
  | x :: r, k => ⟨k, (k + 1).tmod 3 == 0, mI x.k.length (k + 2)⟩ :: mN r (k + 2 + (x.k.length : Int))
theorem mN_len : ∀ (l : List Nd) (k : Int), (mN l k).length = l.length
  | [], _ => rfl
  | x :: r, k => by simp [mN, mN_len r]
theorem sN_nonneg : ∀ l : List Nd, 0 ≤ sN l
  | [] => by simp [sN]
  | x :: r => by have := sN_nonneg r; simp only [sN]; omega
theorem sN_take : ∀ (l : List Nd) (j : Nat) (x : Nd), l[j]? = some x → sN (l.take (j + 1)) = sN (l.take j) + (2 + (x.k.length : Int)) ∧ sN (l.take (j + 1)) ≤ sN l
  | [], j, x, h => by simp at h
  | y :: r, 0, x, h => by simp at h; subst h; simp only [List.take_succ_cons, List.take_zero, sN]; have := sN_nonneg r; omega
  | y :: r, j + 1, x, h => by
    have ⟨h1, h2⟩ := sN_take r j x (by simpa using h)
    simp only [List.take_succ_cons, sN] at h1 h2 ⊢; omega
theorem mN_at : ∀ (l : List Nd) (k : Int) (j : Nat) (x : Nd), l[j]? = some x → (mN l k)[j]? = some ⟨k + sN (l.take j), (k + sN (l.take j) + 1).tmod 3 == 0, mI x.k.length (k + sN (l.take j) + 2)⟩
  | [], k, j, x, h => by simp at h
  | y :: r, k, 0, x, h => by simp at h; subst h; simp [mN, sN]
  | y :: r, k, j + 1, x, h => by
    have := mN_at r (k + 2 + (y.k.length : Int)) j x (by simpa using h)
    simp only [mN, List.getElem?_cons_succ, List.take_succ_cons, sN, this]
    have e : k + 2 + (y.k.length : Int) + sN (List.take j r) = k + (2 + (y.k.length : Int) + sN (List.take j r)) := by omega
    rw [e]

end Go.Proofs.Ytaahjfjpbilfnaa.V
