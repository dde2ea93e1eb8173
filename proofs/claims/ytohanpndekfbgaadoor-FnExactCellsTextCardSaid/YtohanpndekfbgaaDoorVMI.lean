/- What arguments read as: blocks of the machine that may not be written, out of the row's reading. -/
import Derived.Test.YtohanpndekfbgaaDoorVB
import Derived.SizedLaws
import Derived.ChangeShapes
import Derived.ChangeSlices
import Derived.WideShapes
namespace Go.Proofs.YtohanpndekfbgaaDoor.V
open Go
variable {TT : List (Nat × Obj)}
set_option linter.unusedVariables false
set_option linter.unusedSimpArgs false

structure SimR (μ : Mu) (H : Hp) (w : World) : Prop where
  dom : ∀ i m, μ i = some m → i < H.length
  blk : ∀ i, i < H.length → ∃ b m, H[i]? = some (some b) ∧ μ i = some m ∧ b.rw = false ∧ BOK μ b m w
theorem SimR.sim {μ : Mu} {H : Hp} {w : World} (h : SimR μ H w) (ht : ∀ x, x ∈ TT → w.heap[x.1]? = some x.2) : Sim TT μ H w :=
  ⟨h.dom, fun i b hb => by
    obtain ⟨b', m, h1, h2, _, h3⟩ := h.blk i (List.getElem?_eq_some_iff.1 hb).1
    rw [hb] at h1; cases h1
    exact ⟨m, h2, h3⟩, fun i j bi bj mi mj _ hi _ hrw => by
    obtain ⟨b', m, h1, _, h3, _⟩ := h.blk i (List.getElem?_eq_some_iff.1 hi).1
    rw [hi] at h1; cases h1
    rw [h3] at hrw; exact Bool.noConfusion hrw, fun x hx => ⟨ht x hx, fun i b m hb hr _ => by
    obtain ⟨b', m', h1, _, h3, _⟩ := h.blk i (List.getElem?_eq_some_iff.1 hb).1
    rw [hb] at h1; cases h1
    rw [h3] at hr; cases hr⟩⟩
theorem SimR.nil (w : World) : SimR (fun _ => none) [] w := ⟨fun i m h => (by cases h), fun i h => (by simp at h)⟩
theorem SimR.ext {μ : Mu} {H : Hp} {w : World} (h : SimR μ H w) (m : MA) : Ext μ (upd μ H.length m) := fun i x hx => by
  rw [upd_ne (by have := h.dom i x hx; omega)]; exact hx
theorem SimR.add {μ : Mu} {H : Hp} {w : World} (h : SimR μ H w) {cs : List Value} {m : MA} (hc : ∀ (j : Nat) c, cs[j]? = some c → ∃ r, w.cell? ⟨m.b, m.o + j, none⟩ = some r ∧ RC μ c r) : SimR (upd μ H.length m) (H ++ [some ⟨cs, false, false⟩]) w := by
  have he := h.ext m
  refine ⟨fun i x hx => ?_, fun i hi => ?_⟩
  · by_cases hi : i = H.length
    · simp [hi]
    · rw [upd_ne hi] at hx; have := h.dom i x hx; simp; omega
  · by_cases hi' : i = H.length
    · subst hi'
      exact ⟨⟨cs, false, false⟩, m, by simp, upd_same _ _ _, rfl, ⟨fun j c hj => let ⟨r, h1, h2⟩ := hc j c hj; ⟨r, h1, RC.ext he h2⟩, fun h => by simp at h, fun h => by simp at h⟩⟩
    · have hl : i < H.length := by simp at hi; omega
      obtain ⟨b, m', h1, h2, h3, h4⟩ := h.blk i hl
      exact ⟨b, m', by rw [List.getElem?_append_left hl]; exact h1, he _ _ h2, h3, BOK.ext he h4⟩

/-- Whatever reads as type t has cells that the machine has, too; what they are is told by q. -/
structure Opn {α : Type} (P : Program) (t : TypeId) (sz : Nat) (q : Hp → List Value → α → Prop) (G : α → Prop) : Prop where
  size : P.cellsOf t = sz
  mono : ∀ {H : Hp} {l : List (Option Blk)} {vs : List Value} {x : α}, q H vs x → q (H ++ l) vs x
  go : ∀ {HH : Type} {enc : TypeId × Value → HH} {w : World} {base fuel : Nat} {spare : Nat → Bool} {held : Bool} {cs : List Value} {x : DataW HH × List MemPlace},
    DataW.trod enc P w base spare held fuel t cs = some x → (∀ n ∈ x.1.weights P t, n ≤ reachBytes) → ∃ a, G a ∧ ∀ (μ : Mu) (H : Hp), SimR μ H w → ∃ vs l μ', SimR μ' (H ++ l) w ∧ Ext μ μ' ∧ L2 (RC μ') vs cs ∧ vs.length = sz ∧ q (H ++ l) vs a
theorem Opn.int {P : Program} {t : TypeId} {k : IntKind} (ht : P.underlying t = some (.int k)) (hc : P.cellsOf t = 1) : Opn P t 1 (fun _ vs n => vs = [.int k n]) (fun n => (Lit.int k n).wf = true) :=
  ⟨hc, id, fun h _ => by
    obtain ⟨n, rfl, rfl, hw⟩ := DataW.trod_int ht h
    exact ⟨n, hw, fun μ H hs => ⟨[.int k n], [], μ, by rw [List.append_nil]; exact hs, Ext.refl _, .cons rfl .nil, rfl, rfl⟩⟩⟩
theorem Opn.bool {P : Program} {t : TypeId} (ht : P.underlying t = some .bool) (hc : P.cellsOf t = 1) : Opn P t 1 (fun _ vs n => vs = [.bool n]) (fun _ => True) :=
  ⟨hc, id, fun h _ => by
    obtain ⟨n, rfl, rfl⟩ := DataW.trod_bool ht h
    exact ⟨n, trivial, fun μ H hs => ⟨[.bool n], [], μ, by rw [List.append_nil]; exact hs, Ext.refl _, .cons rfl .nil, rfl, rfl⟩⟩⟩
theorem Opn.conv {α β : Type} {P : Program} {t : TypeId} {sz : Nat} {q : Hp → List Value → α → Prop} {G : α → Prop} (h : Opn P t sz q G) (f : α → β) {q' : Hp → List Value → β → Prop} {G' : β → Prop} (hq : ∀ H vs x, q H vs x → q' H vs (f x)) (hm : ∀ {H : Hp} {l : List (Option Blk)} {vs : List Value} {x : β}, q' H vs x → q' (H ++ l) vs x) (hG : ∀ a, G a → G' (f a)) : Opn P t sz q' G' :=
  ⟨h.size, hm, fun hx hw => by
    obtain ⟨a, hg, ha⟩ := h.go hx hw
    refine ⟨f a, hG a hg, fun μ H hs => ?_⟩
    obtain ⟨vs, l, μ', h1, h2, h3, h4, h5⟩ := ha μ H hs
    exact ⟨vs, l, μ', h1, h2, h3, h4, hq _ _ _ h5⟩⟩
theorem weightsAll_mem {H : Type} {P : Program} {e : TypeId} {n : Nat} : ∀ {l : List (DataW H)} {d : DataW H}, d ∈ l → n ∈ d.weights P e → n ∈ DataW.weightsAll P e l
  | d :: r, d', hd, hn => by
    simp only [DataW.weightsAll, List.mem_append]
    rcases List.mem_cons.1 hd with rfl | hd
    · exact .inl hn
    · exact .inr (weightsAll_mem hd hn)
theorem add_add (a : Addr) (i j : Nat) : (a.add i).add j = a.add (i + j) := by
  unfold Addr.add
  by_cases h1 : i = 0 <;> by_cases h2 : j = 0 <;> simp [h1, h2, Nat.add_assoc]
theorem add_none {a : Addr} (h : a.spot = none) (j : Nat) : a.add j = ⟨a.block, a.off + j, none⟩ := by
  unfold Addr.add
  by_cases h1 : j = 0
  · subst h1; cases a; simp only at h; subst h; rfl
  · rw [if_neg h1]
/-- A slice in the machine, each element as q tells. -/
def QS {α : Type} (q : Hp → List Value → α → Prop) (st : Nat) (H : Hp) (vs : List Value) (xs : List α) : Prop :=
  ∃ a, vs = [.slice a xs.length (sg a st)] ∧ (xs ≠ [] → ∃ i, a = some ⟨i, 0, none⟩ ∧ ∀ (j : Nat) x, xs[j]? = some x → ∃ ws, ws.length = st ∧ q H ws x ∧ ∀ k, k < st → rd H ⟨i, j * st + k, none⟩ = ws[k]?)
theorem QS.mono {α : Type} {q : Hp → List Value → α → Prop} {st : Nat} (hq : ∀ {H : Hp} {l : List (Option Blk)} {vs : List Value} {x : α}, q H vs x → q (H ++ l) vs x) {H : Hp} {l : List (Option Blk)} {vs : List Value} {xs : List α} (h : QS q st H vs xs) : QS q st (H ++ l) vs xs := by
  obtain ⟨a, rfl, h2⟩ := h
  refine ⟨a, rfl, fun hx => ?_⟩
  obtain ⟨i, rfl, h3⟩ := h2 hx
  refine ⟨i, rfl, fun j x hj => ?_⟩
  obtain ⟨ws, h4, h5, h6⟩ := h3 j x hj
  refine ⟨ws, h4, hq h5, fun k hk => ?_⟩
  have := h6 k hk
  rw [List.getElem?_eq_getElem (by omega)] at this ⊢
  exact rd_app this
theorem Opn.slice {α : Type} {P : Program} {t e : TypeId} {st : Nat} {q : Hp → List Value → α → Prop} {G : α → Prop} (ht : P.underlying t = some (.slice e)) (hc : P.cellsOf t = 1) {B : Nat} (hB : P.bytesOf e = B) (hst : 0 < st) (he : Opn P e st q G) :
    Opn P t 1 (QS q st) (fun xs => xs.length * B ≤ 140737488351232 ∧ ∀ x ∈ xs, G x) := by
  refine ⟨hc, QS.mono he.mono, fun {HH enc w base fuel spare held cs x} h hw => ?_⟩
  rcases DataW.trod_slice ht h with ⟨rfl, rfl⟩ | ⟨a, len, cap, elems, rest, n, _, rfl, rfl, hb, hl, hm, hlen, hel, _, _⟩
  · exact ⟨[], ⟨by simp, fun x hx => by simp at hx⟩, fun μ H hs => ⟨[.slice none 0 0], [], μ, by rw [List.append_nil]; exact hs, Ext.refl _, .cons ⟨rfl, rfl⟩ .nil, rfl, none, rfl, fun h => absurd rfl h⟩⟩
  · have each : ∀ i : _root_.Fin len, ∃ a_ : α, G a_ ∧ ∃ cs', cs'.length = st ∧ (∀ (μ : Mu) (H : Hp), SimR μ H w → ∃ vs l μ', SimR μ' (H ++ l) w ∧ Ext μ μ' ∧ L2 (RC μ') vs cs' ∧ vs.length = st ∧ q (H ++ l) vs a_) ∧ ∀ (j : Nat) u, cs'[j]? = some u → w.cell? (a.add (i.1 * st + j)) = some u := by
      intro i
      have hi : i.1 < elems.length := by rw [hlen]; exact i.2
      have h1 := hel i.1 i.2
      rw [List.getElem?_eq_getElem hi, Option.bind_eq_some_iff] at h1
      obtain ⟨cs', hcs, hy⟩ := h1
      obtain ⟨_, hl', hcell⟩ := World.cells?_some hcs
      obtain ⟨a_, hG, hgo⟩ := he.go hy (fun n hn => hw n (by
        simp only [DataW.weights, ht]
        refine List.mem_cons_of_mem _ (List.mem_append_left _ (weightsAll_mem (List.mem_map.2 ⟨_, List.getElem_mem hi, rfl⟩) hn))))
      refine ⟨a_, hG, cs', by rw [hl', he.size], hgo, fun j u hu => ?_⟩
      have hj : j < P.cellsOf e := by
        rw [← hl']
        exact (List.getElem?_eq_some_iff.1 hu).1
      have := hcell j hj
      rw [hu, add_add, he.size] at this
      exact this
    have hlen2 : (List.ofFn fun i : _root_.Fin len => (each i).choose).length = len := by simp
    refine ⟨List.ofFn fun i : _root_.Fin len => (each i).choose, ⟨?_, fun x hx => ?_⟩, fun μ H hs => ?_⟩
    · rw [hlen2]
      have h1 := hw ((elems.map (·.1)).length * P.bytesOf e + (rest.map (·.1)).length * P.bytesOf e) (by
        simp only [DataW.weights, ht]
        rw [← Nat.add_mul]
        exact List.mem_cons_self)
      rw [hB, List.length_map, hlen] at h1
      have h2 : reachBytes = 140737488351232 := by decide
      rw [h2] at h1
      exact Nat.le_trans (Nat.le_add_right _ _) h1
    · obtain ⟨i, rfl⟩ := List.mem_ofFn.1 hx
      exact (each i).choose_spec.1
    · generalize hxs : (List.ofFn fun i : _root_.Fin len => (each i).choose) = xs at hlen2 ⊢
      have hat : ∀ (j : Nat) (hj : j < len) x, xs[j]? = some x → x = (each ⟨j, hj⟩).choose := fun j hj x hx => by
        rw [← hxs] at hx
        obtain ⟨h1, h2⟩ := List.getElem?_eq_some_iff.1 hx
        rw [List.getElem_ofFn] at h2
        exact h2.symm
      have key : ∀ k, k ≤ len → ∃ (ws : List Value) (l : List (Option Blk)) (μ' : Mu), SimR μ' (H ++ l) w ∧ Ext μ μ' ∧ ws.length = k * st ∧ (∀ (p : Nat) u, ws[p]? = some u → ∃ r, w.cell? (a.add p) = some r ∧ RC μ' u r) ∧ ∀ j, j < k → ∀ x, xs[j]? = some x → ∃ vs, vs.length = st ∧ q (H ++ l) vs x ∧ ∀ p, p < st → ws[j * st + p]? = vs[p]? := by
        intro k
        induction k with
        | zero => intro _; exact ⟨[], [], μ, by rw [List.append_nil]; exact hs, Ext.refl _, by simp, fun p u h => by simp at h, fun j hj => by omega⟩
        | succ k ih =>
          intro hk
          obtain ⟨ws, l, μ1, h1, h2, h3, h4, h5⟩ := ih (by omega)
          obtain ⟨_, cs', c1, c2, c3⟩ := (each ⟨k, by omega⟩).choose_spec
          obtain ⟨vs, l', μ2, g1, g2, g3, g4, g5⟩ := c2 μ1 (H ++ l) h1
          refine ⟨ws ++ vs, l ++ l', μ2, by rw [← List.append_assoc]; exact g1, h2.trans g2, by rw [List.length_append, h3, g4, Nat.add_mul]; omega, fun p u hp => ?_, fun j hj x hx => ?_⟩
          · by_cases hpk : p < ws.length
            · rw [List.getElem?_append_left hpk] at hp
              obtain ⟨r, r1, r2⟩ := h4 p u hp
              exact ⟨r, r1, RC.ext g2 r2⟩
            · rw [List.getElem?_append_right (by omega)] at hp
              obtain ⟨r, r1, r2⟩ := g3.get hp
              have := c3 _ _ r1
              rw [h3, show k * st + (p - k * st) = p by omega] at this
              exact ⟨r, this, r2⟩
          · rcases Nat.lt_succ_iff_lt_or_eq.1 hj with h' | h'
            · obtain ⟨vs', e1, e2, e3⟩ := h5 j h' x hx
              refine ⟨vs', e1, by rw [← List.append_assoc]; exact he.mono e2, fun p hp => ?_⟩
              have hjst : j * st + p < ws.length := by
                rw [h3]
                have := Nat.mul_le_mul_right st (show j + 1 ≤ k by omega)
                rw [Nat.add_mul, Nat.one_mul] at this; omega
              rw [List.getElem?_append_left hjst]; exact e3 p hp
            · subst h'
              have hx' := hat j (by omega) x hx
              refine ⟨vs, g4, by rw [← List.append_assoc, hx']; exact g5, fun p hp => ?_⟩
              rw [List.getElem?_append_right (by omega), h3, show j * st + p - j * st = p by omega]
      obtain ⟨ws, l, μ1, h1, h2, h3, h4, h5⟩ := key len (Nat.le_refl _)
      rcases Nat.eq_zero_or_pos len with h0 | h0
      · subst h0
        have hx0 : xs = [] := List.length_eq_zero_iff.1 hlen2
        subst hx0
        have ha := h1.add (cs := []) (m := ⟨a.block, a.off, cap, st⟩) (fun j c h => by simp at h)
        refine ⟨[.slice (some ⟨(H ++ l).length, 1, none⟩) 0 st], l ++ [some ⟨[], false, false⟩], _, by rw [← List.append_assoc]; exact ha, h2.trans (h1.ext _), .cons ⟨rfl, _, upd_same _ _ _, rfl, a, cap, rfl, fun h => by omega, hl, fun h => by simp at h, fun h => by omega⟩ .nil, rfl, some ⟨(H ++ l).length, 1, none⟩, rfl, fun h => absurd rfl h⟩
      · have hwl : 0 < ws.length := by rw [h3]; exact Nat.mul_pos h0 hst
        have hspot : a.spot = none := by
          obtain ⟨r, r1, _⟩ := h4 0 _ (List.getElem?_eq_getElem hwl)
          have ha0 : a.add 0 = a := rfl
          rw [ha0] at r1
          cases hsp : a.spot with
          | none => rfl
          | some s =>
            unfold World.cell? at r1
            split at r1
            · simp [hsp] at r1
            · cases r1
        have ha := h1.add (cs := ws) (m := ⟨a.block, a.off, cap, st⟩) (fun j c h => by
          obtain ⟨r, r1, r2⟩ := h4 j c h
          rw [add_none hspot] at r1
          exact ⟨r, r1, r2⟩)
        refine ⟨[.slice (some ⟨(H ++ l).length, 0, none⟩) len st], l ++ [some ⟨ws, false, false⟩], _, by rw [← List.append_assoc]; exact ha, h2.trans (h1.ext _), .cons ⟨rfl, _, upd_same _ _ _, rfl, a, cap, rfl, fun _ => hspot, hl, fun _ => ⟨by cases a; simp only at hspot; subst hspot; rfl, rfl⟩, fun _ => by cases a; simp only at hspot; subst hspot; rfl⟩ .nil, rfl, some ⟨(H ++ l).length, 0, none⟩, by rw [hlen2]; rfl, fun _ => ⟨_, rfl, fun j x hx => ?_⟩⟩
        have hj : j < len := by rw [← hlen2]; exact (List.getElem?_eq_some_iff.1 hx).1
        obtain ⟨vs, e1, e2, e3⟩ := h5 j hj x hx
        refine ⟨vs, e1, by rw [← List.append_assoc]; exact he.mono e2, fun p hp => ?_⟩
        rw [← List.append_assoc, rd0]
        exact e3 p hp

/-- The fields fs, laid one behind the other from cell o on. -/
structure OpnF {α : Type} (P : Program) (fs : List Field) (o sz : Nat) (q : Hp → List Value → α → Prop) (G : α → Prop) : Prop where
  mono : ∀ {H : Hp} {l : List (Option Blk)} {vs : List Value} {x : α}, q H vs x → q (H ++ l) vs x
  go : ∀ {HH : Type} {enc : TypeId × Value → HH} {w : World} {base m : Nat} {spare : Nat → Bool} {held : Bool} (cs : List Value) (xs : List (DataW HH × List MemPlace)),
    fs.length = xs.length → (∀ (i : Nat) (f : Field), fs[i]? = some f → DataW.trod enc P w base spare held m f.type ((cs.drop f.offset).take (P.cellsOf f.type)) = xs[i]?) →
    (∀ n ∈ DataW.weightsEach P (fs.map (·.type)) (xs.map (·.1)), n ≤ reachBytes) → ∃ a, G a ∧ ∀ (μ : Mu) (H : Hp), SimR μ H w → ∃ vs l μ', SimR μ' (H ++ l) w ∧ Ext μ μ' ∧ L2 (RC μ') vs ((cs.drop o).take sz) ∧ vs.length = sz ∧ q (H ++ l) vs a
theorem OpnF.one {α : Type} {P : Program} {f : Field} {o sz : Nat} {q : Hp → List Value → α → Prop} {G : α → Prop} {t : TypeId} (ht : f.type = t) (ho : f.offset = o) (h : Opn P t sz q G) : OpnF P [f] o sz q G := by
  refine ⟨h.mono, fun {HH enc w base m spare held} cs xs hl hf hw => ?_⟩
  match xs, hl with
  | [x], _ =>
    have h0 := hf 0 f rfl
    rw [ht, ho, h.size] at h0
    exact h.go h0 (fun n hn => hw n (by simp only [List.map_cons, List.map_nil, DataW.weightsEach, ht]; exact List.mem_append_left _ hn))
/-- Two, one behind the other. -/
def QP {α β : Type} (q : Hp → List Value → α → Prop) (q' : Hp → List Value → β → Prop) (H : Hp) (vs : List Value) (x : α × β) : Prop := ∃ v1 v2, vs = v1 ++ v2 ∧ q H v1 x.1 ∧ q' H v2 x.2
theorem OpnF.cons {α β : Type} {P : Program} {f : Field} {fs : List Field} {o sz o' sz' : Nat} {q : Hp → List Value → α → Prop} {q' : Hp → List Value → β → Prop} {G : α → Prop} {G' : β → Prop} {t : TypeId} (ht : f.type = t) (ho : f.offset = o) (h : Opn P t sz q G) (hs : OpnF P fs o' sz' q' G') (ho' : o' = o + sz) : OpnF P (f :: fs) o (sz + sz') (QP q q') (fun x => G x.1 ∧ G' x.2) := by
  refine ⟨fun {H l vs x} ⟨v1, v2, e, h1, h2⟩ => ⟨v1, v2, e, h.mono h1, hs.mono h2⟩, fun {HH enc w base m spare held} cs xs hl hf hw => ?_⟩
  match xs, hl with
  | x :: xs, hl =>
    have h0 := hf 0 f rfl
    rw [ht, ho, h.size] at h0
    obtain ⟨a, hga, ha⟩ := h.go h0 (fun n hn => hw n (by simp only [List.map_cons, DataW.weightsEach, ht]; exact List.mem_append_left _ hn))
    obtain ⟨b, hgb, hb⟩ := hs.go cs xs (by simpa using hl) (fun i g hg => hf (i + 1) g hg) (fun n hn => hw n (by simp only [List.map_cons, DataW.weightsEach]; exact List.mem_append_right _ hn))
    refine ⟨(a, b), ⟨hga, hgb⟩, fun μ H hsim => ?_⟩
    obtain ⟨v1, l1, μ1, r1, e1, g1, n1, q1⟩ := ha μ H hsim
    obtain ⟨v2, l2, μ2, r2, e2, g2, n2, q2⟩ := hb μ1 (H ++ l1) r1
    refine ⟨v1 ++ v2, l1 ++ l2, μ2, by rw [← List.append_assoc]; exact r2, e1.trans e2, ?_, by rw [List.length_append, n1, n2], v1, v2, rfl, by rw [← List.append_assoc]; exact h.mono q1, by rw [← List.append_assoc]; exact q2⟩
    have hcut : (cs.drop o).take (sz + sz') = (cs.drop o).take sz ++ (cs.drop o').take sz' := by
      subst ho'
      rw [List.take_add, List.drop_drop]
    rw [hcut]
    exact (g1.mono fun _ _ => RC.ext e2).append g2
theorem OpnF.struct {α : Type} {P : Program} {t : TypeId} {fs : Array Field} {sz : Nat} {q : Hp → List Value → α → Prop} {G : α → Prop} (ht : P.underlying t = some (.struct fs)) (hc : P.cellsOf t = sz) (h : OpnF P fs.toList 0 sz q G) : Opn P t sz q G := by
  refine ⟨hc, h.mono, fun {HH enc w base fuel spare held cs x} hx hw => ?_⟩
  obtain ⟨xs, n, _, rfl, hl, hn, hf⟩ := DataW.trod_struct ht hx
  have := h.go cs xs (by simpa using hn.symm) (fun i f hi => hf i f (by simpa using hi)) (fun n hn => hw n (by simpa only [DataW.weights, ht] using hn))
  rwa [List.drop_zero, ← hc, ← hl, List.take_length, hl, hc] at this
/-- An argument of the call: its cells, by the law's weights. -/
theorem Opn.arg {α : Type} {P : Program} {t : TypeId} {sz : Nat} {q : Hp → List Value → α → Prop} {G : α → Prop} (h : Opn P t sz q G) {HH : Type} {enc : TypeId × Value → HH} {w : World} {base : Nat} {spare : Nat → Bool} {held : Bool} {v : Value} {x : DataW HH} {ps : List MemPlace} {ts : List TypeId} {ds : List (DataW HH)} {j : Nat}
    (hsz : (DataW.weightsEach P ts ds).all (· ≤ reachBytes) = true) (ht : ts[j]? = some t) (hd : ds[j]? = some x) (hx : DataW.Trod enc P w base spare held t v x ps) : ∃ a, G a ∧ ∀ (μ : Mu) (H : Hp), SimR μ H w → ∃ vs l μ', SimR μ' (H ++ l) w ∧ Ext μ μ' ∧ L2 (RC μ') vs v.cells.toList ∧ vs.length = sz ∧ q (H ++ l) vs a := by
  obtain ⟨fuel, hf⟩ := hx
  exact h.go hf (fun n hn => by
    have := List.all_eq_true.1 hsz _ (DataW.weights_mem_each ht hd n hn)
    simpa using this)
end Go.Proofs.YtohanpndekfbgaaDoor.V
