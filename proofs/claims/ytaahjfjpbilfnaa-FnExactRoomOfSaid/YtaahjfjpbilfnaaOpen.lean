-- The print's words, what of them is needed here (slimmed by a program of the worker's).
import Derived.Test.YtaahjfjpbilfnaaWWords
import Derived.SizedLaws
import Derived.ChangeShapes
import Derived.ChangeSlices
import Derived.WideShapes
namespace Go.Proofs.Ytaahjfjpbilfnaa.Open
open Go.RowKit Go.Proofs.YtaahjfjpbilfnaaW.PrintWords
set_option linter.unusedVariables false
set_option linter.unusedSimpArgs false
structure Opens {α : Type} (P : Program) (t : TypeId) (d : Kd α) (G : α → Prop) : Prop where
  size : P.cellsOf t = d.sz
  go : ∀ {H : Type} {enc : TypeId × Value → H} {w : World} {base fuel : Nat} {spare : Nat → Bool} {held : Bool} {cs : List Value} {x : DataW H × List MemPlace},
    DataW.trod enc P w base spare held fuel t cs = some x → (∀ n ∈ x.1.weights P t, n ≤ reachBytes) → ∃ a, d.K w a cs ∧ G a
theorem Opens.int {P : Program} {t : TypeId} {k : IntKind} (ht : P.underlying t = some (.int k)) (hc : P.cellsOf t = 1) : Opens P t (Kd.int k) (fun n => (Lit.int k n).wf = true) :=
  ⟨hc, fun h _ => by
    obtain ⟨n, rfl, rfl, hw⟩ := DataW.trod_int ht h
    exact ⟨n, rfl, hw⟩⟩
theorem Opens.bool {P : Program} {t : TypeId} (ht : P.underlying t = some .bool) (hc : P.cellsOf t = 1) : Opens P t Kd.bool (fun _ => True) :=
  ⟨hc, fun h _ => by
    obtain ⟨n, rfl, rfl⟩ := DataW.trod_bool ht h
    exact ⟨n, rfl, trivial⟩⟩
theorem weightsAll_mem {H : Type} {P : Program} {e : TypeId} {n : Nat} : ∀ {l : List (DataW H)} {d : DataW H}, d ∈ l → n ∈ d.weights P e → n ∈ DataW.weightsAll P e l
  | d :: r, d', hd, hn => by
    simp only [DataW.weightsAll, List.mem_append]
    rcases List.mem_cons.1 hd with rfl | hd
    · exact .inl hn
    · exact .inr (weightsAll_mem hd hn)
theorem add_add (a : Addr) (i j : Nat) : (a.add i).add j = a.add (i + j) := by
  unfold Addr.add
  by_cases h1 : i = 0 <;> by_cases h2 : j = 0 <;> simp [h1, h2, Nat.add_assoc]
theorem Opens.slice {α : Type} {P : Program} {t e : TypeId} {d : Kd α} {G : α → Prop} (ht : P.underlying t = some (.slice e)) (hc : P.cellsOf t = 1) {B : Nat} (hB : P.bytesOf e = B) (he : Opens P e d G) :
    Opens P t (Kd.slice e d) (fun xs => xs.length * B ≤ 140737488351232 ∧ ∀ x ∈ xs, G x) := by
  refine ⟨hc, fun {H enc w base fuel spare held cs x} h hw => ?_⟩
  rcases DataW.trod_slice ht h with ⟨rfl, rfl⟩ | ⟨a, len, cap, elems, rest, n, _, rfl, rfl, hb, hl, hm, hlen, hel, _, _⟩
  · exact ⟨[], ⟨none, 0, rfl, Nat.le_refl _, rfl, by simp, fun h => absurd h (by simp)⟩, by simp, fun x hx => by simp at hx⟩
  · have each : ∀ i : Fin len, ∃ a_ : α, ∃ cs', cs'.length = d.sz ∧ d.K w a_ cs' ∧ G a_ ∧ ∀ j u, cs'[j]? = some u → w.cell? (a.add (i.1 * d.sz + j)) = some u := by
      intro i
      have hi : i.1 < elems.length := by rw [hlen]; exact i.2
      have h1 := hel i.1 i.2
      rw [List.getElem?_eq_getElem hi, Option.bind_eq_some_iff] at h1
      obtain ⟨cs', hcs, hy⟩ := h1
      obtain ⟨_, hl', hcell⟩ := World.cells?_some hcs
      obtain ⟨a_, hK, hG⟩ := he.go hy (fun n hn => hw n (by
        simp only [DataW.weights, ht]
        refine List.mem_cons_of_mem _ (List.mem_append_left _ (weightsAll_mem (List.mem_map.2 ⟨_, List.getElem_mem hi, rfl⟩) hn))))
      refine ⟨a_, cs', d.K_len hK, hK, hG, fun j u hu => ?_⟩
      have hj : j < P.cellsOf e := by
        rw [← hl']
        exact (List.getElem?_eq_some_iff.1 hu).1
      have := hcell j hj
      rw [hu, add_add, he.size] at this
      exact this
    have hp : ∀ i : Fin len, ∃ a_ : α, (∃ cs', cs'.length = d.sz ∧ d.K w a_ cs' ∧ ∀ j u, cs'[j]? = some u → w.cell? (a.add (i.1 * d.sz + j)) = some u) ∧ G a_ := by
      intro i
      obtain ⟨a_, cs', h1, h2, h3, h4⟩ := each i
      exact ⟨a_, ⟨cs', h1, h2, h4⟩, h3⟩
    have hlen2 : (List.ofFn fun i : Fin len => (hp i).choose).length = len := by simp
    refine ⟨List.ofFn fun i : Fin len => (hp i).choose, ⟨some a, cap, by rw [hlen2], by rw [hlen2]; exact hl, rfl, ?_, fun _ => ⟨a, rfl, fun j p hj => ?_⟩⟩, ?_, fun x hx => ?_⟩
    · rw [hlen2]
      simp only [maxLen] at hm
      omega
    · obtain ⟨hj1, hj2⟩ := List.getElem?_eq_some_iff.1 hj
      rw [List.getElem_ofFn] at hj2
      subst hj2
      exact (hp ⟨j, by rw [hlen2] at hj1; exact hj1⟩).choose_spec.1
    · rw [hlen2]
      have h1 := hw ((elems.map (·.1)).length * P.bytesOf e + (rest.map (·.1)).length * P.bytesOf e) (by
        simp only [DataW.weights, ht]
        rw [← Nat.add_mul]
        exact List.mem_cons_self)
      rw [hB, List.length_map, hlen] at h1
      have h2 : reachBytes = 140737488351232 := by decide
      rw [h2] at h1
      exact Nat.le_trans (Nat.le_add_right _ _) h1
    · obtain ⟨i, rfl⟩ := List.mem_ofFn.1 hx
      exact (hp i).choose_spec.2
def OpensF {α : Type} (P : Program) (fs : List Field) (o : Nat) (d : Kd α) (G : α → Prop) : Prop :=
  ∀ {H : Type} {enc : TypeId × Value → H} {w : World} {base m : Nat} {spare : Nat → Bool} {held : Bool} (cs : List Value) (xs : List (DataW H × List MemPlace)),
    fs.length = xs.length → (∀ (i : Nat) (f : Field), fs[i]? = some f → DataW.trod enc P w base spare held m f.type ((cs.drop f.offset).take (P.cellsOf f.type)) = xs[i]?) →
    (∀ n ∈ DataW.weightsEach P (fs.map (·.type)) (xs.map (·.1)), n ≤ reachBytes) → ∃ a, d.K w a ((cs.drop o).take d.sz) ∧ G a
theorem OpensF.one {α : Type} {P : Program} {f : Field} {o : Nat} {d : Kd α} {G : α → Prop} {t : TypeId} (ht : f.type = t) (ho : f.offset = o) (h : Opens P t d G) : OpensF P [f] o d G := by
  intro H enc w base m spare held cs xs hl hf hw
  match xs, hl with
  | [x], _ =>
    have h0 := hf 0 f rfl
    rw [ht, ho, h.size] at h0
    exact h.go h0 (fun n hn => hw n (by simp only [List.map_cons, List.map_nil, DataW.weightsEach, ht]; exact List.mem_append_left _ hn))
theorem OpensF.cons {α β : Type} {P : Program} {f : Field} {fs : List Field} {o o' : Nat} {d : Kd α} {d' : Kd β} {G : α → Prop} {G' : β → Prop} {t : TypeId} (ht : f.type = t) (ho : f.offset = o) (h : Opens P t d G) (hs : OpensF P fs o' d' G') (ho' : o' = o + d.sz) : OpensF P (f :: fs) o (Kd.pair d d') (fun x => G x.1 ∧ G' x.2) := by
  intro H enc w base m spare held cs xs hl hf hw
  match xs, hl with
  | x :: xs, hl =>
    have h0 := hf 0 f rfl
    rw [ht, ho, h.size] at h0
    obtain ⟨a, ha, hga⟩ := h.go h0 (fun n hn => hw n (by simp only [List.map_cons, DataW.weightsEach, ht]; exact List.mem_append_left _ hn))
    obtain ⟨b, hb, hgb⟩ := hs cs xs (by simpa using hl) (fun i g hg => hf (i + 1) g hg) (fun n hn => hw n (by simp only [List.map_cons, DataW.weightsEach]; exact List.mem_append_right _ hn))
    refine ⟨(a, b), ⟨_, _, ?_, ha, hb⟩, hga, hgb⟩
    subst ho'
    show (cs.drop o).take (d.sz + d'.sz) = _
    rw [List.take_add, List.drop_drop]
theorem OpensF.struct {α : Type} {P : Program} {t : TypeId} {fs : Array Field} {d : Kd α} {G : α → Prop} (ht : P.underlying t = some (.struct fs)) (hc : P.cellsOf t = d.sz) (h : OpensF P fs.toList 0 d G) : Opens P t d G := by
  refine ⟨hc, fun {H enc w base fuel spare held cs x} hx hw => ?_⟩
  obtain ⟨xs, n, _, rfl, hl, hn, hf⟩ := DataW.trod_struct ht hx
  obtain ⟨a, ha, hg⟩ := h cs xs (by simpa using hn.symm) (fun i f hi => hf i f (by simpa using hi)) (fun n hn => hw n (by simpa only [DataW.weights, ht] using hn))
  refine ⟨a, ?_, hg⟩
  rwa [List.drop_zero, ← hc, ← hl, List.take_length] at ha
theorem Opens.iso {α β : Type} {P : Program} {t : TypeId} {d : Kd α} {G : α → Prop} (h : Opens P t d G) (f : β → α) (g : α → β) (hfg : ∀ a, f (g a) = a) {G' : β → Prop} (hG : ∀ a, G a → G' (g a)) : Opens P t (Kd.iso d f) G' :=
  ⟨h.size, fun hx hw => by
    obtain ⟨a, ha, hg⟩ := h.go hx hw
    refine ⟨g a, ?_, hG a hg⟩
    show d.K _ (f (g a)) _
    rw [hfg]
    exact ha⟩
theorem Opens.arg {α : Type} {P : Program} {t : TypeId} {d : Kd α} {G : α → Prop} (h : Opens P t d G) {H : Type} {enc : TypeId × Value → H} {w : World} {base : Nat} {spare : Nat → Bool} {held : Bool} {v : Value} {x : DataW H} {ps : List MemPlace} {ts : List TypeId} {ds : List (DataW H)} {j : Nat}
    (hsz : (DataW.weightsEach P ts ds).all (· ≤ reachBytes) = true) (ht : ts[j]? = some t) (hd : ds[j]? = some x) (hx : DataW.Trod enc P w base spare held t v x ps) : ∃ a, d.K w a v.cells.toList ∧ G a := by
  obtain ⟨fuel, hf⟩ := hx
  exact h.go hf (fun n hn => by
    have := List.all_eq_true.1 hsz _ (DataW.weights_mem_each ht hd n hn)
    simpa using this)
end Go.Proofs.Ytaahjfjpbilfnaa.Open
