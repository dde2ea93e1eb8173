/- What the machine's steps on memory are in the program's memory: a new block; cells written; a block that moves. -/
import Derived.Test.YtflddpkmajoeaaaVMR
namespace Go.Proofs.Ytflddpkmajoeaaa.V
open Go
set_option linter.unusedVariables false
set_option linter.unusedSimpArgs false

theorem get_snoc {α : Type} (l : List α) (x : α) (i : Nat) : (l ++ [x])[i]? = if i < l.length then l[i]? else if i = l.length then some x else none := by
  rw [List.getElem?_append]
  split
  · rfl
  · rename_i h
    split
    · rename_i e; subst e; simp
    · rename_i e
      rw [List.getElem?_eq_none]
      simp; omega
theorem snoc_old {α : Type} {l : List α} {x y : α} {i : Nat} (h : (l ++ [x])[i]? = some y) : (i < l.length ∧ l[i]? = some y) ∨ (i = l.length ∧ y = x) := by
  rw [get_snoc] at h
  split at h
  · exact .inl ⟨‹_›, h⟩
  · split at h
    · exact .inr ⟨‹_›, (Option.some.inj h).symm⟩
    · cases h

def upd (μ : Mu) (n : Nat) (m : MA) : Mu := fun i => if i = n then some m else μ i
theorem upd_same (μ : Mu) (n : Nat) (m : MA) : upd μ n m n = some m := by simp [upd]
theorem upd_ne {μ : Mu} {n i : Nat} {m : MA} (h : i ≠ n) : upd μ n m i = μ i := by simp [upd, h]
theorem Sim.ext_upd {μ : Mu} {H : Hp} {w : World} (hs : Sim μ H w) (m : MA) : Ext μ (upd μ H.length m) := fun i x h => by
  rw [upd_ne (by have := hs.dom i x h; omega)]; exact h

theorem BOK.ext {μ μ' : Mu} (h : Ext μ μ') {b m w} (hb : BOK μ b m w) : BOK μ' b m w :=
  ⟨fun j c hc => let ⟨r, h1, h2⟩ := hb.cells j c hc; ⟨r, h1, h2.ext h⟩, hb.k0, hb.rw⟩
/-- A block's facts in a world in which its real block is as it was. -/
theorem BOK.keep {μ : Mu} {b m} {w w' : World} (hb : BOK μ b m w) (h : w'.heap[m.b]? = w.heap[m.b]?) : BOK μ b m w' :=
  ⟨fun j c hc => by rw [World.cell?_of_block (w := w) (a := ⟨m.b, m.o + j, none⟩) h]; exact hb.cells j c hc, hb.k0, fun hr => by rw [h]; exact hb.rw hr⟩
theorem BOK.lt {μ : Mu} {b m} {w : World} (hb : BOK μ b m w) (h : b.cs ≠ [] ∨ b.rw = true) : m.b < w.heap.size := by
  rcases h with h | h
  · obtain ⟨c, hc⟩ : ∃ c, b.cs[0]? = some c := by cases hb' : b.cs with
      | nil => exact absurd hb' h
      | cons x y => exact ⟨x, rfl⟩
    obtain ⟨r, h1, _⟩ := hb.cells 0 c hc
    exact World.block_lt_of_cell? w _ h1
  · obtain ⟨C, e, hg, _⟩ := hb.rw h
    exact (Array.getElem?_eq_some_iff.1 hg).1
theorem BOK.dull {μ : Mu} {b m} {w w' : World} (hb : BOK μ b m w) (h1 : b.cs = []) (h2 : b.rw = false) : BOK μ b m w' :=
  ⟨fun j c hc => by simp [h1] at hc, hb.k0, fun hr => by simp [h2] at hr⟩

/-- A new block. -/
theorem Sim.alloc {μ : Mu} {H : Hp} {w : World} (hs : Sim μ H w) {vs : List Value} {C : Array Value} {e : TypeId} {k s : Nat} {k0 : Bool}
    (hc : ∀ (j : Nat) c, vs[j]? = some c → ∃ r, C[j]? = some r ∧ RC μ c r) (hk0 : k0 = true → k = 0) (hsz : C.size = k * s) (hm : k ≤ maxLen) (lo : Nat) :
    Sim (upd μ H.length ⟨w.heap.size, 0, k, s⟩) (H ++ [some ⟨vs, true, k0⟩]) (w.alloc (.cells C e)) ∧ Stp lo μ H w (upd μ H.length ⟨w.heap.size, 0, k, s⟩) (H ++ [some ⟨vs, true, k0⟩]) (w.alloc (.cells C e)) := by
  have hx := hs.ext_upd ⟨w.heap.size, 0, k, s⟩
  have hnew : (w.alloc (.cells C e)).heap[w.heap.size]? = some (.cells C e (0, 0)) := heap_alloc_new w _
  refine ⟨⟨fun i m hi => ?_, fun i b hb => ?_, fun i j bi bj mi mj hij hbi hbj hr hq hmi hmj => ?_⟩, ⟨hx, rfl, rfl, rfl, by simp, by simp, fun b hb _ => heap_alloc_old w _ b hb, fun i bl m hlo hb hr hm hlt => ?_, fun i _ hi => by rw [get_snoc, if_pos hi]⟩⟩
  · simp only [upd] at hi
    split at hi
    · simp; omega
    · have := hs.dom i m hi; simp; omega
  · rcases snoc_old hb with ⟨hlt, hb⟩ | ⟨rfl, he⟩
    · obtain ⟨m, hm', hok⟩ := hs.blk i b hb
      refine ⟨m, by rw [upd_ne (by omega)]; exact hm', ?_⟩
      by_cases hq : b.cs ≠ [] ∨ b.rw = true
      · exact (hok.keep (heap_alloc_old w _ _ (hok.lt hq))).ext hx
      · simp only [not_or, ne_eq, Decidable.not_not, Bool.not_eq_true] at hq
        exact (hok.dull hq.1 hq.2).ext hx
    · cases he
      refine ⟨_, upd_same _ _ _, ⟨fun j c hc' => ?_, hk0, fun _ => ⟨C, e, hnew, rfl, hsz, hm⟩⟩⟩
      obtain ⟨r, h1, h2⟩ := hc j c hc'
      exact ⟨r, by simp only [Nat.zero_add]; rw [cell_of_row _ _ j C e (0, 0) hnew]; exact h1, h2.ext hx⟩
  · rcases snoc_old hbi with ⟨hli, hbi⟩ | ⟨rfl, hei⟩
    · rw [upd_ne (by omega)] at hmi
      rcases snoc_old hbj with ⟨hlj, hbj⟩ | ⟨rfl, hej⟩
      · rw [upd_ne (by omega)] at hmj
        exact hs.sep i j bi bj mi mj hij hbi hbj hr hq hmi hmj
      · rw [upd_same] at hmj
        cases hmj
        obtain ⟨m, hm', hok⟩ := hs.blk i bi hbi
        rw [hmi] at hm'; cases hm'
        have := hok.lt (.inr hr)
        simp; omega
    · rw [upd_same] at hmi
      cases hmi
      rcases snoc_old hbj with ⟨hlj, hbj⟩ | ⟨rfl, hej⟩
      · rw [upd_ne (by omega)] at hmj
        obtain ⟨m, hm', hok⟩ := hs.blk j bj hbj
        rw [hmj] at hm'; cases hm'
        have := hok.lt hq
        simp; omega
      · exact absurd rfl hij
  · rcases snoc_old hb with ⟨hli, hb⟩ | ⟨rfl, he⟩
    · rw [upd_ne (by omega)] at hm
      exact ⟨i, bl, m, hlo, hb, hr, hm, rfl⟩
    · rw [upd_same] at hm
      cases hm
      simp at hlt

theorem set_get {α : Type} {l : List α} {i j : Nat} {x y : α} (h : (l.set i x)[j]? = some y) : (i = j ∧ y = x) ∨ (i ≠ j ∧ l[j]? = some y) := by
  by_cases e : i = j
  · subst e
    rw [List.getElem?_set_self'] at h
    cases hl : l[i]? with
    | none => rw [hl] at h; simp at h
    | some z => rw [hl] at h; simp at h; exact .inl ⟨rfl, h.symm⟩
  · rw [List.getElem?_set_ne e] at h
    exact .inr ⟨e, h⟩

/-- Cells of one's own are written. -/
theorem Sim.setRow {μ : Mu} {H : Hp} {w : World} (hs : Sim μ H w) {i : Nat} {b : Blk} {m : MA} (hi : H[i]? = some (some b)) (hr : b.rw = true) (hμ : μ i = some m) {C C' : Array Value} {e : TypeId}
    (hg : w.heap[m.b]? = some (.cells C e (0, 0))) {cs' : List Value} (hsz : C'.size = C.size) (hc : ∀ (j : Nat) c, cs'[j]? = some c → ∃ r, C'[j]? = some r ∧ RC μ c r) {lo : Nat} (hlo : lo ≤ i) :
    Sim μ (H.set i (some ⟨cs', true, b.k0⟩)) (w.setRow m.b C') ∧ Stp lo μ H w μ (H.set i (some ⟨cs', true, b.k0⟩)) (w.setRow m.b C') := by
  obtain ⟨m', hm', hok⟩ := hs.blk i b hi
  rw [hμ] at hm'; cases hm'
  obtain ⟨C0, e0, hg0, ho, hsz0, hml⟩ := hok.rw hr
  rw [hg] at hg0; cases hg0
  have hnew : (w.setRow m.b C').heap[m.b]? = some (.cells C' e (0, 0)) := setRow_heap w m.b C C' e (0, 0) hg
  have live : ∀ (j : Nat) (bj : Blk), (H.set i (some ⟨cs', true, b.k0⟩))[j]? = some (some bj) → ∃ bj0, H[j]? = some (some bj0) ∧ bj0.rw = bj.rw ∧ (j = i ∨ bj0 = bj) := by
    intro (j : Nat) (bj : Blk) hbj
    rcases set_get hbj with ⟨rfl, he⟩ | ⟨hne, hb⟩
    · cases he; exact ⟨b, hi, hr, .inl rfl⟩
    · exact ⟨bj, hb, rfl, .inr rfl⟩
  refine ⟨⟨fun j x hx => by simpa using hs.dom j x hx, fun j bj hbj => ?_, fun p q bp bq mp mq hpq hbp hbq hrp hq hmp hmq => ?_⟩, ⟨Ext.refl _, rfl, rfl, rfl, by simp, by simp, fun k hk hn => setRow_other w _ _ _ (fun e => hn i b m hlo hi hr hμ e.symm), fun j bj mj hj hbj hrj hmj _ => ?_, fun j hj _ => by rw [List.getElem?_set_ne (by omega)]⟩⟩
  · rcases set_get hbj with ⟨rfl, he⟩ | ⟨hne, hb⟩
    · cases he
      refine ⟨m, hμ, ⟨fun j c hc' => ?_, hok.k0, fun _ => ⟨C', e, hnew, ho, by rw [hsz]; exact hsz0, hml⟩⟩⟩
      obtain ⟨r, h1, h2⟩ := hc j c hc'
      exact ⟨r, by rw [ho, Nat.zero_add, cell_of_row _ _ j C' e (0, 0) hnew]; exact h1, h2⟩
    · obtain ⟨mj, hmj, hokj⟩ := hs.blk j bj hb
      refine ⟨mj, hmj, ?_⟩
      by_cases hq : bj.cs ≠ [] ∨ bj.rw = true
      · exact hokj.keep (setRow_other w _ _ _ (fun e => hs.sep i j b bj m mj hne hi hb hr hq hμ hmj e.symm))
      · simp only [not_or, ne_eq, Decidable.not_not, Bool.not_eq_true] at hq
        exact hokj.dull hq.1 hq.2
  · obtain ⟨bp0, hp0, hrp0, _⟩ := live p bp hbp
    obtain ⟨bq0, hq0, hrq0, hor⟩ := live q bq hbq
    refine hs.sep p q bp0 bq0 mp mq hpq hp0 hq0 (hrp0 ▸ hrp) ?_ hmp hmq
    rcases hor with rfl | rfl
    · rw [hi] at hq0; cases hq0; exact .inr hr
    · exact hq
  · obtain ⟨bj0, hj0, hrj0, _⟩ := live j bj hbj
    exact ⟨j, bj0, mj, hj, hj0, hrj0 ▸ hrj, hmj, rfl⟩

/-- A block is forgotten. -/
theorem Sim.kill {μ : Mu} {H : Hp} {w : World} (hs : Sim μ H w) (i : Nat) {lo : Nat} (hlo : lo ≤ i) : Sim μ (H.set i none) w ∧ Stp lo μ H w μ (H.set i none) w := by
  have live : ∀ (j : Nat) (bj : Blk), (H.set i none)[j]? = some (some bj) → H[j]? = some (some bj) := by
    intro (j : Nat) (bj : Blk) hbj
    rcases set_get hbj with ⟨rfl, he⟩ | ⟨hne, hb⟩
    · cases he
    · exact hb
  exact ⟨⟨fun j x hx => by simpa using hs.dom j x hx, fun j bj hbj => hs.blk j bj (live j bj hbj), fun p q bp bq mp mq hpq hbp hbq hrp hq hmp hmq => hs.sep p q bp bq mp mq hpq (live _ _ hbp) (live _ _ hbq) hrp hq hmp hmq⟩,
    ⟨Ext.refl _, rfl, rfl, rfl, Nat.le_refl _, by simp, fun _ _ _ => rfl, fun j bj mj hj hbj hrj hmj _ => ⟨j, bj, mj, hj, live _ _ hbj, hrj, hmj, rfl⟩, fun j hj _ => by rw [List.getElem?_set_ne (by omega)]⟩⟩

/-- A block gets a new number. -/
theorem Sim.move {μ : Mu} {H : Hp} {w : World} (hs : Sim μ H w) {i : Nat} {b : Blk} {m : MA} (hi : H[i]? = some (some b)) (hr : b.rw = true) (hμ : μ i = some m) {lo : Nat} (hlo : lo ≤ i) :
    Sim (upd μ H.length m) (H.set i none ++ [some ⟨b.cs, true, false⟩]) w ∧ Stp lo μ H w (upd μ H.length m) (H.set i none ++ [some ⟨b.cs, true, false⟩]) w := by
  have hx := hs.ext_upd m
  obtain ⟨m', hm', hok⟩ := hs.blk i b hi
  rw [hμ] at hm'; cases hm'
  have hil : i < H.length := (List.getElem?_eq_some_iff.1 hi).1
  have live : ∀ (j : Nat) (bj : Blk), (H.set i none ++ [some ⟨b.cs, true, false⟩])[j]? = some (some bj) → (j < H.length ∧ j ≠ i ∧ H[j]? = some (some bj)) ∨ (j = H.length ∧ bj = ⟨b.cs, true, false⟩) := by
    intro (j : Nat) (bj : Blk) hbj
    rcases snoc_old hbj with ⟨hlt, hb⟩ | ⟨e, hb⟩
    · rcases set_get hb with ⟨rfl, he⟩ | ⟨hne, hb⟩
      · cases he
      · exact .inl ⟨by simpa using hlt, Ne.symm hne, hb⟩
    · exact .inr ⟨by simpa using e, by cases hb; rfl⟩
  refine ⟨⟨fun j x hj => ?_, fun j bj hbj => ?_, fun p q bp bq mp mq hpq hbp hbq hrp hq hmp hmq => ?_⟩, ⟨hx, rfl, rfl, rfl, Nat.le_refl _, by simp, fun _ _ _ => rfl, fun j bj mj hj hbj hrj hmj _ => ?_, fun j hj hl => ?_⟩⟩
  · simp only [upd] at hj
    split at hj
    · simp; omega
    · have := hs.dom j x hj; simp; omega
  · rcases live j bj hbj with ⟨hlt, hne, hb⟩ | ⟨rfl, rfl⟩
    · obtain ⟨mj, hmj, hokj⟩ := hs.blk j bj hb
      exact ⟨mj, by rw [upd_ne (by omega)]; exact hmj, hokj.ext hx⟩
    · exact ⟨m, upd_same _ _ _, ⟨fun j c hc => let ⟨r, h1, h2⟩ := hok.cells j c hc; ⟨r, h1, h2.ext hx⟩, by simp, fun _ => hok.rw hr⟩⟩
  · rcases live p bp hbp with ⟨hlp, hnp, hbp⟩ | ⟨rfl, rfl⟩ <;> rcases live q bq hbq with ⟨hlq, hnq, hbq⟩ | ⟨rfl, rfl⟩
    · rw [upd_ne (by omega)] at hmp hmq
      exact hs.sep p q bp bq mp mq hpq hbp hbq hrp hq hmp hmq
    · rw [upd_ne (by omega)] at hmp; rw [upd_same] at hmq; cases hmq
      exact hs.sep p i bp b mp m hnp hbp hi hrp (.inr hr) hmp hμ
    · rw [upd_same] at hmp; cases hmp; rw [upd_ne (by omega)] at hmq
      exact hs.sep i q b bq m mq (Ne.symm hnq) hi hbq hr hq hμ hmq
    · exact absurd rfl hpq
  · rcases live j bj hbj with ⟨hlt, hne, hb⟩ | ⟨rfl, rfl⟩
    · rw [upd_ne (by omega)] at hmj
      exact ⟨j, bj, mj, hj, hb, hrj, hmj, rfl⟩
    · rw [upd_same] at hmj; cases hmj
      exact ⟨i, b, m, hlo, hi, hr, hμ, rfl⟩
  · rw [get_snoc, if_pos (by simpa using hl), List.getElem?_set_ne (by omega)]

/-- A block that can't be written and has no cells: an empty slice of no capacity. -/
theorem Sim.empty {μ : Mu} {H : Hp} {w : World} (hs : Sim μ H w) (m : MA) (hk : m.k = 0) (lo : Nat) :
    Sim (upd μ H.length m) (H ++ [some ⟨[], false, true⟩]) w ∧ Stp lo μ H w (upd μ H.length m) (H ++ [some ⟨[], false, true⟩]) w := by
  have hx := hs.ext_upd m
  refine ⟨⟨fun i x hi => ?_, fun i b hb => ?_, fun i j bi bj mi mj hij hbi hbj hr hq hmi hmj => ?_⟩, ⟨hx, rfl, rfl, rfl, Nat.le_refl _, by simp, fun _ _ _ => rfl, fun i bl m' hlo hb hr hm hlt => ?_, fun i _ hi => by rw [get_snoc, if_pos hi]⟩⟩
  · simp only [upd] at hi
    split at hi
    · simp; omega
    · have := hs.dom i x hi; simp; omega
  · rcases snoc_old hb with ⟨hlt, hb⟩ | ⟨rfl, he⟩
    · obtain ⟨m', hm', hok⟩ := hs.blk i b hb
      exact ⟨m', by rw [upd_ne (by omega)]; exact hm', hok.ext hx⟩
    · cases he
      exact ⟨m, upd_same _ _ _, ⟨by simp, fun _ => hk, by simp⟩⟩
  · rcases snoc_old hbi with ⟨hli, hbi⟩ | ⟨rfl, hei⟩
    · rw [upd_ne (by omega)] at hmi
      rcases snoc_old hbj with ⟨hlj, hbj⟩ | ⟨rfl, hej⟩
      · rw [upd_ne (by omega)] at hmj
        exact hs.sep i j bi bj mi mj hij hbi hbj hr hq hmi hmj
      · cases hej; simp at hq
    · cases hei; simp at hr
  · rcases snoc_old hb with ⟨hli, hb⟩ | ⟨rfl, he⟩
    · rw [upd_ne (by omega)] at hm
      exact ⟨i, bl, m', hlo, hb, hr, hm, rfl⟩
    · cases he; simp at hr

theorem blk_some {H : Hp} {i : Nat} {b : Blk} (h : H.blk i = some b) : H[i]? = some (some b) := by
  unfold Hp.blk at h
  cases hx : H[i]? with
  | none => rw [hx] at h; cases h
  | some y => rw [hx] at h; simp at h; rw [h]

/-- A cell that is read. -/
theorem Sim.rd {μ : Mu} {H : Hp} {w : World} (hs : Sim μ H w) {a : Addr} {v : Value} (h : rd H a = some v) {m : MA} (hm : μ a.block = some m) : ∃ r, w.cell? ⟨m.b, m.o + a.off, none⟩ = some r ∧ RC μ v r := by
  unfold V.rd at h
  cases hb : H.blk a.block with
  | none => rw [hb] at h; cases h
  | some b =>
    rw [hb] at h
    obtain ⟨m', hm', hok⟩ := hs.blk _ _ (blk_some hb)
    rw [hm] at hm'; cases hm'
    exact hok.cells _ _ h
theorem addr_add (b o j : Nat) : (⟨b, o, none⟩ : Addr).add j = ⟨b, o + j, none⟩ := by
  unfold Addr.add; split <;> simp_all
theorem exists_list {p : Nat → Value → Prop} : ∀ (n : Nat), (∀ j, j < n → ∃ r, p j r) → ∃ l : List Value, l.length = n ∧ ∀ (j : Nat) r, l[j]? = some r → p j r
  | 0, _ => ⟨[], rfl, by simp⟩
  | n + 1, h => by
    obtain ⟨l, hl, hp⟩ := exists_list n (fun j hj => h j (by omega))
    obtain ⟨r, hr⟩ := h n (by omega)
    refine ⟨l ++ [r], by simp [hl], fun j x hx => ?_⟩
    rcases snoc_old hx with ⟨_, h1⟩ | ⟨rfl, rfl⟩
    · exact hp j x h1
    · rw [hl]; exact hr
theorem Sim.rdN {μ : Mu} {H : Hp} {w : World} (hs : Sim μ H w) {a : Addr} {n : Nat} {vs : List Value} (h : rdN H a n = some vs) {m : MA} (hm : μ a.block = some m) :
    ∃ rs : List Value, rs.length = n ∧ L2 (RC μ) vs rs ∧ ∀ (j : Nat) u, rs[j]? = some u → w.cell? ((⟨m.b, m.o + a.off, none⟩ : Addr).add j) = some u := by
  unfold V.rdN at h
  cases hb : H.blk a.block with
  | none => rw [hb] at h; cases h
  | some b =>
    rw [hb] at h
    simp only [Option.bind_some] at h
    split at h
    · rename_i hle
      cases h
      obtain ⟨m', hm', hok⟩ := hs.blk _ _ (blk_some hb)
      rw [hm] at hm'; cases hm'
      have key : ∀ j, j < n → ∃ r, w.cell? ⟨m.b, m.o + a.off + j, none⟩ = some r ∧ ∃ c, ((b.cs.drop a.off).take n)[j]? = some c ∧ RC μ c r := by
        intro j hj
        have hlt : a.off + j < b.cs.length := by omega
        obtain ⟨r, h1, h2⟩ := hok.cells (a.off + j) b.cs[a.off + j] (List.getElem?_eq_getElem hlt)
        refine ⟨r, by rw [Nat.add_assoc]; exact h1, _, ?_, h2⟩
        rw [List.getElem?_take, if_pos hj, List.getElem?_drop]
        exact List.getElem?_eq_getElem hlt
      obtain ⟨rs, hl, hp⟩ := exists_list n key
      refine ⟨rs, hl, L2.of_get (by simp [hl]; omega) fun i x y hx hy => ?_, fun j u hu => by rw [addr_add]; exact (hp j u hu).1⟩
      obtain ⟨_, c, hc, hrc⟩ := hp i y hy
      rw [hx] at hc; cases hc
      exact hrc
    · cases h
end Go.Proofs.Ytflddpkmajoeaaa.V
