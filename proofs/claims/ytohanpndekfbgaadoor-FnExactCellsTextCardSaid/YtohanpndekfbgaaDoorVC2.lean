/- Memory that is written: frames, one cell written, marks on numbers and blocks. -/
import Derived.Test.YtohanpndekfbgaaDoorVC1
namespace Go.Proofs.YtohanpndekfbgaaDoor.V
open Go
set_option linter.unusedVariables false
set_option linter.unusedSimpArgs false
set_option maxRecDepth 100000
/-- A block that may be written. -/
def WB (lo : Nat) (H : Hp) (i : Nat) : Prop := lo ≤ i ∧ ∃ b, H.blk i = some b ∧ b.rw = true
/-- What is not in S is as before; what may be written may still be. -/
structure Fr (S : Nat → Prop) (H H' : Hp) : Prop where
  len : H.length ≤ H'.length
  blk : ∀ i, i < H.length → ¬ S i → H'.blk i = H.blk i
  wb : ∀ lo i, WB lo H i → WB lo H' i
theorem Fr.rd {S : Nat → Prop} {H H' : Hp} (h : Fr S H H') (i o : Nat) (hi : i < H.length) (hs : ¬ S i) : V.rd H' ⟨i, o, none⟩ = V.rd H ⟨i, o, none⟩ := by simp only [V.rd, h.blk i hi hs]
theorem Fr.rdN {S : Nat → Prop} {H H' : Hp} (h : Fr S H H') (i o n : Nat) (hi : i < H.length) (hs : ¬ S i) : V.rdN H' ⟨i, o, none⟩ n = V.rdN H ⟨i, o, none⟩ n := by simp only [V.rdN, h.blk i hi hs]
theorem Fr.refl {S : Nat → Prop} {H : Hp} : Fr S H H := ⟨Nat.le_refl _, fun _ _ _ => rfl, fun _ _ h => h⟩
theorem Fr.trans {S : Nat → Prop} {H H' H'' : Hp} (h : Fr S H H') (h' : Fr S H' H'') : Fr S H H'' :=
  ⟨Nat.le_trans h.len h'.len, fun i hi hs => (h'.blk i (Nat.lt_of_lt_of_le hi h.len) hs).trans (h.blk i hi hs), fun _ _ hw => h'.wb _ _ (h.wb _ _ hw)⟩
theorem Fr.mono {S T : Nat → Prop} {H H' : Hp} (h : Fr S H H') (hst : ∀ i, S i → T i) : Fr T H H' := ⟨h.len, fun i hi ht => h.blk i hi fun hs => ht (hst i hs), h.wb⟩
theorem Fr.app {S : Nat → Prop} {H : Hp} {l : List (Option Blk)} : Fr S H (H ++ l) :=
  ⟨by simp, fun i hi _ => blk_old hi, fun lo i ⟨h, b, hb, hr⟩ => ⟨h, b, blk_keep hb, hr⟩⟩
theorem Fr.EI {S : Nat → Prop} {H H' : Hp} (h : Fr S H H') {i o : Nat} {x : Int} (hs : ¬ S i) (hx : EI H i o x) : EI H' i o x := (h.rd i o (rd_lt hx) hs).trans hx
theorem Fr.EB {S : Nat → Prop} {H H' : Hp} (h : Fr S H H') {i o : Nat} {x : Bk} (hs : ¬ S i) (hx : EB H i o x) : EB H' i o x := ⟨(h.rd _ _ (rd_lt hx.1) hs).trans hx.1, (h.rd _ _ (rd_lt hx.2) hs).trans hx.2⟩
/-- One cell is written. -/
structure Up (i o : Nat) (v : Value) (H H' : Hp) : Prop where
  len : H'.length = H.length
  at_ : rd H' ⟨i, o, none⟩ = some v
  oth : ∀ i' o', ¬ (i' = i ∧ o' = o) → rd H' ⟨i', o', none⟩ = rd H ⟨i', o', none⟩
  blk : ∀ i', i' ≠ i → H'.blk i' = H.blk i'
  wb : ∀ lo i', WB lo H i' → WB lo H' i'
theorem blk_set {H : Hp} {i j : Nat} {b : Blk} (hi : i < H.length) : Hp.blk (H.set i (some b)) j = if j = i then some b else H.blk j := by
  unfold Hp.blk
  rw [List.getElem?_set]
  by_cases h : i = j
  · subst h; simp [hi]
  · rw [if_neg h, if_neg (fun e => h e.symm)]
theorem up1 {lo : Nat} {H : Hp} {i o : Nat} {v v0 : Value} (hw : WB lo H i) (h0 : rd H ⟨i, o, none⟩ = some v0) : ∃ H', wrN lo H ⟨i, o, none⟩ [v] = some H' ∧ Up i o v H H' := by
  obtain ⟨hlo, b, hb, hrw⟩ := hw
  have hi := blk_lt hb
  have ho : o < b.cs.length := by
    unfold rd at h0; simp only [hb, Option.bind_some] at h0; exact (List.getElem?_eq_some_iff.1 h0).1
  refine ⟨H.set i (some ⟨setAll b.cs o [v], true, b.k0⟩), ?_, ?_, ?_, ?_, ?_, ?_⟩
  · simp only [wrN, hb, Option.bind_some, List.length_cons, List.length_nil]
    rw [if_pos ⟨hlo, hrw, by omega⟩]
  · simp
  · simp only [rd, blk_set hi, if_true, Option.bind_some, setAll]; rw [List.getElem?_set]; simp [ho]
  · intro i' o' hn
    simp only [rd, blk_set hi]
    by_cases h : i' = i
    · subst h
      have : o' ≠ o := fun e => hn ⟨rfl, e⟩
      rw [if_pos rfl, hb]; simp only [Option.bind_some, setAll]; rw [List.getElem?_set]; rw [if_neg (fun e => this e.symm)]
    · rw [if_neg h]
  · intro i' h; rw [blk_set hi, if_neg h]
  · intro lo' i' ⟨h1, b', h2, h3⟩
    by_cases h : i' = i
    · subst h; exact ⟨h1, _, by rw [blk_set hi, if_pos rfl], rfl⟩
    · exact ⟨h1, b', by rw [blk_set hi, if_neg h, h2], h3⟩
theorem Up.fr {i o : Nat} {v : Value} {H H' : Hp} (h : Up i o v H H') : Fr (· = i) H H' := ⟨Nat.le_of_eq h.len.symm, fun i' _ hs => h.blk i' hs, h.wb⟩
/-- Loops by what holds before each round. -/
theorem lim_inv {f : Ts → Hp → Option (VE × Ts × Hp)} {Q : VE × Ts × Hp → Prop} (I : Nat → Ts → Hp → Prop) (n : Nat) (hround : ∀ i ts H, i < n → I i ts H → ∃ ts' H', f ts H = some (.normal, ts', H') ∧ I (i + 1) ts' H') (hend : ∀ ts H, I n ts H → ∃ r, f ts H = some r ∧ r.1 ≠ .normal ∧ Q r) {ts : Ts} {H : Hp} (h0 : I 0 ts H) : ∃ r, lim f ts H = some r ∧ Q r := by
  have key : ∀ k i ts H, n - i = k → i ≤ n → I i ts H → ∃ r, lim f ts H = some r ∧ Q r := by
    intro k
    induction k with
    | zero =>
      intro i ts H hk hi hI
      obtain rfl : i = n := by omega
      obtain ⟨⟨e, ts', H'⟩, h1, h2, h3⟩ := hend ts H hI
      exact ⟨_, lim_end h1 h2, h3⟩
    | succ k ih =>
      intro i ts H hk hi hI
      obtain ⟨ts', H', h1, h2⟩ := hround i ts H (by omega) hI
      obtain ⟨r, h3, h4⟩ := ih (i + 1) ts' H' (by omega) (by omega) h2
      exact ⟨r, lim_step h1 h3, h4⟩
  exact key n 0 ts H (by omega) (by omega) h0
/-- A number that counting never takes too far. -/
def Km (k : Int) : Prop := 0 ≤ k ∧ k < 4611686018427387904
theorem Km.w {k : Int} (h : Km k) : IntKind.i64.wrap (k + 1) = k + 1 := by unfold Km at h; exact wr (by omega) (by omega)
theorem Km.lt {k m : Int} (h : Km m) (h0 : 0 ≤ k) (h1 : k ≤ m) : Km k := by unfold Km at h ⊢; omega
def mI (n : Nat) (k : Int) : List Int := (List.range n).map fun (j : Nat) => k + (j : Int)
def mB (n : Nat) (k : Int) : List Bk := (List.range n).map fun (j : Nat) => ⟨k + 2 * (j : Int), k + 2 * (j : Int) + 1⟩
theorem mB_len (n : Nat) (k : Int) : (mB n k).length = n := by simp [mB]
theorem mI_len (n : Nat) (k : Int) : (mI n k).length = n := by simp [mI]
theorem mB_at {n : Nat} {k : Int} {j : Nat} (h : j < n) : (mB n k)[j]? = some ⟨k + 2 * (j : Int), k + 2 * (j : Int) + 1⟩ := by simp [mB, h]
theorem mI_at {n : Nat} {k : Int} {j : Nat} (h : j < n) : (mI n k)[j]? = some (k + (j : Int)) := by simp [mI, h]

/-- A slice of own memory, in S. -/
def Own (S : Nat → Prop) (lo : Nat) (H : Hp) (a : Option Addr) (n : Nat) : Prop := 0 < n → ∀ i o, a = some ⟨i, o, none⟩ → WB lo H i ∧ S i
theorem Rep.mk' {α : Type} {E : Hp → Nat → Nat → α → Prop} {st : Nat} {H : Hp} {a : Option Addr} {n : Nat} {l : List α} (hn : n = l.length) {i o : Nat} (ha : a = some ⟨i, o, none⟩) (h : ∀ (j : Nat) x, l[j]? = some x → E H i (o + j * st) x) : Rep E st H a n l := ⟨hn, fun _ => ⟨i, o, ha, h⟩⟩

end Go.Proofs.YtohanpndekfbgaaDoor.V
