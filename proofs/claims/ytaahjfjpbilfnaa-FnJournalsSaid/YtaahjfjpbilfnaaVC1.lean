/- The laws' helpers: are two forests the same? -/
import Derived.Test.YtaahjfjpbilfnaaVB
import Derived.Test.YtaahjfjpbilfnaaVE
namespace Go.Proofs.Ytaahjfjpbilfnaa.V
open Go
set_option linter.unusedVariables false
set_option linter.unusedSimpArgs false
set_option maxRecDepth 100000
/-- What lengths are never beyond. -/
def Sm (n : Nat) : Prop := n < 4611686018427387904
theorem Sm.w {n i : Nat} (h : Sm n) (hi : i < n) : IntKind.i64.wrap ((i : Int) + 1) = ((i + 1 : Nat) : Int) := by unfold Sm at h; rw [wr (by omega) (by omega)]; rfl
theorem ltc {i n : Nat} (h : i < n) : ((i : Int) < (n : Int)) = True := by simp; exact h
theorem ge0 (i : Nat) : ((0 : Int) ≤ (i : Int)) = True := by simp
theorem getE {α : Type} {l : List α} {i : Nat} (h : i < l.length) : l[i]? = some l[i] := List.getElem?_eq_getElem h

theorem EB.val {H : Hp} {i o : Nat} {b : Bk} (h : EB H i o b) : rdN H ⟨i, o, none⟩ 2 = some [.int .i64 b.r, .int .i64 b.d] := rdN2 h.1 h.2
theorem Rep.app {α : Type} {E : Hp → Nat → Nat → α → Prop} {st : Nat} {H : Hp} {l : List (Option Blk)} (hE : ∀ i o x, E H i o x → E (H ++ l) i o x) {a : Option Addr} {n : Nat} {xs : List α} (h : Rep E st H a n xs) : Rep E st (H ++ l) a n xs := h.mono hE
theorem EI.app {H : Hp} {l : List (Option Blk)} {i o : Nat} {x : Int} (h : EI H i o x) : EI (H ++ l) i o x := rd_app h
theorem EB.app {H : Hp} {l : List (Option Blk)} {i o : Nat} {x : Bk} (h : EB H i o x) : EB (H ++ l) i o x := ⟨rd_app h.1, rd_app h.2⟩
theorem EN.app {H : Hp} {l : List (Option Blk)} {i o : Nat} {x : Nd} (h : EN H i o x) : EN (H ++ l) i o x := by
  obtain ⟨h1, h2, a, n, h3, h4⟩ := h
  exact ⟨rd_app h1, rd_app h2, a, n, rd_app h3, h4.app fun _ _ _ => EI.app⟩

/-- A forest in memory: its two slices. -/
structure RF (H : Hp) (an : Option Addr) (nn : Nat) (ab : Option Addr) (nb : Nat) (F : Fo) : Prop where
  n : Rep EN 3 H an nn F.n
  b : Rep EB 2 H ab nb F.b
/-- A forest of no great size. -/
structure SF (F : Fo) : Prop where
  n : Sm F.n.length
  b : Sm F.b.length
  k : ∀ x ∈ F.n, Sm x.k.length
theorem RF.app {H : Hp} {l : List (Option Blk)} {an nn ab nb F} (h : RF H an nn ab nb F) : RF (H ++ l) an nn ab nb F := ⟨h.n.app fun _ _ _ => EN.app, h.b.app fun _ _ _ => EB.app⟩
end Go.Proofs.Ytaahjfjpbilfnaa.V
