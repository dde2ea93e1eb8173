/-
  No cell of these rows narrows 'for every input' (looked for: loops, veiled, ifaces, maps, wideKeys, modest, calm, conditions, laid).
  DERIVED. THE GIVEN ROWS OF THIS SEAT. 10 by the template 'for every input the law returns true; each argument reads behind the call as it read before'; 0 by the template 'total and deterministic' (their statements: YtflddpkmajoeaaaTotals.lean).
  GIVEN WITH THE SEED: the statements are not yours to turn. If you find one false, say at which input.
  Laid BY PROGRAM, IN A SANDBOX (cutbox-rows.mjs): the forced cells as the released guide's own fill.sh prints them over the translation 38354ef8b61b9879… (all of the seat's roots in one cut). By AI agents, Wed Nov 11 2026. No macro, syntax, notation, axiom, sorry.
-/
import Derived.Test.YtflddpkmajoeaaaChecked
import GoSem.Claim
import GoSem.ClaimJoined
import GoSem.ClaimMapViews
import Derived.JoinedTies
import Derived.KernelRfl
namespace Go.Proofs.Ytflddpkmajoeaaa
/- THE CELL 'sum', in the pinned program and in every row, IS THE sha256 OF THE DUMP (.gsa) THAT YtflddpkmajoeaaaProg.lean LOADS. Nothing in Lean hashes anything: it is a label: what it is worth is what the hold of that sum in a sandbox is worth. -/
noncomputable def Try.pinned : Pinned := { name := "ytflddpkmajoeaaa", sum := "38354ef8b61b9879ebd78d6b40b8446f136a561e9ffad1c07cb53ca391d8b2f7", checked := Try.checked }
namespace Rows
def none {H : Type} : Left H := { results := [], args := [] }

/-- 'laws.FnExactChunkDelta': WHATEVER THE INPUT: true; the input reads as it did. -/
def fnExactChunkDeltaSpec : ChangeSpec := { name := "fnExactChunkDelta", fn := fun _ => fun
  | [d1, d2, d3] => { results := [.lit (.bool true)], args := [d1, d2, d3] }
  | _ => none }
def fnExactChunkDeltaRow : OpenClaim := { program := "ytflddpkmajoeaaa", sum := "38354ef8b61b9879ebd78d6b40b8446f136a561e9ffad1c07cb53ca391d8b2f7", func := "loop.example/g00277/laws.FnExactChunkDelta", spec := "fnExactChunkDelta", apart := false }
def FnExactChunkDeltaSaid : Prop := fnExactChunkDeltaRow.holds Try.pinned (OpenSpec.ofChange fnExactChunkDeltaSpec)

/-- ITS FALSE NEIGHBOUR: 'it returns false'. Refute it at one input. -/
def fnExactChunkDeltaWrong : ChangeSpec := { name := "fnExactChunkDelta", fn := fun _ => fun
  | [d1, d2, d3] => { results := [.lit (.bool false)], args := [d1, d2, d3] }
  | _ => none }
def FnExactChunkDeltaWrongFalsely : Prop := fnExactChunkDeltaRow.holds Try.pinned (OpenSpec.ofChange fnExactChunkDeltaWrong)

/-- 'laws.FnExactSamePlains': WHATEVER THE INPUT: true; the input reads as it did. -/
def fnExactSamePlainsSpec : ChangeSpec := { name := "fnExactSamePlains", fn := fun _ => fun
  | [d1, d2] => { results := [.lit (.bool true)], args := [d1, d2] }
  | _ => none }
def fnExactSamePlainsRow : OpenClaim := { program := "ytflddpkmajoeaaa", sum := "38354ef8b61b9879ebd78d6b40b8446f136a561e9ffad1c07cb53ca391d8b2f7", func := "loop.example/g00277/laws.FnExactSamePlains", spec := "fnExactSamePlains", apart := false }
def FnExactSamePlainsSaid : Prop := fnExactSamePlainsRow.holds Try.pinned (OpenSpec.ofChange fnExactSamePlainsSpec)

/-- ITS FALSE NEIGHBOUR: 'it returns false'. Refute it at one input. -/
def fnExactSamePlainsWrong : ChangeSpec := { name := "fnExactSamePlains", fn := fun _ => fun
  | [d1, d2] => { results := [.lit (.bool false)], args := [d1, d2] }
  | _ => none }
def FnExactSamePlainsWrongFalsely : Prop := fnExactSamePlainsRow.holds Try.pinned (OpenSpec.ofChange fnExactSamePlainsWrong)

/-- 'laws.FnExactSamePools': WHATEVER THE INPUT: true; the input reads as it did. -/
def fnExactSamePoolsSpec : ChangeSpec := { name := "fnExactSamePools", fn := fun _ => fun
  | [d1, d2] => { results := [.lit (.bool true)], args := [d1, d2] }
  | _ => none }
def fnExactSamePoolsRow : OpenClaim := { program := "ytflddpkmajoeaaa", sum := "38354ef8b61b9879ebd78d6b40b8446f136a561e9ffad1c07cb53ca391d8b2f7", func := "loop.example/g00277/laws.FnExactSamePools", spec := "fnExactSamePools", unfollowed := true, recurses := true, apart := false }
def FnExactSamePoolsSaid : Prop := fnExactSamePoolsRow.holds Try.pinned (OpenSpec.ofChange fnExactSamePoolsSpec)

/-- ITS FALSE NEIGHBOUR: 'it returns false'. Refute it at one input. -/
def fnExactSamePoolsWrong : ChangeSpec := { name := "fnExactSamePools", fn := fun _ => fun
  | [d1, d2] => { results := [.lit (.bool false)], args := [d1, d2] }
  | _ => none }
def FnExactSamePoolsWrongFalsely : Prop := fnExactSamePoolsRow.holds Try.pinned (OpenSpec.ofChange fnExactSamePoolsWrong)

/-- 'laws.FnExactPoolFault': WHATEVER THE INPUT: true; the input reads as it did. -/
def fnExactPoolFaultSpec : ChangeSpec := { name := "fnExactPoolFault", fn := fun _ => fun
  | [d] => { results := [.lit (.bool true)], args := [d] }
  | _ => none }
def fnExactPoolFaultRow : OpenClaim := { program := "ytflddpkmajoeaaa", sum := "38354ef8b61b9879ebd78d6b40b8446f136a561e9ffad1c07cb53ca391d8b2f7", func := "loop.example/g00277/laws.FnExactPoolFault", spec := "fnExactPoolFault", unfollowed := true, recurses := true, apart := false }
def FnExactPoolFaultSaid : Prop := fnExactPoolFaultRow.holds Try.pinned (OpenSpec.ofChange fnExactPoolFaultSpec)

/-- ITS FALSE NEIGHBOUR: 'it returns false'. Refute it at one input. -/
def fnExactPoolFaultWrong : ChangeSpec := { name := "fnExactPoolFault", fn := fun _ => fun
  | [d] => { results := [.lit (.bool false)], args := [d] }
  | _ => none }
def FnExactPoolFaultWrongFalsely : Prop := fnExactPoolFaultRow.holds Try.pinned (OpenSpec.ofChange fnExactPoolFaultWrong)

/-- 'laws.FnExactVolAt': WHATEVER THE INPUT: true; the input reads as it did. -/
def fnExactVolAtSpec : ChangeSpec := { name := "fnExactVolAt", fn := fun _ => fun
  | [d1, d2] => { results := [.lit (.bool true)], args := [d1, d2] }
  | _ => none }
def fnExactVolAtRow : OpenClaim := { program := "ytflddpkmajoeaaa", sum := "38354ef8b61b9879ebd78d6b40b8446f136a561e9ffad1c07cb53ca391d8b2f7", func := "loop.example/g00277/laws.FnExactVolAt", spec := "fnExactVolAt", unfollowed := true, recurses := true, apart := false }
def FnExactVolAtSaid : Prop := fnExactVolAtRow.holds Try.pinned (OpenSpec.ofChange fnExactVolAtSpec)

/-- ITS FALSE NEIGHBOUR: 'it returns false'. Refute it at one input. -/
def fnExactVolAtWrong : ChangeSpec := { name := "fnExactVolAt", fn := fun _ => fun
  | [d1, d2] => { results := [.lit (.bool false)], args := [d1, d2] }
  | _ => none }
def FnExactVolAtWrongFalsely : Prop := fnExactVolAtRow.holds Try.pinned (OpenSpec.ofChange fnExactVolAtWrong)

/-- 'laws.FnExactUsedOf': WHATEVER THE INPUT: true; the input reads as it did. -/
def fnExactUsedOfSpec : ChangeSpec := { name := "fnExactUsedOf", fn := fun _ => fun
  | [d1, d2] => { results := [.lit (.bool true)], args := [d1, d2] }
  | _ => none }
def fnExactUsedOfRow : OpenClaim := { program := "ytflddpkmajoeaaa", sum := "38354ef8b61b9879ebd78d6b40b8446f136a561e9ffad1c07cb53ca391d8b2f7", func := "loop.example/g00277/laws.FnExactUsedOf", spec := "fnExactUsedOf", unfollowed := true, recurses := true, apart := false }
def FnExactUsedOfSaid : Prop := fnExactUsedOfRow.holds Try.pinned (OpenSpec.ofChange fnExactUsedOfSpec)

/-- ITS FALSE NEIGHBOUR: 'it returns false'. Refute it at one input. -/
def fnExactUsedOfWrong : ChangeSpec := { name := "fnExactUsedOf", fn := fun _ => fun
  | [d1, d2] => { results := [.lit (.bool false)], args := [d1, d2] }
  | _ => none }
def FnExactUsedOfWrongFalsely : Prop := fnExactUsedOfRow.holds Try.pinned (OpenSpec.ofChange fnExactUsedOfWrong)

/-- 'laws.FnExactPlainOf': WHATEVER THE INPUT: true; the input reads as it did. -/
def fnExactPlainOfSpec : ChangeSpec := { name := "fnExactPlainOf", fn := fun _ => fun
  | [d] => { results := [.lit (.bool true)], args := [d] }
  | _ => none }
def fnExactPlainOfRow : OpenClaim := { program := "ytflddpkmajoeaaa", sum := "38354ef8b61b9879ebd78d6b40b8446f136a561e9ffad1c07cb53ca391d8b2f7", func := "loop.example/g00277/laws.FnExactPlainOf", spec := "fnExactPlainOf", unfollowed := true, recurses := true, apart := false }
def FnExactPlainOfSaid : Prop := fnExactPlainOfRow.holds Try.pinned (OpenSpec.ofChange fnExactPlainOfSpec)

/-- ITS FALSE NEIGHBOUR: 'it returns false'. Refute it at one input. -/
def fnExactPlainOfWrong : ChangeSpec := { name := "fnExactPlainOf", fn := fun _ => fun
  | [d] => { results := [.lit (.bool false)], args := [d] }
  | _ => none }
def FnExactPlainOfWrongFalsely : Prop := fnExactPlainOfRow.holds Try.pinned (OpenSpec.ofChange fnExactPlainOfWrong)

/-- 'laws.FnExactPlainFault': WHATEVER THE INPUT: true; the input reads as it did. -/
def fnExactPlainFaultSpec : ChangeSpec := { name := "fnExactPlainFault", fn := fun _ => fun
  | [d] => { results := [.lit (.bool true)], args := [d] }
  | _ => none }
def fnExactPlainFaultRow : OpenClaim := { program := "ytflddpkmajoeaaa", sum := "38354ef8b61b9879ebd78d6b40b8446f136a561e9ffad1c07cb53ca391d8b2f7", func := "loop.example/g00277/laws.FnExactPlainFault", spec := "fnExactPlainFault", unfollowed := true, recurses := true, apart := false }
def FnExactPlainFaultSaid : Prop := fnExactPlainFaultRow.holds Try.pinned (OpenSpec.ofChange fnExactPlainFaultSpec)

/-- ITS FALSE NEIGHBOUR: 'it returns false'. Refute it at one input. -/
def fnExactPlainFaultWrong : ChangeSpec := { name := "fnExactPlainFault", fn := fun _ => fun
  | [d] => { results := [.lit (.bool false)], args := [d] }
  | _ => none }
def FnExactPlainFaultWrongFalsely : Prop := fnExactPlainFaultRow.holds Try.pinned (OpenSpec.ofChange fnExactPlainFaultWrong)

/-- 'laws.FnExactCellIn': WHATEVER THE INPUT: true; the input reads as it did. -/
def fnExactCellInSpec : ChangeSpec := { name := "fnExactCellIn", fn := fun _ => fun
  | [d1, d2, d3] => { results := [.lit (.bool true)], args := [d1, d2, d3] }
  | _ => none }
def fnExactCellInRow : OpenClaim := { program := "ytflddpkmajoeaaa", sum := "38354ef8b61b9879ebd78d6b40b8446f136a561e9ffad1c07cb53ca391d8b2f7", func := "loop.example/g00277/laws.FnExactCellIn", spec := "fnExactCellIn", unfollowed := true, recurses := true, apart := false }
def FnExactCellInSaid : Prop := fnExactCellInRow.holds Try.pinned (OpenSpec.ofChange fnExactCellInSpec)

/-- ITS FALSE NEIGHBOUR: 'it returns false'. Refute it at one input. -/
def fnExactCellInWrong : ChangeSpec := { name := "fnExactCellIn", fn := fun _ => fun
  | [d1, d2, d3] => { results := [.lit (.bool false)], args := [d1, d2, d3] }
  | _ => none }
def FnExactCellInWrongFalsely : Prop := fnExactCellInRow.holds Try.pinned (OpenSpec.ofChange fnExactCellInWrong)

/-- 'laws.FnExactDeltaFault': WHATEVER THE INPUT: true; the input reads as it did. -/
def fnExactDeltaFaultSpec : ChangeSpec := { name := "fnExactDeltaFault", fn := fun _ => fun
  | [d] => { results := [.lit (.bool true)], args := [d] }
  | _ => none }
def fnExactDeltaFaultRow : OpenClaim := { program := "ytflddpkmajoeaaa", sum := "38354ef8b61b9879ebd78d6b40b8446f136a561e9ffad1c07cb53ca391d8b2f7", func := "loop.example/g00277/laws.FnExactDeltaFault", spec := "fnExactDeltaFault", apart := false }
def FnExactDeltaFaultSaid : Prop := fnExactDeltaFaultRow.holds Try.pinned (OpenSpec.ofChange fnExactDeltaFaultSpec)

/-- ITS FALSE NEIGHBOUR: 'it returns false'. Refute it at one input. -/
def fnExactDeltaFaultWrong : ChangeSpec := { name := "fnExactDeltaFault", fn := fun _ => fun
  | [d] => { results := [.lit (.bool false)], args := [d] }
  | _ => none }
def FnExactDeltaFaultWrongFalsely : Prop := fnExactDeltaFaultRow.holds Try.pinned (OpenSpec.ofChange fnExactDeltaFaultWrong)

/- THE SECOND FORM. 'bulk': how many values and letters a reading holds, each counted each time it is reached (what is shared counts as often as it is met; a slice's spare places count too). A statement '..UptoSaid' is the law's where the arguments, and the package variables that the reading takes, are together of bulk at most 1048576: NARROWER than '..Said'. Prove '..Said' where nothing that the law and all that it calls make is longer than what came in: it says more and counts as full. Else prove '..UptoSaid'. A law counts once. -/
mutual
def uptoBulk {H : Type} : DataW H → Nat
  | .lit (.string bytes) => bytes.length + 1
  | .lit _ => 1
  | .nil => 1
  | .ptr d => uptoBulk d + 1
  | .slice elems spare => uptoBulkAll elems + uptoBulkAll spare + 1
  | .agg parts => uptoBulkAll parts + 1
  | .iface _ d => uptoBulk d + 1
  | .map entries => uptoBulkEntries entries + 1
  | .held _ => 1
def uptoBulkAll {H : Type} : List (DataW H) → Nat
  | [] => 0
  | d :: r => uptoBulk d + uptoBulkAll r
def uptoBulkEntries {H : Type} : List (Lit × DataW H) → Nat
  | [] => 0
  | x :: r => uptoBulkEntry x + uptoBulkEntries r
def uptoBulkEntry {H : Type} : Lit × DataW H → Nat
  | (.string bytes, d) => bytes.length + uptoBulk d + 1
  | (_, d) => uptoBulk d + 1
 end
def uptoSmall : (H : Type) → List (DataW H) → Bool := fun _ ds => decide (uptoBulkAll ds ≤ 1048576)
def OpenSpec.upto (s : _root_.Go.ChangeSpec) : _root_.Go.OpenSpec := { _root_.Go.OpenSpec.ofChange s with cond := some uptoSmall }

/-- 'laws.FnExactChunkDelta', WHERE WHAT IT READS IS OF BULK AT MOST 1048576: true; the input reads as it did. -/
def fnExactChunkDeltaUptoRow : OpenClaim := { program := "ytflddpkmajoeaaa", sum := "38354ef8b61b9879ebd78d6b40b8446f136a561e9ffad1c07cb53ca391d8b2f7", func := "loop.example/g00277/laws.FnExactChunkDelta", spec := "fnExactChunkDelta", apart := false, narrowed := true }
def FnExactChunkDeltaUptoSaid : Prop := fnExactChunkDeltaUptoRow.holds Try.pinned (OpenSpec.upto fnExactChunkDeltaSpec)

/-- 'laws.FnExactSamePlains', WHERE WHAT IT READS IS OF BULK AT MOST 1048576: true; the input reads as it did. -/
def fnExactSamePlainsUptoRow : OpenClaim := { program := "ytflddpkmajoeaaa", sum := "38354ef8b61b9879ebd78d6b40b8446f136a561e9ffad1c07cb53ca391d8b2f7", func := "loop.example/g00277/laws.FnExactSamePlains", spec := "fnExactSamePlains", apart := false, narrowed := true }
def FnExactSamePlainsUptoSaid : Prop := fnExactSamePlainsUptoRow.holds Try.pinned (OpenSpec.upto fnExactSamePlainsSpec)

/-- 'laws.FnExactSamePools', WHERE WHAT IT READS IS OF BULK AT MOST 1048576: true; the input reads as it did. -/
def fnExactSamePoolsUptoRow : OpenClaim := { program := "ytflddpkmajoeaaa", sum := "38354ef8b61b9879ebd78d6b40b8446f136a561e9ffad1c07cb53ca391d8b2f7", func := "loop.example/g00277/laws.FnExactSamePools", spec := "fnExactSamePools", unfollowed := true, recurses := true, apart := false, narrowed := true }
def FnExactSamePoolsUptoSaid : Prop := fnExactSamePoolsUptoRow.holds Try.pinned (OpenSpec.upto fnExactSamePoolsSpec)

/-- 'laws.FnExactPoolFault', WHERE WHAT IT READS IS OF BULK AT MOST 1048576: true; the input reads as it did. -/
def fnExactPoolFaultUptoRow : OpenClaim := { program := "ytflddpkmajoeaaa", sum := "38354ef8b61b9879ebd78d6b40b8446f136a561e9ffad1c07cb53ca391d8b2f7", func := "loop.example/g00277/laws.FnExactPoolFault", spec := "fnExactPoolFault", unfollowed := true, recurses := true, apart := false, narrowed := true }
def FnExactPoolFaultUptoSaid : Prop := fnExactPoolFaultUptoRow.holds Try.pinned (OpenSpec.upto fnExactPoolFaultSpec)

/-- 'laws.FnExactVolAt', WHERE WHAT IT READS IS OF BULK AT MOST 1048576: true; the input reads as it did. -/
def fnExactVolAtUptoRow : OpenClaim := { program := "ytflddpkmajoeaaa", sum := "38354ef8b61b9879ebd78d6b40b8446f136a561e9ffad1c07cb53ca391d8b2f7", func := "loop.example/g00277/laws.FnExactVolAt", spec := "fnExactVolAt", unfollowed := true, recurses := true, apart := false, narrowed := true }
def FnExactVolAtUptoSaid : Prop := fnExactVolAtUptoRow.holds Try.pinned (OpenSpec.upto fnExactVolAtSpec)

/-- 'laws.FnExactUsedOf', WHERE WHAT IT READS IS OF BULK AT MOST 1048576: true; the input reads as it did. -/
def fnExactUsedOfUptoRow : OpenClaim := { program := "ytflddpkmajoeaaa", sum := "38354ef8b61b9879ebd78d6b40b8446f136a561e9ffad1c07cb53ca391d8b2f7", func := "loop.example/g00277/laws.FnExactUsedOf", spec := "fnExactUsedOf", unfollowed := true, recurses := true, apart := false, narrowed := true }
def FnExactUsedOfUptoSaid : Prop := fnExactUsedOfUptoRow.holds Try.pinned (OpenSpec.upto fnExactUsedOfSpec)

/-- 'laws.FnExactPlainOf', WHERE WHAT IT READS IS OF BULK AT MOST 1048576: true; the input reads as it did. -/
def fnExactPlainOfUptoRow : OpenClaim := { program := "ytflddpkmajoeaaa", sum := "38354ef8b61b9879ebd78d6b40b8446f136a561e9ffad1c07cb53ca391d8b2f7", func := "loop.example/g00277/laws.FnExactPlainOf", spec := "fnExactPlainOf", unfollowed := true, recurses := true, apart := false, narrowed := true }
def FnExactPlainOfUptoSaid : Prop := fnExactPlainOfUptoRow.holds Try.pinned (OpenSpec.upto fnExactPlainOfSpec)

/-- 'laws.FnExactPlainFault', WHERE WHAT IT READS IS OF BULK AT MOST 1048576: true; the input reads as it did. -/
def fnExactPlainFaultUptoRow : OpenClaim := { program := "ytflddpkmajoeaaa", sum := "38354ef8b61b9879ebd78d6b40b8446f136a561e9ffad1c07cb53ca391d8b2f7", func := "loop.example/g00277/laws.FnExactPlainFault", spec := "fnExactPlainFault", unfollowed := true, recurses := true, apart := false, narrowed := true }
def FnExactPlainFaultUptoSaid : Prop := fnExactPlainFaultUptoRow.holds Try.pinned (OpenSpec.upto fnExactPlainFaultSpec)

/-- 'laws.FnExactCellIn', WHERE WHAT IT READS IS OF BULK AT MOST 1048576: true; the input reads as it did. -/
def fnExactCellInUptoRow : OpenClaim := { program := "ytflddpkmajoeaaa", sum := "38354ef8b61b9879ebd78d6b40b8446f136a561e9ffad1c07cb53ca391d8b2f7", func := "loop.example/g00277/laws.FnExactCellIn", spec := "fnExactCellIn", unfollowed := true, recurses := true, apart := false, narrowed := true }
def FnExactCellInUptoSaid : Prop := fnExactCellInUptoRow.holds Try.pinned (OpenSpec.upto fnExactCellInSpec)

/-- 'laws.FnExactDeltaFault', WHERE WHAT IT READS IS OF BULK AT MOST 1048576: true; the input reads as it did. -/
def fnExactDeltaFaultUptoRow : OpenClaim := { program := "ytflddpkmajoeaaa", sum := "38354ef8b61b9879ebd78d6b40b8446f136a561e9ffad1c07cb53ca391d8b2f7", func := "loop.example/g00277/laws.FnExactDeltaFault", spec := "fnExactDeltaFault", apart := false, narrowed := true }
def FnExactDeltaFaultUptoSaid : Prop := fnExactDeltaFaultUptoRow.holds Try.pinned (OpenSpec.upto fnExactDeltaFaultSpec)

end Rows
end Go.Proofs.Ytflddpkmajoeaaa
