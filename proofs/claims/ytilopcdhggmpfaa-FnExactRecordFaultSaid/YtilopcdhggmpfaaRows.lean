/-
  No cell of these rows narrows 'for every input' (looked for: loops, veiled, ifaces, maps, wideKeys, modest, calm, conditions, laid).
  DERIVED. THE GIVEN ROWS OF THIS SEAT. 5 by the template 'for every input the law returns true; each argument reads behind the call as it read before'; 0 by the template 'total and deterministic' (their statements: YtilopcdhggmpfaaTotals.lean).
  GIVEN WITH THE SEED: the statements are not yours to turn. If you find one false, say at which input.
  Laid BY PROGRAM, IN A SANDBOX (cutbox-rows.mjs): the forced cells as the released guide's own fill.sh prints them over the translation 73bdf6f62f49415b… (all of the seat's roots in one cut). By AI agents, Wed Nov 11 2026. No macro, syntax, notation, axiom, sorry.
-/
import Derived.Test.YtilopcdhggmpfaaChecked
import GoSem.Claim
import GoSem.ClaimJoined
import GoSem.ClaimMapViews
import Derived.JoinedTies
import Derived.KernelRfl
namespace Go.Proofs.Ytilopcdhggmpfaa
/- THE CELL 'sum', in the pinned program and in every row, IS THE sha256 OF THE DUMP (.gsa) THAT YtilopcdhggmpfaaProg.lean LOADS. Nothing in Lean hashes anything: it is a label: what it is worth is what the hold of that sum in a sandbox is worth. -/
noncomputable def Try.pinned : Pinned := { name := "ytilopcdhggmpfaa", sum := "73bdf6f62f49415b48fadf3bb213bb0879e6660183482a1ab2c6eccb3fc2ee00", checked := Try.checked }
namespace Rows
def none {H : Type} : Left H := { results := [], args := [] }

/-- 'laws.FnExactConstants': WHATEVER THE INPUT: true; the input reads as it did. -/
def fnExactConstantsSpec : ChangeSpec := { name := "fnExactConstants", fn := fun _ => fun
  | [] => { results := [.lit (.bool true)], args := [] }
  | _ => none }
def fnExactConstantsRow : OpenClaim := { program := "ytilopcdhggmpfaa", sum := "73bdf6f62f49415b48fadf3bb213bb0879e6660183482a1ab2c6eccb3fc2ee00", func := "loop.example/g00277/laws.FnExactConstants", spec := "fnExactConstants", apart := false }
def FnExactConstantsSaid : Prop := fnExactConstantsRow.holds Try.pinned (OpenSpec.ofChange fnExactConstantsSpec)

/-- ITS FALSE NEIGHBOUR: 'it returns false'. Refute it at one input. -/
def fnExactConstantsWrong : ChangeSpec := { name := "fnExactConstants", fn := fun _ => fun
  | [] => { results := [.lit (.bool false)], args := [] }
  | _ => none }
def FnExactConstantsWrongFalsely : Prop := fnExactConstantsRow.holds Try.pinned (OpenSpec.ofChange fnExactConstantsWrong)

/-- 'laws.FnExactSumWords': WHATEVER THE INPUT: true; the input reads as it did. -/
def fnExactSumWordsSpec : ChangeSpec := { name := "fnExactSumWords", fn := fun _ => fun
  | [d] => { results := [.lit (.bool true)], args := [d] }
  | _ => none }
def fnExactSumWordsRow : OpenClaim := { program := "ytilopcdhggmpfaa", sum := "73bdf6f62f49415b48fadf3bb213bb0879e6660183482a1ab2c6eccb3fc2ee00", func := "loop.example/g00277/laws.FnExactSumWords", spec := "fnExactSumWords", apart := false }
def FnExactSumWordsSaid : Prop := fnExactSumWordsRow.holds Try.pinned (OpenSpec.ofChange fnExactSumWordsSpec)

/-- ITS FALSE NEIGHBOUR: 'it returns false'. Refute it at one input. -/
def fnExactSumWordsWrong : ChangeSpec := { name := "fnExactSumWords", fn := fun _ => fun
  | [d] => { results := [.lit (.bool false)], args := [d] }
  | _ => none }
def FnExactSumWordsWrongFalsely : Prop := fnExactSumWordsRow.holds Try.pinned (OpenSpec.ofChange fnExactSumWordsWrong)

/-- 'laws.FnExactOpFault': WHATEVER THE INPUT: true; the input reads as it did. -/
def fnExactOpFaultSpec : ChangeSpec := { name := "fnExactOpFault", fn := fun _ => fun
  | [d] => { results := [.lit (.bool true)], args := [d] }
  | _ => none }
def fnExactOpFaultRow : OpenClaim := { program := "ytilopcdhggmpfaa", sum := "73bdf6f62f49415b48fadf3bb213bb0879e6660183482a1ab2c6eccb3fc2ee00", func := "loop.example/g00277/laws.FnExactOpFault", spec := "fnExactOpFault", apart := false }
def FnExactOpFaultSaid : Prop := fnExactOpFaultRow.holds Try.pinned (OpenSpec.ofChange fnExactOpFaultSpec)

/-- ITS FALSE NEIGHBOUR: 'it returns false'. Refute it at one input. -/
def fnExactOpFaultWrong : ChangeSpec := { name := "fnExactOpFault", fn := fun _ => fun
  | [d] => { results := [.lit (.bool false)], args := [d] }
  | _ => none }
def FnExactOpFaultWrongFalsely : Prop := fnExactOpFaultRow.holds Try.pinned (OpenSpec.ofChange fnExactOpFaultWrong)

/-- 'laws.FnExactRecordFault': WHATEVER THE INPUT: true; the input reads as it did. -/
def fnExactRecordFaultSpec : ChangeSpec := { name := "fnExactRecordFault", fn := fun _ => fun
  | [d] => { results := [.lit (.bool true)], args := [d] }
  | _ => none }
def fnExactRecordFaultRow : OpenClaim := { program := "ytilopcdhggmpfaa", sum := "73bdf6f62f49415b48fadf3bb213bb0879e6660183482a1ab2c6eccb3fc2ee00", func := "loop.example/g00277/laws.FnExactRecordFault", spec := "fnExactRecordFault", unfollowed := true, recurses := true, apart := false }
def FnExactRecordFaultSaid : Prop := fnExactRecordFaultRow.holds Try.pinned (OpenSpec.ofChange fnExactRecordFaultSpec)

/-- ITS FALSE NEIGHBOUR: 'it returns false'. Refute it at one input. -/
def fnExactRecordFaultWrong : ChangeSpec := { name := "fnExactRecordFault", fn := fun _ => fun
  | [d] => { results := [.lit (.bool false)], args := [d] }
  | _ => none }
def FnExactRecordFaultWrongFalsely : Prop := fnExactRecordFaultRow.holds Try.pinned (OpenSpec.ofChange fnExactRecordFaultWrong)

/-- 'laws.FnExactBlocksFault': WHATEVER THE INPUT: true; the input reads as it did. -/
def fnExactBlocksFaultSpec : ChangeSpec := { name := "fnExactBlocksFault", fn := fun _ => fun
  | [d] => { results := [.lit (.bool true)], args := [d] }
  | _ => none }
def fnExactBlocksFaultRow : OpenClaim := { program := "ytilopcdhggmpfaa", sum := "73bdf6f62f49415b48fadf3bb213bb0879e6660183482a1ab2c6eccb3fc2ee00", func := "loop.example/g00277/laws.FnExactBlocksFault", spec := "fnExactBlocksFault", apart := false }
def FnExactBlocksFaultSaid : Prop := fnExactBlocksFaultRow.holds Try.pinned (OpenSpec.ofChange fnExactBlocksFaultSpec)

/-- ITS FALSE NEIGHBOUR: 'it returns false'. Refute it at one input. -/
def fnExactBlocksFaultWrong : ChangeSpec := { name := "fnExactBlocksFault", fn := fun _ => fun
  | [d] => { results := [.lit (.bool false)], args := [d] }
  | _ => none }
def FnExactBlocksFaultWrongFalsely : Prop := fnExactBlocksFaultRow.holds Try.pinned (OpenSpec.ofChange fnExactBlocksFaultWrong)

/- THE SECOND FORM. 'bulk': how many values and letters a reading holds, each counted each time it is reached (what is shared counts as often as it is met; a slice's spare places count too). A statement '..UptoSaid' is the law's where the arguments, and the package variables that the reading takes, are together of bulk at most 1048576: NARROWER than '..Said'. Prove '..Said' where nothing that the law and all that it calls make is longer than what came in: it says more and counts as full. Else prove '..UptoSaid'. A law counts once. -/
mutual
def uptoBulk {H : Type} : DataW H → Nat
  | .lit (.string bytes) => bytes.length + 1
  | .lit _ => 1
  | .nil => 1
  | .ptr d => uptoBulk d + 1
  | .slice elems spare => uptoBulkAll elems + uptoBulkAll spare + 1
  | .agg parts => uptoBulkAll parts + 1
  | .iface _ d => uptoBulk d + 1
  | .map entries => uptoBulkEntries entries + 1
  | .held _ => 1
def uptoBulkAll {H : Type} : List (DataW H) → Nat
  | [] => 0
  | d :: r => uptoBulk d + uptoBulkAll r
def uptoBulkEntries {H : Type} : List (Lit × DataW H) → Nat
  | [] => 0
  | x :: r => uptoBulkEntry x + uptoBulkEntries r
def uptoBulkEntry {H : Type} : Lit × DataW H → Nat
  | (.string bytes, d) => bytes.length + uptoBulk d + 1
  | (_, d) => uptoBulk d + 1
 end
def uptoSmall : (H : Type) → List (DataW H) → Bool := fun _ ds => decide (uptoBulkAll ds ≤ 1048576)
def OpenSpec.upto (s : _root_.Go.ChangeSpec) : _root_.Go.OpenSpec := { _root_.Go.OpenSpec.ofChange s with cond := some uptoSmall }

/-- 'laws.FnExactConstants', WHERE WHAT IT READS IS OF BULK AT MOST 1048576: true; the input reads as it did. -/
def fnExactConstantsUptoRow : OpenClaim := { program := "ytilopcdhggmpfaa", sum := "73bdf6f62f49415b48fadf3bb213bb0879e6660183482a1ab2c6eccb3fc2ee00", func := "loop.example/g00277/laws.FnExactConstants", spec := "fnExactConstants", apart := false, narrowed := true }
def FnExactConstantsUptoSaid : Prop := fnExactConstantsUptoRow.holds Try.pinned (OpenSpec.upto fnExactConstantsSpec)

/-- 'laws.FnExactSumWords', WHERE WHAT IT READS IS OF BULK AT MOST 1048576: true; the input reads as it did. -/
def fnExactSumWordsUptoRow : OpenClaim := { program := "ytilopcdhggmpfaa", sum := "73bdf6f62f49415b48fadf3bb213bb0879e6660183482a1ab2c6eccb3fc2ee00", func := "loop.example/g00277/laws.FnExactSumWords", spec := "fnExactSumWords", apart := false, narrowed := true }
def FnExactSumWordsUptoSaid : Prop := fnExactSumWordsUptoRow.holds Try.pinned (OpenSpec.upto fnExactSumWordsSpec)

/-- 'laws.FnExactOpFault', WHERE WHAT IT READS IS OF BULK AT MOST 1048576: true; the input reads as it did. -/
def fnExactOpFaultUptoRow : OpenClaim := { program := "ytilopcdhggmpfaa", sum := "73bdf6f62f49415b48fadf3bb213bb0879e6660183482a1ab2c6eccb3fc2ee00", func := "loop.example/g00277/laws.FnExactOpFault", spec := "fnExactOpFault", apart := false, narrowed := true }
def FnExactOpFaultUptoSaid : Prop := fnExactOpFaultUptoRow.holds Try.pinned (OpenSpec.upto fnExactOpFaultSpec)

/-- 'laws.FnExactRecordFault', WHERE WHAT IT READS IS OF BULK AT MOST 1048576: true; the input reads as it did. -/
def fnExactRecordFaultUptoRow : OpenClaim := { program := "ytilopcdhggmpfaa", sum := "73bdf6f62f49415b48fadf3bb213bb0879e6660183482a1ab2c6eccb3fc2ee00", func := "loop.example/g00277/laws.FnExactRecordFault", spec := "fnExactRecordFault", unfollowed := true, recurses := true, apart := false, narrowed := true }
def FnExactRecordFaultUptoSaid : Prop := fnExactRecordFaultUptoRow.holds Try.pinned (OpenSpec.upto fnExactRecordFaultSpec)

/-- 'laws.FnExactBlocksFault', WHERE WHAT IT READS IS OF BULK AT MOST 1048576: true; the input reads as it did. -/
def fnExactBlocksFaultUptoRow : OpenClaim := { program := "ytilopcdhggmpfaa", sum := "73bdf6f62f49415b48fadf3bb213bb0879e6660183482a1ab2c6eccb3fc2ee00", func := "loop.example/g00277/laws.FnExactBlocksFault", spec := "fnExactBlocksFault", apart := false, narrowed := true }
def FnExactBlocksFaultUptoSaid : Prop := fnExactBlocksFaultUptoRow.holds Try.pinned (OpenSpec.upto fnExactBlocksFaultSpec)

end Rows
end Go.Proofs.Ytilopcdhggmpfaa
