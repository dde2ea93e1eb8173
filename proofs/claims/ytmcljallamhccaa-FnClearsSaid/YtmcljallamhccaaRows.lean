/-
  No cell of these rows narrows 'for every input' (looked for: loops, veiled, ifaces, maps, wideKeys, modest, calm, conditions, laid).
  DERIVED. THE GIVEN ROWS OF THIS SEAT. 17 by the template 'for every input the law returns true; each argument reads behind the call as it read before'; 0 by the template 'total and deterministic' (their statements: YtmcljallamhccaaTotals.lean).
  GIVEN WITH THE SEED: the statements are not yours to turn. If you find one false, say at which input.
  Laid BY PROGRAM, IN A SANDBOX (cutbox-rows.mjs): the forced cells as the released guide's own fill.sh prints them over the translation 32e8d50b0d83b3ee… (all of the seat's roots in one cut). By AI agents, Wed Nov 11 2026. No macro, syntax, notation, axiom, sorry.
-/
import Derived.Test.YtmcljallamhccaaChecked
import GoSem.Claim
import GoSem.ClaimJoined
import GoSem.ClaimMapViews
import Derived.JoinedTies
import Derived.KernelRfl
namespace Go.Proofs.Ytmcljallamhccaa
/- THE CELL 'sum', in the pinned program and in every row, IS THE sha256 OF THE DUMP (.gsa) THAT YtmcljallamhccaaProg.lean LOADS. Nothing in Lean hashes anything: it is a label: what it is worth is what the hold of that sum in a sandbox is worth. -/
noncomputable def Try.pinned : Pinned := { name := "ytmcljallamhccaa", sum := "32e8d50b0d83b3eed32b5fc7a24447e23c230e030f96d9ea57a2084666b83fc5", checked := Try.checked }
namespace Rows
def none {H : Type} : Left H := { results := [], args := [] }

/-- 'laws.FnExactNewBlocks': WHATEVER THE INPUT: true; the input reads as it did. -/
def fnExactNewBlocksSpec : ChangeSpec := { name := "fnExactNewBlocks", fn := fun _ => fun
  | [d] => { results := [.lit (.bool true)], args := [d] }
  | _ => none }
def fnExactNewBlocksRow : OpenClaim := { program := "ytmcljallamhccaa", sum := "32e8d50b0d83b3eed32b5fc7a24447e23c230e030f96d9ea57a2084666b83fc5", func := "loop.example/g00277/laws.FnExactNewBlocks", spec := "fnExactNewBlocks", apart := false }
def FnExactNewBlocksSaid : Prop := fnExactNewBlocksRow.holds Try.pinned (OpenSpec.ofChange fnExactNewBlocksSpec)

/-- ITS FALSE NEIGHBOUR: 'it returns false'. Refute it at one input. -/
def fnExactNewBlocksWrong : ChangeSpec := { name := "fnExactNewBlocks", fn := fun _ => fun
  | [d] => { results := [.lit (.bool false)], args := [d] }
  | _ => none }
def FnExactNewBlocksWrongFalsely : Prop := fnExactNewBlocksRow.holds Try.pinned (OpenSpec.ofChange fnExactNewBlocksWrong)

/-- 'laws.FnExactFreeOf': WHATEVER THE INPUT: true; the input reads as it did. -/
def fnExactFreeOfSpec : ChangeSpec := { name := "fnExactFreeOf", fn := fun _ => fun
  | [d] => { results := [.lit (.bool true)], args := [d] }
  | _ => none }
def fnExactFreeOfRow : OpenClaim := { program := "ytmcljallamhccaa", sum := "32e8d50b0d83b3eed32b5fc7a24447e23c230e030f96d9ea57a2084666b83fc5", func := "loop.example/g00277/laws.FnExactFreeOf", spec := "fnExactFreeOf", apart := false }
def FnExactFreeOfSaid : Prop := fnExactFreeOfRow.holds Try.pinned (OpenSpec.ofChange fnExactFreeOfSpec)

/-- ITS FALSE NEIGHBOUR: 'it returns false'. Refute it at one input. -/
def fnExactFreeOfWrong : ChangeSpec := { name := "fnExactFreeOf", fn := fun _ => fun
  | [d] => { results := [.lit (.bool false)], args := [d] }
  | _ => none }
def FnExactFreeOfWrongFalsely : Prop := fnExactFreeOfRow.holds Try.pinned (OpenSpec.ofChange fnExactFreeOfWrong)

/-- 'laws.FnExactShareBlock': WHATEVER THE INPUT: true; the input reads as it did. -/
def fnExactShareBlockSpec : ChangeSpec := { name := "fnExactShareBlock", fn := fun _ => fun
  | [d1, d2] => { results := [.lit (.bool true)], args := [d1, d2] }
  | _ => none }
def fnExactShareBlockRow : OpenClaim := { program := "ytmcljallamhccaa", sum := "32e8d50b0d83b3eed32b5fc7a24447e23c230e030f96d9ea57a2084666b83fc5", func := "loop.example/g00277/laws.FnExactShareBlock", spec := "fnExactShareBlock", unfollowed := true, recurses := true, apart := false }
def FnExactShareBlockSaid : Prop := fnExactShareBlockRow.holds Try.pinned (OpenSpec.ofChange fnExactShareBlockSpec)

/-- ITS FALSE NEIGHBOUR: 'it returns false'. Refute it at one input. -/
def fnExactShareBlockWrong : ChangeSpec := { name := "fnExactShareBlock", fn := fun _ => fun
  | [d1, d2] => { results := [.lit (.bool false)], args := [d1, d2] }
  | _ => none }
def FnExactShareBlockWrongFalsely : Prop := fnExactShareBlockRow.holds Try.pinned (OpenSpec.ofChange fnExactShareBlockWrong)

/-- 'laws.FnExactDropBlock': WHATEVER THE INPUT: true; the input reads as it did. -/
def fnExactDropBlockSpec : ChangeSpec := { name := "fnExactDropBlock", fn := fun _ => fun
  | [d1, d2] => { results := [.lit (.bool true)], args := [d1, d2] }
  | _ => none }
def fnExactDropBlockRow : OpenClaim := { program := "ytmcljallamhccaa", sum := "32e8d50b0d83b3eed32b5fc7a24447e23c230e030f96d9ea57a2084666b83fc5", func := "loop.example/g00277/laws.FnExactDropBlock", spec := "fnExactDropBlock", unfollowed := true, recurses := true, apart := false }
def FnExactDropBlockSaid : Prop := fnExactDropBlockRow.holds Try.pinned (OpenSpec.ofChange fnExactDropBlockSpec)

/-- ITS FALSE NEIGHBOUR: 'it returns false'. Refute it at one input. -/
def fnExactDropBlockWrong : ChangeSpec := { name := "fnExactDropBlock", fn := fun _ => fun
  | [d1, d2] => { results := [.lit (.bool false)], args := [d1, d2] }
  | _ => none }
def FnExactDropBlockWrongFalsely : Prop := fnExactDropBlockRow.holds Try.pinned (OpenSpec.ofChange fnExactDropBlockWrong)

/-- 'laws.FnExactTakeBlock': WHATEVER THE INPUT: true; the input reads as it did. -/
def fnExactTakeBlockSpec : ChangeSpec := { name := "fnExactTakeBlock", fn := fun _ => fun
  | [d1, d2] => { results := [.lit (.bool true)], args := [d1, d2] }
  | _ => none }
def fnExactTakeBlockRow : OpenClaim := { program := "ytmcljallamhccaa", sum := "32e8d50b0d83b3eed32b5fc7a24447e23c230e030f96d9ea57a2084666b83fc5", func := "loop.example/g00277/laws.FnExactTakeBlock", spec := "fnExactTakeBlock", unfollowed := true, recurses := true, apart := false }
def FnExactTakeBlockSaid : Prop := fnExactTakeBlockRow.holds Try.pinned (OpenSpec.ofChange fnExactTakeBlockSpec)

/-- ITS FALSE NEIGHBOUR: 'it returns false'. Refute it at one input. -/
def fnExactTakeBlockWrong : ChangeSpec := { name := "fnExactTakeBlock", fn := fun _ => fun
  | [d1, d2] => { results := [.lit (.bool false)], args := [d1, d2] }
  | _ => none }
def FnExactTakeBlockWrongFalsely : Prop := fnExactTakeBlockRow.holds Try.pinned (OpenSpec.ofChange fnExactTakeBlockWrong)

/-- 'laws.FnBlocks': WHATEVER THE INPUT: true; the input reads as it did. -/
def fnBlocksSpec : ChangeSpec := { name := "fnBlocks", fn := fun _ => fun
  | [d] => { results := [.lit (.bool true)], args := [d] }
  | _ => none }
def fnBlocksRow : OpenClaim := { program := "ytmcljallamhccaa", sum := "32e8d50b0d83b3eed32b5fc7a24447e23c230e030f96d9ea57a2084666b83fc5", func := "loop.example/g00277/laws.FnBlocks", spec := "fnBlocks", unfollowed := true, recurses := true, apart := false }
def FnBlocksSaid : Prop := fnBlocksRow.holds Try.pinned (OpenSpec.ofChange fnBlocksSpec)

/-- ITS FALSE NEIGHBOUR: 'it returns false'. Refute it at one input. -/
def fnBlocksWrong : ChangeSpec := { name := "fnBlocks", fn := fun _ => fun
  | [d] => { results := [.lit (.bool false)], args := [d] }
  | _ => none }
def FnBlocksWrongFalsely : Prop := fnBlocksRow.holds Try.pinned (OpenSpec.ofChange fnBlocksWrong)

/-- 'laws.FnExactNewForest': WHATEVER THE INPUT: true; the input reads as it did. -/
def fnExactNewForestSpec : ChangeSpec := { name := "fnExactNewForest", fn := fun _ => fun
  | [d] => { results := [.lit (.bool true)], args := [d] }
  | _ => none }
def fnExactNewForestRow : OpenClaim := { program := "ytmcljallamhccaa", sum := "32e8d50b0d83b3eed32b5fc7a24447e23c230e030f96d9ea57a2084666b83fc5", func := "loop.example/g00277/laws.FnExactNewForest", spec := "fnExactNewForest", apart := false }
def FnExactNewForestSaid : Prop := fnExactNewForestRow.holds Try.pinned (OpenSpec.ofChange fnExactNewForestSpec)

/-- ITS FALSE NEIGHBOUR: 'it returns false'. Refute it at one input. -/
def fnExactNewForestWrong : ChangeSpec := { name := "fnExactNewForest", fn := fun _ => fun
  | [d] => { results := [.lit (.bool false)], args := [d] }
  | _ => none }
def FnExactNewForestWrongFalsely : Prop := fnExactNewForestRow.holds Try.pinned (OpenSpec.ofChange fnExactNewForestWrong)

/-- 'laws.FnExactNewPool': WHATEVER THE INPUT: true; the input reads as it did. -/
def fnExactNewPoolSpec : ChangeSpec := { name := "fnExactNewPool", fn := fun _ => fun
  | [d] => { results := [.lit (.bool true)], args := [d] }
  | _ => none }
def fnExactNewPoolRow : OpenClaim := { program := "ytmcljallamhccaa", sum := "32e8d50b0d83b3eed32b5fc7a24447e23c230e030f96d9ea57a2084666b83fc5", func := "loop.example/g00277/laws.FnExactNewPool", spec := "fnExactNewPool", apart := false }
def FnExactNewPoolSaid : Prop := fnExactNewPoolRow.holds Try.pinned (OpenSpec.ofChange fnExactNewPoolSpec)

/-- ITS FALSE NEIGHBOUR: 'it returns false'. Refute it at one input. -/
def fnExactNewPoolWrong : ChangeSpec := { name := "fnExactNewPool", fn := fun _ => fun
  | [d] => { results := [.lit (.bool false)], args := [d] }
  | _ => none }
def FnExactNewPoolWrongFalsely : Prop := fnExactNewPoolRow.holds Try.pinned (OpenSpec.ofChange fnExactNewPoolWrong)

/-- 'laws.FnExactForestFault': WHATEVER THE INPUT: true; the input reads as it did. -/
def fnExactForestFaultSpec : ChangeSpec := { name := "fnExactForestFault", fn := fun _ => fun
  | [d] => { results := [.lit (.bool true)], args := [d] }
  | _ => none }
def fnExactForestFaultRow : OpenClaim := { program := "ytmcljallamhccaa", sum := "32e8d50b0d83b3eed32b5fc7a24447e23c230e030f96d9ea57a2084666b83fc5", func := "loop.example/g00277/laws.FnExactForestFault", spec := "fnExactForestFault", unfollowed := true, recurses := true, apart := false }
def FnExactForestFaultSaid : Prop := fnExactForestFaultRow.holds Try.pinned (OpenSpec.ofChange fnExactForestFaultSpec)

/-- ITS FALSE NEIGHBOUR: 'it returns false'. Refute it at one input. -/
def fnExactForestFaultWrong : ChangeSpec := { name := "fnExactForestFault", fn := fun _ => fun
  | [d] => { results := [.lit (.bool false)], args := [d] }
  | _ => none }
def FnExactForestFaultWrongFalsely : Prop := fnExactForestFaultRow.holds Try.pinned (OpenSpec.ofChange fnExactForestFaultWrong)

/-- 'laws.FnExactLookTree': WHATEVER THE INPUT: true; the input reads as it did. -/
def fnExactLookTreeSpec : ChangeSpec := { name := "fnExactLookTree", fn := fun _ => fun
  | [d1, d2, d3] => { results := [.lit (.bool true)], args := [d1, d2, d3] }
  | _ => none }
def fnExactLookTreeRow : OpenClaim := { program := "ytmcljallamhccaa", sum := "32e8d50b0d83b3eed32b5fc7a24447e23c230e030f96d9ea57a2084666b83fc5", func := "loop.example/g00277/laws.FnExactLookTree", spec := "fnExactLookTree", unfollowed := true, recurses := true, apart := false }
def FnExactLookTreeSaid : Prop := fnExactLookTreeRow.holds Try.pinned (OpenSpec.ofChange fnExactLookTreeSpec)

/-- ITS FALSE NEIGHBOUR: 'it returns false'. Refute it at one input. -/
def fnExactLookTreeWrong : ChangeSpec := { name := "fnExactLookTree", fn := fun _ => fun
  | [d1, d2, d3] => { results := [.lit (.bool false)], args := [d1, d2, d3] }
  | _ => none }
def FnExactLookTreeWrongFalsely : Prop := fnExactLookTreeRow.holds Try.pinned (OpenSpec.ofChange fnExactLookTreeWrong)

/-- 'laws.FnExactWalkTree': WHATEVER THE INPUT: true; the input reads as it did. -/
def fnExactWalkTreeSpec : ChangeSpec := { name := "fnExactWalkTree", fn := fun _ => fun
  | [d1, d2] => { results := [.lit (.bool true)], args := [d1, d2] }
  | _ => none }
def fnExactWalkTreeRow : OpenClaim := { program := "ytmcljallamhccaa", sum := "32e8d50b0d83b3eed32b5fc7a24447e23c230e030f96d9ea57a2084666b83fc5", func := "loop.example/g00277/laws.FnExactWalkTree", spec := "fnExactWalkTree", unfollowed := true, recurses := true, apart := false }
def FnExactWalkTreeSaid : Prop := fnExactWalkTreeRow.holds Try.pinned (OpenSpec.ofChange fnExactWalkTreeSpec)

/-- ITS FALSE NEIGHBOUR: 'it returns false'. Refute it at one input. -/
def fnExactWalkTreeWrong : ChangeSpec := { name := "fnExactWalkTree", fn := fun _ => fun
  | [d1, d2] => { results := [.lit (.bool false)], args := [d1, d2] }
  | _ => none }
def FnExactWalkTreeWrongFalsely : Prop := fnExactWalkTreeRow.holds Try.pinned (OpenSpec.ofChange fnExactWalkTreeWrong)

/-- 'laws.FnExactShareTree': WHATEVER THE INPUT: true; the input reads as it did. -/
def fnExactShareTreeSpec : ChangeSpec := { name := "fnExactShareTree", fn := fun _ => fun
  | [d1, d2] => { results := [.lit (.bool true)], args := [d1, d2] }
  | _ => none }
def fnExactShareTreeRow : OpenClaim := { program := "ytmcljallamhccaa", sum := "32e8d50b0d83b3eed32b5fc7a24447e23c230e030f96d9ea57a2084666b83fc5", func := "loop.example/g00277/laws.FnExactShareTree", spec := "fnExactShareTree", unfollowed := true, recurses := true, apart := false }
def FnExactShareTreeSaid : Prop := fnExactShareTreeRow.holds Try.pinned (OpenSpec.ofChange fnExactShareTreeSpec)

/-- ITS FALSE NEIGHBOUR: 'it returns false'. Refute it at one input. -/
def fnExactShareTreeWrong : ChangeSpec := { name := "fnExactShareTree", fn := fun _ => fun
  | [d1, d2] => { results := [.lit (.bool false)], args := [d1, d2] }
  | _ => none }
def FnExactShareTreeWrongFalsely : Prop := fnExactShareTreeRow.holds Try.pinned (OpenSpec.ofChange fnExactShareTreeWrong)

/-- 'laws.FnExactDropTree': WHATEVER THE INPUT: true; the input reads as it did. -/
def fnExactDropTreeSpec : ChangeSpec := { name := "fnExactDropTree", fn := fun _ => fun
  | [d1, d2] => { results := [.lit (.bool true)], args := [d1, d2] }
  | _ => none }
def fnExactDropTreeRow : OpenClaim := { program := "ytmcljallamhccaa", sum := "32e8d50b0d83b3eed32b5fc7a24447e23c230e030f96d9ea57a2084666b83fc5", func := "loop.example/g00277/laws.FnExactDropTree", spec := "fnExactDropTree", unfollowed := true, recurses := true, apart := false }
def FnExactDropTreeSaid : Prop := fnExactDropTreeRow.holds Try.pinned (OpenSpec.ofChange fnExactDropTreeSpec)

/-- ITS FALSE NEIGHBOUR: 'it returns false'. Refute it at one input. -/
def fnExactDropTreeWrong : ChangeSpec := { name := "fnExactDropTree", fn := fun _ => fun
  | [d1, d2] => { results := [.lit (.bool false)], args := [d1, d2] }
  | _ => none }
def FnExactDropTreeWrongFalsely : Prop := fnExactDropTreeRow.holds Try.pinned (OpenSpec.ofChange fnExactDropTreeWrong)

/-- 'laws.FnExactClearTree': WHATEVER THE INPUT: true; the input reads as it did. -/
def fnExactClearTreeSpec : ChangeSpec := { name := "fnExactClearTree", fn := fun _ => fun
  | [d1, d2, d3] => { results := [.lit (.bool true)], args := [d1, d2, d3] }
  | _ => none }
def fnExactClearTreeRow : OpenClaim := { program := "ytmcljallamhccaa", sum := "32e8d50b0d83b3eed32b5fc7a24447e23c230e030f96d9ea57a2084666b83fc5", func := "loop.example/g00277/laws.FnExactClearTree", spec := "fnExactClearTree", unfollowed := true, recurses := true, apart := false }
def FnExactClearTreeSaid : Prop := fnExactClearTreeRow.holds Try.pinned (OpenSpec.ofChange fnExactClearTreeSpec)

/-- ITS FALSE NEIGHBOUR: 'it returns false'. Refute it at one input. -/
def fnExactClearTreeWrong : ChangeSpec := { name := "fnExactClearTree", fn := fun _ => fun
  | [d1, d2, d3] => { results := [.lit (.bool false)], args := [d1, d2, d3] }
  | _ => none }
def FnExactClearTreeWrongFalsely : Prop := fnExactClearTreeRow.holds Try.pinned (OpenSpec.ofChange fnExactClearTreeWrong)

/-- 'laws.FnExactSetTree': WHATEVER THE INPUT: true; the input reads as it did. -/
def fnExactSetTreeSpec : ChangeSpec := { name := "fnExactSetTree", fn := fun _ => fun
  | [d1, d2, d3, d4] => { results := [.lit (.bool true)], args := [d1, d2, d3, d4] }
  | _ => none }
def fnExactSetTreeRow : OpenClaim := { program := "ytmcljallamhccaa", sum := "32e8d50b0d83b3eed32b5fc7a24447e23c230e030f96d9ea57a2084666b83fc5", func := "loop.example/g00277/laws.FnExactSetTree", spec := "fnExactSetTree", unfollowed := true, recurses := true, apart := false }
def FnExactSetTreeSaid : Prop := fnExactSetTreeRow.holds Try.pinned (OpenSpec.ofChange fnExactSetTreeSpec)

/-- ITS FALSE NEIGHBOUR: 'it returns false'. Refute it at one input. -/
def fnExactSetTreeWrong : ChangeSpec := { name := "fnExactSetTree", fn := fun _ => fun
  | [d1, d2, d3, d4] => { results := [.lit (.bool false)], args := [d1, d2, d3, d4] }
  | _ => none }
def FnExactSetTreeWrongFalsely : Prop := fnExactSetTreeRow.holds Try.pinned (OpenSpec.ofChange fnExactSetTreeWrong)

/-- 'laws.FnTrees': WHATEVER THE INPUT: true; the input reads as it did. -/
def fnTreesSpec : ChangeSpec := { name := "fnTrees", fn := fun _ => fun
  | [d] => { results := [.lit (.bool true)], args := [d] }
  | _ => none }
def fnTreesRow : OpenClaim := { program := "ytmcljallamhccaa", sum := "32e8d50b0d83b3eed32b5fc7a24447e23c230e030f96d9ea57a2084666b83fc5", func := "loop.example/g00277/laws.FnTrees", spec := "fnTrees", unfollowed := true, recurses := true, apart := false }
def FnTreesSaid : Prop := fnTreesRow.holds Try.pinned (OpenSpec.ofChange fnTreesSpec)

/-- ITS FALSE NEIGHBOUR: 'it returns false'. Refute it at one input. -/
def fnTreesWrong : ChangeSpec := { name := "fnTrees", fn := fun _ => fun
  | [d] => { results := [.lit (.bool false)], args := [d] }
  | _ => none }
def FnTreesWrongFalsely : Prop := fnTreesRow.holds Try.pinned (OpenSpec.ofChange fnTreesWrong)

/-- 'laws.FnClears': WHATEVER THE INPUT: true; the input reads as it did. -/
def fnClearsSpec : ChangeSpec := { name := "fnClears", fn := fun _ => fun
  | [d] => { results := [.lit (.bool true)], args := [d] }
  | _ => none }
def fnClearsRow : OpenClaim := { program := "ytmcljallamhccaa", sum := "32e8d50b0d83b3eed32b5fc7a24447e23c230e030f96d9ea57a2084666b83fc5", func := "loop.example/g00277/laws.FnClears", spec := "fnClears", unfollowed := true, recurses := true, apart := false }
def FnClearsSaid : Prop := fnClearsRow.holds Try.pinned (OpenSpec.ofChange fnClearsSpec)

/-- ITS FALSE NEIGHBOUR: 'it returns false'. Refute it at one input. -/
def fnClearsWrong : ChangeSpec := { name := "fnClears", fn := fun _ => fun
  | [d] => { results := [.lit (.bool false)], args := [d] }
  | _ => none }
def FnClearsWrongFalsely : Prop := fnClearsRow.holds Try.pinned (OpenSpec.ofChange fnClearsWrong)

/- THE SECOND FORM. 'bulk': how many values and letters a reading holds, each counted each time it is reached (what is shared counts as often as it is met; a slice's spare places count too). A statement '..UptoSaid' is the law's where the arguments, and the package variables that the reading takes, are together of bulk at most 1048576: NARROWER than '..Said'. Prove '..Said' where nothing that the law and all that it calls make is longer than what came in: it says more and counts as full. Else prove '..UptoSaid'. A law counts once. -/
mutual
def uptoBulk {H : Type} : DataW H → Nat
  | .lit (.string bytes) => bytes.length + 1
  | .lit _ => 1
  | .nil => 1
  | .ptr d => uptoBulk d + 1
  | .slice elems spare => uptoBulkAll elems + uptoBulkAll spare + 1
  | .agg parts => uptoBulkAll parts + 1
  | .iface _ d => uptoBulk d + 1
  | .map entries => uptoBulkEntries entries + 1
  | .held _ => 1
def uptoBulkAll {H : Type} : List (DataW H) → Nat
  | [] => 0
  | d :: r => uptoBulk d + uptoBulkAll r
def uptoBulkEntries {H : Type} : List (Lit × DataW H) → Nat
  | [] => 0
  | x :: r => uptoBulkEntry x + uptoBulkEntries r
def uptoBulkEntry {H : Type} : Lit × DataW H → Nat
  | (.string bytes, d) => bytes.length + uptoBulk d + 1
  | (_, d) => uptoBulk d + 1
 end
def uptoSmall : (H : Type) → List (DataW H) → Bool := fun _ ds => decide (uptoBulkAll ds ≤ 1048576)
def OpenSpec.upto (s : _root_.Go.ChangeSpec) : _root_.Go.OpenSpec := { _root_.Go.OpenSpec.ofChange s with cond := some uptoSmall }

/-- 'laws.FnExactNewBlocks', WHERE WHAT IT READS IS OF BULK AT MOST 1048576: true; the input reads as it did. -/
def fnExactNewBlocksUptoRow : OpenClaim := { program := "ytmcljallamhccaa", sum := "32e8d50b0d83b3eed32b5fc7a24447e23c230e030f96d9ea57a2084666b83fc5", func := "loop.example/g00277/laws.FnExactNewBlocks", spec := "fnExactNewBlocks", apart := false, narrowed := true }
def FnExactNewBlocksUptoSaid : Prop := fnExactNewBlocksUptoRow.holds Try.pinned (OpenSpec.upto fnExactNewBlocksSpec)

/-- 'laws.FnExactFreeOf', WHERE WHAT IT READS IS OF BULK AT MOST 1048576: true; the input reads as it did. -/
def fnExactFreeOfUptoRow : OpenClaim := { program := "ytmcljallamhccaa", sum := "32e8d50b0d83b3eed32b5fc7a24447e23c230e030f96d9ea57a2084666b83fc5", func := "loop.example/g00277/laws.FnExactFreeOf", spec := "fnExactFreeOf", apart := false, narrowed := true }
def FnExactFreeOfUptoSaid : Prop := fnExactFreeOfUptoRow.holds Try.pinned (OpenSpec.upto fnExactFreeOfSpec)

/-- 'laws.FnExactShareBlock', WHERE WHAT IT READS IS OF BULK AT MOST 1048576: true; the input reads as it did. -/
def fnExactShareBlockUptoRow : OpenClaim := { program := "ytmcljallamhccaa", sum := "32e8d50b0d83b3eed32b5fc7a24447e23c230e030f96d9ea57a2084666b83fc5", func := "loop.example/g00277/laws.FnExactShareBlock", spec := "fnExactShareBlock", unfollowed := true, recurses := true, apart := false, narrowed := true }
def FnExactShareBlockUptoSaid : Prop := fnExactShareBlockUptoRow.holds Try.pinned (OpenSpec.upto fnExactShareBlockSpec)

/-- 'laws.FnExactDropBlock', WHERE WHAT IT READS IS OF BULK AT MOST 1048576: true; the input reads as it did. -/
def fnExactDropBlockUptoRow : OpenClaim := { program := "ytmcljallamhccaa", sum := "32e8d50b0d83b3eed32b5fc7a24447e23c230e030f96d9ea57a2084666b83fc5", func := "loop.example/g00277/laws.FnExactDropBlock", spec := "fnExactDropBlock", unfollowed := true, recurses := true, apart := false, narrowed := true }
def FnExactDropBlockUptoSaid : Prop := fnExactDropBlockUptoRow.holds Try.pinned (OpenSpec.upto fnExactDropBlockSpec)

/-- 'laws.FnExactTakeBlock', WHERE WHAT IT READS IS OF BULK AT MOST 1048576: true; the input reads as it did. -/
def fnExactTakeBlockUptoRow : OpenClaim := { program := "ytmcljallamhccaa", sum := "32e8d50b0d83b3eed32b5fc7a24447e23c230e030f96d9ea57a2084666b83fc5", func := "loop.example/g00277/laws.FnExactTakeBlock", spec := "fnExactTakeBlock", unfollowed := true, recurses := true, apart := false, narrowed := true }
def FnExactTakeBlockUptoSaid : Prop := fnExactTakeBlockUptoRow.holds Try.pinned (OpenSpec.upto fnExactTakeBlockSpec)

/-- 'laws.FnBlocks', WHERE WHAT IT READS IS OF BULK AT MOST 1048576: true; the input reads as it did. -/
def fnBlocksUptoRow : OpenClaim := { program := "ytmcljallamhccaa", sum := "32e8d50b0d83b3eed32b5fc7a24447e23c230e030f96d9ea57a2084666b83fc5", func := "loop.example/g00277/laws.FnBlocks", spec := "fnBlocks", unfollowed := true, recurses := true, apart := false, narrowed := true }
def FnBlocksUptoSaid : Prop := fnBlocksUptoRow.holds Try.pinned (OpenSpec.upto fnBlocksSpec)

/-- 'laws.FnExactNewForest', WHERE WHAT IT READS IS OF BULK AT MOST 1048576: true; the input reads as it did. -/
def fnExactNewForestUptoRow : OpenClaim := { program := "ytmcljallamhccaa", sum := "32e8d50b0d83b3eed32b5fc7a24447e23c230e030f96d9ea57a2084666b83fc5", func := "loop.example/g00277/laws.FnExactNewForest", spec := "fnExactNewForest", apart := false, narrowed := true }
def FnExactNewForestUptoSaid : Prop := fnExactNewForestUptoRow.holds Try.pinned (OpenSpec.upto fnExactNewForestSpec)

/-- 'laws.FnExactNewPool', WHERE WHAT IT READS IS OF BULK AT MOST 1048576: true; the input reads as it did. -/
def fnExactNewPoolUptoRow : OpenClaim := { program := "ytmcljallamhccaa", sum := "32e8d50b0d83b3eed32b5fc7a24447e23c230e030f96d9ea57a2084666b83fc5", func := "loop.example/g00277/laws.FnExactNewPool", spec := "fnExactNewPool", apart := false, narrowed := true }
def FnExactNewPoolUptoSaid : Prop := fnExactNewPoolUptoRow.holds Try.pinned (OpenSpec.upto fnExactNewPoolSpec)

/-- 'laws.FnExactForestFault', WHERE WHAT IT READS IS OF BULK AT MOST 1048576: true; the input reads as it did. -/
def fnExactForestFaultUptoRow : OpenClaim := { program := "ytmcljallamhccaa", sum := "32e8d50b0d83b3eed32b5fc7a24447e23c230e030f96d9ea57a2084666b83fc5", func := "loop.example/g00277/laws.FnExactForestFault", spec := "fnExactForestFault", unfollowed := true, recurses := true, apart := false, narrowed := true }
def FnExactForestFaultUptoSaid : Prop := fnExactForestFaultUptoRow.holds Try.pinned (OpenSpec.upto fnExactForestFaultSpec)

/-- 'laws.FnExactLookTree', WHERE WHAT IT READS IS OF BULK AT MOST 1048576: true; the input reads as it did. -/
def fnExactLookTreeUptoRow : OpenClaim := { program := "ytmcljallamhccaa", sum := "32e8d50b0d83b3eed32b5fc7a24447e23c230e030f96d9ea57a2084666b83fc5", func := "loop.example/g00277/laws.FnExactLookTree", spec := "fnExactLookTree", unfollowed := true, recurses := true, apart := false, narrowed := true }
def FnExactLookTreeUptoSaid : Prop := fnExactLookTreeUptoRow.holds Try.pinned (OpenSpec.upto fnExactLookTreeSpec)

/-- 'laws.FnExactWalkTree', WHERE WHAT IT READS IS OF BULK AT MOST 1048576: true; the input reads as it did. -/
def fnExactWalkTreeUptoRow : OpenClaim := { program := "ytmcljallamhccaa", sum := "32e8d50b0d83b3eed32b5fc7a24447e23c230e030f96d9ea57a2084666b83fc5", func := "loop.example/g00277/laws.FnExactWalkTree", spec := "fnExactWalkTree", unfollowed := true, recurses := true, apart := false, narrowed := true }
def FnExactWalkTreeUptoSaid : Prop := fnExactWalkTreeUptoRow.holds Try.pinned (OpenSpec.upto fnExactWalkTreeSpec)

/-- 'laws.FnExactShareTree', WHERE WHAT IT READS IS OF BULK AT MOST 1048576: true; the input reads as it did. -/
def fnExactShareTreeUptoRow : OpenClaim := { program := "ytmcljallamhccaa", sum := "32e8d50b0d83b3eed32b5fc7a24447e23c230e030f96d9ea57a2084666b83fc5", func := "loop.example/g00277/laws.FnExactShareTree", spec := "fnExactShareTree", unfollowed := true, recurses := true, apart := false, narrowed := true }
def FnExactShareTreeUptoSaid : Prop := fnExactShareTreeUptoRow.holds Try.pinned (OpenSpec.upto fnExactShareTreeSpec)

/-- 'laws.FnExactDropTree', WHERE WHAT IT READS IS OF BULK AT MOST 1048576: true; the input reads as it did. -/
def fnExactDropTreeUptoRow : OpenClaim := { program := "ytmcljallamhccaa", sum := "32e8d50b0d83b3eed32b5fc7a24447e23c230e030f96d9ea57a2084666b83fc5", func := "loop.example/g00277/laws.FnExactDropTree", spec := "fnExactDropTree", unfollowed := true, recurses := true, apart := false, narrowed := true }
def FnExactDropTreeUptoSaid : Prop := fnExactDropTreeUptoRow.holds Try.pinned (OpenSpec.upto fnExactDropTreeSpec)

/-- 'laws.FnExactClearTree', WHERE WHAT IT READS IS OF BULK AT MOST 1048576: true; the input reads as it did. -/
def fnExactClearTreeUptoRow : OpenClaim := { program := "ytmcljallamhccaa", sum := "32e8d50b0d83b3eed32b5fc7a24447e23c230e030f96d9ea57a2084666b83fc5", func := "loop.example/g00277/laws.FnExactClearTree", spec := "fnExactClearTree", unfollowed := true, recurses := true, apart := false, narrowed := true }
def FnExactClearTreeUptoSaid : Prop := fnExactClearTreeUptoRow.holds Try.pinned (OpenSpec.upto fnExactClearTreeSpec)

/-- 'laws.FnExactSetTree', WHERE WHAT IT READS IS OF BULK AT MOST 1048576: true; the input reads as it did. -/
def fnExactSetTreeUptoRow : OpenClaim := { program := "ytmcljallamhccaa", sum := "32e8d50b0d83b3eed32b5fc7a24447e23c230e030f96d9ea57a2084666b83fc5", func := "loop.example/g00277/laws.FnExactSetTree", spec := "fnExactSetTree", unfollowed := true, recurses := true, apart := false, narrowed := true }
def FnExactSetTreeUptoSaid : Prop := fnExactSetTreeUptoRow.holds Try.pinned (OpenSpec.upto fnExactSetTreeSpec)

/-- 'laws.FnTrees', WHERE WHAT IT READS IS OF BULK AT MOST 1048576: true; the input reads as it did. -/
def fnTreesUptoRow : OpenClaim := { program := "ytmcljallamhccaa", sum := "32e8d50b0d83b3eed32b5fc7a24447e23c230e030f96d9ea57a2084666b83fc5", func := "loop.example/g00277/laws.FnTrees", spec := "fnTrees", unfollowed := true, recurses := true, apart := false, narrowed := true }
def FnTreesUptoSaid : Prop := fnTreesUptoRow.holds Try.pinned (OpenSpec.upto fnTreesSpec)

/-- 'laws.FnClears', WHERE WHAT IT READS IS OF BULK AT MOST 1048576: true; the input reads as it did. -/
def fnClearsUptoRow : OpenClaim := { program := "ytmcljallamhccaa", sum := "32e8d50b0d83b3eed32b5fc7a24447e23c230e030f96d9ea57a2084666b83fc5", func := "loop.example/g00277/laws.FnClears", spec := "fnClears", unfollowed := true, recurses := true, apart := false, narrowed := true }
def FnClearsUptoSaid : Prop := fnClearsUptoRow.holds Try.pinned (OpenSpec.upto fnClearsSpec)

end Rows
end Go.Proofs.Ytmcljallamhccaa
