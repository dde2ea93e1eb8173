/-
  No cell of these rows narrows 'for every input' (looked for: loops, veiled, ifaces, maps, wideKeys, modest, calm, conditions, laid).
  DERIVED. THE GIVEN ROWS OF THIS SEAT. 13 by the template 'for every input the law returns true; each argument reads behind the call as it read before'; 0 by the template 'total and deterministic' (their statements: YtaahjfjpbilfnaaTotals.lean).
  GIVEN WITH THE SEED: the statements are not yours to turn. If you find one false, say at which input.
  Laid BY PROGRAM, IN A SANDBOX (cutbox-rows.mjs): the forced cells as the released guide's own fill.sh prints them over the translation 6844e3d47a76ab28… (all of the seat's roots in one cut). By AI agents, Wed Nov 11 2026. No macro, syntax, notation, axiom, sorry.
-/
import Derived.Test.YtaahjfjpbilfnaaChecked
import GoSem.Claim
import GoSem.ClaimJoined
import GoSem.ClaimMapViews
import Derived.JoinedTies
import Derived.KernelRfl
namespace Go.Proofs.Ytaahjfjpbilfnaa
/- THE CELL 'sum', in the pinned program and in every row, IS THE sha256 OF THE DUMP (.gsa) THAT YtaahjfjpbilfnaaProg.lean LOADS. Nothing in Lean hashes anything: it is a label: what it is worth is what the hold of that sum in a sandbox is worth. -/
noncomputable def Try.pinned : Pinned := { name := "ytaahjfjpbilfnaa", sum := "6844e3d47a76ab2897c72be6c9a5446ba5efc76ee214004bca983f89cd407853", checked := Try.checked }
namespace Rows
def none {H : Type} : Left H := { results := [], args := [] }

/-- 'laws.FnExactDiskFault': WHATEVER THE INPUT: true; the input reads as it did. -/
def fnExactDiskFaultSpec : ChangeSpec := { name := "fnExactDiskFault", fn := fun _ => fun
  | [d] => { results := [.lit (.bool true)], args := [d] }
  | _ => none }
def fnExactDiskFaultRow : OpenClaim := { program := "ytaahjfjpbilfnaa", sum := "6844e3d47a76ab2897c72be6c9a5446ba5efc76ee214004bca983f89cd407853", func := "loop.example/g00277/laws.FnExactDiskFault", spec := "fnExactDiskFault", unfollowed := true, recurses := true, apart := false }
def FnExactDiskFaultSaid : Prop := fnExactDiskFaultRow.holds Try.pinned (OpenSpec.ofChange fnExactDiskFaultSpec)

/-- ITS FALSE NEIGHBOUR: 'it returns false'. Refute it at one input. -/
def fnExactDiskFaultWrong : ChangeSpec := { name := "fnExactDiskFault", fn := fun _ => fun
  | [d] => { results := [.lit (.bool false)], args := [d] }
  | _ => none }
def FnExactDiskFaultWrongFalsely : Prop := fnExactDiskFaultRow.holds Try.pinned (OpenSpec.ofChange fnExactDiskFaultWrong)

/-- 'laws.FnExactWordAt': WHATEVER THE INPUT: true; the input reads as it did. -/
def fnExactWordAtSpec : ChangeSpec := { name := "fnExactWordAt", fn := fun _ => fun
  | [d1, d2] => { results := [.lit (.bool true)], args := [d1, d2] }
  | _ => none }
def fnExactWordAtRow : OpenClaim := { program := "ytaahjfjpbilfnaa", sum := "6844e3d47a76ab2897c72be6c9a5446ba5efc76ee214004bca983f89cd407853", func := "loop.example/g00277/laws.FnExactWordAt", spec := "fnExactWordAt", unfollowed := true, recurses := true, apart := false }
def FnExactWordAtSaid : Prop := fnExactWordAtRow.holds Try.pinned (OpenSpec.ofChange fnExactWordAtSpec)

/-- ITS FALSE NEIGHBOUR: 'it returns false'. Refute it at one input. -/
def fnExactWordAtWrong : ChangeSpec := { name := "fnExactWordAt", fn := fun _ => fun
  | [d1, d2] => { results := [.lit (.bool false)], args := [d1, d2] }
  | _ => none }
def FnExactWordAtWrongFalsely : Prop := fnExactWordAtRow.holds Try.pinned (OpenSpec.ofChange fnExactWordAtWrong)

/-- 'laws.FnDisks': WHATEVER THE INPUT: true; the input reads as it did. -/
def fnDisksSpec : ChangeSpec := { name := "fnDisks", fn := fun _ => fun
  | [d] => { results := [.lit (.bool true)], args := [d] }
  | _ => none }
def fnDisksRow : OpenClaim := { program := "ytaahjfjpbilfnaa", sum := "6844e3d47a76ab2897c72be6c9a5446ba5efc76ee214004bca983f89cd407853", func := "loop.example/g00277/laws.FnDisks", spec := "fnDisks", unfollowed := true, recurses := true, apart := false }
def FnDisksSaid : Prop := fnDisksRow.holds Try.pinned (OpenSpec.ofChange fnDisksSpec)

/-- ITS FALSE NEIGHBOUR: 'it returns false'. Refute it at one input. -/
def fnDisksWrong : ChangeSpec := { name := "fnDisks", fn := fun _ => fun
  | [d] => { results := [.lit (.bool false)], args := [d] }
  | _ => none }
def FnDisksWrongFalsely : Prop := fnDisksRow.holds Try.pinned (OpenSpec.ofChange fnDisksWrong)

/-- 'laws.FnExactNewDisk': WHATEVER THE INPUT: true; the input reads as it did. -/
def fnExactNewDiskSpec : ChangeSpec := { name := "fnExactNewDisk", fn := fun _ => fun
  | [d] => { results := [.lit (.bool true)], args := [d] }
  | _ => none }
def fnExactNewDiskRow : OpenClaim := { program := "ytaahjfjpbilfnaa", sum := "6844e3d47a76ab2897c72be6c9a5446ba5efc76ee214004bca983f89cd407853", func := "loop.example/g00277/laws.FnExactNewDisk", spec := "fnExactNewDisk", unfollowed := true, recurses := true, apart := false }
def FnExactNewDiskSaid : Prop := fnExactNewDiskRow.holds Try.pinned (OpenSpec.ofChange fnExactNewDiskSpec)

/-- ITS FALSE NEIGHBOUR: 'it returns false'. Refute it at one input. -/
def fnExactNewDiskWrong : ChangeSpec := { name := "fnExactNewDisk", fn := fun _ => fun
  | [d] => { results := [.lit (.bool false)], args := [d] }
  | _ => none }
def FnExactNewDiskWrongFalsely : Prop := fnExactNewDiskRow.holds Try.pinned (OpenSpec.ofChange fnExactNewDiskWrong)

/-- 'laws.FnExactAllWords': WHATEVER THE INPUT: true; the input reads as it did. -/
def fnExactAllWordsSpec : ChangeSpec := { name := "fnExactAllWords", fn := fun _ => fun
  | [d] => { results := [.lit (.bool true)], args := [d] }
  | _ => none }
def fnExactAllWordsRow : OpenClaim := { program := "ytaahjfjpbilfnaa", sum := "6844e3d47a76ab2897c72be6c9a5446ba5efc76ee214004bca983f89cd407853", func := "loop.example/g00277/laws.FnExactAllWords", spec := "fnExactAllWords", unfollowed := true, recurses := true, apart := false }
def FnExactAllWordsSaid : Prop := fnExactAllWordsRow.holds Try.pinned (OpenSpec.ofChange fnExactAllWordsSpec)

/-- ITS FALSE NEIGHBOUR: 'it returns false'. Refute it at one input. -/
def fnExactAllWordsWrong : ChangeSpec := { name := "fnExactAllWords", fn := fun _ => fun
  | [d] => { results := [.lit (.bool false)], args := [d] }
  | _ => none }
def FnExactAllWordsWrongFalsely : Prop := fnExactAllWordsRow.holds Try.pinned (OpenSpec.ofChange fnExactAllWordsWrong)

/-- 'laws.FnExactFlushDisk': WHATEVER THE INPUT: true; the input reads as it did. -/
def fnExactFlushDiskSpec : ChangeSpec := { name := "fnExactFlushDisk", fn := fun _ => fun
  | [d] => { results := [.lit (.bool true)], args := [d] }
  | _ => none }
def fnExactFlushDiskRow : OpenClaim := { program := "ytaahjfjpbilfnaa", sum := "6844e3d47a76ab2897c72be6c9a5446ba5efc76ee214004bca983f89cd407853", func := "loop.example/g00277/laws.FnExactFlushDisk", spec := "fnExactFlushDisk", unfollowed := true, recurses := true, apart := false }
def FnExactFlushDiskSaid : Prop := fnExactFlushDiskRow.holds Try.pinned (OpenSpec.ofChange fnExactFlushDiskSpec)

/-- ITS FALSE NEIGHBOUR: 'it returns false'. Refute it at one input. -/
def fnExactFlushDiskWrong : ChangeSpec := { name := "fnExactFlushDisk", fn := fun _ => fun
  | [d] => { results := [.lit (.bool false)], args := [d] }
  | _ => none }
def FnExactFlushDiskWrongFalsely : Prop := fnExactFlushDiskRow.holds Try.pinned (OpenSpec.ofChange fnExactFlushDiskWrong)

/-- 'laws.FnExactCommitJournal': WHATEVER THE INPUT: true; the input reads as it did. -/
def fnExactCommitJournalSpec : ChangeSpec := { name := "fnExactCommitJournal", fn := fun _ => fun
  | [d] => { results := [.lit (.bool true)], args := [d] }
  | _ => none }
def fnExactCommitJournalRow : OpenClaim := { program := "ytaahjfjpbilfnaa", sum := "6844e3d47a76ab2897c72be6c9a5446ba5efc76ee214004bca983f89cd407853", func := "loop.example/g00277/laws.FnExactCommitJournal", spec := "fnExactCommitJournal", unfollowed := true, recurses := true, apart := false }
def FnExactCommitJournalSaid : Prop := fnExactCommitJournalRow.holds Try.pinned (OpenSpec.ofChange fnExactCommitJournalSpec)

/-- ITS FALSE NEIGHBOUR: 'it returns false'. Refute it at one input. -/
def fnExactCommitJournalWrong : ChangeSpec := { name := "fnExactCommitJournal", fn := fun _ => fun
  | [d] => { results := [.lit (.bool false)], args := [d] }
  | _ => none }
def FnExactCommitJournalWrongFalsely : Prop := fnExactCommitJournalRow.holds Try.pinned (OpenSpec.ofChange fnExactCommitJournalWrong)

/-- 'laws.FnExactPutWord': WHATEVER THE INPUT: true; the input reads as it did. -/
def fnExactPutWordSpec : ChangeSpec := { name := "fnExactPutWord", fn := fun _ => fun
  | [d1, d2, d3] => { results := [.lit (.bool true)], args := [d1, d2, d3] }
  | _ => none }
def fnExactPutWordRow : OpenClaim := { program := "ytaahjfjpbilfnaa", sum := "6844e3d47a76ab2897c72be6c9a5446ba5efc76ee214004bca983f89cd407853", func := "loop.example/g00277/laws.FnExactPutWord", spec := "fnExactPutWord", unfollowed := true, recurses := true, apart := false }
def FnExactPutWordSaid : Prop := fnExactPutWordRow.holds Try.pinned (OpenSpec.ofChange fnExactPutWordSpec)

/-- ITS FALSE NEIGHBOUR: 'it returns false'. Refute it at one input. -/
def fnExactPutWordWrong : ChangeSpec := { name := "fnExactPutWord", fn := fun _ => fun
  | [d1, d2, d3] => { results := [.lit (.bool false)], args := [d1, d2, d3] }
  | _ => none }
def FnExactPutWordWrongFalsely : Prop := fnExactPutWordRow.holds Try.pinned (OpenSpec.ofChange fnExactPutWordWrong)

/-- 'laws.FnExactRoomOf': WHATEVER THE INPUT: true; the input reads as it did. -/
def fnExactRoomOfSpec : ChangeSpec := { name := "fnExactRoomOf", fn := fun _ => fun
  | [d] => { results := [.lit (.bool true)], args := [d] }
  | _ => none }
def fnExactRoomOfRow : OpenClaim := { program := "ytaahjfjpbilfnaa", sum := "6844e3d47a76ab2897c72be6c9a5446ba5efc76ee214004bca983f89cd407853", func := "loop.example/g00277/laws.FnExactRoomOf", spec := "fnExactRoomOf", unfollowed := true, recurses := true, apart := false }
def FnExactRoomOfSaid : Prop := fnExactRoomOfRow.holds Try.pinned (OpenSpec.ofChange fnExactRoomOfSpec)

/-- ITS FALSE NEIGHBOUR: 'it returns false'. Refute it at one input. -/
def fnExactRoomOfWrong : ChangeSpec := { name := "fnExactRoomOf", fn := fun _ => fun
  | [d] => { results := [.lit (.bool false)], args := [d] }
  | _ => none }
def FnExactRoomOfWrongFalsely : Prop := fnExactRoomOfRow.holds Try.pinned (OpenSpec.ofChange fnExactRoomOfWrong)

/-- 'laws.FnExactCrashDisk': WHATEVER THE INPUT: true; the input reads as it did. -/
def fnExactCrashDiskSpec : ChangeSpec := { name := "fnExactCrashDisk", fn := fun _ => fun
  | [d1, d2] => { results := [.lit (.bool true)], args := [d1, d2] }
  | _ => none }
def fnExactCrashDiskRow : OpenClaim := { program := "ytaahjfjpbilfnaa", sum := "6844e3d47a76ab2897c72be6c9a5446ba5efc76ee214004bca983f89cd407853", func := "loop.example/g00277/laws.FnExactCrashDisk", spec := "fnExactCrashDisk", unfollowed := true, recurses := true, apart := false }
def FnExactCrashDiskSaid : Prop := fnExactCrashDiskRow.holds Try.pinned (OpenSpec.ofChange fnExactCrashDiskSpec)

/-- ITS FALSE NEIGHBOUR: 'it returns false'. Refute it at one input. -/
def fnExactCrashDiskWrong : ChangeSpec := { name := "fnExactCrashDisk", fn := fun _ => fun
  | [d1, d2] => { results := [.lit (.bool false)], args := [d1, d2] }
  | _ => none }
def FnExactCrashDiskWrongFalsely : Prop := fnExactCrashDiskRow.holds Try.pinned (OpenSpec.ofChange fnExactCrashDiskWrong)

/-- 'laws.FnExactScanJournal': WHATEVER THE INPUT: true; the input reads as it did. -/
def fnExactScanJournalSpec : ChangeSpec := { name := "fnExactScanJournal", fn := fun _ => fun
  | [d] => { results := [.lit (.bool true)], args := [d] }
  | _ => none }
def fnExactScanJournalRow : OpenClaim := { program := "ytaahjfjpbilfnaa", sum := "6844e3d47a76ab2897c72be6c9a5446ba5efc76ee214004bca983f89cd407853", func := "loop.example/g00277/laws.FnExactScanJournal", spec := "fnExactScanJournal", unfollowed := true, recurses := true, apart := false }
def FnExactScanJournalSaid : Prop := fnExactScanJournalRow.holds Try.pinned (OpenSpec.ofChange fnExactScanJournalSpec)

/-- ITS FALSE NEIGHBOUR: 'it returns false'. Refute it at one input. -/
def fnExactScanJournalWrong : ChangeSpec := { name := "fnExactScanJournal", fn := fun _ => fun
  | [d] => { results := [.lit (.bool false)], args := [d] }
  | _ => none }
def FnExactScanJournalWrongFalsely : Prop := fnExactScanJournalRow.holds Try.pinned (OpenSpec.ofChange fnExactScanJournalWrong)

/-- 'laws.FnExactAppendJournal': WHATEVER THE INPUT: true; the input reads as it did. -/
def fnExactAppendJournalSpec : ChangeSpec := { name := "fnExactAppendJournal", fn := fun _ => fun
  | [d1, d2] => { results := [.lit (.bool true)], args := [d1, d2] }
  | _ => none }
def fnExactAppendJournalRow : OpenClaim := { program := "ytaahjfjpbilfnaa", sum := "6844e3d47a76ab2897c72be6c9a5446ba5efc76ee214004bca983f89cd407853", func := "loop.example/g00277/laws.FnExactAppendJournal", spec := "fnExactAppendJournal", unfollowed := true, recurses := true, apart := false }
def FnExactAppendJournalSaid : Prop := fnExactAppendJournalRow.holds Try.pinned (OpenSpec.ofChange fnExactAppendJournalSpec)

/-- ITS FALSE NEIGHBOUR: 'it returns false'. Refute it at one input. -/
def fnExactAppendJournalWrong : ChangeSpec := { name := "fnExactAppendJournal", fn := fun _ => fun
  | [d1, d2] => { results := [.lit (.bool false)], args := [d1, d2] }
  | _ => none }
def FnExactAppendJournalWrongFalsely : Prop := fnExactAppendJournalRow.holds Try.pinned (OpenSpec.ofChange fnExactAppendJournalWrong)

/-- 'laws.FnJournals': WHATEVER THE INPUT: true; the input reads as it did. -/
def fnJournalsSpec : ChangeSpec := { name := "fnJournals", fn := fun _ => fun
  | [d] => { results := [.lit (.bool true)], args := [d] }
  | _ => none }
def fnJournalsRow : OpenClaim := { program := "ytaahjfjpbilfnaa", sum := "6844e3d47a76ab2897c72be6c9a5446ba5efc76ee214004bca983f89cd407853", func := "loop.example/g00277/laws.FnJournals", spec := "fnJournals", unfollowed := true, recurses := true, apart := false }
def FnJournalsSaid : Prop := fnJournalsRow.holds Try.pinned (OpenSpec.ofChange fnJournalsSpec)

/-- ITS FALSE NEIGHBOUR: 'it returns false'. Refute it at one input. -/
def fnJournalsWrong : ChangeSpec := { name := "fnJournals", fn := fun _ => fun
  | [d] => { results := [.lit (.bool false)], args := [d] }
  | _ => none }
def FnJournalsWrongFalsely : Prop := fnJournalsRow.holds Try.pinned (OpenSpec.ofChange fnJournalsWrong)

/- THE SECOND FORM. 'bulk': how many values and letters a reading holds, each counted each time it is reached (what is shared counts as often as it is met; a slice's spare places count too). A statement '..UptoSaid' is the law's where the arguments, and the package variables that the reading takes, are together of bulk at most 1048576: NARROWER than '..Said'. Prove '..Said' where nothing that the law and all that it calls make is longer than what came in: it says more and counts as full. Else prove '..UptoSaid'. A law counts once. -/
mutual
def uptoBulk {H : Type} : DataW H → Nat
  | .lit (.string bytes) => bytes.length + 1
  | .lit _ => 1
  | .nil => 1
  | .ptr d => uptoBulk d + 1
  | .slice elems spare => uptoBulkAll elems + uptoBulkAll spare + 1
  | .agg parts => uptoBulkAll parts + 1
  | .iface _ d => uptoBulk d + 1
  | .map entries => uptoBulkEntries entries + 1
  | .held _ => 1
def uptoBulkAll {H : Type} : List (DataW H) → Nat
  | [] => 0
  | d :: r => uptoBulk d + uptoBulkAll r
def uptoBulkEntries {H : Type} : List (Lit × DataW H) → Nat
  | [] => 0
  | x :: r => uptoBulkEntry x + uptoBulkEntries r
def uptoBulkEntry {H : Type} : Lit × DataW H → Nat
  | (.string bytes, d) => bytes.length + uptoBulk d + 1
  | (_, d) => uptoBulk d + 1
 end
def uptoSmall : (H : Type) → List (DataW H) → Bool := fun _ ds => decide (uptoBulkAll ds ≤ 1048576)
def OpenSpec.upto (s : _root_.Go.ChangeSpec) : _root_.Go.OpenSpec := { _root_.Go.OpenSpec.ofChange s with cond := some uptoSmall }

/-- 'laws.FnExactDiskFault', WHERE WHAT IT READS IS OF BULK AT MOST 1048576: true; the input reads as it did. -/
def fnExactDiskFaultUptoRow : OpenClaim := { program := "ytaahjfjpbilfnaa", sum := "6844e3d47a76ab2897c72be6c9a5446ba5efc76ee214004bca983f89cd407853", func := "loop.example/g00277/laws.FnExactDiskFault", spec := "fnExactDiskFault", unfollowed := true, recurses := true, apart := false, narrowed := true }
def FnExactDiskFaultUptoSaid : Prop := fnExactDiskFaultUptoRow.holds Try.pinned (OpenSpec.upto fnExactDiskFaultSpec)

/-- 'laws.FnExactWordAt', WHERE WHAT IT READS IS OF BULK AT MOST 1048576: true; the input reads as it did. -/
def fnExactWordAtUptoRow : OpenClaim := { program := "ytaahjfjpbilfnaa", sum := "6844e3d47a76ab2897c72be6c9a5446ba5efc76ee214004bca983f89cd407853", func := "loop.example/g00277/laws.FnExactWordAt", spec := "fnExactWordAt", unfollowed := true, recurses := true, apart := false, narrowed := true }
def FnExactWordAtUptoSaid : Prop := fnExactWordAtUptoRow.holds Try.pinned (OpenSpec.upto fnExactWordAtSpec)

/-- 'laws.FnDisks', WHERE WHAT IT READS IS OF BULK AT MOST 1048576: true; the input reads as it did. -/
def fnDisksUptoRow : OpenClaim := { program := "ytaahjfjpbilfnaa", sum := "6844e3d47a76ab2897c72be6c9a5446ba5efc76ee214004bca983f89cd407853", func := "loop.example/g00277/laws.FnDisks", spec := "fnDisks", unfollowed := true, recurses := true, apart := false, narrowed := true }
def FnDisksUptoSaid : Prop := fnDisksUptoRow.holds Try.pinned (OpenSpec.upto fnDisksSpec)

/-- 'laws.FnExactNewDisk', WHERE WHAT IT READS IS OF BULK AT MOST 1048576: true; the input reads as it did. -/
def fnExactNewDiskUptoRow : OpenClaim := { program := "ytaahjfjpbilfnaa", sum := "6844e3d47a76ab2897c72be6c9a5446ba5efc76ee214004bca983f89cd407853", func := "loop.example/g00277/laws.FnExactNewDisk", spec := "fnExactNewDisk", unfollowed := true, recurses := true, apart := false, narrowed := true }
def FnExactNewDiskUptoSaid : Prop := fnExactNewDiskUptoRow.holds Try.pinned (OpenSpec.upto fnExactNewDiskSpec)

/-- 'laws.FnExactAllWords', WHERE WHAT IT READS IS OF BULK AT MOST 1048576: true; the input reads as it did. -/
def fnExactAllWordsUptoRow : OpenClaim := { program := "ytaahjfjpbilfnaa", sum := "6844e3d47a76ab2897c72be6c9a5446ba5efc76ee214004bca983f89cd407853", func := "loop.example/g00277/laws.FnExactAllWords", spec := "fnExactAllWords", unfollowed := true, recurses := true, apart := false, narrowed := true }
def FnExactAllWordsUptoSaid : Prop := fnExactAllWordsUptoRow.holds Try.pinned (OpenSpec.upto fnExactAllWordsSpec)

/-- 'laws.FnExactFlushDisk', WHERE WHAT IT READS IS OF BULK AT MOST 1048576: true; the input reads as it did. -/
def fnExactFlushDiskUptoRow : OpenClaim := { program := "ytaahjfjpbilfnaa", sum := "6844e3d47a76ab2897c72be6c9a5446ba5efc76ee214004bca983f89cd407853", func := "loop.example/g00277/laws.FnExactFlushDisk", spec := "fnExactFlushDisk", unfollowed := true, recurses := true, apart := false, narrowed := true }
def FnExactFlushDiskUptoSaid : Prop := fnExactFlushDiskUptoRow.holds Try.pinned (OpenSpec.upto fnExactFlushDiskSpec)

/-- 'laws.FnExactCommitJournal', WHERE WHAT IT READS IS OF BULK AT MOST 1048576: true; the input reads as it did. -/
def fnExactCommitJournalUptoRow : OpenClaim := { program := "ytaahjfjpbilfnaa", sum := "6844e3d47a76ab2897c72be6c9a5446ba5efc76ee214004bca983f89cd407853", func := "loop.example/g00277/laws.FnExactCommitJournal", spec := "fnExactCommitJournal", unfollowed := true, recurses := true, apart := false, narrowed := true }
def FnExactCommitJournalUptoSaid : Prop := fnExactCommitJournalUptoRow.holds Try.pinned (OpenSpec.upto fnExactCommitJournalSpec)

/-- 'laws.FnExactPutWord', WHERE WHAT IT READS IS OF BULK AT MOST 1048576: true; the input reads as it did. -/
def fnExactPutWordUptoRow : OpenClaim := { program := "ytaahjfjpbilfnaa", sum := "6844e3d47a76ab2897c72be6c9a5446ba5efc76ee214004bca983f89cd407853", func := "loop.example/g00277/laws.FnExactPutWord", spec := "fnExactPutWord", unfollowed := true, recurses := true, apart := false, narrowed := true }
def FnExactPutWordUptoSaid : Prop := fnExactPutWordUptoRow.holds Try.pinned (OpenSpec.upto fnExactPutWordSpec)

/-- 'laws.FnExactRoomOf', WHERE WHAT IT READS IS OF BULK AT MOST 1048576: true; the input reads as it did. -/
def fnExactRoomOfUptoRow : OpenClaim := { program := "ytaahjfjpbilfnaa", sum := "6844e3d47a76ab2897c72be6c9a5446ba5efc76ee214004bca983f89cd407853", func := "loop.example/g00277/laws.FnExactRoomOf", spec := "fnExactRoomOf", unfollowed := true, recurses := true, apart := false, narrowed := true }
def FnExactRoomOfUptoSaid : Prop := fnExactRoomOfUptoRow.holds Try.pinned (OpenSpec.upto fnExactRoomOfSpec)

/-- 'laws.FnExactCrashDisk', WHERE WHAT IT READS IS OF BULK AT MOST 1048576: true; the input reads as it did. -/
def fnExactCrashDiskUptoRow : OpenClaim := { program := "ytaahjfjpbilfnaa", sum := "6844e3d47a76ab2897c72be6c9a5446ba5efc76ee214004bca983f89cd407853", func := "loop.example/g00277/laws.FnExactCrashDisk", spec := "fnExactCrashDisk", unfollowed := true, recurses := true, apart := false, narrowed := true }
def FnExactCrashDiskUptoSaid : Prop := fnExactCrashDiskUptoRow.holds Try.pinned (OpenSpec.upto fnExactCrashDiskSpec)

/-- 'laws.FnExactScanJournal', WHERE WHAT IT READS IS OF BULK AT MOST 1048576: true; the input reads as it did. -/
def fnExactScanJournalUptoRow : OpenClaim := { program := "ytaahjfjpbilfnaa", sum := "6844e3d47a76ab2897c72be6c9a5446ba5efc76ee214004bca983f89cd407853", func := "loop.example/g00277/laws.FnExactScanJournal", spec := "fnExactScanJournal", unfollowed := true, recurses := true, apart := false, narrowed := true }
def FnExactScanJournalUptoSaid : Prop := fnExactScanJournalUptoRow.holds Try.pinned (OpenSpec.upto fnExactScanJournalSpec)

/-- 'laws.FnExactAppendJournal', WHERE WHAT IT READS IS OF BULK AT MOST 1048576: true; the input reads as it did. -/
def fnExactAppendJournalUptoRow : OpenClaim := { program := "ytaahjfjpbilfnaa", sum := "6844e3d47a76ab2897c72be6c9a5446ba5efc76ee214004bca983f89cd407853", func := "loop.example/g00277/laws.FnExactAppendJournal", spec := "fnExactAppendJournal", unfollowed := true, recurses := true, apart := false, narrowed := true }
def FnExactAppendJournalUptoSaid : Prop := fnExactAppendJournalUptoRow.holds Try.pinned (OpenSpec.upto fnExactAppendJournalSpec)

/-- 'laws.FnJournals', WHERE WHAT IT READS IS OF BULK AT MOST 1048576: true; the input reads as it did. -/
def fnJournalsUptoRow : OpenClaim := { program := "ytaahjfjpbilfnaa", sum := "6844e3d47a76ab2897c72be6c9a5446ba5efc76ee214004bca983f89cd407853", func := "loop.example/g00277/laws.FnJournals", spec := "fnJournals", unfollowed := true, recurses := true, apart := false, narrowed := true }
def FnJournalsUptoSaid : Prop := fnJournalsUptoRow.holds Try.pinned (OpenSpec.upto fnJournalsSpec)

end Rows
end Go.Proofs.Ytaahjfjpbilfnaa
