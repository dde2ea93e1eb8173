/-
  DERIVED. GIVEN WITH THE SEED: THE CARDS: each row of YtohanpndekfbgaaDoorRows.lean that lists a variable, with what it lists TIED to the program's text (the seventh form; the later family's looks); each row that meets fmt, with fmt's text TOLD by the authors' own Lean function (tested against real Go, not proved from fmt's source: count such statements apart). THE CARD IS WHAT COUNTS. Prove the row's statement (the work); the ties are given (YtohanpndekfbgaaDoorTie.lean); close each card by the builder's one call (the guide's Derived/Test/ToyasCard.lean, 'card_holds'). Laid BY PROGRAM, IN A SANDBOX (cutbox-door.mjs). By AI agents, Wed Nov 11 2026. No macro, syntax, notation, axiom, sorry.
-/
import Derived.Test.YtohanpndekfbgaaDoorRows
import GoSem.ClaimSeven
namespace Go.Proofs.YtohanpndekfbgaaDoor
namespace Rows

/-- THE TIED CARD OF 'laws.FnExactCellsText'. -/
def fnExactCellsTextCard : Claim7 := { stood := { row := fnExactCellsTextRow, standIns := [], harness := (true, "97353507ecec501807e1dbb34e40d296d4a1de67568145bccdaf7a75744c3525"), looks := false }, kinds := [], alts := [], laidByText := true, laidKinds := [.data, .data, .data], laidTests := true, laidLooks := .later }
def FnExactCellsTextCardSaid : Prop := Claim7.holds Tryd.pinned (.plain (OpenSpec.ofChange fnExactCellsTextSpec)) fnExactCellsTextCard

/-- THE SECOND FORM's CARD OF 'laws.FnExactCellsText'. -/
def fnExactCellsTextUptoCard : Claim7 := { stood := { row := fnExactCellsTextUptoRow, standIns := [], harness := (true, "97353507ecec501807e1dbb34e40d296d4a1de67568145bccdaf7a75744c3525"), looks := false }, kinds := [], alts := [], laidByText := true, laidKinds := [.data, .data, .data], laidTests := true, laidLooks := .later }
def FnExactCellsTextUptoCardSaid : Prop := Claim7.holds Tryd.pinned (.plain (OpenSpec.upto fnExactCellsTextSpec)) fnExactCellsTextUptoCard
end Rows
end Go.Proofs.YtohanpndekfbgaaDoor
