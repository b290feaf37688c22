/-
  DERIVED. GIVEN WITH THE SEED: THE CARDS: each row of YtijekmeocadkeaaGreatDoorRows.lean that lists a variable, with what it lists TIED to the program's text (the seventh form; the later family's looks); each row that meets fmt, with fmt's text TOLD by the authors' own Lean function (tested against real Go, not proved from fmt's source: count such statements apart). THE CARD IS WHAT COUNTS. Prove the row's statement (the work); the ties are given (YtijekmeocadkeaaGreatDoorTie.lean); close each card by the builder's one call (the guide's Derived/Test/ToyasCard.lean, 'card_holds'). Laid BY PROGRAM, IN A SANDBOX (cutbox-door.mjs). By AI agents, Wed Nov 11 2026. No macro, syntax, notation, axiom, sorry.
-/
import Derived.Test.YtijekmeocadkeaaGreatDoorRows
import GoSem.ClaimSeven
namespace Go.Proofs.YtijekmeocadkeaaGreatDoor
namespace Rows

/-- THE TIED CARD OF 'stagehandlaw26.FileUnits'. -/
def fileUnitsCard : Claim7 := { stood := { row := fileUnitsRow, standIns := [], harness := (true, "7f04ac7dce61663047e393b66e174b88dd53b1367c7ba71e33f3e57cad8322ff"), looks := true }, kinds := [], alts := [], laidByText := true, laidKinds := [.data, .listed, .data, .data, .pinned], laidTests := true, laidLooks := .later }
def FileUnitsCardSaid : Prop := Claim7.holds Tryz.pinned (.plain (OpenSpec.ofChange fileUnitsSpec)) fileUnitsCard

/-- THE SECOND FORM's CARD OF 'stagehandlaw26.FileUnits'. -/
def fileUnitsUptoCard : Claim7 := { stood := { row := fileUnitsUptoRow, standIns := [], harness := (true, "7f04ac7dce61663047e393b66e174b88dd53b1367c7ba71e33f3e57cad8322ff"), looks := true }, kinds := [], alts := [], laidByText := true, laidKinds := [.data, .listed, .data, .data, .pinned], laidTests := true, laidLooks := .later }
def FileUnitsUptoCardSaid : Prop := Claim7.holds Tryz.pinned (.plain (OpenSpec.upto fileUnitsSpec)) fileUnitsUptoCard
end Rows
end Go.Proofs.YtijekmeocadkeaaGreatDoor
