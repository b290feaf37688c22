/-
  DERIVED. GIVEN WITH THE SEED: THE CARDS: each row of YtponljdhfoipjaaGreatDoorRows.lean that lists a variable, with what it lists TIED to the program's text (the seventh form; the later family's looks); each row that meets fmt, with fmt's text TOLD by the authors' own Lean function (tested against real Go, not proved from fmt's source: count such statements apart). THE CARD IS WHAT COUNTS. Prove the row's statement (the work); the ties are given (YtponljdhfoipjaaGreatDoorTie.lean); close each card by the builder's one call (the guide's Derived/Test/ToyasCard.lean, 'card_holds'). Laid BY PROGRAM, IN A SANDBOX (cutbox-door.mjs). By AI agents, Wed Nov 11 2026. No macro, syntax, notation, axiom, sorry.
-/
import Derived.Test.YtponljdhfoipjaaGreatDoorRows
import GoSem.ClaimSeven
namespace Go.Proofs.YtponljdhfoipjaaGreatDoor
namespace Rows

/-- THE TIED CARD OF 'stagehandlaw27.CodesKnown'. -/
def codesKnownCard : Claim7 := { stood := { row := codesKnownRow, standIns := [], harness := (true, "844ccd98049d335bdc30c74f04cd3a8c5abd34563833f8fdf80773d99196c2d3"), looks := true }, kinds := [], alts := [], laidByText := true, laidKinds := [.listed, .data, .data], laidTests := true, laidLooks := .later }
def CodesKnownCardSaid : Prop := Claim7.holds Tryz.pinned (.plain (OpenSpec.ofChange codesKnownSpec)) codesKnownCard

/-- THE TIED CARD OF 'stagehandlaw27.CodesNil'. -/
def codesNilCard : Claim7 := { stood := { row := codesNilRow, standIns := [], harness := (true, "844ccd98049d335bdc30c74f04cd3a8c5abd34563833f8fdf80773d99196c2d3"), looks := true }, kinds := [], alts := [], laidByText := true, laidKinds := [.data, .listed, .data, .data, .pinned], laidTests := true, laidLooks := .later }
def CodesNilCardSaid : Prop := Claim7.holds Tryz.pinned (.plain (OpenSpec.ofChange codesNilSpec)) codesNilCard

/-- THE SECOND FORM's CARD OF 'stagehandlaw27.CodesKnown'. -/
def codesKnownUptoCard : Claim7 := { stood := { row := codesKnownUptoRow, standIns := [], harness := (true, "844ccd98049d335bdc30c74f04cd3a8c5abd34563833f8fdf80773d99196c2d3"), looks := true }, kinds := [], alts := [], laidByText := true, laidKinds := [.listed, .data, .data], laidTests := true, laidLooks := .later }
def CodesKnownUptoCardSaid : Prop := Claim7.holds Tryz.pinned (.plain (OpenSpec.upto codesKnownSpec)) codesKnownUptoCard

/-- THE SECOND FORM's CARD OF 'stagehandlaw27.CodesNil'. -/
def codesNilUptoCard : Claim7 := { stood := { row := codesNilUptoRow, standIns := [], harness := (true, "844ccd98049d335bdc30c74f04cd3a8c5abd34563833f8fdf80773d99196c2d3"), looks := true }, kinds := [], alts := [], laidByText := true, laidKinds := [.data, .listed, .data, .data, .pinned], laidTests := true, laidLooks := .later }
def CodesNilUptoCardSaid : Prop := Claim7.holds Tryz.pinned (.plain (OpenSpec.upto codesNilSpec)) codesNilUptoCard
end Rows
end Go.Proofs.YtponljdhfoipjaaGreatDoor
