/-
  DERIVED. GIVEN WITH THE SEED: THE CARDS: each row of YtghgbikmlbildaaGreatDoorRows.lean that lists a variable, with what it lists TIED to the program's text (the seventh form; the later family's looks); each row that meets fmt, with fmt's text TOLD by the authors' own Lean function (tested against real Go, not proved from fmt's source: count such statements apart). THE CARD IS WHAT COUNTS. Prove the row's statement (the work); the ties are given (YtghgbikmlbildaaGreatDoorTie.lean); close each card by the builder's one call (the guide's Derived/Test/ToyasCard.lean, 'card_holds'). Laid BY PROGRAM, IN A SANDBOX (cutbox-door.mjs). By AI agents, Wed Nov 11 2026. No macro, syntax, notation, axiom, sorry.
-/
import Derived.Test.YtghgbikmlbildaaGreatDoorRows
import GoSem.ClaimSeven
namespace Go.Proofs.YtghgbikmlbildaaGreatDoor
namespace Rows

/-- THE TIED CARD OF 'stagehandlaw16.CodeChecks'. -/
def codeChecksCard : Claim7 := { stood := { row := codeChecksRow, standIns := [], harness := (true, "7bf27d4d5c8526c49da146bf9372bd0ea6cb291d85c1efb614f4340a2cac6ace"), looks := true }, kinds := [], alts := [], laidByText := true, laidKinds := [.listed, .data, .data], laidTests := true, laidLooks := .later }
def CodeChecksCardSaid : Prop := Claim7.holds Tryz.pinned (.plain (OpenSpec.ofChange codeChecksSpec)) codeChecksCard

/-- THE TIED CARD OF 'stagehandlaw16.CodePuts'. -/
def codePutsCard : Claim7 := { stood := { row := codePutsRow, standIns := [], harness := (true, "7bf27d4d5c8526c49da146bf9372bd0ea6cb291d85c1efb614f4340a2cac6ace"), looks := true }, kinds := [], alts := [], laidByText := true, laidKinds := [.listed, .data, .data], laidTests := true, laidLooks := .later }
def CodePutsCardSaid : Prop := Claim7.holds Tryz.pinned (.plain (OpenSpec.ofChange codePutsSpec)) codePutsCard

/-- THE TIED CARD OF 'stagehandlaw16.CodeGets'. -/
def codeGetsCard : Claim7 := { stood := { row := codeGetsRow, standIns := [], harness := (true, "7bf27d4d5c8526c49da146bf9372bd0ea6cb291d85c1efb614f4340a2cac6ace"), looks := true }, kinds := [], alts := [], laidByText := true, laidKinds := [.listed, .data, .data], laidTests := true, laidLooks := .later }
def CodeGetsCardSaid : Prop := Claim7.holds Tryz.pinned (.plain (OpenSpec.ofChange codeGetsSpec)) codeGetsCard

/-- THE TIED CARD OF 'stagehandlaw16.CodeRounds'. -/
def codeRoundsCard : Claim7 := { stood := { row := codeRoundsRow, standIns := [], harness := (true, "7bf27d4d5c8526c49da146bf9372bd0ea6cb291d85c1efb614f4340a2cac6ace"), looks := true }, kinds := [], alts := [], laidByText := true, laidKinds := [.listed, .data, .data], laidTests := true, laidLooks := .later }
def CodeRoundsCardSaid : Prop := Claim7.holds Tryz.pinned (.plain (OpenSpec.ofChange codeRoundsSpec)) codeRoundsCard

/-- THE TIED CARD OF 'stagehandlaw16.CodeOnce'. -/
def codeOnceCard : Claim7 := { stood := { row := codeOnceRow, standIns := [], harness := (true, "7bf27d4d5c8526c49da146bf9372bd0ea6cb291d85c1efb614f4340a2cac6ace"), looks := true }, kinds := [], alts := [], laidByText := true, laidKinds := [.listed, .data, .data], laidTests := true, laidLooks := .later }
def CodeOnceCardSaid : Prop := Claim7.holds Tryz.pinned (.plain (OpenSpec.ofChange codeOnceSpec)) codeOnceCard

/-- THE TIED CARD OF 'stagehandlaw16.CodeKnown'. -/
def codeKnownCard : Claim7 := { stood := { row := codeKnownRow, standIns := [], harness := (true, "7bf27d4d5c8526c49da146bf9372bd0ea6cb291d85c1efb614f4340a2cac6ace"), looks := true }, kinds := [], alts := [], laidByText := true, laidKinds := [.listed, .data, .data], laidTests := true, laidLooks := .later }
def CodeKnownCardSaid : Prop := Claim7.holds Tryz.pinned (.plain (OpenSpec.ofChange codeKnownSpec)) codeKnownCard

/-- THE TIED CARD OF 'stagehandlaw26.FileUnits'. -/
def fileUnitsCard : Claim7 := { stood := { row := fileUnitsRow, standIns := [], harness := (true, "7bf27d4d5c8526c49da146bf9372bd0ea6cb291d85c1efb614f4340a2cac6ace"), looks := true }, kinds := [], alts := [], laidByText := true, laidKinds := [.data, .listed, .data, .data, .pinned], laidTests := true, laidLooks := .later }
def FileUnitsCardSaid : Prop := Claim7.holds Tryz.pinned (.plain (OpenSpec.ofChange fileUnitsSpec)) fileUnitsCard

/-- THE TIED CARD OF 'stagehandlaw26.FileLoads'. -/
def fileLoadsCard : Claim7 := { stood := { row := fileLoadsRow, standIns := [], harness := (true, "7bf27d4d5c8526c49da146bf9372bd0ea6cb291d85c1efb614f4340a2cac6ace"), looks := true }, kinds := [], alts := [], laidByText := true, laidKinds := [.data, .listed, .data, .data, .pinned], laidTests := true, laidLooks := .later }
def FileLoadsCardSaid : Prop := Claim7.holds Tryz.pinned (.plain (OpenSpec.ofChange fileLoadsSpec)) fileLoadsCard

/-- THE SECOND FORM's CARD OF 'stagehandlaw16.CodeChecks'. -/
def codeChecksUptoCard : Claim7 := { stood := { row := codeChecksUptoRow, standIns := [], harness := (true, "7bf27d4d5c8526c49da146bf9372bd0ea6cb291d85c1efb614f4340a2cac6ace"), looks := true }, kinds := [], alts := [], laidByText := true, laidKinds := [.listed, .data, .data], laidTests := true, laidLooks := .later }
def CodeChecksUptoCardSaid : Prop := Claim7.holds Tryz.pinned (.plain (OpenSpec.upto codeChecksSpec)) codeChecksUptoCard

/-- THE SECOND FORM's CARD OF 'stagehandlaw16.CodePuts'. -/
def codePutsUptoCard : Claim7 := { stood := { row := codePutsUptoRow, standIns := [], harness := (true, "7bf27d4d5c8526c49da146bf9372bd0ea6cb291d85c1efb614f4340a2cac6ace"), looks := true }, kinds := [], alts := [], laidByText := true, laidKinds := [.listed, .data, .data], laidTests := true, laidLooks := .later }
def CodePutsUptoCardSaid : Prop := Claim7.holds Tryz.pinned (.plain (OpenSpec.upto codePutsSpec)) codePutsUptoCard

/-- THE SECOND FORM's CARD OF 'stagehandlaw16.CodeGets'. -/
def codeGetsUptoCard : Claim7 := { stood := { row := codeGetsUptoRow, standIns := [], harness := (true, "7bf27d4d5c8526c49da146bf9372bd0ea6cb291d85c1efb614f4340a2cac6ace"), looks := true }, kinds := [], alts := [], laidByText := true, laidKinds := [.listed, .data, .data], laidTests := true, laidLooks := .later }
def CodeGetsUptoCardSaid : Prop := Claim7.holds Tryz.pinned (.plain (OpenSpec.upto codeGetsSpec)) codeGetsUptoCard

/-- THE SECOND FORM's CARD OF 'stagehandlaw16.CodeRounds'. -/
def codeRoundsUptoCard : Claim7 := { stood := { row := codeRoundsUptoRow, standIns := [], harness := (true, "7bf27d4d5c8526c49da146bf9372bd0ea6cb291d85c1efb614f4340a2cac6ace"), looks := true }, kinds := [], alts := [], laidByText := true, laidKinds := [.listed, .data, .data], laidTests := true, laidLooks := .later }
def CodeRoundsUptoCardSaid : Prop := Claim7.holds Tryz.pinned (.plain (OpenSpec.upto codeRoundsSpec)) codeRoundsUptoCard

/-- THE SECOND FORM's CARD OF 'stagehandlaw16.CodeOnce'. -/
def codeOnceUptoCard : Claim7 := { stood := { row := codeOnceUptoRow, standIns := [], harness := (true, "7bf27d4d5c8526c49da146bf9372bd0ea6cb291d85c1efb614f4340a2cac6ace"), looks := true }, kinds := [], alts := [], laidByText := true, laidKinds := [.listed, .data, .data], laidTests := true, laidLooks := .later }
def CodeOnceUptoCardSaid : Prop := Claim7.holds Tryz.pinned (.plain (OpenSpec.upto codeOnceSpec)) codeOnceUptoCard

/-- THE SECOND FORM's CARD OF 'stagehandlaw16.CodeKnown'. -/
def codeKnownUptoCard : Claim7 := { stood := { row := codeKnownUptoRow, standIns := [], harness := (true, "7bf27d4d5c8526c49da146bf9372bd0ea6cb291d85c1efb614f4340a2cac6ace"), looks := true }, kinds := [], alts := [], laidByText := true, laidKinds := [.listed, .data, .data], laidTests := true, laidLooks := .later }
def CodeKnownUptoCardSaid : Prop := Claim7.holds Tryz.pinned (.plain (OpenSpec.upto codeKnownSpec)) codeKnownUptoCard

/-- THE SECOND FORM's CARD OF 'stagehandlaw26.FileUnits'. -/
def fileUnitsUptoCard : Claim7 := { stood := { row := fileUnitsUptoRow, standIns := [], harness := (true, "7bf27d4d5c8526c49da146bf9372bd0ea6cb291d85c1efb614f4340a2cac6ace"), looks := true }, kinds := [], alts := [], laidByText := true, laidKinds := [.data, .listed, .data, .data, .pinned], laidTests := true, laidLooks := .later }
def FileUnitsUptoCardSaid : Prop := Claim7.holds Tryz.pinned (.plain (OpenSpec.upto fileUnitsSpec)) fileUnitsUptoCard

/-- THE SECOND FORM's CARD OF 'stagehandlaw26.FileLoads'. -/
def fileLoadsUptoCard : Claim7 := { stood := { row := fileLoadsUptoRow, standIns := [], harness := (true, "7bf27d4d5c8526c49da146bf9372bd0ea6cb291d85c1efb614f4340a2cac6ace"), looks := true }, kinds := [], alts := [], laidByText := true, laidKinds := [.data, .listed, .data, .data, .pinned], laidTests := true, laidLooks := .later }
def FileLoadsUptoCardSaid : Prop := Claim7.holds Tryz.pinned (.plain (OpenSpec.upto fileLoadsSpec)) fileLoadsUptoCard
end Rows
end Go.Proofs.YtghgbikmlbildaaGreatDoor
