/-
  DERIVED. GIVEN WITH THE SEED: THE CARDS: each row of YthajedcbgnloeaaGreatDoorRows.lean that lists a variable, with what it lists TIED to the program's text (the seventh form; the later family's looks); each row that meets fmt, with fmt's text TOLD by the authors' own Lean function (tested against real Go, not proved from fmt's source: count such statements apart). THE CARD IS WHAT COUNTS. Prove the row's statement (the work); the ties are given (YthajedcbgnloeaaGreatDoorTie.lean); close each card by the builder's one call (the guide's Derived/Test/ToyasCard.lean, 'card_holds'). Laid BY PROGRAM, IN A SANDBOX (cutbox-door.mjs). By AI agents, Wed Nov 11 2026. No macro, syntax, notation, axiom, sorry.
-/
import Derived.Test.YthajedcbgnloeaaGreatDoorRows
import GoSem.ClaimSeven
namespace Go.Proofs.YthajedcbgnloeaaGreatDoor
namespace Rows

/-- THE TIED CARD OF 'stagehandlaw18.VerifyWheres'. -/
def verifyWheresCard : Claim7 := { stood := { row := verifyWheresRow, standIns := [], harness := (true, "d8d956ce20aa4ec07172ff7c3607a5bfe0b6205bd9d8da3a5ef84951eb38d167"), looks := false }, kinds := [], alts := [], laidByText := true, laidKinds := [.listed, .data, .data], laidTests := true, laidLooks := .later }
def VerifyWheresCardSaid : Prop := Claim7.holds Tryz.pinned (.plain (OpenSpec.ofChange verifyWheresSpec)) verifyWheresCard

/-- THE TIED CARD OF 'stagehandlaw18.VerifyStates'. -/
def verifyStatesCard : Claim7 := { stood := { row := verifyStatesRow, standIns := [], harness := (true, "d8d956ce20aa4ec07172ff7c3607a5bfe0b6205bd9d8da3a5ef84951eb38d167"), looks := false }, kinds := [], alts := [], laidByText := true, laidKinds := [.listed, .data, .data], laidTests := true, laidLooks := .later }
def VerifyStatesCardSaid : Prop := Claim7.holds Tryz.pinned (.plain (OpenSpec.ofChange verifyStatesSpec)) verifyStatesCard

/-- THE SECOND FORM's CARD OF 'stagehandlaw18.VerifyWheres'. -/
def verifyWheresUptoCard : Claim7 := { stood := { row := verifyWheresUptoRow, standIns := [], harness := (true, "d8d956ce20aa4ec07172ff7c3607a5bfe0b6205bd9d8da3a5ef84951eb38d167"), looks := false }, kinds := [], alts := [], laidByText := true, laidKinds := [.listed, .data, .data], laidTests := true, laidLooks := .later }
def VerifyWheresUptoCardSaid : Prop := Claim7.holds Tryz.pinned (.plain (OpenSpec.upto verifyWheresSpec)) verifyWheresUptoCard

/-- THE SECOND FORM's CARD OF 'stagehandlaw18.VerifyStates'. -/
def verifyStatesUptoCard : Claim7 := { stood := { row := verifyStatesUptoRow, standIns := [], harness := (true, "d8d956ce20aa4ec07172ff7c3607a5bfe0b6205bd9d8da3a5ef84951eb38d167"), looks := false }, kinds := [], alts := [], laidByText := true, laidKinds := [.listed, .data, .data], laidTests := true, laidLooks := .later }
def VerifyStatesUptoCardSaid : Prop := Claim7.holds Tryz.pinned (.plain (OpenSpec.upto verifyStatesSpec)) verifyStatesUptoCard
end Rows
end Go.Proofs.YthajedcbgnloeaaGreatDoor
