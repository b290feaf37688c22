/-
  DERIVED. GIVEN WITH THE SEED: THE CARDS: each row of YtepjanajflkakaaGreatDoorRows.lean that lists a variable, with what it lists TIED to the program's text (the seventh form; the later family's looks); each row that meets fmt, with fmt's text TOLD by the authors' own Lean function (tested against real Go, not proved from fmt's source: count such statements apart). THE CARD IS WHAT COUNTS. Prove the row's statement (the work); the ties are given (YtepjanajflkakaaGreatDoorTie.lean); close each card by the builder's one call (the guide's Derived/Test/ToyasCard.lean, 'card_holds'). Laid BY PROGRAM, IN A SANDBOX (cutbox-door.mjs). By AI agents, Wed Nov 11 2026. No macro, syntax, notation, axiom, sorry.
-/
import Derived.Test.YtepjanajflkakaaGreatDoorRows
import GoSem.ClaimSeven
namespace Go.Proofs.YtepjanajflkakaaGreatDoor
namespace Rows

/-- THE TIED CARD OF 'stagehandlaw18.VerifyWheres'. -/
def verifyWheresCard : Claim7 := { stood := { row := verifyWheresRow, standIns := [], harness := (true, "a857207e499d432987d269b9ec70619e0beed775445cc19a00d83684adf2354a"), looks := false }, kinds := [], alts := [], laidByText := true, laidKinds := [.listed, .data, .data], laidTests := true, laidLooks := .later }
def VerifyWheresCardSaid : Prop := Claim7.holds Tryz.pinned (.plain (OpenSpec.ofChange verifyWheresSpec)) verifyWheresCard

/-- THE TIED CARD OF 'stagehandlaw18.VerifyStates'. -/
def verifyStatesCard : Claim7 := { stood := { row := verifyStatesRow, standIns := [], harness := (true, "a857207e499d432987d269b9ec70619e0beed775445cc19a00d83684adf2354a"), looks := false }, kinds := [], alts := [], laidByText := true, laidKinds := [.listed, .data, .data], laidTests := true, laidLooks := .later }
def VerifyStatesCardSaid : Prop := Claim7.holds Tryz.pinned (.plain (OpenSpec.ofChange verifyStatesSpec)) verifyStatesCard

/-- THE TIED CARD OF 'stagehandlaw18.VerifyUnreached'. -/
def verifyUnreachedCard : Claim7 := { stood := { row := verifyUnreachedRow, standIns := [], harness := (true, "a857207e499d432987d269b9ec70619e0beed775445cc19a00d83684adf2354a"), looks := false }, kinds := [], alts := [], laidByText := true, laidKinds := [.listed, .data, .data], laidTests := true, laidLooks := .later }
def VerifyUnreachedCardSaid : Prop := Claim7.holds Tryz.pinned (.plain (OpenSpec.ofChange verifyUnreachedSpec)) verifyUnreachedCard

/-- THE TIED CARD OF 'stagehandlaw18.VerifyApart'. -/
def verifyApartCard : Claim7 := { stood := { row := verifyApartRow, standIns := [], harness := (true, "a857207e499d432987d269b9ec70619e0beed775445cc19a00d83684adf2354a"), looks := false }, kinds := [], alts := [], laidByText := true, laidKinds := [.listed, .data, .data], laidTests := true, laidLooks := .later }
def VerifyApartCardSaid : Prop := Claim7.holds Tryz.pinned (.plain (OpenSpec.ofChange verifyApartSpec)) verifyApartCard

/-- THE TIED CARD OF 'stagehandlaw18.VerifyKnown'. -/
def verifyKnownCard : Claim7 := { stood := { row := verifyKnownRow, standIns := [], harness := (true, "a857207e499d432987d269b9ec70619e0beed775445cc19a00d83684adf2354a"), looks := false }, kinds := [], alts := [], laidByText := true, laidKinds := [.listed, .data, .data], laidTests := true, laidLooks := .later }
def VerifyKnownCardSaid : Prop := Claim7.holds Tryz.pinned (.plain (OpenSpec.ofChange verifyKnownSpec)) verifyKnownCard

/-- THE TIED CARD OF 'stagehandlaw18.VerifyLoads'. -/
def verifyLoadsCard : Claim7 := { stood := { row := verifyLoadsRow, standIns := [], harness := (true, "a857207e499d432987d269b9ec70619e0beed775445cc19a00d83684adf2354a"), looks := false }, kinds := [], alts := [], laidByText := true, laidKinds := [.listed, .data, .data], laidTests := true, laidLooks := .later }
def VerifyLoadsCardSaid : Prop := Claim7.holds Tryz.pinned (.plain (OpenSpec.ofChange verifyLoadsSpec)) verifyLoadsCard

/-- THE SECOND FORM's CARD OF 'stagehandlaw18.VerifyWheres'. -/
def verifyWheresUptoCard : Claim7 := { stood := { row := verifyWheresUptoRow, standIns := [], harness := (true, "a857207e499d432987d269b9ec70619e0beed775445cc19a00d83684adf2354a"), looks := false }, kinds := [], alts := [], laidByText := true, laidKinds := [.listed, .data, .data], laidTests := true, laidLooks := .later }
def VerifyWheresUptoCardSaid : Prop := Claim7.holds Tryz.pinned (.plain (OpenSpec.upto verifyWheresSpec)) verifyWheresUptoCard

/-- THE SECOND FORM's CARD OF 'stagehandlaw18.VerifyStates'. -/
def verifyStatesUptoCard : Claim7 := { stood := { row := verifyStatesUptoRow, standIns := [], harness := (true, "a857207e499d432987d269b9ec70619e0beed775445cc19a00d83684adf2354a"), looks := false }, kinds := [], alts := [], laidByText := true, laidKinds := [.listed, .data, .data], laidTests := true, laidLooks := .later }
def VerifyStatesUptoCardSaid : Prop := Claim7.holds Tryz.pinned (.plain (OpenSpec.upto verifyStatesSpec)) verifyStatesUptoCard

/-- THE SECOND FORM's CARD OF 'stagehandlaw18.VerifyUnreached'. -/
def verifyUnreachedUptoCard : Claim7 := { stood := { row := verifyUnreachedUptoRow, standIns := [], harness := (true, "a857207e499d432987d269b9ec70619e0beed775445cc19a00d83684adf2354a"), looks := false }, kinds := [], alts := [], laidByText := true, laidKinds := [.listed, .data, .data], laidTests := true, laidLooks := .later }
def VerifyUnreachedUptoCardSaid : Prop := Claim7.holds Tryz.pinned (.plain (OpenSpec.upto verifyUnreachedSpec)) verifyUnreachedUptoCard

/-- THE SECOND FORM's CARD OF 'stagehandlaw18.VerifyApart'. -/
def verifyApartUptoCard : Claim7 := { stood := { row := verifyApartUptoRow, standIns := [], harness := (true, "a857207e499d432987d269b9ec70619e0beed775445cc19a00d83684adf2354a"), looks := false }, kinds := [], alts := [], laidByText := true, laidKinds := [.listed, .data, .data], laidTests := true, laidLooks := .later }
def VerifyApartUptoCardSaid : Prop := Claim7.holds Tryz.pinned (.plain (OpenSpec.upto verifyApartSpec)) verifyApartUptoCard

/-- THE SECOND FORM's CARD OF 'stagehandlaw18.VerifyKnown'. -/
def verifyKnownUptoCard : Claim7 := { stood := { row := verifyKnownUptoRow, standIns := [], harness := (true, "a857207e499d432987d269b9ec70619e0beed775445cc19a00d83684adf2354a"), looks := false }, kinds := [], alts := [], laidByText := true, laidKinds := [.listed, .data, .data], laidTests := true, laidLooks := .later }
def VerifyKnownUptoCardSaid : Prop := Claim7.holds Tryz.pinned (.plain (OpenSpec.upto verifyKnownSpec)) verifyKnownUptoCard

/-- THE SECOND FORM's CARD OF 'stagehandlaw18.VerifyLoads'. -/
def verifyLoadsUptoCard : Claim7 := { stood := { row := verifyLoadsUptoRow, standIns := [], harness := (true, "a857207e499d432987d269b9ec70619e0beed775445cc19a00d83684adf2354a"), looks := false }, kinds := [], alts := [], laidByText := true, laidKinds := [.listed, .data, .data], laidTests := true, laidLooks := .later }
def VerifyLoadsUptoCardSaid : Prop := Claim7.holds Tryz.pinned (.plain (OpenSpec.upto verifyLoadsSpec)) verifyLoadsUptoCard
end Rows
end Go.Proofs.YtepjanajflkakaaGreatDoor
