/-
  DERIVED. GIVEN WITH THE SEED: THE CARDS: each row of YthmpobimmbmddaaGreatDoorRows.lean that lists a variable, with what it lists TIED to the program's text (the seventh form; the later family's looks); each row that meets fmt, with fmt's text TOLD by the authors' own Lean function (tested against real Go, not proved from fmt's source: count such statements apart). THE CARD IS WHAT COUNTS. Prove the row's statement (the work); the ties are given (YthmpobimmbmddaaGreatDoorTie.lean); close each card by the builder's one call (the guide's Derived/Test/ToyasCard.lean, 'card_holds'). Laid BY PROGRAM, IN A SANDBOX (cutbox-door.mjs). By AI agents, Wed Nov 11 2026. No macro, syntax, notation, axiom, sorry.
-/
import Derived.Test.YthmpobimmbmddaaGreatDoorRows
import GoSem.ClaimSeven
namespace Go.Proofs.YthmpobimmbmddaaGreatDoor
namespace Rows

/-- THE TIED CARD OF 'stagehandlaw08.PureClasses'. -/
def pureClassesCard : Claim7 := { stood := { row := pureClassesRow, standIns := [], harness := (true, "296a079edf21cdb655aed86b0f1088a83d9ddefd28cff326b1998362b2c2a8c8"), looks := true }, kinds := [], alts := [], laidByText := true, laidKinds := [.listed, .data], laidTests := true, laidLooks := .later }
def PureClassesCardSaid : Prop := Claim7.holds Tryz.pinned (.plain (OpenSpec.ofChange pureClassesSpec)) pureClassesCard

/-- THE TIED CARD OF 'stagehandlaw08.PureBuilds'. -/
def pureBuildsCard : Claim7 := { stood := { row := pureBuildsRow, standIns := [], harness := (true, "296a079edf21cdb655aed86b0f1088a83d9ddefd28cff326b1998362b2c2a8c8"), looks := true }, kinds := [], alts := [], laidByText := true, laidKinds := [.listed, .data], laidTests := true, laidLooks := .later }
def PureBuildsCardSaid : Prop := Claim7.holds Tryz.pinned (.plain (OpenSpec.ofChange pureBuildsSpec)) pureBuildsCard

/-- THE TIED CARD OF 'stagehandlaw08.PureFields'. -/
def pureFieldsCard : Claim7 := { stood := { row := pureFieldsRow, standIns := [], harness := (true, "296a079edf21cdb655aed86b0f1088a83d9ddefd28cff326b1998362b2c2a8c8"), looks := true }, kinds := [], alts := [], laidByText := true, laidKinds := [.listed, .data], laidTests := true, laidLooks := .later }
def PureFieldsCardSaid : Prop := Claim7.holds Tryz.pinned (.plain (OpenSpec.ofChange pureFieldsSpec)) pureFieldsCard

/-- THE SECOND FORM's CARD OF 'stagehandlaw08.PureClasses'. -/
def pureClassesUptoCard : Claim7 := { stood := { row := pureClassesUptoRow, standIns := [], harness := (true, "296a079edf21cdb655aed86b0f1088a83d9ddefd28cff326b1998362b2c2a8c8"), looks := true }, kinds := [], alts := [], laidByText := true, laidKinds := [.listed, .data], laidTests := true, laidLooks := .later }
def PureClassesUptoCardSaid : Prop := Claim7.holds Tryz.pinned (.plain (OpenSpec.upto pureClassesSpec)) pureClassesUptoCard

/-- THE SECOND FORM's CARD OF 'stagehandlaw08.PureBuilds'. -/
def pureBuildsUptoCard : Claim7 := { stood := { row := pureBuildsUptoRow, standIns := [], harness := (true, "296a079edf21cdb655aed86b0f1088a83d9ddefd28cff326b1998362b2c2a8c8"), looks := true }, kinds := [], alts := [], laidByText := true, laidKinds := [.listed, .data], laidTests := true, laidLooks := .later }
def PureBuildsUptoCardSaid : Prop := Claim7.holds Tryz.pinned (.plain (OpenSpec.upto pureBuildsSpec)) pureBuildsUptoCard

/-- THE SECOND FORM's CARD OF 'stagehandlaw08.PureFields'. -/
def pureFieldsUptoCard : Claim7 := { stood := { row := pureFieldsUptoRow, standIns := [], harness := (true, "296a079edf21cdb655aed86b0f1088a83d9ddefd28cff326b1998362b2c2a8c8"), looks := true }, kinds := [], alts := [], laidByText := true, laidKinds := [.listed, .data], laidTests := true, laidLooks := .later }
def PureFieldsUptoCardSaid : Prop := Claim7.holds Tryz.pinned (.plain (OpenSpec.upto pureFieldsSpec)) pureFieldsUptoCard
end Rows
end Go.Proofs.YthmpobimmbmddaaGreatDoor
