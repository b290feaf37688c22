/-
  DERIVED. GIVEN WITH THE SEED: THE CARDS: each row of YtlaabicdhkebbaaGreatDoorRows.lean that lists a variable, with what it lists TIED to the program's text (the seventh form; the later family's looks); each row that meets fmt, with fmt's text TOLD by the authors' own Lean function (tested against real Go, not proved from fmt's source: count such statements apart). THE CARD IS WHAT COUNTS. Prove the row's statement (the work); the ties are given (YtlaabicdhkebbaaGreatDoorTie.lean); close each card by the builder's one call (the guide's Derived/Test/ToyasCard.lean, 'card_holds'). Laid BY PROGRAM, IN A SANDBOX (cutbox-door.mjs). By AI agents, Wed Nov 11 2026. No macro, syntax, notation, axiom, sorry.
-/
import Derived.Test.YtlaabicdhkebbaaGreatDoorRows
import GoSem.ClaimSeven
namespace Go.Proofs.YtlaabicdhkebbaaGreatDoor
namespace Rows

/-- THE TIED CARD OF 'stagehandlaw16.CodeGets'. -/
def codeGetsCard : Claim7 := { stood := { row := codeGetsRow, standIns := [], harness := (true, "47b3ef6c4349a00798ca1c21a27814c2b52bc64c603c5e432ba96ba734924615"), looks := true }, kinds := [], alts := [], laidByText := true, laidKinds := [.listed, .data, .data], laidTests := true, laidLooks := .later }
def CodeGetsCardSaid : Prop := Claim7.holds Tryz.pinned (.plain (OpenSpec.ofChange codeGetsSpec)) codeGetsCard

/-- THE SECOND FORM's CARD OF 'stagehandlaw16.CodeGets'. -/
def codeGetsUptoCard : Claim7 := { stood := { row := codeGetsUptoRow, standIns := [], harness := (true, "47b3ef6c4349a00798ca1c21a27814c2b52bc64c603c5e432ba96ba734924615"), looks := true }, kinds := [], alts := [], laidByText := true, laidKinds := [.listed, .data, .data], laidTests := true, laidLooks := .later }
def CodeGetsUptoCardSaid : Prop := Claim7.holds Tryz.pinned (.plain (OpenSpec.upto codeGetsSpec)) codeGetsUptoCard
end Rows
end Go.Proofs.YtlaabicdhkebbaaGreatDoor
