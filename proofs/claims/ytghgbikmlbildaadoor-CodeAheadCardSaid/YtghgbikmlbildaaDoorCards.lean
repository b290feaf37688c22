/-
  DERIVED. GIVEN WITH THE SEED: THE CARDS: each row of YtghgbikmlbildaaDoorRows.lean that lists a variable, with what it lists TIED to the program's text (the seventh form; the later family's looks); each row that meets fmt, with fmt's text TOLD by the authors' own Lean function (tested against real Go, not proved from fmt's source: count such statements apart). THE CARD IS WHAT COUNTS. Prove the row's statement (the work); the ties are given (YtghgbikmlbildaaDoorTie.lean); close each card by the builder's one call (the guide's Derived/Test/ToyasCard.lean, 'card_holds'). Laid BY PROGRAM, IN A SANDBOX (cutbox-door.mjs). By AI agents, Wed Nov 11 2026. No macro, syntax, notation, axiom, sorry.
-/
import Derived.Test.YtghgbikmlbildaaDoorRows
import GoSem.ClaimSeven
namespace Go.Proofs.YtghgbikmlbildaaDoor
namespace Rows

/-- THE TIED CARD OF 'stagehandlaw16.CodeAhead'. -/
def codeAheadCard : Claim7 := { stood := { row := codeAheadRow, standIns := [], harness := (true, "e516f0cfad02e71b4d5a56a592c2c971c547ce35e0fa2be9355ba63da836ffa8"), looks := false }, kinds := [], alts := [], laidByText := true, laidKinds := [.listed, .data, .data], laidTests := true, laidLooks := .later }
def CodeAheadCardSaid : Prop := Claim7.holds Tryd.pinned (.plain (OpenSpec.ofChange codeAheadSpec)) codeAheadCard

/-- THE TIED CARD OF 'stagehandlaw16.CodeFinds'. -/
def codeFindsCard : Claim7 := { stood := { row := codeFindsRow, standIns := [], harness := (true, "e516f0cfad02e71b4d5a56a592c2c971c547ce35e0fa2be9355ba63da836ffa8"), looks := false }, kinds := [], alts := [], laidByText := true, laidKinds := [.listed, .data, .data], laidTests := true, laidLooks := .later }
def CodeFindsCardSaid : Prop := Claim7.holds Tryd.pinned (.plain (OpenSpec.ofChange codeFindsSpec)) codeFindsCard

/-- THE SECOND FORM's CARD OF 'stagehandlaw16.CodeAhead'. -/
def codeAheadUptoCard : Claim7 := { stood := { row := codeAheadUptoRow, standIns := [], harness := (true, "e516f0cfad02e71b4d5a56a592c2c971c547ce35e0fa2be9355ba63da836ffa8"), looks := false }, kinds := [], alts := [], laidByText := true, laidKinds := [.listed, .data, .data], laidTests := true, laidLooks := .later }
def CodeAheadUptoCardSaid : Prop := Claim7.holds Tryd.pinned (.plain (OpenSpec.upto codeAheadSpec)) codeAheadUptoCard

/-- THE SECOND FORM's CARD OF 'stagehandlaw16.CodeFinds'. -/
def codeFindsUptoCard : Claim7 := { stood := { row := codeFindsUptoRow, standIns := [], harness := (true, "e516f0cfad02e71b4d5a56a592c2c971c547ce35e0fa2be9355ba63da836ffa8"), looks := false }, kinds := [], alts := [], laidByText := true, laidKinds := [.listed, .data, .data], laidTests := true, laidLooks := .later }
def CodeFindsUptoCardSaid : Prop := Claim7.holds Tryd.pinned (.plain (OpenSpec.upto codeFindsSpec)) codeFindsUptoCard
end Rows
end Go.Proofs.YtghgbikmlbildaaDoor
