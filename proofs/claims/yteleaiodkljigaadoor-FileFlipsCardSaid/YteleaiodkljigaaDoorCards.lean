/-
  DERIVED. GIVEN WITH THE SEED: THE CARDS: each row of YteleaiodkljigaaDoorRows.lean that lists a variable, with what it lists TIED to the program's text (the seventh form; the later family's looks); each row that meets fmt, with fmt's text TOLD by the authors' own Lean function (tested against real Go, not proved from fmt's source: count such statements apart). THE CARD IS WHAT COUNTS. Prove the row's statement (the work); the ties are given (YteleaiodkljigaaDoorTie.lean); close each card by the builder's one call (the guide's Derived/Test/ToyasCard.lean, 'card_holds'). Laid BY PROGRAM, IN A SANDBOX (cutbox-door.mjs). By AI agents, Wed Nov 11 2026. No macro, syntax, notation, axiom, sorry.
-/
import Derived.Test.YteleaiodkljigaaDoorRows
import GoSem.ClaimSeven
namespace Go.Proofs.YteleaiodkljigaaDoor
namespace Rows

/-- THE TIED CARD OF 'stagehandlaw26.FileSums'. -/
def fileSumsCard : Claim7 := { stood := { row := fileSumsRow, standIns := [], harness := (true, "5f523589a7ec34c6b13dc65adbd4c7f97099e5fd1ec202125f342832311be895"), looks := false }, kinds := [], alts := [], laidByText := true, laidKinds := [.data, .pinned], laidTests := true, laidLooks := .later }
def FileSumsCardSaid : Prop := Claim7.holds Tryd.pinned (.plain (OpenSpec.ofChange fileSumsSpec)) fileSumsCard

/-- THE TIED CARD OF 'stagehandlaw26.FileBursts'. -/
def fileBurstsCard : Claim7 := { stood := { row := fileBurstsRow, standIns := [], harness := (true, "5f523589a7ec34c6b13dc65adbd4c7f97099e5fd1ec202125f342832311be895"), looks := false }, kinds := [], alts := [], laidByText := true, laidKinds := [.data, .pinned], laidTests := true, laidLooks := .later }
def FileBurstsCardSaid : Prop := Claim7.holds Tryd.pinned (.plain (OpenSpec.ofChange fileBurstsSpec)) fileBurstsCard

/-- THE TIED CARD OF 'stagehandlaw26.FilePuts'. -/
def filePutsCard : Claim7 := { stood := { row := filePutsRow, standIns := [], harness := (true, "5f523589a7ec34c6b13dc65adbd4c7f97099e5fd1ec202125f342832311be895"), looks := false }, kinds := [], alts := [], laidByText := true, laidKinds := [.data, .pinned], laidTests := true, laidLooks := .later }
def FilePutsCardSaid : Prop := Claim7.holds Tryd.pinned (.plain (OpenSpec.ofChange filePutsSpec)) filePutsCard

/-- THE TIED CARD OF 'stagehandlaw26.FileGets'. -/
def fileGetsCard : Claim7 := { stood := { row := fileGetsRow, standIns := [], harness := (true, "5f523589a7ec34c6b13dc65adbd4c7f97099e5fd1ec202125f342832311be895"), looks := false }, kinds := [], alts := [], laidByText := true, laidKinds := [.data, .pinned], laidTests := true, laidLooks := .later }
def FileGetsCardSaid : Prop := Claim7.holds Tryd.pinned (.plain (OpenSpec.ofChange fileGetsSpec)) fileGetsCard

/-- THE TIED CARD OF 'stagehandlaw26.FileBack'. -/
def fileBackCard : Claim7 := { stood := { row := fileBackRow, standIns := [], harness := (true, "5f523589a7ec34c6b13dc65adbd4c7f97099e5fd1ec202125f342832311be895"), looks := false }, kinds := [], alts := [], laidByText := true, laidKinds := [.data, .pinned], laidTests := true, laidLooks := .later }
def FileBackCardSaid : Prop := Claim7.holds Tryd.pinned (.plain (OpenSpec.ofChange fileBackSpec)) fileBackCard

/-- THE TIED CARD OF 'stagehandlaw26.FileFlips'. -/
def fileFlipsCard : Claim7 := { stood := { row := fileFlipsRow, standIns := [], harness := (true, "5f523589a7ec34c6b13dc65adbd4c7f97099e5fd1ec202125f342832311be895"), looks := false }, kinds := [], alts := [], laidByText := true, laidKinds := [.data, .pinned], laidTests := true, laidLooks := .later }
def FileFlipsCardSaid : Prop := Claim7.holds Tryd.pinned (.plain (OpenSpec.ofChange fileFlipsSpec)) fileFlipsCard

/-- THE TIED CARD OF 'stagehandlaw26.FileKnown'. -/
def fileKnownCard : Claim7 := { stood := { row := fileKnownRow, standIns := [], harness := (true, "5f523589a7ec34c6b13dc65adbd4c7f97099e5fd1ec202125f342832311be895"), looks := false }, kinds := [], alts := [], laidByText := true, laidKinds := [.data, .pinned], laidTests := true, laidLooks := .later }
def FileKnownCardSaid : Prop := Claim7.holds Tryd.pinned (.plain (OpenSpec.ofChange fileKnownSpec)) fileKnownCard

/-- THE SECOND FORM's CARD OF 'stagehandlaw26.FileSums'. -/
def fileSumsUptoCard : Claim7 := { stood := { row := fileSumsUptoRow, standIns := [], harness := (true, "5f523589a7ec34c6b13dc65adbd4c7f97099e5fd1ec202125f342832311be895"), looks := false }, kinds := [], alts := [], laidByText := true, laidKinds := [.data, .pinned], laidTests := true, laidLooks := .later }
def FileSumsUptoCardSaid : Prop := Claim7.holds Tryd.pinned (.plain (OpenSpec.upto fileSumsSpec)) fileSumsUptoCard

/-- THE SECOND FORM's CARD OF 'stagehandlaw26.FileBursts'. -/
def fileBurstsUptoCard : Claim7 := { stood := { row := fileBurstsUptoRow, standIns := [], harness := (true, "5f523589a7ec34c6b13dc65adbd4c7f97099e5fd1ec202125f342832311be895"), looks := false }, kinds := [], alts := [], laidByText := true, laidKinds := [.data, .pinned], laidTests := true, laidLooks := .later }
def FileBurstsUptoCardSaid : Prop := Claim7.holds Tryd.pinned (.plain (OpenSpec.upto fileBurstsSpec)) fileBurstsUptoCard

/-- THE SECOND FORM's CARD OF 'stagehandlaw26.FilePuts'. -/
def filePutsUptoCard : Claim7 := { stood := { row := filePutsUptoRow, standIns := [], harness := (true, "5f523589a7ec34c6b13dc65adbd4c7f97099e5fd1ec202125f342832311be895"), looks := false }, kinds := [], alts := [], laidByText := true, laidKinds := [.data, .pinned], laidTests := true, laidLooks := .later }
def FilePutsUptoCardSaid : Prop := Claim7.holds Tryd.pinned (.plain (OpenSpec.upto filePutsSpec)) filePutsUptoCard

/-- THE SECOND FORM's CARD OF 'stagehandlaw26.FileGets'. -/
def fileGetsUptoCard : Claim7 := { stood := { row := fileGetsUptoRow, standIns := [], harness := (true, "5f523589a7ec34c6b13dc65adbd4c7f97099e5fd1ec202125f342832311be895"), looks := false }, kinds := [], alts := [], laidByText := true, laidKinds := [.data, .pinned], laidTests := true, laidLooks := .later }
def FileGetsUptoCardSaid : Prop := Claim7.holds Tryd.pinned (.plain (OpenSpec.upto fileGetsSpec)) fileGetsUptoCard

/-- THE SECOND FORM's CARD OF 'stagehandlaw26.FileBack'. -/
def fileBackUptoCard : Claim7 := { stood := { row := fileBackUptoRow, standIns := [], harness := (true, "5f523589a7ec34c6b13dc65adbd4c7f97099e5fd1ec202125f342832311be895"), looks := false }, kinds := [], alts := [], laidByText := true, laidKinds := [.data, .pinned], laidTests := true, laidLooks := .later }
def FileBackUptoCardSaid : Prop := Claim7.holds Tryd.pinned (.plain (OpenSpec.upto fileBackSpec)) fileBackUptoCard

/-- THE SECOND FORM's CARD OF 'stagehandlaw26.FileFlips'. -/
def fileFlipsUptoCard : Claim7 := { stood := { row := fileFlipsUptoRow, standIns := [], harness := (true, "5f523589a7ec34c6b13dc65adbd4c7f97099e5fd1ec202125f342832311be895"), looks := false }, kinds := [], alts := [], laidByText := true, laidKinds := [.data, .pinned], laidTests := true, laidLooks := .later }
def FileFlipsUptoCardSaid : Prop := Claim7.holds Tryd.pinned (.plain (OpenSpec.upto fileFlipsSpec)) fileFlipsUptoCard

/-- THE SECOND FORM's CARD OF 'stagehandlaw26.FileKnown'. -/
def fileKnownUptoCard : Claim7 := { stood := { row := fileKnownUptoRow, standIns := [], harness := (true, "5f523589a7ec34c6b13dc65adbd4c7f97099e5fd1ec202125f342832311be895"), looks := false }, kinds := [], alts := [], laidByText := true, laidKinds := [.data, .pinned], laidTests := true, laidLooks := .later }
def FileKnownUptoCardSaid : Prop := Claim7.holds Tryd.pinned (.plain (OpenSpec.upto fileKnownSpec)) fileKnownUptoCard
end Rows
end Go.Proofs.YteleaiodkljigaaDoor
