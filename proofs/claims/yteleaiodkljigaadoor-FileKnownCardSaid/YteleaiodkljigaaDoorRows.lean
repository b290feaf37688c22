/-
  NARROWER THAN 'FOR EVERY INPUT', by the rows' own cells (each row's printed sentence says how): FileSums: laid · FileBursts: laid · FilePuts: laid · FileGets: laid · FileBack: laid · FileFlips: laid · FileKnown: laid.
  DERIVED. THE GIVEN ROWS OF THIS SEAT. 7 by the template 'for every input the law returns true; each argument reads behind the call as it read before'; 0 by the template 'total and deterministic' (their statements: YteleaiodkljigaaDoorTotals.lean).
  GIVEN WITH THE SEED: the statements are not yours to turn. If you find one false, say at which input.
  Laid BY PROGRAM, IN A SANDBOX (cutbox-rows.mjs): the forced cells as the released guide's own fill.sh prints them over the translation 9f9c0c6c070c8812… (all of the seat's roots in one cut). By AI agents, Wed Nov 11 2026. No macro, syntax, notation, axiom, sorry.
-/
import Derived.Test.YteleaiodkljigaaDoorChecked
import GoSem.PinnedTables
import GoSem.Claim
import GoSem.ClaimJoined
import GoSem.ClaimMapViews
import Derived.JoinedTies
import Derived.KernelRfl
namespace Go.Proofs.YteleaiodkljigaaDoor
/- THE CELL 'sum', in the pinned program and in every row, IS THE sha256 OF THE DUMP (.gsa) THAT YteleaiodkljigaaDoorProg.lean LOADS. Nothing in Lean hashes anything: it is a label: what it is worth is what the hold of that sum in a sandbox is worth. -/
noncomputable def Tryd.pinned : Pinned := { name := "yteleaiodkljigaadoor", sum := "9f9c0c6c070c8812a282c57156a221a89f200cb0765e5522aecfcf2d1a5c20c9", checked := Tryd.checked }
namespace Rows
def none {H : Type} : Left H := { results := [], args := [] }

/- WHAT THE LISTED PACKAGE-LEVEL VARIABLES READ AS WHEN THE CALL BEGINS. Each datum BY PROGRAM (the guide's laid-datum.mjs) off the statement by which the dump's own 'gosem.cut.vars' lays the variable. In a bare row this is a premise. The card (YteleaiodkljigaaDoorCards.lean) ties it to the program's text. -/
def laid_unicode_utf8_acceptRanges {H : Type} : DataW H := .agg [.agg [.lit (.int .u8 128), .lit (.int .u8 191)], .agg [.lit (.int .u8 160), .lit (.int .u8 191)], .agg [.lit (.int .u8 128), .lit (.int .u8 159)], .agg [.lit (.int .u8 144), .lit (.int .u8 191)], .agg [.lit (.int .u8 128), .lit (.int .u8 143)], .agg [.lit (.int .u8 0), .lit (.int .u8 0)], .agg [.lit (.int .u8 0), .lit (.int .u8 0)], .agg [.lit (.int .u8 0), .lit (.int .u8 0)], .agg [.lit (.int .u8 0), .lit (.int .u8 0)], .agg [.lit (.int .u8 0), .lit (.int .u8 0)], .agg [.lit (.int .u8 0), .lit (.int .u8 0)], .agg [.lit (.int .u8 0), .lit (.int .u8 0)], .agg [.lit (.int .u8 0), .lit (.int .u8 0)], .agg [.lit (.int .u8 0), .lit (.int .u8 0)], .agg [.lit (.int .u8 0), .lit (.int .u8 0)], .agg [.lit (.int .u8 0), .lit (.int .u8 0)]]
/-- One of Go's own tables, pinned by name: the form's constant. -/
def laid_unicode_utf8_first : DataW Unit := Go.Pinned.utf8First

/-- 'stagehandlaw26.FileSums': WHATEVER THE INPUT: true; the input reads as it did. -/
def fileSumsSpec : ChangeSpec := { name := "fileSums", fn := fun _ => fun
  | [d] => { results := [.lit (.bool true)], args := [d] }
  | _ => none }
def fileSumsRow : OpenClaim := { program := "yteleaiodkljigaadoor", sum := "9f9c0c6c070c8812a282c57156a221a89f200cb0765e5522aecfcf2d1a5c20c9", func := "stagehand/stagehandlaw26.FileSums", spec := "fileSums", inPlace := ["internal/abi.NoEscape", "internal/bytealg.IndexByteString", "internal/bytealg.IndexString"], unfollowed := true, recurses := true, named := ["unicode/utf8.first", "unicode/utf8.acceptRanges", "internal/bytealg.MaxLen"], apart := false, laid := [("unicode/utf8.acceptRanges", laid_unicode_utf8_acceptRanges), ("unicode/utf8.first", laid_unicode_utf8_first)] }
def FileSumsSaid : Prop := fileSumsRow.holds Tryd.pinned (OpenSpec.ofChange fileSumsSpec)

/-- ITS FALSE NEIGHBOUR: 'it returns false'. Refute it at one input. -/
def fileSumsWrong : ChangeSpec := { name := "fileSums", fn := fun _ => fun
  | [d] => { results := [.lit (.bool false)], args := [d] }
  | _ => none }
def FileSumsWrongFalsely : Prop := fileSumsRow.holds Tryd.pinned (OpenSpec.ofChange fileSumsWrong)

/-- 'stagehandlaw26.FileBursts': WHATEVER THE INPUT: true; the input reads as it did. -/
def fileBurstsSpec : ChangeSpec := { name := "fileBursts", fn := fun _ => fun
  | [d1, d2, d3] => { results := [.lit (.bool true)], args := [d1, d2, d3] }
  | _ => none }
def fileBurstsRow : OpenClaim := { program := "yteleaiodkljigaadoor", sum := "9f9c0c6c070c8812a282c57156a221a89f200cb0765e5522aecfcf2d1a5c20c9", func := "stagehand/stagehandlaw26.FileBursts", spec := "fileBursts", inPlace := ["internal/abi.NoEscape", "internal/bytealg.IndexByteString", "internal/bytealg.IndexString"], unfollowed := true, recurses := true, named := ["unicode/utf8.first", "unicode/utf8.acceptRanges", "internal/bytealg.MaxLen"], apart := false, laid := [("unicode/utf8.acceptRanges", laid_unicode_utf8_acceptRanges), ("unicode/utf8.first", laid_unicode_utf8_first)] }
def FileBurstsSaid : Prop := fileBurstsRow.holds Tryd.pinned (OpenSpec.ofChange fileBurstsSpec)

/-- ITS FALSE NEIGHBOUR: 'it returns false'. Refute it at one input. -/
def fileBurstsWrong : ChangeSpec := { name := "fileBursts", fn := fun _ => fun
  | [d1, d2, d3] => { results := [.lit (.bool false)], args := [d1, d2, d3] }
  | _ => none }
def FileBurstsWrongFalsely : Prop := fileBurstsRow.holds Tryd.pinned (OpenSpec.ofChange fileBurstsWrong)

/-- 'stagehandlaw26.FilePuts': WHATEVER THE INPUT: true; the input reads as it did. -/
def filePutsSpec : ChangeSpec := { name := "filePuts", fn := fun _ => fun
  | [d] => { results := [.lit (.bool true)], args := [d] }
  | _ => none }
def filePutsRow : OpenClaim := { program := "yteleaiodkljigaadoor", sum := "9f9c0c6c070c8812a282c57156a221a89f200cb0765e5522aecfcf2d1a5c20c9", func := "stagehand/stagehandlaw26.FilePuts", spec := "filePuts", inPlace := ["internal/abi.NoEscape", "internal/bytealg.IndexByteString", "internal/bytealg.IndexString"], unfollowed := true, recurses := true, named := ["unicode/utf8.first", "unicode/utf8.acceptRanges", "internal/bytealg.MaxLen"], apart := false, laid := [("unicode/utf8.acceptRanges", laid_unicode_utf8_acceptRanges), ("unicode/utf8.first", laid_unicode_utf8_first)] }
def FilePutsSaid : Prop := filePutsRow.holds Tryd.pinned (OpenSpec.ofChange filePutsSpec)

/-- ITS FALSE NEIGHBOUR: 'it returns false'. Refute it at one input. -/
def filePutsWrong : ChangeSpec := { name := "filePuts", fn := fun _ => fun
  | [d] => { results := [.lit (.bool false)], args := [d] }
  | _ => none }
def FilePutsWrongFalsely : Prop := filePutsRow.holds Tryd.pinned (OpenSpec.ofChange filePutsWrong)

/-- 'stagehandlaw26.FileGets': WHATEVER THE INPUT: true; the input reads as it did. -/
def fileGetsSpec : ChangeSpec := { name := "fileGets", fn := fun _ => fun
  | [d] => { results := [.lit (.bool true)], args := [d] }
  | _ => none }
def fileGetsRow : OpenClaim := { program := "yteleaiodkljigaadoor", sum := "9f9c0c6c070c8812a282c57156a221a89f200cb0765e5522aecfcf2d1a5c20c9", func := "stagehand/stagehandlaw26.FileGets", spec := "fileGets", inPlace := ["internal/abi.NoEscape", "internal/bytealg.IndexByteString", "internal/bytealg.IndexString"], unfollowed := true, recurses := true, named := ["unicode/utf8.first", "unicode/utf8.acceptRanges", "internal/bytealg.MaxLen"], apart := false, laid := [("unicode/utf8.acceptRanges", laid_unicode_utf8_acceptRanges), ("unicode/utf8.first", laid_unicode_utf8_first)] }
def FileGetsSaid : Prop := fileGetsRow.holds Tryd.pinned (OpenSpec.ofChange fileGetsSpec)

/-- ITS FALSE NEIGHBOUR: 'it returns false'. Refute it at one input. -/
def fileGetsWrong : ChangeSpec := { name := "fileGets", fn := fun _ => fun
  | [d] => { results := [.lit (.bool false)], args := [d] }
  | _ => none }
def FileGetsWrongFalsely : Prop := fileGetsRow.holds Tryd.pinned (OpenSpec.ofChange fileGetsWrong)

/-- 'stagehandlaw26.FileBack': WHATEVER THE INPUT: true; the input reads as it did. -/
def fileBackSpec : ChangeSpec := { name := "fileBack", fn := fun _ => fun
  | [d1, d2] => { results := [.lit (.bool true)], args := [d1, d2] }
  | _ => none }
def fileBackRow : OpenClaim := { program := "yteleaiodkljigaadoor", sum := "9f9c0c6c070c8812a282c57156a221a89f200cb0765e5522aecfcf2d1a5c20c9", func := "stagehand/stagehandlaw26.FileBack", spec := "fileBack", inPlace := ["internal/abi.NoEscape", "internal/bytealg.IndexByteString", "internal/bytealg.IndexString"], unfollowed := true, recurses := true, named := ["unicode/utf8.first", "unicode/utf8.acceptRanges", "internal/bytealg.MaxLen"], apart := false, laid := [("unicode/utf8.acceptRanges", laid_unicode_utf8_acceptRanges), ("unicode/utf8.first", laid_unicode_utf8_first)] }
def FileBackSaid : Prop := fileBackRow.holds Tryd.pinned (OpenSpec.ofChange fileBackSpec)

/-- ITS FALSE NEIGHBOUR: 'it returns false'. Refute it at one input. -/
def fileBackWrong : ChangeSpec := { name := "fileBack", fn := fun _ => fun
  | [d1, d2] => { results := [.lit (.bool false)], args := [d1, d2] }
  | _ => none }
def FileBackWrongFalsely : Prop := fileBackRow.holds Tryd.pinned (OpenSpec.ofChange fileBackWrong)

/-- 'stagehandlaw26.FileFlips': WHATEVER THE INPUT: true; the input reads as it did. -/
def fileFlipsSpec : ChangeSpec := { name := "fileFlips", fn := fun _ => fun
  | [d1, d2, d3] => { results := [.lit (.bool true)], args := [d1, d2, d3] }
  | _ => none }
def fileFlipsRow : OpenClaim := { program := "yteleaiodkljigaadoor", sum := "9f9c0c6c070c8812a282c57156a221a89f200cb0765e5522aecfcf2d1a5c20c9", func := "stagehand/stagehandlaw26.FileFlips", spec := "fileFlips", inPlace := ["internal/abi.NoEscape", "internal/bytealg.IndexByteString", "internal/bytealg.IndexString"], unfollowed := true, recurses := true, named := ["unicode/utf8.first", "unicode/utf8.acceptRanges", "internal/bytealg.MaxLen"], apart := false, laid := [("unicode/utf8.acceptRanges", laid_unicode_utf8_acceptRanges), ("unicode/utf8.first", laid_unicode_utf8_first)] }
def FileFlipsSaid : Prop := fileFlipsRow.holds Tryd.pinned (OpenSpec.ofChange fileFlipsSpec)

/-- ITS FALSE NEIGHBOUR: 'it returns false'. Refute it at one input. -/
def fileFlipsWrong : ChangeSpec := { name := "fileFlips", fn := fun _ => fun
  | [d1, d2, d3] => { results := [.lit (.bool false)], args := [d1, d2, d3] }
  | _ => none }
def FileFlipsWrongFalsely : Prop := fileFlipsRow.holds Tryd.pinned (OpenSpec.ofChange fileFlipsWrong)

/-- 'stagehandlaw26.FileKnown': WHATEVER THE INPUT: true; the input reads as it did. -/
def fileKnownSpec : ChangeSpec := { name := "fileKnown", fn := fun _ => fun
  | [] => { results := [.lit (.bool true)], args := [] }
  | _ => none }
def fileKnownRow : OpenClaim := { program := "yteleaiodkljigaadoor", sum := "9f9c0c6c070c8812a282c57156a221a89f200cb0765e5522aecfcf2d1a5c20c9", func := "stagehand/stagehandlaw26.FileKnown", spec := "fileKnown", inPlace := ["internal/abi.NoEscape", "internal/bytealg.IndexByteString", "internal/bytealg.IndexString"], unfollowed := true, recurses := true, named := ["unicode/utf8.first", "unicode/utf8.acceptRanges", "internal/bytealg.MaxLen"], apart := false, laid := [("unicode/utf8.acceptRanges", laid_unicode_utf8_acceptRanges), ("unicode/utf8.first", laid_unicode_utf8_first)] }
def FileKnownSaid : Prop := fileKnownRow.holds Tryd.pinned (OpenSpec.ofChange fileKnownSpec)

/-- ITS FALSE NEIGHBOUR: 'it returns false'. Refute it at one input. -/
def fileKnownWrong : ChangeSpec := { name := "fileKnown", fn := fun _ => fun
  | [] => { results := [.lit (.bool false)], args := [] }
  | _ => none }
def FileKnownWrongFalsely : Prop := fileKnownRow.holds Tryd.pinned (OpenSpec.ofChange fileKnownWrong)

/- THE SECOND FORM. 'bulk': how many values and letters a reading holds, each counted each time it is reached (what is shared counts as often as it is met; a slice's spare places count too). A statement '..UptoSaid' is the law's where the arguments, and the package variables that the reading takes, are together of bulk at most 1048576: NARROWER than '..Said'. Prove '..Said' where nothing that the law and all that it calls make is longer than what came in: it says more and counts as full. Else prove '..UptoSaid'. A law counts once. -/
mutual
def uptoBulk {H : Type} : DataW H → Nat
  | .lit (.string bytes) => bytes.length + 1
  | .lit _ => 1
  | .nil => 1
  | .ptr d => uptoBulk d + 1
  | .slice elems spare => uptoBulkAll elems + uptoBulkAll spare + 1
  | .agg parts => uptoBulkAll parts + 1
  | .iface _ d => uptoBulk d + 1
  | .map entries => uptoBulkEntries entries + 1
  | .held _ => 1
def uptoBulkAll {H : Type} : List (DataW H) → Nat
  | [] => 0
  | d :: r => uptoBulk d + uptoBulkAll r
def uptoBulkEntries {H : Type} : List (Lit × DataW H) → Nat
  | [] => 0
  | x :: r => uptoBulkEntry x + uptoBulkEntries r
def uptoBulkEntry {H : Type} : Lit × DataW H → Nat
  | (.string bytes, d) => bytes.length + uptoBulk d + 1
  | (_, d) => uptoBulk d + 1
 end
def uptoSmall : (H : Type) → List (DataW H) → Bool := fun _ ds => decide (uptoBulkAll ds ≤ 1048576)
def OpenSpec.upto (s : _root_.Go.ChangeSpec) : _root_.Go.OpenSpec := { _root_.Go.OpenSpec.ofChange s with cond := some uptoSmall }

/-- 'stagehandlaw26.FileSums', WHERE WHAT IT READS IS OF BULK AT MOST 1048576: true; the input reads as it did. -/
def fileSumsUptoRow : OpenClaim := { program := "yteleaiodkljigaadoor", sum := "9f9c0c6c070c8812a282c57156a221a89f200cb0765e5522aecfcf2d1a5c20c9", func := "stagehand/stagehandlaw26.FileSums", spec := "fileSums", inPlace := ["internal/abi.NoEscape", "internal/bytealg.IndexByteString", "internal/bytealg.IndexString"], unfollowed := true, recurses := true, named := ["unicode/utf8.first", "unicode/utf8.acceptRanges", "internal/bytealg.MaxLen"], apart := false, laid := [("unicode/utf8.acceptRanges", laid_unicode_utf8_acceptRanges), ("unicode/utf8.first", laid_unicode_utf8_first)], narrowed := true }
def FileSumsUptoSaid : Prop := fileSumsUptoRow.holds Tryd.pinned (OpenSpec.upto fileSumsSpec)

/-- 'stagehandlaw26.FileBursts', WHERE WHAT IT READS IS OF BULK AT MOST 1048576: true; the input reads as it did. -/
def fileBurstsUptoRow : OpenClaim := { program := "yteleaiodkljigaadoor", sum := "9f9c0c6c070c8812a282c57156a221a89f200cb0765e5522aecfcf2d1a5c20c9", func := "stagehand/stagehandlaw26.FileBursts", spec := "fileBursts", inPlace := ["internal/abi.NoEscape", "internal/bytealg.IndexByteString", "internal/bytealg.IndexString"], unfollowed := true, recurses := true, named := ["unicode/utf8.first", "unicode/utf8.acceptRanges", "internal/bytealg.MaxLen"], apart := false, laid := [("unicode/utf8.acceptRanges", laid_unicode_utf8_acceptRanges), ("unicode/utf8.first", laid_unicode_utf8_first)], narrowed := true }
def FileBurstsUptoSaid : Prop := fileBurstsUptoRow.holds Tryd.pinned (OpenSpec.upto fileBurstsSpec)

/-- 'stagehandlaw26.FilePuts', WHERE WHAT IT READS IS OF BULK AT MOST 1048576: true; the input reads as it did. -/
def filePutsUptoRow : OpenClaim := { program := "yteleaiodkljigaadoor", sum := "9f9c0c6c070c8812a282c57156a221a89f200cb0765e5522aecfcf2d1a5c20c9", func := "stagehand/stagehandlaw26.FilePuts", spec := "filePuts", inPlace := ["internal/abi.NoEscape", "internal/bytealg.IndexByteString", "internal/bytealg.IndexString"], unfollowed := true, recurses := true, named := ["unicode/utf8.first", "unicode/utf8.acceptRanges", "internal/bytealg.MaxLen"], apart := false, laid := [("unicode/utf8.acceptRanges", laid_unicode_utf8_acceptRanges), ("unicode/utf8.first", laid_unicode_utf8_first)], narrowed := true }
def FilePutsUptoSaid : Prop := filePutsUptoRow.holds Tryd.pinned (OpenSpec.upto filePutsSpec)

/-- 'stagehandlaw26.FileGets', WHERE WHAT IT READS IS OF BULK AT MOST 1048576: true; the input reads as it did. -/
def fileGetsUptoRow : OpenClaim := { program := "yteleaiodkljigaadoor", sum := "9f9c0c6c070c8812a282c57156a221a89f200cb0765e5522aecfcf2d1a5c20c9", func := "stagehand/stagehandlaw26.FileGets", spec := "fileGets", inPlace := ["internal/abi.NoEscape", "internal/bytealg.IndexByteString", "internal/bytealg.IndexString"], unfollowed := true, recurses := true, named := ["unicode/utf8.first", "unicode/utf8.acceptRanges", "internal/bytealg.MaxLen"], apart := false, laid := [("unicode/utf8.acceptRanges", laid_unicode_utf8_acceptRanges), ("unicode/utf8.first", laid_unicode_utf8_first)], narrowed := true }
def FileGetsUptoSaid : Prop := fileGetsUptoRow.holds Tryd.pinned (OpenSpec.upto fileGetsSpec)

/-- 'stagehandlaw26.FileBack', WHERE WHAT IT READS IS OF BULK AT MOST 1048576: true; the input reads as it did. -/
def fileBackUptoRow : OpenClaim := { program := "yteleaiodkljigaadoor", sum := "9f9c0c6c070c8812a282c57156a221a89f200cb0765e5522aecfcf2d1a5c20c9", func := "stagehand/stagehandlaw26.FileBack", spec := "fileBack", inPlace := ["internal/abi.NoEscape", "internal/bytealg.IndexByteString", "internal/bytealg.IndexString"], unfollowed := true, recurses := true, named := ["unicode/utf8.first", "unicode/utf8.acceptRanges", "internal/bytealg.MaxLen"], apart := false, laid := [("unicode/utf8.acceptRanges", laid_unicode_utf8_acceptRanges), ("unicode/utf8.first", laid_unicode_utf8_first)], narrowed := true }
def FileBackUptoSaid : Prop := fileBackUptoRow.holds Tryd.pinned (OpenSpec.upto fileBackSpec)

/-- 'stagehandlaw26.FileFlips', WHERE WHAT IT READS IS OF BULK AT MOST 1048576: true; the input reads as it did. -/
def fileFlipsUptoRow : OpenClaim := { program := "yteleaiodkljigaadoor", sum := "9f9c0c6c070c8812a282c57156a221a89f200cb0765e5522aecfcf2d1a5c20c9", func := "stagehand/stagehandlaw26.FileFlips", spec := "fileFlips", inPlace := ["internal/abi.NoEscape", "internal/bytealg.IndexByteString", "internal/bytealg.IndexString"], unfollowed := true, recurses := true, named := ["unicode/utf8.first", "unicode/utf8.acceptRanges", "internal/bytealg.MaxLen"], apart := false, laid := [("unicode/utf8.acceptRanges", laid_unicode_utf8_acceptRanges), ("unicode/utf8.first", laid_unicode_utf8_first)], narrowed := true }
def FileFlipsUptoSaid : Prop := fileFlipsUptoRow.holds Tryd.pinned (OpenSpec.upto fileFlipsSpec)

/-- 'stagehandlaw26.FileKnown', WHERE WHAT IT READS IS OF BULK AT MOST 1048576: true; the input reads as it did. -/
def fileKnownUptoRow : OpenClaim := { program := "yteleaiodkljigaadoor", sum := "9f9c0c6c070c8812a282c57156a221a89f200cb0765e5522aecfcf2d1a5c20c9", func := "stagehand/stagehandlaw26.FileKnown", spec := "fileKnown", inPlace := ["internal/abi.NoEscape", "internal/bytealg.IndexByteString", "internal/bytealg.IndexString"], unfollowed := true, recurses := true, named := ["unicode/utf8.first", "unicode/utf8.acceptRanges", "internal/bytealg.MaxLen"], apart := false, laid := [("unicode/utf8.acceptRanges", laid_unicode_utf8_acceptRanges), ("unicode/utf8.first", laid_unicode_utf8_first)], narrowed := true }
def FileKnownUptoSaid : Prop := fileKnownUptoRow.holds Tryd.pinned (OpenSpec.upto fileKnownSpec)

end Rows
end Go.Proofs.YteleaiodkljigaaDoor
