/-
  From the row's listed variables to the tables that the walks ask for; the witness' heap.
-/
import Derived.Test.YthmpobimmbmddaaGreatDoorRows
import Derived.Test.YthmpobimmbmddaaGreatDoorCClasses
import Derived.Lib.LaidU8
import Derived.Stop.LaidErr
namespace Go.Proofs.YthmpobimmbmddaaGreatDoor
open Go.RowKit
set_option linter.unusedVariables false

theorem spaceName : Tryz.prog.globalNamed "strings.asciiSpace" = some 0 := by kernel_rfl
theorem spaceType : (Tryz.prog.globals[0]?).map (·.type) = some 111 := by kernel_rfl
theorem spaceCells : Tryz.prog.cellsOf 5 = 1 := by kernel_rfl
theorem spacesCells : Tryz.prog.cellsOf 111 = 256 := by kernel_rfl
theorem space_datum : (Rows.laid_strings_asciiSpace : DataW Unit) = Lib.tabData .u8 Lib.asciiSpaceTab := by kernel_rfl
theorem space_at {W : World} {a : String × DataW Unit} {rest : List (String × DataW Unit)} (h : laidMet Tryz.prog (a :: ("strings.asciiSpace", Rows.laid_strings_asciiSpace) :: rest) W) : SpaceAt W := by
  rw [space_datum] at h
  exact Lib.tabIs_of_head spaceName spaceType Tryz.underlying111 Tryz.underlying5 spaceCells spacesCells h.tail

/-- A world for the witness: the listed tables hold what their initialisers lay. -/
noncomputable def laidWorld (os : Os) : World :=
  let N := (World.settled Tryz.prog os).heap.size
  let w0 := World.holding Tryz.prog os ⟨#[.cells (Lib.whiteT.map fun (z : Nat) => Value.int .u16 (z : Int)).toArray 177, .cells #[.slice (some ⟨N, 0, none⟩) 7 7, .slice none 0 0, .int .i64 2] 174], #[], []⟩
  let put (h : Array Obj) (g : Nat) (cs : Array Value) : Array Obj := h.modify g fun
    | .cells _ t frozen => .cells cs t frozen
    | o => o
  let h1 := put w0.heap 0 (Lib.asciiSpaceTab.map fun z => Value.int .u8 z).toArray
  let h2 := put h1 2 #[.pointer (some ⟨N + 1, 0, none⟩)]
  { w0 with heap := h2 }
end Go.Proofs.YthmpobimmbmddaaGreatDoor
