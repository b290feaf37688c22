/-
  From the row's listed variables to the tables that the walks ask for; the witness' heap.
-/
import Derived.Test.YtghgbikmlbildaaDoorRows
import Derived.Test.YtghgbikmlbildaaDoorCClasses
import Derived.Test.YtghgbikmlbildaaDoorCRow
import Derived.Lib.LaidU8
import Derived.Stop.LaidErr
namespace Go.Proofs.YtghgbikmlbildaaDoor
open Go.RowKit
set_option linter.unusedVariables false

theorem rows_datum : (Rows.laid_stagehand_code_rows : DataW Unit) = .agg (rowT.map fun r => .agg ([r.1, r.2.1, r.2.2].map fun z => .lit (.int .i64 z))) := rfl
theorem rowsName : Tryd.prog.globalNamed "stagehand/code.rows" = some 0 := by kernel_rfl
theorem rowsType : (Tryd.prog.globals[0]?).map (·.type) = some 84 := by kernel_rfl
theorem rowCells : Tryd.prog.cellsOf 54 = 3 := by kernel_rfl
theorem rowInt : Tryd.prog.cellsOf 3 = 1 := by kernel_rfl
theorem rows_of_reads {W : World} (h : Lib.VarReads Tryd.prog W "stagehand/code.rows" Rows.laid_stagehand_code_rows) : RowsAt W := by
  obtain ⟨g, t, cs, fuel, p, hg, ht, hv, hd⟩ := h
  obtain rfl := Option.some.inj (rowsName.symm.trans hg)
  obtain rfl := Option.some.inj (rowsType.symm.trans ht)
  rw [rows_datum] at hd
  have hlt : 0 < W.heap.size := by
    unfold World.var? at hv
    rw [hg] at hv
    simp only [Option.bind_some] at hv
    split at hv
    · rename_i h; exact (Array.getElem?_eq_some_iff.1 h).1
    · cases hv
  refine ⟨hlt, fun k hk => ?_⟩
  obtain ⟨f', d, q, h1, h2⟩ := Lib.array_elem Tryd.underlying84 hd k hk
  rw [List.getElem?_map, List.getElem?_eq_getElem (by exact hk)] at h1
  obtain rfl := Option.some.inj h1
  have h3 := Lib.ints_of_struct Tryd.underlying54 (fun i f hf => by
    have hi := (Array.getElem?_eq_some_iff.1 hf).1
    have hi : i < 3 := hi
    rcases (show i = 0 ∨ i = 1 ∨ i = 2 by omega) with rfl | rfl | rfl
    all_goals
      obtain rfl := Option.some.inj hf
      exact ⟨Tryd.underlying3, rfl, rowInt⟩) rowCells h2
  rw [rowCells] at h3
  have hc : ∀ i, i < 3 → cs[k * 3 + i]? = ([(rowT[k]'hk).1, (rowT[k]'hk).2.1, (rowT[k]'hk).2.2].map fun z => Value.int .i64 z)[i]? := fun i hi => by
    have h4 : ((cs.toList.drop (k * 3)).take 3)[i]? = ([(rowT[k]'hk).1, (rowT[k]'hk).2.1, (rowT[k]'hk).2.2].map fun z => Value.int .i64 z)[i]? := congrArg (fun l => l[i]?) h3
    rw [List.getElem?_take_of_lt hi, List.getElem?_drop, Array.getElem?_toList] at h4
    exact h4
  have hcell := World.var?_cell hg hv
  exact ⟨(hcell (k * 3)).trans (hc 0 (by decide)), (hcell (k * 3 + 1)).trans (hc 1 (by decide)), (hcell (k * 3 + 2)).trans (hc 2 (by decide))⟩
theorem spaceName : Tryd.prog.globalNamed "strings.asciiSpace" = some 1 := by kernel_rfl
theorem spaceType : (Tryd.prog.globals[1]?).map (·.type) = some 130 := by kernel_rfl
theorem spaceCells : Tryd.prog.cellsOf 5 = 1 := by kernel_rfl
theorem spacesCells : Tryd.prog.cellsOf 130 = 256 := by kernel_rfl
theorem space_datum : (Rows.laid_strings_asciiSpace : DataW Unit) = Lib.tabData .u8 Lib.asciiSpaceTab := by kernel_rfl
theorem rows_at {W : World} {l : List (String × DataW Unit)} (h : laidMet Tryd.prog l W) (hm : ("stagehand/code.rows", Rows.laid_stagehand_code_rows) ∈ l) : RowsAt W := rows_of_reads (Lib.laidMet.reads h hm)
theorem space_at {W : World} {a : String × DataW Unit} {rest : List (String × DataW Unit)} (h : laidMet Tryd.prog (a :: ("strings.asciiSpace", Rows.laid_strings_asciiSpace) :: rest) W) : SpaceAt W := by
  rw [space_datum] at h
  exact Lib.tabIs_of_head spaceName spaceType Tryd.underlying130 Tryd.underlying5 spaceCells spacesCells h.tail

/-- A world for the witness: the listed tables hold what their initialisers lay. -/
noncomputable def laidWorld (os : Os) : World :=
  let N := (World.settled Tryd.prog os).heap.size
  let w0 := World.holding Tryd.prog os ⟨#[.cells (Lib.whiteT.map fun (z : Nat) => Value.int .u16 (z : Int)).toArray 163, .cells #[.slice (some ⟨N, 0, none⟩) 7 7, .slice none 0 0, .int .i64 2] 160], #[], []⟩
  let put (h : Array Obj) (g : Nat) (cs : Array Value) : Array Obj := h.modify g fun
    | .cells _ t frozen => .cells cs t frozen
    | o => o
  let h1 := put w0.heap 1 (Lib.asciiSpaceTab.map fun z => Value.int .u8 z).toArray
  let h2 := put h1 3 #[.pointer (some ⟨N + 1, 0, none⟩)]
  let h3 := put h2 0 (rowT.flatMap fun r => [Value.int .i64 r.1, Value.int .i64 r.2.1, Value.int .i64 r.2.2]).toArray
  { w0 with heap := h3 }
end Go.Proofs.YtghgbikmlbildaaDoor
