/-
  Small things that the walks share.
-/
import Derived.Test.YthmpobimmbmddaaGreatDoorCWalk1
import Derived.Laws.ResultCell
import Derived.Laws.Rows
import Derived.Deep.RegionHeld3
namespace Go.Proofs.YthmpobimmbmddaaGreatDoor
open Go.RowKit
set_option linter.unusedVariables false

theorem ret_ib {k : IntKind} {a b : Int} {c d : Bool} (h : a = b) (h' : c = d) : Ending.returned (.tuple #[.int k a, .bool c]) = .returned (.tuple #[.int k b, .bool d]) := by rw [h, h']
theorem lt_of_row {w : World} {C : Nat} {o : Obj} (h : w.heap[C]? = some o) : C < w.heap.size := (Array.getElem?_eq_some_iff.1 h).1
def wi (n a b : Int) : Bool := decide (a ≤ n) && decide (n ≤ b)
theorem wi_yes {n a b : Int} (h : a ≤ n) (h' : n ≤ b) : wi n a b = true := by unfold wi; rw [decide_eq_true h, decide_eq_true h']; rfl
theorem wi_no {n a b : Int} (h : ¬ (a ≤ n ∧ n ≤ b)) : wi n a b = false := by
  unfold wi
  by_cases h1 : a ≤ n
  · rw [decide_eq_true h1, decide_eq_false (fun h2 => h ⟨h1, h2⟩)]; rfl
  · rw [decide_eq_false h1]; rfl
theorem results_row_tmp {fn : Func} {p u : Tmp} {ty : TypeId} (h : fn.results = #[.cell p ty, .tmp u]) (tmps : Array Value) (P : Program) (w : World) (g : Nat) (t : TypeId) (cs : Array Value) (fr : Nat × Nat) (fs : Array Field)
    (hp : tmps.getD p undef = .pointer (some ⟨g, 0, none⟩)) (hg : w.heap[g]? = some (.cells cs t fr))
    (hu : P.underlying ty = some (.struct fs)) (hi : (P.info? ty).map (·.size) = some cs.size) :
    (results fn tmps).run P w = .ok (.tuple #[.agg cs, tmps.getD u undef]) w := by
  have hl := run_loadVar_row w g t ty cs fr (.struct fs) hg hu rfl hi
  rw [results_cell_tmp h, hp]
  simp [asAddr, hl, Result.andThen]
def opTwo : List (List UInt8) := [[43], [42], [100, 105, 118], [114, 101, 109], [98, 97, 110, 100], [98, 111, 114], [98, 120, 111, 114], [98, 115, 108], [98, 115, 114], [97, 110, 100], [111, 114], [120, 111, 114], [61, 58, 61], [61, 47, 61], [60], [61, 60], [62], [62, 61], [43, 43]]
/-- Is this the name of an operator with n operands? -/
def operB (s : ByteArray) (n : Int) : Bool :=
  if s.toList == [45] then n == 1 || n == 2 else if s.toList == [98, 110, 111, 116] || s.toList == [110, 111, 116] then n == 1 else if opTwo.any (fun x => s.toList == x) then n == 2 else false
end Go.Proofs.YthmpobimmbmddaaGreatDoor
