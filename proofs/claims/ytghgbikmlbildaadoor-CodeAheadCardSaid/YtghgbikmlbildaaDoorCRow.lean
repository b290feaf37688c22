/-
  The table of the operations; rowOf; the closure of fields.
-/
import Derived.Test.YtghgbikmlbildaaDoorCWalk3
namespace Go.Proofs.YtghgbikmlbildaaDoor
open Go.RowKit
set_option linter.unusedVariables false

/-- Of each operation: which fields, how few operands, how many. -/
def rowT : List (Int × Int × Int) := [(0, 0, 0), (3, 1, 1), (131, 0, 255), (131, 2, 2), (135, 0, 200), (7, 1, 1), (3, 1, 1), (3, 1, 1), (64, 0, 0), (70, 1, 1), (66, 1, 1), (66, 2, 2), (82, 1, 1), (203, 0, 255), (139, 0, 3), (12, 0, 0), (4, 0, 0), (4, 0, 0), (6, 2, 2), (6, 2, 2), (6, 1, 1), (6, 1, 1), (2, 2, 3), (2, 2, 3), (4, 0, 0), (0, 0, 0), (0, 0, 0), (2, 2, 2), (64, 0, 0), (0, 0, 0), (66, 1, 1), (199, 1, 1), (199, 1, 1), (197, 0, 0), (64, 0, 0), (161, 0, 0), (2, 0, 1), (64, 0, 0), (0, 0, 0), (64, 0, 0), (64, 0, 0)]
def RowsAt (w : World) : Prop := 0 < w.heap.size ∧ ∀ k (h : k < 41), w.cell? ⟨0, k * 3, none⟩ = some (.int .i64 (rowT[k]'h).1) ∧ w.cell? ⟨0, k * 3 + 1, none⟩ = some (.int .i64 (rowT[k]'h).2.1) ∧ w.cell? ⟨0, k * 3 + 2, none⟩ = some (.int .i64 (rowT[k]'h).2.2)
theorem RowsAt.below {w w' : World} (h : RowsAt w) (hb : Below w.heap.size w w') : RowsAt w' :=
  ⟨Nat.lt_of_lt_of_le h.1 hb.size, fun k hk => by
    obtain ⟨a, b, c⟩ := h.2 k hk
    exact ⟨(hb.cell (p := ⟨0, k * 3, none⟩) h.1).trans a, (hb.cell (p := ⟨0, k * 3 + 1, none⟩) h.1).trans b, (hb.cell (p := ⟨0, k * 3 + 2, none⟩) h.1).trans c⟩⟩
theorem results_row_tmp {fn : Func} {p u : Tmp} {ty : TypeId} (h : fn.results = #[.cell p ty, .tmp u]) (tmps : Array Value) (P : Program) (w : World) (g : Nat) (t : TypeId) (cs : Array Value) (fr : Nat × Nat) (fs : Array Field)
    (hp : tmps.getD p undef = .pointer (some ⟨g, 0, none⟩)) (hg : w.heap[g]? = some (.cells cs t fr))
    (hu : P.underlying ty = some (.struct fs)) (hi : (P.info? ty).map (·.size) = some cs.size) :
    (results fn tmps).run P w = .ok (.tuple #[.agg cs, tmps.getD u undef]) w := by
  have hl := run_loadVar_row w g t ty cs fr (.struct fs) hg hu rfl hi
  rw [results_cell_tmp h, hp]
  simp [asAddr, hl, Result.andThen]

set_option maxRecDepth 100000 in
set_option maxHeartbeats 2000000 in
theorem rowOf_yes (k : Nat) (h1 : 1 ≤ k) (h2 : k < 41) (w : World) (hr : RowsAt w) :
    Calls Tryd.prog 16 #[.int .i64 k] w fun e w' => e = .returned (.tuple #[.agg #[.int .i64 (rowT[k]'h2).1, .int .i64 (rowT[k]'h2).2.1, .int .i64 (rowT[k]'h2).2.2], .bool true]) ∧ Below w.heap.size w w' := by
  obtain ⟨c0, c1, c2⟩ := hr.2 k h2
  have hlt := hr.1
  generalize rowT[k]'h2 = x at *
  obtain ⟨x0, x1, x2⟩ := x
  simp only at c0 c1 c2
  go_enter Tryd.func16, Tryd.ntmps16
  go_wp2
  refine bodyPost_ret (results_row_tmp rfl _ _ _ w.heap.size _ _ _ _ rfl (heap_alloc_new _ _) Tryd.underlying54 (by kernel_rfl)) rfl ?_
  exact ⟨rfl, (Below.refl _ _).alloc (Nat.le_refl _) _⟩
set_option maxRecDepth 100000 in
set_option maxHeartbeats 2000000 in
theorem rowOf_no (op : Int) (h : ¬ (1 ≤ op ∧ op ≤ 40)) (w : World) :
    Calls Tryd.prog 16 #[.int .i64 op] w fun e w' => e = .returned (.tuple #[.agg #[.int .i64 0, .int .i64 0, .int .i64 0], .bool false]) ∧ Below w.heap.size w w' := by
  by_cases h1 : op < 1
  · go_enter Tryd.func16, Tryd.ntmps16
    go_wp2
    refine bodyPost_ret (results_row_tmp rfl _ _ _ w.heap.size _ _ _ _ rfl (heap_alloc_new _ _) Tryd.underlying54 (by kernel_rfl)) rfl ?_
    exact ⟨rfl, (Below.refl _ _).alloc (Nat.le_refl _) _⟩
  · have h2 : 40 < op := by omega
    go_enter Tryd.func16, Tryd.ntmps16
    go_wp2
    refine bodyPost_ret (results_row_tmp rfl _ _ _ w.heap.size _ _ _ _ rfl (heap_alloc_new _ _) Tryd.underlying54 (by kernel_rfl)) rfl ?_
    exact ⟨rfl, (Below.refl _ _).alloc (Nat.le_refl _) _⟩

/-- Has a row the field with this bit? -/
def hasB (h f : Nat) : Bool := decide (h &&& f ≠ 0)
theorem and_i64 (a b : Nat) (ha : a < 9223372036854775808) (hb : b < 9223372036854775808) : bits .and .i64 (a : Int) (b : Int) = ((a &&& b : Nat) : Int) := by
  have hx : a &&& b < 2 ^ 63 := Nat.and_lt_two_pow _ (by omega)
  have h1 : (BitVec.ofInt 64 (a : Int)).toNat = a := by
    rw [BitVec.ofInt_natCast, BitVec.toNat_ofNat]; exact Nat.mod_eq_of_lt (by omega)
  have h2 : (BitVec.ofInt 64 (b : Int)).toNat = b := by
    rw [BitVec.ofInt_natCast, BitVec.toNat_ofNat]; exact Nat.mod_eq_of_lt (by omega)
  show IntKind.i64.wrap ((BitVec.ofInt 64 (a : Int) &&& BitVec.ofInt 64 (b : Int)).toNat : Int) = _
  rw [BitVec.toNat_and, h1, h2, IntKind.wrap_i64]
  omega
set_option maxRecDepth 100000 in
set_option maxHeartbeats 2000000 in
theorem has_any (h f : Nat) (z : Int) (hz : z = f) (C : Nat) (w : World) (hc : w.cell? ⟨C, 0, none⟩ = some (.int .i64 h)) (h1 : h < 1000) (h2 : f < 1000) :
    Calls Tryd.prog 31 #[.int .i64 z, .pointer (some ⟨C, 0, none⟩)] w fun e w' => e = .returned (.bool (hasB h f)) ∧ w = w' := by
  subst hz
  have ha := and_i64 h f (by omega) (by omega)
  have E : Hid ((((h &&& f : Nat) : Int) != 0) = hasB h f) := Lib.hid (by
    unfold hasB
    by_cases c : h &&& f = 0
    · rw [c]; rfl
    · rw [decide_eq_true c]; rw [bne_iff_ne]; omega)
  generalize h &&& f = x at *
  go_enter Tryd.func31, Tryd.ntmps31
  go_wp2
  go_ret
  exact ⟨retb E.out, rfl⟩

end Go.Proofs.YtghgbikmlbildaaDoor
