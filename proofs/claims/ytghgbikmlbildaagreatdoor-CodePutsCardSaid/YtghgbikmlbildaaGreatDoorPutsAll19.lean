/-
  The document's rows of the operations: RowOf, more: the walks (printed by gen_rrowof.py).
-/
import Derived.Test.YtghgbikmlbildaaGreatDoorPutsAll13
import Derived.Test.YtghgbikmlbildaaGreatDoorPutsAll18
namespace Go.Proofs.YtghgbikmlbildaaGreatDoor
open Go.RowKit
set_option linter.unusedVariables false
set_option linter.unusedSimpArgs false

def rrT : List (List UInt8 × Int × Int) := [([], 0, 0), ([100, 115], 1, 1), ([100, 115, 108], 0, 255), ([100, 115, 108], 2, 2), ([100, 115, 110, 108], 0, 200), ([100, 115, 110], 1, 1), ([100, 115], 1, 1), ([100, 115], 1, 1), ([116], 0, 0), ([115, 110, 116], 1, 1), ([115, 116], 1, 1), ([115, 116], 2, 2), ([115, 99, 116], 1, 1), ([100, 115, 119, 116, 108], 0, 255), ([100, 115, 119, 108], 0, 3), ([110, 119], 0, 0), ([110], 0, 0), ([110], 0, 0), ([115, 110], 2, 2), ([115, 110], 2, 2), ([115, 110], 1, 1), ([115, 110], 1, 1), ([115], 2, 3), ([115], 2, 3), ([110], 0, 0), ([], 0, 0), ([], 0, 0), ([115], 2, 2), ([116], 0, 0), ([], 0, 0), ([115, 116], 1, 1), ([100, 115, 110, 116, 108], 1, 1), ([100, 115, 110, 116, 108], 1, 1), ([100, 110, 116, 108], 0, 0), ([116], 0, 0), ([100, 103, 108], 0, 0), ([115], 0, 1), ([116], 0, 0), ([], 0, 0), ([116], 0, 0), ([116], 0, 0)]
def zRow : RRow := ⟨false, false, false, false, false, false, false, false, 0, 0⟩
/-- The row of an operation, as the document has it. -/
def rrow (op : Int) : RRow := if opOk op = true then (match rrT[op.toNat]? with | some (l, lo, hi) => rowL l lo hi | none => zRow) else zRow
theorem rrow_at (k : Nat) (h1 : 1 ≤ k) (h2 : k < 41) : rrow (k : Int) = rowL (rrT[k]'h2).1 (rrT[k]'h2).2.1 (rrT[k]'h2).2.2 := by
 unfold rrow opOk
 rw [if_pos (decide_eq_true (by omega)), Int.toNat_natCast, List.getElem?_eq_getElem (by exact h2)]
theorem rrow_no {op : Int} (h : ¬ (1 ≤ op ∧ op ≤ 40)) : rrow op = zRow := by
 unfold rrow opOk
 rw [if_neg (by rw [decide_eq_true_eq]; exact h)]
/-- It is the program's row. -/
theorem rrow_same : ∀ k : Nat, (h : k < 41) → 1 ≤ k → (rowL (rrT[k]'h).1 (rrT[k]'h).2.1 (rrT[k]'h).2.2).a = hasB (rowT[k]'h).1.toNat 1 ∧ (rowL (rrT[k]'h).1 (rrT[k]'h).2.1 (rrT[k]'h).2.2).b = hasB (rowT[k]'h).1.toNat 2 ∧ (rowL (rrT[k]'h).1 (rrT[k]'h).2.1 (rrT[k]'h).2.2).c = hasB (rowT[k]'h).1.toNat 4 ∧
  (rowL (rrT[k]'h).1 (rrT[k]'h).2.1 (rrT[k]'h).2.2).d = hasB (rowT[k]'h).1.toNat 8 ∧ (rowL (rrT[k]'h).1 (rrT[k]'h).2.1 (rrT[k]'h).2.2).e = hasB (rowT[k]'h).1.toNat 16 ∧ (rowL (rrT[k]'h).1 (rrT[k]'h).2.1 (rrT[k]'h).2.2).f = hasB (rowT[k]'h).1.toNat 32 ∧
  (rowL (rrT[k]'h).1 (rrT[k]'h).2.1 (rrT[k]'h).2.2).g = hasB (rowT[k]'h).1.toNat 64 ∧ (rowL (rrT[k]'h).1 (rrT[k]'h).2.1 (rrT[k]'h).2.2).h = hasB (rowT[k]'h).1.toNat 128 ∧ (rrT[k]'h).2.1 = (rowT[k]'h).2.1 ∧ (rrT[k]'h).2.2 = (rowT[k]'h).2.2 := by decide +kernel
theorem rrow_is {op : Int} (h : 1 ≤ op ∧ op ≤ 40) : rrow op = ⟨hasB (rowAt op).1.toNat 1, hasB (rowAt op).1.toNat 2, hasB (rowAt op).1.toNat 4, hasB (rowAt op).1.toNat 8, hasB (rowAt op).1.toNat 16, hasB (rowAt op).1.toNat 32, hasB (rowAt op).1.toNat 64, hasB (rowAt op).1.toNat 128, (rowAt op).2.1, (rowAt op).2.2⟩ := by
 obtain ⟨k, rfl⟩ : ∃ k : Nat, op = (k : Int) := ⟨op.toNat, by omega⟩
 have hk : k < 41 := by omega
 have hra : rowAt (k : Int) = rowT[k]'hk := by unfold rowAt; rw [Int.toNat_natCast, List.getElem?_eq_getElem (by exact hk)]; rfl
 rw [rrow_at k (by omega) hk, hra]
 obtain ⟨e1, e2, e3, e4, e5, e6, e7, e8, e9, e10⟩ := rrow_same k hk (by omega)
 rw [← e1, ← e2, ← e3, ← e4, ← e5, ← e6, ← e7, ← e8, ← e9, ← e10]
 rfl
theorem kept_row {w w1 : World} {cs : Array Value} (hb : Below (w.alloc (.cells cs 65)).heap.size (w.alloc (.cells cs 65)) w1) : w1.heap[w.heap.size]? = some (.cells cs 65 (0, 0)) :=
 (hb.block _ (by simp)).trans (heap_alloc_new _ _)
set_option maxRecDepth 100000 in
set_option maxHeartbeats 4000000 in
theorem more_16 (w : World) : Calls Tryz.prog 89 #[.int .i64 16] w fun e w' => e = .returned (.tuple #[.agg (rowL [110] 0 0).val, .bool true]) ∧ Below w.heap.size w w' := by
 go_enter Tryz.func89, Tryz.ntmps89
 go_wp2_with (first | (go_at_call 88; refine (letters_any _ _ _ _ (by decide)).mono ?_; rintro e w1 ⟨rfl, hb1⟩; have hk := kept_row hb1) | (refine wpList_store_row rfl 65 _ _ rfl _ _ rfl rfl 65 _ hk (by kernel_rfl) rfl (RRow.one _) ?_))
 go_wp2_with fail
 refine bodyPost_ret (results_row_tmp rfl _ _ _ w.heap.size _ _ _ _ rfl (setRow_heap _ _ _ _ _ _ hk) Tryz.underlying65 (by kernel_rfl)) rfl ?_
 exact ⟨rfl, below_setRow (((Below.refl _ _).alloc (Nat.le_refl _) _).trans (hb1.mono (by simp))) (Nat.le_refl _) _⟩
set_option maxRecDepth 100000 in
set_option maxHeartbeats 4000000 in
theorem more_17 (w : World) : Calls Tryz.prog 89 #[.int .i64 17] w fun e w' => e = .returned (.tuple #[.agg (rowL [110] 0 0).val, .bool true]) ∧ Below w.heap.size w w' := by
 go_enter Tryz.func89, Tryz.ntmps89
 go_wp2_with (first | (go_at_call 88; refine (letters_any _ _ _ _ (by decide)).mono ?_; rintro e w1 ⟨rfl, hb1⟩; have hk := kept_row hb1) | (refine wpList_store_row rfl 65 _ _ rfl _ _ rfl rfl 65 _ hk (by kernel_rfl) rfl (RRow.one _) ?_))
 go_wp2_with fail
 refine bodyPost_ret (results_row_tmp rfl _ _ _ w.heap.size _ _ _ _ rfl (setRow_heap _ _ _ _ _ _ hk) Tryz.underlying65 (by kernel_rfl)) rfl ?_
 exact ⟨rfl, below_setRow (((Below.refl _ _).alloc (Nat.le_refl _) _).trans (hb1.mono (by simp))) (Nat.le_refl _) _⟩
set_option maxRecDepth 100000 in
set_option maxHeartbeats 4000000 in
theorem more_18 (w : World) : Calls Tryz.prog 89 #[.int .i64 18] w fun e w' => e = .returned (.tuple #[.agg (rowL [115, 110] 2 2).val, .bool true]) ∧ Below w.heap.size w w' := by
 go_enter Tryz.func89, Tryz.ntmps89
 go_wp2_with (first | (go_at_call 88; refine (letters_any _ _ _ _ (by decide)).mono ?_; rintro e w1 ⟨rfl, hb1⟩; have hk := kept_row hb1) | (refine wpList_store_row rfl 65 _ _ rfl _ _ rfl rfl 65 _ hk (by kernel_rfl) rfl (RRow.one _) ?_))
 go_wp2_with fail
 refine bodyPost_ret (results_row_tmp rfl _ _ _ w.heap.size _ _ _ _ rfl (setRow_heap _ _ _ _ _ _ hk) Tryz.underlying65 (by kernel_rfl)) rfl ?_
 exact ⟨rfl, below_setRow (((Below.refl _ _).alloc (Nat.le_refl _) _).trans (hb1.mono (by simp))) (Nat.le_refl _) _⟩
set_option maxRecDepth 100000 in
set_option maxHeartbeats 4000000 in
theorem more_19 (w : World) : Calls Tryz.prog 89 #[.int .i64 19] w fun e w' => e = .returned (.tuple #[.agg (rowL [115, 110] 2 2).val, .bool true]) ∧ Below w.heap.size w w' := by
 go_enter Tryz.func89, Tryz.ntmps89
 go_wp2_with (first | (go_at_call 88; refine (letters_any _ _ _ _ (by decide)).mono ?_; rintro e w1 ⟨rfl, hb1⟩; have hk := kept_row hb1) | (refine wpList_store_row rfl 65 _ _ rfl _ _ rfl rfl 65 _ hk (by kernel_rfl) rfl (RRow.one _) ?_))
 go_wp2_with fail
 refine bodyPost_ret (results_row_tmp rfl _ _ _ w.heap.size _ _ _ _ rfl (setRow_heap _ _ _ _ _ _ hk) Tryz.underlying65 (by kernel_rfl)) rfl ?_
 exact ⟨rfl, below_setRow (((Below.refl _ _).alloc (Nat.le_refl _) _).trans (hb1.mono (by simp))) (Nat.le_refl _) _⟩
set_option maxRecDepth 100000 in
set_option maxHeartbeats 4000000 in
theorem more_20 (w : World) : Calls Tryz.prog 89 #[.int .i64 20] w fun e w' => e = .returned (.tuple #[.agg (rowL [115, 110] 1 1).val, .bool true]) ∧ Below w.heap.size w w' := by
 go_enter Tryz.func89, Tryz.ntmps89
 go_wp2_with (first | (go_at_call 88; refine (letters_any _ _ _ _ (by decide)).mono ?_; rintro e w1 ⟨rfl, hb1⟩; have hk := kept_row hb1) | (refine wpList_store_row rfl 65 _ _ rfl _ _ rfl rfl 65 _ hk (by kernel_rfl) rfl (RRow.one _) ?_))
 go_wp2_with fail
 refine bodyPost_ret (results_row_tmp rfl _ _ _ w.heap.size _ _ _ _ rfl (setRow_heap _ _ _ _ _ _ hk) Tryz.underlying65 (by kernel_rfl)) rfl ?_
 exact ⟨rfl, below_setRow (((Below.refl _ _).alloc (Nat.le_refl _) _).trans (hb1.mono (by simp))) (Nat.le_refl _) _⟩
set_option maxRecDepth 100000 in
set_option maxHeartbeats 4000000 in
theorem more_21 (w : World) : Calls Tryz.prog 89 #[.int .i64 21] w fun e w' => e = .returned (.tuple #[.agg (rowL [115, 110] 1 1).val, .bool true]) ∧ Below w.heap.size w w' := by
 go_enter Tryz.func89, Tryz.ntmps89
 go_wp2_with (first | (go_at_call 88; refine (letters_any _ _ _ _ (by decide)).mono ?_; rintro e w1 ⟨rfl, hb1⟩; have hk := kept_row hb1) | (refine wpList_store_row rfl 65 _ _ rfl _ _ rfl rfl 65 _ hk (by kernel_rfl) rfl (RRow.one _) ?_))
 go_wp2_with fail
 refine bodyPost_ret (results_row_tmp rfl _ _ _ w.heap.size _ _ _ _ rfl (setRow_heap _ _ _ _ _ _ hk) Tryz.underlying65 (by kernel_rfl)) rfl ?_
 exact ⟨rfl, below_setRow (((Below.refl _ _).alloc (Nat.le_refl _) _).trans (hb1.mono (by simp))) (Nat.le_refl _) _⟩
set_option maxRecDepth 100000 in
set_option maxHeartbeats 4000000 in
theorem more_22 (w : World) : Calls Tryz.prog 89 #[.int .i64 22] w fun e w' => e = .returned (.tuple #[.agg (rowL [115] 2 3).val, .bool true]) ∧ Below w.heap.size w w' := by
 go_enter Tryz.func89, Tryz.ntmps89
 go_wp2_with (first | (go_at_call 88; refine (letters_any _ _ _ _ (by decide)).mono ?_; rintro e w1 ⟨rfl, hb1⟩; have hk := kept_row hb1) | (refine wpList_store_row rfl 65 _ _ rfl _ _ rfl rfl 65 _ hk (by kernel_rfl) rfl (RRow.one _) ?_))
 go_wp2_with fail
 refine bodyPost_ret (results_row_tmp rfl _ _ _ w.heap.size _ _ _ _ rfl (setRow_heap _ _ _ _ _ _ hk) Tryz.underlying65 (by kernel_rfl)) rfl ?_
 exact ⟨rfl, below_setRow (((Below.refl _ _).alloc (Nat.le_refl _) _).trans (hb1.mono (by simp))) (Nat.le_refl _) _⟩
set_option maxRecDepth 100000 in
set_option maxHeartbeats 4000000 in
theorem more_23 (w : World) : Calls Tryz.prog 89 #[.int .i64 23] w fun e w' => e = .returned (.tuple #[.agg (rowL [115] 2 3).val, .bool true]) ∧ Below w.heap.size w w' := by
 go_enter Tryz.func89, Tryz.ntmps89
 go_wp2_with (first | (go_at_call 88; refine (letters_any _ _ _ _ (by decide)).mono ?_; rintro e w1 ⟨rfl, hb1⟩; have hk := kept_row hb1) | (refine wpList_store_row rfl 65 _ _ rfl _ _ rfl rfl 65 _ hk (by kernel_rfl) rfl (RRow.one _) ?_))
 go_wp2_with fail
 refine bodyPost_ret (results_row_tmp rfl _ _ _ w.heap.size _ _ _ _ rfl (setRow_heap _ _ _ _ _ _ hk) Tryz.underlying65 (by kernel_rfl)) rfl ?_
 exact ⟨rfl, below_setRow (((Below.refl _ _).alloc (Nat.le_refl _) _).trans (hb1.mono (by simp))) (Nat.le_refl _) _⟩
set_option maxRecDepth 100000 in
set_option maxHeartbeats 4000000 in
theorem more_24 (w : World) : Calls Tryz.prog 89 #[.int .i64 24] w fun e w' => e = .returned (.tuple #[.agg (rowL [110] 0 0).val, .bool true]) ∧ Below w.heap.size w w' := by
 go_enter Tryz.func89, Tryz.ntmps89
 go_wp2_with (first | (go_at_call 88; refine (letters_any _ _ _ _ (by decide)).mono ?_; rintro e w1 ⟨rfl, hb1⟩; have hk := kept_row hb1) | (refine wpList_store_row rfl 65 _ _ rfl _ _ rfl rfl 65 _ hk (by kernel_rfl) rfl (RRow.one _) ?_))
 go_wp2_with fail
 refine bodyPost_ret (results_row_tmp rfl _ _ _ w.heap.size _ _ _ _ rfl (setRow_heap _ _ _ _ _ _ hk) Tryz.underlying65 (by kernel_rfl)) rfl ?_
 exact ⟨rfl, below_setRow (((Below.refl _ _).alloc (Nat.le_refl _) _).trans (hb1.mono (by simp))) (Nat.le_refl _) _⟩
set_option maxRecDepth 100000 in
set_option maxHeartbeats 4000000 in
theorem more_25 (w : World) : Calls Tryz.prog 89 #[.int .i64 25] w fun e w' => e = .returned (.tuple #[.agg (rowL [] 0 0).val, .bool true]) ∧ Below w.heap.size w w' := by
 go_enter Tryz.func89, Tryz.ntmps89
 go_wp2_with fail
 refine bodyPost_ret (results_row_tmp rfl _ _ _ w.heap.size _ _ _ _ rfl (heap_alloc_new _ _) Tryz.underlying65 (by kernel_rfl)) rfl ?_
 exact ⟨rfl, (Below.refl _ _).alloc (Nat.le_refl _) _⟩
set_option maxRecDepth 100000 in
set_option maxHeartbeats 4000000 in
theorem more_26 (w : World) : Calls Tryz.prog 89 #[.int .i64 26] w fun e w' => e = .returned (.tuple #[.agg (rowL [] 0 0).val, .bool true]) ∧ Below w.heap.size w w' := by
 go_enter Tryz.func89, Tryz.ntmps89
 go_wp2_with fail
 refine bodyPost_ret (results_row_tmp rfl _ _ _ w.heap.size _ _ _ _ rfl (heap_alloc_new _ _) Tryz.underlying65 (by kernel_rfl)) rfl ?_
 exact ⟨rfl, (Below.refl _ _).alloc (Nat.le_refl _) _⟩
set_option maxRecDepth 100000 in
set_option maxHeartbeats 4000000 in
theorem more_27 (w : World) : Calls Tryz.prog 89 #[.int .i64 27] w fun e w' => e = .returned (.tuple #[.agg (rowL [115] 2 2).val, .bool true]) ∧ Below w.heap.size w w' := by
 go_enter Tryz.func89, Tryz.ntmps89
 go_wp2_with (first | (go_at_call 88; refine (letters_any _ _ _ _ (by decide)).mono ?_; rintro e w1 ⟨rfl, hb1⟩; have hk := kept_row hb1) | (refine wpList_store_row rfl 65 _ _ rfl _ _ rfl rfl 65 _ hk (by kernel_rfl) rfl (RRow.one _) ?_))
 go_wp2_with fail
 refine bodyPost_ret (results_row_tmp rfl _ _ _ w.heap.size _ _ _ _ rfl (setRow_heap _ _ _ _ _ _ hk) Tryz.underlying65 (by kernel_rfl)) rfl ?_
 exact ⟨rfl, below_setRow (((Below.refl _ _).alloc (Nat.le_refl _) _).trans (hb1.mono (by simp))) (Nat.le_refl _) _⟩
set_option maxRecDepth 100000 in
set_option maxHeartbeats 4000000 in
theorem more_29 (w : World) : Calls Tryz.prog 89 #[.int .i64 29] w fun e w' => e = .returned (.tuple #[.agg (rowL [] 0 0).val, .bool true]) ∧ Below w.heap.size w w' := by
 go_enter Tryz.func89, Tryz.ntmps89
 go_wp2_with fail
 refine bodyPost_ret (results_row_tmp rfl _ _ _ w.heap.size _ _ _ _ rfl (heap_alloc_new _ _) Tryz.underlying65 (by kernel_rfl)) rfl ?_
 exact ⟨rfl, (Below.refl _ _).alloc (Nat.le_refl _) _⟩
set_option maxRecDepth 100000 in
set_option maxHeartbeats 4000000 in
theorem more_31 (w : World) : Calls Tryz.prog 89 #[.int .i64 31] w fun e w' => e = .returned (.tuple #[.agg (rowL [100, 115, 110, 116, 108] 1 1).val, .bool true]) ∧ Below w.heap.size w w' := by
 go_enter Tryz.func89, Tryz.ntmps89
 go_wp2_with (first | (go_at_call 88; refine (letters_any _ _ _ _ (by decide)).mono ?_; rintro e w1 ⟨rfl, hb1⟩; have hk := kept_row hb1) | (refine wpList_store_row rfl 65 _ _ rfl _ _ rfl rfl 65 _ hk (by kernel_rfl) rfl (RRow.one _) ?_))
 go_wp2_with fail
 refine bodyPost_ret (results_row_tmp rfl _ _ _ w.heap.size _ _ _ _ rfl (setRow_heap _ _ _ _ _ _ hk) Tryz.underlying65 (by kernel_rfl)) rfl ?_
 exact ⟨rfl, below_setRow (((Below.refl _ _).alloc (Nat.le_refl _) _).trans (hb1.mono (by simp))) (Nat.le_refl _) _⟩
set_option maxRecDepth 100000 in
set_option maxHeartbeats 4000000 in
theorem more_32 (w : World) : Calls Tryz.prog 89 #[.int .i64 32] w fun e w' => e = .returned (.tuple #[.agg (rowL [100, 115, 110, 116, 108] 1 1).val, .bool true]) ∧ Below w.heap.size w w' := by
 go_enter Tryz.func89, Tryz.ntmps89
 go_wp2_with (first | (go_at_call 88; refine (letters_any _ _ _ _ (by decide)).mono ?_; rintro e w1 ⟨rfl, hb1⟩; have hk := kept_row hb1) | (refine wpList_store_row rfl 65 _ _ rfl _ _ rfl rfl 65 _ hk (by kernel_rfl) rfl (RRow.one _) ?_))
 go_wp2_with fail
 refine bodyPost_ret (results_row_tmp rfl _ _ _ w.heap.size _ _ _ _ rfl (setRow_heap _ _ _ _ _ _ hk) Tryz.underlying65 (by kernel_rfl)) rfl ?_
 exact ⟨rfl, below_setRow (((Below.refl _ _).alloc (Nat.le_refl _) _).trans (hb1.mono (by simp))) (Nat.le_refl _) _⟩
set_option maxRecDepth 100000 in
set_option maxHeartbeats 4000000 in
theorem more_33 (w : World) : Calls Tryz.prog 89 #[.int .i64 33] w fun e w' => e = .returned (.tuple #[.agg (rowL [100, 110, 116, 108] 0 0).val, .bool true]) ∧ Below w.heap.size w w' := by
 go_enter Tryz.func89, Tryz.ntmps89
 go_wp2_with (first | (go_at_call 88; refine (letters_any _ _ _ _ (by decide)).mono ?_; rintro e w1 ⟨rfl, hb1⟩; have hk := kept_row hb1) | (refine wpList_store_row rfl 65 _ _ rfl _ _ rfl rfl 65 _ hk (by kernel_rfl) rfl (RRow.one _) ?_))
 go_wp2_with fail
 refine bodyPost_ret (results_row_tmp rfl _ _ _ w.heap.size _ _ _ _ rfl (setRow_heap _ _ _ _ _ _ hk) Tryz.underlying65 (by kernel_rfl)) rfl ?_
 exact ⟨rfl, below_setRow (((Below.refl _ _).alloc (Nat.le_refl _) _).trans (hb1.mono (by simp))) (Nat.le_refl _) _⟩
set_option maxRecDepth 100000 in
set_option maxHeartbeats 4000000 in
theorem more_35 (w : World) : Calls Tryz.prog 89 #[.int .i64 35] w fun e w' => e = .returned (.tuple #[.agg (rowL [100, 103, 108] 0 0).val, .bool true]) ∧ Below w.heap.size w w' := by
 go_enter Tryz.func89, Tryz.ntmps89
 go_wp2_with (first | (go_at_call 88; refine (letters_any _ _ _ _ (by decide)).mono ?_; rintro e w1 ⟨rfl, hb1⟩; have hk := kept_row hb1) | (refine wpList_store_row rfl 65 _ _ rfl _ _ rfl rfl 65 _ hk (by kernel_rfl) rfl (RRow.one _) ?_))
 go_wp2_with fail
 refine bodyPost_ret (results_row_tmp rfl _ _ _ w.heap.size _ _ _ _ rfl (setRow_heap _ _ _ _ _ _ hk) Tryz.underlying65 (by kernel_rfl)) rfl ?_
 exact ⟨rfl, below_setRow (((Below.refl _ _).alloc (Nat.le_refl _) _).trans (hb1.mono (by simp))) (Nat.le_refl _) _⟩
set_option maxRecDepth 100000 in
set_option maxHeartbeats 4000000 in
theorem more_36 (w : World) : Calls Tryz.prog 89 #[.int .i64 36] w fun e w' => e = .returned (.tuple #[.agg (rowL [115] 0 1).val, .bool true]) ∧ Below w.heap.size w w' := by
 go_enter Tryz.func89, Tryz.ntmps89
 go_wp2_with (first | (go_at_call 88; refine (letters_any _ _ _ _ (by decide)).mono ?_; rintro e w1 ⟨rfl, hb1⟩; have hk := kept_row hb1) | (refine wpList_store_row rfl 65 _ _ rfl _ _ rfl rfl 65 _ hk (by kernel_rfl) rfl (RRow.one _) ?_))
 go_wp2_with fail
 refine bodyPost_ret (results_row_tmp rfl _ _ _ w.heap.size _ _ _ _ rfl (setRow_heap _ _ _ _ _ _ hk) Tryz.underlying65 (by kernel_rfl)) rfl ?_
 exact ⟨rfl, below_setRow (((Below.refl _ _).alloc (Nat.le_refl _) _).trans (hb1.mono (by simp))) (Nat.le_refl _) _⟩
set_option maxRecDepth 100000 in
set_option maxHeartbeats 4000000 in
theorem more_38 (w : World) : Calls Tryz.prog 89 #[.int .i64 38] w fun e w' => e = .returned (.tuple #[.agg (rowL [] 0 0).val, .bool true]) ∧ Below w.heap.size w w' := by
 go_enter Tryz.func89, Tryz.ntmps89
 go_wp2_with fail
 refine bodyPost_ret (results_row_tmp rfl _ _ _ w.heap.size _ _ _ _ rfl (heap_alloc_new _ _) Tryz.underlying65 (by kernel_rfl)) rfl ?_
 exact ⟨rfl, (Below.refl _ _).alloc (Nat.le_refl _) _⟩
set_option maxRecDepth 100000 in
set_option maxHeartbeats 8000000 in
theorem more_no (op : Int) (w : World) (h : ¬ (1 ≤ op ∧ op ≤ 40)) : Calls Tryz.prog 89 #[.int .i64 op] w fun e w' => e = .returned (.tuple #[.agg zRow.val, .bool false]) ∧ Below w.heap.size w w' := by
 have b16 : (op == 16) = false := beq_eq_false_iff_ne.2 (by omega)
 have b17 : (op == 17) = false := beq_eq_false_iff_ne.2 (by omega)
 have b18 : (op == 18) = false := beq_eq_false_iff_ne.2 (by omega)
 have b19 : (op == 19) = false := beq_eq_false_iff_ne.2 (by omega)
 have b20 : (op == 20) = false := beq_eq_false_iff_ne.2 (by omega)
 have b21 : (op == 21) = false := beq_eq_false_iff_ne.2 (by omega)
 have b22 : (op == 22) = false := beq_eq_false_iff_ne.2 (by omega)
 have b23 : (op == 23) = false := beq_eq_false_iff_ne.2 (by omega)
 have b24 : (op == 24) = false := beq_eq_false_iff_ne.2 (by omega)
 have b25 : (op == 25) = false := beq_eq_false_iff_ne.2 (by omega)
 have b26 : (op == 26) = false := beq_eq_false_iff_ne.2 (by omega)
 have b27 : (op == 27) = false := beq_eq_false_iff_ne.2 (by omega)
 have b29 : (op == 29) = false := beq_eq_false_iff_ne.2 (by omega)
 have b31 : (op == 31) = false := beq_eq_false_iff_ne.2 (by omega)
 have b32 : (op == 32) = false := beq_eq_false_iff_ne.2 (by omega)
 have b33 : (op == 33) = false := beq_eq_false_iff_ne.2 (by omega)
 have b35 : (op == 35) = false := beq_eq_false_iff_ne.2 (by omega)
 have b36 : (op == 36) = false := beq_eq_false_iff_ne.2 (by omega)
 have b38 : (op == 38) = false := beq_eq_false_iff_ne.2 (by omega)
 clear h
 go_enter Tryz.func89, Tryz.ntmps89
 go_wp2_with fail
 refine bodyPost_ret (results_row_tmp rfl _ _ _ w.heap.size _ _ _ _ rfl (heap_alloc_new _ _) Tryz.underlying65 (by kernel_rfl)) rfl ?_
 exact ⟨rfl, (Below.refl _ _).alloc (Nat.le_refl _) _⟩
set_option maxRecDepth 100000 in
set_option maxHeartbeats 4000000 in
theorem rowof_1 (w : World) : Calls Tryz.prog 38 #[.int .i64 1] w fun e w' => e = .returned (.tuple #[.agg (rowL [100, 115] 1 1).val, .bool true]) ∧ Below w.heap.size w w' := by
 go_enter Tryz.func38, Tryz.ntmps38
 go_wp2_with (first | (go_at_call 88; refine (letters_any _ _ _ _ (by decide)).mono ?_; rintro e w1 ⟨rfl, hb1⟩; have hk := kept_row hb1) | (refine wpList_store_row rfl 65 _ _ rfl _ _ rfl rfl 65 _ hk (by kernel_rfl) rfl (RRow.one _) ?_))
 go_wp2_with fail
 refine bodyPost_ret (results_row_tmp rfl _ _ _ w.heap.size _ _ _ _ rfl (setRow_heap _ _ _ _ _ _ hk) Tryz.underlying65 (by kernel_rfl)) rfl ?_
 exact ⟨rfl, below_setRow (((Below.refl _ _).alloc (Nat.le_refl _) _).trans (hb1.mono (by simp))) (Nat.le_refl _) _⟩
set_option maxRecDepth 100000 in
set_option maxHeartbeats 4000000 in
theorem rowof_6 (w : World) : Calls Tryz.prog 38 #[.int .i64 6] w fun e w' => e = .returned (.tuple #[.agg (rowL [100, 115] 1 1).val, .bool true]) ∧ Below w.heap.size w w' := by
 go_enter Tryz.func38, Tryz.ntmps38
 go_wp2_with (first | (go_at_call 88; refine (letters_any _ _ _ _ (by decide)).mono ?_; rintro e w1 ⟨rfl, hb1⟩; have hk := kept_row hb1) | (refine wpList_store_row rfl 65 _ _ rfl _ _ rfl rfl 65 _ hk (by kernel_rfl) rfl (RRow.one _) ?_))
 go_wp2_with fail
 refine bodyPost_ret (results_row_tmp rfl _ _ _ w.heap.size _ _ _ _ rfl (setRow_heap _ _ _ _ _ _ hk) Tryz.underlying65 (by kernel_rfl)) rfl ?_
 exact ⟨rfl, below_setRow (((Below.refl _ _).alloc (Nat.le_refl _) _).trans (hb1.mono (by simp))) (Nat.le_refl _) _⟩
set_option maxRecDepth 100000 in
set_option maxHeartbeats 4000000 in
theorem rowof_7 (w : World) : Calls Tryz.prog 38 #[.int .i64 7] w fun e w' => e = .returned (.tuple #[.agg (rowL [100, 115] 1 1).val, .bool true]) ∧ Below w.heap.size w w' := by
 go_enter Tryz.func38, Tryz.ntmps38
 go_wp2_with (first | (go_at_call 88; refine (letters_any _ _ _ _ (by decide)).mono ?_; rintro e w1 ⟨rfl, hb1⟩; have hk := kept_row hb1) | (refine wpList_store_row rfl 65 _ _ rfl _ _ rfl rfl 65 _ hk (by kernel_rfl) rfl (RRow.one _) ?_))
 go_wp2_with fail
 refine bodyPost_ret (results_row_tmp rfl _ _ _ w.heap.size _ _ _ _ rfl (setRow_heap _ _ _ _ _ _ hk) Tryz.underlying65 (by kernel_rfl)) rfl ?_
 exact ⟨rfl, below_setRow (((Below.refl _ _).alloc (Nat.le_refl _) _).trans (hb1.mono (by simp))) (Nat.le_refl _) _⟩
set_option maxRecDepth 100000 in
set_option maxHeartbeats 4000000 in
theorem rowof_2 (w : World) : Calls Tryz.prog 38 #[.int .i64 2] w fun e w' => e = .returned (.tuple #[.agg (rowL [100, 115, 108] 0 255).val, .bool true]) ∧ Below w.heap.size w w' := by
 go_enter Tryz.func38, Tryz.ntmps38
 go_wp2_with (first | (go_at_call 88; refine (letters_any _ _ _ _ (by decide)).mono ?_; rintro e w1 ⟨rfl, hb1⟩; have hk := kept_row hb1) | (refine wpList_store_row rfl 65 _ _ rfl _ _ rfl rfl 65 _ hk (by kernel_rfl) rfl (RRow.one _) ?_))
 go_wp2_with fail
 refine bodyPost_ret (results_row_tmp rfl _ _ _ w.heap.size _ _ _ _ rfl (setRow_heap _ _ _ _ _ _ hk) Tryz.underlying65 (by kernel_rfl)) rfl ?_
 exact ⟨rfl, below_setRow (((Below.refl _ _).alloc (Nat.le_refl _) _).trans (hb1.mono (by simp))) (Nat.le_refl _) _⟩
set_option maxRecDepth 100000 in
set_option maxHeartbeats 4000000 in
theorem rowof_3 (w : World) : Calls Tryz.prog 38 #[.int .i64 3] w fun e w' => e = .returned (.tuple #[.agg (rowL [100, 115, 108] 2 2).val, .bool true]) ∧ Below w.heap.size w w' := by
 go_enter Tryz.func38, Tryz.ntmps38
 go_wp2_with (first | (go_at_call 88; refine (letters_any _ _ _ _ (by decide)).mono ?_; rintro e w1 ⟨rfl, hb1⟩; have hk := kept_row hb1) | (refine wpList_store_row rfl 65 _ _ rfl _ _ rfl rfl 65 _ hk (by kernel_rfl) rfl (RRow.one _) ?_))
 go_wp2_with fail
 refine bodyPost_ret (results_row_tmp rfl _ _ _ w.heap.size _ _ _ _ rfl (setRow_heap _ _ _ _ _ _ hk) Tryz.underlying65 (by kernel_rfl)) rfl ?_
 exact ⟨rfl, below_setRow (((Below.refl _ _).alloc (Nat.le_refl _) _).trans (hb1.mono (by simp))) (Nat.le_refl _) _⟩
set_option maxRecDepth 100000 in
set_option maxHeartbeats 4000000 in
theorem rowof_4 (w : World) : Calls Tryz.prog 38 #[.int .i64 4] w fun e w' => e = .returned (.tuple #[.agg (rowL [100, 115, 110, 108] 0 200).val, .bool true]) ∧ Below w.heap.size w w' := by
 go_enter Tryz.func38, Tryz.ntmps38
 go_wp2_with (first | (go_at_call 88; refine (letters_any _ _ _ _ (by decide)).mono ?_; rintro e w1 ⟨rfl, hb1⟩; have hk := kept_row hb1) | (refine wpList_store_row rfl 65 _ _ rfl _ _ rfl rfl 65 _ hk (by kernel_rfl) rfl (RRow.one _) ?_))
 go_wp2_with fail
 refine bodyPost_ret (results_row_tmp rfl _ _ _ w.heap.size _ _ _ _ rfl (setRow_heap _ _ _ _ _ _ hk) Tryz.underlying65 (by kernel_rfl)) rfl ?_
 exact ⟨rfl, below_setRow (((Below.refl _ _).alloc (Nat.le_refl _) _).trans (hb1.mono (by simp))) (Nat.le_refl _) _⟩
set_option maxRecDepth 100000 in
set_option maxHeartbeats 4000000 in
theorem rowof_5 (w : World) : Calls Tryz.prog 38 #[.int .i64 5] w fun e w' => e = .returned (.tuple #[.agg (rowL [100, 115, 110] 1 1).val, .bool true]) ∧ Below w.heap.size w w' := by
 go_enter Tryz.func38, Tryz.ntmps38
 go_wp2_with (first | (go_at_call 88; refine (letters_any _ _ _ _ (by decide)).mono ?_; rintro e w1 ⟨rfl, hb1⟩; have hk := kept_row hb1) | (refine wpList_store_row rfl 65 _ _ rfl _ _ rfl rfl 65 _ hk (by kernel_rfl) rfl (RRow.one _) ?_))
 go_wp2_with fail
 refine bodyPost_ret (results_row_tmp rfl _ _ _ w.heap.size _ _ _ _ rfl (setRow_heap _ _ _ _ _ _ hk) Tryz.underlying65 (by kernel_rfl)) rfl ?_
 exact ⟨rfl, below_setRow (((Below.refl _ _).alloc (Nat.le_refl _) _).trans (hb1.mono (by simp))) (Nat.le_refl _) _⟩
set_option maxRecDepth 100000 in
set_option maxHeartbeats 4000000 in
theorem rowof_8 (w : World) : Calls Tryz.prog 38 #[.int .i64 8] w fun e w' => e = .returned (.tuple #[.agg (rowL [116] 0 0).val, .bool true]) ∧ Below w.heap.size w w' := by
 go_enter Tryz.func38, Tryz.ntmps38
 go_wp2_with (first | (go_at_call 88; refine (letters_any _ _ _ _ (by decide)).mono ?_; rintro e w1 ⟨rfl, hb1⟩; have hk := kept_row hb1) | (refine wpList_store_row rfl 65 _ _ rfl _ _ rfl rfl 65 _ hk (by kernel_rfl) rfl (RRow.one _) ?_))
 go_wp2_with fail
 refine bodyPost_ret (results_row_tmp rfl _ _ _ w.heap.size _ _ _ _ rfl (setRow_heap _ _ _ _ _ _ hk) Tryz.underlying65 (by kernel_rfl)) rfl ?_
 exact ⟨rfl, below_setRow (((Below.refl _ _).alloc (Nat.le_refl _) _).trans (hb1.mono (by simp))) (Nat.le_refl _) _⟩
set_option maxRecDepth 100000 in
set_option maxHeartbeats 4000000 in
theorem rowof_28 (w : World) : Calls Tryz.prog 38 #[.int .i64 28] w fun e w' => e = .returned (.tuple #[.agg (rowL [116] 0 0).val, .bool true]) ∧ Below w.heap.size w w' := by
 go_enter Tryz.func38, Tryz.ntmps38
 go_wp2_with (first | (go_at_call 88; refine (letters_any _ _ _ _ (by decide)).mono ?_; rintro e w1 ⟨rfl, hb1⟩; have hk := kept_row hb1) | (refine wpList_store_row rfl 65 _ _ rfl _ _ rfl rfl 65 _ hk (by kernel_rfl) rfl (RRow.one _) ?_))
 go_wp2_with fail
 refine bodyPost_ret (results_row_tmp rfl _ _ _ w.heap.size _ _ _ _ rfl (setRow_heap _ _ _ _ _ _ hk) Tryz.underlying65 (by kernel_rfl)) rfl ?_
 exact ⟨rfl, below_setRow (((Below.refl _ _).alloc (Nat.le_refl _) _).trans (hb1.mono (by simp))) (Nat.le_refl _) _⟩
set_option maxRecDepth 100000 in
set_option maxHeartbeats 4000000 in
theorem rowof_34 (w : World) : Calls Tryz.prog 38 #[.int .i64 34] w fun e w' => e = .returned (.tuple #[.agg (rowL [116] 0 0).val, .bool true]) ∧ Below w.heap.size w w' := by
 go_enter Tryz.func38, Tryz.ntmps38
 go_wp2_with (first | (go_at_call 88; refine (letters_any _ _ _ _ (by decide)).mono ?_; rintro e w1 ⟨rfl, hb1⟩; have hk := kept_row hb1) | (refine wpList_store_row rfl 65 _ _ rfl _ _ rfl rfl 65 _ hk (by kernel_rfl) rfl (RRow.one _) ?_))
 go_wp2_with fail
 refine bodyPost_ret (results_row_tmp rfl _ _ _ w.heap.size _ _ _ _ rfl (setRow_heap _ _ _ _ _ _ hk) Tryz.underlying65 (by kernel_rfl)) rfl ?_
 exact ⟨rfl, below_setRow (((Below.refl _ _).alloc (Nat.le_refl _) _).trans (hb1.mono (by simp))) (Nat.le_refl _) _⟩
set_option maxRecDepth 100000 in
set_option maxHeartbeats 4000000 in
theorem rowof_37 (w : World) : Calls Tryz.prog 38 #[.int .i64 37] w fun e w' => e = .returned (.tuple #[.agg (rowL [116] 0 0).val, .bool true]) ∧ Below w.heap.size w w' := by
 go_enter Tryz.func38, Tryz.ntmps38
 go_wp2_with (first | (go_at_call 88; refine (letters_any _ _ _ _ (by decide)).mono ?_; rintro e w1 ⟨rfl, hb1⟩; have hk := kept_row hb1) | (refine wpList_store_row rfl 65 _ _ rfl _ _ rfl rfl 65 _ hk (by kernel_rfl) rfl (RRow.one _) ?_))
 go_wp2_with fail
 refine bodyPost_ret (results_row_tmp rfl _ _ _ w.heap.size _ _ _ _ rfl (setRow_heap _ _ _ _ _ _ hk) Tryz.underlying65 (by kernel_rfl)) rfl ?_
 exact ⟨rfl, below_setRow (((Below.refl _ _).alloc (Nat.le_refl _) _).trans (hb1.mono (by simp))) (Nat.le_refl _) _⟩
set_option maxRecDepth 100000 in
set_option maxHeartbeats 4000000 in
theorem rowof_39 (w : World) : Calls Tryz.prog 38 #[.int .i64 39] w fun e w' => e = .returned (.tuple #[.agg (rowL [116] 0 0).val, .bool true]) ∧ Below w.heap.size w w' := by
 go_enter Tryz.func38, Tryz.ntmps38
 go_wp2_with (first | (go_at_call 88; refine (letters_any _ _ _ _ (by decide)).mono ?_; rintro e w1 ⟨rfl, hb1⟩; have hk := kept_row hb1) | (refine wpList_store_row rfl 65 _ _ rfl _ _ rfl rfl 65 _ hk (by kernel_rfl) rfl (RRow.one _) ?_))
 go_wp2_with fail
 refine bodyPost_ret (results_row_tmp rfl _ _ _ w.heap.size _ _ _ _ rfl (setRow_heap _ _ _ _ _ _ hk) Tryz.underlying65 (by kernel_rfl)) rfl ?_
 exact ⟨rfl, below_setRow (((Below.refl _ _).alloc (Nat.le_refl _) _).trans (hb1.mono (by simp))) (Nat.le_refl _) _⟩
set_option maxRecDepth 100000 in
set_option maxHeartbeats 4000000 in
theorem rowof_40 (w : World) : Calls Tryz.prog 38 #[.int .i64 40] w fun e w' => e = .returned (.tuple #[.agg (rowL [116] 0 0).val, .bool true]) ∧ Below w.heap.size w w' := by
 go_enter Tryz.func38, Tryz.ntmps38
 go_wp2_with (first | (go_at_call 88; refine (letters_any _ _ _ _ (by decide)).mono ?_; rintro e w1 ⟨rfl, hb1⟩; have hk := kept_row hb1) | (refine wpList_store_row rfl 65 _ _ rfl _ _ rfl rfl 65 _ hk (by kernel_rfl) rfl (RRow.one _) ?_))
 go_wp2_with fail
 refine bodyPost_ret (results_row_tmp rfl _ _ _ w.heap.size _ _ _ _ rfl (setRow_heap _ _ _ _ _ _ hk) Tryz.underlying65 (by kernel_rfl)) rfl ?_
 exact ⟨rfl, below_setRow (((Below.refl _ _).alloc (Nat.le_refl _) _).trans (hb1.mono (by simp))) (Nat.le_refl _) _⟩
set_option maxRecDepth 100000 in
set_option maxHeartbeats 4000000 in
theorem rowof_9 (w : World) : Calls Tryz.prog 38 #[.int .i64 9] w fun e w' => e = .returned (.tuple #[.agg (rowL [115, 110, 116] 1 1).val, .bool true]) ∧ Below w.heap.size w w' := by
 go_enter Tryz.func38, Tryz.ntmps38
 go_wp2_with (first | (go_at_call 88; refine (letters_any _ _ _ _ (by decide)).mono ?_; rintro e w1 ⟨rfl, hb1⟩; have hk := kept_row hb1) | (refine wpList_store_row rfl 65 _ _ rfl _ _ rfl rfl 65 _ hk (by kernel_rfl) rfl (RRow.one _) ?_))
 go_wp2_with fail
 refine bodyPost_ret (results_row_tmp rfl _ _ _ w.heap.size _ _ _ _ rfl (setRow_heap _ _ _ _ _ _ hk) Tryz.underlying65 (by kernel_rfl)) rfl ?_
 exact ⟨rfl, below_setRow (((Below.refl _ _).alloc (Nat.le_refl _) _).trans (hb1.mono (by simp))) (Nat.le_refl _) _⟩
set_option maxRecDepth 100000 in
set_option maxHeartbeats 4000000 in
theorem rowof_10 (w : World) : Calls Tryz.prog 38 #[.int .i64 10] w fun e w' => e = .returned (.tuple #[.agg (rowL [115, 116] 1 1).val, .bool true]) ∧ Below w.heap.size w w' := by
 go_enter Tryz.func38, Tryz.ntmps38
 go_wp2_with (first | (go_at_call 88; refine (letters_any _ _ _ _ (by decide)).mono ?_; rintro e w1 ⟨rfl, hb1⟩; have hk := kept_row hb1) | (refine wpList_store_row rfl 65 _ _ rfl _ _ rfl rfl 65 _ hk (by kernel_rfl) rfl (RRow.one _) ?_))
 go_wp2_with fail
 refine bodyPost_ret (results_row_tmp rfl _ _ _ w.heap.size _ _ _ _ rfl (setRow_heap _ _ _ _ _ _ hk) Tryz.underlying65 (by kernel_rfl)) rfl ?_
 exact ⟨rfl, below_setRow (((Below.refl _ _).alloc (Nat.le_refl _) _).trans (hb1.mono (by simp))) (Nat.le_refl _) _⟩
set_option maxRecDepth 100000 in
set_option maxHeartbeats 4000000 in
theorem rowof_30 (w : World) : Calls Tryz.prog 38 #[.int .i64 30] w fun e w' => e = .returned (.tuple #[.agg (rowL [115, 116] 1 1).val, .bool true]) ∧ Below w.heap.size w w' := by
 go_enter Tryz.func38, Tryz.ntmps38
 go_wp2_with (first | (go_at_call 88; refine (letters_any _ _ _ _ (by decide)).mono ?_; rintro e w1 ⟨rfl, hb1⟩; have hk := kept_row hb1) | (refine wpList_store_row rfl 65 _ _ rfl _ _ rfl rfl 65 _ hk (by kernel_rfl) rfl (RRow.one _) ?_))
 go_wp2_with fail
 refine bodyPost_ret (results_row_tmp rfl _ _ _ w.heap.size _ _ _ _ rfl (setRow_heap _ _ _ _ _ _ hk) Tryz.underlying65 (by kernel_rfl)) rfl ?_
 exact ⟨rfl, below_setRow (((Below.refl _ _).alloc (Nat.le_refl _) _).trans (hb1.mono (by simp))) (Nat.le_refl _) _⟩
set_option maxRecDepth 100000 in
set_option maxHeartbeats 4000000 in
theorem rowof_11 (w : World) : Calls Tryz.prog 38 #[.int .i64 11] w fun e w' => e = .returned (.tuple #[.agg (rowL [115, 116] 2 2).val, .bool true]) ∧ Below w.heap.size w w' := by
 go_enter Tryz.func38, Tryz.ntmps38
 go_wp2_with (first | (go_at_call 88; refine (letters_any _ _ _ _ (by decide)).mono ?_; rintro e w1 ⟨rfl, hb1⟩; have hk := kept_row hb1) | (refine wpList_store_row rfl 65 _ _ rfl _ _ rfl rfl 65 _ hk (by kernel_rfl) rfl (RRow.one _) ?_))
 go_wp2_with fail
 refine bodyPost_ret (results_row_tmp rfl _ _ _ w.heap.size _ _ _ _ rfl (setRow_heap _ _ _ _ _ _ hk) Tryz.underlying65 (by kernel_rfl)) rfl ?_
 exact ⟨rfl, below_setRow (((Below.refl _ _).alloc (Nat.le_refl _) _).trans (hb1.mono (by simp))) (Nat.le_refl _) _⟩
set_option maxRecDepth 100000 in
set_option maxHeartbeats 4000000 in
theorem rowof_12 (w : World) : Calls Tryz.prog 38 #[.int .i64 12] w fun e w' => e = .returned (.tuple #[.agg (rowL [115, 99, 116] 1 1).val, .bool true]) ∧ Below w.heap.size w w' := by
 go_enter Tryz.func38, Tryz.ntmps38
 go_wp2_with (first | (go_at_call 88; refine (letters_any _ _ _ _ (by decide)).mono ?_; rintro e w1 ⟨rfl, hb1⟩; have hk := kept_row hb1) | (refine wpList_store_row rfl 65 _ _ rfl _ _ rfl rfl 65 _ hk (by kernel_rfl) rfl (RRow.one _) ?_))
 go_wp2_with fail
 refine bodyPost_ret (results_row_tmp rfl _ _ _ w.heap.size _ _ _ _ rfl (setRow_heap _ _ _ _ _ _ hk) Tryz.underlying65 (by kernel_rfl)) rfl ?_
 exact ⟨rfl, below_setRow (((Below.refl _ _).alloc (Nat.le_refl _) _).trans (hb1.mono (by simp))) (Nat.le_refl _) _⟩
set_option maxRecDepth 100000 in
set_option maxHeartbeats 4000000 in
theorem rowof_13 (w : World) : Calls Tryz.prog 38 #[.int .i64 13] w fun e w' => e = .returned (.tuple #[.agg (rowL [100, 115, 119, 116, 108] 0 255).val, .bool true]) ∧ Below w.heap.size w w' := by
 go_enter Tryz.func38, Tryz.ntmps38
 go_wp2_with (first | (go_at_call 88; refine (letters_any _ _ _ _ (by decide)).mono ?_; rintro e w1 ⟨rfl, hb1⟩; have hk := kept_row hb1) | (refine wpList_store_row rfl 65 _ _ rfl _ _ rfl rfl 65 _ hk (by kernel_rfl) rfl (RRow.one _) ?_))
 go_wp2_with fail
 refine bodyPost_ret (results_row_tmp rfl _ _ _ w.heap.size _ _ _ _ rfl (setRow_heap _ _ _ _ _ _ hk) Tryz.underlying65 (by kernel_rfl)) rfl ?_
 exact ⟨rfl, below_setRow (((Below.refl _ _).alloc (Nat.le_refl _) _).trans (hb1.mono (by simp))) (Nat.le_refl _) _⟩
set_option maxRecDepth 100000 in
set_option maxHeartbeats 4000000 in
theorem rowof_14 (w : World) : Calls Tryz.prog 38 #[.int .i64 14] w fun e w' => e = .returned (.tuple #[.agg (rowL [100, 115, 119, 108] 0 3).val, .bool true]) ∧ Below w.heap.size w w' := by
 go_enter Tryz.func38, Tryz.ntmps38
 go_wp2_with (first | (go_at_call 88; refine (letters_any _ _ _ _ (by decide)).mono ?_; rintro e w1 ⟨rfl, hb1⟩; have hk := kept_row hb1) | (refine wpList_store_row rfl 65 _ _ rfl _ _ rfl rfl 65 _ hk (by kernel_rfl) rfl (RRow.one _) ?_))
 go_wp2_with fail
 refine bodyPost_ret (results_row_tmp rfl _ _ _ w.heap.size _ _ _ _ rfl (setRow_heap _ _ _ _ _ _ hk) Tryz.underlying65 (by kernel_rfl)) rfl ?_
 exact ⟨rfl, below_setRow (((Below.refl _ _).alloc (Nat.le_refl _) _).trans (hb1.mono (by simp))) (Nat.le_refl _) _⟩
set_option maxRecDepth 100000 in
set_option maxHeartbeats 4000000 in
theorem rowof_15 (w : World) : Calls Tryz.prog 38 #[.int .i64 15] w fun e w' => e = .returned (.tuple #[.agg (rowL [110, 119] 0 0).val, .bool true]) ∧ Below w.heap.size w w' := by
 go_enter Tryz.func38, Tryz.ntmps38
 go_wp2_with (first | (go_at_call 88; refine (letters_any _ _ _ _ (by decide)).mono ?_; rintro e w1 ⟨rfl, hb1⟩; have hk := kept_row hb1) | (refine wpList_store_row rfl 65 _ _ rfl _ _ rfl rfl 65 _ hk (by kernel_rfl) rfl (RRow.one _) ?_))
 go_wp2_with fail
 refine bodyPost_ret (results_row_tmp rfl _ _ _ w.heap.size _ _ _ _ rfl (setRow_heap _ _ _ _ _ _ hk) Tryz.underlying65 (by kernel_rfl)) rfl ?_
 exact ⟨rfl, below_setRow (((Below.refl _ _).alloc (Nat.le_refl _) _).trans (hb1.mono (by simp))) (Nat.le_refl _) _⟩
set_option maxRecDepth 100000 in
set_option maxHeartbeats 8000000 in
/-- What more tells is what RowOf tells, at any other operation. -/
theorem rowof_more (op : Int) (r : RRow) (q : Bool) (w : World) (hm : ∀ wx, Calls Tryz.prog 89 #[.int .i64 op] wx fun e w' => e = .returned (.tuple #[.agg r.val, .bool q]) ∧ Below wx.heap.size wx w')
  (h : op ≠ 1 ∧ op ≠ 6 ∧ op ≠ 7 ∧ op ≠ 2 ∧ op ≠ 3 ∧ op ≠ 4 ∧ op ≠ 5 ∧ op ≠ 8 ∧ op ≠ 28 ∧ op ≠ 34 ∧ op ≠ 37 ∧ op ≠ 39 ∧ op ≠ 40 ∧ op ≠ 9 ∧ op ≠ 10 ∧ op ≠ 30 ∧ op ≠ 11 ∧ op ≠ 12 ∧ op ≠ 13 ∧ op ≠ 14 ∧ op ≠ 15) : Calls Tryz.prog 38 #[.int .i64 op] w fun e w' => e = .returned (.tuple #[.agg r.val, .bool q]) ∧ Below w.heap.size w w' := by
 have HM := Lib.hid hm
 clear hm
 obtain ⟨n1, n6, n7, n2, n3, n4, n5, n8, n28, n34, n37, n39, n40, n9, n10, n30, n11, n12, n13, n14, n15⟩ := h
 have b1 : (op == 1) = false := beq_eq_false_iff_ne.2 n1
 have b6 : (op == 6) = false := beq_eq_false_iff_ne.2 n6
 have b7 : (op == 7) = false := beq_eq_false_iff_ne.2 n7
 have b2 : (op == 2) = false := beq_eq_false_iff_ne.2 n2
 have b3 : (op == 3) = false := beq_eq_false_iff_ne.2 n3
 have b4 : (op == 4) = false := beq_eq_false_iff_ne.2 n4
 have b5 : (op == 5) = false := beq_eq_false_iff_ne.2 n5
 have b8 : (op == 8) = false := beq_eq_false_iff_ne.2 n8
 have b28 : (op == 28) = false := beq_eq_false_iff_ne.2 n28
 have b34 : (op == 34) = false := beq_eq_false_iff_ne.2 n34
 have b37 : (op == 37) = false := beq_eq_false_iff_ne.2 n37
 have b39 : (op == 39) = false := beq_eq_false_iff_ne.2 n39
 have b40 : (op == 40) = false := beq_eq_false_iff_ne.2 n40
 have b9 : (op == 9) = false := beq_eq_false_iff_ne.2 n9
 have b10 : (op == 10) = false := beq_eq_false_iff_ne.2 n10
 have b30 : (op == 30) = false := beq_eq_false_iff_ne.2 n30
 have b11 : (op == 11) = false := beq_eq_false_iff_ne.2 n11
 have b12 : (op == 12) = false := beq_eq_false_iff_ne.2 n12
 have b13 : (op == 13) = false := beq_eq_false_iff_ne.2 n13
 have b14 : (op == 14) = false := beq_eq_false_iff_ne.2 n14
 have b15 : (op == 15) = false := beq_eq_false_iff_ne.2 n15
 clear n1 n6 n7 n2 n3 n4 n5 n8 n28 n34 n37 n39 n40 n9 n10 n30 n11 n12 n13 n14 n15
 go_enter Tryz.func38, Tryz.ntmps38
 go_wp2_with (first | (go_at_call 89; refine (HM.out _).mono ?_; rintro e w1 ⟨rfl, hb1⟩; have hk := kept_row hb1) | (refine wpList_store_row rfl 65 _ _ rfl _ _ rfl rfl 65 _ hk (by kernel_rfl) rfl (RRow.one _) ?_))
 go_wp2_with fail
 refine bodyPost_ret (results_row_tmp rfl _ _ _ w.heap.size _ _ _ _ rfl (setRow_heap _ _ _ _ _ _ hk) Tryz.underlying65 (by kernel_rfl)) rfl ?_
 exact ⟨rfl, below_setRow (((Below.refl _ _).alloc (Nat.le_refl _) _).trans (hb1.mono (by simp))) (Nat.le_refl _) _⟩
theorem rrowOf_any (op : Int) (w : World) : Calls Tryz.prog 38 #[.int .i64 op] w fun e w' => e = .returned (.tuple #[.agg (rrow op).val, .bool (opOk op)]) ∧ Below w.heap.size w w' := by
 by_cases h : 1 ≤ op ∧ op ≤ 40
 ·have hok : opOk op = true := by unfold opOk; exact decide_eq_true h
  rw [hok]
  obtain ⟨k, rfl⟩ : ∃ k : Nat, op = (k : Int) := ⟨op.toNat, by omega⟩
  have hk : k < 41 := by omega
  have hk1 : 1 ≤ k := by omega
  rw [rrow_at k hk1 hk]
  clear h hok
  match k, hk, hk1 with
  | 0, _, h0 => exact absurd h0 (by decide)
  | 1, _, _ => exact rowof_1 w
  | 2, _, _ => exact rowof_2 w
  | 3, _, _ => exact rowof_3 w
  | 4, _, _ => exact rowof_4 w
  | 5, _, _ => exact rowof_5 w
  | 6, _, _ => exact rowof_6 w
  | 7, _, _ => exact rowof_7 w
  | 8, _, _ => exact rowof_8 w
  | 9, _, _ => exact rowof_9 w
  | 10, _, _ => exact rowof_10 w
  | 11, _, _ => exact rowof_11 w
  | 12, _, _ => exact rowof_12 w
  | 13, _, _ => exact rowof_13 w
  | 14, _, _ => exact rowof_14 w
  | 15, _, _ => exact rowof_15 w
  | 16, _, _ => exact rowof_more 16 _ true w (fun wx => more_16 wx) (by decide)
  | 17, _, _ => exact rowof_more 17 _ true w (fun wx => more_17 wx) (by decide)
  | 18, _, _ => exact rowof_more 18 _ true w (fun wx => more_18 wx) (by decide)
  | 19, _, _ => exact rowof_more 19 _ true w (fun wx => more_19 wx) (by decide)
  | 20, _, _ => exact rowof_more 20 _ true w (fun wx => more_20 wx) (by decide)
  | 21, _, _ => exact rowof_more 21 _ true w (fun wx => more_21 wx) (by decide)
  | 22, _, _ => exact rowof_more 22 _ true w (fun wx => more_22 wx) (by decide)
  | 23, _, _ => exact rowof_more 23 _ true w (fun wx => more_23 wx) (by decide)
  | 24, _, _ => exact rowof_more 24 _ true w (fun wx => more_24 wx) (by decide)
  | 25, _, _ => exact rowof_more 25 _ true w (fun wx => more_25 wx) (by decide)
  | 26, _, _ => exact rowof_more 26 _ true w (fun wx => more_26 wx) (by decide)
  | 27, _, _ => exact rowof_more 27 _ true w (fun wx => more_27 wx) (by decide)
  | 28, _, _ => exact rowof_28 w
  | 29, _, _ => exact rowof_more 29 _ true w (fun wx => more_29 wx) (by decide)
  | 30, _, _ => exact rowof_30 w
  | 31, _, _ => exact rowof_more 31 _ true w (fun wx => more_31 wx) (by decide)
  | 32, _, _ => exact rowof_more 32 _ true w (fun wx => more_32 wx) (by decide)
  | 33, _, _ => exact rowof_more 33 _ true w (fun wx => more_33 wx) (by decide)
  | 34, _, _ => exact rowof_34 w
  | 35, _, _ => exact rowof_more 35 _ true w (fun wx => more_35 wx) (by decide)
  | 36, _, _ => exact rowof_more 36 _ true w (fun wx => more_36 wx) (by decide)
  | 37, _, _ => exact rowof_37 w
  | 38, _, _ => exact rowof_more 38 _ true w (fun wx => more_38 wx) (by decide)
  | 39, _, _ => exact rowof_39 w
  | 40, _, _ => exact rowof_40 w
  | k + 41, hk, _ => exact absurd hk (by omega)
 ·have hok : opOk op = false := by unfold opOk; exact decide_eq_false h
  rw [hok, rrow_no h]
  exact rowof_more op zRow false w (fun wx => more_no op wx h) (by omega)
end Go.Proofs.YtghgbikmlbildaaGreatDoor
