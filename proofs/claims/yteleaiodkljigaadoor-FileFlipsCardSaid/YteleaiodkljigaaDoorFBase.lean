/-
  Small functions of layer 26: numbers of four bytes, the next multiple of four.
-/
import Derived.Test.YteleaiodkljigaaDoorFSum
import Derived.Test.YteleaiodkljigaaDoorFDefs
import Derived.Laws.Rows
import Derived.Laws.Wrap64
import Derived.Lib.UnsafeStr
namespace Go.Proofs.YteleaiodkljigaaDoor
open Go.RowKit

theorem retS {l m : List UInt8} (h : l = m) : Ending.returned (.string ⟨l.toArray⟩) = .returned (.string ⟨m.toArray⟩) := by rw [h]
theorem retb {a b : Bool} (h : a = b) : Ending.returned (.bool a) = .returned (.bool b) := by rw [h]
def rowCells (cs : List UInt8) : Array Value := (cs.map fun b => Value.int .u8 (b.toNat : Int)).toArray
theorem rowCells_get {cs : List UInt8} {j : Nat} (h : j < cs.length) : (rowCells cs)[j]? = some (.int .u8 (cs[j].toNat : Int)) := by simp [rowCells, h]
/-- string(b) of the bytes b that lie in block B from place k on. -/
theorem conv_row (B k L c : Nat) (l cs : List UInt8) (t : TypeId) (fr : Nat × Nat) (w : World) (hh : w.heap[B]? = some (.cells (rowCells cs) t fr)) (e : l = (cs.drop k).take L) (hL : k + L ≤ cs.length) :
    (convert 26 9 (.slice (some ⟨B, k, none⟩) L c)).run Tryd.prog w = .ok (.string ⟨l.toArray⟩) w := by
  subst e
  have := run_convert_bytes_back (P := Tryd.prog) w 26 9 5 ⟨B, k, none⟩ c ((cs.drop k).take L) Tryd.underlying26 Tryd.underlying5 Tryd.underlying9 (fun j hj => by
    have hp : (⟨B, k, none⟩ : Addr).add j = ⟨B, k + j, none⟩ := by unfold Addr.add; split <;> simp_all
    rw [hp, cell_of_row _ _ _ _ _ _ hh, rowCells_get (by simp at hj; omega)]
    simp)
  rw [List.length_take, List.length_drop, Nat.min_eq_left (by omega)] at this
  exact this
theorem byte_val (m : Nat) : ((UInt8.ofNat m).toNat : Int) = (m : Int) % 256 := by
  rw [UInt8.toNat_ofNat']; omega

theorem be4_conv (m : Nat) (w : World) :
    (convert 26 9 (.slice (some ⟨w.heap.size, 0, none⟩) 4 4)).run Tryd.prog (w.alloc (.cells #[.int .u8 ((m : Int) / 16777216 % 256), .int .u8 ((m : Int) / 65536 % 256), .int .u8 ((m : Int) / 256 % 256), .int .u8 ((m : Int) % 256)] 5)) = .ok (.string ⟨(be4 m).toArray⟩) (w.alloc (.cells #[.int .u8 ((m : Int) / 16777216 % 256), .int .u8 ((m : Int) / 65536 % 256), .int .u8 ((m : Int) / 256 % 256), .int .u8 ((m : Int) % 256)] 5)) := by
  have e : rowCells (be4 m) = #[.int .u8 ((m : Int) / 16777216 % 256), .int .u8 ((m : Int) / 65536 % 256), .int .u8 ((m : Int) / 256 % 256), .int .u8 ((m : Int) % 256)] := by
    simp only [rowCells, be4, List.map_cons, List.map_nil, byte_val, Int.natCast_ediv]
    rfl
  rw [← e]
  exact conv_row w.heap.size 0 4 4 (be4 m) (be4 m) _ (0, 0) _ (heap_alloc_new _ _) rfl (Nat.le_refl _)
theorem andNot3 (x : Nat) (hx : x < 9223372036854775808) : bits .andNot .i64 (x : Int) 3 = ((x / 4 * 4 : Nat) : Int) := by
  have h1 : (BitVec.ofInt 64 (x : Int)).toNat = x := by
    rw [BitVec.ofInt_natCast, BitVec.toNat_ofNat]; exact Nat.mod_eq_of_lt (by omega)
  have h2 : (~~~ (BitVec.ofInt 64 3)).toNat = 18446744073709551612 := by decide
  show IntKind.i64.wrap ((BitVec.ofInt 64 (x : Int) &&& ~~~ (BitVec.ofInt 64 3)).toNat : Int) = _
  rw [BitVec.toNat_and, h1, h2]
  have a1 := Nat.and_div_two_pow (a := x) (b := 18446744073709551612) (n := 2)
  have a2 := Nat.and_mod_two_pow (a := x) (b := 18446744073709551612) (n := 2)
  have a3 : (18446744073709551612 : Nat) / 2 ^ 2 = 2 ^ 62 - 1 := by decide
  have a4 : (18446744073709551612 : Nat) % 2 ^ 2 = 0 := by decide
  rw [a3, Nat.and_two_pow_sub_one_eq_mod] at a1
  rw [a4, Nat.and_zero] at a2
  rw [IntKind.wrap_i64]
  omega

set_option maxHeartbeats 1000000 in
theorem number_any (n : Int) (w : World) (h0 : 0 ≤ n) (h1 : n ≤ 9223372036854775807) :
    Calls Tryd.prog 23 #[.int .i64 n] w fun e w' => e = .returned (.string ⟨(be4 n.toNat).toArray⟩) ∧ Below w.heap.size w w' := by
  obtain ⟨m, rfl⟩ := Int.eq_ofNat_of_zero_le h0
  rw [Int.toNat_natCast]
  have hcv := be4_conv m w
  go_enter Tryd.func23, Tryd.ntmps23
  go_wp2
  go_ret
  exact ⟨rfl, (Below.refl _ _).alloc (Nat.le_refl _) _⟩

set_option maxHeartbeats 1000000 in
theorem four_any (n : Int) (w : World) (h0 : 0 ≤ n) (h1 : n ≤ 9223372036854775807) :
    Calls Tryd.prog 28 #[.int .i64 n] w fun e w' => e = .returned (.string ⟨(be4 n.toNat).toArray⟩) ∧ Below w.heap.size w w' := by
  obtain ⟨m, rfl⟩ := Int.eq_ofNat_of_zero_le h0
  rw [Int.toNat_natCast]
  have hcv := be4_conv m w
  go_enter Tryd.func28, Tryd.ntmps28
  go_wp2
  go_ret
  exact ⟨rfl, (Below.refl _ _).alloc (Nat.le_refl _) _⟩

set_option maxHeartbeats 1000000 in
theorem padded_any (n : Int) (w : World) (h0 : 0 ≤ n) (h1 : n ≤ 9223372036854775000) :
    Calls Tryd.prog 21 #[.int .i64 n] w fun e w' => e = .returned (.int .i64 ((n + 3) / 4 * 4)) ∧ w = w' := by
  go_enter Tryd.func21, Tryd.ntmps21
  go_wp2
  go_ret
  obtain ⟨m, rfl⟩ := Int.eq_ofNat_of_zero_le h0
  exact ⟨ret1 ((andNot3 (m + 3) (by omega)).trans (by omega)), rfl⟩

end Go.Proofs.YteleaiodkljigaaDoor
