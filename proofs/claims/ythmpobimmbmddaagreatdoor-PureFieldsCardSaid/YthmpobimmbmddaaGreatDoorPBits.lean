/-
  bits.length, Valid, Of and the writer: the walks.
-/
import Derived.Test.YthmpobimmbmddaaGreatDoorCWalk0
import Derived.Test.YthmpobimmbmddaaGreatDoorBitsP
import Derived.Laws.BitsLemmas
import Derived.Laws.AppendOwn
import Derived.OwnWalk
import Derived.Maps.AppendAt
import Derived.Lib.FrozenHead
import Derived.Lib.OwnKind
namespace Go.Proofs.YthmpobimmbmddaaGreatDoor
open Go.RowKit
set_option linter.unusedVariables false
set_option linter.unusedSimpArgs false

set_option maxRecDepth 100000 in
set_option maxHeartbeats 4000000 in
theorem blen_any (n : Nat) (hn : n ≤ 1152921504606846976) (w : World) : Calls Tryz.prog 127 #[.int .i64 n] w fun e w' => e = .returned (.int .i64 ((n + 7) / 8 : Nat)) ∧ w = w' := by
  go_enter Tryz.func127, Tryz.ntmps127
  go_wp2_with fail
  · go_ret
    have h : 0 < (n : Int) % 8 := by assumption
    exact ⟨ret1 (by omega), rfl⟩
  · go_ret
    have h : (n : Int) % 8 ≤ 0 := by assumption
    exact ⟨ret1 (by omega), rfl⟩
def byteAt (y : ByteArray) (k : Nat) : UInt8 := (y.data.toList[k]?).getD 0
theorem byteAt_in {y : ByteArray} {k : Nat} (h : k < y.size) : byteAt y k = y[k] := by
  have e : y.data.toList[k]? = some y[k] := by rw [Array.getElem?_toList]; exact Array.getElem?_eq_getElem h
  unfold byteAt; rw [e]; rfl
theorem byteAt_out {y : ByteArray} {k : Nat} (h : y.size ≤ k) : byteAt y k = 0 := by
  have e : y.data.toList[k]? = none := List.getElem?_eq_none (by simpa using h)
  unfold byteAt; rw [e]; rfl
/-- The eight bits from i on. -/
def eightN (y : ByteArray) (i : Nat) : Nat := ((byteAt y (i / 8)).toNat <<< (i % 8)) % 256 ||| (byteAt y (i / 8 + 1)).toNat >>> (8 - i % 8)
theorem or_u8 (a b : Nat) (ha : a < 256) (hb : b < 256) : bits .or .u8 (a : Int) (b : Int) = ((a ||| b : Nat) : Int) :=
  (bits_nat .u8 8 (by decide) (fun n h0 h1 => by rw [IntKind.wrap_u8]; omega) a b ha hb).2
theorem and_u8 (a b : Nat) (ha : a < 256) (hb : b < 256) : bits .and .u8 (a : Int) (b : Int) = ((a &&& b : Nat) : Int) :=
  (bits_nat .u8 8 (by decide) (fun n h0 h1 => by rw [IntKind.wrap_u8]; omega) a b ha hb).1
theorem shl_u8 (c : UInt8) (k : Nat) : ((c.toNat : Int) * 2 ^ k % 256) = (((c.toNat <<< k) % 256 : Nat) : Int) := by
  rw [Nat.shiftLeft_eq]; simp
theorem shr_u8 (c : UInt8) (k : Nat) : ((c.toNat : Int) / 2 ^ k) = ((c.toNat >>> k : Nat) : Int) := by
  rw [Nat.shiftRight_eq_div_pow]; simp
theorem shr_lt (c : UInt8) (k : Nat) : c.toNat >>> k < 256 := by
  have := c.toNat_lt
  rw [Nat.shiftRight_eq_div_pow]
  exact Nat.lt_of_le_of_lt (Nat.div_le_self _ _) this
set_option maxRecDepth 100000 in
set_option maxHeartbeats 4000000 in
theorem eight_any (y : ByteArray) (i C : Nat) (w : World) (hC : w.heap[C]? = some (.cells #[.string y] 9 (0, 0))) (hi : i / 8 < y.size) (hy : y.size ≤ 1152921504606846976) : Calls Tryz.prog 129 #[.int .i64 i, .pointer (some ⟨C, 0, none⟩)] w fun e w' => e = .returned (.int .u8 (eightN y i)) ∧ w = w' := by
  have hc : w.cell? ⟨C, 0, none⟩ = some (.string y) := by rw [cell_of_row _ _ _ _ _ _ hC]; rfl
  have hm : ((i : Int)).tmod 8 = ((i % 8 : Nat) : Int) := by rw [Int.tmod_eq_emod_of_nonneg (by omega)]; omega
  have hd : ((i : Int)).tdiv 8 = ((i / 8 : Nat) : Int) := by rw [Int.tdiv_eq_ediv_of_nonneg (by omega)]; omega
  have HX := Lib.hid (byteAt_in hi)
  have HN := Lib.hid (fun h => byteAt_in (y := y) (k := i / 8 + 1) h)
  have HO := Lib.hid (fun h => byteAt_out (y := y) (k := i / 8 + 1) h)
  clear hC
  go_enter Tryz.func129, Tryz.ntmps129
  go_wp2_with fail
  · go_ret
    have h1 : (i : Int) / 8 + 1 < (y.size : Int) := by assumption
    refine ⟨ret1 ?_, rfl⟩
    unfold eightN
    rw [HX.out, HN.out (by omega), shl_u8, shr_u8, or_u8 _ _ (Nat.mod_lt _ (by decide)) (shr_lt _ _)]
  · go_ret
    have h1 : (y.size : Int) ≤ (i : Int) / 8 + 1 := by assumption
    refine ⟨ret1 ?_, rfl⟩
    unfold eightN
    rw [HX.out, HO.out (by omega), shl_u8]
    simp
  · go_ret
    have h1 : (i : Int) % 8 ≤ 0 := by assumption
    refine ⟨ret1 ?_, rfl⟩
    have e : (byteAt y (i / 8 + 1)).toNat >>> (8 - i % 8) = 0 := by
      rw [show 8 - i % 8 = 8 by omega, Nat.shiftRight_eq_div_pow]
      have := (byteAt y (i / 8 + 1)).toNat_lt
      omega
    unfold eightN
    rw [HX.out, e, shl_u8]
    simp
end Go.Proofs.YthmpobimmbmddaaGreatDoor
