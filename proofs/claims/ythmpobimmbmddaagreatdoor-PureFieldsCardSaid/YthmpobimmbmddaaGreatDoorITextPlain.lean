/-
  Decimal texts: the plain functions. No program in sight.
-/
import Derived.Test.YthmpobimmbmddaaGreatDoorIPlain
namespace Go.Proofs.YthmpobimmbmddaaGreatDoor
open Go.RowKit

/-- The byte of a decimal digit. -/
def dgt (m : Nat) : UInt8 := UInt8.ofNat (48 + m % 10)
/-- The decimal digits of m (f bounds their number). -/
def digF : Nat → Nat → List UInt8
  | 0, _ => []
  | f + 1, m => if m < 10 then [dgt m] else digF f (m / 10) ++ [dgt m]
def dig (m : Nat) : List UInt8 := digF (m + 1) m
theorem digF_eq : ∀ (f g m : Nat), m < f → m < g → digF f m = digF g m
  | 0, _, _, h, _ => absurd h (Nat.not_lt_zero _)
  | _, 0, _, _, h => absurd h (Nat.not_lt_zero _)
  | f + 1, g + 1, m, h1, h2 => by
    unfold digF
    by_cases h : m < 10
    · rw [if_pos h, if_pos h]
    · rw [if_neg h, if_neg h, digF_eq f g (m / 10) (by omega) (by omega)]
theorem dig_small {m : Nat} (h : m < 10) : dig m = [dgt m] := by unfold dig digF; rw [if_pos h]
theorem dig_big {m : Nat} (h : ¬ m < 10) : dig m = dig (m / 10) ++ [dgt m] := by
  unfold dig
  rw [show digF (m + 1) m = digF m (m / 10) ++ [dgt m] by rw [digF, if_neg h], digF_eq m (m / 10 + 1) (m / 10) (by omega) (by omega)]
theorem dig_len : ∀ (k m : Nat), m < 10 ^ (k + 1) → (dig m).length ≤ k + 1
  | 0, m, h => by rw [dig_small (by omega)]; simp
  | k + 1, m, h => by
    by_cases hs : m < 10
    · rw [dig_small hs]; simp
    · have := dig_len k (m / 10) (by rw [Nat.pow_succ] at h; omega)
      rw [dig_big hs]; simp; omega
theorem dig_len20 {m : Nat} (h : m ≤ 18446744073709551616) : (dig m).length ≤ 20 := dig_len 19 m (by omega)
/-- The decimal text of an integer. -/
def txt (n : Int) : List UInt8 := if n < 0 then 45 :: dig n.natAbs else dig n.natAbs

/-! A row of bytes in memory. -/
def byteCells (cs : List UInt8) : Array Value := (cs.map fun b => Value.int .u8 (b.toNat : Int)).toArray
theorem byteCells_get {cs : List UInt8} {j : Nat} (h : j < cs.length) : (byteCells cs)[j]? = some (.int .u8 (cs[j].toNat : Int)) := by
  simp [byteCells, h]
theorem byteCells_set (cs : List UInt8) (j : Nat) (d : UInt8) : (byteCells cs).setIfInBounds j (.int .u8 (d.toNat : Int)) = byteCells (cs.set j d) := by
  simp [byteCells, List.map_set]
theorem dgt_toNat (m : Nat) : ((dgt m).toNat : Int) = 48 + (m : Int) % 10 := by
  unfold dgt
  have h : (UInt8.ofNat (48 + m % 10)).toNat = (48 + m % 10) % 256 := UInt8.toNat_ofNat'
  rw [h]; omega
theorem drop_set (cs : List UInt8) (k : Nat) (d : UInt8) (h : k < cs.length) : (cs.set k d).drop k = d :: cs.drop (k + 1) := by
  rw [List.drop_eq_getElem_cons (by simpa using h), List.drop_set_of_lt (by omega)]
  simp
theorem pow10 (j : Nat) : (10 : Nat) ^ (j + 1) = 10 ^ j * 10 := Nat.pow_succ ..

end Go.Proofs.YthmpobimmbmddaaGreatDoor
