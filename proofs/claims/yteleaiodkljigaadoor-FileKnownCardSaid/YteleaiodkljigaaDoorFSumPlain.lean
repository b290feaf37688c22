/-
  The CRC-32, bit by bit and half a byte at a time: the plain functions. No program in sight.
-/
import Derived.Below
import Derived.WalkKit
namespace Go.Proofs.YteleaiodkljigaaDoor
open Go.RowKit

/-- One bit's step. -/
def step (n : Nat) : Nat := if n % 2 = 1 then (n / 2) ^^^ 3988292384 else n / 2
def steps : Nat → Nat → Nat
  | 0, n => n
  | k + 1, n => steps k (step n)
def upd (n : Nat) (b : UInt8) : Nat := steps 8 (n ^^^ b.toNat)
def crcRun (l : List UInt8) : Nat := l.foldl upd 4294967295
def crc (l : List UInt8) : Nat := crcRun l ^^^ 4294967295

theorem xor_lt {a b : Nat} (ha : a < 4294967296) (hb : b < 4294967296) : a ^^^ b < 4294967296 := Nat.xor_lt_two_pow (n := 32) ha hb
theorem step_lt {n : Nat} (h : n < 4294967296) : step n < 4294967296 := by
  unfold step
  split
  · exact xor_lt (by omega) (by decide)
  · omega
theorem steps_lt : ∀ (k : Nat) {n : Nat}, n < 4294967296 → steps k n < 4294967296
  | 0, _, h => h
  | k + 1, _, h => steps_lt k (step_lt h)
theorem steps_snoc : ∀ (k n : Nat), steps (k + 1) n = step (steps k n)
  | 0, _ => rfl
  | k + 1, n => by rw [steps, steps_snoc k]; rfl
theorem byte_lt (b : UInt8) : b.toNat < 4294967296 := by have := b.toNat_lt; omega
theorem upd_lt {n : Nat} (b : UInt8) (h : n < 4294967296) : upd n b < 4294967296 := steps_lt 8 (xor_lt h (byte_lt b))
theorem crcRun_snoc (l : List UInt8) (b : UInt8) : crcRun (l ++ [b]) = upd (crcRun l) b := by simp [crcRun]
theorem crcRun_take {l : List UInt8} {k : Nat} (h : k < l.length) : crcRun (l.take (k + 1)) = upd (crcRun (l.take k)) l[k] := by
  rw [List.take_succ_eq_append_getElem h, crcRun_snoc]
theorem foldl_lt (l : List UInt8) : ∀ n : Nat, n < 4294967296 → l.foldl upd n < 4294967296 := by
  induction l with
  | nil => exact fun n h => h
  | cons b l ih => exact fun n h => ih _ (upd_lt b h)
theorem crcRun_lt (l : List UInt8) : crcRun l < 4294967296 := foldl_lt l _ (by decide)
theorem crc_lt (l : List UInt8) : crc l < 4294967296 := xor_lt (crcRun_lt l) (by decide)

/-! ### The step is linear -/
theorem xor_half (a b : Nat) : (a ^^^ b) / 2 = (a / 2) ^^^ (b / 2) := by
  have := Nat.shiftRight_xor_distrib (a := a) (b := b) (i := 1)
  simpa [Nat.shiftRight_eq_div_pow] using this
theorem xor_odd (a b : Nat) : (a ^^^ b) % 2 = (a % 2 + b % 2) % 2 := by
  rcases Nat.mod_two_eq_zero_or_one a with ha | ha <;> rcases Nat.mod_two_eq_zero_or_one b with hb | hb <;> simp [Nat.xor_mod_two_eq_one, ha, hb, Nat.mod_two_eq_zero_iff_testBit_zero]
theorem step_xor (a b : Nat) : step (a ^^^ b) = step a ^^^ step b := by
  have h1 := xor_half a b
  have h2 := xor_odd a b
  unfold step
  rw [h1, h2]
  rcases Nat.mod_two_eq_zero_or_one a with ha | ha <;> rcases Nat.mod_two_eq_zero_or_one b with hb | hb <;> simp [ha, hb]
  · rw [Nat.xor_assoc]
  · rw [Nat.xor_assoc, Nat.xor_comm (b / 2), Nat.xor_assoc]
  · rw [Nat.xor_assoc, ← Nat.xor_assoc 3988292384 (b / 2), Nat.xor_comm 3988292384 (b / 2), Nat.xor_assoc (b / 2), Nat.xor_self, Nat.xor_zero]
theorem steps_xor : ∀ (k a b : Nat), steps k (a ^^^ b) = steps k a ^^^ steps k b
  | 0, _, _ => rfl
  | k + 1, a, b => by rw [steps, step_xor, steps_xor k]; rfl
theorem steps_add : ∀ (j k n : Nat), steps (j + k) n = steps k (steps j n)
  | 0, k, n => by rw [Nat.zero_add]; rfl
  | j + 1, k, n => by rw [show j + 1 + k = j + k + 1 by omega, steps, steps_add j k]; rfl
/-! ### Half a byte at a time -/
def tabL : List Nat := [0, 498536548, 997073096, 651767980, 1994146192, 1802195444, 1303535960, 1342533948, 3988292384, 4027552580, 3604390888, 3412177804, 2607071920, 2262029012, 2685067896, 3183342108]
def tab (k : Nat) : Nat := tabL.getD k 0
theorem split16 (n : Nat) : (16 * (n / 16)) ^^^ (n % 16) = n := by
  have h1 := Nat.xor_div_two_pow (a := 16 * (n / 16)) (b := n % 16) (n := 4)
  have h2 := Nat.xor_mod_two_pow (a := 16 * (n / 16)) (b := n % 16) (n := 4)
  have e1 : 16 * (n / 16) / 2 ^ 4 = n / 16 := by omega
  have e2 : n % 16 / 2 ^ 4 = 0 := by omega
  have e3 : 16 * (n / 16) % 2 ^ 4 = 0 := by omega
  have e4 : n % 16 % 2 ^ 4 = n % 16 := by omega
  rw [e1, e2, Nat.xor_zero] at h1
  rw [e3, e4, Nat.zero_xor] at h2
  omega
theorem step_even (m : Nat) : step (2 * m) = m := by unfold step; rw [if_neg (by omega)]; omega
theorem steps4_mul (m : Nat) : steps 4 (16 * m) = m := by
  show step (step (step (step (16 * m)))) = m
  rw [show 16 * m = 2 * (2 * (2 * (2 * m))) by omega, step_even, step_even, step_even, step_even]
theorem tab_is : ∀ r, r < 16 → steps 4 r = tab r := by decide
theorem steps4 (n : Nat) : steps 4 n = (n / 16) ^^^ tab (n % 16) := by
  have h : steps 4 n = steps 4 ((16 * (n / 16)) ^^^ (n % 16)) := by rw [split16]
  rw [h, steps_xor, steps4_mul, tab_is _ (Nat.mod_lt _ (by decide))]
theorem tab_lt : ∀ r, r < 16 → tab r < 4294967296 := by decide
theorem upd_two (n : Nat) (b : UInt8) : upd n b = steps 4 (steps 4 (n ^^^ b.toNat)) := steps_add 4 4 _
theorem bits_xor_u32_nat (a b : Nat) (ha : a < 4294967296) (hb : b < 4294967296) : bits .xor .u32 (a : Int) (b : Int) = ((a ^^^ b : Nat) : Int) := by
  have hx : a ^^^ b < 2 ^ 32 := Nat.xor_lt_two_pow (by omega) (by omega)
  have h1 : (BitVec.ofInt 32 (a : Int)).toNat = a := by
    rw [BitVec.ofInt_natCast, BitVec.toNat_ofNat]; exact Nat.mod_eq_of_lt (by omega)
  have h2 : (BitVec.ofInt 32 (b : Int)).toNat = b := by
    rw [BitVec.ofInt_natCast, BitVec.toNat_ofNat]; exact Nat.mod_eq_of_lt (by omega)
  show IntKind.u32.wrap ((BitVec.ofInt 32 (a : Int) ^^^ BitVec.ofInt 32 (b : Int)).toNat : Int) = _
  rw [BitVec.toNat_xor, h1, h2, IntKind.wrap_u32]
  omega
theorem bits_and15 (x : Nat) (hx : x < 4294967296) : bits .and .u32 (x : Int) 15 = ((x % 16 : Nat) : Int) := by
  have h1 : (BitVec.ofInt 32 (x : Int)).toNat = x := by
    rw [BitVec.ofInt_natCast, BitVec.toNat_ofNat]; exact Nat.mod_eq_of_lt (by omega)
  show IntKind.u32.wrap ((BitVec.ofInt 32 (x : Int) &&& BitVec.ofInt 32 15).toNat : Int) = _
  have h2 : (BitVec.ofInt 32 15).toNat = 15 := by decide
  rw [BitVec.toNat_and, h1, h2, show (15 : Nat) = 2 ^ 4 - 1 by rfl, Nat.and_two_pow_sub_one_eq_mod, IntKind.wrap_u32]
  omega
theorem bits_not (c : Nat) (hc : c < 4294967296) : bits .xor .u32 IntKind.u32.max (c : Int) = ((c ^^^ 4294967295 : Nat) : Int) := by
  rw [Nat.xor_comm]; exact bits_xor_u32_nat 4294967295 c (by decide) hc

end Go.Proofs.YteleaiodkljigaaDoor
