/-
  The plain mathematics of layer 1 (64-bit integers with an error number): no program in sight. Nothing is assumed but what each theorem says. Units of code in memory: the plain data, and what it is that cells hold them. No program in sight. Great, Find, Raises: the plain functions. No program in sight. The cells of an element of a slice, one by one. No program in sight. left, Great, large, Find, Raises: the walks.
-/
import Derived.IntWalk
import Derived.Below
import Derived.Laws.Wrap64
import Derived.WalkKit
import Derived.ChangeArms
import Derived.DataReads
import Derived.Lib.Hide
import Derived.Test.YtghgbikmlbildaaGreatDoorProg
import Derived.WalkSpells
import Derived.WalkLawsBesides
import Derived.Handy
import Derived.Deep.QuietTactic
import Derived.BigQuiet
namespace Go.Proofs.YtghgbikmlbildaaGreatDoor
open Go.RowKit

/-- z is a 64-bit integer. -/
def I64 (z : Int) : Prop := -9223372036854775808 ≤ z ∧ z ≤ 9223372036854775807
instance (z : Int) : Decidable (I64 z) := by unfold I64; infer_instance
/-- The value where z fits, else 0; and the error number (ErrRange is 7). -/
def okv (z : Int) : Int := if I64 z then z else 0
def oke (z : Int) : Int := if I64 z then 0 else 7
theorem okv_fit {z : Int} (h : I64 z) : okv z = z := by unfold okv; rw [if_pos h]
theorem oke_fit {z : Int} (h : I64 z) : oke z = 0 := by unfold oke; rw [if_pos h]
theorem okv_not {z : Int} (h : ¬ I64 z) : okv z = 0 := by unfold okv; rw [if_neg h]
theorem oke_not {z : Int} (h : ¬ I64 z) : oke z = 7 := by unfold oke; rw [if_neg h]
theorem okv_i64 (z : Int) : I64 (okv z) := by unfold okv; split <;> simp_all [I64]
theorem ret2 {k j : IntKind} {a b c d : Int} (h : a = c) (h' : b = d) : Ending.returned (.tuple #[.int k a, .int j b]) = .returned (.tuple #[.int k c, .int j d]) := by rw [h, h']
theorem retb {a b : Bool} (h : a = b) : Ending.returned (.bool a) = .returned (.bool b) := by rw [h]
theorem ret1 {k : IntKind} {a b : Int} (h : a = b) : Ending.returned (.int k a) = .returned (.int k b) := by rw [h]

theorem wrap_fit {z : Int} (h : I64 z) : wrap64 z = z := IntWalk.wrap64_in z h
/-- The three ways through Add: the signs differ; they agree and the sum's sign is theirs, or not. -/
theorem add_diff {a b : Int} (ha : I64 a) (hb : I64 b) (h : ¬(a < 0 ↔ b < 0)) : I64 (a + b) := by
 unfold I64 at *; by_cases q1 : a < 0 <;> by_cases q2 : b < 0 <;> simp [q1, q2] at h <;> omega
theorem add_over {a b : Int} (h : a < 0 ↔ b < 0) (h2 : (!decide (wrap64 (a + b) < 0) == decide (b < 0)) = true) : ¬ I64 (a + b) := by
 intro hf; rw [wrap_fit hf] at h2; by_cases q1 : a < 0 <;> by_cases q2 : b < 0 <;> simp [q1, q2] at h h2 <;> omega
theorem add_fits {a b : Int} (ha : I64 a) (hb : I64 b) (h : a < 0 ↔ b < 0) (h2 : (!decide (wrap64 (a + b) < 0) == decide (b < 0)) = false) : I64 (a + b) := by
 unfold I64 wrap64 at *; by_cases q1 : a < 0 <;> by_cases q2 : b < 0 <;> simp [q1, q2] at h h2 <;> omega
theorem sub_same {a b : Int} (ha : I64 a) (hb : I64 b) (h : a < 0 ↔ b < 0) : I64 (a - b) := by
 unfold I64 at *; by_cases q1 : a < 0 <;> by_cases q2 : b < 0 <;> simp [q1, q2] at h <;> omega
theorem sub_over {a b : Int} (h : ¬(a < 0 ↔ b < 0)) (h2 : (!decide (a < 0) == decide (b < 0)) = true ∧ (!decide (wrap64 (a - b) < 0) == decide (a < 0)) = true) : ¬ I64 (a - b) := by
 intro hf; rw [wrap_fit hf] at h2; by_cases q1 : a < 0 <;> by_cases q2 : b < 0 <;> simp [q1, q2] at h h2 <;> omega
theorem sub_fits {a b : Int} (ha : I64 a) (hb : I64 b) (h : ¬(a < 0 ↔ b < 0)) (h2 : (!decide (a < 0) == decide (b < 0)) = false ∨ (!decide (wrap64 (a - b) < 0) == decide (a < 0)) = false) : I64 (a - b) := by
 unfold I64 wrap64 at *; by_cases q1 : a < 0 <;> by_cases q2 : b < 0 <;> simp [q1, q2] at h h2 <;> omega
theorem to_ok {k : IntKind} {z : Int} (h : I64 z) : Ending.returned (.tuple #[.int k (wrap64 z), .int k 0]) = .returned (.tuple #[.int k (okv z), .int k (oke z)]) := by rw [wrap_fit h, okv_fit h, oke_fit h]
theorem to_err {k : IntKind} {z : Int} (h : ¬ I64 z) : Ending.returned (.tuple #[.int k 0, .int k 7]) = .returned (.tuple #[.int k (okv z), .int k (oke z)]) := by rw [okv_not h, oke_not h]

/-- Div and Rem, truncated toward zero; ErrArg is 2. -/
def divv (a b : Int) : Int := if b = 0 then 0 else okv (a.tdiv b)
def dive (a b : Int) : Int := if b = 0 then 2 else oke (a.tdiv b)
def remv (a b : Int) : Int := if b = 0 then 0 else a.tmod b
def reme (b : Int) : Int := if b = 0 then 2 else 0

theorem div_fits {a b : Int} (ha : I64 a) (hb : ¬ b = 0) (h : ¬ (a = -9223372036854775808 ∧ b = -1)) : I64 (a.tdiv b) := by
 have h2 : (a.tdiv b).natAbs = a.natAbs / b.natAbs := Int.natAbs_tdiv a b
 unfold I64 at *
 by_cases hb1 : b.natAbs = 1
 ·rw [hb1, Nat.div_one] at h2
  rcases Int.natAbs_eq b with e | e
  ·have hb' : b = 1 := by omega
   subst hb'; rw [Int.tdiv_one]; exact ha
  ·have hb' : b = -1 := by omega
   subst hb'; omega
 ·have h3 : a.natAbs / b.natAbs ≤ a.natAbs / 2 := Nat.div_le_div_left (by omega) (by omega)
  omega
theorem rem_fits {a b : Int} (ha : I64 a) : I64 (a.tmod b) := by
 have h2 : (a.tmod b).natAbs = a.natAbs % b.natAbs := Int.natAbs_tmod a b
 have h3 : a.natAbs % b.natAbs ≤ a.natAbs := Nat.mod_le _ _
 unfold I64 at *
 by_cases h : 0 ≤ a
 ·have := Int.tmod_nonneg b h
  omega
 ·have := Int.tmod_nonneg b (a := -a) (by omega)
  rw [Int.neg_tmod] at this
  omega
theorem two64 : (2 : Int) ^ 64 = 18446744073709551616 := by decide
theorem two_pos (k : Nat) : (0 : Int) < 2 ^ k := Int.pow_pos (by omega)
theorem up_over {a : Int} {k : Nat} (ha : I64 a) (h0 : ¬ a = 0) (h : 63 < (k : Int) ∨ ¬ wrap64 (a * 2 ^ k) / 2 ^ k = a) : ¬ I64 (a * 2 ^ k) := by
 intro hf
 rcases h with h | h
 ·unfold I64 at *
  have hk : (2 : Int) ^ 64 ≤ 2 ^ k := by
   have : (2 : Nat) ^ 64 ≤ 2 ^ k := Nat.pow_le_pow_right (by omega) (by omega)
   exact_mod_cast this
  rw [two64] at hk
  generalize (2 : Int) ^ k = p at *
  by_cases hp : 0 < a
  ·have := Int.mul_le_mul_of_nonneg_right (show (1 : Int) ≤ a by omega) (show (0 : Int) ≤ p by omega)
   omega
  ·have := Int.mul_le_mul_of_nonneg_right (show a ≤ (-1 : Int) by omega) (show (0 : Int) ≤ p by omega)
   omega
 ·rw [wrap_fit hf] at h
  exact h (Int.mul_ediv_cancel _ (Int.ne_of_gt (two_pos k)))
theorem wrap_is (z : Int) : ∃ m : Int, wrap64 z = z + 18446744073709551616 * m := ⟨-((z + 9223372036854775808) / 18446744073709551616), by unfold wrap64; omega⟩
theorem wrap_i64 (z : Int) : I64 (wrap64 z) := by unfold I64 wrap64; omega
theorem up_fits {a : Int} {k : Nat} (hk : k ≤ 64) (h : wrap64 (a * 2 ^ k) / 2 ^ k = a) : I64 (a * 2 ^ k) := by
 have hp := two_pos k
 obtain ⟨m, hm⟩ := wrap_is (a * 2 ^ k)
 have e : (18446744073709551616 : Int) = 2 ^ k * 2 ^ (64 - k) := by rw [← Int.pow_add, ← two64]; congr 1; omega
 have e2 : wrap64 (a * 2 ^ k) = 2 ^ k * (a + 2 ^ (64 - k) * m) := by rw [hm, e, Int.mul_add, Int.mul_comm a, Int.mul_assoc]
 rw [e2, Int.mul_ediv_cancel_left _ (Int.ne_of_gt hp)] at h
 have e3 : (2 : Int) ^ (64 - k) * m = 0 := by omega
 have e4 : wrap64 (a * 2 ^ k) = a * 2 ^ k := by rw [e2, h, Int.mul_comm]
 rw [← e4]; exact wrap_i64 _

/-- a shifted to the left by n places (to the right by -n, rounded down). -/
def shv (a n : Int) : Int := if n < 0 then a / 2 ^ (-n).toNat else okv (a * 2 ^ n.toNat)
def she (a n : Int) : Int := if n < 0 then 0 else oke (a * 2 ^ n.toNat)

theorem shr_min {a : Int} (ha : I64 a) (k : Nat) : a / 2 ^ min k 64 = a / 2 ^ k := by
 by_cases hk : k ≤ 64
 ·rw [Nat.min_eq_left hk]
 ·rw [Nat.min_eq_right (by omega), two64]
  have h64 : (2 : Int) ^ 64 ≤ 2 ^ k := by
   have : (2 : Nat) ^ 64 ≤ 2 ^ k := Nat.pow_le_pow_right (by omega) (by omega)
   exact_mod_cast this
  rw [two64] at h64
  unfold I64 at ha
  generalize (2 : Int) ^ k = p at *
  by_cases h0 : 0 ≤ a
  ·rw [Int.ediv_eq_zero_of_lt h0 (by omega), Int.ediv_eq_zero_of_lt h0 (by omega)]
  ·have e1 : a / 18446744073709551616 = -1 := by omega
   have e2 : a / p = -1 := by
    have h1 := Int.mul_ediv_self_le (x := a) (k := p) (by omega)
    have h2 := Int.lt_mul_ediv_self_add (x := a) (k := p) (by omega)
    by_cases c : a / p ≤ -2
    ·have := Int.mul_le_mul_of_nonneg_left c (show (0 : Int) ≤ p by omega)
     omega
    ·by_cases d : 0 ≤ a / p
     ·have := Int.mul_nonneg (show (0 : Int) ≤ p by omega) d
      omega
     ·omega
   rw [e1, e2]
theorem mul_diff {a b : Int} (h : (!decide (a < 0) == decide (b < 0)) = true) : a * b = -((a.natAbs : Int) * (b.natAbs : Int)) := by
 by_cases q1 : a < 0 <;> by_cases q2 : b < 0 <;> simp [q1, q2] at h
 ·rw [show (a.natAbs : Int) = -a by omega, show (b.natAbs : Int) = b by omega, Int.neg_mul, Int.neg_neg]
 ·rw [show (a.natAbs : Int) = a by omega, show (b.natAbs : Int) = -b by omega, Int.mul_neg, Int.neg_neg]
theorem mul_same {a b : Int} (h : (!decide (a < 0) == decide (b < 0)) = false) : a * b = (a.natAbs : Int) * (b.natAbs : Int) := by
 by_cases q1 : a < 0 <;> by_cases q2 : b < 0 <;> simp [q1, q2] at h
 ·rw [show (a.natAbs : Int) = -a by omega, show (b.natAbs : Int) = -b by omega, Int.neg_mul_neg]
 ·rw [show (a.natAbs : Int) = a by omega, show (b.natAbs : Int) = b by omega]
theorem mul_pos (a b : Int) : 0 ≤ (a.natAbs : Int) * (b.natAbs : Int) := Int.mul_nonneg (by omega) (by omega)
theorem mul_neg_val {P : Int} (h0 : 0 ≤ P) (h : P / 18446744073709551616 ≤ 0) (h1 : P % 18446744073709551616 ≤ 9223372036854775808) : wrap64 (IntKind.u64.wrap (-(P % 18446744073709551616))) = -P := by
 rw [IntKind.wrap_u64]; unfold wrap64; omega
theorem mul_pos_val {P : Int} (h0 : 0 ≤ P) (h : P / 18446744073709551616 ≤ 0) : P % 18446744073709551616 = P := by omega
/-- Bit k of -y. -/
def bitv (y : Int) (k : Nat) : Bool := decide (-y / 2 ^ k % 2 = 1)
theorem bit_val {y : Int} (h1 : -9223372036854775808 ≤ y) (h0 : y ≤ 0) (k : Nat) : ((IntKind.u64.wrap (wrap64 (-y)) / 2 ^ k).tmod 2 == 1) = bitv y k := by
 have e : IntKind.u64.wrap (wrap64 (-y)) = -y := by rw [IntKind.wrap_u64]; unfold wrap64; omega
 rw [e, Int.tmod_eq_emod_of_nonneg (Int.ediv_nonneg (by omega) (Int.le_of_lt (Int.pow_pos (by omega))))]
 rfl
/-! Doubling and halving, one place at a time. -/
theorem pow_succ2 (a : Int) (k : Nat) : a * 2 ^ (k + 1) = a * 2 ^ k * 2 := by rw [Int.pow_succ, Int.mul_assoc]
theorem pow_over {a : Int} {k n : Nat} (hk : k < n) (h : a * 2 ^ k < -4611686018427387904 ∨ 4611686018427387903 < a * 2 ^ k) : ¬ I64 (a * 2 ^ n) := by
 have e : a * 2 ^ n = a * 2 ^ k * 2 ^ (n - k) := by rw [Int.mul_assoc, ← Int.pow_add]; congr 2; omega
 have hp : (2 : Int) ≤ 2 ^ (n - k) := by
  have : (2 : Nat) ^ 1 ≤ 2 ^ (n - k) := Nat.pow_le_pow_right (by omega) (by omega)
  exact_mod_cast this
 rw [e]
 generalize a * 2 ^ k = c at *
 generalize (2 : Int) ^ (n - k) = p at *
 unfold I64
 rcases h with h | h
 ·have := Int.mul_le_mul_of_nonneg_left hp (show 0 ≤ -c by omega)
  rw [Int.neg_mul, Int.neg_mul] at this
  omega
 ·have := Int.mul_le_mul_of_nonneg_left hp (show 0 ≤ c by omega)
  omega
theorem pow_zero_end {a : Int} {k n : Nat} (h : a * 2 ^ k = 0) : a * 2 ^ n = 0 := by
 rcases Int.mul_eq_zero.1 h with h | h
 ·rw [h, Int.zero_mul]
 ·have := two_pos k; omega
theorem half_succ (a : Int) (k : Nat) : a / 2 ^ (k + 1) = a / 2 ^ k / 2 := by rw [Int.pow_succ, Int.ediv_ediv_of_nonneg (Int.le_of_lt (two_pos k))]
theorem half_end {a : Int} {k n : Nat} (hk : k ≤ n) (h : a / 2 ^ k = 0 ∨ a / 2 ^ k = -1) : a / 2 ^ n = a / 2 ^ k := by
 obtain ⟨m, rfl⟩ : ∃ m, n = k + m := ⟨n - k, by omega⟩
 rw [Int.pow_add, ← Int.ediv_ediv_of_nonneg (Int.le_of_lt (two_pos k))]
 have := two_pos m
 rcases h with h | h <;> rw [h]
 ·exact Int.zero_ediv _
 ·generalize (2 : Int) ^ m = p at *
  have h1 := Int.mul_ediv_self_le (x := -1) (k := p) (by omega)
  have h2 := Int.lt_mul_ediv_self_add (x := -1) (k := p) (by omega)
  by_cases c : -1 / p ≤ -2
  ·have := Int.mul_le_mul_of_nonneg_left c (show (0 : Int) ≤ p by omega)
   omega
  ·by_cases d : 0 ≤ -1 / p
   ·have := Int.mul_nonneg (show (0 : Int) ≤ p by omega) d
    omega
   ·omega
/-- A truncated half, made the half rounded down. -/
theorem half_pos {a : Int} (h : 0 ≤ a) : a.tdiv 2 = a / 2 := Int.tdiv_eq_ediv_of_nonneg h
theorem half_neg_even {a : Int} (h : a.tmod 2 = 0) : a.tdiv 2 = a / 2 := by
 have h1 := Int.mul_tdiv_add_tmod a 2
 omega
theorem half_neg_odd {a : Int} (h0 : a < 0) (h : ¬ a.tmod 2 = 0) : a.tdiv 2 - 1 = a / 2 := by
 have h1 := Int.mul_tdiv_add_tmod a 2
 have h2 : (-a).tmod 2 = (-a) % 2 := Int.tmod_eq_emod_of_nonneg (by omega)
 rw [Int.neg_tmod] at h2
 omega
theorem shv_big {a n : Int} (ha : I64 a) (h : 63 < n) : shv a n = 0 ∧ she a n = if a = 0 then 0 else 7 := by
 unfold shv she
 rw [if_neg (by omega), if_neg (by omega)]
 by_cases z : a = 0
 ·subst z; rw [Int.zero_mul]; exact ⟨rfl, rfl⟩
 ·have := up_over (k := n.toNat) ha z (Or.inl (by omega))
  rw [if_neg z]; exact ⟨okv_not this, oke_not this⟩
theorem shv_same {a n m : Int} (ha : I64 a) (h : 63 < n) (h' : 63 < m) : shv a n = shv a m ∧ she a n = she a m := by
 rw [(shv_big ha h).1, (shv_big ha h).2, (shv_big ha h').1, (shv_big ha h').2]; exact ⟨rfl, rfl⟩
theorem shv_up {a n : Int} (h : 0 ≤ n) : shv a n = okv (a * 2 ^ n.toNat) ∧ she a n = oke (a * 2 ^ n.toNat) := by
 unfold shv she; rw [if_neg (by omega), if_neg (by omega)]; exact ⟨rfl, rfl⟩
/-! Multiplication by doubling: x = -|a|, Y = |b|; after the bits from k on, out = x * (Y / 2^k). -/
/-- Y's bits from k on. -/
def hi (y : Int) (k : Nat) : Int := -y / 2 ^ k
theorem hi_top {y : Int} (h : I64 y) (h0 : y ≤ 0) : hi y 64 = 0 := by
 unfold hi; rw [two64]; unfold I64 at h; omega
theorem hi_zero (y : Int) : hi y 0 = -y := by simp [hi]
theorem hi_step (y : Int) (k : Nat) : hi y k = hi y (k + 1) * 2 + if bitv y k then 1 else 0 := by
 unfold hi bitv
 rw [half_succ]
 by_cases h : -y / 2 ^ k % 2 = 1
 ·rw [if_pos (by simpa using h)]; omega
 ·rw [if_neg (by simpa using h)]; omega
theorem hi_nonneg {y : Int} (h0 : y ≤ 0) (k : Nat) : 0 ≤ hi y k := Int.ediv_nonneg (by omega) (Int.le_of_lt (two_pos k))
theorem hi_mono {y : Int} (h0 : y ≤ 0) (k : Nat) : hi y k ≤ -y := Int.ediv_le_self _ (by omega)
theorem hi_bit1 {y : Int} {k : Nat} (h : bitv y k = true) : hi y k = hi y (k + 1) * 2 + 1 := by rw [hi_step, if_pos h]
theorem hi_bit0 {y : Int} {k : Nat} (h : bitv y k = false) : hi y k = hi y (k + 1) * 2 := by rw [hi_step, if_neg (by simp [h])]; omega
/-- If a partial product is too great, so is the product. -/
theorem mul_great {x y q : Int} (hx : x ≤ 0) (hq : q ≤ -y) (h : x * q < -9223372036854775808) : ¬ I64 (x * y) ∧ ¬ I64 (-(x * y)) := by
 have h1 := Int.mul_le_mul_of_nonneg_left hq (show 0 ≤ -x by omega)
 rw [Int.neg_mul, Int.neg_mul, Int.mul_neg] at h1
 unfold I64
 omega

end Go.Proofs.YtghgbikmlbildaaGreatDoor
namespace Go.Proofs.YtghgbikmlbildaaGreatDoor
open Go.RowKit
set_option linter.unusedVariables false
set_option linter.unusedSimpArgs false

/-- A term. -/
inductive Tm where
 | mk (kind int gen : Int) (name func : ByteArray) (arity : Int) (items : List Tm) (bytes : ByteArray) (bits : Int)
namespace Tm
def kind : Tm → Int | .mk a _ _ _ _ _ _ _ _ => a
def int : Tm → Int | .mk _ a _ _ _ _ _ _ _ => a
def gen : Tm → Int | .mk _ _ a _ _ _ _ _ _ => a
def name : Tm → ByteArray | .mk _ _ _ a _ _ _ _ _ => a
def func : Tm → ByteArray | .mk _ _ _ _ a _ _ _ _ => a
def arity : Tm → Int | .mk _ _ _ _ _ a _ _ _ => a
def items : Tm → List Tm | .mk _ _ _ _ _ _ a _ _ => a
def bytes : Tm → ByteArray | .mk _ _ _ _ _ _ _ a _ => a
def bits : Tm → Int | .mk _ _ _ _ _ _ _ _ a => a
def Ok (t : Tm) : Prop := I64 t.kind ∧ I64 t.int ∧ I64 t.gen ∧ t.name.size ≤ maxLen ∧ t.func.size ≤ maxLen ∧ I64 t.arity ∧ t.items.length ≤ maxLen ∧ t.bytes.size ≤ maxLen ∧ I64 t.bits
end Tm
structure RArg where
 kind : Int
 n : Int
structure RCase where
 lit : Int
 to : Int
structure RSeg where
 type : Int
 val : RArg
 size : RArg
 little : Bool
structure RIns where
 op : Int
 dst : RArg
 src : List RArg
 to : Int
 n : Int
 live : Int
 name : ByteArray
 cases : List RCase
 segs : List RSeg
structure RFunc where
 name : ByteArray
 arity : Int
 pub : Bool
 entry : Int
structure RFun where
 arity : Int
 free : Int
 entry : Int
structure RUnit where
 mdl : ByteArray
 vsn : Int
 lits : List Tm
 funcs : List RFunc
 funs : List RFun
 code : List RIns

/-- A slice's cells: size cells an element, each row of cells holding its element. -/
def SlAt {α : Type} (w : World) (size : Nat) (R : List Value → α → Prop) (ao : Option Addr) (l : List α) : Prop :=
 l = [] ∨ ∃ b off, ao = some ⟨b, off, none⟩ ∧ b < w.heap.size ∧ ∀ j (h : j < l.length), ∃ cs : List Value, cs.length = size ∧ (∀ i, i < size → w.cell? ⟨b, off + j * size + i, none⟩ = cs[i]?) ∧ R cs l[j]
theorem SlAt.mono {α : Type} {w w' : World} {size : Nat} {R R' : List Value → α → Prop} {ao : Option Addr} {l : List α} (h : SlAt w size R ao l) (hb : Below w.heap.size w w') (hR : ∀ cs a, R cs a → R' cs a) : SlAt w' size R' ao l := by
 rcases h with h | ⟨b, off, e, hB, hr⟩
 ·exact .inl h
 ·refine .inr ⟨b, off, e, Nat.lt_of_lt_of_le hB hb.size, fun j hj => ?_⟩
  obtain ⟨cs, hl, hc, hR'⟩ := hr j hj
  exact ⟨cs, hl, fun i hi => (hb.cell (p := ⟨b, off + j * size + i, none⟩) hB).trans (hc i hi), hR _ _ hR'⟩
theorem SlAt.row {α : Type} {w : World} {size : Nat} {R : List Value → α → Prop} {ao : Option Addr} {l : List α} (h : SlAt w size R ao l) {k : Nat} (hk : k < l.length) :
  ∃ b off, ao = some ⟨b, off, none⟩ ∧ b < w.heap.size ∧ ∀ j (h : j < l.length), ∃ cs : List Value, cs.length = size ∧ (∀ i, i < size → w.cell? ⟨b, off + j * size + i, none⟩ = cs[i]?) ∧ R cs l[j] := by
 rcases h with h | h
 ·rw [h] at hk; exact absurd hk (Nat.not_lt_zero _)
 ·exact h
theorem SlAt.nil {α : Type} (w : World) (size : Nat) (R : List Value → α → Prop) (ao : Option Addr) : SlAt w size R ao [] := .inl rfl

/-- Cells hold a term whose depth is at most f. -/
def TmAt (w : World) : Nat → List Value → Tm → Prop
 | 0, _, _ => False
 | f + 1, cs, t => (∃ ao c, cs = [.int .i64 t.kind, .int .i64 t.int, .int .i64 t.gen, .string t.name, .string t.func, .int .i64 t.arity, .slice ao t.items.length c, .string t.bytes, .int .i64 t.bits] ∧ SlAt w 9 (TmAt w f) ao t.items) ∧ t.Ok
theorem TmAt.below {w w' : World} (hb : Below w.heap.size w w') : ∀ {f : Nat} {cs : List Value} {t : Tm}, TmAt w f cs t → TmAt w' f cs t
 | 0, _, _, h => h
 | _ + 1, _, _, ⟨⟨ao, c, e, hs⟩, ho⟩ => ⟨⟨ao, c, e, hs.mono hb fun _ _ h => TmAt.below hb h⟩, ho⟩
theorem SlAt.imp {α : Type} {w : World} {size : Nat} {R R' : List Value → α → Prop} {ao : Option Addr} {l : List α} (h : SlAt w size R ao l) (hR : ∀ cs a, R cs a → R' cs a) : SlAt w size R' ao l :=
 h.elim .inl fun ⟨b, off, e, hB, hr⟩ => .inr ⟨b, off, e, hB, fun j hj => (hr j hj).elim fun cs ⟨a, b, c⟩ => ⟨cs, a, b, hR _ _ c⟩⟩
theorem TmAt.succ {w : World} : ∀ {f : Nat} {cs : List Value} {t : Tm}, TmAt w f cs t → TmAt w (f + 1) cs t
 | 0, _, _, h => h.elim
 | f + 1, _, _, ⟨⟨ao, c, e, hs⟩, ho⟩ => ⟨⟨ao, c, e, hs.imp fun _ _ h => TmAt.succ h⟩, ho⟩
theorem TmAt.le {w : World} {f g : Nat} (h : f ≤ g) {cs : List Value} {t : Tm} (ht : TmAt w f cs t) : TmAt w g cs t := by
 induction h with
 | refl => exact ht
 | step _ ih => exact ih.succ
def TmA (w : World) (cs : List Value) (t : Tm) : Prop := ∃ f, TmAt w f cs t
theorem TmA.below {w w' : World} {cs : List Value} {t : Tm} (h : TmA w cs t) (hb : Below w.heap.size w w') : TmA w' cs t := h.elim fun f h => ⟨f, h.below hb⟩
theorem TmAt.ok {w : World} : ∀ {f : Nat} {cs : List Value} {t : Tm}, TmAt w f cs t → t.Ok
 | 0, _, _, h => h.elim
 | _ + 1, _, _, ⟨_, ho⟩ => ho

def ArgR (cs : List Value) (a : RArg) : Prop := cs = [.int .i64 a.kind, .int .i64 a.n] ∧ I64 a.kind ∧ I64 a.n
def CaseR (cs : List Value) (a : RCase) : Prop := cs = [.int .i64 a.lit, .int .i64 a.to] ∧ I64 a.lit ∧ I64 a.to
def SegR (cs : List Value) (a : RSeg) : Prop := cs = [.int .i64 a.type, .int .i64 a.val.kind, .int .i64 a.val.n, .int .i64 a.size.kind, .int .i64 a.size.n, .bool a.little] ∧ I64 a.type ∧ I64 a.val.kind ∧ I64 a.val.n ∧ I64 a.size.kind ∧ I64 a.size.n
def FuncR (cs : List Value) (a : RFunc) : Prop := cs = [.string a.name, .int .i64 a.arity, .bool a.pub, .int .i64 a.entry] ∧ a.name.size ≤ maxLen ∧ I64 a.arity ∧ I64 a.entry
def FunR (cs : List Value) (a : RFun) : Prop := cs = [.int .i64 a.arity, .int .i64 a.free, .int .i64 a.entry] ∧ I64 a.arity ∧ I64 a.free ∧ I64 a.entry
def InsR (w : World) (cs : List Value) (x : RIns) : Prop :=
 (∃ so sc co cc go gc, cs = [.int .i64 x.op, .int .i64 x.dst.kind, .int .i64 x.dst.n, .slice so x.src.length sc, .int .i64 x.to, .int .i64 x.n, .int .i64 x.live, .string x.name, .slice co x.cases.length cc, .slice go x.segs.length gc] ∧
  SlAt w 2 ArgR so x.src ∧ SlAt w 2 CaseR co x.cases ∧ SlAt w 6 SegR go x.segs) ∧
 I64 x.op ∧ I64 x.dst.kind ∧ I64 x.dst.n ∧ x.src.length ≤ maxLen ∧ I64 x.to ∧ I64 x.n ∧ I64 x.live ∧ x.name.size ≤ maxLen ∧ x.cases.length ≤ maxLen ∧ x.segs.length ≤ maxLen
theorem InsR.below {w w' : World} {cs : List Value} {x : RIns} (h : InsR w cs x) (hb : Below w.heap.size w w') : InsR w' cs x := by
 obtain ⟨⟨so, sc, co, cc, go, gc, e, h1, h2, h3⟩, hr⟩ := h
 exact ⟨⟨so, sc, co, cc, go, gc, e, h1.mono hb fun _ _ h => h, h2.mono hb fun _ _ h => h, h3.mono hb fun _ _ h => h⟩, hr⟩
def UR (w : World) (cs : List Value) (u : RUnit) : Prop :=
 (∃ lo lc fo fc go gc co cc, cs = [.string u.mdl, .int .i64 u.vsn, .slice lo u.lits.length lc, .slice fo u.funcs.length fc, .slice go u.funs.length gc, .slice co u.code.length cc] ∧
  SlAt w 9 (TmA w) lo u.lits ∧ SlAt w 4 FuncR fo u.funcs ∧ SlAt w 3 FunR go u.funs ∧ SlAt w 10 (InsR w) co u.code) ∧
 u.mdl.size ≤ maxLen ∧ I64 u.vsn ∧ u.lits.length ≤ maxLen ∧ u.funcs.length ≤ maxLen ∧ u.funs.length ≤ maxLen ∧ u.code.length ≤ maxLen
theorem UR.below {w w' : World} {cs : List Value} {u : RUnit} (h : UR w cs u) (hb : Below w.heap.size w w') : UR w' cs u := by
 obtain ⟨⟨lo, lc, fo, fc, go, gc, co, cc, e, h1, h2, h3, h4⟩, hr⟩ := h
 exact ⟨⟨lo, lc, fo, fc, go, gc, co, cc, e, h1.mono hb fun _ _ h => h.below hb, h2.mono hb fun _ _ h => h, h3.mono hb fun _ _ h => h, h4.mono hb fun _ _ h => h.below hb⟩, hr⟩

/-! ### From the reading of an argument -/
section
variable {H : Type} {enc : TypeId × Value → H} {P : Program} {w : World} {base : Nat} {spare : Nat → Bool} {held : Bool}
theorem i64_of {n : Int} (h : (Lit.int .i64 n).wf = true) : I64 n := by
 simp [Lit.wf, IntKind.min, IntKind.max, IntKind.bits, IntKind.signed] at h; unfold I64; omega
theorem open_i64 {t : TypeId} {fuel : Nat} {cs : List Value} {x : DataW H × List MemPlace} (ht : P.underlying t = some (.int .i64)) (h : DataW.trod enc P w base spare held fuel t cs = some x) : ∃ n, cs = [.int .i64 n] ∧ I64 n := by
 obtain ⟨n, e, _, hw⟩ := DataW.trod_int ht h
 exact ⟨n, e, i64_of hw⟩
theorem open_str {t : TypeId} {fuel : Nat} {cs : List Value} {x : DataW H × List MemPlace} (ht : P.underlying t = some .string) (h : DataW.trod enc P w base spare held fuel t cs = some x) : ∃ s, cs = [.string s] ∧ s.size ≤ maxLen := by
 obtain ⟨n, e, _, hw⟩ := DataW.trod_string ht h
 exact ⟨n, e, hw⟩
theorem open_sl {α : Type} {t e : TypeId} {size fuel : Nat} {cs : List Value} {x : DataW H × List MemPlace} (R : List Value → α → Prop) (ht : P.underlying t = some (.slice e)) (hC : P.cellsOf e = size) (h0 : 0 < size)
  (h : DataW.trod enc P w base spare held fuel t cs = some x)
  (hR : ∀ n cs' y, n < fuel → cs'.length = size → DataW.trod enc P w base spare held n e cs' = some y → ∃ a, R cs' a) :
  ∃ ao c l, cs = [.slice ao l.length c] ∧ SlAt w size R ao l ∧ l.length ≤ maxLen := by
 rcases DataW.trod_slice ht h with ⟨e1, _⟩ | ⟨a, len, cap, elems, rest, n, hf, e1, _, hb, hl, hm, hlen, hel, _, _⟩
 ·exact ⟨none, 0, [], e1, .inl rfl, Nat.zero_le _⟩
 ·have each : ∀ i, i < len → ∃ (x : α) (cs' : List Value), cs'.length = size ∧ (∀ k, k < size → w.cell? ((a.add (i * size)).add k) = cs'[k]?) ∧ R cs' x := fun i hi => by
   have hx := hel i hi
   have hil : i < elems.length := by omega
   rw [List.getElem?_eq_getElem hil, Option.bind_eq_some_iff] at hx
   obtain ⟨cs', hc, ht'⟩ := hx
   rw [hC] at hc
   obtain ⟨_, hcl, hat⟩ := World.cells?_some hc
   obtain ⟨x, hx⟩ := hR n cs' _ (by omega) hcl ht'
   exact ⟨x, cs', hcl, hat, hx⟩
  have all : ∀ m, m ≤ len → ∃ l : List α, l.length = m ∧ ∀ j (h : j < l.length), ∃ cs' : List Value, cs'.length = size ∧ (∀ k, k < size → w.cell? ((a.add (j * size)).add k) = cs'[k]?) ∧ R cs' l[j] := by
   intro m
   induction m with
   | zero => exact fun _ => ⟨[], rfl, fun j h => absurd h (Nat.not_lt_zero _)⟩
   | succ m ih =>
    intro hm'
    obtain ⟨l, hl', hr⟩ := ih (by omega)
    obtain ⟨x, cs', h1, h2, h3⟩ := each m (by omega)
    refine ⟨l ++ [x], by simp [hl'], fun j hj => ?_⟩
    by_cases hjl : j < l.length
    ·obtain ⟨cs2, g1, g2, g3⟩ := hr j hjl
     exact ⟨cs2, g1, g2, by rw [List.getElem_append_left hjl]; exact g3⟩
    ·have hj2 : j = m := by simp at hj; omega
     subst hj2
     refine ⟨cs', h1, h2, ?_⟩
     rw [List.getElem_append_right (by omega)]
     simpa [hl'] using h3
  obtain ⟨l, hl2, hr⟩ := all len (Nat.le_refl _)
  refine ⟨some a, cap, l, by rw [hl2]; exact e1, ?_, by omega⟩
  rcases Nat.eq_zero_or_pos len with hz | hz
  ·left; exact List.eq_nil_of_length_eq_zero (by omega)
  ·right
   obtain ⟨cs0, k1, k2, _⟩ := hr 0 (by omega)
   have hc0 : w.cell? a = some (cs0[0]'(by omega)) := by
    have := k2 0 h0
    rw [Nat.zero_mul] at this
    rw [← List.getElem?_eq_getElem, ← this]; rfl
   have hsp := World.cell?_spot (a := a) hc0
   obtain ⟨b, off, sp⟩ := a
   simp only at hsp
   subst hsp
   have hadd : ∀ k, (⟨b, off, none⟩ : Addr).add k = ⟨b, off + k, none⟩ := fun k => by unfold Addr.add; split <;> simp_all
   have hadd2 : ∀ o k, (⟨b, o, none⟩ : Addr).add k = ⟨b, o + k, none⟩ := fun o k => by unfold Addr.add; split <;> simp_all
   refine ⟨b, off, rfl, ?_, fun j hj => ?_⟩
   ·rcases Nat.lt_or_ge b w.heap.size with h | h
    ·exact h
    ·simp [World.cell?, Array.getElem?_eq_none h] at hc0
   ·obtain ⟨cs2, g1, g2, g3⟩ := hr j hj
    refine ⟨cs2, g1, fun i hi => ?_, g3⟩
    have := g2 i hi
    rwa [hadd, hadd2] at this
end
end Go.Proofs.YtghgbikmlbildaaGreatDoor
namespace Go.Proofs.YtghgbikmlbildaaGreatDoor
open Go.RowKit

def leftL (rec : List Tm → Int → Int) : List Tm → Int → Int
 | [], m => m
 | t :: l, m => if m < 0 then m else
  if m < t.name.size ∨ m < t.func.size ∨ m < t.bytes.size then -1 else
   leftL rec l (rec t.items (m - 1 - t.name.size / 8 - t.func.size / 8 - t.bytes.size / 8))
def leftF : Nat → List Tm → Int → Int
 | 0, _, m => m
 | f + 1, l, m => leftL (leftF f) l m
theorem leftL_le {rec : List Tm → Int → Int} (h : ∀ l m, -1 ≤ m → -1 ≤ rec l m ∧ rec l m ≤ m) : ∀ (l : List Tm) (m : Int), -1 ≤ m → -1 ≤ leftL rec l m ∧ leftL rec l m ≤ m
 | [], m, hm => ⟨hm, Int.le_refl _⟩
 | t :: l, m, hm => by
  unfold leftL
  split
  ·exact ⟨hm, Int.le_refl _⟩
  ·split
   ·omega
   ·have h1 := h t.items (m - 1 - t.name.size / 8 - t.func.size / 8 - t.bytes.size / 8) (by omega)
    have := leftL_le h l _ h1.1
    omega
theorem leftF_le : ∀ (f : Nat) (l : List Tm) (m : Int), -1 ≤ m → -1 ≤ leftF f l m ∧ leftF f l m ≤ m
 | 0, _, _, hm => ⟨hm, Int.le_refl _⟩
 | f + 1, l, m, hm => leftL_le (leftF_le f) l m hm
/-- The rounds of the loop: what is left of the list, and of the number. -/
theorem leftL_stop {rec : List Tm → Int → Int} {l : List Tm} {m : Int} (h : l = [] ∨ m < 0) : leftL rec l m = m := by
 rcases h with rfl | h
 ·rfl
 ·cases l with
  | nil => rfl
  | cons t l => unfold leftL; rw [if_pos h]
theorem drop_step {α : Type} {l : List α} {k : Nat} (h : k < l.length) : l.drop k = l[k] :: l.drop (k + 1) := List.drop_eq_getElem_cons h
theorem leftL_long {rec : List Tm → Int → Int} {l : List Tm} {k : Nat} (h : k < l.length) {m : Int} (h0 : 0 ≤ m) (hl : m < l[k].name.size ∨ m < l[k].func.size ∨ m < l[k].bytes.size) : leftL rec (l.drop k) m = -1 := by
 rw [drop_step h, leftL, if_neg (by omega), if_pos hl]
theorem leftL_next {rec : List Tm → Int → Int} {l : List Tm} {k : Nat} (h : k < l.length) {m : Int} (h0 : 0 ≤ m) (hl : ¬ (m < l[k].name.size ∨ m < l[k].func.size ∨ m < l[k].bytes.size)) :
  leftL rec (l.drop k) m = leftL rec (l.drop (k + 1)) (rec l[k].items (m - 1 - l[k].name.size / 8 - l[k].func.size / 8 - l[k].bytes.size / 8)) := by
 rw [drop_step h, leftL, if_neg (by omega), if_neg hl]

/-- The first function with a name and an arity. -/
def findL (n : ByteArray) (a : Int) : List RFunc → Nat → Option Nat
 | [], _ => none
 | f :: l, i => if f.name = n ∧ f.arity = a then some i else findL n a l (i + 1)
def findI (n : ByteArray) (a : Int) (l : List RFunc) : Int := match findL n a l 0 with
 | some i => i
 | none => 0
def findB (n : ByteArray) (a : Int) (l : List RFunc) : Bool := (findL n a l 0).isSome
theorem findL_hit {n : ByteArray} {a : Int} {l : List RFunc} {k i : Nat} (h : k < l.length) (hh : l[k].name = n ∧ l[k].arity = a) : findL n a (l.drop k) i = some i := by
 rw [drop_step h, findL, if_pos hh]
theorem findL_miss {n : ByteArray} {a : Int} {l : List RFunc} {k i : Nat} (h : k < l.length) (hh : ¬ (l[k].name = n ∧ l[k].arity = a)) : findL n a (l.drop k) i = findL n a (l.drop (k + 1)) (i + 1) := by
 rw [drop_step h, findL, if_neg hh]
/-- The operations that may raise. -/
def raises (op : Int) : Bool := decide (op ∈ ([2, 3, 4, 14, 15, 16, 17, 18, 19, 20, 21, 22, 23, 27, 35, 36] : List Int))

end Go.Proofs.YtghgbikmlbildaaGreatDoor
namespace Go.Proofs.YtghgbikmlbildaaGreatDoor
open Go.RowKit

section
variable {w : World} {ao : Option Addr} {k : Nat}
theorem SlAt.tm {f : Nat} {l : List Tm} (h : SlAt w 9 (TmAt w (f + 1)) ao l) (hk : k < l.length) :
  ∃ b off ai c, ao = some ⟨b, off, none⟩ ∧ b < w.heap.size ∧ w.cell? ⟨b, off + k * 9, none⟩ = some (.int .i64 l[k].kind) ∧ w.cell? ⟨b, off + k * 9 + 1, none⟩ = some (.int .i64 l[k].int) ∧
   w.cell? ⟨b, off + k * 9 + 2, none⟩ = some (.int .i64 l[k].gen) ∧ w.cell? ⟨b, off + k * 9 + 3, none⟩ = some (.string l[k].name) ∧ w.cell? ⟨b, off + k * 9 + 4, none⟩ = some (.string l[k].func) ∧
   w.cell? ⟨b, off + k * 9 + 5, none⟩ = some (.int .i64 l[k].arity) ∧ w.cell? ⟨b, off + k * 9 + 6, none⟩ = some (.slice ai l[k].items.length c) ∧ w.cell? ⟨b, off + k * 9 + 7, none⟩ = some (.string l[k].bytes) ∧
   w.cell? ⟨b, off + k * 9 + 8, none⟩ = some (.int .i64 l[k].bits) ∧ SlAt w 9 (TmAt w f) ai l[k].items ∧ l[k].Ok := by
 obtain ⟨b, off, e, hb, hr⟩ := h.row hk
 obtain ⟨cs, _, hc, ⟨ai, c, rfl, hs⟩, ho⟩ := hr k hk
 exact ⟨b, off, ai, c, e, hb, hc 0 (by decide), hc 1 (by decide), hc 2 (by decide), hc 3 (by decide), hc 4 (by decide), hc 5 (by decide), hc 6 (by decide), hc 7 (by decide), hc 8 (by decide), hs, ho⟩
theorem SlAt.arg {l : List RArg} (h : SlAt w 2 ArgR ao l) (hk : k < l.length) :
  ∃ b off, ao = some ⟨b, off, none⟩ ∧ b < w.heap.size ∧ w.cell? ⟨b, off + k * 2, none⟩ = some (.int .i64 l[k].kind) ∧ w.cell? ⟨b, off + k * 2 + 1, none⟩ = some (.int .i64 l[k].n) ∧ I64 l[k].kind ∧ I64 l[k].n := by
 obtain ⟨b, off, e, hb, hr⟩ := h.row hk
 obtain ⟨cs, _, hc, rfl, h1, h2⟩ := hr k hk
 exact ⟨b, off, e, hb, hc 0 (by decide), hc 1 (by decide), h1, h2⟩
theorem SlAt.case {l : List RCase} (h : SlAt w 2 CaseR ao l) (hk : k < l.length) :
  ∃ b off, ao = some ⟨b, off, none⟩ ∧ b < w.heap.size ∧ w.cell? ⟨b, off + k * 2, none⟩ = some (.int .i64 l[k].lit) ∧ w.cell? ⟨b, off + k * 2 + 1, none⟩ = some (.int .i64 l[k].to) ∧ I64 l[k].lit ∧ I64 l[k].to := by
 obtain ⟨b, off, e, hb, hr⟩ := h.row hk
 obtain ⟨cs, _, hc, rfl, h1, h2⟩ := hr k hk
 exact ⟨b, off, e, hb, hc 0 (by decide), hc 1 (by decide), h1, h2⟩
theorem SlAt.seg {l : List RSeg} (h : SlAt w 6 SegR ao l) (hk : k < l.length) :
  ∃ b off, ao = some ⟨b, off, none⟩ ∧ b < w.heap.size ∧ w.cell? ⟨b, off + k * 6, none⟩ = some (.int .i64 l[k].type) ∧ w.cell? ⟨b, off + k * 6 + 1, none⟩ = some (.int .i64 l[k].val.kind) ∧ w.cell? ⟨b, off + k * 6 + 2, none⟩ = some (.int .i64 l[k].val.n) ∧
   w.cell? ⟨b, off + k * 6 + 3, none⟩ = some (.int .i64 l[k].size.kind) ∧ w.cell? ⟨b, off + k * 6 + 4, none⟩ = some (.int .i64 l[k].size.n) ∧ w.cell? ⟨b, off + k * 6 + 5, none⟩ = some (.bool l[k].little) ∧
   I64 l[k].type ∧ I64 l[k].val.kind ∧ I64 l[k].val.n ∧ I64 l[k].size.kind ∧ I64 l[k].size.n := by
 obtain ⟨b, off, e, hb, hr⟩ := h.row hk
 obtain ⟨cs, _, hc, rfl, h1⟩ := hr k hk
 exact ⟨b, off, e, hb, hc 0 (by decide), hc 1 (by decide), hc 2 (by decide), hc 3 (by decide), hc 4 (by decide), hc 5 (by decide), h1⟩
theorem SlAt.func {l : List RFunc} (h : SlAt w 4 FuncR ao l) (hk : k < l.length) :
  ∃ b off, ao = some ⟨b, off, none⟩ ∧ b < w.heap.size ∧ w.cell? ⟨b, off + k * 4, none⟩ = some (.string l[k].name) ∧ w.cell? ⟨b, off + k * 4 + 1, none⟩ = some (.int .i64 l[k].arity) ∧ w.cell? ⟨b, off + k * 4 + 2, none⟩ = some (.bool l[k].pub) ∧
   w.cell? ⟨b, off + k * 4 + 3, none⟩ = some (.int .i64 l[k].entry) ∧ l[k].name.size ≤ maxLen ∧ I64 l[k].arity ∧ I64 l[k].entry := by
 obtain ⟨b, off, e, hb, hr⟩ := h.row hk
 obtain ⟨cs, _, hc, rfl, h1⟩ := hr k hk
 exact ⟨b, off, e, hb, hc 0 (by decide), hc 1 (by decide), hc 2 (by decide), hc 3 (by decide), h1⟩
theorem SlAt.fn {l : List RFun} (h : SlAt w 3 FunR ao l) (hk : k < l.length) :
  ∃ b off, ao = some ⟨b, off, none⟩ ∧ b < w.heap.size ∧ w.cell? ⟨b, off + k * 3, none⟩ = some (.int .i64 l[k].arity) ∧ w.cell? ⟨b, off + k * 3 + 1, none⟩ = some (.int .i64 l[k].free) ∧ w.cell? ⟨b, off + k * 3 + 2, none⟩ = some (.int .i64 l[k].entry) ∧
   I64 l[k].arity ∧ I64 l[k].free ∧ I64 l[k].entry := by
 obtain ⟨b, off, e, hb, hr⟩ := h.row hk
 obtain ⟨cs, _, hc, rfl, h1⟩ := hr k hk
 exact ⟨b, off, e, hb, hc 0 (by decide), hc 1 (by decide), hc 2 (by decide), h1⟩
theorem SlAt.ins {l : List RIns} (h : SlAt w 10 (InsR w) ao l) (hk : k < l.length) :
  ∃ b off so sc co cc go gc, ao = some ⟨b, off, none⟩ ∧ b < w.heap.size ∧ w.cell? ⟨b, off + k * 10, none⟩ = some (.int .i64 l[k].op) ∧ w.cell? ⟨b, off + k * 10 + 1, none⟩ = some (.int .i64 l[k].dst.kind) ∧ w.cell? ⟨b, off + k * 10 + 2, none⟩ = some (.int .i64 l[k].dst.n) ∧
   w.cell? ⟨b, off + k * 10 + 3, none⟩ = some (.slice so l[k].src.length sc) ∧ w.cell? ⟨b, off + k * 10 + 4, none⟩ = some (.int .i64 l[k].to) ∧ w.cell? ⟨b, off + k * 10 + 5, none⟩ = some (.int .i64 l[k].n) ∧ w.cell? ⟨b, off + k * 10 + 6, none⟩ = some (.int .i64 l[k].live) ∧
   w.cell? ⟨b, off + k * 10 + 7, none⟩ = some (.string l[k].name) ∧ w.cell? ⟨b, off + k * 10 + 8, none⟩ = some (.slice co l[k].cases.length cc) ∧ w.cell? ⟨b, off + k * 10 + 9, none⟩ = some (.slice go l[k].segs.length gc) ∧
   SlAt w 2 ArgR so l[k].src ∧ SlAt w 2 CaseR co l[k].cases ∧ SlAt w 6 SegR go l[k].segs ∧
   I64 l[k].op ∧ I64 l[k].dst.kind ∧ I64 l[k].dst.n ∧ l[k].src.length ≤ maxLen ∧ I64 l[k].to ∧ I64 l[k].n ∧ I64 l[k].live ∧ l[k].name.size ≤ maxLen ∧ l[k].cases.length ≤ maxLen ∧ l[k].segs.length ≤ maxLen := by
 obtain ⟨b, off, e, hb, hr⟩ := h.row hk
 obtain ⟨cs, _, hc, ⟨so, sc, co, cc, go, gc, rfl, s1, s2, s3⟩, h1⟩ := hr k hk
 exact ⟨b, off, so, sc, co, cc, go, gc, e, hb, hc 0 (by decide), hc 1 (by decide), hc 2 (by decide), hc 3 (by decide), hc 4 (by decide), hc 5 (by decide), hc 6 (by decide), hc 7 (by decide), hc 8 (by decide), hc 9 (by decide), s1, s2, s3, h1⟩
end
end Go.Proofs.YtghgbikmlbildaaGreatDoor
namespace Go.Proofs.YtghgbikmlbildaaGreatDoor
open Go.RowKit
set_option linter.unusedVariables false

theorem below_next {w a b : World} (h : Below w.heap.size w a) (k : Below a.heap.size a b) : Below w.heap.size w b := h.trans (k.mono h.size)
theorem below_drewN {B : Nat} {a w : World} (h : Below B a w) (n : Nat) : Below B a (w.drewN n) := ⟨h.os, h.tape, h.output, h.size, h.block⟩

theorem SlAt.zero {w : World} {ao : Option Addr} {l : List Tm} (h : SlAt w 9 (TmAt w 0) ao l) : l = [] := by
 rcases h with h | ⟨b, off, e, hb, hr⟩
 ·exact h
 ·cases l with
  | nil => rfl
  | cons t l =>
   obtain ⟨cs, _, _, hf⟩ := hr 0 (by simp)
   exact hf.elim
theorem SlAt.tms {w w' : World} {f : Nat} {ao : Option Addr} {l : List Tm} (h : SlAt w 9 (TmAt w f) ao l) (hb : Below w.heap.size w w') : SlAt w' 9 (TmAt w' f) ao l := h.mono hb fun _ _ h => h.below hb

set_option maxRecDepth 100000 in
set_option maxHeartbeats 4000000 in
theorem left_any : ∀ (f : Nat) (ao : Option Addr) (c : Nat) (l : List Tm) (m : Int) (w : World), SlAt w 9 (TmAt w f) ao l → l.length ≤ maxLen → -1 ≤ m → m ≤ 1000000 →
  Calls Tryz.prog 76 #[.slice ao l.length c, .int .i64 m] w fun e w' => e = .returned (.int .i64 (leftF f l m)) ∧ Below w.heap.size w w'
 | 0, ao, c, l, m, w, h, hl, h0, h1 => by
  obtain rfl := h.zero
  have HE : Hid (leftF 0 [] m = m) := Lib.hid rfl
  go_enter Tryz.func76, Tryz.ntmps76
  go_wp2_with fail
  go_loop [1, 5] (fun mv i => mv = .int .i64 m ∧ i = .int .i64 0) (fun _ _ => 0)
  case atStart => exact ⟨rfl, rfl⟩
  case round =>
   obtain ⟨rfl, rfl⟩ := hrel
   go_wp2_with fail
   go_ret
   exact ⟨ret1 HE.out.symm, Below.refl _ _⟩
 | f + 1, ao, c, l, m, w, h, hl, h0, h1 => by
  have IH := Lib.hid (left_any f)
  have HS := Lib.hid h
  have HV : Hid (leftF (f + 1) l m = leftL (leftF f) l m) := Lib.hid rfl
  have HM := Lib.hid (leftF_le f)
  clear h
  unfold maxLen at hl
  go_enter Tryz.func76, Tryz.ntmps76
  go_wp2_with fail
  go_loopw [1, 5] (fun mv i wr => ∃ (k : Nat) (m' : Int), k ≤ l.length ∧ i = .int .i64 k ∧ mv = .int .i64 m' ∧ -1 ≤ m' ∧ m' ≤ 1000000 ∧ Hid (leftL (leftF f) l m = leftL (leftF f) (l.drop k) m') ∧ Below w.heap.size w wr) (fun _ i _ => l.length - (intOf i).toNat)
  case atStart => exact ⟨0, m, Nat.zero_le _, rfl, rfl, h0, h1, Lib.hid rfl, Below.refl _ _⟩
  case round =>
   obtain ⟨k, m', hk, rfl, rfl, g0, g1, HG, hB⟩ := hrel
   rename World => wr
   by_cases hlt : k < l.length
   ·by_cases hm : 0 ≤ m'
    ·have hs2 := HS.out.tms hB
     obtain ⟨b, off, ai, ci, hao, hb, q0, q1, q2, q3, q4, q5, q6, q7, q8, hit, hok⟩ := hs2.tm hlt
     subst hao
     have hlong := leftL_long (rec := leftF f) hlt hm
     have hnext := leftL_next (rec := leftF f) hlt hm
     have HL1 := Lib.hid hlong; have HL2 := Lib.hid hnext; clear hlong hnext hs2
     obtain ⟨_, _, _, o3, o4, _, o6, o7, _⟩ := hok
     unfold maxLen at o3 o4 o6 o7
     generalize l[k] = t at *
     have HIT := Lib.hid hit; clear hit
     by_cases c1 : m' < t.name.size
     ·have E : Hid (leftF (f + 1) l m = -1) := Lib.hid (by rw [HV.out, HG.out, HL1.out (.inl c1)])
      go_wp2_with fail
      all_goals go_ret
      all_goals exact ⟨ret1 E.out.symm, hB.alloc hB.size _⟩
     ·by_cases c2 : m' < t.func.size
      ·have E : Hid (leftF (f + 1) l m = -1) := Lib.hid (by rw [HV.out, HG.out, HL1.out (.inr (.inl c2))])
       go_wp2_with fail
       all_goals go_ret
       all_goals exact ⟨ret1 E.out.symm, hB.alloc hB.size _⟩
      ·by_cases c3 : m' < t.bytes.size
       ·have E : Hid (leftF (f + 1) l m = -1) := Lib.hid (by rw [HV.out, HG.out, HL1.out (.inr (.inr c3))])
        go_wp2_with fail
        all_goals go_ret
        all_goals exact ⟨ret1 E.out.symm, hB.alloc hB.size _⟩
       ·have E := Lib.hid (HL2.out (by omega))
        have hBa := hB.alloc hB.size (.cells #[.int .i64 t.kind, .int .i64 t.int, .int .i64 t.gen, .string t.name, .string t.func, .int .i64 t.arity, .slice ai t.items.length ci, .string t.bytes, .int .i64 t.bits] 78)
        have HIT2 := Lib.hid (SlAt.tms HIT.out ((Below.refl wr.heap.size wr).alloc (Nat.le_refl _) (.cells #[.int .i64 t.kind, .int .i64 t.int, .int .i64 t.gen, .string t.name, .string t.func, .int .i64 t.arity, .slice ai t.items.length ci, .string t.bytes, .int .i64 t.bits] 78)))
        have HM2 := HM.out t.items (m' - 1 - t.name.size / 8 - t.func.size / 8 - t.bytes.size / 8) (by omega)
        generalize hn1 : leftF f t.items (m' - 1 - t.name.size / 8 - t.func.size / 8 - t.bytes.size / 8) = n1 at *
        have HN1 := Lib.hid hn1; clear hn1
        go_wp2_with fail
        refine (IH.out ai ci t.items _ _ HIT2.out (by unfold maxLen; omega) (by omega) (by omega)).mono ?_
        rintro e w5 ⟨rfl, hb5⟩
        rw [HN1.out]
        go_wp2_with fail
        go_roundw
        case rel => exact ⟨k + 1, n1, by omega, by go_num, rfl, by omega, by omega, Lib.hid (by rw [HG.out, E.out]), below_next hBa hb5⟩
        case measure => simp [intOf]; omega
    ·have E : Hid (leftF (f + 1) l m = m') := Lib.hid (by rw [HV.out, HG.out, leftL_stop (.inr (by omega))])
     go_wp2_with fail
     go_ret
     exact ⟨ret1 E.out.symm, hB⟩
   ·have E : Hid (leftF (f + 1) l m = m') := Lib.hid (by rw [HV.out, HG.out, leftL_stop (.inl (by rw [List.drop_eq_nil_iff]; omega))])
    go_wp2_with fail
    go_ret
    exact ⟨ret1 E.out.symm, hB⟩

theorem great_any (f : Nat) (ao : Option Addr) (c : Nat) (l : List Tm) (m : Int) (w : World) (h : SlAt w 9 (TmAt w f) ao l) (hl : l.length ≤ maxLen) (h0 : -1 ≤ m) (h1 : m ≤ 1000000) :
  Calls Tryz.prog 29 #[.slice ao l.length c, .int .i64 m] w fun e w' => e = .returned (.bool (decide (leftF f l m < 0))) ∧ Below w.heap.size w w' := by
 have hc := left_any f ao c l m w h hl h0 h1
 have hle := leftF_le f l m h0
 generalize leftF f l m = n at *
 go_enter Tryz.func29, Tryz.ntmps29
 go_wp2_with fail
 refine hc.mono ?_
 rintro e w1 ⟨rfl, hb1⟩
 go_wp2_with fail
 go_ret
 exact ⟨rfl, hb1⟩

/-- The terms of a list are of one depth. -/
theorem tms_depth {w : World} {ao : Option Addr} {l : List Tm} (h : SlAt w 9 (TmA w) ao l) : ∃ f, SlAt w 9 (TmAt w f) ao l := by
 rcases h with h | ⟨b, off, e, hb, hr⟩
 ·exact ⟨0, .inl h⟩
 ·have : ∀ m, m ≤ l.length → ∃ f, ∀ j (hj : j < l.length), j < m → ∃ cs : List Value, cs.length = 9 ∧ (∀ i, i < 9 → w.cell? ⟨b, off + j * 9 + i, none⟩ = cs[i]?) ∧ TmAt w f cs l[j] := by
   intro m
   induction m with
   | zero => exact fun _ => ⟨0, fun j _ h => absurd h (Nat.not_lt_zero _)⟩
   | succ m ih =>
    intro hm
    obtain ⟨f, hf⟩ := ih (by omega)
    obtain ⟨cs, h1, h2, g, h3⟩ := hr m (by omega)
    refine ⟨max f g, fun j hj hjm => ?_⟩
    by_cases e : j = m
    ·subst e; exact ⟨cs, h1, h2, TmAt.le (Nat.le_max_right _ _) h3⟩
    ·obtain ⟨cs', a1, a2, a3⟩ := hf j hj (by omega)
     exact ⟨cs', a1, a2, TmAt.le (Nat.le_max_left _ _) a3⟩
  obtain ⟨f, hf⟩ := this l.length (Nat.le_refl _)
  exact ⟨f, .inr ⟨b, off, e, hb, fun j hj => hf j hj hj⟩⟩

end Go.Proofs.YtghgbikmlbildaaGreatDoor
