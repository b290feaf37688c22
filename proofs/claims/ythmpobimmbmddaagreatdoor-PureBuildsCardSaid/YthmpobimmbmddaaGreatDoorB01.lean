/-
  The plain mathematics of layer 1 (64-bit integers with an error number): no program in sight. Nothing is assumed but what each theorem says. Units of code in memory: the plain data, and what it is that cells hold them. No program in sight. Great, Find, Raises: the plain functions. No program in sight. The cells of an element of a slice, one by one. No program in sight. left, Great, large, Find, Raises: the walks. Small things that the walks share. Bit strings, plain: bytes as bits, bits packed in bytes, one step of the writer. No program in sight. bits.length, Valid, Of and the writer: the walks.
-/
import Derived.IntWalk
import Derived.Below
import Derived.Laws.Wrap64
import Derived.WalkKit
import Derived.ChangeArms
import Derived.DataReads
import Derived.Lib.Hide
import Derived.Test.YthmpobimmbmddaaGreatDoorProg
import Derived.WalkSpells
import Derived.WalkLawsBesides
import Derived.Handy
import Derived.Deep.QuietTactic
import Derived.BigQuiet
import Derived.Laws.ResultCell
import Derived.Laws.Rows
import Derived.Deep.RegionHeld3
import Derived.Laws.BitsLemmas
import Derived.Laws.AppendOwn
import Derived.OwnWalk
import Derived.Maps.AppendAt
import Derived.Lib.FrozenHead
import Derived.Lib.OwnKind
namespace Go.Proofs.YthmpobimmbmddaaGreatDoor
open Go.RowKit

/-- z is a 64-bit integer. -/
def I64 (z : Int) : Prop := -9223372036854775808 ≤ z ∧ z ≤ 9223372036854775807
instance (z : Int) : Decidable (I64 z) := by unfold I64; infer_instance
/-- The value where z fits, else 0; and the error number (ErrRange is 7). -/
def okv (z : Int) : Int := if I64 z then z else 0
def oke (z : Int) : Int := if I64 z then 0 else 7
theorem okv_fit {z : Int} (h : I64 z) : okv z = z := by unfold okv; rw [if_pos h]
theorem oke_fit {z : Int} (h : I64 z) : oke z = 0 := by unfold oke; rw [if_pos h]
theorem okv_not {z : Int} (h : ¬ I64 z) : okv z = 0 := by unfold okv; rw [if_neg h]
theorem oke_not {z : Int} (h : ¬ I64 z) : oke z = 7 := by unfold oke; rw [if_neg h]
theorem okv_i64 (z : Int) : I64 (okv z) := by unfold okv; split <;> simp_all [I64]
theorem ret2 {k j : IntKind} {a b c d : Int} (h : a = c) (h' : b = d) : Ending.returned (.tuple #[.int k a, .int j b]) = .returned (.tuple #[.int k c, .int j d]) := by rw [h, h']
theorem retb {a b : Bool} (h : a = b) : Ending.returned (.bool a) = .returned (.bool b) := by rw [h]
theorem ret1 {k : IntKind} {a b : Int} (h : a = b) : Ending.returned (.int k a) = .returned (.int k b) := by rw [h]

theorem wrap_fit {z : Int} (h : I64 z) : wrap64 z = z := IntWalk.wrap64_in z h
/-- The three ways through Add: the signs differ; they agree and the sum's sign is theirs, or not. -/
theorem add_diff {a b : Int} (ha : I64 a) (hb : I64 b) (h : ¬(a < 0 ↔ b < 0)) : I64 (a + b) := by
  unfold I64 at *; by_cases q1 : a < 0 <;> by_cases q2 : b < 0 <;> simp [q1, q2] at h <;> omega
theorem add_over {a b : Int} (h : a < 0 ↔ b < 0) (h2 : (!decide (wrap64 (a + b) < 0) == decide (b < 0)) = true) : ¬ I64 (a + b) := by
  intro hf; rw [wrap_fit hf] at h2; by_cases q1 : a < 0 <;> by_cases q2 : b < 0 <;> simp [q1, q2] at h h2 <;> omega
theorem add_fits {a b : Int} (ha : I64 a) (hb : I64 b) (h : a < 0 ↔ b < 0) (h2 : (!decide (wrap64 (a + b) < 0) == decide (b < 0)) = false) : I64 (a + b) := by
  unfold I64 wrap64 at *; by_cases q1 : a < 0 <;> by_cases q2 : b < 0 <;> simp [q1, q2] at h h2 <;> omega
theorem sub_same {a b : Int} (ha : I64 a) (hb : I64 b) (h : a < 0 ↔ b < 0) : I64 (a - b) := by
  unfold I64 at *; by_cases q1 : a < 0 <;> by_cases q2 : b < 0 <;> simp [q1, q2] at h <;> omega
theorem sub_over {a b : Int} (h : ¬(a < 0 ↔ b < 0)) (h2 : (!decide (a < 0) == decide (b < 0)) = true ∧ (!decide (wrap64 (a - b) < 0) == decide (a < 0)) = true) : ¬ I64 (a - b) := by
  intro hf; rw [wrap_fit hf] at h2; by_cases q1 : a < 0 <;> by_cases q2 : b < 0 <;> simp [q1, q2] at h h2 <;> omega
theorem sub_fits {a b : Int} (ha : I64 a) (hb : I64 b) (h : ¬(a < 0 ↔ b < 0)) (h2 : (!decide (a < 0) == decide (b < 0)) = false ∨ (!decide (wrap64 (a - b) < 0) == decide (a < 0)) = false) : I64 (a - b) := by
  unfold I64 wrap64 at *; by_cases q1 : a < 0 <;> by_cases q2 : b < 0 <;> simp [q1, q2] at h h2 <;> omega
theorem to_ok {k : IntKind} {z : Int} (h : I64 z) : Ending.returned (.tuple #[.int k (wrap64 z), .int k 0]) = .returned (.tuple #[.int k (okv z), .int k (oke z)]) := by rw [wrap_fit h, okv_fit h, oke_fit h]
theorem to_err {k : IntKind} {z : Int} (h : ¬ I64 z) : Ending.returned (.tuple #[.int k 0, .int k 7]) = .returned (.tuple #[.int k (okv z), .int k (oke z)]) := by rw [okv_not h, oke_not h]

/-- Div and Rem, truncated toward zero; ErrArg is 2. -/
def divv (a b : Int) : Int := if b = 0 then 0 else okv (a.tdiv b)
def dive (a b : Int) : Int := if b = 0 then 2 else oke (a.tdiv b)
def remv (a b : Int) : Int := if b = 0 then 0 else a.tmod b
def reme (b : Int) : Int := if b = 0 then 2 else 0

theorem div_fits {a b : Int} (ha : I64 a) (hb : ¬ b = 0) (h : ¬ (a = -9223372036854775808 ∧ b = -1)) : I64 (a.tdiv b) := by
  have h2 : (a.tdiv b).natAbs = a.natAbs / b.natAbs := Int.natAbs_tdiv a b
  unfold I64 at *
  by_cases hb1 : b.natAbs = 1
  · rw [hb1, Nat.div_one] at h2
    rcases Int.natAbs_eq b with e | e
    · have hb' : b = 1 := by omega
      subst hb'; rw [Int.tdiv_one]; exact ha
    · have hb' : b = -1 := by omega
      subst hb'; omega
  · have h3 : a.natAbs / b.natAbs ≤ a.natAbs / 2 := Nat.div_le_div_left (by omega) (by omega)
    omega
theorem rem_fits {a b : Int} (ha : I64 a) : I64 (a.tmod b) := by
  have h2 : (a.tmod b).natAbs = a.natAbs % b.natAbs := Int.natAbs_tmod a b
  have h3 : a.natAbs % b.natAbs ≤ a.natAbs := Nat.mod_le _ _
  unfold I64 at *
  by_cases h : 0 ≤ a
  · have := Int.tmod_nonneg b h
    omega
  · have := Int.tmod_nonneg b (a := -a) (by omega)
    rw [Int.neg_tmod] at this
    omega
theorem two64 : (2 : Int) ^ 64 = 18446744073709551616 := by decide
theorem two_pos (k : Nat) : (0 : Int) < 2 ^ k := Int.pow_pos (by omega)
theorem up_over {a : Int} {k : Nat} (ha : I64 a) (h0 : ¬ a = 0) (h : 63 < (k : Int) ∨ ¬ wrap64 (a * 2 ^ k) / 2 ^ k = a) : ¬ I64 (a * 2 ^ k) := by
  intro hf
  rcases h with h | h
  · unfold I64 at *
    have hk : (2 : Int) ^ 64 ≤ 2 ^ k := by
      have : (2 : Nat) ^ 64 ≤ 2 ^ k := Nat.pow_le_pow_right (by omega) (by omega)
      exact_mod_cast this
    rw [two64] at hk
    generalize (2 : Int) ^ k = p at *
    by_cases hp : 0 < a
    · have := Int.mul_le_mul_of_nonneg_right (show (1 : Int) ≤ a by omega) (show (0 : Int) ≤ p by omega)
      omega
    · have := Int.mul_le_mul_of_nonneg_right (show a ≤ (-1 : Int) by omega) (show (0 : Int) ≤ p by omega)
      omega
  · rw [wrap_fit hf] at h
    exact h (Int.mul_ediv_cancel _ (Int.ne_of_gt (two_pos k)))
theorem wrap_is (z : Int) : ∃ m : Int, wrap64 z = z + 18446744073709551616 * m := ⟨-((z + 9223372036854775808) / 18446744073709551616), by unfold wrap64; omega⟩
theorem wrap_i64 (z : Int) : I64 (wrap64 z) := by unfold I64 wrap64; omega
theorem up_fits {a : Int} {k : Nat} (hk : k ≤ 64) (h : wrap64 (a * 2 ^ k) / 2 ^ k = a) : I64 (a * 2 ^ k) := by
  have hp := two_pos k
  obtain ⟨m, hm⟩ := wrap_is (a * 2 ^ k)
  have e : (18446744073709551616 : Int) = 2 ^ k * 2 ^ (64 - k) := by rw [← Int.pow_add, ← two64]; congr 1; omega
  have e2 : wrap64 (a * 2 ^ k) = 2 ^ k * (a + 2 ^ (64 - k) * m) := by rw [hm, e, Int.mul_add, Int.mul_comm a, Int.mul_assoc]
  rw [e2, Int.mul_ediv_cancel_left _ (Int.ne_of_gt hp)] at h
  have e3 : (2 : Int) ^ (64 - k) * m = 0 := by omega
  have e4 : wrap64 (a * 2 ^ k) = a * 2 ^ k := by rw [e2, h, Int.mul_comm]
  rw [← e4]; exact wrap_i64 _

/-- a shifted to the left by n places (to the right by -n, rounded down). -/
def shv (a n : Int) : Int := if n < 0 then a / 2 ^ (-n).toNat else okv (a * 2 ^ n.toNat)
def she (a n : Int) : Int := if n < 0 then 0 else oke (a * 2 ^ n.toNat)

theorem shr_min {a : Int} (ha : I64 a) (k : Nat) : a / 2 ^ min k 64 = a / 2 ^ k := by
  by_cases hk : k ≤ 64
  · rw [Nat.min_eq_left hk]
  · rw [Nat.min_eq_right (by omega), two64]
    have h64 : (2 : Int) ^ 64 ≤ 2 ^ k := by
      have : (2 : Nat) ^ 64 ≤ 2 ^ k := Nat.pow_le_pow_right (by omega) (by omega)
      exact_mod_cast this
    rw [two64] at h64
    unfold I64 at ha
    generalize (2 : Int) ^ k = p at *
    by_cases h0 : 0 ≤ a
    · rw [Int.ediv_eq_zero_of_lt h0 (by omega), Int.ediv_eq_zero_of_lt h0 (by omega)]
    · have e1 : a / 18446744073709551616 = -1 := by omega
      have e2 : a / p = -1 := by
        have h1 := Int.mul_ediv_self_le (x := a) (k := p) (by omega)
        have h2 := Int.lt_mul_ediv_self_add (x := a) (k := p) (by omega)
        by_cases c : a / p ≤ -2
        · have := Int.mul_le_mul_of_nonneg_left c (show (0 : Int) ≤ p by omega)
          omega
        · by_cases d : 0 ≤ a / p
          · have := Int.mul_nonneg (show (0 : Int) ≤ p by omega) d
            omega
          · omega
      rw [e1, e2]
theorem mul_diff {a b : Int} (h : (!decide (a < 0) == decide (b < 0)) = true) : a * b = -((a.natAbs : Int) * (b.natAbs : Int)) := by
  by_cases q1 : a < 0 <;> by_cases q2 : b < 0 <;> simp [q1, q2] at h
  · rw [show (a.natAbs : Int) = -a by omega, show (b.natAbs : Int) = b by omega, Int.neg_mul, Int.neg_neg]
  · rw [show (a.natAbs : Int) = a by omega, show (b.natAbs : Int) = -b by omega, Int.mul_neg, Int.neg_neg]
theorem mul_same {a b : Int} (h : (!decide (a < 0) == decide (b < 0)) = false) : a * b = (a.natAbs : Int) * (b.natAbs : Int) := by
  by_cases q1 : a < 0 <;> by_cases q2 : b < 0 <;> simp [q1, q2] at h
  · rw [show (a.natAbs : Int) = -a by omega, show (b.natAbs : Int) = -b by omega, Int.neg_mul_neg]
  · rw [show (a.natAbs : Int) = a by omega, show (b.natAbs : Int) = b by omega]
theorem mul_pos (a b : Int) : 0 ≤ (a.natAbs : Int) * (b.natAbs : Int) := Int.mul_nonneg (by omega) (by omega)
theorem mul_neg_val {P : Int} (h0 : 0 ≤ P) (h : P / 18446744073709551616 ≤ 0) (h1 : P % 18446744073709551616 ≤ 9223372036854775808) : wrap64 (IntKind.u64.wrap (-(P % 18446744073709551616))) = -P := by
  rw [IntKind.wrap_u64]; unfold wrap64; omega
theorem mul_pos_val {P : Int} (h0 : 0 ≤ P) (h : P / 18446744073709551616 ≤ 0) : P % 18446744073709551616 = P := by omega
/-- Bit k of -y. -/
def bitv (y : Int) (k : Nat) : Bool := decide (-y / 2 ^ k % 2 = 1)
theorem bit_val {y : Int} (h1 : -9223372036854775808 ≤ y) (h0 : y ≤ 0) (k : Nat) : ((IntKind.u64.wrap (wrap64 (-y)) / 2 ^ k).tmod 2 == 1) = bitv y k := by
  have e : IntKind.u64.wrap (wrap64 (-y)) = -y := by rw [IntKind.wrap_u64]; unfold wrap64; omega
  rw [e, Int.tmod_eq_emod_of_nonneg (Int.ediv_nonneg (by omega) (Int.le_of_lt (Int.pow_pos (by omega))))]
  rfl
/-! Doubling and halving, one place at a time. -/
theorem pow_succ2 (a : Int) (k : Nat) : a * 2 ^ (k + 1) = a * 2 ^ k * 2 := by rw [Int.pow_succ, Int.mul_assoc]
theorem pow_over {a : Int} {k n : Nat} (hk : k < n) (h : a * 2 ^ k < -4611686018427387904 ∨ 4611686018427387903 < a * 2 ^ k) : ¬ I64 (a * 2 ^ n) := by
  have e : a * 2 ^ n = a * 2 ^ k * 2 ^ (n - k) := by rw [Int.mul_assoc, ← Int.pow_add]; congr 2; omega
  have hp : (2 : Int) ≤ 2 ^ (n - k) := by
    have : (2 : Nat) ^ 1 ≤ 2 ^ (n - k) := Nat.pow_le_pow_right (by omega) (by omega)
    exact_mod_cast this
  rw [e]
  generalize a * 2 ^ k = c at *
  generalize (2 : Int) ^ (n - k) = p at *
  unfold I64
  rcases h with h | h
  · have := Int.mul_le_mul_of_nonneg_left hp (show 0 ≤ -c by omega)
    rw [Int.neg_mul, Int.neg_mul] at this
    omega
  · have := Int.mul_le_mul_of_nonneg_left hp (show 0 ≤ c by omega)
    omega
theorem pow_zero_end {a : Int} {k n : Nat} (h : a * 2 ^ k = 0) : a * 2 ^ n = 0 := by
  rcases Int.mul_eq_zero.1 h with h | h
  · rw [h, Int.zero_mul]
  · have := two_pos k; omega
theorem half_succ (a : Int) (k : Nat) : a / 2 ^ (k + 1) = a / 2 ^ k / 2 := by rw [Int.pow_succ, Int.ediv_ediv_of_nonneg (Int.le_of_lt (two_pos k))]
theorem half_end {a : Int} {k n : Nat} (hk : k ≤ n) (h : a / 2 ^ k = 0 ∨ a / 2 ^ k = -1) : a / 2 ^ n = a / 2 ^ k := by
  obtain ⟨m, rfl⟩ : ∃ m, n = k + m := ⟨n - k, by omega⟩
  rw [Int.pow_add, ← Int.ediv_ediv_of_nonneg (Int.le_of_lt (two_pos k))]
  have := two_pos m
  rcases h with h | h <;> rw [h]
  · exact Int.zero_ediv _
  · generalize (2 : Int) ^ m = p at *
    have h1 := Int.mul_ediv_self_le (x := -1) (k := p) (by omega)
    have h2 := Int.lt_mul_ediv_self_add (x := -1) (k := p) (by omega)
    by_cases c : -1 / p ≤ -2
    · have := Int.mul_le_mul_of_nonneg_left c (show (0 : Int) ≤ p by omega)
      omega
    · by_cases d : 0 ≤ -1 / p
      · have := Int.mul_nonneg (show (0 : Int) ≤ p by omega) d
        omega
      · omega
/-- A truncated half, made the half rounded down. -/
theorem half_pos {a : Int} (h : 0 ≤ a) : a.tdiv 2 = a / 2 := Int.tdiv_eq_ediv_of_nonneg h
theorem half_neg_even {a : Int} (h : a.tmod 2 = 0) : a.tdiv 2 = a / 2 := by
  have h1 := Int.mul_tdiv_add_tmod a 2
  omega
theorem half_neg_odd {a : Int} (h0 : a < 0) (h : ¬ a.tmod 2 = 0) : a.tdiv 2 - 1 = a / 2 := by
  have h1 := Int.mul_tdiv_add_tmod a 2
  have h2 : (-a).tmod 2 = (-a) % 2 := Int.tmod_eq_emod_of_nonneg (by omega)
  rw [Int.neg_tmod] at h2
  omega
theorem shv_big {a n : Int} (ha : I64 a) (h : 63 < n) : shv a n = 0 ∧ she a n = if a = 0 then 0 else 7 := by
  unfold shv she
  rw [if_neg (by omega), if_neg (by omega)]
  by_cases z : a = 0
  · subst z; rw [Int.zero_mul]; exact ⟨rfl, rfl⟩
  · have := up_over (k := n.toNat) ha z (Or.inl (by omega))
    rw [if_neg z]; exact ⟨okv_not this, oke_not this⟩
theorem shv_same {a n m : Int} (ha : I64 a) (h : 63 < n) (h' : 63 < m) : shv a n = shv a m ∧ she a n = she a m := by
  rw [(shv_big ha h).1, (shv_big ha h).2, (shv_big ha h').1, (shv_big ha h').2]; exact ⟨rfl, rfl⟩
theorem shv_up {a n : Int} (h : 0 ≤ n) : shv a n = okv (a * 2 ^ n.toNat) ∧ she a n = oke (a * 2 ^ n.toNat) := by
  unfold shv she; rw [if_neg (by omega), if_neg (by omega)]; exact ⟨rfl, rfl⟩
/-! Multiplication by doubling: x = -|a|, Y = |b|; after the bits from k on, out = x * (Y / 2^k). -/
/-- Y's bits from k on. -/
def hi (y : Int) (k : Nat) : Int := -y / 2 ^ k
theorem hi_top {y : Int} (h : I64 y) (h0 : y ≤ 0) : hi y 64 = 0 := by
  unfold hi; rw [two64]; unfold I64 at h; omega
theorem hi_zero (y : Int) : hi y 0 = -y := by simp [hi]
theorem hi_step (y : Int) (k : Nat) : hi y k = hi y (k + 1) * 2 + if bitv y k then 1 else 0 := by
  unfold hi bitv
  rw [half_succ]
  by_cases h : -y / 2 ^ k % 2 = 1
  · rw [if_pos (by simpa using h)]; omega
  · rw [if_neg (by simpa using h)]; omega
theorem hi_nonneg {y : Int} (h0 : y ≤ 0) (k : Nat) : 0 ≤ hi y k := Int.ediv_nonneg (by omega) (Int.le_of_lt (two_pos k))
theorem hi_mono {y : Int} (h0 : y ≤ 0) (k : Nat) : hi y k ≤ -y := Int.ediv_le_self _ (by omega)
theorem hi_bit1 {y : Int} {k : Nat} (h : bitv y k = true) : hi y k = hi y (k + 1) * 2 + 1 := by rw [hi_step, if_pos h]
theorem hi_bit0 {y : Int} {k : Nat} (h : bitv y k = false) : hi y k = hi y (k + 1) * 2 := by rw [hi_step, if_neg (by simp [h])]; omega
/-- If a partial product is too great, so is the product. -/
theorem mul_great {x y q : Int} (hx : x ≤ 0) (hq : q ≤ -y) (h : x * q < -9223372036854775808) : ¬ I64 (x * y) ∧ ¬ I64 (-(x * y)) := by
  have h1 := Int.mul_le_mul_of_nonneg_left hq (show 0 ≤ -x by omega)
  rw [Int.neg_mul, Int.neg_mul, Int.mul_neg] at h1
  unfold I64
  omega

end Go.Proofs.YthmpobimmbmddaaGreatDoor
namespace Go.Proofs.YthmpobimmbmddaaGreatDoor
open Go.RowKit
set_option linter.unusedVariables false
set_option linter.unusedSimpArgs false

/-- A term. -/
inductive Tm where
  | mk (kind int gen : Int) (name func : ByteArray) (arity : Int) (items : List Tm) (bytes : ByteArray) (bits : Int)
namespace Tm
def kind : Tm → Int | .mk a _ _ _ _ _ _ _ _ => a
def int : Tm → Int | .mk _ a _ _ _ _ _ _ _ => a
def gen : Tm → Int | .mk _ _ a _ _ _ _ _ _ => a
def name : Tm → ByteArray | .mk _ _ _ a _ _ _ _ _ => a
def func : Tm → ByteArray | .mk _ _ _ _ a _ _ _ _ => a
def arity : Tm → Int | .mk _ _ _ _ _ a _ _ _ => a
def items : Tm → List Tm | .mk _ _ _ _ _ _ a _ _ => a
def bytes : Tm → ByteArray | .mk _ _ _ _ _ _ _ a _ => a
def bits : Tm → Int | .mk _ _ _ _ _ _ _ _ a => a
def Ok (t : Tm) : Prop := I64 t.kind ∧ I64 t.int ∧ I64 t.gen ∧ t.name.size ≤ maxLen ∧ t.func.size ≤ maxLen ∧ I64 t.arity ∧ t.items.length ≤ maxLen ∧ t.bytes.size ≤ maxLen ∧ I64 t.bits
end Tm
structure RArg where
  kind : Int
  n : Int
structure RCase where
  lit : Int
  to : Int
structure RSeg where
  type : Int
  val : RArg
  size : RArg
  little : Bool
structure RIns where
  op : Int
  dst : RArg
  src : List RArg
  to : Int
  n : Int
  live : Int
  name : ByteArray
  cases : List RCase
  segs : List RSeg
structure RFunc where
  name : ByteArray
  arity : Int
  pub : Bool
  entry : Int
structure RFun where
  arity : Int
  free : Int
  entry : Int
structure RUnit where
  mdl : ByteArray
  vsn : Int
  lits : List Tm
  funcs : List RFunc
  funs : List RFun
  code : List RIns

/-- A slice's cells: size cells an element, each row of cells holding its element. -/
def SlAt {α : Type} (w : World) (size : Nat) (R : List Value → α → Prop) (ao : Option Addr) (l : List α) : Prop :=
  l = [] ∨ ∃ b off, ao = some ⟨b, off, none⟩ ∧ b < w.heap.size ∧ ∀ j (h : j < l.length), ∃ cs : List Value, cs.length = size ∧ (∀ i, i < size → w.cell? ⟨b, off + j * size + i, none⟩ = cs[i]?) ∧ R cs l[j]
theorem SlAt.mono {α : Type} {w w' : World} {size : Nat} {R R' : List Value → α → Prop} {ao : Option Addr} {l : List α} (h : SlAt w size R ao l) (hb : Below w.heap.size w w') (hR : ∀ cs a, R cs a → R' cs a) : SlAt w' size R' ao l := by
  rcases h with h | ⟨b, off, e, hB, hr⟩
  · exact .inl h
  · refine .inr ⟨b, off, e, Nat.lt_of_lt_of_le hB hb.size, fun j hj => ?_⟩
    obtain ⟨cs, hl, hc, hR'⟩ := hr j hj
    exact ⟨cs, hl, fun i hi => (hb.cell (p := ⟨b, off + j * size + i, none⟩) hB).trans (hc i hi), hR _ _ hR'⟩
theorem SlAt.row {α : Type} {w : World} {size : Nat} {R : List Value → α → Prop} {ao : Option Addr} {l : List α} (h : SlAt w size R ao l) {k : Nat} (hk : k < l.length) :
    ∃ b off, ao = some ⟨b, off, none⟩ ∧ b < w.heap.size ∧ ∀ j (h : j < l.length), ∃ cs : List Value, cs.length = size ∧ (∀ i, i < size → w.cell? ⟨b, off + j * size + i, none⟩ = cs[i]?) ∧ R cs l[j] := by
  rcases h with h | h
  · rw [h] at hk; exact absurd hk (Nat.not_lt_zero _)
  · exact h
theorem SlAt.nil {α : Type} (w : World) (size : Nat) (R : List Value → α → Prop) (ao : Option Addr) : SlAt w size R ao [] := .inl rfl

/-- Cells hold a term whose depth is at most f. -/
def TmAt (w : World) : Nat → List Value → Tm → Prop
  | 0, _, _ => False
  | f + 1, cs, t => (∃ ao c, cs = [.int .i64 t.kind, .int .i64 t.int, .int .i64 t.gen, .string t.name, .string t.func, .int .i64 t.arity, .slice ao t.items.length c, .string t.bytes, .int .i64 t.bits] ∧ SlAt w 9 (TmAt w f) ao t.items) ∧ t.Ok
theorem TmAt.below {w w' : World} (hb : Below w.heap.size w w') : ∀ {f : Nat} {cs : List Value} {t : Tm}, TmAt w f cs t → TmAt w' f cs t
  | 0, _, _, h => h
  | _ + 1, _, _, ⟨⟨ao, c, e, hs⟩, ho⟩ => ⟨⟨ao, c, e, hs.mono hb fun _ _ h => TmAt.below hb h⟩, ho⟩
theorem SlAt.imp {α : Type} {w : World} {size : Nat} {R R' : List Value → α → Prop} {ao : Option Addr} {l : List α} (h : SlAt w size R ao l) (hR : ∀ cs a, R cs a → R' cs a) : SlAt w size R' ao l :=
  h.elim .inl fun ⟨b, off, e, hB, hr⟩ => .inr ⟨b, off, e, hB, fun j hj => (hr j hj).elim fun cs ⟨a, b, c⟩ => ⟨cs, a, b, hR _ _ c⟩⟩
theorem TmAt.succ {w : World} : ∀ {f : Nat} {cs : List Value} {t : Tm}, TmAt w f cs t → TmAt w (f + 1) cs t
  | 0, _, _, h => h.elim
  | f + 1, _, _, ⟨⟨ao, c, e, hs⟩, ho⟩ => ⟨⟨ao, c, e, hs.imp fun _ _ h => TmAt.succ h⟩, ho⟩
theorem TmAt.le {w : World} {f g : Nat} (h : f ≤ g) {cs : List Value} {t : Tm} (ht : TmAt w f cs t) : TmAt w g cs t := by
  induction h with
  | refl => exact ht
  | step _ ih => exact ih.succ
def TmA (w : World) (cs : List Value) (t : Tm) : Prop := ∃ f, TmAt w f cs t
theorem TmA.below {w w' : World} {cs : List Value} {t : Tm} (h : TmA w cs t) (hb : Below w.heap.size w w') : TmA w' cs t := h.elim fun f h => ⟨f, h.below hb⟩
theorem TmAt.ok {w : World} : ∀ {f : Nat} {cs : List Value} {t : Tm}, TmAt w f cs t → t.Ok
  | 0, _, _, h => h.elim
  | _ + 1, _, _, ⟨_, ho⟩ => ho

def ArgR (cs : List Value) (a : RArg) : Prop := cs = [.int .i64 a.kind, .int .i64 a.n] ∧ I64 a.kind ∧ I64 a.n
def CaseR (cs : List Value) (a : RCase) : Prop := cs = [.int .i64 a.lit, .int .i64 a.to] ∧ I64 a.lit ∧ I64 a.to
def SegR (cs : List Value) (a : RSeg) : Prop := cs = [.int .i64 a.type, .int .i64 a.val.kind, .int .i64 a.val.n, .int .i64 a.size.kind, .int .i64 a.size.n, .bool a.little] ∧ I64 a.type ∧ I64 a.val.kind ∧ I64 a.val.n ∧ I64 a.size.kind ∧ I64 a.size.n
def FuncR (cs : List Value) (a : RFunc) : Prop := cs = [.string a.name, .int .i64 a.arity, .bool a.pub, .int .i64 a.entry] ∧ a.name.size ≤ maxLen ∧ I64 a.arity ∧ I64 a.entry
def FunR (cs : List Value) (a : RFun) : Prop := cs = [.int .i64 a.arity, .int .i64 a.free, .int .i64 a.entry] ∧ I64 a.arity ∧ I64 a.free ∧ I64 a.entry
def InsR (w : World) (cs : List Value) (x : RIns) : Prop :=
  (∃ so sc co cc go gc, cs = [.int .i64 x.op, .int .i64 x.dst.kind, .int .i64 x.dst.n, .slice so x.src.length sc, .int .i64 x.to, .int .i64 x.n, .int .i64 x.live, .string x.name, .slice co x.cases.length cc, .slice go x.segs.length gc] ∧
    SlAt w 2 ArgR so x.src ∧ SlAt w 2 CaseR co x.cases ∧ SlAt w 6 SegR go x.segs) ∧
  I64 x.op ∧ I64 x.dst.kind ∧ I64 x.dst.n ∧ x.src.length ≤ maxLen ∧ I64 x.to ∧ I64 x.n ∧ I64 x.live ∧ x.name.size ≤ maxLen ∧ x.cases.length ≤ maxLen ∧ x.segs.length ≤ maxLen
theorem InsR.below {w w' : World} {cs : List Value} {x : RIns} (h : InsR w cs x) (hb : Below w.heap.size w w') : InsR w' cs x := by
  obtain ⟨⟨so, sc, co, cc, go, gc, e, h1, h2, h3⟩, hr⟩ := h
  exact ⟨⟨so, sc, co, cc, go, gc, e, h1.mono hb fun _ _ h => h, h2.mono hb fun _ _ h => h, h3.mono hb fun _ _ h => h⟩, hr⟩
def UR (w : World) (cs : List Value) (u : RUnit) : Prop :=
  (∃ lo lc fo fc go gc co cc, cs = [.string u.mdl, .int .i64 u.vsn, .slice lo u.lits.length lc, .slice fo u.funcs.length fc, .slice go u.funs.length gc, .slice co u.code.length cc] ∧
    SlAt w 9 (TmA w) lo u.lits ∧ SlAt w 4 FuncR fo u.funcs ∧ SlAt w 3 FunR go u.funs ∧ SlAt w 10 (InsR w) co u.code) ∧
  u.mdl.size ≤ maxLen ∧ I64 u.vsn ∧ u.lits.length ≤ maxLen ∧ u.funcs.length ≤ maxLen ∧ u.funs.length ≤ maxLen ∧ u.code.length ≤ maxLen
theorem UR.below {w w' : World} {cs : List Value} {u : RUnit} (h : UR w cs u) (hb : Below w.heap.size w w') : UR w' cs u := by
  obtain ⟨⟨lo, lc, fo, fc, go, gc, co, cc, e, h1, h2, h3, h4⟩, hr⟩ := h
  exact ⟨⟨lo, lc, fo, fc, go, gc, co, cc, e, h1.mono hb fun _ _ h => h.below hb, h2.mono hb fun _ _ h => h, h3.mono hb fun _ _ h => h, h4.mono hb fun _ _ h => h.below hb⟩, hr⟩

/-! ### From the reading of an argument -/
section
variable {H : Type} {enc : TypeId × Value → H} {P : Program} {w : World} {base : Nat} {spare : Nat → Bool} {held : Bool}
theorem i64_of {n : Int} (h : (Lit.int .i64 n).wf = true) : I64 n := by
  simp [Lit.wf, IntKind.min, IntKind.max, IntKind.bits, IntKind.signed] at h; unfold I64; omega
theorem open_i64 {t : TypeId} {fuel : Nat} {cs : List Value} {x : DataW H × List MemPlace} (ht : P.underlying t = some (.int .i64)) (h : DataW.trod enc P w base spare held fuel t cs = some x) : ∃ n, cs = [.int .i64 n] ∧ I64 n := by
  obtain ⟨n, e, _, hw⟩ := DataW.trod_int ht h
  exact ⟨n, e, i64_of hw⟩
theorem open_str {t : TypeId} {fuel : Nat} {cs : List Value} {x : DataW H × List MemPlace} (ht : P.underlying t = some .string) (h : DataW.trod enc P w base spare held fuel t cs = some x) : ∃ s, cs = [.string s] ∧ s.size ≤ maxLen := by
  obtain ⟨n, e, _, hw⟩ := DataW.trod_string ht h
  exact ⟨n, e, hw⟩
theorem open_sl {α : Type} {t e : TypeId} {size fuel : Nat} {cs : List Value} {x : DataW H × List MemPlace} (R : List Value → α → Prop) (ht : P.underlying t = some (.slice e)) (hC : P.cellsOf e = size) (h0 : 0 < size)
    (h : DataW.trod enc P w base spare held fuel t cs = some x)
    (hR : ∀ n cs' y, n < fuel → cs'.length = size → DataW.trod enc P w base spare held n e cs' = some y → ∃ a, R cs' a) :
    ∃ ao c l, cs = [.slice ao l.length c] ∧ SlAt w size R ao l ∧ l.length ≤ maxLen := by
  rcases DataW.trod_slice ht h with ⟨e1, _⟩ | ⟨a, len, cap, elems, rest, n, hf, e1, _, hb, hl, hm, hlen, hel, _, _⟩
  · exact ⟨none, 0, [], e1, .inl rfl, Nat.zero_le _⟩
  · have each : ∀ i, i < len → ∃ (x : α) (cs' : List Value), cs'.length = size ∧ (∀ k, k < size → w.cell? ((a.add (i * size)).add k) = cs'[k]?) ∧ R cs' x := fun i hi => by
      have hx := hel i hi
      have hil : i < elems.length := by omega
      rw [List.getElem?_eq_getElem hil, Option.bind_eq_some_iff] at hx
      obtain ⟨cs', hc, ht'⟩ := hx
      rw [hC] at hc
      obtain ⟨_, hcl, hat⟩ := World.cells?_some hc
      obtain ⟨x, hx⟩ := hR n cs' _ (by omega) hcl ht'
      exact ⟨x, cs', hcl, hat, hx⟩
    have all : ∀ m, m ≤ len → ∃ l : List α, l.length = m ∧ ∀ j (h : j < l.length), ∃ cs' : List Value, cs'.length = size ∧ (∀ k, k < size → w.cell? ((a.add (j * size)).add k) = cs'[k]?) ∧ R cs' l[j] := by
      intro m
      induction m with
      | zero => exact fun _ => ⟨[], rfl, fun j h => absurd h (Nat.not_lt_zero _)⟩
      | succ m ih =>
        intro hm'
        obtain ⟨l, hl', hr⟩ := ih (by omega)
        obtain ⟨x, cs', h1, h2, h3⟩ := each m (by omega)
        refine ⟨l ++ [x], by simp [hl'], fun j hj => ?_⟩
        by_cases hjl : j < l.length
        · obtain ⟨cs2, g1, g2, g3⟩ := hr j hjl
          exact ⟨cs2, g1, g2, by rw [List.getElem_append_left hjl]; exact g3⟩
        · have hj2 : j = m := by simp at hj; omega
          subst hj2
          refine ⟨cs', h1, h2, ?_⟩
          rw [List.getElem_append_right (by omega)]
          simpa [hl'] using h3
    obtain ⟨l, hl2, hr⟩ := all len (Nat.le_refl _)
    refine ⟨some a, cap, l, by rw [hl2]; exact e1, ?_, by omega⟩
    rcases Nat.eq_zero_or_pos len with hz | hz
    · left; exact List.eq_nil_of_length_eq_zero (by omega)
    · right
      obtain ⟨cs0, k1, k2, _⟩ := hr 0 (by omega)
      have hc0 : w.cell? a = some (cs0[0]'(by omega)) := by
        have := k2 0 h0
        rw [Nat.zero_mul] at this
        rw [← List.getElem?_eq_getElem, ← this]; rfl
      have hsp := World.cell?_spot (a := a) hc0
      obtain ⟨b, off, sp⟩ := a
      simp only at hsp
      subst hsp
      have hadd : ∀ k, (⟨b, off, none⟩ : Addr).add k = ⟨b, off + k, none⟩ := fun k => by unfold Addr.add; split <;> simp_all
      have hadd2 : ∀ o k, (⟨b, o, none⟩ : Addr).add k = ⟨b, o + k, none⟩ := fun o k => by unfold Addr.add; split <;> simp_all
      refine ⟨b, off, rfl, ?_, fun j hj => ?_⟩
      · rcases Nat.lt_or_ge b w.heap.size with h | h
        · exact h
        · simp [World.cell?, Array.getElem?_eq_none h] at hc0
      · obtain ⟨cs2, g1, g2, g3⟩ := hr j hj
        refine ⟨cs2, g1, fun i hi => ?_, g3⟩
        have := g2 i hi
        rwa [hadd, hadd2] at this
end
end Go.Proofs.YthmpobimmbmddaaGreatDoor
namespace Go.Proofs.YthmpobimmbmddaaGreatDoor
open Go.RowKit

def leftL (rec : List Tm → Int → Int) : List Tm → Int → Int
  | [], m => m
  | t :: l, m => if m < 0 then m else
    if m < t.name.size ∨ m < t.func.size ∨ m < t.bytes.size then -1 else
      leftL rec l (rec t.items (m - 1 - t.name.size / 8 - t.func.size / 8 - t.bytes.size / 8))
def leftF : Nat → List Tm → Int → Int
  | 0, _, m => m
  | f + 1, l, m => leftL (leftF f) l m
theorem leftL_le {rec : List Tm → Int → Int} (h : ∀ l m, -1 ≤ m → -1 ≤ rec l m ∧ rec l m ≤ m) : ∀ (l : List Tm) (m : Int), -1 ≤ m → -1 ≤ leftL rec l m ∧ leftL rec l m ≤ m
  | [], m, hm => ⟨hm, Int.le_refl _⟩
  | t :: l, m, hm => by
    unfold leftL
    split
    · exact ⟨hm, Int.le_refl _⟩
    · split
      · omega
      · have h1 := h t.items (m - 1 - t.name.size / 8 - t.func.size / 8 - t.bytes.size / 8) (by omega)
        have := leftL_le h l _ h1.1
        omega
theorem leftF_le : ∀ (f : Nat) (l : List Tm) (m : Int), -1 ≤ m → -1 ≤ leftF f l m ∧ leftF f l m ≤ m
  | 0, _, _, hm => ⟨hm, Int.le_refl _⟩
  | f + 1, l, m, hm => leftL_le (leftF_le f) l m hm
/-- The rounds of the loop: what is left of the list, and of the number. -/
theorem leftL_stop {rec : List Tm → Int → Int} {l : List Tm} {m : Int} (h : l = [] ∨ m < 0) : leftL rec l m = m := by
  rcases h with rfl | h
  · rfl
  · cases l with
    | nil => rfl
    | cons t l => unfold leftL; rw [if_pos h]
theorem drop_step {α : Type} {l : List α} {k : Nat} (h : k < l.length) : l.drop k = l[k] :: l.drop (k + 1) := List.drop_eq_getElem_cons h
theorem leftL_long {rec : List Tm → Int → Int} {l : List Tm} {k : Nat} (h : k < l.length) {m : Int} (h0 : 0 ≤ m) (hl : m < l[k].name.size ∨ m < l[k].func.size ∨ m < l[k].bytes.size) : leftL rec (l.drop k) m = -1 := by
  rw [drop_step h, leftL, if_neg (by omega), if_pos hl]
theorem leftL_next {rec : List Tm → Int → Int} {l : List Tm} {k : Nat} (h : k < l.length) {m : Int} (h0 : 0 ≤ m) (hl : ¬ (m < l[k].name.size ∨ m < l[k].func.size ∨ m < l[k].bytes.size)) :
    leftL rec (l.drop k) m = leftL rec (l.drop (k + 1)) (rec l[k].items (m - 1 - l[k].name.size / 8 - l[k].func.size / 8 - l[k].bytes.size / 8)) := by
  rw [drop_step h, leftL, if_neg (by omega), if_neg hl]

/-- The first function with a name and an arity. -/
def findL (n : ByteArray) (a : Int) : List RFunc → Nat → Option Nat
  | [], _ => none
  | f :: l, i => if f.name = n ∧ f.arity = a then some i else findL n a l (i + 1)
def findI (n : ByteArray) (a : Int) (l : List RFunc) : Int := match findL n a l 0 with
  | some i => i
  | none => 0
def findB (n : ByteArray) (a : Int) (l : List RFunc) : Bool := (findL n a l 0).isSome
theorem findL_hit {n : ByteArray} {a : Int} {l : List RFunc} {k i : Nat} (h : k < l.length) (hh : l[k].name = n ∧ l[k].arity = a) : findL n a (l.drop k) i = some i := by
  rw [drop_step h, findL, if_pos hh]
theorem findL_miss {n : ByteArray} {a : Int} {l : List RFunc} {k i : Nat} (h : k < l.length) (hh : ¬ (l[k].name = n ∧ l[k].arity = a)) : findL n a (l.drop k) i = findL n a (l.drop (k + 1)) (i + 1) := by
  rw [drop_step h, findL, if_neg hh]
/-- The operations that may raise. -/
def raises (op : Int) : Bool := decide (op ∈ ([2, 3, 4, 14, 15, 16, 17, 18, 19, 20, 21, 22, 23, 27, 35, 36] : List Int))

end Go.Proofs.YthmpobimmbmddaaGreatDoor
namespace Go.Proofs.YthmpobimmbmddaaGreatDoor
open Go.RowKit

section
variable {w : World} {ao : Option Addr} {k : Nat}
theorem SlAt.tm {f : Nat} {l : List Tm} (h : SlAt w 9 (TmAt w (f + 1)) ao l) (hk : k < l.length) :
    ∃ b off ai c, ao = some ⟨b, off, none⟩ ∧ b < w.heap.size ∧ w.cell? ⟨b, off + k * 9, none⟩ = some (.int .i64 l[k].kind) ∧ w.cell? ⟨b, off + k * 9 + 1, none⟩ = some (.int .i64 l[k].int) ∧
      w.cell? ⟨b, off + k * 9 + 2, none⟩ = some (.int .i64 l[k].gen) ∧ w.cell? ⟨b, off + k * 9 + 3, none⟩ = some (.string l[k].name) ∧ w.cell? ⟨b, off + k * 9 + 4, none⟩ = some (.string l[k].func) ∧
      w.cell? ⟨b, off + k * 9 + 5, none⟩ = some (.int .i64 l[k].arity) ∧ w.cell? ⟨b, off + k * 9 + 6, none⟩ = some (.slice ai l[k].items.length c) ∧ w.cell? ⟨b, off + k * 9 + 7, none⟩ = some (.string l[k].bytes) ∧
      w.cell? ⟨b, off + k * 9 + 8, none⟩ = some (.int .i64 l[k].bits) ∧ SlAt w 9 (TmAt w f) ai l[k].items ∧ l[k].Ok := by
  obtain ⟨b, off, e, hb, hr⟩ := h.row hk
  obtain ⟨cs, _, hc, ⟨ai, c, rfl, hs⟩, ho⟩ := hr k hk
  exact ⟨b, off, ai, c, e, hb, hc 0 (by decide), hc 1 (by decide), hc 2 (by decide), hc 3 (by decide), hc 4 (by decide), hc 5 (by decide), hc 6 (by decide), hc 7 (by decide), hc 8 (by decide), hs, ho⟩
theorem SlAt.arg {l : List RArg} (h : SlAt w 2 ArgR ao l) (hk : k < l.length) :
    ∃ b off, ao = some ⟨b, off, none⟩ ∧ b < w.heap.size ∧ w.cell? ⟨b, off + k * 2, none⟩ = some (.int .i64 l[k].kind) ∧ w.cell? ⟨b, off + k * 2 + 1, none⟩ = some (.int .i64 l[k].n) ∧ I64 l[k].kind ∧ I64 l[k].n := by
  obtain ⟨b, off, e, hb, hr⟩ := h.row hk
  obtain ⟨cs, _, hc, rfl, h1, h2⟩ := hr k hk
  exact ⟨b, off, e, hb, hc 0 (by decide), hc 1 (by decide), h1, h2⟩
theorem SlAt.case {l : List RCase} (h : SlAt w 2 CaseR ao l) (hk : k < l.length) :
    ∃ b off, ao = some ⟨b, off, none⟩ ∧ b < w.heap.size ∧ w.cell? ⟨b, off + k * 2, none⟩ = some (.int .i64 l[k].lit) ∧ w.cell? ⟨b, off + k * 2 + 1, none⟩ = some (.int .i64 l[k].to) ∧ I64 l[k].lit ∧ I64 l[k].to := by
  obtain ⟨b, off, e, hb, hr⟩ := h.row hk
  obtain ⟨cs, _, hc, rfl, h1, h2⟩ := hr k hk
  exact ⟨b, off, e, hb, hc 0 (by decide), hc 1 (by decide), h1, h2⟩
theorem SlAt.seg {l : List RSeg} (h : SlAt w 6 SegR ao l) (hk : k < l.length) :
    ∃ b off, ao = some ⟨b, off, none⟩ ∧ b < w.heap.size ∧ w.cell? ⟨b, off + k * 6, none⟩ = some (.int .i64 l[k].type) ∧ w.cell? ⟨b, off + k * 6 + 1, none⟩ = some (.int .i64 l[k].val.kind) ∧ w.cell? ⟨b, off + k * 6 + 2, none⟩ = some (.int .i64 l[k].val.n) ∧
      w.cell? ⟨b, off + k * 6 + 3, none⟩ = some (.int .i64 l[k].size.kind) ∧ w.cell? ⟨b, off + k * 6 + 4, none⟩ = some (.int .i64 l[k].size.n) ∧ w.cell? ⟨b, off + k * 6 + 5, none⟩ = some (.bool l[k].little) ∧
      I64 l[k].type ∧ I64 l[k].val.kind ∧ I64 l[k].val.n ∧ I64 l[k].size.kind ∧ I64 l[k].size.n := by
  obtain ⟨b, off, e, hb, hr⟩ := h.row hk
  obtain ⟨cs, _, hc, rfl, h1⟩ := hr k hk
  exact ⟨b, off, e, hb, hc 0 (by decide), hc 1 (by decide), hc 2 (by decide), hc 3 (by decide), hc 4 (by decide), hc 5 (by decide), h1⟩
theorem SlAt.func {l : List RFunc} (h : SlAt w 4 FuncR ao l) (hk : k < l.length) :
    ∃ b off, ao = some ⟨b, off, none⟩ ∧ b < w.heap.size ∧ w.cell? ⟨b, off + k * 4, none⟩ = some (.string l[k].name) ∧ w.cell? ⟨b, off + k * 4 + 1, none⟩ = some (.int .i64 l[k].arity) ∧ w.cell? ⟨b, off + k * 4 + 2, none⟩ = some (.bool l[k].pub) ∧
      w.cell? ⟨b, off + k * 4 + 3, none⟩ = some (.int .i64 l[k].entry) ∧ l[k].name.size ≤ maxLen ∧ I64 l[k].arity ∧ I64 l[k].entry := by
  obtain ⟨b, off, e, hb, hr⟩ := h.row hk
  obtain ⟨cs, _, hc, rfl, h1⟩ := hr k hk
  exact ⟨b, off, e, hb, hc 0 (by decide), hc 1 (by decide), hc 2 (by decide), hc 3 (by decide), h1⟩
theorem SlAt.fn {l : List RFun} (h : SlAt w 3 FunR ao l) (hk : k < l.length) :
    ∃ b off, ao = some ⟨b, off, none⟩ ∧ b < w.heap.size ∧ w.cell? ⟨b, off + k * 3, none⟩ = some (.int .i64 l[k].arity) ∧ w.cell? ⟨b, off + k * 3 + 1, none⟩ = some (.int .i64 l[k].free) ∧ w.cell? ⟨b, off + k * 3 + 2, none⟩ = some (.int .i64 l[k].entry) ∧
      I64 l[k].arity ∧ I64 l[k].free ∧ I64 l[k].entry := by
  obtain ⟨b, off, e, hb, hr⟩ := h.row hk
  obtain ⟨cs, _, hc, rfl, h1⟩ := hr k hk
  exact ⟨b, off, e, hb, hc 0 (by decide), hc 1 (by decide), hc 2 (by decide), h1⟩
theorem SlAt.ins {l : List RIns} (h : SlAt w 10 (InsR w) ao l) (hk : k < l.length) :
    ∃ b off so sc co cc go gc, ao = some ⟨b, off, none⟩ ∧ b < w.heap.size ∧ w.cell? ⟨b, off + k * 10, none⟩ = some (.int .i64 l[k].op) ∧ w.cell? ⟨b, off + k * 10 + 1, none⟩ = some (.int .i64 l[k].dst.kind) ∧ w.cell? ⟨b, off + k * 10 + 2, none⟩ = some (.int .i64 l[k].dst.n) ∧
      w.cell? ⟨b, off + k * 10 + 3, none⟩ = some (.slice so l[k].src.length sc) ∧ w.cell? ⟨b, off + k * 10 + 4, none⟩ = some (.int .i64 l[k].to) ∧ w.cell? ⟨b, off + k * 10 + 5, none⟩ = some (.int .i64 l[k].n) ∧ w.cell? ⟨b, off + k * 10 + 6, none⟩ = some (.int .i64 l[k].live) ∧
      w.cell? ⟨b, off + k * 10 + 7, none⟩ = some (.string l[k].name) ∧ w.cell? ⟨b, off + k * 10 + 8, none⟩ = some (.slice co l[k].cases.length cc) ∧ w.cell? ⟨b, off + k * 10 + 9, none⟩ = some (.slice go l[k].segs.length gc) ∧
      SlAt w 2 ArgR so l[k].src ∧ SlAt w 2 CaseR co l[k].cases ∧ SlAt w 6 SegR go l[k].segs ∧
      I64 l[k].op ∧ I64 l[k].dst.kind ∧ I64 l[k].dst.n ∧ l[k].src.length ≤ maxLen ∧ I64 l[k].to ∧ I64 l[k].n ∧ I64 l[k].live ∧ l[k].name.size ≤ maxLen ∧ l[k].cases.length ≤ maxLen ∧ l[k].segs.length ≤ maxLen := by
  obtain ⟨b, off, e, hb, hr⟩ := h.row hk
  obtain ⟨cs, _, hc, ⟨so, sc, co, cc, go, gc, rfl, s1, s2, s3⟩, h1⟩ := hr k hk
  exact ⟨b, off, so, sc, co, cc, go, gc, e, hb, hc 0 (by decide), hc 1 (by decide), hc 2 (by decide), hc 3 (by decide), hc 4 (by decide), hc 5 (by decide), hc 6 (by decide), hc 7 (by decide), hc 8 (by decide), hc 9 (by decide), s1, s2, s3, h1⟩
end
end Go.Proofs.YthmpobimmbmddaaGreatDoor
namespace Go.Proofs.YthmpobimmbmddaaGreatDoor
open Go.RowKit
set_option linter.unusedVariables false

theorem below_next {w a b : World} (h : Below w.heap.size w a) (k : Below a.heap.size a b) : Below w.heap.size w b := h.trans (k.mono h.size)
theorem below_drewN {B : Nat} {a w : World} (h : Below B a w) (n : Nat) : Below B a (w.drewN n) := ⟨h.os, h.tape, h.output, h.size, h.block⟩

theorem SlAt.zero {w : World} {ao : Option Addr} {l : List Tm} (h : SlAt w 9 (TmAt w 0) ao l) : l = [] := by
  rcases h with h | ⟨b, off, e, hb, hr⟩
  · exact h
  · cases l with
    | nil => rfl
    | cons t l =>
      obtain ⟨cs, _, _, hf⟩ := hr 0 (by simp)
      exact hf.elim
theorem SlAt.tms {w w' : World} {f : Nat} {ao : Option Addr} {l : List Tm} (h : SlAt w 9 (TmAt w f) ao l) (hb : Below w.heap.size w w') : SlAt w' 9 (TmAt w' f) ao l := h.mono hb fun _ _ h => h.below hb

/-- The terms of a list are of one depth. -/
theorem tms_depth {w : World} {ao : Option Addr} {l : List Tm} (h : SlAt w 9 (TmA w) ao l) : ∃ f, SlAt w 9 (TmAt w f) ao l := by
  rcases h with h | ⟨b, off, e, hb, hr⟩
  · exact ⟨0, .inl h⟩
  · have : ∀ m, m ≤ l.length → ∃ f, ∀ j (hj : j < l.length), j < m → ∃ cs : List Value, cs.length = 9 ∧ (∀ i, i < 9 → w.cell? ⟨b, off + j * 9 + i, none⟩ = cs[i]?) ∧ TmAt w f cs l[j] := by
      intro m
      induction m with
      | zero => exact fun _ => ⟨0, fun j _ h => absurd h (Nat.not_lt_zero _)⟩
      | succ m ih =>
        intro hm
        obtain ⟨f, hf⟩ := ih (by omega)
        obtain ⟨cs, h1, h2, g, h3⟩ := hr m (by omega)
        refine ⟨max f g, fun j hj hjm => ?_⟩
        by_cases e : j = m
        · subst e; exact ⟨cs, h1, h2, TmAt.le (Nat.le_max_right _ _) h3⟩
        · obtain ⟨cs', a1, a2, a3⟩ := hf j hj (by omega)
          exact ⟨cs', a1, a2, TmAt.le (Nat.le_max_left _ _) a3⟩
    obtain ⟨f, hf⟩ := this l.length (Nat.le_refl _)
    exact ⟨f, .inr ⟨b, off, e, hb, fun j hj => hf j hj hj⟩⟩

end Go.Proofs.YthmpobimmbmddaaGreatDoor
namespace Go.Proofs.YthmpobimmbmddaaGreatDoor
open Go.RowKit
set_option linter.unusedVariables false

theorem ret_ib {k : IntKind} {a b : Int} {c d : Bool} (h : a = b) (h' : c = d) : Ending.returned (.tuple #[.int k a, .bool c]) = .returned (.tuple #[.int k b, .bool d]) := by rw [h, h']
theorem lt_of_row {w : World} {C : Nat} {o : Obj} (h : w.heap[C]? = some o) : C < w.heap.size := (Array.getElem?_eq_some_iff.1 h).1
def wi (n a b : Int) : Bool := decide (a ≤ n) && decide (n ≤ b)
theorem wi_yes {n a b : Int} (h : a ≤ n) (h' : n ≤ b) : wi n a b = true := by unfold wi; rw [decide_eq_true h, decide_eq_true h']; rfl
theorem wi_no {n a b : Int} (h : ¬ (a ≤ n ∧ n ≤ b)) : wi n a b = false := by
  unfold wi
  by_cases h1 : a ≤ n
  · rw [decide_eq_true h1, decide_eq_false (fun h2 => h ⟨h1, h2⟩)]; rfl
  · rw [decide_eq_false h1]; rfl
theorem results_row_tmp {fn : Func} {p u : Tmp} {ty : TypeId} (h : fn.results = #[.cell p ty, .tmp u]) (tmps : Array Value) (P : Program) (w : World) (g : Nat) (t : TypeId) (cs : Array Value) (fr : Nat × Nat) (fs : Array Field)
    (hp : tmps.getD p undef = .pointer (some ⟨g, 0, none⟩)) (hg : w.heap[g]? = some (.cells cs t fr))
    (hu : P.underlying ty = some (.struct fs)) (hi : (P.info? ty).map (·.size) = some cs.size) :
    (results fn tmps).run P w = .ok (.tuple #[.agg cs, tmps.getD u undef]) w := by
  have hl := run_loadVar_row w g t ty cs fr (.struct fs) hg hu rfl hi
  rw [results_cell_tmp h, hp]
  simp [asAddr, hl, Result.andThen]
def opTwo : List (List UInt8) := [[43], [42], [100, 105, 118], [114, 101, 109], [98, 97, 110, 100], [98, 111, 114], [98, 120, 111, 114], [98, 115, 108], [98, 115, 114], [97, 110, 100], [111, 114], [120, 111, 114], [61, 58, 61], [61, 47, 61], [60], [61, 60], [62], [62, 61], [43, 43]]
/-- Is this the name of an operator with n operands? -/
def operB (s : ByteArray) (n : Int) : Bool :=
  if s.toList == [45] then n == 1 || n == 2 else if s.toList == [98, 110, 111, 116] || s.toList == [110, 111, 116] then n == 1 else if opTwo.any (fun x => s.toList == x) then n == 2 else false
end Go.Proofs.YthmpobimmbmddaaGreatDoor
namespace Go.Proofs.YthmpobimmbmddaaGreatDoor
set_option linter.unusedVariables false
set_option linter.unusedSimpArgs false

/-- Bit j of a row of bits, the first one the highest, as a byte. -/
def pkN : Nat → List Bool → Nat
  | 0, _ => 0
  | n + 1, [] => 0
  | n + 1, b :: l => (if b then 2 ^ n else 0) + pkN n l
def pk (m : List Bool) : Nat := pkN 8 m
theorem pkN_nil (n : Nat) : pkN n [] = 0 := by cases n <;> rfl
theorem pkN_lt : ∀ (n : Nat) (m : List Bool), pkN n m < 2 ^ n
  | 0, _ => by simp [pkN]
  | n + 1, [] => by simp [pkN]; exact Nat.pos_of_ne_zero (by simp)
  | n + 1, b :: l => by
    have := pkN_lt n l
    unfold pkN
    rw [Nat.pow_succ]
    split <;> omega
theorem pk_lt (m : List Bool) : pk m < 256 := pkN_lt 8 m
theorem pkN_bit : ∀ (n : Nat) (m : List Bool) (i : Nat), (pkN n m).testBit i = (decide (i < n) && (m[n - 1 - i]?).getD false)
  | 0, m, i => by simp [pkN]
  | n + 1, [], i => by simp [pkN]
  | n + 1, b :: l, i => by
    have hlt := pkN_lt n l
    have ih := pkN_bit n l i
    unfold pkN
    have e : (if b = true then 2 ^ n else 0) + pkN n l = 2 ^ n * (if b = true then 1 else 0) + pkN n l := by split <;> simp
    rw [e, Nat.testBit_two_pow_mul_add _ hlt]
    by_cases hi : i < n
    · rw [if_pos hi, ih]
      have h1 : n + 1 - 1 - i = (n - 1 - i) + 1 := by omega
      rw [h1, List.getElem?_cons_succ]
      simp [hi, Nat.lt_succ_of_lt hi]
    · rw [if_neg hi]
      by_cases hn : i = n
      · subst hn
        simp
        cases b <;> simp
      · have h1 : ¬ i < n + 1 := by omega
        have h2 : 0 < i - n := by omega
        simp only [h1, decide_false, Bool.false_and]
        obtain ⟨k, hk⟩ : ∃ k, i - n = k + 1 := ⟨i - n - 1, by omega⟩
        rw [hk]
        cases b <;> simp [Nat.testBit_succ]
theorem pk_bit (m : List Bool) (i : Nat) : (pk m).testBit i = (decide (i < 8) && (m[7 - i]?).getD false) := pkN_bit 8 m i

/-- The bits of a byte, of bytes. -/
def byteB (c : UInt8) : List Bool := [c.toNat.testBit 7, c.toNat.testBit 6, c.toNat.testBit 5, c.toNat.testBit 4, c.toNat.testBit 3, c.toNat.testBit 2, c.toNat.testBit 1, c.toNat.testBit 0]
def bitsL (l : List UInt8) : List Bool := l.flatMap byteB
theorem byteB_len (c : UInt8) : (byteB c).length = 8 := rfl
theorem bitsL_len : ∀ l : List UInt8, (bitsL l).length = 8 * l.length
  | [] => rfl
  | c :: l => by
    have := bitsL_len l
    unfold bitsL at this ⊢
    rw [List.flatMap_cons, List.length_append, this, byteB_len, List.length_cons]; omega
theorem byteB_at (c : UInt8) (i : Nat) (h : i < 8) : (byteB c)[i]? = some (c.toNat.testBit (7 - i)) := by
  match i, h with
  | 0, _ => rfl
  | 1, _ => rfl
  | 2, _ => rfl
  | 3, _ => rfl
  | 4, _ => rfl
  | 5, _ => rfl
  | 6, _ => rfl
  | 7, _ => rfl
theorem bitsL_at : ∀ (l : List UInt8) (i : Nat), (bitsL l)[i]? = (l[i / 8]?).map fun c => c.toNat.testBit (7 - i % 8)
  | [], i => by simp [bitsL]
  | c :: l, i => by
    have ih := bitsL_at l (i - 8)
    have e : bitsL (c :: l) = byteB c ++ bitsL l := by unfold bitsL; rw [List.flatMap_cons]
    rw [e]
    by_cases h : i < 8
    · rw [List.getElem?_append_left (by rw [byteB_len]; exact h), byteB_at c i h]
      have h0 : i / 8 = 0 := by omega
      have h1 : i % 8 = i := by omega
      rw [h0, h1]; rfl
    · rw [List.getElem?_append_right (by rw [byteB_len]; omega), byteB_len, ih]
      have h0 : i / 8 = (i - 8) / 8 + 1 := by omega
      have h1 : (i - 8) % 8 = i % 8 := by omega
      rw [h0, h1, List.getElem?_cons_succ]

/-- Bits packed in bytes, the last one filled up with zeros. -/
def packF : Nat → List Bool → List UInt8
  | 0, _ => []
  | f + 1, m => if m.length = 0 then [] else UInt8.ofNat (pk m) :: packF f (m.drop 8)
def packB (m : List Bool) : List UInt8 := packF m.length m
theorem packF_more : ∀ (f g : Nat) (m : List Bool), m.length ≤ f → m.length ≤ g → packF f m = packF g m
  | 0, 0, m, _, _ => rfl
  | 0, g + 1, m, h, _ => by unfold packF; rw [if_pos (by omega)]
  | f + 1, 0, m, _, h => by unfold packF; rw [if_pos (by omega)]
  | f + 1, g + 1, m, h1, h2 => by
    unfold packF
    split
    · rfl
    · rw [packF_more f g (m.drop 8) (by rw [List.length_drop]; omega) (by rw [List.length_drop]; omega)]
theorem packB_nil : packB [] = [] := rfl
theorem packB_cons (m : List Bool) (h : m ≠ []) : packB m = UInt8.ofNat (pk m) :: packB (m.drop 8) := by
  have hp : 0 < m.length := List.length_pos_iff.2 h
  obtain ⟨k, hk⟩ : ∃ k, m.length = k + 1 := ⟨m.length - 1, by omega⟩
  unfold packB
  rw [hk]
  show (if m.length = 0 then [] else _) = _
  rw [if_neg (by omega), packF_more k (m.drop 8).length _ (by rw [List.length_drop]; omega) (Nat.le_refl _)]
theorem pkN_take : ∀ (n : Nat) (m r : List Bool), n ≤ m.length → pkN n (m ++ r) = pkN n m
  | 0, _, _, _ => rfl
  | n + 1, [], _, h => by simp at h
  | n + 1, b :: l, r, h => by
    show _ + pkN n (l ++ r) = _ + pkN n l
    rw [pkN_take n l r (by simpa using h)]
theorem packB_app : ∀ (q : Nat) (a m : List Bool), a.length = 8 * q → packB (a ++ m) = packB a ++ packB m
  | 0, a, m, h => by
    have : a = [] := List.length_eq_zero_iff.1 (by omega)
    subst this; rfl
  | q + 1, a, m, h => by
    have ha : a ≠ [] := by intro e; subst e; simp at h
    rw [packB_cons (a ++ m) (by simp [ha]), packB_cons a ha, List.drop_append_of_le_length (by omega), packB_app q (a.drop 8) m (by rw [List.length_drop]; omega)]
    have : pk (a ++ m) = pk a := pkN_take 8 a m (by omega)
    rw [this]; rfl
theorem packB_one (m : List Bool) (h : m ≠ []) (h8 : m.length ≤ 8) : packB m = [UInt8.ofNat (pk m)] := by
  rw [packB_cons m h, List.drop_eq_nil_of_le h8]; rfl
theorem packB_len : ∀ (n : Nat) (m : List Bool), m.length ≤ n → (packB m).length = (m.length + 7) / 8
  | 0, m, h => by
    have : m = [] := List.length_eq_zero_iff.1 (by omega)
    subst this; rfl
  | n + 1, m, h => by
    by_cases hm : m = []
    · subst hm; rfl
    · have hp : 0 < m.length := List.length_pos_iff.2 hm
      rw [packB_cons m hm, List.length_cons, packB_len n (m.drop 8) (by rw [List.length_drop]; omega), List.length_drop]
      omega
theorem packB_length (m : List Bool) : (packB m).length = (m.length + 7) / 8 := packB_len m.length m (Nat.le_refl _)

/-- The bits of a row from i on, at most n. -/
def sub (l : List Bool) (i n : Nat) : List Bool := (l.drop i).take n
theorem sub_at (l : List Bool) (i n j : Nat) : (sub l i n)[j]? = if j < n then l[i + j]? else none := by
  unfold sub
  rw [List.getElem?_take]
  split
  · rw [List.getElem?_drop]
  · rfl
theorem sub_len (l : List Bool) (i n : Nat) (h : i + n ≤ l.length) : (sub l i n).length = n := by
  unfold sub; rw [List.length_take, List.length_drop]; omega
theorem sub_add (l : List Bool) (i n k : Nat) : sub l i (n + k) = sub l i n ++ sub l (i + n) k := by
  unfold sub; rw [List.take_add, List.drop_drop]
theorem testBit_ext {a b : Nat} (h : ∀ i, a.testBit i = b.testBit i) : a = b := Nat.eq_of_testBit_eq h
theorem u8_bit (c : UInt8) (i : Nat) (h : 8 ≤ i) : c.toNat.testBit i = false := by
  apply Nat.testBit_lt_two_pow
  have h1 : c.toNat < 2 ^ 8 := c.toNat_lt
  exact Nat.lt_of_lt_of_le h1 (Nat.pow_le_pow_right (by decide) h)
/-- The eight bits from i on, masked to the first many. -/
theorem eight_is (l : List UInt8) (i many : Nat) (c d : UInt8) (hm : many ≤ 8) (hc : l[i / 8]? = some c) (hd : (l[i / 8 + 1]?).getD 0 = d) (hin : i + many ≤ 8 * l.length) :
    (((c.toNat <<< (i % 8)) % 256 ||| d.toNat >>> (8 - i % 8)) &&& ((255 <<< (8 - many)) % 256)) = pk (sub (bitsL l) i many) := by
  have h256 : (256 : Nat) = 2 ^ 8 := rfl
  have h255 : (255 : Nat) = 2 ^ 8 - 1 := rfl
  apply testBit_ext
  intro j
  rw [pk_bit, Nat.testBit_and, Nat.testBit_or, h256, Nat.testBit_mod_two_pow, Nat.testBit_mod_two_pow, Nat.testBit_shiftLeft, Nat.testBit_shiftLeft, Nat.testBit_shiftRight, h255, Nat.testBit_two_pow_sub_one]
  by_cases hj : j < 8
  · rw [sub_at]
    by_cases hk : 7 - j < many
    · rw [if_pos hk, bitsL_at]
      have e1 : 8 - many ≤ j := by omega
      have e2 : j - (8 - many) < 8 := by omega
      simp only [hj, decide_true, Bool.true_and, e1, e2, Bool.and_true]
      by_cases hs : i % 8 ≤ j
      · have q1 : (i + (7 - j)) / 8 = i / 8 := by omega
        have q2 : 7 - (i + (7 - j)) % 8 = j - i % 8 := by omega
        rw [q1, hc, Option.map_some, q2, Option.getD_some, u8_bit d _ (by omega)]
        simp [hs]
      · have q1 : (i + (7 - j)) / 8 = i / 8 + 1 := by omega
        have q2 : 7 - (i + (7 - j)) % 8 = 8 - i % 8 + j := by omega
        have hl : i / 8 + 1 < l.length := by omega
        rw [List.getElem?_eq_getElem hl, Option.getD_some] at hd
        rw [q1, List.getElem?_eq_getElem hl, hd, Option.map_some, q2, Option.getD_some]
        simp [hs]
    · rw [if_neg hk]
      have e1 : ¬ 8 - many ≤ j := by omega
      simp [e1]
  · simp [hj]
theorem pk_or (r m : List Bool) (h : r.length < 8) : pk r ||| pk m >>> r.length = pk (r ++ m) := by
  apply testBit_ext
  intro j
  rw [Nat.testBit_or, Nat.testBit_shiftRight, pk_bit, pk_bit, pk_bit]
  by_cases hj : j < 8
  · by_cases hr : 7 - j < r.length
    · have e : ¬ r.length + j < 8 := by omega
      rw [List.getElem?_append_left hr]
      simp [hj, e]
    · have e : r.length + j < 8 := by omega
      have e2 : 7 - (r.length + j) = 7 - j - r.length := by omega
      rw [List.getElem?_append_right (by omega), List.getElem?_eq_none (by omega)]
      simp [hj, e, e2]
  · have e : ¬ r.length + j < 8 := by omega
    simp [hj, e]
theorem pk_shl (r m : List Bool) (h : r.length < 8) (hr : 0 < r.length) (h8 : m.length ≤ 8) : (pk m <<< (8 - r.length)) % 256 = pk ((r ++ m).drop 8) := by
  have h256 : (256 : Nat) = 2 ^ 8 := rfl
  apply testBit_ext
  intro j
  rw [h256, Nat.testBit_mod_two_pow, Nat.testBit_shiftLeft, pk_bit, pk_bit, List.getElem?_drop]
  by_cases hj : j < 8
  · rw [List.getElem?_append_right (by omega)]
    by_cases hg : 8 - r.length ≤ j
    · have e1 : j - (8 - r.length) < 8 := by omega
      have e2 : 7 - (j - (8 - r.length)) = 8 + (7 - j) - r.length := by omega
      simp [hj, hg, e1, e2]
    · have hn : m[8 + (7 - j) - r.length]? = none := List.getElem?_eq_none (by omega)
      rw [hn]; simp [hg]
  · simp [hj]
theorem packB_even (l m : List Bool) (h : l.length % 8 = 0) : packB (l ++ m) = packB l ++ packB m := packB_app (l.length / 8) l m (by omega)
theorem packB_split (l : List Bool) (h : 0 < l.length % 8) : ∃ (A : List UInt8) (r : List Bool), packB l = A ++ [UInt8.ofNat (pk r)] ∧ r.length = l.length % 8 ∧ A.length = l.length / 8 ∧ ∀ m, packB (l ++ m) = A ++ packB (r ++ m) := by
  have e : l = l.take (8 * (l.length / 8)) ++ l.drop (8 * (l.length / 8)) := (List.take_append_drop _ _).symm
  have h1 : (l.take (8 * (l.length / 8))).length = 8 * (l.length / 8) := by rw [List.length_take]; omega
  have h2 : (l.drop (8 * (l.length / 8))).length = l.length % 8 := by rw [List.length_drop]; omega
  refine ⟨packB (l.take (8 * (l.length / 8))), l.drop (8 * (l.length / 8)), ?_, h2, ?_, fun m => ?_⟩
  · have := packB_app _ _ (l.drop (8 * (l.length / 8))) h1
    rw [← e] at this
    rw [this, packB_one (l.drop (8 * (l.length / 8))) (by intro e; rw [e] at h2; simp at h2; omega) (by omega)]
  · rw [packB_length, h1]; omega
  · have := packB_app _ _ (l.drop (8 * (l.length / 8)) ++ m) h1
    rw [← List.append_assoc, ← e] at this
    exact this
/-- One step of the writer, the bits written so far not a whole number of bytes: the last byte is filled, and perhaps one more comes. -/
theorem packB_part (l m : List Bool) (h : 0 < l.length % 8) (h8 : m.length ≤ 8) : ∃ (A : List UInt8) (x : UInt8), packB l = A ++ [x] ∧ A.length = l.length / 8 ∧
    packB (l ++ m) = A ++ [UInt8.ofNat (x.toNat ||| pk m >>> (l.length % 8))] ++ (if 8 - l.length % 8 < m.length then [UInt8.ofNat ((pk m <<< (8 - l.length % 8)) % 256)] else []) := by
  obtain ⟨A, r, h1, h2, h3, h4⟩ := packB_split l h
  refine ⟨A, _, h1, h3, ?_⟩
  have hr : r ++ m ≠ [] := by intro e; have := congrArg List.length e; rw [List.length_append, List.length_nil] at this; omega
  rw [h4 m, packB_cons _ hr, ← h2, ← pk_or r m (by omega)]
  have e : (UInt8.ofNat (pk r)).toNat = pk r := by rw [UInt8.toNat_ofNat']; exact Nat.mod_eq_of_lt (pk_lt r)
  rw [e, List.append_assoc]
  congr 1
  split
  · rename_i h5
    rw [packB_one _ (by intro e; have := congrArg List.length e; rw [List.length_drop, List.length_append, List.length_nil] at this; omega) (by rw [List.length_drop, List.length_append]; omega), pk_shl r m (by omega) (by omega) h8]
    rfl
  · rename_i h5
    rw [List.drop_eq_nil_of_le (by rw [List.length_append]; omega)]
    rfl
/-- A row of bytes with that many bits is valid. -/
def ValidB (y : List UInt8) (n : Nat) : Prop := y = packB (sub (bitsL y) 0 n) ∧ y.length = (n + 7) / 8
theorem bitsL_pack (m : List Bool) : sub (bitsL (packB m)) 0 m.length = m := by
  apply List.ext_getElem?
  intro j
  rw [sub_at]
  split
  · rename_i hj
    rw [Nat.zero_add, bitsL_at]
    have hq : packB m = packB (m.take (8 * (j / 8))) ++ packB (m.drop (8 * (j / 8))) := by
      have h1 : (m.take (8 * (j / 8))).length = 8 * (j / 8) := by rw [List.length_take]; omega
      have := packB_app _ _ (m.drop (8 * (j / 8))) h1
      rwa [List.take_append_drop] at this
    have hl : (packB (m.take (8 * (j / 8)))).length = j / 8 := by rw [packB_length, List.length_take]; omega
    have hne : m.drop (8 * (j / 8)) ≠ [] := by intro e; have := congrArg List.length e; rw [List.length_drop, List.length_nil] at this; omega
    rw [hq, List.getElem?_append_right (by omega), hl, Nat.sub_self, packB_cons _ hne, List.getElem?_cons_zero, Option.map_some]
    have e : (UInt8.ofNat (pk (m.drop (8 * (j / 8))))).toNat = pk (m.drop (8 * (j / 8))) := by rw [UInt8.toNat_ofNat']; exact Nat.mod_eq_of_lt (pk_lt _)
    rw [e, pk_bit, List.getElem?_drop]
    have e1 : 7 - j % 8 < 8 := by omega
    have e2 : 8 * (j / 8) + (7 - (7 - j % 8)) = j := by omega
    rw [e2, List.getElem?_eq_getElem hj]
    simp [e1]
  · rename_i hj
    rw [List.getElem?_eq_none (by omega)]
end Go.Proofs.YthmpobimmbmddaaGreatDoor
namespace Go.Proofs.YthmpobimmbmddaaGreatDoor
open Go.RowKit
set_option linter.unusedVariables false
set_option linter.unusedSimpArgs false

set_option maxRecDepth 100000 in
set_option maxHeartbeats 4000000 in
theorem blen_any (n : Nat) (hn : n ≤ 1152921504606846976) (w : World) : Calls Tryz.prog 127 #[.int .i64 n] w fun e w' => e = .returned (.int .i64 ((n + 7) / 8 : Nat)) ∧ w = w' := by
  go_enter Tryz.func127, Tryz.ntmps127
  go_wp2_with fail
  · go_ret
    have h : 0 < (n : Int) % 8 := by assumption
    exact ⟨ret1 (by omega), rfl⟩
  · go_ret
    have h : (n : Int) % 8 ≤ 0 := by assumption
    exact ⟨ret1 (by omega), rfl⟩
def byteAt (y : ByteArray) (k : Nat) : UInt8 := (y.data.toList[k]?).getD 0
theorem byteAt_in {y : ByteArray} {k : Nat} (h : k < y.size) : byteAt y k = y[k] := by
  have e : y.data.toList[k]? = some y[k] := by rw [Array.getElem?_toList]; exact Array.getElem?_eq_getElem h
  unfold byteAt; rw [e]; rfl
theorem byteAt_out {y : ByteArray} {k : Nat} (h : y.size ≤ k) : byteAt y k = 0 := by
  have e : y.data.toList[k]? = none := List.getElem?_eq_none (by simpa using h)
  unfold byteAt; rw [e]; rfl
/-- The eight bits from i on. -/
def eightN (y : ByteArray) (i : Nat) : Nat := ((byteAt y (i / 8)).toNat <<< (i % 8)) % 256 ||| (byteAt y (i / 8 + 1)).toNat >>> (8 - i % 8)
theorem or_u8 (a b : Nat) (ha : a < 256) (hb : b < 256) : bits .or .u8 (a : Int) (b : Int) = ((a ||| b : Nat) : Int) :=
  (bits_nat .u8 8 (by decide) (fun n h0 h1 => by rw [IntKind.wrap_u8]; omega) a b ha hb).2
theorem and_u8 (a b : Nat) (ha : a < 256) (hb : b < 256) : bits .and .u8 (a : Int) (b : Int) = ((a &&& b : Nat) : Int) :=
  (bits_nat .u8 8 (by decide) (fun n h0 h1 => by rw [IntKind.wrap_u8]; omega) a b ha hb).1
theorem shl_u8 (c : UInt8) (k : Nat) : ((c.toNat : Int) * 2 ^ k % 256) = (((c.toNat <<< k) % 256 : Nat) : Int) := by
  rw [Nat.shiftLeft_eq]; simp
theorem shr_u8 (c : UInt8) (k : Nat) : ((c.toNat : Int) / 2 ^ k) = ((c.toNat >>> k : Nat) : Int) := by
  rw [Nat.shiftRight_eq_div_pow]; simp
theorem shr_lt (c : UInt8) (k : Nat) : c.toNat >>> k < 256 := by
  have := c.toNat_lt
  rw [Nat.shiftRight_eq_div_pow]
  exact Nat.lt_of_le_of_lt (Nat.div_le_self _ _) this
set_option maxRecDepth 100000 in
set_option maxHeartbeats 4000000 in
theorem eight_any (y : ByteArray) (i C : Nat) (w : World) (hC : w.heap[C]? = some (.cells #[.string y] 9 (0, 0))) (hi : i / 8 < y.size) (hy : y.size ≤ 1152921504606846976) : Calls Tryz.prog 129 #[.int .i64 i, .pointer (some ⟨C, 0, none⟩)] w fun e w' => e = .returned (.int .u8 (eightN y i)) ∧ w = w' := by
  have hc : w.cell? ⟨C, 0, none⟩ = some (.string y) := by rw [cell_of_row _ _ _ _ _ _ hC]; rfl
  have hm : ((i : Int)).tmod 8 = ((i % 8 : Nat) : Int) := by rw [Int.tmod_eq_emod_of_nonneg (by omega)]; omega
  have hd : ((i : Int)).tdiv 8 = ((i / 8 : Nat) : Int) := by rw [Int.tdiv_eq_ediv_of_nonneg (by omega)]; omega
  have HX := Lib.hid (byteAt_in hi)
  have HN := Lib.hid (fun h => byteAt_in (y := y) (k := i / 8 + 1) h)
  have HO := Lib.hid (fun h => byteAt_out (y := y) (k := i / 8 + 1) h)
  clear hC
  go_enter Tryz.func129, Tryz.ntmps129
  go_wp2_with fail
  · go_ret
    have h1 : (i : Int) / 8 + 1 < (y.size : Int) := by assumption
    refine ⟨ret1 ?_, rfl⟩
    unfold eightN
    rw [HX.out, HN.out (by omega), shl_u8, shr_u8, or_u8 _ _ (Nat.mod_lt _ (by decide)) (shr_lt _ _)]
  · go_ret
    have h1 : (y.size : Int) ≤ (i : Int) / 8 + 1 := by assumption
    refine ⟨ret1 ?_, rfl⟩
    unfold eightN
    rw [HX.out, HO.out (by omega), shl_u8]
    simp
  · go_ret
    have h1 : (i : Int) % 8 ≤ 0 := by assumption
    refine ⟨ret1 ?_, rfl⟩
    have e : (byteAt y (i / 8 + 1)).toNat >>> (8 - i % 8) = 0 := by
      rw [show 8 - i % 8 = 8 by omega, Nat.shiftRight_eq_div_pow]
      have := (byteAt y (i / 8 + 1)).toNat_lt
      omega
    unfold eightN
    rw [HX.out, e, shl_u8]
    simp
end Go.Proofs.YthmpobimmbmddaaGreatDoor
