/-
  The plain mathematics of layer 1 (64-bit integers with an error number): no program in sight. Nothing is assumed but what each theorem says.
-/
import Derived.IntWalk
import Derived.Below
import Derived.Laws.Wrap64
import Derived.WalkKit
namespace Go.Proofs.YthmpobimmbmddaaGreatDoor
open Go.RowKit

/-- z is a 64-bit integer. -/
def I64 (z : Int) : Prop := -9223372036854775808 ≤ z ∧ z ≤ 9223372036854775807
instance (z : Int) : Decidable (I64 z) := by unfold I64; infer_instance
/-- The value where z fits, else 0; and the error number (ErrRange is 7). -/
def okv (z : Int) : Int := if I64 z then z else 0
def oke (z : Int) : Int := if I64 z then 0 else 7
theorem okv_fit {z : Int} (h : I64 z) : okv z = z := by unfold okv; rw [if_pos h]
theorem oke_fit {z : Int} (h : I64 z) : oke z = 0 := by unfold oke; rw [if_pos h]
theorem okv_not {z : Int} (h : ¬ I64 z) : okv z = 0 := by unfold okv; rw [if_neg h]
theorem oke_not {z : Int} (h : ¬ I64 z) : oke z = 7 := by unfold oke; rw [if_neg h]
theorem okv_i64 (z : Int) : I64 (okv z) := by unfold okv; split <;> simp_all [I64]
theorem ret2 {k j : IntKind} {a b c d : Int} (h : a = c) (h' : b = d) : Ending.returned (.tuple #[.int k a, .int j b]) = .returned (.tuple #[.int k c, .int j d]) := by rw [h, h']
theorem retb {a b : Bool} (h : a = b) : Ending.returned (.bool a) = .returned (.bool b) := by rw [h]
theorem ret1 {k : IntKind} {a b : Int} (h : a = b) : Ending.returned (.int k a) = .returned (.int k b) := by rw [h]

theorem wrap_fit {z : Int} (h : I64 z) : wrap64 z = z := IntWalk.wrap64_in z h
/-- The three ways through Add: the signs differ; they agree and the sum's sign is theirs, or not. -/
theorem add_diff {a b : Int} (ha : I64 a) (hb : I64 b) (h : ¬(a < 0 ↔ b < 0)) : I64 (a + b) := by
  unfold I64 at *; by_cases q1 : a < 0 <;> by_cases q2 : b < 0 <;> simp [q1, q2] at h <;> omega
theorem add_over {a b : Int} (h : a < 0 ↔ b < 0) (h2 : (!decide (wrap64 (a + b) < 0) == decide (b < 0)) = true) : ¬ I64 (a + b) := by
  intro hf; rw [wrap_fit hf] at h2; by_cases q1 : a < 0 <;> by_cases q2 : b < 0 <;> simp [q1, q2] at h h2 <;> omega
theorem add_fits {a b : Int} (ha : I64 a) (hb : I64 b) (h : a < 0 ↔ b < 0) (h2 : (!decide (wrap64 (a + b) < 0) == decide (b < 0)) = false) : I64 (a + b) := by
  unfold I64 wrap64 at *; by_cases q1 : a < 0 <;> by_cases q2 : b < 0 <;> simp [q1, q2] at h h2 <;> omega
theorem sub_same {a b : Int} (ha : I64 a) (hb : I64 b) (h : a < 0 ↔ b < 0) : I64 (a - b) := by
  unfold I64 at *; by_cases q1 : a < 0 <;> by_cases q2 : b < 0 <;> simp [q1, q2] at h <;> omega
theorem sub_over {a b : Int} (h : ¬(a < 0 ↔ b < 0)) (h2 : (!decide (a < 0) == decide (b < 0)) = true ∧ (!decide (wrap64 (a - b) < 0) == decide (a < 0)) = true) : ¬ I64 (a - b) := by
  intro hf; rw [wrap_fit hf] at h2; by_cases q1 : a < 0 <;> by_cases q2 : b < 0 <;> simp [q1, q2] at h h2 <;> omega
theorem sub_fits {a b : Int} (ha : I64 a) (hb : I64 b) (h : ¬(a < 0 ↔ b < 0)) (h2 : (!decide (a < 0) == decide (b < 0)) = false ∨ (!decide (wrap64 (a - b) < 0) == decide (a < 0)) = false) : I64 (a - b) := by
  unfold I64 wrap64 at *; by_cases q1 : a < 0 <;> by_cases q2 : b < 0 <;> simp [q1, q2] at h h2 <;> omega
theorem to_ok {k : IntKind} {z : Int} (h : I64 z) : Ending.returned (.tuple #[.int k (wrap64 z), .int k 0]) = .returned (.tuple #[.int k (okv z), .int k (oke z)]) := by rw [wrap_fit h, okv_fit h, oke_fit h]
theorem to_err {k : IntKind} {z : Int} (h : ¬ I64 z) : Ending.returned (.tuple #[.int k 0, .int k 7]) = .returned (.tuple #[.int k (okv z), .int k (oke z)]) := by rw [okv_not h, oke_not h]

/-- Div and Rem, truncated toward zero; ErrArg is 2. -/
def divv (a b : Int) : Int := if b = 0 then 0 else okv (a.tdiv b)
def dive (a b : Int) : Int := if b = 0 then 2 else oke (a.tdiv b)
def remv (a b : Int) : Int := if b = 0 then 0 else a.tmod b
def reme (b : Int) : Int := if b = 0 then 2 else 0

theorem div_fits {a b : Int} (ha : I64 a) (hb : ¬ b = 0) (h : ¬ (a = -9223372036854775808 ∧ b = -1)) : I64 (a.tdiv b) := by
  have h2 : (a.tdiv b).natAbs = a.natAbs / b.natAbs := Int.natAbs_tdiv a b
  unfold I64 at *
  by_cases hb1 : b.natAbs = 1
  · rw [hb1, Nat.div_one] at h2
    rcases Int.natAbs_eq b with e | e
    · have hb' : b = 1 := by omega
      subst hb'; rw [Int.tdiv_one]; exact ha
    · have hb' : b = -1 := by omega
      subst hb'; omega
  · have h3 : a.natAbs / b.natAbs ≤ a.natAbs / 2 := Nat.div_le_div_left (by omega) (by omega)
    omega
theorem rem_fits {a b : Int} (ha : I64 a) : I64 (a.tmod b) := by
  have h2 : (a.tmod b).natAbs = a.natAbs % b.natAbs := Int.natAbs_tmod a b
  have h3 : a.natAbs % b.natAbs ≤ a.natAbs := Nat.mod_le _ _
  unfold I64 at *
  by_cases h : 0 ≤ a
  · have := Int.tmod_nonneg b h
    omega
  · have := Int.tmod_nonneg b (a := -a) (by omega)
    rw [Int.neg_tmod] at this
    omega
theorem two64 : (2 : Int) ^ 64 = 18446744073709551616 := by decide
theorem two_pos (k : Nat) : (0 : Int) < 2 ^ k := Int.pow_pos (by omega)
theorem up_over {a : Int} {k : Nat} (ha : I64 a) (h0 : ¬ a = 0) (h : 63 < (k : Int) ∨ ¬ wrap64 (a * 2 ^ k) / 2 ^ k = a) : ¬ I64 (a * 2 ^ k) := by
  intro hf
  rcases h with h | h
  · unfold I64 at *
    have hk : (2 : Int) ^ 64 ≤ 2 ^ k := by
      have : (2 : Nat) ^ 64 ≤ 2 ^ k := Nat.pow_le_pow_right (by omega) (by omega)
      exact_mod_cast this
    rw [two64] at hk
    generalize (2 : Int) ^ k = p at *
    by_cases hp : 0 < a
    · have := Int.mul_le_mul_of_nonneg_right (show (1 : Int) ≤ a by omega) (show (0 : Int) ≤ p by omega)
      omega
    · have := Int.mul_le_mul_of_nonneg_right (show a ≤ (-1 : Int) by omega) (show (0 : Int) ≤ p by omega)
      omega
  · rw [wrap_fit hf] at h
    exact h (Int.mul_ediv_cancel _ (Int.ne_of_gt (two_pos k)))
theorem wrap_is (z : Int) : ∃ m : Int, wrap64 z = z + 18446744073709551616 * m := ⟨-((z + 9223372036854775808) / 18446744073709551616), by unfold wrap64; omega⟩
theorem wrap_i64 (z : Int) : I64 (wrap64 z) := by unfold I64 wrap64; omega
theorem up_fits {a : Int} {k : Nat} (hk : k ≤ 64) (h : wrap64 (a * 2 ^ k) / 2 ^ k = a) : I64 (a * 2 ^ k) := by
  have hp := two_pos k
  obtain ⟨m, hm⟩ := wrap_is (a * 2 ^ k)
  have e : (18446744073709551616 : Int) = 2 ^ k * 2 ^ (64 - k) := by rw [← Int.pow_add, ← two64]; congr 1; omega
  have e2 : wrap64 (a * 2 ^ k) = 2 ^ k * (a + 2 ^ (64 - k) * m) := by rw [hm, e, Int.mul_add, Int.mul_comm a, Int.mul_assoc]
  rw [e2, Int.mul_ediv_cancel_left _ (Int.ne_of_gt hp)] at h
  have e3 : (2 : Int) ^ (64 - k) * m = 0 := by omega
  have e4 : wrap64 (a * 2 ^ k) = a * 2 ^ k := by rw [e2, h, Int.mul_comm]
  rw [← e4]; exact wrap_i64 _

/-- a shifted to the left by n places (to the right by -n, rounded down). -/
def shv (a n : Int) : Int := if n < 0 then a / 2 ^ (-n).toNat else okv (a * 2 ^ n.toNat)
def she (a n : Int) : Int := if n < 0 then 0 else oke (a * 2 ^ n.toNat)

theorem shr_min {a : Int} (ha : I64 a) (k : Nat) : a / 2 ^ min k 64 = a / 2 ^ k := by
  by_cases hk : k ≤ 64
  · rw [Nat.min_eq_left hk]
  · rw [Nat.min_eq_right (by omega), two64]
    have h64 : (2 : Int) ^ 64 ≤ 2 ^ k := by
      have : (2 : Nat) ^ 64 ≤ 2 ^ k := Nat.pow_le_pow_right (by omega) (by omega)
      exact_mod_cast this
    rw [two64] at h64
    unfold I64 at ha
    generalize (2 : Int) ^ k = p at *
    by_cases h0 : 0 ≤ a
    · rw [Int.ediv_eq_zero_of_lt h0 (by omega), Int.ediv_eq_zero_of_lt h0 (by omega)]
    · have e1 : a / 18446744073709551616 = -1 := by omega
      have e2 : a / p = -1 := by
        have h1 := Int.mul_ediv_self_le (x := a) (k := p) (by omega)
        have h2 := Int.lt_mul_ediv_self_add (x := a) (k := p) (by omega)
        by_cases c : a / p ≤ -2
        · have := Int.mul_le_mul_of_nonneg_left c (show (0 : Int) ≤ p by omega)
          omega
        · by_cases d : 0 ≤ a / p
          · have := Int.mul_nonneg (show (0 : Int) ≤ p by omega) d
            omega
          · omega
      rw [e1, e2]
theorem mul_diff {a b : Int} (h : (!decide (a < 0) == decide (b < 0)) = true) : a * b = -((a.natAbs : Int) * (b.natAbs : Int)) := by
  by_cases q1 : a < 0 <;> by_cases q2 : b < 0 <;> simp [q1, q2] at h
  · rw [show (a.natAbs : Int) = -a by omega, show (b.natAbs : Int) = b by omega, Int.neg_mul, Int.neg_neg]
  · rw [show (a.natAbs : Int) = a by omega, show (b.natAbs : Int) = -b by omega, Int.mul_neg, Int.neg_neg]
theorem mul_same {a b : Int} (h : (!decide (a < 0) == decide (b < 0)) = false) : a * b = (a.natAbs : Int) * (b.natAbs : Int) := by
  by_cases q1 : a < 0 <;> by_cases q2 : b < 0 <;> simp [q1, q2] at h
  · rw [show (a.natAbs : Int) = -a by omega, show (b.natAbs : Int) = -b by omega, Int.neg_mul_neg]
  · rw [show (a.natAbs : Int) = a by omega, show (b.natAbs : Int) = b by omega]
theorem mul_pos (a b : Int) : 0 ≤ (a.natAbs : Int) * (b.natAbs : Int) := Int.mul_nonneg (by omega) (by omega)
theorem mul_neg_val {P : Int} (h0 : 0 ≤ P) (h : P / 18446744073709551616 ≤ 0) (h1 : P % 18446744073709551616 ≤ 9223372036854775808) : wrap64 (IntKind.u64.wrap (-(P % 18446744073709551616))) = -P := by
  rw [IntKind.wrap_u64]; unfold wrap64; omega
theorem mul_pos_val {P : Int} (h0 : 0 ≤ P) (h : P / 18446744073709551616 ≤ 0) : P % 18446744073709551616 = P := by omega
/-- Bit k of -y. -/
def bitv (y : Int) (k : Nat) : Bool := decide (-y / 2 ^ k % 2 = 1)
theorem bit_val {y : Int} (h1 : -9223372036854775808 ≤ y) (h0 : y ≤ 0) (k : Nat) : ((IntKind.u64.wrap (wrap64 (-y)) / 2 ^ k).tmod 2 == 1) = bitv y k := by
  have e : IntKind.u64.wrap (wrap64 (-y)) = -y := by rw [IntKind.wrap_u64]; unfold wrap64; omega
  rw [e, Int.tmod_eq_emod_of_nonneg (Int.ediv_nonneg (by omega) (Int.le_of_lt (Int.pow_pos (by omega))))]
  rfl
/-! Doubling and halving, one place at a time. -/
theorem pow_succ2 (a : Int) (k : Nat) : a * 2 ^ (k + 1) = a * 2 ^ k * 2 := by rw [Int.pow_succ, Int.mul_assoc]
theorem pow_over {a : Int} {k n : Nat} (hk : k < n) (h : a * 2 ^ k < -4611686018427387904 ∨ 4611686018427387903 < a * 2 ^ k) : ¬ I64 (a * 2 ^ n) := by
  have e : a * 2 ^ n = a * 2 ^ k * 2 ^ (n - k) := by rw [Int.mul_assoc, ← Int.pow_add]; congr 2; omega
  have hp : (2 : Int) ≤ 2 ^ (n - k) := by
    have : (2 : Nat) ^ 1 ≤ 2 ^ (n - k) := Nat.pow_le_pow_right (by omega) (by omega)
    exact_mod_cast this
  rw [e]
  generalize a * 2 ^ k = c at *
  generalize (2 : Int) ^ (n - k) = p at *
  unfold I64
  rcases h with h | h
  · have := Int.mul_le_mul_of_nonneg_left hp (show 0 ≤ -c by omega)
    rw [Int.neg_mul, Int.neg_mul] at this
    omega
  · have := Int.mul_le_mul_of_nonneg_left hp (show 0 ≤ c by omega)
    omega
theorem pow_zero_end {a : Int} {k n : Nat} (h : a * 2 ^ k = 0) : a * 2 ^ n = 0 := by
  rcases Int.mul_eq_zero.1 h with h | h
  · rw [h, Int.zero_mul]
  · have := two_pos k; omega
theorem half_succ (a : Int) (k : Nat) : a / 2 ^ (k + 1) = a / 2 ^ k / 2 := by rw [Int.pow_succ, Int.ediv_ediv_of_nonneg (Int.le_of_lt (two_pos k))]
theorem half_end {a : Int} {k n : Nat} (hk : k ≤ n) (h : a / 2 ^ k = 0 ∨ a / 2 ^ k = -1) : a / 2 ^ n = a / 2 ^ k := by
  obtain ⟨m, rfl⟩ : ∃ m, n = k + m := ⟨n - k, by omega⟩
  rw [Int.pow_add, ← Int.ediv_ediv_of_nonneg (Int.le_of_lt (two_pos k))]
  have := two_pos m
  rcases h with h | h <;> rw [h]
  · exact Int.zero_ediv _
  · generalize (2 : Int) ^ m = p at *
    have h1 := Int.mul_ediv_self_le (x := -1) (k := p) (by omega)
    have h2 := Int.lt_mul_ediv_self_add (x := -1) (k := p) (by omega)
    by_cases c : -1 / p ≤ -2
    · have := Int.mul_le_mul_of_nonneg_left c (show (0 : Int) ≤ p by omega)
      omega
    · by_cases d : 0 ≤ -1 / p
      · have := Int.mul_nonneg (show (0 : Int) ≤ p by omega) d
        omega
      · omega
/-- A truncated half, made the half rounded down. -/
theorem half_pos {a : Int} (h : 0 ≤ a) : a.tdiv 2 = a / 2 := Int.tdiv_eq_ediv_of_nonneg h
theorem half_neg_even {a : Int} (h : a.tmod 2 = 0) : a.tdiv 2 = a / 2 := by
  have h1 := Int.mul_tdiv_add_tmod a 2
  omega
theorem half_neg_odd {a : Int} (h0 : a < 0) (h : ¬ a.tmod 2 = 0) : a.tdiv 2 - 1 = a / 2 := by
  have h1 := Int.mul_tdiv_add_tmod a 2
  have h2 : (-a).tmod 2 = (-a) % 2 := Int.tmod_eq_emod_of_nonneg (by omega)
  rw [Int.neg_tmod] at h2
  omega
theorem shv_big {a n : Int} (ha : I64 a) (h : 63 < n) : shv a n = 0 ∧ she a n = if a = 0 then 0 else 7 := by
  unfold shv she
  rw [if_neg (by omega), if_neg (by omega)]
  by_cases z : a = 0
  · subst z; rw [Int.zero_mul]; exact ⟨rfl, rfl⟩
  · have := up_over (k := n.toNat) ha z (Or.inl (by omega))
    rw [if_neg z]; exact ⟨okv_not this, oke_not this⟩
theorem shv_same {a n m : Int} (ha : I64 a) (h : 63 < n) (h' : 63 < m) : shv a n = shv a m ∧ she a n = she a m := by
  rw [(shv_big ha h).1, (shv_big ha h).2, (shv_big ha h').1, (shv_big ha h').2]; exact ⟨rfl, rfl⟩
theorem shv_up {a n : Int} (h : 0 ≤ n) : shv a n = okv (a * 2 ^ n.toNat) ∧ she a n = oke (a * 2 ^ n.toNat) := by
  unfold shv she; rw [if_neg (by omega), if_neg (by omega)]; exact ⟨rfl, rfl⟩
/-! Multiplication by doubling: x = -|a|, Y = |b|; after the bits from k on, out = x * (Y / 2^k). -/
/-- Y's bits from k on. -/
def hi (y : Int) (k : Nat) : Int := -y / 2 ^ k
theorem hi_top {y : Int} (h : I64 y) (h0 : y ≤ 0) : hi y 64 = 0 := by
  unfold hi; rw [two64]; unfold I64 at h; omega
theorem hi_zero (y : Int) : hi y 0 = -y := by simp [hi]
theorem hi_step (y : Int) (k : Nat) : hi y k = hi y (k + 1) * 2 + if bitv y k then 1 else 0 := by
  unfold hi bitv
  rw [half_succ]
  by_cases h : -y / 2 ^ k % 2 = 1
  · rw [if_pos (by simpa using h)]; omega
  · rw [if_neg (by simpa using h)]; omega
theorem hi_nonneg {y : Int} (h0 : y ≤ 0) (k : Nat) : 0 ≤ hi y k := Int.ediv_nonneg (by omega) (Int.le_of_lt (two_pos k))
theorem hi_mono {y : Int} (h0 : y ≤ 0) (k : Nat) : hi y k ≤ -y := Int.ediv_le_self _ (by omega)
theorem hi_bit1 {y : Int} {k : Nat} (h : bitv y k = true) : hi y k = hi y (k + 1) * 2 + 1 := by rw [hi_step, if_pos h]
theorem hi_bit0 {y : Int} {k : Nat} (h : bitv y k = false) : hi y k = hi y (k + 1) * 2 := by rw [hi_step, if_neg (by simp [h])]; omega
/-- If a partial product is too great, so is the product. -/
theorem mul_great {x y q : Int} (hx : x ≤ 0) (hq : q ≤ -y) (h : x * q < -9223372036854775808) : ¬ I64 (x * y) ∧ ¬ I64 (-(x * y)) := by
  have h1 := Int.mul_le_mul_of_nonneg_left hq (show 0 ≤ -x by omega)
  rw [Int.neg_mul, Int.neg_mul, Int.mul_neg] at h1
  unfold I64
  omega

end Go.Proofs.YthmpobimmbmddaaGreatDoor
