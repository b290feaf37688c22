/-
  ints.Add, Sub: what they compute. The arguments are 64-bit integers.
-/
import Derived.Test.YtlefjhicjmkonaaProg
import Derived.Test.YtlefjhicjmkonaaShelf
import Derived.Test.YtlefjhicjmkonaaIPlain
import Derived.WalkKit
import Derived.WalkSpells
import Derived.WalkLawsBesides
import Derived.Handy
namespace Go.Proofs.Ytlefjhicjmkonaa
open Go.RowKit

set_option maxHeartbeats 400000 in
theorem add_any (a b : Int) (w : World) (ha : I64 a) (hb : I64 b) :
    Calls Try.prog 19 #[.int .i64 a, .int .i64 b] w fun e w' => e = .returned (.tuple #[.int .i64 (okv (a + b)), .int .i64 (oke (a + b))]) ∧ Below w.heap.size w w' := by
  go_enter Try.func19, Try.ntmps19
  go_wp2
  · go_ret2; exact ⟨to_err (add_over ‹_› ‹_›), by go_grown⟩
  · go_ret2; exact ⟨to_ok (add_fits ha hb ‹_› ‹_›), by go_grown⟩
  · go_ret2; exact ⟨to_ok (add_diff ha hb ‹_›), by go_grown⟩

set_option maxHeartbeats 400000 in
theorem sub_any (a b : Int) (w : World) (ha : I64 a) (hb : I64 b) :
    Calls Try.prog 20 #[.int .i64 a, .int .i64 b] w fun e w' => e = .returned (.tuple #[.int .i64 (okv (a - b)), .int .i64 (oke (a - b))]) ∧ Below w.heap.size w w' := by
  go_enter Try.func20, Try.ntmps20
  go_wp2
  · go_ret2; exact ⟨to_ok (sub_same ha hb ‹_›), by go_grown⟩
  · go_ret2; exact ⟨to_err (sub_over ‹_› ‹_›), by go_grown⟩
  · go_ret2; exact ⟨to_ok (sub_fits ha hb ‹_› ‹_›), by go_grown⟩

theorem neg_any (a : Int) (w : World) (ha : I64 a) :
    Calls Try.prog 21 #[.int .i64 a] w fun e w' => e = .returned (.tuple #[.int .i64 (okv (-a)), .int .i64 (oke (-a))]) ∧ Below w.heap.size w w' := by
  go_enter Try.func21, Try.ntmps21
  go_wp2_with (go_at_call 20; refine (sub_any _ _ _ (by decide) ha).mono ?_; rintro e w1 ⟨rfl, hb⟩)
  go_ret2
  exact ⟨rfl, hb⟩

set_option maxHeartbeats 400000 in
theorem abs_any (a : Int) (w : World) (ha : I64 a) :
    Calls Try.prog 27 #[.int .i64 a] w fun e w' => e = .returned (.tuple #[.int .i64 (okv a.natAbs), .int .i64 (oke a.natAbs)]) ∧ Below w.heap.size w w' := by
  by_cases h : a < 0
  · go_enter Try.func27, Try.ntmps27
    go_wp2_with (go_at_call 21; refine (neg_any _ _ ha).mono ?_; rintro e w1 ⟨rfl, hb⟩)
    go_ret2
    have e : -a = ((a.natAbs : Nat) : Int) := by omega
    exact ⟨ret2 (congrArg okv e) (congrArg oke e), hb⟩
  · go_enter Try.func27, Try.ntmps27
    go_wp2
    go_ret2
    have e : ((a.natAbs : Nat) : Int) = a := by omega
    exact ⟨ret2 (by rw [e, okv_fit ha]) (by rw [e, oke_fit ha]), Below.refl _ _⟩

set_option maxHeartbeats 400000 in
theorem div_any (a b : Int) (w : World) (ha : I64 a) (_hb : I64 b) :
    Calls Try.prog 22 #[.int .i64 a, .int .i64 b] w fun e w' => e = .returned (.tuple #[.int .i64 (divv a b), .int .i64 (dive a b)]) ∧ w = w' := by
  by_cases h0 : b = 0
  · subst h0
    go_enter Try.func22, Try.ntmps22
    go_wp2
    go_ret2
    exact ⟨rfl, rfl⟩
  by_cases h1 : a = -9223372036854775808 ∧ b = -1
  · obtain ⟨rfl, rfl⟩ := h1
    go_enter Try.func22, Try.ntmps22
    go_wp2
    go_ret2
    exact ⟨rfl, rfl⟩
  have hf := div_fits ha h0 h1
  by_cases h2 : a = -9223372036854775808
  · subst h2
    have h3 : ¬ b = -1 := fun e => h1 ⟨rfl, e⟩
    clear h1
    go_enter Try.func22, Try.ntmps22
    go_wp2
    go_ret2
    have v : wrap64 (-(9223372036854775808 : Int).tdiv b) = divv (-9223372036854775808) b := by
      rw [Int.neg_tdiv] at hf; rw [divv, if_neg h0, Int.neg_tdiv, okv_fit hf, wrap_fit hf]
    have k : (0 : Int) = dive (-9223372036854775808) b := by rw [dive, if_neg h0, oke_fit hf]
    exact ⟨ret2 v k, rfl⟩
  · clear h1
    go_enter Try.func22, Try.ntmps22
    go_wp2
    go_ret2
    have v : wrap64 (a.tdiv b) = divv a b := by rw [divv, if_neg h0, okv_fit hf, wrap_fit hf]
    have k : (0 : Int) = dive a b := by rw [dive, if_neg h0, oke_fit hf]
    exact ⟨ret2 v k, rfl⟩

set_option maxHeartbeats 400000 in
theorem rem_any (a b : Int) (w : World) (_ha : I64 a) (_hb : I64 b) :
    Calls Try.prog 24 #[.int .i64 a, .int .i64 b] w fun e w' => e = .returned (.tuple #[.int .i64 (remv a b), .int .i64 (reme b)]) ∧ w = w' := by
  by_cases h0 : b = 0
  · subst h0
    go_enter Try.func24, Try.ntmps24
    go_wp2
    go_ret2
    exact ⟨rfl, rfl⟩
  by_cases h1 : b = -1
  · subst h1
    go_enter Try.func24, Try.ntmps24
    go_wp2
    go_ret2
    exact ⟨ret2 (by rw [remv, if_neg h0, Int.tmod_neg, Int.tmod_one]) (by rw [reme, if_neg h0]), rfl⟩
  · go_enter Try.func24, Try.ntmps24
    go_wp2
    go_ret2
    exact ⟨ret2 (by rw [remv, if_neg h0]) (by rw [reme, if_neg h0]), rfl⟩

set_option maxHeartbeats 400000 in
theorem size_any (a : Int) (w : World) (ha : I64 a) :
    Calls Try.prog 34 #[.int .i64 a] w fun e w' => e = .returned (.int .u64 a.natAbs) ∧ w = w' := by
  obtain ⟨a1, a2⟩ := ha
  go_enter Try.func34, Try.ntmps34
  go_wp2
  · go_ret
    exact ⟨ret1 (by have : a < 0 := by assumption
                    rw [IntKind.wrap_u64, IntKind.wrap_u64]; omega), rfl⟩
  · go_ret
    exact ⟨ret1 (by have : 0 ≤ a := by assumption
                    omega), rfl⟩

set_option maxHeartbeats 400000 in
theorem up_any (a n : Int) (w : World) (ha : I64 a) (h0 : 0 ≤ n) (h1 : n ≤ 18446744073709551615) :
    Calls Try.prog 35 #[.int .i64 a, .int .u64 n] w fun e w' => e = .returned (.tuple #[.int .i64 (okv (a * 2 ^ n.toNat)), .int .i64 (oke (a * 2 ^ n.toNat))]) ∧ w = w' := by
  by_cases z : a = 0
  · subst z
    go_enter Try.func35, Try.ntmps35
    go_wp2
    go_ret2
    exact ⟨ret2 (by rw [Int.zero_mul]; rfl) (by rw [Int.zero_mul]; rfl), rfl⟩
  by_cases big : 63 < n
  · have hn := up_over (k := n.toNat) ha z (Or.inl (by omega))
    go_enter Try.func35, Try.ntmps35
    go_wp2
    go_ret2
    exact ⟨to_err hn, rfl⟩
  go_enter Try.func35, Try.ntmps35
  go_wp2
  · go_ret2
    exact ⟨to_err (up_over ha z (Or.inr (by simpa using ‹(_ != a) = true›))), rfl⟩
  · go_ret2
    exact ⟨to_ok (up_fits (by omega) (by simpa using ‹(_ != a) = false›)), rfl⟩

set_option maxHeartbeats 400000 in
theorem shl_any (a n : Int) (w : World) (ha : I64 a) (hn : I64 n) :
    Calls Try.prog 15 #[.int .i64 a, .int .i64 n] w fun e w' => e = .returned (.tuple #[.int .i64 (shv a n), .int .i64 (she a n)]) ∧ w = w' := by
  obtain ⟨n1, n2⟩ := hn
  by_cases h : n < 0
  · go_enter Try.func15, Try.ntmps15
    go_wp2_with (go_at_call 34; refine (size_any _ _ ⟨n1, n2⟩).mono ?_; rintro e w1 ⟨rfl, rfl⟩)
    go_ret2
    exact ⟨ret2 (by rw [shv, if_pos h, show (-n).toNat = n.natAbs by omega]; exact shr_min ha _) (by rw [she, if_pos h]), rfl⟩
  · go_enter Try.func15, Try.ntmps15
    go_wp2_with (go_at_call 35; refine (up_any _ _ _ ha (by omega) (by omega)).mono ?_; rintro e w1 ⟨rfl, rfl⟩)
    go_ret2
    exact ⟨ret2 (by rw [shv, if_neg (by omega)]) (by rw [she, if_neg (by omega)]), rfl⟩

set_option maxHeartbeats 400000 in
theorem shr_any (a n : Int) (w : World) (ha : I64 a) (hn : I64 n) :
    Calls Try.prog 17 #[.int .i64 a, .int .i64 n] w fun e w' => e = .returned (.tuple #[.int .i64 (shv a (-n)), .int .i64 (she a (-n))]) ∧ w = w' := by
  obtain ⟨n1, n2⟩ := hn
  by_cases h : n < 0
  · go_enter Try.func17, Try.ntmps17
    go_wp2_with (first | (go_at_call 34; refine (size_any _ _ ⟨n1, n2⟩).mono ?_; rintro e w1 ⟨rfl, rfl⟩) | (go_at_call 35; refine (up_any _ _ _ ha (by omega) (by omega)).mono ?_; rintro e w1 ⟨rfl, rfl⟩))
    go_ret2
    exact ⟨ret2 (by rw [shv, if_neg (by omega), show (-n).toNat = n.natAbs by omega]) (by rw [she, if_neg (by omega), show (-n).toNat = n.natAbs by omega]), rfl⟩
  · go_enter Try.func17, Try.ntmps17
    go_wp2
    go_ret2
    by_cases n0 : n = 0
    · subst n0
      exact ⟨ret2 (by rw [shv]; simp [okv_fit ha]) (by rw [she]; simp [oke_fit ha]), rfl⟩
    · exact ⟨ret2 (by rw [shv, if_pos (by omega), show (- -n).toNat = n.toNat by omega]; exact shr_min ha _) (by rw [she, if_pos (by omega)]), rfl⟩

set_option maxHeartbeats 400000 in
theorem mul_any (a b : Int) (w : World) (ha : I64 a) (hb : I64 b) :
    Calls Try.prog 31 #[.int .i64 a, .int .i64 b] w fun e w' => e = .returned (.tuple #[.int .i64 (okv (a * b)), .int .i64 (oke (a * b))]) ∧ w = w' := by
  go_enter Try.func31, Try.ntmps31
  go_wp2_with fail
  refine (size_any _ _ ha).mono ?_; rintro e w1 ⟨rfl, rfl⟩
  go_wp2_with fail
  refine (size_any _ _ hb).mono ?_; rintro e w1 ⟨rfl, rfl⟩
  go_wp2_with fail
  refine (Try.bits_Mul64 _ _ (by have := ha.1; have := ha.2; omega) (by have := hb.1; have := hb.2; omega) _).mono ?_; rintro e w1 ⟨rfl, rfl⟩
  go_wp2
  · go_ret2
    exact ⟨to_err (by have h := mul_diff (a := a) (b := b) ‹_›; have := mul_pos a b; rw [h]; unfold I64; omega), rfl⟩
  · go_ret2
    have hP := mul_pos a b
    have h := mul_diff (a := a) (b := b) ‹_›
    have hf : I64 (a * b) := by rw [h]; unfold I64; omega
    exact ⟨ret2 (by rw [okv_fit hf, h]; exact mul_neg_val hP ‹_› (And.right ‹_ ∧ _›)) (by rw [oke_fit hf]), rfl⟩
  · go_ret2
    exact ⟨to_err (by have h := mul_diff (a := a) (b := b) ‹_›; have := mul_pos a b; rw [h]; unfold I64; omega), rfl⟩
  · go_ret2
    exact ⟨to_err (by have h := mul_same (a := a) (b := b) ‹_›; have := mul_pos a b; rw [h]; unfold I64; omega), rfl⟩
  · go_ret2
    have hP := mul_pos a b
    have h := mul_same (a := a) (b := b) ‹_›
    have hf : I64 (a * b) := by rw [h]; unfold I64; omega
    exact ⟨ret2 (by rw [okv_fit hf, h]; exact mul_pos_val hP ‹_›) (by rw [oke_fit hf]), rfl⟩
  · go_ret2
    exact ⟨to_err (by have h := mul_same (a := a) (b := b) ‹_›; have := mul_pos a b; rw [h]; unfold I64; omega), rfl⟩

end Go.Proofs.Ytlefjhicjmkonaa
