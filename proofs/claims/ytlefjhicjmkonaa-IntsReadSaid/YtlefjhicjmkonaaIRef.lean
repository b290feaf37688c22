/-
  stagehandref01: what the reference's functions compute. The arguments are 64-bit integers.
-/
import Derived.Test.YtlefjhicjmkonaaProg
import Derived.Test.YtlefjhicjmkonaaIPlain
import Derived.WalkKit
import Derived.WalkSpells
import Derived.WalkLawsBesides
import Derived.Handy
namespace Go.Proofs.Ytlefjhicjmkonaa
open Go.RowKit

set_option maxHeartbeats 400000 in
theorem radd_any (a b : Int) (w : World) (ha : I64 a) (hb : I64 b) :
    Calls Try.prog 29 #[.int .i64 a, .int .i64 b] w fun e w' => e = .returned (.tuple #[.int .i64 (okv (a + b)), .int .i64 (oke (a + b))]) ∧ w = w' := by
  obtain ⟨a1, a2⟩ := ha; obtain ⟨b1, b2⟩ := hb
  by_cases p : 0 < b
  · by_cases q : 9223372036854775807 - b < a
    · have hn : ¬ I64 (a + b) := by unfold I64; omega
      go_enter Try.func29, Try.ntmps29
      go_wp2
      go_ret2
      exact ⟨to_err hn, rfl⟩
    · have hf : I64 (a + b) := by unfold I64; omega
      go_enter Try.func29, Try.ntmps29
      go_wp2
      go_ret2
      exact ⟨ret2 (okv_fit hf).symm (oke_fit hf).symm, rfl⟩
  by_cases p2 : b < 0
  · by_cases q : a < -9223372036854775808 - b
    · have hn : ¬ I64 (a + b) := by unfold I64; omega
      go_enter Try.func29, Try.ntmps29
      go_wp2
      go_ret2
      exact ⟨to_err hn, rfl⟩
    · have hf : I64 (a + b) := by unfold I64; omega
      go_enter Try.func29, Try.ntmps29
      go_wp2
      go_ret2
      exact ⟨ret2 (okv_fit hf).symm (oke_fit hf).symm, rfl⟩
  · have hf : I64 (a + b) := by unfold I64; omega
    go_enter Try.func29, Try.ntmps29
    go_wp2
    go_ret2
    exact ⟨ret2 (okv_fit hf).symm (oke_fit hf).symm, rfl⟩

set_option maxHeartbeats 400000 in
theorem rsub_any (a b : Int) (w : World) (ha : I64 a) (hb : I64 b) :
    Calls Try.prog 30 #[.int .i64 a, .int .i64 b] w fun e w' => e = .returned (.tuple #[.int .i64 (okv (a - b)), .int .i64 (oke (a - b))]) ∧ w = w' := by
  obtain ⟨a1, a2⟩ := ha; obtain ⟨b1, b2⟩ := hb
  by_cases p : b < 0
  · by_cases q : 9223372036854775807 + b < a
    · have hn : ¬ I64 (a - b) := by unfold I64; omega
      go_enter Try.func30, Try.ntmps30
      go_wp2
      go_ret2
      exact ⟨to_err hn, rfl⟩
    · have hf : I64 (a - b) := by unfold I64; omega
      go_enter Try.func30, Try.ntmps30
      go_wp2
      go_ret2
      exact ⟨ret2 (okv_fit hf).symm (oke_fit hf).symm, rfl⟩
  by_cases p2 : 0 < b
  · by_cases q : a < -9223372036854775808 + b
    · have hn : ¬ I64 (a - b) := by unfold I64; omega
      go_enter Try.func30, Try.ntmps30
      go_wp2
      go_ret2
      exact ⟨to_err hn, rfl⟩
    · have hf : I64 (a - b) := by unfold I64; omega
      go_enter Try.func30, Try.ntmps30
      go_wp2
      go_ret2
      exact ⟨ret2 (okv_fit hf).symm (oke_fit hf).symm, rfl⟩
  · have hf : I64 (a - b) := by unfold I64; omega
    go_enter Try.func30, Try.ntmps30
    go_wp2
    go_ret2
    exact ⟨ret2 (okv_fit hf).symm (oke_fit hf).symm, rfl⟩

theorem rneg_any (a : Int) (w : World) (ha : I64 a) :
    Calls Try.prog 26 #[.int .i64 a] w fun e w' => e = .returned (.tuple #[.int .i64 (okv (-a)), .int .i64 (oke (-a))]) ∧ w = w' := by
  go_enter Try.func26, Try.ntmps26
  go_wp2_with (go_at_call 30; refine (rsub_any _ _ _ (by decide) ha).mono ?_; rintro e w1 ⟨rfl, rfl⟩)
  go_ret2
  exact ⟨rfl, rfl⟩

set_option maxHeartbeats 400000 in
theorem rabs_any (a : Int) (w : World) (ha : I64 a) :
    Calls Try.prog 28 #[.int .i64 a] w fun e w' => e = .returned (.tuple #[.int .i64 (okv a.natAbs), .int .i64 (oke a.natAbs)]) ∧ w = w' := by
  by_cases h : a < 0
  · go_enter Try.func28, Try.ntmps28
    go_wp2_with (go_at_call 26; refine (rneg_any _ _ ha).mono ?_; rintro e w1 ⟨rfl, rfl⟩)
    go_ret2
    have e : -a = ((a.natAbs : Nat) : Int) := by omega
    exact ⟨ret2 (congrArg okv e) (congrArg oke e), rfl⟩
  · go_enter Try.func28, Try.ntmps28
    go_wp2
    go_ret2
    have e : ((a.natAbs : Nat) : Int) = a := by omega
    exact ⟨ret2 (by rw [e, okv_fit ha]) (by rw [e, oke_fit ha]), rfl⟩

set_option maxHeartbeats 400000 in
theorem rdiv_any (a b : Int) (w : World) (ha : I64 a) (_hb : I64 b) :
    Calls Try.prog 23 #[.int .i64 a, .int .i64 b] w fun e w' => e = .returned (.tuple #[.int .i64 (divv a b), .int .i64 (dive a b)]) ∧ w = w' := by
  by_cases h0 : b = 0
  · subst h0
    go_enter Try.func23, Try.ntmps23
    go_wp2
    go_ret2
    exact ⟨rfl, rfl⟩
  by_cases h1 : a = -9223372036854775808 ∧ b = -1
  · obtain ⟨rfl, rfl⟩ := h1
    go_enter Try.func23, Try.ntmps23
    go_wp2
    go_ret2
    exact ⟨rfl, rfl⟩
  have hf := div_fits ha h0 h1
  by_cases h2 : a = -9223372036854775808
  · subst h2
    have h3 : ¬ b = -1 := fun e => h1 ⟨rfl, e⟩
    clear h1
    go_enter Try.func23, Try.ntmps23
    go_wp2
    go_ret2
    have v : wrap64 (-(9223372036854775808 : Int).tdiv b) = divv (-9223372036854775808) b := by
      rw [Int.neg_tdiv] at hf; rw [divv, if_neg h0, Int.neg_tdiv, okv_fit hf, wrap_fit hf]
    have k : (0 : Int) = dive (-9223372036854775808) b := by rw [dive, if_neg h0, oke_fit hf]
    exact ⟨ret2 v k, rfl⟩
  · clear h1
    go_enter Try.func23, Try.ntmps23
    go_wp2
    go_ret2
    have v : wrap64 (a.tdiv b) = divv a b := by rw [divv, if_neg h0, okv_fit hf, wrap_fit hf]
    have k : (0 : Int) = dive a b := by rw [dive, if_neg h0, oke_fit hf]
    exact ⟨ret2 v k, rfl⟩

set_option maxHeartbeats 400000 in
theorem rrem_any (a b : Int) (w : World) (_ha : I64 a) (_hb : I64 b) :
    Calls Try.prog 25 #[.int .i64 a, .int .i64 b] w fun e w' => e = .returned (.tuple #[.int .i64 (remv a b), .int .i64 (reme b)]) ∧ w = w' := by
  by_cases h0 : b = 0
  · subst h0
    go_enter Try.func25, Try.ntmps25
    go_wp2
    go_ret2
    exact ⟨rfl, rfl⟩
  by_cases h1 : b = -1
  · subst h1
    go_enter Try.func25, Try.ntmps25
    go_wp2
    go_ret2
    exact ⟨ret2 (by rw [remv, if_neg h0, Int.tmod_neg, Int.tmod_one]) (by rw [reme, if_neg h0]), rfl⟩
  · go_enter Try.func25, Try.ntmps25
    go_wp2
    go_ret2
    exact ⟨ret2 (by rw [remv, if_neg h0]) (by rw [reme, if_neg h0]), rfl⟩

end Go.Proofs.Ytlefjhicjmkonaa
