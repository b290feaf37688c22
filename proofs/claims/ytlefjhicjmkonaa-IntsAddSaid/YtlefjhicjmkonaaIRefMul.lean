/-
  stagehandref01.Mul: multiplication by doubling, what it computes. The arguments are 64-bit integers.
-/
import Derived.Test.YtlefjhicjmkonaaIRefLoops
namespace Go.Proofs.Ytlefjhicjmkonaa
open Go.RowKit

set_option maxHeartbeats 1000000 in
theorem rmul_pp (a b : Int) (w : World) (a1 : -9223372036854775808 ≤ a) (a2 : a ≤ 9223372036854775807) (b1 : -9223372036854775808 ≤ b) (b2 : b ≤ 9223372036854775807) (p : 0 < a) (q : 0 < b) :
    Calls Try.prog 32 #[.int .i64 a, .int .i64 b] w fun e w' => e = .returned (.tuple #[.int .i64 (okv (a * b)), .int .i64 (oke (a * b))]) ∧ w = w' := by
  have za : (a == 0) = false := by rw [beq_eq_false_iff_ne]; omega
  have zb : (b == 0) = false := by rw [beq_eq_false_iff_ne]; omega
  go_enter Try.func32, Try.ntmps32
  go_wp2
  generalize hx : -a = x at *
  generalize hy : -b = y at *
  have x0 : x ≤ 0 := by omega
  have x1 : -9223372036854775808 ≤ x := by omega
  have y0 : y ≤ 0 := by omega
  have y1 : -9223372036854775808 ≤ y := by omega
  have hab : a * b = x * y := by rw [← hx, ← hy, Int.neg_mul_neg]
  have HX := Lib.hid hx; clear hx
  have HY := Lib.hid hy; clear hy
  have HAB := Lib.hid hab; clear hab
  have hgr : ∀ q, q ≤ -y → x * q < -9223372036854775808 → ¬ I64 (a * b) := fun q h1 h2 => by have := mul_great (x := x) (y := y) x0 h1 h2; rw [HAB.out]; exact this.1
  have HGR := Lib.hid hgr; clear hgr
  go_loop [9, 10] (fun v i => ∃ k : Nat, k ≤ 64 ∧ i = .int .i64 ((k : Int) - 1) ∧ v = .int .i64 (x * hi y k) ∧ I64 (x * hi y k)) (fun _ i => (intOf i + 1).toNat)
  case atStart => exact ⟨64, by omega, rfl, by rw [hi_top ⟨y1, by omega⟩ y0]; simp, by rw [hi_top ⟨y1, by omega⟩ y0]; simp [I64]⟩
  case round =>
    obtain ⟨k, hk, rfl, rfl, hc⟩ := hrel
    cases k with
    | zero =>
      have hz := hi_zero y
      have HZ := Lib.hid hz; clear hz
      generalize hce : x * hi y 0 = c at *
      have HC := Lib.hid hce; clear hce
      go_wp2_with (go_at_call 26; refine (rneg_any _ _ hc).mono ?_; rintro e w1 ⟨rfl, rfl⟩)
      go_ret2
      have e : a * b = -c := by rw [HAB.out, ← HC.out, HZ.out, Int.mul_neg, Int.neg_neg]
      exact ⟨ret2 (by rw [e]) (by rw [e]), rfl⟩
    | succ j =>
      have hj : hi y (j + 1) * 2 ≤ -y := by have h1 := hi_step y j; have h2 := hi_mono y0 j; by_cases hb : bitv y j = true <;> simp [hb] at h1 <;> omega
      have hov : x * hi y (j + 1) < -4611686018427387904 → ¬ I64 (a * b) := fun h => HGR.out _ hj (by rw [← Int.mul_assoc]; omega)
      have c0 : x * hi y (j + 1) ≤ 0 := by have := Int.mul_le_mul_of_nonneg_left (show (0 : Int) ≤ -x by omega) (hi_nonneg y0 (j + 1)); rw [Int.mul_zero, Int.mul_neg, Int.mul_comm] at this; omega
      have h1 : bitv y j = true → x * hi y j = x * hi y (j + 1) * 2 + x := fun h => by rw [hi_bit1 h, Int.mul_add, Int.mul_one, Int.mul_assoc]
      have h0 : bitv y j = false → x * hi y j = x * hi y (j + 1) * 2 := fun h => by rw [hi_bit0 h, Int.mul_assoc]
      have hm := hi_mono y0 j
      have HM := Lib.hid hm; have H1 := Lib.hid h1; have H0 := Lib.hid h0; have HOV := Lib.hid hov; clear hm h1 h0 hov hj
      generalize hce : x * hi y (j + 1) = c at *
      have HC := Lib.hid hce; clear hce
      have c1 := hc.1
      by_cases big : c < -4611686018427387904
      · have hn := HOV.out big
        go_wp2
        go_ret2
        exact ⟨to_err hn, rfl⟩
      have hc2 : I64 (c * 2) := by unfold I64; omega
      cases hb : bitv y j with
      | false =>
        go_wp2_with (go_at_call 41; refine (rbit_any _ _ _ ⟨y1, by omega⟩ y0 (by omega) (by omega)).mono ?_; rintro e w1 ⟨rfl, rfl⟩)
        go_round
        case rel => exact ⟨j, by omega, rfl, by rw [H0.out hb], by rw [H0.out hb]; exact hc2⟩
        case measure => simp [intOf]
      | true =>
        by_cases hs : I64 (c * 2 + x)
        · have e1 := okv_fit hs
          have e2 := oke_fit hs
          go_wp2_with (first | (go_at_call 41; refine (rbit_any _ _ _ ⟨y1, by omega⟩ y0 (by omega) (by omega)).mono ?_; rintro e w1 ⟨rfl, rfl⟩) | (go_at_call 29; refine (radd_any _ _ _ hc2 ⟨by omega, by omega⟩).mono ?_; rintro e w1 ⟨rfl, rfl⟩))
          go_round
          case rel => exact ⟨j, by omega, rfl, by rw [H1.out hb], by rw [H1.out hb]; exact hs⟩
          case measure => simp [intOf]
        · have e2 := oke_not hs
          have hn : ¬ I64 (a * b) := HGR.out _ HM.out (by rw [H1.out hb]; unfold I64 at hs; omega)
          go_wp2_with (first | (go_at_call 41; refine (rbit_any _ _ _ ⟨y1, by omega⟩ y0 (by omega) (by omega)).mono ?_; rintro e w1 ⟨rfl, rfl⟩) | (go_at_call 29; refine (radd_any _ _ _ hc2 ⟨by omega, by omega⟩).mono ?_; rintro e w1 ⟨rfl, rfl⟩))
          go_ret2
          exact ⟨to_err hn, rfl⟩

set_option maxHeartbeats 1000000 in
theorem rmul_pn (a b : Int) (w : World) (a1 : -9223372036854775808 ≤ a) (a2 : a ≤ 9223372036854775807) (b1 : -9223372036854775808 ≤ b) (b2 : b ≤ 9223372036854775807) (p : 0 < a) (q : b < 0) :
    Calls Try.prog 32 #[.int .i64 a, .int .i64 b] w fun e w' => e = .returned (.tuple #[.int .i64 (okv (a * b)), .int .i64 (oke (a * b))]) ∧ w = w' := by
  have za : (a == 0) = false := by rw [beq_eq_false_iff_ne]; omega
  have zb : (b == 0) = false := by rw [beq_eq_false_iff_ne]; omega
  go_enter Try.func32, Try.ntmps32
  go_wp2
  generalize hx : -a = x at *
  have x0 : x ≤ 0 := by omega
  have x1 : -9223372036854775808 ≤ x := by omega
  have y0 : b ≤ 0 := by omega
  have y1 : -9223372036854775808 ≤ b := by omega
  have hab : a * b = -(x * b) := by rw [← hx, Int.neg_mul, Int.neg_neg]
  have HX := Lib.hid hx; clear hx
  have HAB := Lib.hid hab; clear hab
  have hgr : ∀ q, q ≤ -b → x * q < -9223372036854775808 → ¬ I64 (a * b) := fun q h1 h2 => by have := mul_great (x := x) (y := b) x0 h1 h2; rw [HAB.out]; exact this.2
  have HGR := Lib.hid hgr; clear hgr
  go_loop [9, 10] (fun v i => ∃ k : Nat, k ≤ 64 ∧ i = .int .i64 ((k : Int) - 1) ∧ v = .int .i64 (x * hi b k) ∧ I64 (x * hi b k)) (fun _ i => (intOf i + 1).toNat)
  case atStart => exact ⟨64, by omega, rfl, by rw [hi_top ⟨y1, by omega⟩ y0]; simp, by rw [hi_top ⟨y1, by omega⟩ y0]; simp [I64]⟩
  case round =>
    obtain ⟨k, hk, rfl, rfl, hc⟩ := hrel
    cases k with
    | zero =>
      have hz := hi_zero b
      have HZ := Lib.hid hz; clear hz
      generalize hce : x * hi b 0 = c at *
      have HC := Lib.hid hce; clear hce
      go_wp2
      go_ret2
      have e : a * b = c := by rw [HAB.out, ← HC.out, HZ.out, Int.mul_neg]
      exact ⟨ret2 (by rw [e, okv_fit hc]) (by rw [e, oke_fit hc]), rfl⟩
    | succ j =>
      have hj : hi b (j + 1) * 2 ≤ -b := by have h1 := hi_step b j; have h2 := hi_mono y0 j; by_cases hb : bitv b j = true <;> simp [hb] at h1 <;> omega
      have hov : x * hi b (j + 1) < -4611686018427387904 → ¬ I64 (a * b) := fun h => HGR.out _ hj (by rw [← Int.mul_assoc]; omega)
      have c0 : x * hi b (j + 1) ≤ 0 := by have := Int.mul_le_mul_of_nonneg_left (show (0 : Int) ≤ -x by omega) (hi_nonneg y0 (j + 1)); rw [Int.mul_zero, Int.mul_neg, Int.mul_comm] at this; omega
      have h1 : bitv b j = true → x * hi b j = x * hi b (j + 1) * 2 + x := fun h => by rw [hi_bit1 h, Int.mul_add, Int.mul_one, Int.mul_assoc]
      have h0 : bitv b j = false → x * hi b j = x * hi b (j + 1) * 2 := fun h => by rw [hi_bit0 h, Int.mul_assoc]
      have hm := hi_mono y0 j
      have HM := Lib.hid hm; have H1 := Lib.hid h1; have H0 := Lib.hid h0; have HOV := Lib.hid hov; clear hm h1 h0 hov hj
      generalize hce : x * hi b (j + 1) = c at *
      have HC := Lib.hid hce; clear hce
      have c1 := hc.1
      by_cases big : c < -4611686018427387904
      · have hn := HOV.out big
        go_wp2
        go_ret2
        exact ⟨to_err hn, rfl⟩
      have hc2 : I64 (c * 2) := by unfold I64; omega
      cases hb : bitv b j with
      | false =>
        go_wp2_with (go_at_call 41; refine (rbit_any _ _ _ ⟨y1, by omega⟩ y0 (by omega) (by omega)).mono ?_; rintro e w1 ⟨rfl, rfl⟩)
        go_round
        case rel => exact ⟨j, by omega, rfl, by rw [H0.out hb], by rw [H0.out hb]; exact hc2⟩
        case measure => simp [intOf]
      | true =>
        by_cases hs : I64 (c * 2 + x)
        · have e1 := okv_fit hs
          have e2 := oke_fit hs
          go_wp2_with (first | (go_at_call 41; refine (rbit_any _ _ _ ⟨y1, by omega⟩ y0 (by omega) (by omega)).mono ?_; rintro e w1 ⟨rfl, rfl⟩) | (go_at_call 29; refine (radd_any _ _ _ hc2 ⟨by omega, by omega⟩).mono ?_; rintro e w1 ⟨rfl, rfl⟩))
          go_round
          case rel => exact ⟨j, by omega, rfl, by rw [H1.out hb], by rw [H1.out hb]; exact hs⟩
          case measure => simp [intOf]
        · have e2 := oke_not hs
          have hn : ¬ I64 (a * b) := HGR.out _ HM.out (by rw [H1.out hb]; unfold I64 at hs; omega)
          go_wp2_with (first | (go_at_call 41; refine (rbit_any _ _ _ ⟨y1, by omega⟩ y0 (by omega) (by omega)).mono ?_; rintro e w1 ⟨rfl, rfl⟩) | (go_at_call 29; refine (radd_any _ _ _ hc2 ⟨by omega, by omega⟩).mono ?_; rintro e w1 ⟨rfl, rfl⟩))
          go_ret2
          exact ⟨to_err hn, rfl⟩

set_option maxHeartbeats 1000000 in
theorem rmul_np (a b : Int) (w : World) (a1 : -9223372036854775808 ≤ a) (a2 : a ≤ 9223372036854775807) (b1 : -9223372036854775808 ≤ b) (b2 : b ≤ 9223372036854775807) (p : a < 0) (q : 0 < b) :
    Calls Try.prog 32 #[.int .i64 a, .int .i64 b] w fun e w' => e = .returned (.tuple #[.int .i64 (okv (a * b)), .int .i64 (oke (a * b))]) ∧ w = w' := by
  have za : (a == 0) = false := by rw [beq_eq_false_iff_ne]; omega
  have zb : (b == 0) = false := by rw [beq_eq_false_iff_ne]; omega
  go_enter Try.func32, Try.ntmps32
  go_wp2
  generalize hy : -b = y at *
  have x0 : a ≤ 0 := by omega
  have x1 : -9223372036854775808 ≤ a := by omega
  have y0 : y ≤ 0 := by omega
  have y1 : -9223372036854775808 ≤ y := by omega
  have hab : a * b = -(a * y) := by rw [← hy, Int.mul_neg, Int.neg_neg]
  have HY := Lib.hid hy; clear hy
  have HAB := Lib.hid hab; clear hab
  have hgr : ∀ q, q ≤ -y → a * q < -9223372036854775808 → ¬ I64 (a * b) := fun q h1 h2 => by have := mul_great (x := a) (y := y) x0 h1 h2; rw [HAB.out]; exact this.2
  have HGR := Lib.hid hgr; clear hgr
  go_loop [9, 10] (fun v i => ∃ k : Nat, k ≤ 64 ∧ i = .int .i64 ((k : Int) - 1) ∧ v = .int .i64 (a * hi y k) ∧ I64 (a * hi y k)) (fun _ i => (intOf i + 1).toNat)
  case atStart => exact ⟨64, by omega, rfl, by rw [hi_top ⟨y1, by omega⟩ y0]; simp, by rw [hi_top ⟨y1, by omega⟩ y0]; simp [I64]⟩
  case round =>
    obtain ⟨k, hk, rfl, rfl, hc⟩ := hrel
    cases k with
    | zero =>
      have hz := hi_zero y
      have HZ := Lib.hid hz; clear hz
      generalize hce : a * hi y 0 = c at *
      have HC := Lib.hid hce; clear hce
      go_wp2
      go_ret2
      have e : a * b = c := by rw [HAB.out, ← HC.out, HZ.out, Int.mul_neg]
      exact ⟨ret2 (by rw [e, okv_fit hc]) (by rw [e, oke_fit hc]), rfl⟩
    | succ j =>
      have hj : hi y (j + 1) * 2 ≤ -y := by have h1 := hi_step y j; have h2 := hi_mono y0 j; by_cases hb : bitv y j = true <;> simp [hb] at h1 <;> omega
      have hov : a * hi y (j + 1) < -4611686018427387904 → ¬ I64 (a * b) := fun h => HGR.out _ hj (by rw [← Int.mul_assoc]; omega)
      have c0 : a * hi y (j + 1) ≤ 0 := by have := Int.mul_le_mul_of_nonneg_left (show (0 : Int) ≤ -a by omega) (hi_nonneg y0 (j + 1)); rw [Int.mul_zero, Int.mul_neg, Int.mul_comm] at this; omega
      have h1 : bitv y j = true → a * hi y j = a * hi y (j + 1) * 2 + a := fun h => by rw [hi_bit1 h, Int.mul_add, Int.mul_one, Int.mul_assoc]
      have h0 : bitv y j = false → a * hi y j = a * hi y (j + 1) * 2 := fun h => by rw [hi_bit0 h, Int.mul_assoc]
      have hm := hi_mono y0 j
      have HM := Lib.hid hm; have H1 := Lib.hid h1; have H0 := Lib.hid h0; have HOV := Lib.hid hov; clear hm h1 h0 hov hj
      generalize hce : a * hi y (j + 1) = c at *
      have HC := Lib.hid hce; clear hce
      have c1 := hc.1
      by_cases big : c < -4611686018427387904
      · have hn := HOV.out big
        go_wp2
        go_ret2
        exact ⟨to_err hn, rfl⟩
      have hc2 : I64 (c * 2) := by unfold I64; omega
      cases hb : bitv y j with
      | false =>
        go_wp2_with (go_at_call 41; refine (rbit_any _ _ _ ⟨y1, by omega⟩ y0 (by omega) (by omega)).mono ?_; rintro e w1 ⟨rfl, rfl⟩)
        go_round
        case rel => exact ⟨j, by omega, rfl, by rw [H0.out hb], by rw [H0.out hb]; exact hc2⟩
        case measure => simp [intOf]
      | true =>
        by_cases hs : I64 (c * 2 + a)
        · have e1 := okv_fit hs
          have e2 := oke_fit hs
          go_wp2_with (first | (go_at_call 41; refine (rbit_any _ _ _ ⟨y1, by omega⟩ y0 (by omega) (by omega)).mono ?_; rintro e w1 ⟨rfl, rfl⟩) | (go_at_call 29; refine (radd_any _ _ _ hc2 ⟨by omega, by omega⟩).mono ?_; rintro e w1 ⟨rfl, rfl⟩))
          go_round
          case rel => exact ⟨j, by omega, rfl, by rw [H1.out hb], by rw [H1.out hb]; exact hs⟩
          case measure => simp [intOf]
        · have e2 := oke_not hs
          have hn : ¬ I64 (a * b) := HGR.out _ HM.out (by rw [H1.out hb]; unfold I64 at hs; omega)
          go_wp2_with (first | (go_at_call 41; refine (rbit_any _ _ _ ⟨y1, by omega⟩ y0 (by omega) (by omega)).mono ?_; rintro e w1 ⟨rfl, rfl⟩) | (go_at_call 29; refine (radd_any _ _ _ hc2 ⟨by omega, by omega⟩).mono ?_; rintro e w1 ⟨rfl, rfl⟩))
          go_ret2
          exact ⟨to_err hn, rfl⟩

set_option maxHeartbeats 1000000 in
theorem rmul_nn (a b : Int) (w : World) (a1 : -9223372036854775808 ≤ a) (a2 : a ≤ 9223372036854775807) (b1 : -9223372036854775808 ≤ b) (b2 : b ≤ 9223372036854775807) (p : a < 0) (q : b < 0) :
    Calls Try.prog 32 #[.int .i64 a, .int .i64 b] w fun e w' => e = .returned (.tuple #[.int .i64 (okv (a * b)), .int .i64 (oke (a * b))]) ∧ w = w' := by
  have za : (a == 0) = false := by rw [beq_eq_false_iff_ne]; omega
  have zb : (b == 0) = false := by rw [beq_eq_false_iff_ne]; omega
  go_enter Try.func32, Try.ntmps32
  go_wp2
  have x0 : a ≤ 0 := by omega
  have x1 : -9223372036854775808 ≤ a := by omega
  have y0 : b ≤ 0 := by omega
  have y1 : -9223372036854775808 ≤ b := by omega
  have hgr : ∀ q, q ≤ -b → a * q < -9223372036854775808 → ¬ I64 (a * b) := fun q h1 h2 => by have := mul_great (x := a) (y := b) x0 h1 h2; exact this.1
  have HGR := Lib.hid hgr; clear hgr
  go_loop [9, 10] (fun v i => ∃ k : Nat, k ≤ 64 ∧ i = .int .i64 ((k : Int) - 1) ∧ v = .int .i64 (a * hi b k) ∧ I64 (a * hi b k)) (fun _ i => (intOf i + 1).toNat)
  case atStart => exact ⟨64, by omega, rfl, by rw [hi_top ⟨y1, by omega⟩ y0]; simp, by rw [hi_top ⟨y1, by omega⟩ y0]; simp [I64]⟩
  case round =>
    obtain ⟨k, hk, rfl, rfl, hc⟩ := hrel
    cases k with
    | zero =>
      have hz := hi_zero b
      have HZ := Lib.hid hz; clear hz
      generalize hce : a * hi b 0 = c at *
      have HC := Lib.hid hce; clear hce
      go_wp2_with (go_at_call 26; refine (rneg_any _ _ hc).mono ?_; rintro e w1 ⟨rfl, rfl⟩)
      go_ret2
      have e : a * b = -c := by rw [← HC.out, HZ.out, Int.mul_neg, Int.neg_neg]
      exact ⟨ret2 (by rw [e]) (by rw [e]), rfl⟩
    | succ j =>
      have hj : hi b (j + 1) * 2 ≤ -b := by have h1 := hi_step b j; have h2 := hi_mono y0 j; by_cases hb : bitv b j = true <;> simp [hb] at h1 <;> omega
      have hov : a * hi b (j + 1) < -4611686018427387904 → ¬ I64 (a * b) := fun h => HGR.out _ hj (by rw [← Int.mul_assoc]; omega)
      have c0 : a * hi b (j + 1) ≤ 0 := by have := Int.mul_le_mul_of_nonneg_left (show (0 : Int) ≤ -a by omega) (hi_nonneg y0 (j + 1)); rw [Int.mul_zero, Int.mul_neg, Int.mul_comm] at this; omega
      have h1 : bitv b j = true → a * hi b j = a * hi b (j + 1) * 2 + a := fun h => by rw [hi_bit1 h, Int.mul_add, Int.mul_one, Int.mul_assoc]
      have h0 : bitv b j = false → a * hi b j = a * hi b (j + 1) * 2 := fun h => by rw [hi_bit0 h, Int.mul_assoc]
      have hm := hi_mono y0 j
      have HM := Lib.hid hm; have H1 := Lib.hid h1; have H0 := Lib.hid h0; have HOV := Lib.hid hov; clear hm h1 h0 hov hj
      generalize hce : a * hi b (j + 1) = c at *
      have HC := Lib.hid hce; clear hce
      have c1 := hc.1
      by_cases big : c < -4611686018427387904
      · have hn := HOV.out big
        go_wp2
        go_ret2
        exact ⟨to_err hn, rfl⟩
      have hc2 : I64 (c * 2) := by unfold I64; omega
      cases hb : bitv b j with
      | false =>
        go_wp2_with (go_at_call 41; refine (rbit_any _ _ _ ⟨y1, by omega⟩ y0 (by omega) (by omega)).mono ?_; rintro e w1 ⟨rfl, rfl⟩)
        go_round
        case rel => exact ⟨j, by omega, rfl, by rw [H0.out hb], by rw [H0.out hb]; exact hc2⟩
        case measure => simp [intOf]
      | true =>
        by_cases hs : I64 (c * 2 + a)
        · have e1 := okv_fit hs
          have e2 := oke_fit hs
          go_wp2_with (first | (go_at_call 41; refine (rbit_any _ _ _ ⟨y1, by omega⟩ y0 (by omega) (by omega)).mono ?_; rintro e w1 ⟨rfl, rfl⟩) | (go_at_call 29; refine (radd_any _ _ _ hc2 ⟨by omega, by omega⟩).mono ?_; rintro e w1 ⟨rfl, rfl⟩))
          go_round
          case rel => exact ⟨j, by omega, rfl, by rw [H1.out hb], by rw [H1.out hb]; exact hs⟩
          case measure => simp [intOf]
        · have e2 := oke_not hs
          have hn : ¬ I64 (a * b) := HGR.out _ HM.out (by rw [H1.out hb]; unfold I64 at hs; omega)
          go_wp2_with (first | (go_at_call 41; refine (rbit_any _ _ _ ⟨y1, by omega⟩ y0 (by omega) (by omega)).mono ?_; rintro e w1 ⟨rfl, rfl⟩) | (go_at_call 29; refine (radd_any _ _ _ hc2 ⟨by omega, by omega⟩).mono ?_; rintro e w1 ⟨rfl, rfl⟩))
          go_ret2
          exact ⟨to_err hn, rfl⟩

set_option maxHeartbeats 1000000 in
theorem rmul_any (a b : Int) (w : World) (ha : I64 a) (hb : I64 b) :
    Calls Try.prog 32 #[.int .i64 a, .int .i64 b] w fun e w' => e = .returned (.tuple #[.int .i64 (okv (a * b)), .int .i64 (oke (a * b))]) ∧ w = w' := by
  obtain ⟨a1, a2⟩ := ha; obtain ⟨b1, b2⟩ := hb
  by_cases a0 : a = 0
  · subst a0
    go_enter Try.func32, Try.ntmps32
    go_wp2
    go_ret2
    exact ⟨ret2 (by rw [Int.zero_mul]; rfl) (by rw [Int.zero_mul]; rfl), rfl⟩
  by_cases b0 : b = 0
  · subst b0
    go_enter Try.func32, Try.ntmps32
    go_wp2
    go_ret2
    exact ⟨ret2 (by rw [Int.mul_zero]; rfl) (by rw [Int.mul_zero]; rfl), rfl⟩
  by_cases p : 0 < a
  · by_cases q : 0 < b
    · exact rmul_pp a b w a1 a2 b1 b2 p q
    · exact rmul_pn a b w a1 a2 b1 b2 p (by omega)
  · by_cases q : 0 < b
    · exact rmul_np a b w a1 a2 b1 b2 (by omega) q
    · exact rmul_nn a b w a1 a2 b1 b2 (by omega) (by omega)

end Go.Proofs.Ytlefjhicjmkonaa
