/-
  stagehandlaw01.IntsOrder: for every input the law returns true. Conditions: none but that the inputs can be read.
-/
import Derived.Test.YtlefjhicjmkonaaRows
import Derived.Test.YtlefjhicjmkonaaILawBase
import Derived.ProofKit
import Derived.OpenShut
import Derived.ShutString
namespace Go.Proofs.Ytlefjhicjmkonaa.intsOrder
open Go.ChangeShapes Go.WideShapes Go.ChangeAt Go.RowKit
open Go.ChangeMaps (open_string shut_string)
set_option linter.unusedVariables false

theorem own : ownKnob Try.prog.godebug = none := by kernel_rfl

theorem ok_or (z : Int) : (okv z = z ∧ oke z = 0) ∨ oke z = 7 := by
  by_cases h : I64 z
  · exact Or.inl ⟨okv_fit h, oke_fit h⟩
  · exact Or.inr (oke_not h)
theorem tmod_odd {a : Int} (h : ¬ a % 2 = 0) : (a.tmod 2 != 0) = true := by
  have h1 := Int.mul_tdiv_add_tmod a 2
  rw [bne_iff_ne]
  intro e
  omega
theorem shv_fit {a : Int} (ha : I64 a) : I64 (shv a (-1)) := by
  unfold shv; rw [if_pos (by decide)]; show I64 (a / 2 ^ 1); unfold I64 at *; omega
theorem order_shift {a : Int} (ha : I64 a) : she a (-1) = 0 ∧ she (shv a (-1)) 1 = 0 ∧ (a % 2 = 0 → shv (shv a (-1)) 1 = a) ∧ (¬ a % 2 = 0 → shv (shv a (-1)) 1 = a - 1) := by
  have e : shv a (-1) = a / 2 := rfl
  have e2 : (2 : Int) ^ (1 : Int).toNat = 2 := rfl
  have hf : I64 (a / 2 * 2) := by unfold I64 at *; omega
  refine ⟨rfl, ?_, ?_, ?_⟩
  · rw [e]; unfold she; rw [if_neg (by decide), e2]; exact oke_fit hf
  · intro h; rw [e]; unfold shv; rw [if_neg (by decide), e2, okv_fit hf]; omega
  · intro h; rw [e]; unfold shv; rw [if_neg (by decide), e2, okv_fit hf]; omega

set_option maxRecDepth 100000 in
set_option maxHeartbeats 8000000 in
theorem walk (a0 : Int) (a1 : Int) (a2 : Int) (w0 : (Lit.int .i64 a0).wf = true) (w1 : (Lit.int .i64 a1).wf = true) (w2 : (Lit.int .i64 a2).wf = true) (w : World) :
    Calls Try.prog 6 #[.int .i64 a0, .int .i64 a1, .int .i64 a2] w fun e w' => e = .returned (.bool true) ∧ Below w.heap.size w w' := by
  have i0 := wf64 w0
  have i1 := wf64 w1
  have i2 := wf64 w2
  have iz : I64 0 := by decide
  have io : I64 1 := by decide
  clear w0 w1 w2
  have hb0 := Below.refl w.heap.size w
  have e5 := (order_shift i0).1
  have e6 := (order_shift i0).2.1
  have j5 := shv_fit i0
  have HE := Lib.hid (order_shift i0).2.2
  have q1 : (!decide (a0 < a1) == decide (a0 + a2 < a1 + a2)) = false := by simp
  have q2 : (!decide (a0 < a1) == decide (a2 - a1 < a2 - a0)) = false := by
    have : (a2 - a1 < a2 - a0) ↔ a0 < a1 := by omega
    simp [this]
  rcases ok_or (a0 + a2) with ⟨g1, f1⟩ | f1
  · rcases ok_or (a1 + a2) with ⟨g2, f2⟩ | f2
    · rcases ok_or (a2 - a0) with ⟨g3, f3⟩ | f3
      · rcases ok_or (a2 - a1) with ⟨g4, f4⟩ | f4
        · by_cases par : a0 % 2 = 0
          · have e7 := HE.out.1 par
            clear par
            go_enter Try.func6, Try.ntmps6
            go_wp2_with (first | (go_at_call 10; refine (Calls.below (shown_any _) (by assumption)).mono ?_; rintro e w1 ⟨rfl, hb1⟩) | (go_at_call 19; refine (Calls.below (add_any _ _ _ (by assumption) (by assumption)) (by assumption)).mono ?_; rintro e w1 ⟨rfl, hb1⟩) | (go_at_call 20; refine (Calls.below (sub_any _ _ _ (by assumption) (by assumption)) (by assumption)).mono ?_; rintro e w1 ⟨rfl, hb1⟩) | (go_at_call 21; refine (Calls.below (neg_any _ _ (by assumption)) (by assumption)).mono ?_; rintro e w1 ⟨rfl, hb1⟩) | (go_at_call 15; refine (shl_any _ _ _ (by assumption) (by assumption)).mono ?_; rintro e w1 ⟨rfl, rfl⟩) | (go_at_call 17; refine (shr_any _ _ _ (by assumption) (by assumption)).mono ?_; rintro e w1 ⟨rfl, rfl⟩))
            go_ret
            exact ⟨rfl, by assumption⟩
          · have t1 : (shv (shv a0 (-1)) 1 == a0) = false := by rw [HE.out.2 par, beq_eq_false_iff_ne]; omega
            have t2 : (shv (shv a0 (-1)) 1 == a0 - 1) = true := by rw [HE.out.2 par]; exact beq_self_eq_true _
            have lb : -9223372036854775807 ≤ a0 := by have := i0.1; omega
            have ub := i0.2
            have e8 : (a0.tmod 2 != 0) = true := tmod_odd par
            clear par
            go_enter Try.func6, Try.ntmps6
            go_wp2_with (first | (go_at_call 10; refine (Calls.below (shown_any _) (by assumption)).mono ?_; rintro e w1 ⟨rfl, hb1⟩) | (go_at_call 19; refine (Calls.below (add_any _ _ _ (by assumption) (by assumption)) (by assumption)).mono ?_; rintro e w1 ⟨rfl, hb1⟩) | (go_at_call 20; refine (Calls.below (sub_any _ _ _ (by assumption) (by assumption)) (by assumption)).mono ?_; rintro e w1 ⟨rfl, hb1⟩) | (go_at_call 21; refine (Calls.below (neg_any _ _ (by assumption)) (by assumption)).mono ?_; rintro e w1 ⟨rfl, hb1⟩) | (go_at_call 15; refine (shl_any _ _ _ (by assumption) (by assumption)).mono ?_; rintro e w1 ⟨rfl, rfl⟩) | (go_at_call 17; refine (shr_any _ _ _ (by assumption) (by assumption)).mono ?_; rintro e w1 ⟨rfl, rfl⟩))
            go_ret
            exact ⟨rfl, by assumption⟩
        · by_cases par : a0 % 2 = 0
          · have e7 := HE.out.1 par
            clear par
            go_enter Try.func6, Try.ntmps6
            go_wp2_with (first | (go_at_call 10; refine (Calls.below (shown_any _) (by assumption)).mono ?_; rintro e w1 ⟨rfl, hb1⟩) | (go_at_call 19; refine (Calls.below (add_any _ _ _ (by assumption) (by assumption)) (by assumption)).mono ?_; rintro e w1 ⟨rfl, hb1⟩) | (go_at_call 20; refine (Calls.below (sub_any _ _ _ (by assumption) (by assumption)) (by assumption)).mono ?_; rintro e w1 ⟨rfl, hb1⟩) | (go_at_call 21; refine (Calls.below (neg_any _ _ (by assumption)) (by assumption)).mono ?_; rintro e w1 ⟨rfl, hb1⟩) | (go_at_call 15; refine (shl_any _ _ _ (by assumption) (by assumption)).mono ?_; rintro e w1 ⟨rfl, rfl⟩) | (go_at_call 17; refine (shr_any _ _ _ (by assumption) (by assumption)).mono ?_; rintro e w1 ⟨rfl, rfl⟩))
            go_ret
            exact ⟨rfl, by assumption⟩
          · have t1 : (shv (shv a0 (-1)) 1 == a0) = false := by rw [HE.out.2 par, beq_eq_false_iff_ne]; omega
            have t2 : (shv (shv a0 (-1)) 1 == a0 - 1) = true := by rw [HE.out.2 par]; exact beq_self_eq_true _
            have lb : -9223372036854775807 ≤ a0 := by have := i0.1; omega
            have ub := i0.2
            have e8 : (a0.tmod 2 != 0) = true := tmod_odd par
            clear par
            go_enter Try.func6, Try.ntmps6
            go_wp2_with (first | (go_at_call 10; refine (Calls.below (shown_any _) (by assumption)).mono ?_; rintro e w1 ⟨rfl, hb1⟩) | (go_at_call 19; refine (Calls.below (add_any _ _ _ (by assumption) (by assumption)) (by assumption)).mono ?_; rintro e w1 ⟨rfl, hb1⟩) | (go_at_call 20; refine (Calls.below (sub_any _ _ _ (by assumption) (by assumption)) (by assumption)).mono ?_; rintro e w1 ⟨rfl, hb1⟩) | (go_at_call 21; refine (Calls.below (neg_any _ _ (by assumption)) (by assumption)).mono ?_; rintro e w1 ⟨rfl, hb1⟩) | (go_at_call 15; refine (shl_any _ _ _ (by assumption) (by assumption)).mono ?_; rintro e w1 ⟨rfl, rfl⟩) | (go_at_call 17; refine (shr_any _ _ _ (by assumption) (by assumption)).mono ?_; rintro e w1 ⟨rfl, rfl⟩))
            go_ret
            exact ⟨rfl, by assumption⟩
      · by_cases par : a0 % 2 = 0
        · have e7 := HE.out.1 par
          clear par
          go_enter Try.func6, Try.ntmps6
          go_wp2_with (first | (go_at_call 10; refine (Calls.below (shown_any _) (by assumption)).mono ?_; rintro e w1 ⟨rfl, hb1⟩) | (go_at_call 19; refine (Calls.below (add_any _ _ _ (by assumption) (by assumption)) (by assumption)).mono ?_; rintro e w1 ⟨rfl, hb1⟩) | (go_at_call 20; refine (Calls.below (sub_any _ _ _ (by assumption) (by assumption)) (by assumption)).mono ?_; rintro e w1 ⟨rfl, hb1⟩) | (go_at_call 21; refine (Calls.below (neg_any _ _ (by assumption)) (by assumption)).mono ?_; rintro e w1 ⟨rfl, hb1⟩) | (go_at_call 15; refine (shl_any _ _ _ (by assumption) (by assumption)).mono ?_; rintro e w1 ⟨rfl, rfl⟩) | (go_at_call 17; refine (shr_any _ _ _ (by assumption) (by assumption)).mono ?_; rintro e w1 ⟨rfl, rfl⟩))
          go_ret
          exact ⟨rfl, by assumption⟩
        · have t1 : (shv (shv a0 (-1)) 1 == a0) = false := by rw [HE.out.2 par, beq_eq_false_iff_ne]; omega
          have t2 : (shv (shv a0 (-1)) 1 == a0 - 1) = true := by rw [HE.out.2 par]; exact beq_self_eq_true _
          have lb : -9223372036854775807 ≤ a0 := by have := i0.1; omega
          have ub := i0.2
          have e8 : (a0.tmod 2 != 0) = true := tmod_odd par
          clear par
          go_enter Try.func6, Try.ntmps6
          go_wp2_with (first | (go_at_call 10; refine (Calls.below (shown_any _) (by assumption)).mono ?_; rintro e w1 ⟨rfl, hb1⟩) | (go_at_call 19; refine (Calls.below (add_any _ _ _ (by assumption) (by assumption)) (by assumption)).mono ?_; rintro e w1 ⟨rfl, hb1⟩) | (go_at_call 20; refine (Calls.below (sub_any _ _ _ (by assumption) (by assumption)) (by assumption)).mono ?_; rintro e w1 ⟨rfl, hb1⟩) | (go_at_call 21; refine (Calls.below (neg_any _ _ (by assumption)) (by assumption)).mono ?_; rintro e w1 ⟨rfl, hb1⟩) | (go_at_call 15; refine (shl_any _ _ _ (by assumption) (by assumption)).mono ?_; rintro e w1 ⟨rfl, rfl⟩) | (go_at_call 17; refine (shr_any _ _ _ (by assumption) (by assumption)).mono ?_; rintro e w1 ⟨rfl, rfl⟩))
          go_ret
          exact ⟨rfl, by assumption⟩
    · rcases ok_or (a2 - a0) with ⟨g3, f3⟩ | f3
      · rcases ok_or (a2 - a1) with ⟨g4, f4⟩ | f4
        · by_cases par : a0 % 2 = 0
          · have e7 := HE.out.1 par
            clear par
            go_enter Try.func6, Try.ntmps6
            go_wp2_with (first | (go_at_call 10; refine (Calls.below (shown_any _) (by assumption)).mono ?_; rintro e w1 ⟨rfl, hb1⟩) | (go_at_call 19; refine (Calls.below (add_any _ _ _ (by assumption) (by assumption)) (by assumption)).mono ?_; rintro e w1 ⟨rfl, hb1⟩) | (go_at_call 20; refine (Calls.below (sub_any _ _ _ (by assumption) (by assumption)) (by assumption)).mono ?_; rintro e w1 ⟨rfl, hb1⟩) | (go_at_call 21; refine (Calls.below (neg_any _ _ (by assumption)) (by assumption)).mono ?_; rintro e w1 ⟨rfl, hb1⟩) | (go_at_call 15; refine (shl_any _ _ _ (by assumption) (by assumption)).mono ?_; rintro e w1 ⟨rfl, rfl⟩) | (go_at_call 17; refine (shr_any _ _ _ (by assumption) (by assumption)).mono ?_; rintro e w1 ⟨rfl, rfl⟩))
            go_ret
            exact ⟨rfl, by assumption⟩
          · have t1 : (shv (shv a0 (-1)) 1 == a0) = false := by rw [HE.out.2 par, beq_eq_false_iff_ne]; omega
            have t2 : (shv (shv a0 (-1)) 1 == a0 - 1) = true := by rw [HE.out.2 par]; exact beq_self_eq_true _
            have lb : -9223372036854775807 ≤ a0 := by have := i0.1; omega
            have ub := i0.2
            have e8 : (a0.tmod 2 != 0) = true := tmod_odd par
            clear par
            go_enter Try.func6, Try.ntmps6
            go_wp2_with (first | (go_at_call 10; refine (Calls.below (shown_any _) (by assumption)).mono ?_; rintro e w1 ⟨rfl, hb1⟩) | (go_at_call 19; refine (Calls.below (add_any _ _ _ (by assumption) (by assumption)) (by assumption)).mono ?_; rintro e w1 ⟨rfl, hb1⟩) | (go_at_call 20; refine (Calls.below (sub_any _ _ _ (by assumption) (by assumption)) (by assumption)).mono ?_; rintro e w1 ⟨rfl, hb1⟩) | (go_at_call 21; refine (Calls.below (neg_any _ _ (by assumption)) (by assumption)).mono ?_; rintro e w1 ⟨rfl, hb1⟩) | (go_at_call 15; refine (shl_any _ _ _ (by assumption) (by assumption)).mono ?_; rintro e w1 ⟨rfl, rfl⟩) | (go_at_call 17; refine (shr_any _ _ _ (by assumption) (by assumption)).mono ?_; rintro e w1 ⟨rfl, rfl⟩))
            go_ret
            exact ⟨rfl, by assumption⟩
        · by_cases par : a0 % 2 = 0
          · have e7 := HE.out.1 par
            clear par
            go_enter Try.func6, Try.ntmps6
            go_wp2_with (first | (go_at_call 10; refine (Calls.below (shown_any _) (by assumption)).mono ?_; rintro e w1 ⟨rfl, hb1⟩) | (go_at_call 19; refine (Calls.below (add_any _ _ _ (by assumption) (by assumption)) (by assumption)).mono ?_; rintro e w1 ⟨rfl, hb1⟩) | (go_at_call 20; refine (Calls.below (sub_any _ _ _ (by assumption) (by assumption)) (by assumption)).mono ?_; rintro e w1 ⟨rfl, hb1⟩) | (go_at_call 21; refine (Calls.below (neg_any _ _ (by assumption)) (by assumption)).mono ?_; rintro e w1 ⟨rfl, hb1⟩) | (go_at_call 15; refine (shl_any _ _ _ (by assumption) (by assumption)).mono ?_; rintro e w1 ⟨rfl, rfl⟩) | (go_at_call 17; refine (shr_any _ _ _ (by assumption) (by assumption)).mono ?_; rintro e w1 ⟨rfl, rfl⟩))
            go_ret
            exact ⟨rfl, by assumption⟩
          · have t1 : (shv (shv a0 (-1)) 1 == a0) = false := by rw [HE.out.2 par, beq_eq_false_iff_ne]; omega
            have t2 : (shv (shv a0 (-1)) 1 == a0 - 1) = true := by rw [HE.out.2 par]; exact beq_self_eq_true _
            have lb : -9223372036854775807 ≤ a0 := by have := i0.1; omega
            have ub := i0.2
            have e8 : (a0.tmod 2 != 0) = true := tmod_odd par
            clear par
            go_enter Try.func6, Try.ntmps6
            go_wp2_with (first | (go_at_call 10; refine (Calls.below (shown_any _) (by assumption)).mono ?_; rintro e w1 ⟨rfl, hb1⟩) | (go_at_call 19; refine (Calls.below (add_any _ _ _ (by assumption) (by assumption)) (by assumption)).mono ?_; rintro e w1 ⟨rfl, hb1⟩) | (go_at_call 20; refine (Calls.below (sub_any _ _ _ (by assumption) (by assumption)) (by assumption)).mono ?_; rintro e w1 ⟨rfl, hb1⟩) | (go_at_call 21; refine (Calls.below (neg_any _ _ (by assumption)) (by assumption)).mono ?_; rintro e w1 ⟨rfl, hb1⟩) | (go_at_call 15; refine (shl_any _ _ _ (by assumption) (by assumption)).mono ?_; rintro e w1 ⟨rfl, rfl⟩) | (go_at_call 17; refine (shr_any _ _ _ (by assumption) (by assumption)).mono ?_; rintro e w1 ⟨rfl, rfl⟩))
            go_ret
            exact ⟨rfl, by assumption⟩
      · by_cases par : a0 % 2 = 0
        · have e7 := HE.out.1 par
          clear par
          go_enter Try.func6, Try.ntmps6
          go_wp2_with (first | (go_at_call 10; refine (Calls.below (shown_any _) (by assumption)).mono ?_; rintro e w1 ⟨rfl, hb1⟩) | (go_at_call 19; refine (Calls.below (add_any _ _ _ (by assumption) (by assumption)) (by assumption)).mono ?_; rintro e w1 ⟨rfl, hb1⟩) | (go_at_call 20; refine (Calls.below (sub_any _ _ _ (by assumption) (by assumption)) (by assumption)).mono ?_; rintro e w1 ⟨rfl, hb1⟩) | (go_at_call 21; refine (Calls.below (neg_any _ _ (by assumption)) (by assumption)).mono ?_; rintro e w1 ⟨rfl, hb1⟩) | (go_at_call 15; refine (shl_any _ _ _ (by assumption) (by assumption)).mono ?_; rintro e w1 ⟨rfl, rfl⟩) | (go_at_call 17; refine (shr_any _ _ _ (by assumption) (by assumption)).mono ?_; rintro e w1 ⟨rfl, rfl⟩))
          go_ret
          exact ⟨rfl, by assumption⟩
        · have t1 : (shv (shv a0 (-1)) 1 == a0) = false := by rw [HE.out.2 par, beq_eq_false_iff_ne]; omega
          have t2 : (shv (shv a0 (-1)) 1 == a0 - 1) = true := by rw [HE.out.2 par]; exact beq_self_eq_true _
          have lb : -9223372036854775807 ≤ a0 := by have := i0.1; omega
          have ub := i0.2
          have e8 : (a0.tmod 2 != 0) = true := tmod_odd par
          clear par
          go_enter Try.func6, Try.ntmps6
          go_wp2_with (first | (go_at_call 10; refine (Calls.below (shown_any _) (by assumption)).mono ?_; rintro e w1 ⟨rfl, hb1⟩) | (go_at_call 19; refine (Calls.below (add_any _ _ _ (by assumption) (by assumption)) (by assumption)).mono ?_; rintro e w1 ⟨rfl, hb1⟩) | (go_at_call 20; refine (Calls.below (sub_any _ _ _ (by assumption) (by assumption)) (by assumption)).mono ?_; rintro e w1 ⟨rfl, hb1⟩) | (go_at_call 21; refine (Calls.below (neg_any _ _ (by assumption)) (by assumption)).mono ?_; rintro e w1 ⟨rfl, hb1⟩) | (go_at_call 15; refine (shl_any _ _ _ (by assumption) (by assumption)).mono ?_; rintro e w1 ⟨rfl, rfl⟩) | (go_at_call 17; refine (shr_any _ _ _ (by assumption) (by assumption)).mono ?_; rintro e w1 ⟨rfl, rfl⟩))
          go_ret
          exact ⟨rfl, by assumption⟩
  · rcases ok_or (a2 - a0) with ⟨g3, f3⟩ | f3
    · rcases ok_or (a2 - a1) with ⟨g4, f4⟩ | f4
      · by_cases par : a0 % 2 = 0
        · have e7 := HE.out.1 par
          clear par
          go_enter Try.func6, Try.ntmps6
          go_wp2_with (first | (go_at_call 10; refine (Calls.below (shown_any _) (by assumption)).mono ?_; rintro e w1 ⟨rfl, hb1⟩) | (go_at_call 19; refine (Calls.below (add_any _ _ _ (by assumption) (by assumption)) (by assumption)).mono ?_; rintro e w1 ⟨rfl, hb1⟩) | (go_at_call 20; refine (Calls.below (sub_any _ _ _ (by assumption) (by assumption)) (by assumption)).mono ?_; rintro e w1 ⟨rfl, hb1⟩) | (go_at_call 21; refine (Calls.below (neg_any _ _ (by assumption)) (by assumption)).mono ?_; rintro e w1 ⟨rfl, hb1⟩) | (go_at_call 15; refine (shl_any _ _ _ (by assumption) (by assumption)).mono ?_; rintro e w1 ⟨rfl, rfl⟩) | (go_at_call 17; refine (shr_any _ _ _ (by assumption) (by assumption)).mono ?_; rintro e w1 ⟨rfl, rfl⟩))
          go_ret
          exact ⟨rfl, by assumption⟩
        · have t1 : (shv (shv a0 (-1)) 1 == a0) = false := by rw [HE.out.2 par, beq_eq_false_iff_ne]; omega
          have t2 : (shv (shv a0 (-1)) 1 == a0 - 1) = true := by rw [HE.out.2 par]; exact beq_self_eq_true _
          have lb : -9223372036854775807 ≤ a0 := by have := i0.1; omega
          have ub := i0.2
          have e8 : (a0.tmod 2 != 0) = true := tmod_odd par
          clear par
          go_enter Try.func6, Try.ntmps6
          go_wp2_with (first | (go_at_call 10; refine (Calls.below (shown_any _) (by assumption)).mono ?_; rintro e w1 ⟨rfl, hb1⟩) | (go_at_call 19; refine (Calls.below (add_any _ _ _ (by assumption) (by assumption)) (by assumption)).mono ?_; rintro e w1 ⟨rfl, hb1⟩) | (go_at_call 20; refine (Calls.below (sub_any _ _ _ (by assumption) (by assumption)) (by assumption)).mono ?_; rintro e w1 ⟨rfl, hb1⟩) | (go_at_call 21; refine (Calls.below (neg_any _ _ (by assumption)) (by assumption)).mono ?_; rintro e w1 ⟨rfl, hb1⟩) | (go_at_call 15; refine (shl_any _ _ _ (by assumption) (by assumption)).mono ?_; rintro e w1 ⟨rfl, rfl⟩) | (go_at_call 17; refine (shr_any _ _ _ (by assumption) (by assumption)).mono ?_; rintro e w1 ⟨rfl, rfl⟩))
          go_ret
          exact ⟨rfl, by assumption⟩
      · by_cases par : a0 % 2 = 0
        · have e7 := HE.out.1 par
          clear par
          go_enter Try.func6, Try.ntmps6
          go_wp2_with (first | (go_at_call 10; refine (Calls.below (shown_any _) (by assumption)).mono ?_; rintro e w1 ⟨rfl, hb1⟩) | (go_at_call 19; refine (Calls.below (add_any _ _ _ (by assumption) (by assumption)) (by assumption)).mono ?_; rintro e w1 ⟨rfl, hb1⟩) | (go_at_call 20; refine (Calls.below (sub_any _ _ _ (by assumption) (by assumption)) (by assumption)).mono ?_; rintro e w1 ⟨rfl, hb1⟩) | (go_at_call 21; refine (Calls.below (neg_any _ _ (by assumption)) (by assumption)).mono ?_; rintro e w1 ⟨rfl, hb1⟩) | (go_at_call 15; refine (shl_any _ _ _ (by assumption) (by assumption)).mono ?_; rintro e w1 ⟨rfl, rfl⟩) | (go_at_call 17; refine (shr_any _ _ _ (by assumption) (by assumption)).mono ?_; rintro e w1 ⟨rfl, rfl⟩))
          go_ret
          exact ⟨rfl, by assumption⟩
        · have t1 : (shv (shv a0 (-1)) 1 == a0) = false := by rw [HE.out.2 par, beq_eq_false_iff_ne]; omega
          have t2 : (shv (shv a0 (-1)) 1 == a0 - 1) = true := by rw [HE.out.2 par]; exact beq_self_eq_true _
          have lb : -9223372036854775807 ≤ a0 := by have := i0.1; omega
          have ub := i0.2
          have e8 : (a0.tmod 2 != 0) = true := tmod_odd par
          clear par
          go_enter Try.func6, Try.ntmps6
          go_wp2_with (first | (go_at_call 10; refine (Calls.below (shown_any _) (by assumption)).mono ?_; rintro e w1 ⟨rfl, hb1⟩) | (go_at_call 19; refine (Calls.below (add_any _ _ _ (by assumption) (by assumption)) (by assumption)).mono ?_; rintro e w1 ⟨rfl, hb1⟩) | (go_at_call 20; refine (Calls.below (sub_any _ _ _ (by assumption) (by assumption)) (by assumption)).mono ?_; rintro e w1 ⟨rfl, hb1⟩) | (go_at_call 21; refine (Calls.below (neg_any _ _ (by assumption)) (by assumption)).mono ?_; rintro e w1 ⟨rfl, hb1⟩) | (go_at_call 15; refine (shl_any _ _ _ (by assumption) (by assumption)).mono ?_; rintro e w1 ⟨rfl, rfl⟩) | (go_at_call 17; refine (shr_any _ _ _ (by assumption) (by assumption)).mono ?_; rintro e w1 ⟨rfl, rfl⟩))
          go_ret
          exact ⟨rfl, by assumption⟩
    · by_cases par : a0 % 2 = 0
      · have e7 := HE.out.1 par
        clear par
        go_enter Try.func6, Try.ntmps6
        go_wp2_with (first | (go_at_call 10; refine (Calls.below (shown_any _) (by assumption)).mono ?_; rintro e w1 ⟨rfl, hb1⟩) | (go_at_call 19; refine (Calls.below (add_any _ _ _ (by assumption) (by assumption)) (by assumption)).mono ?_; rintro e w1 ⟨rfl, hb1⟩) | (go_at_call 20; refine (Calls.below (sub_any _ _ _ (by assumption) (by assumption)) (by assumption)).mono ?_; rintro e w1 ⟨rfl, hb1⟩) | (go_at_call 21; refine (Calls.below (neg_any _ _ (by assumption)) (by assumption)).mono ?_; rintro e w1 ⟨rfl, hb1⟩) | (go_at_call 15; refine (shl_any _ _ _ (by assumption) (by assumption)).mono ?_; rintro e w1 ⟨rfl, rfl⟩) | (go_at_call 17; refine (shr_any _ _ _ (by assumption) (by assumption)).mono ?_; rintro e w1 ⟨rfl, rfl⟩))
        go_ret
        exact ⟨rfl, by assumption⟩
      · have t1 : (shv (shv a0 (-1)) 1 == a0) = false := by rw [HE.out.2 par, beq_eq_false_iff_ne]; omega
        have t2 : (shv (shv a0 (-1)) 1 == a0 - 1) = true := by rw [HE.out.2 par]; exact beq_self_eq_true _
        have lb : -9223372036854775807 ≤ a0 := by have := i0.1; omega
        have ub := i0.2
        have e8 : (a0.tmod 2 != 0) = true := tmod_odd par
        clear par
        go_enter Try.func6, Try.ntmps6
        go_wp2_with (first | (go_at_call 10; refine (Calls.below (shown_any _) (by assumption)).mono ?_; rintro e w1 ⟨rfl, hb1⟩) | (go_at_call 19; refine (Calls.below (add_any _ _ _ (by assumption) (by assumption)) (by assumption)).mono ?_; rintro e w1 ⟨rfl, hb1⟩) | (go_at_call 20; refine (Calls.below (sub_any _ _ _ (by assumption) (by assumption)) (by assumption)).mono ?_; rintro e w1 ⟨rfl, hb1⟩) | (go_at_call 21; refine (Calls.below (neg_any _ _ (by assumption)) (by assumption)).mono ?_; rintro e w1 ⟨rfl, hb1⟩) | (go_at_call 15; refine (shl_any _ _ _ (by assumption) (by assumption)).mono ?_; rintro e w1 ⟨rfl, rfl⟩) | (go_at_call 17; refine (shr_any _ _ _ (by assumption) (by assumption)).mono ?_; rintro e w1 ⟨rfl, rfl⟩))
        go_ret
        exact ⟨rfl, by assumption⟩

set_option maxRecDepth 100000 in
theorem lifted (os : Os) (started : os.Started) (H : Type) (enc : TypeId × Value → H) :
    ReturnsInHanded {} Try.checked os 6 .any (Rows.intsOrderSpec.pre6 enc Try.prog Try.f6 Rows.intsOrderRow.domain false) (Rows.intsOrderSpec.post enc Try.prog Try.f6 false true false false) := by
  refine returnsInHanded_of_change (C := Try.checked) own started (by kernel_rfl) Try.func6
    (ChangeSpec.witness6 (enc := enc) (C := Try.checked) false ⟨#[], #[.int .i64 0, .int .i64 0, .int .i64 0], []⟩ 8 (by kernel_rfl) (by kernel_rfl) (by kernel_rfl) (by kernel_rfl)) ?_
  intro W base args ds gs before hval0 hW hcnd _
  have hval : ∀ (j : Nat) t v, Try.f6.params[j]? = some t → args[j]? = some v → Value.okWide Try.prog W .any base t v := hval0
  have hW' := hW
  obtain ⟨p, q, hA0, hV, rfl, hfz, hnd⟩ := hW
  have hA : DataW.TrodAll enc Try.prog W 0 (fun _ => true) true Try.f6.params.toList args.toList ds p := hA0
  rw [Try.params6] at hA hval
  obtain ⟨v0, vs0, d0, ds0, p0, q0, hargs, rfl, rfl, h0, r0⟩ := trodAll_cons hA
  obtain ⟨v1, vs1, d1, ds1, p1, q1, rfl, rfl, rfl, h1, r1⟩ := trodAll_cons r0
  obtain ⟨v2, vs2, d2, ds2, p2, q2, rfl, rfl, rfl, h2, r2⟩ := trodAll_cons r1
  obtain ⟨rfl, rfl, rfl⟩ := trodAll_nil r2
  obtain rfl : args = #[v0, v1, v2] := by cases args; simp_all
  obtain ⟨rfl, rfl⟩ := trodVars_none hV
  obtain ⟨a0, rfl, rfl, rfl, w0⟩ := open_int Try.underlying2 (hval 0 2 v0 rfl rfl) h0
  obtain ⟨a1, rfl, rfl, rfl, w1⟩ := open_int Try.underlying2 (hval 1 2 v1 rfl rfl) h1
  obtain ⟨a2, rfl, rfl, rfl, w2⟩ := open_int Try.underlying2 (hval 2 2 v2 rfl rfl) h2
  clear hA0 hval0
  simp only [List.append_nil] at hW'
  refine (walk a0 a1 a2 w0 w1 w2 W).mono fun e W' ⟨he, bel⟩ => ?_
  subst he
  exact ⟨_, rfl, _, _, _, [], [], [], hW', trodAll_mk1 (shut_bool Try.underlying4 _), (trodAll_cons_mk (shut_int Try.underlying2 w0) (trodAll_cons_mk (shut_int Try.underlying2 w1) (trodAll_cons_mk (shut_int Try.underlying2 w2) trodAll_mk0))), rfl, bel.frame _, fun h => by cases h⟩

theorem over : Rows.intsOrderRow.holds Try.pinned (OpenSpec.ofChange Rows.intsOrderSpec) :=
  OpenClaim.holds_of_wide 6 Try.f6 rfl rfl rfl rfl rfl rfl rfl ⟨rfl, rfl, rfl, rfl, rfl⟩ rfl rfl rfl rfl rfl (by kernel_rfl) Try.func6 (by kernel_rfl)
    (of_decide_eq_true (by kernel_rfl)) (by unfold Func.isWrapper; first | (rw [if_pos (by decide +kernel)]; kernel_rfl) | (rw [if_neg (by decide +kernel)]; exact ⟨rfl, rfl⟩))
    (fun os started H enc _ => lifted os started H enc)

theorem proved : Rows.IntsOrderSaid := over
#print axioms proved
end Go.Proofs.Ytlefjhicjmkonaa.intsOrder
