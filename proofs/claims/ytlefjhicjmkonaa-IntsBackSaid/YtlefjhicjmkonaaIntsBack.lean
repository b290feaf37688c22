/-
  stagehandlaw01.IntsBack: for every input the law returns true. Conditions: none but that the inputs can be read.
-/
import Derived.Test.YtlefjhicjmkonaaRows
import Derived.Test.YtlefjhicjmkonaaILawBase
import Derived.Deep.DeepCutAuto
import Derived.Deep.CutBlock
import Derived.ProofKit
import Derived.OpenShut
import Derived.ShutString
namespace Go.Proofs.Ytlefjhicjmkonaa.intsBack
open Go.ChangeShapes Go.WideShapes Go.ChangeAt Go.RowKit
open Go.ChangeMaps (open_string shut_string)
set_option linter.unusedVariables false

theorem own : ownKnob Try.prog.godebug = none := by kernel_rfl

theorem back_rem (a : Int) {b : Int} (h : ¬ b = 0) : (a.tmod b < 0 → a < 0) ∧ (0 < a.tmod b → 0 < a) ∧ (0 < b → -b < a.tmod b ∧ a.tmod b < b) ∧ (¬ 0 < b → b < a.tmod b ∧ a.tmod b < -b) := by
  have h2 : (a.tmod b).natAbs = a.natAbs % b.natAbs := Int.natAbs_tmod a b
  have h3 : a.natAbs % b.natAbs < b.natAbs := Nat.mod_lt _ (by omega)
  refine ⟨fun hr => ?_, fun hr => ?_, fun hb => by omega, fun hb => by omega⟩
  · by_cases c : a < 0
    · exact c
    · have := Int.tmod_nonneg b (a := a) (by omega); omega
  · by_cases c : 0 < a
    · exact c
    · have := Int.tmod_nonneg b (a := -a) (by omega)
      rw [Int.neg_tmod] at this
      omega
theorem back_mul {a b : Int} (ha : I64 a) : I64 (b * a.tdiv b) := by
  have h1 := Int.mul_tdiv_add_tmod a b
  have h2 : (a.tmod b).natAbs = a.natAbs % b.natAbs := Int.natAbs_tmod a b
  have h3 : a.natAbs % b.natAbs ≤ a.natAbs := Nat.mod_le _ _
  unfold I64 at *
  by_cases c : 0 ≤ a
  · have := Int.tmod_nonneg b c
    omega
  · have := Int.tmod_nonneg b (a := -a) (by omega)
    rw [Int.neg_tmod] at this
    omega
theorem back_shl {a n : Int} (ha : I64 a) (h : 0 ≤ n) : (she a n = 7 ∧ (a != 0) = true ∧ True) ∨ (she a n = 0 ∧ I64 (shv a n) ∧ she (shv a n) (-n) = 0 ∧ shv (shv a n) (-n) = a) := by
  have e := shv_up (a := a) h
  by_cases hf : I64 (a * 2 ^ n.toNat)
  · right
    rw [e.1, e.2, okv_fit hf, oke_fit hf]
    refine ⟨rfl, hf, ?_, ?_⟩
    · by_cases n0 : n = 0
      · subst n0; unfold she; simpa using oke_fit ha
      · unfold she; rw [if_pos (by omega)]
    · by_cases n0 : n = 0
      · subst n0; unfold shv; simpa using okv_fit ha
      · unfold shv; rw [if_pos (by omega), Int.neg_neg]; exact Int.mul_ediv_cancel _ (Int.ne_of_gt (two_pos _))
  · left
    refine ⟨by rw [e.2]; exact oke_not hf, ?_, trivial⟩
    rw [bne_iff_ne]
    intro c
    subst c
    rw [Int.zero_mul] at hf
    exact hf (by decide)

set_option maxRecDepth 100000 in
set_option maxHeartbeats 4000000 in
theorem walk (a0 : Int) (a1 : Int) (a2 : Int) (w0 : (Lit.int .i64 a0).wf = true) (w1 : (Lit.int .i64 a1).wf = true) (w2 : (Lit.int .i64 a2).wf = true) (w : World) :
    Calls Try.prog 9 #[.int .i64 a0, .int .i64 a1, .int .i64 a2] w fun e w' => e = .returned (.bool true) ∧ Below w.heap.size w w' := by
  have i0 := wf64 w0
  have i1 := wf64 w1
  have i2 := wf64 w2
  clear w0 w1 w2
  have hb0 := Below.refl w.heap.size w
  go_enter Try.func9, Try.ntmps9
  go_upto_if 28 with (first | (go_at_call 10; refine (Calls.below (shown_any _) (by assumption)).mono ?_; rintro e w1 ⟨rfl, hb1⟩) | (go_at_call 19; refine (Calls.below (add_any _ _ _ (by assumption) (by assumption)) (by assumption)).mono ?_; rintro e w1 ⟨rfl, hb1⟩))
  go_cut [7, 8] (fun s7 s8 wx => Below w.heap.size w wx ∧ True)
  case first =>
    by_cases h : I64 (a0 + a1)
    · have e1 := okv_fit h
      have f1 := oke_fit h
      have e2 := okv_fit i0
      have f2 := oke_fit i0
      go_wp2_with (first | (go_at_call 20; refine (Calls.below (sub_any _ _ _ (by assumption) (by assumption)) (by assumption)).mono ?_; rintro e w1 ⟨rfl, hb1⟩))
      go_meet
      case rel => exact ⟨by assumption, trivial⟩
    · have e1 := oke_not h
      go_wp2_with fail
      go_meet
      case rel => exact ⟨by assumption, trivial⟩
  case rest =>
    obtain ⟨hb2, _⟩ := hcut
    by_cases h0 : a1 = 0
    · have z2 : dive a0 a1 = 2 := by rw [h0]; rfl
      have z3 : reme a1 = 2 := by rw [h0]; rfl
      have zb : (a1 == 0) = true := by rw [h0]; rfl
      have zc : (a1 != 0) = false := by rw [h0]; rfl
      clear h0
      go_upto_if 77 with (first | (go_at_call 22; refine (div_any _ _ _ (by assumption) (by assumption)).mono ?_; rintro e w1 ⟨rfl, rfl⟩) | (go_at_call 24; refine (rem_any _ _ _ (by assumption) (by assumption)).mono ?_; rintro e w1 ⟨rfl, rfl⟩))
      go_cut [1, 11, 12] (fun s1 s11 s12 wx => Below w.heap.size w wx ∧ True)
      case first =>
        go_wp2_with fail
        go_meet
        case rel => exact ⟨by assumption, trivial⟩
      case rest =>
        obtain ⟨hb3, _⟩ := hcut
        by_cases n0 : a2 < 0
        · go_wp2
          go_ret
          exact ⟨rfl, by assumption⟩
        · rcases back_shl i0 (show 0 ≤ a2 by omega) with ⟨t1, t2, t3⟩ | ⟨t1, t2, t3, t4⟩
          · go_wp2_with (first | (go_at_call 15; refine (shl_any _ _ _ (by assumption) (by assumption)).mono ?_; rintro e w1 ⟨rfl, rfl⟩))
            go_ret
            exact ⟨rfl, by assumption⟩
          · go_wp2_with (first | (go_at_call 15; refine (shl_any _ _ _ (by assumption) (by assumption)).mono ?_; rintro e w1 ⟨rfl, rfl⟩) | (go_at_call 17; refine (shr_any _ _ _ (by assumption) (by assumption)).mono ?_; rintro e w1 ⟨rfl, rfl⟩))
            go_ret
            exact ⟨rfl, by assumption⟩
    have zb : (a1 == 0) = false := by rw [beq_eq_false_iff_ne]; exact h0
    have zc : (a1 != 0) = true := by rw [bne_iff_ne]; exact h0
    by_cases h1 : a0 = -9223372036854775808 ∧ a1 = -1
    · have z2 : dive a0 a1 = 7 := by rw [dive, if_neg h0, h1.1, h1.2]; decide
      have z3 : reme a1 = 0 := by rw [reme, if_neg h0]
      clear h0 h1
      go_upto_if 77 with (first | (go_at_call 22; refine (div_any _ _ _ (by assumption) (by assumption)).mono ?_; rintro e w1 ⟨rfl, rfl⟩) | (go_at_call 24; refine (rem_any _ _ _ (by assumption) (by assumption)).mono ?_; rintro e w1 ⟨rfl, rfl⟩))
      go_cut [1, 11, 12] (fun s1 s11 s12 wx => Below w.heap.size w wx ∧ True)
      case first =>
        go_wp2_with fail
        go_meet
        case rel => exact ⟨by assumption, trivial⟩
      case rest =>
        obtain ⟨hb3, _⟩ := hcut
        by_cases n0 : a2 < 0
        · go_wp2
          go_ret
          exact ⟨rfl, by assumption⟩
        · rcases back_shl i0 (show 0 ≤ a2 by omega) with ⟨t1, t2, t3⟩ | ⟨t1, t2, t3, t4⟩
          · go_wp2_with (first | (go_at_call 15; refine (shl_any _ _ _ (by assumption) (by assumption)).mono ?_; rintro e w1 ⟨rfl, rfl⟩))
            go_ret
            exact ⟨rfl, by assumption⟩
          · go_wp2_with (first | (go_at_call 15; refine (shl_any _ _ _ (by assumption) (by assumption)).mono ?_; rintro e w1 ⟨rfl, rfl⟩) | (go_at_call 17; refine (shr_any _ _ _ (by assumption) (by assumption)).mono ?_; rintro e w1 ⟨rfl, rfl⟩))
            go_ret
            exact ⟨rfl, by assumption⟩
    · have hf := div_fits i0 h0 h1
      have v1 : divv a0 a1 = a0.tdiv a1 := by rw [divv, if_neg h0, okv_fit hf]
      have v2 : dive a0 a1 = 0 := by rw [dive, if_neg h0, oke_fit hf]
      have v3 : remv a0 a1 = a0.tmod a1 := by rw [remv, if_neg h0]
      have v4 : reme a1 = 0 := by rw [reme, if_neg h0]
      have hs := Int.mul_tdiv_add_tmod a0 a1
      have HR := Lib.hid (back_rem a0 h0)
      have hri := rem_fits (b := a1) i0
      have hm := back_mul (b := a1) i0
      clear h1 h0
      generalize a0.tdiv a1 = q at *
      generalize a0.tmod a1 = r at *
      have g1 := okv_fit hm
      have g2 := oke_fit hm
      have g3 : okv (a1 * q + r) = a0 := by rw [hs]; exact okv_fit i0
      have g4 : oke (a1 * q + r) = 0 := by rw [hs]; exact oke_fit i0
      clear hs
      go_upto_if 77 with (first | (go_at_call 22; refine (div_any _ _ _ (by assumption) (by assumption)).mono ?_; rintro e w1 ⟨rfl, rfl⟩) | (go_at_call 24; refine (rem_any _ _ _ (by assumption) (by assumption)).mono ?_; rintro e w1 ⟨rfl, rfl⟩))
      go_cut [1, 11, 12] (fun s1 s11 s12 wx => Below w.heap.size w wx ∧ True)
      case first =>
        have l0 := i0.1
        have l1 := i1.1
        have u0 := i0.2
        have u1 := i1.2
        have ri1 := hri.1
        have ri2 := hri.2
        have R1 := HR.out.1
        have R2 := HR.out.2.1
        have R3 := HR.out.2.2.1
        have R4 := HR.out.2.2.2
        rcases Int.lt_trichotomy r 0 with hr0 | hr0 | hr0
        · have ha := R1 hr0
          have hn0 : ¬ 0 < r := by omega
          by_cases hb : 0 < a1
          · have hc : ¬ r ≤ -a1 := by omega
            clear R1 R2 R3 R4
            go_wp2_with (first | (go_at_call 31; refine (mul_any _ _ _ (by assumption) (by assumption)).mono ?_; rintro e w1 ⟨rfl, rfl⟩) | (go_at_call 19; refine (Calls.below (add_any _ _ _ (by assumption) (by assumption)) (by assumption)).mono ?_; rintro e w1 ⟨rfl, hb1⟩))
            go_meet
            case rel => exact ⟨by assumption, trivial⟩
          · have hc : ¬ r ≤ a1 := by omega
            clear R1 R2 R3 R4
            go_wp2_with (first | (go_at_call 31; refine (mul_any _ _ _ (by assumption) (by assumption)).mono ?_; rintro e w1 ⟨rfl, rfl⟩) | (go_at_call 19; refine (Calls.below (add_any _ _ _ (by assumption) (by assumption)) (by assumption)).mono ?_; rintro e w1 ⟨rfl, hb1⟩))
            go_meet
            case rel => exact ⟨by assumption, trivial⟩
        · by_cases hb : 0 < a1
          · have hc : ¬ r ≤ -a1 := by omega
            have h5 : 0 ≤ r := by omega
            have h6 : r ≤ 0 := by omega
            clear R1 R2 R3 R4 hr0
            go_wp2_with (first | (go_at_call 31; refine (mul_any _ _ _ (by assumption) (by assumption)).mono ?_; rintro e w1 ⟨rfl, rfl⟩) | (go_at_call 19; refine (Calls.below (add_any _ _ _ (by assumption) (by assumption)) (by assumption)).mono ?_; rintro e w1 ⟨rfl, hb1⟩))
            go_meet
            case rel => exact ⟨by assumption, trivial⟩
          · have hc : ¬ r ≤ a1 := by omega
            have h5 : 0 ≤ r := by omega
            have h6 : r ≤ 0 := by omega
            clear R1 R2 R3 R4 hr0
            go_wp2_with (first | (go_at_call 31; refine (mul_any _ _ _ (by assumption) (by assumption)).mono ?_; rintro e w1 ⟨rfl, rfl⟩) | (go_at_call 19; refine (Calls.below (add_any _ _ _ (by assumption) (by assumption)) (by assumption)).mono ?_; rintro e w1 ⟨rfl, hb1⟩))
            go_meet
            case rel => exact ⟨by assumption, trivial⟩
        · have ha := R2 hr0
          by_cases hb : 0 < a1
          · have hc : ¬ -r ≤ -a1 := by omega
            clear R1 R2 R3 R4
            go_wp2_with (first | (go_at_call 31; refine (mul_any _ _ _ (by assumption) (by assumption)).mono ?_; rintro e w1 ⟨rfl, rfl⟩) | (go_at_call 19; refine (Calls.below (add_any _ _ _ (by assumption) (by assumption)) (by assumption)).mono ?_; rintro e w1 ⟨rfl, hb1⟩))
            go_meet
            case rel => exact ⟨by assumption, trivial⟩
          · have hc : ¬ -r ≤ a1 := by omega
            clear R1 R2 R3 R4
            go_wp2_with (first | (go_at_call 31; refine (mul_any _ _ _ (by assumption) (by assumption)).mono ?_; rintro e w1 ⟨rfl, rfl⟩) | (go_at_call 19; refine (Calls.below (add_any _ _ _ (by assumption) (by assumption)) (by assumption)).mono ?_; rintro e w1 ⟨rfl, hb1⟩))
            go_meet
            case rel => exact ⟨by assumption, trivial⟩
      case rest =>
        obtain ⟨hb3, _⟩ := hcut
        by_cases n0 : a2 < 0
        · go_wp2
          go_ret
          exact ⟨rfl, by assumption⟩
        · rcases back_shl i0 (show 0 ≤ a2 by omega) with ⟨t1, t2, t3⟩ | ⟨t1, t2, t3, t4⟩
          · go_wp2_with (first | (go_at_call 15; refine (shl_any _ _ _ (by assumption) (by assumption)).mono ?_; rintro e w1 ⟨rfl, rfl⟩))
            go_ret
            exact ⟨rfl, by assumption⟩
          · go_wp2_with (first | (go_at_call 15; refine (shl_any _ _ _ (by assumption) (by assumption)).mono ?_; rintro e w1 ⟨rfl, rfl⟩) | (go_at_call 17; refine (shr_any _ _ _ (by assumption) (by assumption)).mono ?_; rintro e w1 ⟨rfl, rfl⟩))
            go_ret
            exact ⟨rfl, by assumption⟩

set_option maxRecDepth 100000 in
theorem lifted (os : Os) (started : os.Started) (H : Type) (enc : TypeId × Value → H) :
    ReturnsInHanded {} Try.checked os 9 .any (Rows.intsBackSpec.pre6 enc Try.prog Try.f9 Rows.intsBackRow.domain false) (Rows.intsBackSpec.post enc Try.prog Try.f9 false true false false) := by
  refine returnsInHanded_of_change (C := Try.checked) own started (by kernel_rfl) Try.func9
    (ChangeSpec.witness6 (enc := enc) (C := Try.checked) false ⟨#[], #[.int .i64 0, .int .i64 0, .int .i64 0], []⟩ 8 (by kernel_rfl) (by kernel_rfl) (by kernel_rfl) (by kernel_rfl)) ?_
  intro W base args ds gs before hval0 hW hcnd _
  have hval : ∀ (j : Nat) t v, Try.f9.params[j]? = some t → args[j]? = some v → Value.okWide Try.prog W .any base t v := hval0
  have hW' := hW
  obtain ⟨p, q, hA0, hV, rfl, hfz, hnd⟩ := hW
  have hA : DataW.TrodAll enc Try.prog W 0 (fun _ => true) true Try.f9.params.toList args.toList ds p := hA0
  rw [Try.params9] at hA hval
  obtain ⟨v0, vs0, d0, ds0, p0, q0, hargs, rfl, rfl, h0, r0⟩ := trodAll_cons hA
  obtain ⟨v1, vs1, d1, ds1, p1, q1, rfl, rfl, rfl, h1, r1⟩ := trodAll_cons r0
  obtain ⟨v2, vs2, d2, ds2, p2, q2, rfl, rfl, rfl, h2, r2⟩ := trodAll_cons r1
  obtain ⟨rfl, rfl, rfl⟩ := trodAll_nil r2
  obtain rfl : args = #[v0, v1, v2] := by cases args; simp_all
  obtain ⟨rfl, rfl⟩ := trodVars_none hV
  obtain ⟨a0, rfl, rfl, rfl, w0⟩ := open_int Try.underlying2 (hval 0 2 v0 rfl rfl) h0
  obtain ⟨a1, rfl, rfl, rfl, w1⟩ := open_int Try.underlying2 (hval 1 2 v1 rfl rfl) h1
  obtain ⟨a2, rfl, rfl, rfl, w2⟩ := open_int Try.underlying2 (hval 2 2 v2 rfl rfl) h2
  clear hA0 hval0
  simp only [List.append_nil] at hW'
  refine (walk a0 a1 a2 w0 w1 w2 W).mono fun e W' ⟨he, bel⟩ => ?_
  subst he
  exact ⟨_, rfl, _, _, _, [], [], [], hW', trodAll_mk1 (shut_bool Try.underlying4 _), (trodAll_cons_mk (shut_int Try.underlying2 w0) (trodAll_cons_mk (shut_int Try.underlying2 w1) (trodAll_cons_mk (shut_int Try.underlying2 w2) trodAll_mk0))), rfl, bel.frame _, fun h => by cases h⟩

theorem over : Rows.intsBackRow.holds Try.pinned (OpenSpec.ofChange Rows.intsBackSpec) :=
  OpenClaim.holds_of_wide 9 Try.f9 rfl rfl rfl rfl rfl rfl rfl ⟨rfl, rfl, rfl, rfl, rfl⟩ rfl rfl rfl rfl rfl (by kernel_rfl) Try.func9 (by kernel_rfl)
    (of_decide_eq_true (by kernel_rfl)) (by unfold Func.isWrapper; first | (rw [if_pos (by decide +kernel)]; kernel_rfl) | (rw [if_neg (by decide +kernel)]; exact ⟨rfl, rfl⟩))
    (fun os started H enc _ => lifted os started H enc)

theorem proved : Rows.IntsBackSaid := over
#print axioms proved
end Go.Proofs.Ytlefjhicjmkonaa.intsBack
