/-
  The reference's bits, Whole: the walks.
-/
import Derived.Test.YthmpobimmbmddaaGreatDoorRTerm1
import Derived.Test.YthmpobimmbmddaaGreatDoorTOf3
import Derived.Test.YthmpobimmbmddaaGreatDoorTKinds2
namespace Go.Proofs.YthmpobimmbmddaaGreatDoor
open Go.RowKit
set_option linter.unusedVariables false
set_option linter.unusedSimpArgs false

theorem pow_step (j : Nat) : (2 : Nat) ^ (j + 1) = 2 ^ j * 2 := Nat.pow_succ ..
theorem pow_le7 : ∀ j, j ≤ 7 → (2 : Nat) ^ j ≤ 128 ∧ 1 ≤ (2 : Nat) ^ j := by decide
set_option maxRecDepth 100000 in
set_option maxHeartbeats 8000000 in
theorem rbits_any (k i g : Int) (n f : ByteArray) (a : Int) (so : Option Addr) (l c : Nat) (y : ByteArray) (z : Int) (w : World) (hy : y.size ≤ 9223372036854775807) (hz : I64 z) :
    Calls Tryz.prog 136 #[.agg #[.int .i64 k, .int .i64 i, .int .i64 g, .string n, .string f, .int .i64 a, .slice so l c, .string y, .int .i64 z]] w fun e w' => e = .returned (.bool (bitsV y z)) ∧ Below w.heap.size w w' := by
  have HB := Lib.hid ((Below.refl w.heap.size w).alloc (Nat.le_refl _) (.cells #[.int .i64 k, .int .i64 i, .int .i64 g, .string n, .string f, .int .i64 a, .slice so l c, .string y, .int .i64 z] 28))
  obtain ⟨za, zb⟩ := hz
  by_cases h0 : z < 0
  · have E : Hid (bitsV y z = false) := Lib.hid (by unfold bitsV; rw [wi_no (by omega)]; rfl)
    go_enter Tryz.func136, Tryz.ntmps136
    go_wp2_with fail
    go_ret
    exact ⟨retb E.out.symm, HB.out⟩
  · by_cases h1 : 16384 < z
    · have E : Hid (bitsV y z = false) := Lib.hid (by unfold bitsV; rw [wi_no (by omega)]; rfl)
      go_enter Tryz.func136, Tryz.ntmps136
      go_wp2_with fail
      go_ret
      exact ⟨retb E.out.symm, HB.out⟩
    · have z0 : 0 ≤ z := by omega
      have z1 : z ≤ 16384 := by omega
      have E0 : bitsV y z = (decide ((y.size : Int) = (z + 7) / 8) && (decide (z % 8 = 0) || decide (lastByte y % 2 ^ (8 - z % 8).toNat = 0))) := by unfold bitsV; rw [wi_yes z0 z1]; rfl
      clear h0 h1
      by_cases hl : (y.size : Int) = (z + 7) / 8
      · have hlb : ((y.size : Int) != (z + 7) / 8) = false := by rw [bne_eq_false_iff_eq]; exact hl
        by_cases hr : z % 8 = 0
        · have E : Hid (bitsV y z = true) := Lib.hid (by rw [E0, decide_eq_true hl, decide_eq_true hr]; rfl)
          have hrb : (z % 8 == 0) = true := by rw [beq_iff_eq]; exact hr
          clear hl hr E0
          go_enter Tryz.func136, Tryz.ntmps136
          go_wp2_with fail
          go_ret
          exact ⟨retb E.out.symm, HB.out⟩
        · obtain ⟨m, hm⟩ : ∃ m, y.size = m + 1 := ⟨y.size - 1, by omega⟩
          obtain ⟨r, hrr⟩ : ∃ r : Nat, z % 8 = (r : Int) := ⟨(z % 8).toNat, by omega⟩
          have hr1 : 1 ≤ r := by omega
          have hr7 : r ≤ 7 := by omega
          have hmi : m < y.size := by omega
          have E : Hid (bitsV y z = decide (y[m].toNat % 2 ^ (8 - r) = 0)) := Lib.hid (by
            rw [E0, decide_eq_true hl, decide_eq_false hr, lastByte_at hm, hrr, show (8 - (r : Int)).toNat = 8 - r by omega]
            rfl)
          have hrb : (z % 8 == 0) = false := beq_eq_false_iff_ne.2 hr
          have hw1 : IntKind.i64.wrap ((y.size : Int) - 1) = (m : Int) := by rw [IntKind.wrap_i64]; omega
          have hidx : (y.size : Int) - 1 = (m : Int) := by omega
          have HM := Lib.hid hm
          clear hr E0 hl hm
          go_enter Tryz.func136, Tryz.ntmps136
          go_wp2_with fail
          generalize hbb : y[m].toNat = lb at *
          have hlb2 : lb < 256 := by rw [← hbb]; exact UInt8.toNat_lt _
          have HRR := Lib.hid hrr
          have hwl : wrap64 ((lb : Nat) : Int) = (lb : Int) := by unfold wrap64; omega
          have HWL := Lib.hid hwl
          clear hbb hrr hw1 hidx hrb hlb hwl
          go_loop [4, 5] (fun uv iv => ∃ (j p : Nat), r + j ≤ 8 ∧ iv = .int .i64 ((r + j : Nat) : Int) ∧ uv = .int .i64 (p : Int) ∧ Hid (p = 2 ^ j) ∧ 1 ≤ p ∧ p ≤ 256) (fun _ iv => 8 - (intOf iv).toNat)
          case atStart => exact ⟨0, 1, by omega, by (have h9 := HRR.out; go_num), by go_num, Lib.hid rfl, by decide, by decide⟩
          case round =>
            obtain ⟨j, p, hj, rfl, rfl, HP, hp1, hp2⟩ := hrel
            by_cases hlt : r + j < 8
            · have hp7 : p ≤ 128 := by rw [HP.out]; exact (pow_le7 j (by omega)).1
              have HP2 : Hid (p * 2 = 2 ^ (j + 1)) := Lib.hid (by rw [pow_step, HP.out])
              go_wp2_with fail
              go_round
              case rel => exact ⟨j + 1, p * 2, by omega, by go_num, by go_num, HP2, by omega, by omega⟩
              case measure => simp [intOf]; omega
            · have hj8 : j = 8 - r := by omega
              have E2 : Hid (bitsV y z = (((lb : Int) % (p : Int)) == 0)) := Lib.hid (by
                rw [E.out, HP.out, hj8, Bool.eq_iff_iff, decide_eq_true_eq, beq_iff_eq]
                constructor
                · intro h; exact_mod_cast h
                · intro h; exact_mod_cast h)
              have hp0 : ((p : Int) == 0) = false := by rw [beq_eq_false_iff_ne]; omega
              clear hj8
              go_wp2_with fail
              all_goals go_ret
              all_goals exact ⟨retb (by rw [HWL.out, Int.tmod_eq_emod_of_nonneg (by omega)]; exact E2.out.symm), HB.out⟩
      · have hlb : ((y.size : Int) != (z + 7) / 8) = true := by rw [bne_iff_ne]; exact hl
        have E : Hid (bitsV y z = false) := Lib.hid (by rw [E0, decide_eq_false hl]; rfl)
        clear hl E0
        go_enter Tryz.func136, Tryz.ntmps136
        go_wp2_with fail
        go_ret
        exact ⟨retb E.out.symm, HB.out⟩
end Go.Proofs.YthmpobimmbmddaaGreatDoor
