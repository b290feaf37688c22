/-
  The closures of terms.kinds for lists and bit strings: the walks.
-/
import Derived.Test.YthmpobimmbmddaaGreatDoorTKinds
import Derived.Deep.QuietTactic
import Derived.BigQuiet
namespace Go.Proofs.YthmpobimmbmddaaGreatDoor
open Go.RowKit
set_option linter.unusedVariables false
set_option linter.unusedSimpArgs false

theorem low_bits (b r : Nat) (hb : b < 256) (hr : r < 8) : b * 2 ^ r % 256 = 0 ↔ b % 2 ^ (8 - r) = 0 := by
  match r, hr with
  | 0, _ => simp
  | 1, _ => simp; omega
  | 2, _ => simp; omega
  | 3, _ => simp; omega
  | 4, _ => simp; omega
  | 5, _ => simp; omega
  | 6, _ => simp; omega
  | 7, _ => simp; omega
  | r + 8, h => omega
theorem lastByte_at {y : ByteArray} {m : Nat} (h : y.size = m + 1) : lastByte y = (y[m]'(by omega)).toNat := by
  unfold lastByte
  have hl : y.data.toList.length = m + 1 := by rw [Array.length_toList]; exact h
  rw [List.getLast?_eq_getElem?, hl, Nat.add_sub_cancel, List.getElem?_eq_getElem (by omega)]
  rfl

section
variable (k i g : Int) (n f : ByteArray) (a : Int) (so : Option Addr) (l c : Nat) (y : ByteArray) (z : Int) (w : World)
set_option maxRecDepth 100000 in
set_option maxHeartbeats 4000000 in
theorem kind_list0 (hl : l < 2) : Calls Tryz.prog 213 #[.agg #[.int .i64 k, .int .i64 i, .int .i64 g, .string n, .string f, .int .i64 a, .slice so l c, .string y, .int .i64 z]] w fun e w' =>
    e = .returned (.tuple #[.agg #[.int .i64 k, .int .i64 i, .int .i64 g, .string n, .string f, .int .i64 a, .slice none 0 0, .string y, .int .i64 z], .bool false]) ∧ Below w.heap.size w w' := by
  have hd : decide ((2 : Int) ≤ (l : Int)) = false := decide_eq_false (by omega)
  go_enter Tryz.func213, Tryz.ntmps213
  go_wp2_with fail
  exact bodyPost_ret (v := .tuple #[.agg #[.int .i64 k, .int .i64 i, .int .i64 g, .string n, .string f, .int .i64 a, .slice none 0 0, .string y, .int .i64 z], .bool false]) (by simp [results, Tryz.results213, go_sem]) rfl ⟨rfl, two_below _ _ _⟩
set_option maxRecDepth 100000 in
set_option maxHeartbeats 4000000 in
theorem kind_list2 (b off m : Nat) (kk : Int) (hm : m ≤ 9223372036854775805) (hb : b < w.heap.size) (hc : w.cell? ⟨b, off + (m + 1) * 9, none⟩ = some (.int .i64 kk)) : Calls Tryz.prog 213 #[.agg #[.int .i64 k, .int .i64 i, .int .i64 g, .string n, .string f, .int .i64 a, .slice (some ⟨b, off, none⟩) (m + 2) c, .string y, .int .i64 z]] w fun e w' =>
    e = .returned (.tuple #[.agg #[.int .i64 k, .int .i64 i, .int .i64 g, .string n, .string f, .int .i64 a, .slice none 0 0, .string y, .int .i64 z], .bool (kk != 9)]) ∧ Below w.heap.size w w' := by
  have hd : decide ((2 : Int) ≤ ((m + 2 : Nat) : Int)) = true := decide_eq_true (by omega)
  have hi : (((m + 2 : Nat) : Int) - 1).toNat = m + 1 := by omega
  go_enter Tryz.func213, Tryz.ntmps213
  go_wp2_with fail
  exact bodyPost_ret (v := .tuple #[.agg #[.int .i64 k, .int .i64 i, .int .i64 g, .string n, .string f, .int .i64 a, .slice none 0 0, .string y, .int .i64 z], .bool (kk != 9)]) (by simp [results, Tryz.results213, go_sem]) rfl ⟨rfl, two_below _ _ _⟩

set_option maxRecDepth 100000 in
set_option maxHeartbeats 4000000 in
theorem kind_bits (hy : y.size ≤ 9223372036854775807) (hz : I64 z) : Calls Tryz.prog 214 #[.agg #[.int .i64 k, .int .i64 i, .int .i64 g, .string n, .string f, .int .i64 a, .slice so l c, .string y, .int .i64 z]] w fun e w' =>
    e = .returned (.tuple #[.agg #[.int .i64 k, .int .i64 i, .int .i64 g, .string n, .string f, .int .i64 a, .slice so l c, .string ⟨#[]⟩, .int .i64 0], .bool (bitsV y z)]) ∧ Below w.heap.size w w' := by
  have h0 := fun wx => twithin_any z 0 16384 wx
  by_cases hw : 0 ≤ z ∧ z ≤ 16384
  · obtain ⟨z0, z1⟩ := hw
    have hwi := wi_yes z0 z1
    have E0 : bitsV y z = (decide ((y.size : Int) = (z + 7) / 8) && (decide (z % 8 = 0) || decide (lastByte y % 2 ^ (8 - z % 8).toNat = 0))) := by unfold bitsV; rw [hwi]; rfl
    rw [hwi] at h0
    clear hwi
    by_cases hl : (y.size : Int) = (z + 7) / 8
    · have hlb : ((y.size : Int) == (z + 7) / 8) = true := by rw [beq_iff_eq]; exact hl
      by_cases hr : z % 8 = 0
      · have hrb : (z % 8 != 0) = false := by rw [bne_eq_false_iff_eq]; exact hr
        have E := Lib.hid (E0.trans (by rw [decide_eq_true hl, decide_eq_true hr]; rfl : _ = true))
        rw [E.out]
        clear E E0 hr hl hz
        go_enter Tryz.func214, Tryz.ntmps214
        go_wp2_with (go_at_call 204; refine (h0 _).mono ?_; rintro e w1 ⟨rfl, rfl⟩)
        exact bodyPost_ret (v := .tuple #[.agg #[.int .i64 k, .int .i64 i, .int .i64 g, .string n, .string f, .int .i64 a, .slice so l c, .string ⟨#[]⟩, .int .i64 0], .bool true]) (by simp [results, Tryz.results214, go_sem]) rfl ⟨rfl, two_below _ _ _⟩
      · have hrb : (z % 8 != 0) = true := by rw [bne_iff_ne]; exact hr
        obtain ⟨m, hm⟩ : ∃ m, y.size = m + 1 := ⟨y.size - 1, by omega⟩
        have hmi : m < y.size := by omega
        have hmy : m ≤ 100000 := by omega
        have HM := Lib.hid hm
        have hw1 : IntKind.i64.wrap ((y.size : Int) - 1) = (m : Int) := by rw [IntKind.wrap_i64]; omega
        have hrem : z.tmod 8 = z % 8 := by rw [Int.tmod_eq_emod_of_nonneg z0]
        have hr0 : 0 ≤ z % 8 := by omega
        have hr8 : z % 8 < 8 := by omega
        have EE : Hid ((((y[m].toNat : Nat) : Int) * 2 ^ (z % 8).toNat % 256 == 0) = bitsV y z) := Lib.hid (by
          rw [E0, decide_eq_true hl, decide_eq_false hr, lastByte_at hm]
          rw [Bool.true_and, Bool.false_or]
          have h := low_bits y[m].toNat (z % 8).toNat (UInt8.toNat_lt _) (by omega)
          rw [show (8 - z % 8).toNat = 8 - (z % 8).toNat by omega]
          rw [Bool.eq_iff_iff, beq_iff_eq, decide_eq_true_eq, ← h]
          exact ⟨fun h => by exact_mod_cast h, fun h => by exact_mod_cast h⟩)
        clear hl hz hm hr E0
        go_enter Tryz.func214, Tryz.ntmps214
        go_wp2_with (go_at_call 204; refine (h0 _).mono ?_; rintro e w1 ⟨rfl, rfl⟩)
        go_quiet (fail)
        go_wp2_with fail
        refine bodyPost_ret (results_row_tmp rfl _ _ _ (w.heap.size + 1) _ _ _ _ rfl (set9 _ _ _ _ _ _ _ _ _ ((heap_setCell_other _ _ _ _ (by simp)).trans ((heap_setCell_other _ _ _ _ (by simp)).trans (two1 w _ _)))) Tryz.underlying28 (by kernel_rfl)) rfl ?_
        exact ⟨by rw [← EE.out]; rfl, below9 (Nat.le_succ _) (((below_drewN (two_below _ _ _) _).setCell (Nat.le_refl _) _).setCell (Nat.le_refl _) _) _ _ _ _ _ _ _ _ _⟩
    · have hlb : ((y.size : Int) == (z + 7) / 8) = false := by rw [beq_eq_false_iff_ne]; exact hl
      have E := Lib.hid (E0.trans (by rw [decide_eq_false hl]; rfl : _ = false))
      rw [E.out]
      clear E E0 hl hz
      go_enter Tryz.func214, Tryz.ntmps214
      go_wp2_with (go_at_call 204; refine (h0 _).mono ?_; rintro e w1 ⟨rfl, rfl⟩)
      exact bodyPost_ret (v := .tuple #[.agg #[.int .i64 k, .int .i64 i, .int .i64 g, .string n, .string f, .int .i64 a, .slice so l c, .string ⟨#[]⟩, .int .i64 0], .bool false]) (by simp [results, Tryz.results214, go_sem]) rfl ⟨rfl, two_below _ _ _⟩
  · have hwi := wi_no hw
    have E : Hid (bitsV y z = false) := Lib.hid (by unfold bitsV; rw [hwi]; rfl)
    rw [hwi] at h0
    rw [E.out]
    clear E hwi hw hz
    go_enter Tryz.func214, Tryz.ntmps214
    go_wp2_with (go_at_call 204; refine (h0 _).mono ?_; rintro e w1 ⟨rfl, rfl⟩)
    exact bodyPost_ret (v := .tuple #[.agg #[.int .i64 k, .int .i64 i, .int .i64 g, .string n, .string f, .int .i64 a, .slice so l c, .string ⟨#[]⟩, .int .i64 0], .bool false]) (by simp [results, Tryz.results214, go_sem]) rfl ⟨rfl, two_below _ _ _⟩
end
end Go.Proofs.YthmpobimmbmddaaGreatDoor
