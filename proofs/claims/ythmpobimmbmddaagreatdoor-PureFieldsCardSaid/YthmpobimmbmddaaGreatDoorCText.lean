/-
  ints.Text: the decimal text of a 64-bit integer.
-/
import Derived.Test.YthmpobimmbmddaaGreatDoorCWalk1
import Derived.Test.YthmpobimmbmddaaGreatDoorITextPlain
import Derived.Lib.Hide
namespace Go.Proofs.YthmpobimmbmddaaGreatDoor
open Go.RowKit

set_option maxHeartbeats 400000 in
theorem size_any (a : Int) (w : World) (ha : I64 a) :
    Calls Tryz.prog 47 #[.int .i64 a] w fun e w' => e = .returned (.int .u64 a.natAbs) ∧ w = w' := by
  obtain ⟨a1, a2⟩ := ha
  go_enter Tryz.func47, Tryz.ntmps47
  go_wp2
  · go_ret
    exact ⟨ret1 (by
        have : a < 0 := by assumption
        rw [IntKind.wrap_u64, IntKind.wrap_u64]; omega), rfl⟩
  · go_ret
    exact ⟨ret1 (by
        have : 0 ≤ a := by assumption
        omega), rfl⟩

/-- b[l:] of the array of twenty bytes at block B. -/
theorem slice20 (B : Nat) (l : Int) (k : Nat) (hl : l = k) (hk : k < 20) (w : World) :
    (Instr.sliceAt 79 (.pointer (some ⟨B, 0, none⟩)) (some (.int .i64 l)) none none).run Tryz.prog w = .ok (.slice (some ⟨B, k, none⟩) (20 - k) (20 - k)) w := by
  subst hl
  have e : Tryz.prog.arrayLen 79 = 20 := by kernel_rfl
  have ee : Tryz.prog.elem 79 = 5 := by kernel_rfl
  rw [run_sliceAt_array_l w 79 ⟨B, 0, none⟩ (by rw [e, ee]; exact Tryz.underlying79) .i64 k (by omega) (by rw [e]; omega), e, ee]
  simp [go_sem, slicedAt, Addr.add]
  rw [if_neg (by omega)]
  split <;> simp_all
/-- string(b[k:]) where the bytes of block B are cs. -/
theorem conv20 (B k L : Nat) (hL : L = 20 - k) (l cs : List UInt8) (w : World) (hh : w.heap[B]? = some (.cells (byteCells cs) 79 (0, 0))) (hl : cs.length = 20) (e : l = cs.drop k) :
    (convert 50 9 (.slice (some ⟨B, k, none⟩) L L)).run Tryz.prog w = .ok (.string ⟨l.toArray⟩) w := by
  subst e hL
  have := run_convert_bytes_back (P := Tryz.prog) w 50 9 5 ⟨B, k, none⟩ (20 - k) (cs.drop k) Tryz.underlying50 Tryz.underlying5 Tryz.underlying9 (fun j hj => by
    have hp : (⟨B, k, none⟩ : Addr).add j = ⟨B, k + j, none⟩ := by unfold Addr.add; split <;> simp_all
    rw [hp, cell_of_row _ _ _ _ _ _ hh, byteCells_get (by simp at hj; omega)]
    simp)
  rw [List.length_drop, hl] at this
  exact this

set_option maxRecDepth 100000 in
set_option maxHeartbeats 1000000 in
theorem text_any (n : Int) (w : World) (hn : I64 n) :
    Calls Tryz.prog 22 #[.int .i64 n] w fun e w' => e = .returned (.string ⟨(txt n).toArray⟩) ∧ Below w.heap.size w w' := by
  go_enter Tryz.func22, Tryz.ntmps22
  go_wp2_with (go_at_call 47; refine (size_any _ _ hn).mono ?_; rintro e w1 ⟨rfl, rfl⟩)
  go_loopw [4, 5] (fun v l wr => ∃ (k m : Nat) (cs : List UInt8), v = .int .i64 k ∧ l = .int .u64 m ∧ 2 ≤ k ∧ k ≤ 20 ∧ m < 10 ^ (k - 1) ∧ m ≤ 9223372036854775808 ∧ cs.length = 20 ∧ wr.heap[w.heap.size]? = some (.cells (byteCells cs) 79 (0, 0)) ∧ Below w.heap.size w wr ∧ Hid (dig n.natAbs = dig m ++ cs.drop k)) (fun v _ _ => (intOf v).toNat)
  case atStart => exact ⟨20, n.natAbs, List.replicate 20 0, rfl, rfl, by omega, by omega, by have := hn.1; have := hn.2; omega, by have := hn.1; have := hn.2; omega, rfl, heap_alloc_new _ _, (Below.refl _ _).alloc (Nat.le_refl _) _, by simp [Hid]⟩
  case round =>
    obtain ⟨k, m, cs, rfl, rfl, hk1, hk2, hm, hm2, hl, hh, hB, HD⟩ := hrel
    obtain ⟨j, rfl⟩ : ∃ j, k = j + 2 := ⟨k - 2, by omega⟩
    rename World => wr
    have HM := Lib.hid hm; clear hm
    have HL := Lib.hid hl; clear hl
    have hcell : wr.cell? ⟨w.heap.size, j + 1, none⟩ = some (.int .u8 (cs[j + 1]'(by rw [HL.out]; omega)).toNat) := by rw [cell_of_row _ _ _ _ _ _ hh]; exact byteCells_get _
    have hcell0 : wr.cell? ⟨w.heap.size, j, none⟩ = some (.int .u8 (cs[j]'(by rw [HL.out]; omega)).toNat) := by rw [cell_of_row _ _ _ _ _ _ hh]; exact byteCells_get _
    have hfz0 : wr.frozen? ⟨w.heap.size, j, none⟩ = false := frozen_of_row _ _ _ _ _ hh
    have hfz : wr.frozen? ⟨w.heap.size, j + 1, none⟩ = false := frozen_of_row _ _ _ _ _ hh
    have hh1 : (wr.setCell ⟨w.heap.size, j + 1, none⟩ (.int .u8 (48 + (m : Int) % 10))).heap[w.heap.size]? = some (.cells (byteCells (cs.set (j + 1) (dgt m))) 79 (0, 0)) := by
      rw [heap_setCell_same _ _ _ _ _ _ hh, ← dgt_toNat, byteCells_set]
    have hd1 : (cs.set (j + 1) (dgt m)).drop (j + 1) = dgt m :: cs.drop (j + 2) := drop_set _ _ _ (by rw [HL.out]; omega)
    have hl1 : (cs.set (j + 1) (dgt m)).length = 20 := by rw [List.length_set]; exact HL.out
    have hB1 : Below w.heap.size w (wr.setCell ⟨w.heap.size, j + 1, none⟩ (.int .u8 (48 + (m : Int) % 10))) := hB.setCell (Nat.le_refl _) _
    have HH := Lib.hid hh; have HH1 := Lib.hid hh1; have HD1 := Lib.hid hd1; have HL1 := Lib.hid hl1; clear hh hh1 hd1 hl1
    by_cases small : m < 10
    · have hdm := dig_small small
      have HDM := Lib.hid hdm; clear hdm
      have HT : Hid (dig n.natAbs = dgt m :: cs.drop (j + 2)) := by have := HD.out; rw [HDM.out] at this; exact this
      by_cases neg : n < 0
      · have hh2 : ((wr.setCell ⟨w.heap.size, j + 1, none⟩ (.int .u8 (48 + (m : Int) % 10))).setCell ⟨w.heap.size, j, none⟩ (.int .u8 45)).heap[w.heap.size]? = some (.cells (byteCells ((cs.set (j + 1) (dgt m)).set j 45)) 79 (0, 0)) := by
          exact (heap_setCell_same _ _ _ _ _ _ HH1.out).trans (congrArg (fun x => some (Obj.cells x 79 (0, 0))) (byteCells_set _ j 45))
        have hcv := conv20 w.heap.size j (20 - j) rfl (txt n) _ _ hh2 (by rw [List.length_set]; exact HL1.out) (by rw [drop_set _ _ _ (by rw [HL1.out]; omega), HD1.out, txt, if_pos neg, HT.out])
        have hsl := slice20 w.heap.size ((j : Int) + 2 - 1 - 1) j (by omega) (by omega)
        clear hh2
        go_wp2
        go_ret
        exact ⟨rfl, hB1.setCell (Nat.le_refl _) _⟩
      · have hcv := conv20 w.heap.size (j + 1) (19 - j) (by omega) (txt n) _ _ HH1.out HL1.out (by rw [HD1.out, txt, if_neg neg, HT.out])
        have hsl := slice20 w.heap.size ((j : Int) + 2 - 1) (j + 1) (by omega) (by omega)
        go_wp2
        go_ret
        exact ⟨rfl, hB1⟩
    · have hdm := dig_big small
      have HDM := Lib.hid hdm; clear hdm
      go_wp2
      go_roundw
      case rel =>
        have hj : 1 ≤ j := by
          rcases Nat.eq_zero_or_pos j with h | h
          · have := HM.out; subst h; omega
          · exact h
        refine ⟨j + 1, m / 10, cs.set (j + 1) (dgt m), by go_num, by go_num, by omega, by omega, ?_, by omega, HL1.out, HH1.out, hB1, ?_⟩
        · have := HM.out
          obtain ⟨i, rfl⟩ : ∃ i, j = i + 1 := ⟨j - 1, by omega⟩
          rw [show i + 1 + 2 - 1 = i + 1 + 1 by omega, pow10] at this
          rw [show i + 1 + 1 - 1 = i + 1 by omega]
          omega
        · exact Lib.hid (by rw [HD.out, HDM.out, HD1.out, List.append_assoc]; rfl)
      case measure => simp [intOf]; omega

end Go.Proofs.YthmpobimmbmddaaGreatDoor
