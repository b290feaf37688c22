/-
  stagehandref01.Text: the decimal text of a 64-bit integer.
-/
import Derived.Test.YtlefjhicjmkonaaIText
namespace Go.Proofs.Ytlefjhicjmkonaa
open Go.RowKit

/-- string(b) of the bytes b that lie in block B from place k on. -/
theorem conv_row (B k L c : Nat) (l cs : List UInt8) (t : TypeId) (fr : Nat × Nat) (w : World) (hh : w.heap[B]? = some (.cells (byteCells cs) t fr)) (e : l = (cs.drop k).take L) (hL : k + L ≤ cs.length) :
    (convert 36 9 (.slice (some ⟨B, k, none⟩) L c)).run Try.prog w = .ok (.string ⟨l.toArray⟩) w := by
  subst e
  have := run_convert_bytes_back (P := Try.prog) w 36 9 5 ⟨B, k, none⟩ c ((cs.drop k).take L) Try.underlying36 Try.underlying5 Try.underlying9 (fun j hj => by
    have hp : (⟨B, k, none⟩ : Addr).add j = ⟨B, k + j, none⟩ := by unfold Addr.add; split <;> simp_all
    rw [hp, cell_of_row _ _ _ _ _ _ hh, byteCells_get (by simp at hj; omega)]
    simp)
  rw [List.length_take, List.length_drop, Nat.min_eq_left (by omega)] at this
  exact this

theorem retS {l m : List UInt8} (h : l = m) : Ending.returned (.string ⟨l.toArray⟩) = .returned (.string ⟨m.toArray⟩) := by rw [h]

set_option maxHeartbeats 1000000 in
theorem rtext_any (n : Int) (w : World) (hn : I64 n) :
    Calls Try.prog 14 #[.int .i64 n] w fun e w' => e = .returned (.string ⟨(txt n).toArray⟩) ∧ Below w.heap.size w w' := by
  by_cases neg : n < 0
  · obtain ⟨N, rfl⟩ : ∃ N : Nat, n = -(N : Int) := ⟨n.natAbs, by omega⟩
    have ht : txt (-(N : Int)) = 45 :: dig N := by unfold txt; rw [if_pos neg, Int.natAbs_neg, Int.natAbs_natCast]
    have hN := hn.1
    rw [ht]; clear ht
    go_enter Try.func14, Try.ntmps14
    go_wp2
    go_loopw [0, 4] (fun v o wr => ∃ (m : Nat) (suf : List UInt8), v = .int .i64 (-(m : Int)) ∧ o = .string ⟨suf.toArray⟩ ∧ m ≤ 9223372036854775808 ∧ Below w.heap.size w wr ∧ Hid (dig N = dig m ++ suf)) (fun v _ _ => (intOf v).natAbs)
    case atStart => exact ⟨N, [], rfl, rfl, by omega, Below.refl _ _, by simp [Hid]⟩
    case round =>
      obtain ⟨m, suf, rfl, rfl, hm, hB, HD⟩ := hrel
      rename World => wr
      have hcv := conv_row wr.heap.size 0 1 1 [dgt m] [dgt m] 5 (0, 0) (wr.alloc (.cells (byteCells [dgt m]) 5)) (heap_alloc_new _ _) rfl (Nat.le_refl _)
      simp only [byteCells, List.map_cons, List.map_nil, dgt_toNat] at hcv
      have hm10 : 0 ≤ (m : Int) % 10 := by omega
      have hsl : suf.length ≤ 20 := by have h1 := dig_len20 (m := N) (by omega); have h2 := congrArg List.length HD.out; rw [List.length_append] at h2; omega
      have ha1 := fun wx => run_string_add_lists (P := Try.prog) wx [dgt m] suf (by simp) (by omega)
      have ha2 := fun wx => run_string_add_lists (P := Try.prog) wx [45] (dgt m :: suf) (by simp) (by simp; omega)
      have HSL := Lib.hid hsl; clear hsl
      have HDS := Lib.hid (@dig_small m)
      have HDB := Lib.hid (@dig_big m)
      by_cases z : 0 < (m : Int) % 10
      · by_cases small : m < 10
        · go_wp2
          go_ret
          exact ⟨retS (by rw [HD.out, HDS.out small]; rfl), hB.alloc hB.size _⟩
        · go_wp2
          go_roundw
          case rel => exact ⟨m / 10, dgt m :: suf, by go_num, rfl, by omega, hB.alloc hB.size _, Lib.hid (by rw [HD.out, HDB.out small, List.append_assoc]; rfl)⟩
          case measure => simp [intOf]; omega
      · have e : (48 : Int) + -((m : Int) % 10) = 48 + (m : Int) % 10 := by omega
        have hcv2 := hcv
        rw [← e] at hcv2
        have z' : (m : Int) % 10 ≤ 0 := by omega
        clear e z hcv
        by_cases small : m < 10
        · go_wp2
          go_ret
          exact ⟨retS (by rw [HD.out, HDS.out small]; rfl), hB.alloc hB.size _⟩
        · go_wp2
          go_roundw
          case rel => exact ⟨m / 10, dgt m :: suf, by go_num, rfl, by omega, hB.alloc hB.size _, Lib.hid (by rw [HD.out, HDB.out small, List.append_assoc]; rfl)⟩
          case measure => simp [intOf]; omega
  · obtain ⟨N, rfl⟩ : ∃ N : Nat, n = (N : Int) := ⟨n.natAbs, by omega⟩
    have ht : txt (N : Int) = dig N := by unfold txt; rw [if_neg neg, Int.natAbs_natCast]
    have hN := hn.2
    rw [ht]; clear ht
    go_enter Try.func14, Try.ntmps14
    go_wp2
    go_loopw [0, 4] (fun v o wr => ∃ (m : Nat) (suf : List UInt8), v = .int .i64 (m : Int) ∧ o = .string ⟨suf.toArray⟩ ∧ m ≤ 9223372036854775807 ∧ Below w.heap.size w wr ∧ Hid (dig N = dig m ++ suf)) (fun v _ _ => (intOf v).natAbs)
    case atStart => exact ⟨N, [], rfl, rfl, by omega, Below.refl _ _, by simp [Hid]⟩
    case round =>
      obtain ⟨m, suf, rfl, rfl, hm, hB, HD⟩ := hrel
      rename World => wr
      have hcv := conv_row wr.heap.size 0 1 1 [dgt m] [dgt m] 5 (0, 0) (wr.alloc (.cells (byteCells [dgt m]) 5)) (heap_alloc_new _ _) rfl (Nat.le_refl _)
      simp only [byteCells, List.map_cons, List.map_nil, dgt_toNat] at hcv
      have hsl : suf.length ≤ 20 := by have h1 := dig_len20 (m := N) (by omega); have h2 := congrArg List.length HD.out; rw [List.length_append] at h2; omega
      have ha1 := fun wx => run_string_add_lists (P := Try.prog) wx [dgt m] suf (by simp) (by omega)
      have ha2 := fun wx => run_string_add_lists (P := Try.prog) wx [] (dgt m :: suf) (by simp) (by simp; omega)
      have HSL := Lib.hid hsl; clear hsl
      have HDS := Lib.hid (@dig_small m)
      have HDB := Lib.hid (@dig_big m)
      by_cases small : m < 10
      · go_wp2
        go_ret
        exact ⟨retS (by rw [HD.out, HDS.out small]; rfl), hB.alloc hB.size _⟩
      · go_wp2
        go_roundw
        case rel => exact ⟨m / 10, dgt m :: suf, by go_num, rfl, by omega, hB.alloc hB.size _, Lib.hid (by rw [HD.out, HDB.out small, List.append_assoc]; rfl)⟩
        case measure => simp [intOf]; omega

end Go.Proofs.Ytlefjhicjmkonaa
