/-
  file.Sum and the reference's Sum: what they compute of any string.
-/
import Derived.Test.YteleaiodkljigaaDoorProg
import Derived.Test.YteleaiodkljigaaDoorFSumPlain
import Derived.WalkKit
import Derived.WalkSpells
import Derived.WalkLawsBesides
import Derived.Handy
import Derived.Lib.Hide
namespace Go.Proofs.YteleaiodkljigaaDoor
open Go.RowKit
theorem size_list (s : ByteArray) : s.data.toList.length = s.size := Array.length_toList
theorem ret1 {k : IntKind} {a b : Int} (h : a = b) : Ending.returned (.int k a) = .returned (.int k b) := by rw [h]

set_option maxHeartbeats 1000000 in
theorem rsum_any (s : ByteArray) (w : World) (hs : s.size ≤ maxLen) :
    Calls Tryd.prog 12 #[.string s] w fun e w' => e = .returned (.int .u32 (crc s.data.toList)) ∧ w = w' := by
  unfold maxLen at hs
  have HL := Lib.hid (size_list s)
  go_enter Tryd.func12, Tryd.ntmps12
  go_wp2
  go_loop [3, 4] (fun n i => ∃ k : Nat, k ≤ s.size ∧ i = .int .i64 k ∧ n = .int .u32 (crcRun (s.data.toList.take k))) (fun _ i => s.size - (intOf i).toNat)
  case atStart => exact ⟨0, Nat.zero_le _, rfl, rfl⟩
  case round =>
    obtain ⟨k, hk, rfl, rfl⟩ := hrel
    have hc := crcRun_lt (s.data.toList.take k)
    by_cases hlt : k < s.size
    · have HST : Hid (crcRun (s.data.toList.take (k + 1)) = upd (crcRun (s.data.toList.take k)) s[k]) := Lib.hid (crcRun_take (by rw [HL.out]; exact hlt))
      generalize crcRun (s.data.toList.take k) = c at *
      have hx := bits_xor_u32_nat c s[k].toNat hc (byte_lt _)
      have hcx := xor_lt hc (byte_lt s[k])
      have hb : s[k].toNat < 256 := s[k].toNat_lt
      generalize hx0 : c ^^^ s[k].toNat = x at *
      have HX0 := Lib.hid hx0; clear hx0
      go_wp2
      go_loop [3, 5] (fun n i => ∃ j : Nat, j ≤ 8 ∧ i = .int .i64 j ∧ n = .int .u32 (steps j x)) (fun _ i => 8 - (intOf i).toNat)
      case atStart => exact ⟨0, Nat.zero_le _, rfl, rfl⟩
      case round =>
        obtain ⟨j, hj, rfl, rfl⟩ := hrel
        have hm := steps_lt j hcx
        by_cases hlj : j < 8
        · have HS : Hid (steps (j + 1) x = step (steps j x)) := Lib.hid (steps_snoc j x)
          generalize steps j x = m at *
          by_cases par : m % 2 = 1
          · have hst : Hid (step m = (m / 2) ^^^ 3988292384) := Lib.hid (by unfold step; rw [if_pos par])
            have hp : ((m : Int) % 2 == 1) = true := by rw [beq_iff_eq]; omega
            have hx2 : bits .xor .u32 ((m : Int) / 2) 3988292384 = (((m / 2) ^^^ 3988292384 : Nat) : Int) := bits_xor_u32_nat (m / 2) 3988292384 (by omega) (by decide)
            clear par
            go_wp2
            go_round
            case rel => exact ⟨j + 1, by omega, by go_num, by rw [HS.out, hst.out]⟩
            case measure => simp [intOf]; omega
          · have hst : Hid (step m = m / 2) := Lib.hid (by unfold step; rw [if_neg par])
            have hp : ((m : Int) % 2 == 1) = false := by rw [beq_eq_false_iff_ne]; omega
            clear par
            go_wp2
            go_round
            case rel => exact ⟨j + 1, by omega, by go_num, by rw [HS.out, hst.out]; go_num⟩
            case measure => simp [intOf]; omega
        · have e8 : j = 8 := by omega
          subst e8
          have HU : Hid (upd c s[k] = steps 8 x) := Lib.hid (by unfold upd; rw [HX0.out])
          go_wp2
          go_round
          case rel => exact ⟨k + 1, by omega, by go_num, by rw [HST.out, HU.out]⟩
          case measure => simp [intOf]; omega
    · have hf : Hid (s.data.toList.take k = s.data.toList) := Lib.hid (by rw [List.take_of_length_le (by rw [HL.out]; omega)])
      go_wp2
      go_ret
      exact ⟨ret1 (by rw [hf.out]; exact bits_xor_u32_nat (crcRun s.data.toList) 4294967295 (crcRun_lt _) (by decide)), rfl⟩

set_option maxHeartbeats 1000000 in
theorem sum_any (s : ByteArray) (w : World) (hs : s.size ≤ maxLen) :
    Calls Tryd.prog 11 #[.string s] w fun e w' => e = .returned (.int .u32 (crc s.data.toList)) ∧ Below w.heap.size w w' := by
  unfold maxLen at hs
  have HL := Lib.hid (size_list s)
  go_enter Tryd.func11, Tryd.ntmps11
  go_wp2
  have htab : ∀ (w1 : World), w1 = w → ∀ r, r < 16 → (w1.alloc (.cells #[.int .u32 0, .int .u32 498536548, .int .u32 997073096, .int .u32 651767980, .int .u32 1994146192, .int .u32 1802195444, .int .u32 1303535960, .int .u32 1342533948, .int .u32 3988292384, .int .u32 4027552580, .int .u32 3604390888, .int .u32 3412177804, .int .u32 2607071920, .int .u32 2262029012, .int .u32 2685067896, .int .u32 3183342108] 42)).cell? ⟨w1.heap.size, r, none⟩ = some (.int .u32 (tab r)) := fun w1 _ r hr => by
    rw [World.cell?_alloc_at _ _ _ _ rfl]
    match r, hr with
    | 0, _ => rfl
    | 1, _ => rfl
    | 2, _ => rfl
    | 3, _ => rfl
    | 4, _ => rfl
    | 5, _ => rfl
    | 6, _ => rfl
    | 7, _ => rfl
    | 8, _ => rfl
    | 9, _ => rfl
    | 10, _ => rfl
    | 11, _ => rfl
    | 12, _ => rfl
    | 13, _ => rfl
    | 14, _ => rfl
    | 15, _ => rfl
    | r + 16, h => exact absurd h (by omega)
  have HB := Lib.hid (htab w rfl)
  clear htab
  generalize hW : w.alloc _ = W at *
  have hbel : Below w.heap.size w W := by rw [← hW]; exact (Below.refl _ _).alloc (Nat.le_refl _) _
  have HW := Lib.hid hW; clear hW
  go_loop [4, 5] (fun n i => ∃ k : Nat, k ≤ s.size ∧ i = .int .i64 k ∧ n = .int .u32 (crcRun (s.data.toList.take k))) (fun _ i => s.size - (intOf i).toNat)
  case atStart => exact ⟨0, Nat.zero_le _, rfl, rfl⟩
  case round =>
    obtain ⟨k, hk, rfl, rfl⟩ := hrel
    have hc := crcRun_lt (s.data.toList.take k)
    by_cases hlt : k < s.size
    · have HST : Hid (crcRun (s.data.toList.take (k + 1)) = upd (crcRun (s.data.toList.take k)) s[k]) := Lib.hid (crcRun_take (by rw [HL.out]; exact hlt))
      generalize crcRun (s.data.toList.take k) = c at *
      have hx := bits_xor_u32_nat c s[k].toNat hc (byte_lt _)
      have hcx := xor_lt hc (byte_lt s[k])
      have hb : s[k].toNat < 256 := s[k].toNat_lt
      generalize hx0 : c ^^^ s[k].toNat = x at *
      have HX0 := Lib.hid hx0; clear hx0
      have HS1 : Hid (steps 4 x = (x / 16) ^^^ tab (x % 16)) := Lib.hid (steps4 x)
      have hc1 := HB.out (x % 16) (Nat.mod_lt _ (by decide))
      have ha1 := bits_and15 x hcx
      have hr1 : x % 16 < 16 := Nat.mod_lt _ (by decide)
      have ht1 := tab_lt (x % 16) hr1
      generalize x % 16 = r1 at *
      generalize tab r1 = t1 at *
      have hx1 : bits .xor .u32 ((x : Int) / 16) (t1 : Int) = (((x / 16) ^^^ t1 : Nat) : Int) := bits_xor_u32_nat (x / 16) t1 (by omega) ht1
      have hcy : (x / 16) ^^^ t1 < 4294967296 := xor_lt (by omega) ht1
      generalize (x / 16) ^^^ t1 = y at *
      have HS2 : Hid (steps 4 y = (y / 16) ^^^ tab (y % 16)) := Lib.hid (steps4 y)
      have hc2 := HB.out (y % 16) (Nat.mod_lt _ (by decide))
      have ha2 := bits_and15 y hcy
      have hr2 : y % 16 < 16 := Nat.mod_lt _ (by decide)
      have ht2 := tab_lt (y % 16) hr2
      generalize y % 16 = r2 at *
      generalize tab r2 = t2 at *
      have hx2 : bits .xor .u32 ((y : Int) / 16) (t2 : Int) = (((y / 16) ^^^ t2 : Nat) : Int) := bits_xor_u32_nat (y / 16) t2 (by omega) ht2
      have HU : Hid (upd c s[k] = (y / 16) ^^^ t2) := Lib.hid (by rw [upd_two, HX0.out, HS1.out, HS2.out])
      go_wp2
      go_round
      case rel => exact ⟨k + 1, by omega, by go_num, by rw [HST.out, HU.out]⟩
      case measure => simp [intOf]; omega
    · have hf : Hid (s.data.toList.take k = s.data.toList) := Lib.hid (by rw [List.take_of_length_le (by rw [HL.out]; omega)])
      go_wp2
      go_ret
      exact ⟨ret1 (by rw [hf.out]; exact bits_not (crcRun s.data.toList) (crcRun_lt _)), hbel⟩

end Go.Proofs.YteleaiodkljigaaDoor
