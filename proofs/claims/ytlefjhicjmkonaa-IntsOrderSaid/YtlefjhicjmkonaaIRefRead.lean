/-
  stagehandref01: digits, Form, Read: reading decimal texts.
-/
import Derived.Test.YtlefjhicjmkonaaIRefLoops
import Derived.Test.YtlefjhicjmkonaaIReadPlain
namespace Go.Proofs.Ytlefjhicjmkonaa
open Go.RowKit

theorem get_list (s : ByteArray) (k : Nat) (h : k < s.size) : s[k] = s.data.toList[k]'(by simpa using h) := rfl
theorem size_list (s : ByteArray) : s.data.toList.length = s.size := Array.length_toList

set_option maxHeartbeats 1000000 in
theorem rdigits_any (s : ByteArray) (w : World) (hs : s.size ≤ maxLen) :
    Calls Try.prog 42 #[.string s] w fun e w' => e = .returned (.bool (dgs s.data.toList)) ∧ w = w' := by
  unfold maxLen at hs
  go_enter Try.func42, Try.ntmps42
  go_wp2
  go_loop [3] (fun i => ∃ k : Nat, k ≤ s.size ∧ i = .int .i64 k ∧ Hid (∀ j (hj : j < s.size), j < k → 48 ≤ s[j].toNat ∧ s[j].toNat ≤ 57) ∧ Hid (1 < k → ∃ h : 0 < s.size, s[0].toNat ≠ 48)) (fun i => s.size - (intOf i).toNat)
  case atStart => exact ⟨0, Nat.zero_le _, rfl, Lib.hid (fun j hj h => by omega), Lib.hid (fun h => by omega)⟩
  case round =>
    obtain ⟨k, hk, rfl, HD, HF⟩ := hrel
    by_cases hlt : k < s.size
    · have hl : k < s.data.toList.length := by rw [size_list]; exact hlt
      by_cases d1 : s[k].toNat < 48
      · have E := Lib.hid (dgs_no_digit k hl (Or.inl d1))
        go_wp2
        go_ret
        exact ⟨retb E.out.symm, rfl⟩
      by_cases d2 : 57 < s[k].toNat
      · have E := Lib.hid (dgs_no_digit k hl (Or.inr d2))
        go_wp2
        go_ret
        exact ⟨retb E.out.symm, rfl⟩
      have HD' : Hid (∀ j (hj : j < s.size), j < k + 1 → 48 ≤ s[j].toNat ∧ s[j].toNat ≤ 57) := Lib.hid (fun j hj h => by
        by_cases e : j = k
        · subst e; omega
        · exact HD.out j hj (by omega))
      by_cases k1 : k = 1
      · subst k1
        by_cases f : s[0].toNat = 48
        · have E := Lib.hid (dgs_no_first hl f)
          have f' : ((s[0].toNat : Int) == 48) = true := by simp [f]
          clear f
          go_wp2
          go_ret
          exact ⟨retb E.out.symm, rfl⟩
        · have f' : ((s[0].toNat : Int) == 48) = false := by rw [beq_eq_false_iff_ne]; omega
          have HF' : Hid (∃ h : 0 < s.size, s[0].toNat ≠ 48) := Lib.hid ⟨by omega, f⟩
          clear f
          go_wp2
          go_round
          case rel => exact ⟨2, by omega, by go_num, HD', Lib.hid (fun _ => HF'.out)⟩
          case measure => simp [intOf]; omega
      · have k1' : ((k : Int) == 1) = false := by rw [beq_eq_false_iff_ne]; omega
        clear k1
        have HF' : Hid (1 < k + 1 → ∃ h : 0 < s.size, s[0].toNat ≠ 48) := Lib.hid (fun h => HF.out (by
          have : (k : Int) ≠ 1 := by simpa using k1'
          omega))
        go_wp2
        go_round
        case rel => exact ⟨k + 1, by omega, by go_num, HD', HF'⟩
        case measure => simp [intOf]; omega
    · by_cases z : s.size = 0
      · have z' : s.data.toList = [] := List.length_eq_zero_iff.1 (by rw [size_list]; exact z)
        have E : Hid (dgs s.data.toList = false) := Lib.hid (by rw [z']; rfl)
        clear z'
        have z2 : ((s.size : Int) == 0) = true := by simp [z]
        have Z := Lib.hid z; clear z
        go_wp2
        go_ret
        exact ⟨retb (by rw [E.out, Z.out]; rfl), rfl⟩
      · have E : Hid (dgs s.data.toList = true) := Lib.hid <| dgs_yes (by rw [size_list]; omega) (fun j hj => HD.out j (by rw [size_list] at hj; exact hj) (by rw [size_list] at hj; omega)) (fun h => (HF.out (by rw [size_list] at h; omega)).2)
        have z2 : 0 < s.size := by omega
        go_wp2
        go_ret
        exact ⟨retb E.out.symm, rfl⟩

theorem extract1_list (s : ByteArray) : (s.extract 1 s.size).data.toList = s.data.toList.drop 1 := by
  rw [ByteArray.data_extract, Array.toList_extract]
  show List.take (s.size - 1) (s.data.toList.drop 1) = _
  rw [List.take_of_length_le (by rw [List.length_drop, size_list]; omega)]
theorem tail_take (s : ByteArray) : List.take (s.size - 1) s.data.toList.tail = s.data.toList.drop 1 := by
  rw [List.drop_one, List.take_of_length_le (by rw [List.length_tail, size_list]; omega)]
theorem extract1_size (s : ByteArray) : (s.extract 1 s.size).size = s.size - 1 := by simp [ByteArray.size_extract]

set_option maxHeartbeats 1000000 in
theorem rform_any (s : ByteArray) (w : World) (hs : s.size ≤ maxLen) :
    Calls Try.prog 33 #[.string s] w fun e w' => e = .returned (.bool (form s.data.toList)) ∧ w = w' := by
  have hs' := hs
  unfold maxLen at hs
  by_cases z : s.size = 0
  · have z' : s.data.toList = [] := List.length_eq_zero_iff.1 (by rw [size_list]; exact z)
    have E : Hid (form s.data.toList = dgs s.data.toList) := Lib.hid (by rw [z']; rfl)
    have z2 : s.size ≤ 0 := by omega
    clear z z'
    go_enter Try.func33, Try.ntmps33
    go_wp2_with (go_at_call 42; refine (rdigits_any _ _ hs').mono ?_; rintro e w1 ⟨rfl, rfl⟩)
    go_ret
    exact ⟨retb E.out.symm, rfl⟩
  have hl : 0 < s.data.toList.length := by rw [size_list]; omega
  have hp : 0 < s.size := by omega
  by_cases c : s[0].toNat = 45
  · have hg : sgn s.data.toList = true := by rw [sgn_of hl]; exact decide_eq_true c
    have HM := Lib.hid (form_neg hg).1
    have c2 : ((s[0].toNat : Int) == 45) = true := by simp [c]
    clear c z hg
    by_cases m : s.data.toList = [45, 48]
    · have E : Hid (form s.data.toList = false) := Lib.hid (by rw [m]; rfl)
      have m2 : (s.toList == [45, 48]) = true := by rw [ByteArray.toList_eq, m]; rfl
      clear m
      go_enter Try.func33, Try.ntmps33
      go_wp2
      go_ret
      exact ⟨retb E.out.symm, rfl⟩
    · have E : Hid (form s.data.toList = dgs (List.take (s.size - 1) s.data.toList.tail)) := Lib.hid (by unfold form; rw [HM.out, tail_take, decide_eq_false m]; simp)
      have m2 : (s.toList == [45, 48]) = false := by rw [ByteArray.toList_eq]; simpa using m
      clear m
      go_enter Try.func33, Try.ntmps33
      go_wp2_with (go_at_call 42; refine (rdigits_any _ _ (by rw [extract1_size]; omega)).mono ?_; rintro e w1 ⟨rfl, rfl⟩)
      go_ret
      exact ⟨retb E.out.symm, rfl⟩
  · have hg : sgn s.data.toList = false := by rw [sgn_of hl]; exact decide_eq_false c
    have HM := Lib.hid (form_pos hg).1
    have c2 : ((s[0].toNat : Int) == 45) = false := by rw [beq_eq_false_iff_ne]; omega
    have E : Hid (form s.data.toList = dgs s.data.toList) := Lib.hid (by
      unfold form; rw [HM.out]
      have : ¬ s.data.toList = [45, 48] := fun e => by rw [e] at hg; exact absurd hg (by decide)
      rw [decide_eq_false this]; simp)
    clear c z hg
    go_enter Try.func33, Try.ntmps33
    go_wp2_with (go_at_call 42; refine (rdigits_any _ _ hs').mono ?_; rintro e w1 ⟨rfl, rfl⟩)
    go_ret
    exact ⟨retb E.out.symm, rfl⟩

end Go.Proofs.Ytlefjhicjmkonaa
