/-
  The document's names and classes: the walks. The reference's zero, bare, between: the walks (printed by gen_rterm1.py). The reference's bits, Whole: the walks.
-/
import Derived.Test.YthmpobimmbmddaaGreatDoorB01
import Derived.Test.YthmpobimmbmddaaGreatDoorB08
import Derived.Test.YthmpobimmbmddaaGreatDoorB09
import Derived.Test.YthmpobimmbmddaaGreatDoorB10
import Derived.Test.YthmpobimmbmddaaGreatDoorB12
namespace Go.Proofs.YthmpobimmbmddaaGreatDoor
open Go.RowKit
set_option linter.unusedVariables false
set_option linter.unusedSimpArgs false

theorem okAt_pos {k b : Nat} (hk : 0 < k) : okAt k b = decide (97 ≤ b ∧ b ≤ 122 ∨ 65 ≤ b ∧ b ≤ 90 ∨ 48 ≤ b ∧ b ≤ 57 ∨ b = 95 ∨ b = 64) := by
  unfold okAt
  rw [decide_eq_decide]
  constructor
  · rintro (h | ⟨_, h⟩)
    · exact .inl h
    · exact .inr h
  · rintro (h | h)
    · exact .inl h
    · exact .inr ⟨hk, h⟩
theorem okAt_zero (b : Nat) : okAt 0 b = decide (97 ≤ b ∧ b ≤ 122) := by
  unfold okAt
  rw [decide_eq_decide]
  constructor
  · rintro (h | ⟨h, _⟩)
    · exact h
    · omega
  · exact .inl
set_option maxRecDepth 100000 in
set_option maxHeartbeats 4000000 in
theorem rname_any (s : ByteArray) (w : World) (hs : s.size ≤ maxLen) : Calls Tryz.prog 23 #[.string s] w fun e w' => e = .returned (.bool (nameB s)) ∧ w = w' := by
  unfold maxLen at hs
  by_cases h0 : s.size < 1
  · have E : Hid (nameB s = false) := Lib.hid (nameB_len (by omega))
    go_enter Tryz.func23, Tryz.ntmps23
    go_wp2_with fail
    go_ret
    exact ⟨retb E.out.symm, rfl⟩
  · by_cases h1 : 32 < s.size
    · have E : Hid (nameB s = false) := Lib.hid (nameB_len (by omega))
      go_enter Tryz.func23, Tryz.ntmps23
      go_wp2_with fail
      go_ret
      exact ⟨retb E.out.symm, rfl⟩
    · have hpos : 0 < s.size := by omega
      have HB := Lib.hid (@nameB_bad s 0 hpos)
      have HZ := Lib.hid (okAt_zero (s[0]'hpos).toNat)
      by_cases c0 : (s[0]'hpos).toNat < 97
      · have E : Hid (nameB s = false) := Lib.hid (HB.out (by rw [HZ.out]; exact decide_eq_false (by omega)))
        go_enter Tryz.func23, Tryz.ntmps23
        go_wp2_with fail
        go_ret
        exact ⟨retb E.out.symm, rfl⟩
      · by_cases c1 : 122 < (s[0]'hpos).toNat
        · have E : Hid (nameB s = false) := Lib.hid (HB.out (by rw [HZ.out]; exact decide_eq_false (by omega)))
          go_enter Tryz.func23, Tryz.ntmps23
          go_wp2_with fail
          go_ret
          exact ⟨retb E.out.symm, rfl⟩
        · have HK0 : Hid (∀ j (h : j < s.size), j < 1 → okAt j s[j].toNat = true) := Lib.hid (fun j h hj => by
            obtain rfl : j = 0 := by omega
            rw [HZ.out]; exact decide_eq_true (by omega))
          go_enter Tryz.func23, Tryz.ntmps23
          go_wp2_with fail
          go_loop [3] (fun iv => ∃ k : Nat, 1 ≤ k ∧ k ≤ s.size ∧ iv = .int .i64 k ∧ Hid (∀ j (h : j < s.size), j < k → okAt j s[j].toNat = true)) (fun iv => s.size - (intOf iv).toNat)
          case atStart => exact ⟨1, Nat.le_refl _, by omega, by go_num, HK0⟩
          case round =>
            obtain ⟨k, hk1, hk, rfl, HK⟩ := hrel
            clear c0 c1
            by_cases hlt : k < s.size
            · have HP := Lib.hid (okAt_pos (b := s[k].toNat) hk1)
              have HBK := Lib.hid (@nameB_bad s k hlt)
              have HN : Hid (okAt k s[k].toNat = true → ∀ j (h : j < s.size), j < k + 1 → okAt j s[j].toNat = true) := Lib.hid (fun hne j h hj => by
                rcases Nat.eq_or_lt_of_le (Nat.le_of_lt_succ hj) with e | e
                · subst e; exact hne
                · exact HK.out j h e)
              go_upto_region 7 with fail
              generalize s[k].toNat = b at *
              have hcl : (97 ≤ b ∧ b ≤ 122) ∨ (65 ≤ b ∧ b ≤ 90) ∨ (48 ≤ b ∧ b ≤ 57) ∨ (b = 95) ∨ (b = 64) ∨ (123 ≤ b) ∨ (91 ≤ b ∧ b ≤ 96 ∧ b ≠ 95) ∨ (58 ≤ b ∧ b ≤ 63) ∨ (b < 48) := by omega
              rcases hcl with hc | hc | hc | hc | hc | hc | hc | hc | hc
              · have e0 : decide ((97 : Int) ≤ (b : Int)) = true := decide_eq_true (by omega)
                have e1 : decide ((b : Int) ≤ 122) = true := decide_eq_true (by omega)
                have e2 : decide ((65 : Int) ≤ (b : Int)) = true := decide_eq_true (by omega)
                have e3 : decide ((b : Int) ≤ 90) = false := decide_eq_false (by omega)
                have e4 : decide ((48 : Int) ≤ (b : Int)) = true := decide_eq_true (by omega)
                have e5 : decide ((b : Int) ≤ 57) = false := decide_eq_false (by omega)
                have e6 : ((b : Int) != 95) = true := by rw [bne_iff_ne]; omega
                have e7 : ((b : Int) != 64) = true := by rw [bne_iff_ne]; omega
                have HN2 := Lib.hid (HN.out (by rw [HP.out]; exact decide_eq_true (by omega)))
                clear hc HP HBK HN
                go_wp2_with fail
                go_round
                case rel => exact ⟨k + 1, by omega, by omega, by go_num, HN2⟩
                case measure => simp [intOf]; omega
              · have e0 : decide ((97 : Int) ≤ (b : Int)) = false := decide_eq_false (by omega)
                have e1 : decide ((b : Int) ≤ 122) = true := decide_eq_true (by omega)
                have e2 : decide ((65 : Int) ≤ (b : Int)) = true := decide_eq_true (by omega)
                have e3 : decide ((b : Int) ≤ 90) = true := decide_eq_true (by omega)
                have e4 : decide ((48 : Int) ≤ (b : Int)) = true := decide_eq_true (by omega)
                have e5 : decide ((b : Int) ≤ 57) = false := decide_eq_false (by omega)
                have e6 : ((b : Int) != 95) = true := by rw [bne_iff_ne]; omega
                have e7 : ((b : Int) != 64) = true := by rw [bne_iff_ne]; omega
                have HN2 := Lib.hid (HN.out (by rw [HP.out]; exact decide_eq_true (by omega)))
                clear hc HP HBK HN
                go_wp2_with fail
                go_round
                case rel => exact ⟨k + 1, by omega, by omega, by go_num, HN2⟩
                case measure => simp [intOf]; omega
              · have e0 : decide ((97 : Int) ≤ (b : Int)) = false := decide_eq_false (by omega)
                have e1 : decide ((b : Int) ≤ 122) = true := decide_eq_true (by omega)
                have e2 : decide ((65 : Int) ≤ (b : Int)) = false := decide_eq_false (by omega)
                have e3 : decide ((b : Int) ≤ 90) = true := decide_eq_true (by omega)
                have e4 : decide ((48 : Int) ≤ (b : Int)) = true := decide_eq_true (by omega)
                have e5 : decide ((b : Int) ≤ 57) = true := decide_eq_true (by omega)
                have e6 : ((b : Int) != 95) = true := by rw [bne_iff_ne]; omega
                have e7 : ((b : Int) != 64) = true := by rw [bne_iff_ne]; omega
                have HN2 := Lib.hid (HN.out (by rw [HP.out]; exact decide_eq_true (by omega)))
                clear hc HP HBK HN
                go_wp2_with fail
                go_round
                case rel => exact ⟨k + 1, by omega, by omega, by go_num, HN2⟩
                case measure => simp [intOf]; omega
              · have e0 : decide ((97 : Int) ≤ (b : Int)) = false := decide_eq_false (by omega)
                have e1 : decide ((b : Int) ≤ 122) = true := decide_eq_true (by omega)
                have e2 : decide ((65 : Int) ≤ (b : Int)) = true := decide_eq_true (by omega)
                have e3 : decide ((b : Int) ≤ 90) = false := decide_eq_false (by omega)
                have e4 : decide ((48 : Int) ≤ (b : Int)) = true := decide_eq_true (by omega)
                have e5 : decide ((b : Int) ≤ 57) = false := decide_eq_false (by omega)
                have e6 : ((b : Int) != 95) = false := by rw [bne_eq_false_iff_eq]; omega
                have e7 : ((b : Int) != 64) = true := by rw [bne_iff_ne]; omega
                have HN2 := Lib.hid (HN.out (by rw [HP.out]; exact decide_eq_true (by omega)))
                clear hc HP HBK HN
                go_wp2_with fail
                go_round
                case rel => exact ⟨k + 1, by omega, by omega, by go_num, HN2⟩
                case measure => simp [intOf]; omega
              · have e0 : decide ((97 : Int) ≤ (b : Int)) = false := decide_eq_false (by omega)
                have e1 : decide ((b : Int) ≤ 122) = true := decide_eq_true (by omega)
                have e2 : decide ((65 : Int) ≤ (b : Int)) = false := decide_eq_false (by omega)
                have e3 : decide ((b : Int) ≤ 90) = true := decide_eq_true (by omega)
                have e4 : decide ((48 : Int) ≤ (b : Int)) = true := decide_eq_true (by omega)
                have e5 : decide ((b : Int) ≤ 57) = false := decide_eq_false (by omega)
                have e6 : ((b : Int) != 95) = true := by rw [bne_iff_ne]; omega
                have e7 : ((b : Int) != 64) = false := by rw [bne_eq_false_iff_eq]; omega
                have HN2 := Lib.hid (HN.out (by rw [HP.out]; exact decide_eq_true (by omega)))
                clear hc HP HBK HN
                go_wp2_with fail
                go_round
                case rel => exact ⟨k + 1, by omega, by omega, by go_num, HN2⟩
                case measure => simp [intOf]; omega
              · have e0 : decide ((97 : Int) ≤ (b : Int)) = true := decide_eq_true (by omega)
                have e1 : decide ((b : Int) ≤ 122) = false := decide_eq_false (by omega)
                have e2 : decide ((65 : Int) ≤ (b : Int)) = true := decide_eq_true (by omega)
                have e3 : decide ((b : Int) ≤ 90) = false := decide_eq_false (by omega)
                have e4 : decide ((48 : Int) ≤ (b : Int)) = true := decide_eq_true (by omega)
                have e5 : decide ((b : Int) ≤ 57) = false := decide_eq_false (by omega)
                have e6 : ((b : Int) != 95) = true := by rw [bne_iff_ne]; omega
                have e7 : ((b : Int) != 64) = true := by rw [bne_iff_ne]; omega
                have E : Hid (nameB s = false) := Lib.hid (HBK.out (by rw [HP.out]; exact decide_eq_false (by omega)))
                clear hc HP HBK HN
                go_wp2_with fail
                go_ret
                exact ⟨retb E.out.symm, rfl⟩
              · have e0 : decide ((97 : Int) ≤ (b : Int)) = false := decide_eq_false (by omega)
                have e1 : decide ((b : Int) ≤ 122) = true := decide_eq_true (by omega)
                have e2 : decide ((65 : Int) ≤ (b : Int)) = true := decide_eq_true (by omega)
                have e3 : decide ((b : Int) ≤ 90) = false := decide_eq_false (by omega)
                have e4 : decide ((48 : Int) ≤ (b : Int)) = true := decide_eq_true (by omega)
                have e5 : decide ((b : Int) ≤ 57) = false := decide_eq_false (by omega)
                have e6 : ((b : Int) != 95) = true := by rw [bne_iff_ne]; omega
                have e7 : ((b : Int) != 64) = true := by rw [bne_iff_ne]; omega
                have E : Hid (nameB s = false) := Lib.hid (HBK.out (by rw [HP.out]; exact decide_eq_false (by omega)))
                clear hc HP HBK HN
                go_wp2_with fail
                go_ret
                exact ⟨retb E.out.symm, rfl⟩
              · have e0 : decide ((97 : Int) ≤ (b : Int)) = false := decide_eq_false (by omega)
                have e1 : decide ((b : Int) ≤ 122) = true := decide_eq_true (by omega)
                have e2 : decide ((65 : Int) ≤ (b : Int)) = false := decide_eq_false (by omega)
                have e3 : decide ((b : Int) ≤ 90) = true := decide_eq_true (by omega)
                have e4 : decide ((48 : Int) ≤ (b : Int)) = true := decide_eq_true (by omega)
                have e5 : decide ((b : Int) ≤ 57) = false := decide_eq_false (by omega)
                have e6 : ((b : Int) != 95) = true := by rw [bne_iff_ne]; omega
                have e7 : ((b : Int) != 64) = true := by rw [bne_iff_ne]; omega
                have E : Hid (nameB s = false) := Lib.hid (HBK.out (by rw [HP.out]; exact decide_eq_false (by omega)))
                clear hc HP HBK HN
                go_wp2_with fail
                go_ret
                exact ⟨retb E.out.symm, rfl⟩
              · have e0 : decide ((97 : Int) ≤ (b : Int)) = false := decide_eq_false (by omega)
                have e1 : decide ((b : Int) ≤ 122) = true := decide_eq_true (by omega)
                have e2 : decide ((65 : Int) ≤ (b : Int)) = false := decide_eq_false (by omega)
                have e3 : decide ((b : Int) ≤ 90) = true := decide_eq_true (by omega)
                have e4 : decide ((48 : Int) ≤ (b : Int)) = false := decide_eq_false (by omega)
                have e5 : decide ((b : Int) ≤ 57) = true := decide_eq_true (by omega)
                have e6 : ((b : Int) != 95) = true := by rw [bne_iff_ne]; omega
                have e7 : ((b : Int) != 64) = true := by rw [bne_iff_ne]; omega
                have E : Hid (nameB s = false) := Lib.hid (HBK.out (by rw [HP.out]; exact decide_eq_false (by omega)))
                clear hc HP HBK HN
                go_wp2_with fail
                go_ret
                exact ⟨retb E.out.symm, rfl⟩
            · have E : Hid (nameB s = true) := Lib.hid (nameB_good hpos (by omega) (fun j h => HK.out j h (by omega)))
              go_wp2_with fail
              go_ret
              exact ⟨retb E.out.symm, rfl⟩

set_option maxRecDepth 100000 in
set_option maxHeartbeats 4000000 in
theorem holds_any (s p : ByteArray) (w : World) (hs : s.size ≤ 100000) (hp : p.size ≤ 100000) :
    Calls Tryz.prog 24 #[.string s, .string p] w fun e w' => e = .returned (.bool (holdsB s.data.toList p.data.toList)) ∧ w = w' := by
  have hsl : s.data.toList.length = s.size := by simp
  have hpl : p.data.toList.length = p.size := by simp
  have HY : Hid (∀ k, k + p.size ≤ s.size → (s.data.toList.drop k).take p.size = p.data.toList → holdsB s.data.toList p.data.toList = true) := Lib.hid (fun k hk h => by
    unfold holdsB; exact decide_eq_true ⟨k, by omega, by omega, by rw [hpl]; exact h⟩)
  have HN : Hid ((∀ j, j + p.size ≤ s.size → (s.data.toList.drop j).take p.size ≠ p.data.toList) → holdsB s.data.toList p.data.toList = false) := Lib.hid (fun h => by
    unfold holdsB; refine decide_eq_false ?_
    rintro ⟨i, _, h2, h3⟩
    rw [hpl] at h2 h3
    exact h i (by omega) h3)
  clear hsl hpl
  generalize holdsB s.data.toList p.data.toList = r at *
  go_enter Tryz.func24, Tryz.ntmps24
  go_wp2_with fail
  go_loop [5] (fun iv => ∃ k : Nat, k ≤ s.size + 1 ∧ iv = .int .i64 k ∧ Hid (∀ j, j < k → j + p.size ≤ s.size → (s.data.toList.drop j).take p.size ≠ p.data.toList)) (fun iv => s.size + 1 - (intOf iv).toNat)
  case atStart => exact ⟨0, Nat.zero_le _, rfl, Lib.hid (fun j h => absurd h (Nat.not_lt_zero _))⟩
  case round =>
    obtain ⟨k, hk, rfl, HK⟩ := hrel
    by_cases hlt : k + p.size ≤ s.size
    · have hsub : (s.extract k (k + p.size)).toList = (s.data.toList.drop k).take p.size := by
        rw [ByteArray.toList_eq, Lib.extract_data]
        rw [show k + p.size - k = p.size by omega]
      have HSUB := Lib.hid hsub
      have HSN : Hid ((s.data.toList.drop k).take p.size ≠ p.data.toList → ∀ j, j < k + 1 → j + p.size ≤ s.size → (s.data.toList.drop j).take p.size ≠ p.data.toList) := Lib.hid (fun hne j hj hjs => by
        rcases Nat.eq_or_lt_of_le (Nat.le_of_lt_succ hj) with e | e
        · subst e; exact hne
        · exact HK.out j e hjs)
      clear hsub
      by_cases he : (s.data.toList.drop k).take p.size = p.data.toList
      · have E : Hid (r = true) := Lib.hid (HY.out k hlt he)
        have ht : ((s.extract k (k + p.size)).toList == p.toList) = true := by rw [HSUB.out, he, ByteArray.toList_eq]; exact beq_self_eq_true _
        clear he
        go_wp2_with fail
        go_ret
        exact ⟨retb E.out.symm, rfl⟩
      · have HN2 := Lib.hid (HSN.out he)
        have ht : ((s.extract k (k + p.size)).toList == p.toList) = false := by rw [HSUB.out, ByteArray.toList_eq, beq_eq_false_iff_ne]; exact he
        clear he
        go_wp2_with fail
        go_round
        case rel => exact ⟨k + 1, by omega, by go_num, HN2⟩
        case measure => simp [intOf]; omega
    · have E : Hid (r = false) := Lib.hid (HN.out (fun j hj => HK.out j (by omega) hj))
      go_wp2_with fail
      go_ret
      exact ⟨retb E.out.symm, rfl⟩

/-- The texts of the classes. -/
def namesS (c : Nat) : ByteArray := ⟨(namesR c).toArray⟩
set_option maxRecDepth 100000 in
theorem names_text (c : Nat) (h : 1 ≤ c ∧ c ≤ 4) (w : World) : Calls Tryz.prog 25 #[.int .i64 c] w fun e w' => e = .returned (.string (namesS c)) ∧ w = w' := by
  rcases (show c = 1 ∨ c = 2 ∨ c = 3 ∨ c = 4 by omega) with rfl | rfl | rfl | rfl
  all_goals
    go_enter Tryz.func25, Tryz.ntmps25
    go_wp2_with fail
    go_ret
    exact ⟨by kernel_rfl, rfl⟩
theorem namesS_size : ∀ c, c ≤ 4 → (namesS c).size ≤ 1000 := by decide +kernel

theorem roper_eq (s : ByteArray) (n : Int) : operB s n = (if n = 1 then (s.toList == [45] || (s.toList == [98, 110, 111, 116] || s.toList == [110, 111, 116])) else if n = 2 then (s.toList == [45] || opTwo.any (fun x => s.toList == x)) else false) := by
  unfold operB
  by_cases a : (s.toList == [45]) = true
  · rw [if_pos a, a]
    by_cases h1 : n = 1
    · subst h1; rfl
    · rw [if_neg h1]
      by_cases h2 : n = 2
      · subst h2; rfl
      · rw [if_neg h2, beq_eq_false_iff_ne.2 h1, beq_eq_false_iff_ne.2 h2]; rfl
  · rw [if_neg a]
    have a' : (s.toList == [45]) = false := by simpa using a
    rw [a', Bool.false_or, Bool.false_or]
    by_cases b : (s.toList == [98, 110, 111, 116] || s.toList == [110, 111, 116]) = true
    · rw [if_pos b, b]
      by_cases h1 : n = 1
      · subst h1; rfl
      · rw [if_neg h1, beq_eq_false_iff_ne.2 h1]
        by_cases h2 : n = 2
        · rw [if_pos h2]
          symm
          rw [Bool.or_eq_true] at b
          rw [List.any_eq_false]
          intro x hx
          rcases b with b | b
          · rw [eq_of_beq b]
            have : opTwo.all (fun x => !([98, 110, 111, 116] == x)) = true := by decide
            have := List.all_eq_true.1 this x hx
            simpa using this
          · rw [eq_of_beq b]
            have : opTwo.all (fun x => !([110, 111, 116] == x)) = true := by decide
            have := List.all_eq_true.1 this x hx
            simpa using this
        · rw [if_neg h2]
    · rw [if_neg b]
      have b' : (s.toList == [98, 110, 111, 116] || s.toList == [110, 111, 116]) = false := by simpa using b
      rw [b']
      by_cases h1 : n = 1
      · subst h1
        rw [if_pos rfl]
        split <;> rfl
      · rw [if_neg h1]
        by_cases h2 : n = 2
        · subst h2
          rw [if_pos rfl]
          split
          · rename_i h; rw [h]; rfl
          · rename_i h; rw [Bool.eq_false_iff.2 h]
        · rw [if_neg h2]
          split
          · exact beq_eq_false_iff_ne.2 h2
          · rfl
end Go.Proofs.YthmpobimmbmddaaGreatDoor
namespace Go.Proofs.YthmpobimmbmddaaGreatDoor
open Go.RowKit
set_option linter.unusedVariables false
set_option linter.unusedSimpArgs false

set_option maxRecDepth 100000 in
theorem rbetween_any (n a b : Int) (w : World) : Calls Tryz.prog 135 #[.int .i64 n, .int .i64 a, .int .i64 b] w fun e w' => e = .returned (.bool (wi n a b)) ∧ w = w' := by
  by_cases h : a ≤ n
  · by_cases h' : n ≤ b
    · have E := Lib.hid (wi_yes h h')
      go_enter Tryz.func135, Tryz.ntmps135
      go_wp2
      go_ret
      exact ⟨retb E.out.symm, rfl⟩
    · have E : Hid (wi n a b = false) := Lib.hid (wi_no (by omega))
      go_enter Tryz.func135, Tryz.ntmps135
      go_wp2
      go_ret
      exact ⟨retb E.out.symm, rfl⟩
  · have E : Hid (wi n a b = false) := Lib.hid (wi_no (by omega))
    go_enter Tryz.func135, Tryz.ntmps135
    go_wp2
    go_ret
    exact ⟨retb E.out.symm, rfl⟩
/-- Are all fields zero? -/
def allZ (k i g : Int) (n f : ByteArray) (a : Int) (l : Nat) (y : ByteArray) (z : Int) : Bool := zI k && (zI i && (zI g && (zS n && (zS f && (zI a && (decide (l = 0) && (zS y && zI z)))))))
theorem allZ_left (t : Tm) : allZ 0 (leftT t).int (leftT t).gen (leftT t).name (leftT t).func (leftT t).arity (leftT t).items.length (leftT t).bytes (leftT t).bits = sameF 1 (left0 t) zeroTm := by
  rw [same_zero]
  unfold allZ left0 zL
  simp only [Tm.kind, Tm.int, Tm.gen, Tm.name, Tm.func, Tm.arity, Tm.items, Tm.bytes, Tm.bits]
  ac_rfl
theorem loc_all (t : Tm) : (okK t && allZ 0 (leftT t).int (leftT t).gen (leftT t).name (leftT t).func (leftT t).arity (leftT t).items.length (leftT t).bytes (leftT t).bits) = locB t := by rw [allZ_left]; exact loc_of 0 t
theorem zS_nilList (s : ByteArray) : (s.toList == []) = zS s := by
  have := zS_is s
  rw [ByteArray.toList_eq (ByteArray.mk #[])] at this
  exact this
set_option maxRecDepth 100000 in
set_option maxHeartbeats 4000000 in
theorem rzero_any (k i g : Int) (n f : ByteArray) (a : Int) (so : Option Addr) (l c : Nat) (y : ByteArray) (z : Int) (w : World) (hl : l ≤ 9223372036854775807) :
    Calls Tryz.prog 133 #[.agg #[.int .i64 k, .int .i64 i, .int .i64 g, .string n, .string f, .int .i64 a, .slice so l c, .string y, .int .i64 z]] w fun e w' => e = .returned (.bool (allZ k i g n f a l y z)) ∧ Below w.heap.size w w' := by
  have HB := Lib.hid ((Below.refl w.heap.size w).alloc (Nat.le_refl _) (.cells #[.int .i64 k, .int .i64 i, .int .i64 g, .string n, .string f, .int .i64 a, .slice so l c, .string y, .int .i64 z] 28))
  have HZ : Hid (allZ k i g n f a l y z = (zI k && (zI i && (zI g && (zS n && (zS f && (zI a && (decide (l = 0) && (zS y && zI z))))))))) := Lib.hid rfl
  generalize allZ k i g n f a l y z = r at *
  cases h0 : zI k with
  | false =>
    have t0 : (k == 0) = false := (zI_is k).trans h0
    have E : Hid (r = false) := Lib.hid (by rw [HZ.out, h0]; rfl)
    clear h0
    go_enter Tryz.func133, Tryz.ntmps133
    go_wp2_with fail
    go_ret
    exact ⟨retb E.out.symm, HB.out⟩
  | true =>
    have t0 : (k == 0) = true := (zI_is k).trans h0
    cases h1 : zI i with
    | false =>
      have t1 : (i == 0) = false := (zI_is i).trans h1
      have E : Hid (r = false) := Lib.hid (by rw [HZ.out, h0, h1]; rfl)
      clear h0 h1
      go_enter Tryz.func133, Tryz.ntmps133
      go_wp2_with fail
      go_ret
      exact ⟨retb E.out.symm, HB.out⟩
    | true =>
      have t1 : (i == 0) = true := (zI_is i).trans h1
      cases h2 : zI g with
      | false =>
        have t2 : (g == 0) = false := (zI_is g).trans h2
        have E : Hid (r = false) := Lib.hid (by rw [HZ.out, h0, h1, h2]; rfl)
        clear h0 h1 h2
        go_enter Tryz.func133, Tryz.ntmps133
        go_wp2_with fail
        go_ret
        exact ⟨retb E.out.symm, HB.out⟩
      | true =>
        have t2 : (g == 0) = true := (zI_is g).trans h2
        cases h3 : zS n with
        | false =>
          have t3 : (n.toList == []) = false := (zS_nilList n).trans h3
          have u3 : n.toList.isEmpty = false := by rw [← t3]; cases n.toList <;> rfl
          have E : Hid (r = false) := Lib.hid (by rw [HZ.out, h0, h1, h2, h3]; rfl)
          clear h0 h1 h2 h3
          go_enter Tryz.func133, Tryz.ntmps133
          go_wp2_with fail
          go_ret
          exact ⟨retb E.out.symm, HB.out⟩
        | true =>
          have t3 : (n.toList == []) = true := (zS_nilList n).trans h3
          have u3 : n.toList.isEmpty = true := by rw [← t3]; cases n.toList <;> rfl
          cases h4 : zS f with
          | false =>
            have t4 : (f.toList == []) = false := (zS_nilList f).trans h4
            have u4 : f.toList.isEmpty = false := by rw [← t4]; cases f.toList <;> rfl
            have E : Hid (r = false) := Lib.hid (by rw [HZ.out, h0, h1, h2, h3, h4]; rfl)
            clear h0 h1 h2 h3 h4
            go_enter Tryz.func133, Tryz.ntmps133
            go_wp2_with fail
            go_ret
            exact ⟨retb E.out.symm, HB.out⟩
          | true =>
            have t4 : (f.toList == []) = true := (zS_nilList f).trans h4
            have u4 : f.toList.isEmpty = true := by rw [← t4]; cases f.toList <;> rfl
            cases h5 : zI a with
            | false =>
              have t5 : (a == 0) = false := (zI_is a).trans h5
              have E : Hid (r = false) := Lib.hid (by rw [HZ.out, h0, h1, h2, h3, h4, h5]; rfl)
              clear h0 h1 h2 h3 h4 h5
              go_enter Tryz.func133, Tryz.ntmps133
              go_wp2_with fail
              go_ret
              exact ⟨retb E.out.symm, HB.out⟩
            | true =>
              have t5 : (a == 0) = true := (zI_is a).trans h5
              cases h6 : decide (l = 0) with
              | false =>
                have t6 : ((l : Int) == 0) = false := by rw [← h6, Bool.eq_iff_iff, beq_iff_eq, decide_eq_true_eq]; omega
                have E : Hid (r = false) := Lib.hid (by rw [HZ.out, h0, h1, h2, h3, h4, h5, h6]; rfl)
                clear h0 h1 h2 h3 h4 h5 h6
                go_enter Tryz.func133, Tryz.ntmps133
                go_wp2_with fail
                go_ret
                exact ⟨retb E.out.symm, HB.out⟩
              | true =>
                have t6 : ((l : Int) == 0) = true := by rw [← h6, Bool.eq_iff_iff, beq_iff_eq, decide_eq_true_eq]; omega
                cases h7 : zS y with
                | false =>
                  have t7 : (y.toList == []) = false := (zS_nilList y).trans h7
                  have u7 : y.toList.isEmpty = false := by rw [← t7]; cases y.toList <;> rfl
                  have E : Hid (r = false) := Lib.hid (by rw [HZ.out, h0, h1, h2, h3, h4, h5, h6, h7]; rfl)
                  clear h0 h1 h2 h3 h4 h5 h6 h7
                  go_enter Tryz.func133, Tryz.ntmps133
                  go_wp2_with fail
                  go_ret
                  exact ⟨retb E.out.symm, HB.out⟩
                | true =>
                  have t7 : (y.toList == []) = true := (zS_nilList y).trans h7
                  have u7 : y.toList.isEmpty = true := by rw [← t7]; cases y.toList <;> rfl
                  cases h8 : zI z with
                  | false =>
                    have t8 : (z == 0) = false := (zI_is z).trans h8
                    have E : Hid (r = false) := Lib.hid (by rw [HZ.out, h0, h1, h2, h3, h4, h5, h6, h7, h8]; rfl)
                    clear h0 h1 h2 h3 h4 h5 h6 h7 h8
                    go_enter Tryz.func133, Tryz.ntmps133
                    go_wp2_with fail
                    go_ret
                    exact ⟨retb E.out.symm, HB.out⟩
                  | true =>
                    have t8 : (z == 0) = true := (zI_is z).trans h8
                    have E : Hid (r = true) := Lib.hid (by rw [HZ.out, h0, h1, h2, h3, h4, h5, h6, h7, h8]; rfl)
                    go_enter Tryz.func133, Tryz.ntmps133
                    go_wp2_with fail
                    go_ret
                    exact ⟨retb E.out.symm, HB.out⟩
theorem alloc2_new (w : World) (a b : Obj) : ((w.alloc a).alloc b).heap[w.heap.size + 1]? = some b := by
  have := heap_alloc_new (w.alloc a) b
  rwa [show (w.alloc a).heap.size = w.heap.size + 1 by simp] at this
/-- What bare tells. -/
def BareQ (w : World) (t : Tm) (e : Ending) (w' : World) : Prop := ∃ so' c', e = .returned (.agg #[.int .i64 0, .int .i64 (leftT t).int, .int .i64 (leftT t).gen, .string (leftT t).name, .string (leftT t).func, .int .i64 (leftT t).arity, .slice so' (leftT t).items.length c', .string (leftT t).bytes, .int .i64 (leftT t).bits]) ∧ Below w.heap.size w w'
set_option maxRecDepth 100000 in
set_option maxHeartbeats 8000000 in
theorem rbare_any (t : Tm) (so : Option Addr) (c : Nat) (w : World) : Calls Tryz.prog 134 #[.agg #[.int .i64 t.kind, .int .i64 t.int, .int .i64 t.gen, .string t.name, .string t.func, .int .i64 t.arity, .slice so t.items.length c, .string t.bytes, .int .i64 t.bits]] w (BareQ w t) := by
  obtain ⟨tk, ti, tg, tn, tf, ta, tl, ty, tz⟩ := t
  simp only [Tm.kind, Tm.int, Tm.gen, Tm.name, Tm.func, Tm.arity, Tm.items, Tm.bytes, Tm.bits]
  by_cases h : tk = 1 ∨ tk = 2 ∨ tk = 3 ∨ tk = 4 ∨ tk = 5 ∨ tk = 6 ∨ tk = 7 ∨ tk = 9 ∨ tk = 10
  · rcases h with rfl | rfl | rfl | rfl | rfl | rfl | rfl | rfl | rfl
    · have HN := Lib.hid (alloc2_new w (.cells #[.int .i64 0, .int .i64 0, .int .i64 tg, .string tn, .string tf, .int .i64 ta, .slice so tl.length c, .string ty, .int .i64 tz] 28) (.cells #[.int .i64 0, .int .i64 0, .int .i64 tg, .string tn, .string tf, .int .i64 ta, .slice so tl.length c, .string ty, .int .i64 tz] 28))
      have HB : Hid (Below w.heap.size w ((w.alloc (.cells #[.int .i64 0, .int .i64 0, .int .i64 tg, .string tn, .string tf, .int .i64 ta, .slice so tl.length c, .string ty, .int .i64 tz] 28)).alloc (.cells #[.int .i64 0, .int .i64 0, .int .i64 tg, .string tn, .string tf, .int .i64 ta, .slice so tl.length c, .string ty, .int .i64 tz] 28))) := Lib.hid (((Below.refl _ _).alloc (Nat.le_refl _) _).alloc (by simp) _)
      go_enter Tryz.func134, Tryz.ntmps134
      go_wp2_with fail
      refine bodyPost_ret (results_cell_row rfl _ _ (w.heap.size + 1) _ _ _ _ rfl HN.out Tryz.underlying28 rfl (by kernel_rfl)) rfl ?_
      exact ⟨so, c, rfl, HB.out⟩
    · have HN := Lib.hid (alloc2_new w (.cells #[.int .i64 0, .int .i64 ti, .int .i64 tg, .string ⟨#[]⟩, .string tf, .int .i64 ta, .slice so tl.length c, .string ty, .int .i64 tz] 28) (.cells #[.int .i64 0, .int .i64 ti, .int .i64 tg, .string ⟨#[]⟩, .string tf, .int .i64 ta, .slice so tl.length c, .string ty, .int .i64 tz] 28))
      have HB : Hid (Below w.heap.size w ((w.alloc (.cells #[.int .i64 0, .int .i64 ti, .int .i64 tg, .string ⟨#[]⟩, .string tf, .int .i64 ta, .slice so tl.length c, .string ty, .int .i64 tz] 28)).alloc (.cells #[.int .i64 0, .int .i64 ti, .int .i64 tg, .string ⟨#[]⟩, .string tf, .int .i64 ta, .slice so tl.length c, .string ty, .int .i64 tz] 28))) := Lib.hid (((Below.refl _ _).alloc (Nat.le_refl _) _).alloc (by simp) _)
      go_enter Tryz.func134, Tryz.ntmps134
      go_wp2_with fail
      refine bodyPost_ret (results_cell_row rfl _ _ (w.heap.size + 1) _ _ _ _ rfl HN.out Tryz.underlying28 rfl (by kernel_rfl)) rfl ?_
      exact ⟨so, c, rfl, HB.out⟩
    · have HN := Lib.hid (alloc2_new w (.cells #[.int .i64 0, .int .i64 0, .int .i64 0, .string ⟨#[]⟩, .string tf, .int .i64 ta, .slice so tl.length c, .string ty, .int .i64 tz] 28) (.cells #[.int .i64 0, .int .i64 0, .int .i64 0, .string ⟨#[]⟩, .string tf, .int .i64 ta, .slice so tl.length c, .string ty, .int .i64 tz] 28))
      have HB : Hid (Below w.heap.size w ((w.alloc (.cells #[.int .i64 0, .int .i64 0, .int .i64 0, .string ⟨#[]⟩, .string tf, .int .i64 ta, .slice so tl.length c, .string ty, .int .i64 tz] 28)).alloc (.cells #[.int .i64 0, .int .i64 0, .int .i64 0, .string ⟨#[]⟩, .string tf, .int .i64 ta, .slice so tl.length c, .string ty, .int .i64 tz] 28))) := Lib.hid (((Below.refl _ _).alloc (Nat.le_refl _) _).alloc (by simp) _)
      go_enter Tryz.func134, Tryz.ntmps134
      go_wp2_with fail
      refine bodyPost_ret (results_cell_row rfl _ _ (w.heap.size + 1) _ _ _ _ rfl HN.out Tryz.underlying28 rfl (by kernel_rfl)) rfl ?_
      exact ⟨so, c, rfl, HB.out⟩
    · have HN := Lib.hid (alloc2_new w (.cells #[.int .i64 0, .int .i64 0, .int .i64 0, .string ⟨#[]⟩, .string tf, .int .i64 0, .slice none 0 0, .string ty, .int .i64 tz] 28) (.cells #[.int .i64 0, .int .i64 0, .int .i64 0, .string ⟨#[]⟩, .string tf, .int .i64 0, .slice none 0 0, .string ty, .int .i64 tz] 28))
      have HB : Hid (Below w.heap.size w ((w.alloc (.cells #[.int .i64 0, .int .i64 0, .int .i64 0, .string ⟨#[]⟩, .string tf, .int .i64 0, .slice none 0 0, .string ty, .int .i64 tz] 28)).alloc (.cells #[.int .i64 0, .int .i64 0, .int .i64 0, .string ⟨#[]⟩, .string tf, .int .i64 0, .slice none 0 0, .string ty, .int .i64 tz] 28))) := Lib.hid (((Below.refl _ _).alloc (Nat.le_refl _) _).alloc (by simp) _)
      go_enter Tryz.func134, Tryz.ntmps134
      go_wp2_with fail
      refine bodyPost_ret (results_cell_row rfl _ _ (w.heap.size + 1) _ _ _ _ rfl HN.out Tryz.underlying28 rfl (by kernel_rfl)) rfl ?_
      exact ⟨none, 0, rfl, HB.out⟩
    · have HN := Lib.hid (alloc2_new w (.cells #[.int .i64 0, .int .i64 ti, .int .i64 tg, .string ⟨#[]⟩, .string ⟨#[]⟩, .int .i64 0, .slice so tl.length c, .string ty, .int .i64 tz] 28) (.cells #[.int .i64 0, .int .i64 ti, .int .i64 tg, .string ⟨#[]⟩, .string ⟨#[]⟩, .int .i64 0, .slice so tl.length c, .string ty, .int .i64 tz] 28))
      have HB : Hid (Below w.heap.size w ((w.alloc (.cells #[.int .i64 0, .int .i64 ti, .int .i64 tg, .string ⟨#[]⟩, .string ⟨#[]⟩, .int .i64 0, .slice so tl.length c, .string ty, .int .i64 tz] 28)).alloc (.cells #[.int .i64 0, .int .i64 ti, .int .i64 tg, .string ⟨#[]⟩, .string ⟨#[]⟩, .int .i64 0, .slice so tl.length c, .string ty, .int .i64 tz] 28))) := Lib.hid (((Below.refl _ _).alloc (Nat.le_refl _) _).alloc (by simp) _)
      go_enter Tryz.func134, Tryz.ntmps134
      go_wp2_with fail
      refine bodyPost_ret (results_cell_row rfl _ _ (w.heap.size + 1) _ _ _ _ rfl HN.out Tryz.underlying28 rfl (by kernel_rfl)) rfl ?_
      exact ⟨so, c, rfl, HB.out⟩
    · have HN := Lib.hid (alloc2_new w (.cells #[.int .i64 0, .int .i64 0, .int .i64 0, .string ⟨#[]⟩, .string tf, .int .i64 ta, .slice so tl.length c, .string ty, .int .i64 tz] 28) (.cells #[.int .i64 0, .int .i64 0, .int .i64 0, .string ⟨#[]⟩, .string tf, .int .i64 ta, .slice so tl.length c, .string ty, .int .i64 tz] 28))
      have HB : Hid (Below w.heap.size w ((w.alloc (.cells #[.int .i64 0, .int .i64 0, .int .i64 0, .string ⟨#[]⟩, .string tf, .int .i64 ta, .slice so tl.length c, .string ty, .int .i64 tz] 28)).alloc (.cells #[.int .i64 0, .int .i64 0, .int .i64 0, .string ⟨#[]⟩, .string tf, .int .i64 ta, .slice so tl.length c, .string ty, .int .i64 tz] 28))) := Lib.hid (((Below.refl _ _).alloc (Nat.le_refl _) _).alloc (by simp) _)
      go_enter Tryz.func134, Tryz.ntmps134
      go_wp2_with fail
      refine bodyPost_ret (results_cell_row rfl _ _ (w.heap.size + 1) _ _ _ _ rfl HN.out Tryz.underlying28 rfl (by kernel_rfl)) rfl ?_
      exact ⟨so, c, rfl, HB.out⟩
    · have HN := Lib.hid (alloc2_new w (.cells #[.int .i64 0, .int .i64 ti, .int .i64 tg, .string tn, .string tf, .int .i64 ta, .slice none 0 0, .string ty, .int .i64 tz] 28) (.cells #[.int .i64 0, .int .i64 ti, .int .i64 tg, .string tn, .string tf, .int .i64 ta, .slice none 0 0, .string ty, .int .i64 tz] 28))
      have HB : Hid (Below w.heap.size w ((w.alloc (.cells #[.int .i64 0, .int .i64 ti, .int .i64 tg, .string tn, .string tf, .int .i64 ta, .slice none 0 0, .string ty, .int .i64 tz] 28)).alloc (.cells #[.int .i64 0, .int .i64 ti, .int .i64 tg, .string tn, .string tf, .int .i64 ta, .slice none 0 0, .string ty, .int .i64 tz] 28))) := Lib.hid (((Below.refl _ _).alloc (Nat.le_refl _) _).alloc (by simp) _)
      go_enter Tryz.func134, Tryz.ntmps134
      go_wp2_with fail
      refine bodyPost_ret (results_cell_row rfl _ _ (w.heap.size + 1) _ _ _ _ rfl HN.out Tryz.underlying28 rfl (by kernel_rfl)) rfl ?_
      exact ⟨none, 0, rfl, HB.out⟩
    · have HN := Lib.hid (alloc2_new w (.cells #[.int .i64 0, .int .i64 ti, .int .i64 tg, .string tn, .string tf, .int .i64 ta, .slice none 0 0, .string ty, .int .i64 tz] 28) (.cells #[.int .i64 0, .int .i64 ti, .int .i64 tg, .string tn, .string tf, .int .i64 ta, .slice none 0 0, .string ty, .int .i64 tz] 28))
      have HB : Hid (Below w.heap.size w ((w.alloc (.cells #[.int .i64 0, .int .i64 ti, .int .i64 tg, .string tn, .string tf, .int .i64 ta, .slice none 0 0, .string ty, .int .i64 tz] 28)).alloc (.cells #[.int .i64 0, .int .i64 ti, .int .i64 tg, .string tn, .string tf, .int .i64 ta, .slice none 0 0, .string ty, .int .i64 tz] 28))) := Lib.hid (((Below.refl _ _).alloc (Nat.le_refl _) _).alloc (by simp) _)
      go_enter Tryz.func134, Tryz.ntmps134
      go_wp2_with fail
      refine bodyPost_ret (results_cell_row rfl _ _ (w.heap.size + 1) _ _ _ _ rfl HN.out Tryz.underlying28 rfl (by kernel_rfl)) rfl ?_
      exact ⟨none, 0, rfl, HB.out⟩
    · have HN := Lib.hid (alloc2_new w (.cells #[.int .i64 0, .int .i64 ti, .int .i64 tg, .string tn, .string tf, .int .i64 ta, .slice so tl.length c, .string ⟨#[]⟩, .int .i64 0] 28) (.cells #[.int .i64 0, .int .i64 ti, .int .i64 tg, .string tn, .string tf, .int .i64 ta, .slice so tl.length c, .string ⟨#[]⟩, .int .i64 0] 28))
      have HB : Hid (Below w.heap.size w ((w.alloc (.cells #[.int .i64 0, .int .i64 ti, .int .i64 tg, .string tn, .string tf, .int .i64 ta, .slice so tl.length c, .string ⟨#[]⟩, .int .i64 0] 28)).alloc (.cells #[.int .i64 0, .int .i64 ti, .int .i64 tg, .string tn, .string tf, .int .i64 ta, .slice so tl.length c, .string ⟨#[]⟩, .int .i64 0] 28))) := Lib.hid (((Below.refl _ _).alloc (Nat.le_refl _) _).alloc (by simp) _)
      go_enter Tryz.func134, Tryz.ntmps134
      go_wp2_with fail
      refine bodyPost_ret (results_cell_row rfl _ _ (w.heap.size + 1) _ _ _ _ rfl HN.out Tryz.underlying28 rfl (by kernel_rfl)) rfl ?_
      exact ⟨so, c, rfl, HB.out⟩
  · have b1 : (tk == 1) = false := beq_eq_false_iff_ne.2 (fun e => h (by omega))
    have b2 : (tk == 2) = false := beq_eq_false_iff_ne.2 (fun e => h (by omega))
    have b3 : (tk == 3) = false := beq_eq_false_iff_ne.2 (fun e => h (by omega))
    have b4 : (tk == 4) = false := beq_eq_false_iff_ne.2 (fun e => h (by omega))
    have b5 : (tk == 5) = false := beq_eq_false_iff_ne.2 (fun e => h (by omega))
    have b6 : (tk == 6) = false := beq_eq_false_iff_ne.2 (fun e => h (by omega))
    have b7 : (tk == 7) = false := beq_eq_false_iff_ne.2 (fun e => h (by omega))
    have b9 : (tk == 9) = false := beq_eq_false_iff_ne.2 (fun e => h (by omega))
    have b10 : (tk == 10) = false := beq_eq_false_iff_ne.2 (fun e => h (by omega))
    have HQ : Hid (leftT (Tm.mk tk ti tg tn tf ta tl ty tz) = Tm.mk tk ti tg tn tf ta tl ty tz) := Lib.hid (by
      simp only [not_or] at h
      obtain ⟨h1, h2, h3, h4, h5, h6, h7, h9, h10⟩ := h
      unfold leftT
      simp only [Tm.kind]
      simp only [h1, h2, h3, h4, h5, h6, h7, h9, h10, if_false, or_self]
      try (split <;> rfl))
    clear h
    have HN := Lib.hid (alloc2_new w (.cells #[.int .i64 0, .int .i64 ti, .int .i64 tg, .string tn, .string tf, .int .i64 ta, .slice so tl.length c, .string ty, .int .i64 tz] 28) (.cells #[.int .i64 0, .int .i64 ti, .int .i64 tg, .string tn, .string tf, .int .i64 ta, .slice so tl.length c, .string ty, .int .i64 tz] 28))
    have HB : Hid (Below w.heap.size w ((w.alloc (.cells #[.int .i64 0, .int .i64 ti, .int .i64 tg, .string tn, .string tf, .int .i64 ta, .slice so tl.length c, .string ty, .int .i64 tz] 28)).alloc (.cells #[.int .i64 0, .int .i64 ti, .int .i64 tg, .string tn, .string tf, .int .i64 ta, .slice so tl.length c, .string ty, .int .i64 tz] 28))) := Lib.hid (((Below.refl _ _).alloc (Nat.le_refl _) _).alloc (by simp) _)
    go_enter Tryz.func134, Tryz.ntmps134
    go_wp2_with fail
    refine bodyPost_ret (results_cell_row rfl _ _ (w.heap.size + 1) _ _ _ _ rfl HN.out Tryz.underlying28 rfl (by kernel_rfl)) rfl ?_
    exact ⟨so, c, by rw [HQ.out]; rfl, HB.out⟩
end Go.Proofs.YthmpobimmbmddaaGreatDoor
namespace Go.Proofs.YthmpobimmbmddaaGreatDoor
open Go.RowKit
set_option linter.unusedVariables false
set_option linter.unusedSimpArgs false

theorem pow_step (j : Nat) : (2 : Nat) ^ (j + 1) = 2 ^ j * 2 := Nat.pow_succ ..
theorem pow_le7 : ∀ j, j ≤ 7 → (2 : Nat) ^ j ≤ 128 ∧ 1 ≤ (2 : Nat) ^ j := by decide
set_option maxRecDepth 100000 in
set_option maxHeartbeats 8000000 in
theorem rbits_any (k i g : Int) (n f : ByteArray) (a : Int) (so : Option Addr) (l c : Nat) (y : ByteArray) (z : Int) (w : World) (hy : y.size ≤ 9223372036854775807) (hz : I64 z) :
    Calls Tryz.prog 136 #[.agg #[.int .i64 k, .int .i64 i, .int .i64 g, .string n, .string f, .int .i64 a, .slice so l c, .string y, .int .i64 z]] w fun e w' => e = .returned (.bool (bitsV y z)) ∧ Below w.heap.size w w' := by
  have HB := Lib.hid ((Below.refl w.heap.size w).alloc (Nat.le_refl _) (.cells #[.int .i64 k, .int .i64 i, .int .i64 g, .string n, .string f, .int .i64 a, .slice so l c, .string y, .int .i64 z] 28))
  obtain ⟨za, zb⟩ := hz
  by_cases h0 : z < 0
  · have E : Hid (bitsV y z = false) := Lib.hid (by unfold bitsV; rw [wi_no (by omega)]; rfl)
    go_enter Tryz.func136, Tryz.ntmps136
    go_wp2_with fail
    go_ret
    exact ⟨retb E.out.symm, HB.out⟩
  · by_cases h1 : 16384 < z
    · have E : Hid (bitsV y z = false) := Lib.hid (by unfold bitsV; rw [wi_no (by omega)]; rfl)
      go_enter Tryz.func136, Tryz.ntmps136
      go_wp2_with fail
      go_ret
      exact ⟨retb E.out.symm, HB.out⟩
    · have z0 : 0 ≤ z := by omega
      have z1 : z ≤ 16384 := by omega
      have E0 : bitsV y z = (decide ((y.size : Int) = (z + 7) / 8) && (decide (z % 8 = 0) || decide (lastByte y % 2 ^ (8 - z % 8).toNat = 0))) := by unfold bitsV; rw [wi_yes z0 z1]; rfl
      clear h0 h1
      by_cases hl : (y.size : Int) = (z + 7) / 8
      · have hlb : ((y.size : Int) != (z + 7) / 8) = false := by rw [bne_eq_false_iff_eq]; exact hl
        by_cases hr : z % 8 = 0
        · have E : Hid (bitsV y z = true) := Lib.hid (by rw [E0, decide_eq_true hl, decide_eq_true hr]; rfl)
          have hrb : (z % 8 == 0) = true := by rw [beq_iff_eq]; exact hr
          clear hl hr E0
          go_enter Tryz.func136, Tryz.ntmps136
          go_wp2_with fail
          go_ret
          exact ⟨retb E.out.symm, HB.out⟩
        · obtain ⟨m, hm⟩ : ∃ m, y.size = m + 1 := ⟨y.size - 1, by omega⟩
          obtain ⟨r, hrr⟩ : ∃ r : Nat, z % 8 = (r : Int) := ⟨(z % 8).toNat, by omega⟩
          have hr1 : 1 ≤ r := by omega
          have hr7 : r ≤ 7 := by omega
          have hmi : m < y.size := by omega
          have E : Hid (bitsV y z = decide (y[m].toNat % 2 ^ (8 - r) = 0)) := Lib.hid (by
            rw [E0, decide_eq_true hl, decide_eq_false hr, lastByte_at hm, hrr, show (8 - (r : Int)).toNat = 8 - r by omega]
            rfl)
          have hrb : (z % 8 == 0) = false := beq_eq_false_iff_ne.2 hr
          have hw1 : IntKind.i64.wrap ((y.size : Int) - 1) = (m : Int) := by rw [IntKind.wrap_i64]; omega
          have hidx : (y.size : Int) - 1 = (m : Int) := by omega
          have HM := Lib.hid hm
          clear hr E0 hl hm
          go_enter Tryz.func136, Tryz.ntmps136
          go_wp2_with fail
          generalize hbb : y[m].toNat = lb at *
          have hlb2 : lb < 256 := by rw [← hbb]; exact UInt8.toNat_lt _
          have HRR := Lib.hid hrr
          have hwl : wrap64 ((lb : Nat) : Int) = (lb : Int) := by unfold wrap64; omega
          have HWL := Lib.hid hwl
          clear hbb hrr hw1 hidx hrb hlb hwl
          go_loop [4, 5] (fun uv iv => ∃ (j p : Nat), r + j ≤ 8 ∧ iv = .int .i64 ((r + j : Nat) : Int) ∧ uv = .int .i64 (p : Int) ∧ Hid (p = 2 ^ j) ∧ 1 ≤ p ∧ p ≤ 256) (fun _ iv => 8 - (intOf iv).toNat)
          case atStart => exact ⟨0, 1, by omega, by (have h9 := HRR.out; go_num), by go_num, Lib.hid rfl, by decide, by decide⟩
          case round =>
            obtain ⟨j, p, hj, rfl, rfl, HP, hp1, hp2⟩ := hrel
            by_cases hlt : r + j < 8
            · have hp7 : p ≤ 128 := by rw [HP.out]; exact (pow_le7 j (by omega)).1
              have HP2 : Hid (p * 2 = 2 ^ (j + 1)) := Lib.hid (by rw [pow_step, HP.out])
              go_wp2_with fail
              go_round
              case rel => exact ⟨j + 1, p * 2, by omega, by go_num, by go_num, HP2, by omega, by omega⟩
              case measure => simp [intOf]; omega
            · have hj8 : j = 8 - r := by omega
              have E2 : Hid (bitsV y z = (((lb : Int) % (p : Int)) == 0)) := Lib.hid (by
                rw [E.out, HP.out, hj8, Bool.eq_iff_iff, decide_eq_true_eq, beq_iff_eq]
                constructor
                · intro h; exact_mod_cast h
                · intro h; exact_mod_cast h)
              have hp0 : ((p : Int) == 0) = false := by rw [beq_eq_false_iff_ne]; omega
              clear hj8
              go_wp2_with fail
              all_goals go_ret
              all_goals exact ⟨retb (by rw [HWL.out, Int.tmod_eq_emod_of_nonneg (by omega)]; exact E2.out.symm), HB.out⟩
      · have hlb : ((y.size : Int) != (z + 7) / 8) = true := by rw [bne_iff_ne]; exact hl
        have E : Hid (bitsV y z = false) := Lib.hid (by rw [E0, decide_eq_false hl]; rfl)
        clear hl E0
        go_enter Tryz.func136, Tryz.ntmps136
        go_wp2_with fail
        go_ret
        exact ⟨retb E.out.symm, HB.out⟩
end Go.Proofs.YthmpobimmbmddaaGreatDoor
