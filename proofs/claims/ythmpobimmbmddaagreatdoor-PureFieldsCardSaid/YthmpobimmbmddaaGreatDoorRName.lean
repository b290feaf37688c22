/-
  The document's names and classes: the walks.
-/
import Derived.Test.YthmpobimmbmddaaGreatDoorRClass
import Derived.Test.YthmpobimmbmddaaGreatDoorCWalk0
namespace Go.Proofs.YthmpobimmbmddaaGreatDoor
open Go.RowKit
set_option linter.unusedVariables false
set_option linter.unusedSimpArgs false

theorem okAt_pos {k b : Nat} (hk : 0 < k) : okAt k b = decide (97 ≤ b ∧ b ≤ 122 ∨ 65 ≤ b ∧ b ≤ 90 ∨ 48 ≤ b ∧ b ≤ 57 ∨ b = 95 ∨ b = 64) := by
  unfold okAt
  rw [decide_eq_decide]
  constructor
  · rintro (h | ⟨_, h⟩)
    · exact .inl h
    · exact .inr h
  · rintro (h | h)
    · exact .inl h
    · exact .inr ⟨hk, h⟩
theorem okAt_zero (b : Nat) : okAt 0 b = decide (97 ≤ b ∧ b ≤ 122) := by
  unfold okAt
  rw [decide_eq_decide]
  constructor
  · rintro (h | ⟨h, _⟩)
    · exact h
    · omega
  · exact .inl
set_option maxRecDepth 100000 in
set_option maxHeartbeats 4000000 in
theorem rname_any (s : ByteArray) (w : World) (hs : s.size ≤ maxLen) : Calls Tryz.prog 23 #[.string s] w fun e w' => e = .returned (.bool (nameB s)) ∧ w = w' := by
  unfold maxLen at hs
  by_cases h0 : s.size < 1
  · have E : Hid (nameB s = false) := Lib.hid (nameB_len (by omega))
    go_enter Tryz.func23, Tryz.ntmps23
    go_wp2_with fail
    go_ret
    exact ⟨retb E.out.symm, rfl⟩
  · by_cases h1 : 32 < s.size
    · have E : Hid (nameB s = false) := Lib.hid (nameB_len (by omega))
      go_enter Tryz.func23, Tryz.ntmps23
      go_wp2_with fail
      go_ret
      exact ⟨retb E.out.symm, rfl⟩
    · have hpos : 0 < s.size := by omega
      have HB := Lib.hid (@nameB_bad s 0 hpos)
      have HZ := Lib.hid (okAt_zero (s[0]'hpos).toNat)
      by_cases c0 : (s[0]'hpos).toNat < 97
      · have E : Hid (nameB s = false) := Lib.hid (HB.out (by rw [HZ.out]; exact decide_eq_false (by omega)))
        go_enter Tryz.func23, Tryz.ntmps23
        go_wp2_with fail
        go_ret
        exact ⟨retb E.out.symm, rfl⟩
      · by_cases c1 : 122 < (s[0]'hpos).toNat
        · have E : Hid (nameB s = false) := Lib.hid (HB.out (by rw [HZ.out]; exact decide_eq_false (by omega)))
          go_enter Tryz.func23, Tryz.ntmps23
          go_wp2_with fail
          go_ret
          exact ⟨retb E.out.symm, rfl⟩
        · have HK0 : Hid (∀ j (h : j < s.size), j < 1 → okAt j s[j].toNat = true) := Lib.hid (fun j h hj => by
            obtain rfl : j = 0 := by omega
            rw [HZ.out]; exact decide_eq_true (by omega))
          go_enter Tryz.func23, Tryz.ntmps23
          go_wp2_with fail
          go_loop [3] (fun iv => ∃ k : Nat, 1 ≤ k ∧ k ≤ s.size ∧ iv = .int .i64 k ∧ Hid (∀ j (h : j < s.size), j < k → okAt j s[j].toNat = true)) (fun iv => s.size - (intOf iv).toNat)
          case atStart => exact ⟨1, Nat.le_refl _, by omega, by go_num, HK0⟩
          case round =>
            obtain ⟨k, hk1, hk, rfl, HK⟩ := hrel
            clear c0 c1
            by_cases hlt : k < s.size
            · have HP := Lib.hid (okAt_pos (b := s[k].toNat) hk1)
              have HBK := Lib.hid (@nameB_bad s k hlt)
              have HN : Hid (okAt k s[k].toNat = true → ∀ j (h : j < s.size), j < k + 1 → okAt j s[j].toNat = true) := Lib.hid (fun hne j h hj => by
                rcases Nat.eq_or_lt_of_le (Nat.le_of_lt_succ hj) with e | e
                · subst e; exact hne
                · exact HK.out j h e)
              go_upto_region 7 with fail
              generalize s[k].toNat = b at *
              have hcl : (97 ≤ b ∧ b ≤ 122) ∨ (65 ≤ b ∧ b ≤ 90) ∨ (48 ≤ b ∧ b ≤ 57) ∨ (b = 95) ∨ (b = 64) ∨ (123 ≤ b) ∨ (91 ≤ b ∧ b ≤ 96 ∧ b ≠ 95) ∨ (58 ≤ b ∧ b ≤ 63) ∨ (b < 48) := by omega
              rcases hcl with hc | hc | hc | hc | hc | hc | hc | hc | hc
              · have e0 : decide ((97 : Int) ≤ (b : Int)) = true := decide_eq_true (by omega)
                have e1 : decide ((b : Int) ≤ 122) = true := decide_eq_true (by omega)
                have e2 : decide ((65 : Int) ≤ (b : Int)) = true := decide_eq_true (by omega)
                have e3 : decide ((b : Int) ≤ 90) = false := decide_eq_false (by omega)
                have e4 : decide ((48 : Int) ≤ (b : Int)) = true := decide_eq_true (by omega)
                have e5 : decide ((b : Int) ≤ 57) = false := decide_eq_false (by omega)
                have e6 : ((b : Int) != 95) = true := by rw [bne_iff_ne]; omega
                have e7 : ((b : Int) != 64) = true := by rw [bne_iff_ne]; omega
                have HN2 := Lib.hid (HN.out (by rw [HP.out]; exact decide_eq_true (by omega)))
                clear hc HP HBK HN
                go_wp2_with fail
                go_round
                case rel => exact ⟨k + 1, by omega, by omega, by go_num, HN2⟩
                case measure => simp [intOf]; omega
              · have e0 : decide ((97 : Int) ≤ (b : Int)) = false := decide_eq_false (by omega)
                have e1 : decide ((b : Int) ≤ 122) = true := decide_eq_true (by omega)
                have e2 : decide ((65 : Int) ≤ (b : Int)) = true := decide_eq_true (by omega)
                have e3 : decide ((b : Int) ≤ 90) = true := decide_eq_true (by omega)
                have e4 : decide ((48 : Int) ≤ (b : Int)) = true := decide_eq_true (by omega)
                have e5 : decide ((b : Int) ≤ 57) = false := decide_eq_false (by omega)
                have e6 : ((b : Int) != 95) = true := by rw [bne_iff_ne]; omega
                have e7 : ((b : Int) != 64) = true := by rw [bne_iff_ne]; omega
                have HN2 := Lib.hid (HN.out (by rw [HP.out]; exact decide_eq_true (by omega)))
                clear hc HP HBK HN
                go_wp2_with fail
                go_round
                case rel => exact ⟨k + 1, by omega, by omega, by go_num, HN2⟩
                case measure => simp [intOf]; omega
              · have e0 : decide ((97 : Int) ≤ (b : Int)) = false := decide_eq_false (by omega)
                have e1 : decide ((b : Int) ≤ 122) = true := decide_eq_true (by omega)
                have e2 : decide ((65 : Int) ≤ (b : Int)) = false := decide_eq_false (by omega)
                have e3 : decide ((b : Int) ≤ 90) = true := decide_eq_true (by omega)
                have e4 : decide ((48 : Int) ≤ (b : Int)) = true := decide_eq_true (by omega)
                have e5 : decide ((b : Int) ≤ 57) = true := decide_eq_true (by omega)
                have e6 : ((b : Int) != 95) = true := by rw [bne_iff_ne]; omega
                have e7 : ((b : Int) != 64) = true := by rw [bne_iff_ne]; omega
                have HN2 := Lib.hid (HN.out (by rw [HP.out]; exact decide_eq_true (by omega)))
                clear hc HP HBK HN
                go_wp2_with fail
                go_round
                case rel => exact ⟨k + 1, by omega, by omega, by go_num, HN2⟩
                case measure => simp [intOf]; omega
              · have e0 : decide ((97 : Int) ≤ (b : Int)) = false := decide_eq_false (by omega)
                have e1 : decide ((b : Int) ≤ 122) = true := decide_eq_true (by omega)
                have e2 : decide ((65 : Int) ≤ (b : Int)) = true := decide_eq_true (by omega)
                have e3 : decide ((b : Int) ≤ 90) = false := decide_eq_false (by omega)
                have e4 : decide ((48 : Int) ≤ (b : Int)) = true := decide_eq_true (by omega)
                have e5 : decide ((b : Int) ≤ 57) = false := decide_eq_false (by omega)
                have e6 : ((b : Int) != 95) = false := by rw [bne_eq_false_iff_eq]; omega
                have e7 : ((b : Int) != 64) = true := by rw [bne_iff_ne]; omega
                have HN2 := Lib.hid (HN.out (by rw [HP.out]; exact decide_eq_true (by omega)))
                clear hc HP HBK HN
                go_wp2_with fail
                go_round
                case rel => exact ⟨k + 1, by omega, by omega, by go_num, HN2⟩
                case measure => simp [intOf]; omega
              · have e0 : decide ((97 : Int) ≤ (b : Int)) = false := decide_eq_false (by omega)
                have e1 : decide ((b : Int) ≤ 122) = true := decide_eq_true (by omega)
                have e2 : decide ((65 : Int) ≤ (b : Int)) = false := decide_eq_false (by omega)
                have e3 : decide ((b : Int) ≤ 90) = true := decide_eq_true (by omega)
                have e4 : decide ((48 : Int) ≤ (b : Int)) = true := decide_eq_true (by omega)
                have e5 : decide ((b : Int) ≤ 57) = false := decide_eq_false (by omega)
                have e6 : ((b : Int) != 95) = true := by rw [bne_iff_ne]; omega
                have e7 : ((b : Int) != 64) = false := by rw [bne_eq_false_iff_eq]; omega
                have HN2 := Lib.hid (HN.out (by rw [HP.out]; exact decide_eq_true (by omega)))
                clear hc HP HBK HN
                go_wp2_with fail
                go_round
                case rel => exact ⟨k + 1, by omega, by omega, by go_num, HN2⟩
                case measure => simp [intOf]; omega
              · have e0 : decide ((97 : Int) ≤ (b : Int)) = true := decide_eq_true (by omega)
                have e1 : decide ((b : Int) ≤ 122) = false := decide_eq_false (by omega)
                have e2 : decide ((65 : Int) ≤ (b : Int)) = true := decide_eq_true (by omega)
                have e3 : decide ((b : Int) ≤ 90) = false := decide_eq_false (by omega)
                have e4 : decide ((48 : Int) ≤ (b : Int)) = true := decide_eq_true (by omega)
                have e5 : decide ((b : Int) ≤ 57) = false := decide_eq_false (by omega)
                have e6 : ((b : Int) != 95) = true := by rw [bne_iff_ne]; omega
                have e7 : ((b : Int) != 64) = true := by rw [bne_iff_ne]; omega
                have E : Hid (nameB s = false) := Lib.hid (HBK.out (by rw [HP.out]; exact decide_eq_false (by omega)))
                clear hc HP HBK HN
                go_wp2_with fail
                go_ret
                exact ⟨retb E.out.symm, rfl⟩
              · have e0 : decide ((97 : Int) ≤ (b : Int)) = false := decide_eq_false (by omega)
                have e1 : decide ((b : Int) ≤ 122) = true := decide_eq_true (by omega)
                have e2 : decide ((65 : Int) ≤ (b : Int)) = true := decide_eq_true (by omega)
                have e3 : decide ((b : Int) ≤ 90) = false := decide_eq_false (by omega)
                have e4 : decide ((48 : Int) ≤ (b : Int)) = true := decide_eq_true (by omega)
                have e5 : decide ((b : Int) ≤ 57) = false := decide_eq_false (by omega)
                have e6 : ((b : Int) != 95) = true := by rw [bne_iff_ne]; omega
                have e7 : ((b : Int) != 64) = true := by rw [bne_iff_ne]; omega
                have E : Hid (nameB s = false) := Lib.hid (HBK.out (by rw [HP.out]; exact decide_eq_false (by omega)))
                clear hc HP HBK HN
                go_wp2_with fail
                go_ret
                exact ⟨retb E.out.symm, rfl⟩
              · have e0 : decide ((97 : Int) ≤ (b : Int)) = false := decide_eq_false (by omega)
                have e1 : decide ((b : Int) ≤ 122) = true := decide_eq_true (by omega)
                have e2 : decide ((65 : Int) ≤ (b : Int)) = false := decide_eq_false (by omega)
                have e3 : decide ((b : Int) ≤ 90) = true := decide_eq_true (by omega)
                have e4 : decide ((48 : Int) ≤ (b : Int)) = true := decide_eq_true (by omega)
                have e5 : decide ((b : Int) ≤ 57) = false := decide_eq_false (by omega)
                have e6 : ((b : Int) != 95) = true := by rw [bne_iff_ne]; omega
                have e7 : ((b : Int) != 64) = true := by rw [bne_iff_ne]; omega
                have E : Hid (nameB s = false) := Lib.hid (HBK.out (by rw [HP.out]; exact decide_eq_false (by omega)))
                clear hc HP HBK HN
                go_wp2_with fail
                go_ret
                exact ⟨retb E.out.symm, rfl⟩
              · have e0 : decide ((97 : Int) ≤ (b : Int)) = false := decide_eq_false (by omega)
                have e1 : decide ((b : Int) ≤ 122) = true := decide_eq_true (by omega)
                have e2 : decide ((65 : Int) ≤ (b : Int)) = false := decide_eq_false (by omega)
                have e3 : decide ((b : Int) ≤ 90) = true := decide_eq_true (by omega)
                have e4 : decide ((48 : Int) ≤ (b : Int)) = false := decide_eq_false (by omega)
                have e5 : decide ((b : Int) ≤ 57) = true := decide_eq_true (by omega)
                have e6 : ((b : Int) != 95) = true := by rw [bne_iff_ne]; omega
                have e7 : ((b : Int) != 64) = true := by rw [bne_iff_ne]; omega
                have E : Hid (nameB s = false) := Lib.hid (HBK.out (by rw [HP.out]; exact decide_eq_false (by omega)))
                clear hc HP HBK HN
                go_wp2_with fail
                go_ret
                exact ⟨retb E.out.symm, rfl⟩
            · have E : Hid (nameB s = true) := Lib.hid (nameB_good hpos (by omega) (fun j h => HK.out j h (by omega)))
              go_wp2_with fail
              go_ret
              exact ⟨retb E.out.symm, rfl⟩

set_option maxRecDepth 100000 in
set_option maxHeartbeats 4000000 in
theorem holds_any (s p : ByteArray) (w : World) (hs : s.size ≤ 100000) (hp : p.size ≤ 100000) :
    Calls Tryz.prog 24 #[.string s, .string p] w fun e w' => e = .returned (.bool (holdsB s.data.toList p.data.toList)) ∧ w = w' := by
  have hsl : s.data.toList.length = s.size := by simp
  have hpl : p.data.toList.length = p.size := by simp
  have HY : Hid (∀ k, k + p.size ≤ s.size → (s.data.toList.drop k).take p.size = p.data.toList → holdsB s.data.toList p.data.toList = true) := Lib.hid (fun k hk h => by
    unfold holdsB; exact decide_eq_true ⟨k, by omega, by omega, by rw [hpl]; exact h⟩)
  have HN : Hid ((∀ j, j + p.size ≤ s.size → (s.data.toList.drop j).take p.size ≠ p.data.toList) → holdsB s.data.toList p.data.toList = false) := Lib.hid (fun h => by
    unfold holdsB; refine decide_eq_false ?_
    rintro ⟨i, _, h2, h3⟩
    rw [hpl] at h2 h3
    exact h i (by omega) h3)
  clear hsl hpl
  generalize holdsB s.data.toList p.data.toList = r at *
  go_enter Tryz.func24, Tryz.ntmps24
  go_wp2_with fail
  go_loop [5] (fun iv => ∃ k : Nat, k ≤ s.size + 1 ∧ iv = .int .i64 k ∧ Hid (∀ j, j < k → j + p.size ≤ s.size → (s.data.toList.drop j).take p.size ≠ p.data.toList)) (fun iv => s.size + 1 - (intOf iv).toNat)
  case atStart => exact ⟨0, Nat.zero_le _, rfl, Lib.hid (fun j h => absurd h (Nat.not_lt_zero _))⟩
  case round =>
    obtain ⟨k, hk, rfl, HK⟩ := hrel
    by_cases hlt : k + p.size ≤ s.size
    · have hsub : (s.extract k (k + p.size)).toList = (s.data.toList.drop k).take p.size := by
        rw [ByteArray.toList_eq, Lib.extract_data]
        rw [show k + p.size - k = p.size by omega]
      have HSUB := Lib.hid hsub
      have HSN : Hid ((s.data.toList.drop k).take p.size ≠ p.data.toList → ∀ j, j < k + 1 → j + p.size ≤ s.size → (s.data.toList.drop j).take p.size ≠ p.data.toList) := Lib.hid (fun hne j hj hjs => by
        rcases Nat.eq_or_lt_of_le (Nat.le_of_lt_succ hj) with e | e
        · subst e; exact hne
        · exact HK.out j e hjs)
      clear hsub
      by_cases he : (s.data.toList.drop k).take p.size = p.data.toList
      · have E : Hid (r = true) := Lib.hid (HY.out k hlt he)
        have ht : ((s.extract k (k + p.size)).toList == p.toList) = true := by rw [HSUB.out, he, ByteArray.toList_eq]; exact beq_self_eq_true _
        clear he
        go_wp2_with fail
        go_ret
        exact ⟨retb E.out.symm, rfl⟩
      · have HN2 := Lib.hid (HSN.out he)
        have ht : ((s.extract k (k + p.size)).toList == p.toList) = false := by rw [HSUB.out, ByteArray.toList_eq, beq_eq_false_iff_ne]; exact he
        clear he
        go_wp2_with fail
        go_round
        case rel => exact ⟨k + 1, by omega, by go_num, HN2⟩
        case measure => simp [intOf]; omega
    · have E : Hid (r = false) := Lib.hid (HN.out (fun j hj => HK.out j (by omega) hj))
      go_wp2_with fail
      go_ret
      exact ⟨retb E.out.symm, rfl⟩

/-- The texts of the classes. -/
def namesS (c : Nat) : ByteArray := ⟨(namesR c).toArray⟩
set_option maxRecDepth 100000 in
theorem names_text (c : Nat) (h : 1 ≤ c ∧ c ≤ 4) (w : World) : Calls Tryz.prog 25 #[.int .i64 c] w fun e w' => e = .returned (.string (namesS c)) ∧ w = w' := by
  rcases (show c = 1 ∨ c = 2 ∨ c = 3 ∨ c = 4 by omega) with rfl | rfl | rfl | rfl
  all_goals
    go_enter Tryz.func25, Tryz.ntmps25
    go_wp2_with fail
    go_ret
    exact ⟨by kernel_rfl, rfl⟩
theorem namesS_size : ∀ c, c ≤ 4 → (namesS c).size ≤ 1000 := by decide +kernel

theorem roper_eq (s : ByteArray) (n : Int) : operB s n = (if n = 1 then (s.toList == [45] || (s.toList == [98, 110, 111, 116] || s.toList == [110, 111, 116])) else if n = 2 then (s.toList == [45] || opTwo.any (fun x => s.toList == x)) else false) := by
  unfold operB
  by_cases a : (s.toList == [45]) = true
  · rw [if_pos a, a]
    by_cases h1 : n = 1
    · subst h1; rfl
    · rw [if_neg h1]
      by_cases h2 : n = 2
      · subst h2; rfl
      · rw [if_neg h2, beq_eq_false_iff_ne.2 h1, beq_eq_false_iff_ne.2 h2]; rfl
  · rw [if_neg a]
    have a' : (s.toList == [45]) = false := by simpa using a
    rw [a', Bool.false_or, Bool.false_or]
    by_cases b : (s.toList == [98, 110, 111, 116] || s.toList == [110, 111, 116]) = true
    · rw [if_pos b, b]
      by_cases h1 : n = 1
      · subst h1; rfl
      · rw [if_neg h1, beq_eq_false_iff_ne.2 h1]
        by_cases h2 : n = 2
        · rw [if_pos h2]
          symm
          rw [Bool.or_eq_true] at b
          rw [List.any_eq_false]
          intro x hx
          rcases b with b | b
          · rw [eq_of_beq b]
            have : opTwo.all (fun x => !([98, 110, 111, 116] == x)) = true := by decide
            have := List.all_eq_true.1 this x hx
            simpa using this
          · rw [eq_of_beq b]
            have : opTwo.all (fun x => !([110, 111, 116] == x)) = true := by decide
            have := List.all_eq_true.1 this x hx
            simpa using this
        · rw [if_neg h2]
    · rw [if_neg b]
      have b' : (s.toList == [98, 110, 111, 116] || s.toList == [110, 111, 116]) = false := by simpa using b
      rw [b']
      by_cases h1 : n = 1
      · subst h1
        rw [if_pos rfl]
        split <;> rfl
      · rw [if_neg h1]
        by_cases h2 : n = 2
        · subst h2
          rw [if_pos rfl]
          split
          · rename_i h; rw [h]; rfl
          · rename_i h; rw [Bool.eq_false_iff.2 h]
        · rw [if_neg h2]
          split
          · exact beq_eq_false_iff_ne.2 h2
          · rfl
end Go.Proofs.YthmpobimmbmddaaGreatDoor
