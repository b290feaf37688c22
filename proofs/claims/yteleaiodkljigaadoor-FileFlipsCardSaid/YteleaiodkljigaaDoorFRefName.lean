/-
  The reference: the names of chunks.
-/
import Derived.Test.YteleaiodkljigaaDoorFDistinct
namespace Go.Proofs.YteleaiodkljigaaDoor
open Go.RowKit Go.Shelf Go.Lib
set_option linter.unusedVariables false

theorem nm_bad {s : ByteArray} {k : Nat} (h : k < s.size) (e : isAN s[k].toNat = false) : nm s.data.toList = false := by
  unfold nm
  have : (s.data.toList.all fun b => isAN b.toNat) = false := by
    rw [List.all_eq_false]
    exact ⟨s[k], List.getElem_mem (by rw [size_list]; exact h), by rw [e]; decide⟩
  rw [this]; simp
theorem nm_good {s : ByteArray} (h : ∀ j, ∀ h : j < s.size, isAN s[j].toNat = true) : nm s.data.toList = (decide (s.data.toList.length = 4) && !decide (s.data.toList = [67, 83, 85, 77])) := by
  unfold nm
  have : (s.data.toList.all fun b => isAN b.toNat) = true := by
    rw [List.all_eq_true]
    intro x hx
    obtain ⟨j, hj, rfl⟩ := List.getElem_of_mem hx
    exact h j (by rw [size_list] at hj; exact hj)
  rw [this]; simp
set_option maxRecDepth 100000 in
set_option maxHeartbeats 4000000 in
theorem rname_any (s : ByteArray) (w : World) (hs : s.size ≤ maxLen) :
    Calls Tryd.prog 38 #[.string s] w fun e w' => e = .returned (.bool (nm s.data.toList)) ∧ w = w' := by
  unfold maxLen at hs
  have HL := Lib.hid (size_list s)
  go_enter Tryd.func38, Tryd.ntmps38
  go_wp2
  go_loop [3] (fun i => ∃ k : Nat, k ≤ s.size ∧ i = .int .i64 k ∧ Hid (∀ j, ∀ h : j < s.size, j < k → isAN s[j].toNat = true)) (fun i => s.size - (intOf i).toNat)
  case atStart => exact ⟨0, Nat.zero_le _, rfl, Lib.hid (fun j h hj => absurd hj (Nat.not_lt_zero _))⟩
  case round =>
    obtain ⟨k, hk, rfl, HG⟩ := hrel
    by_cases hlt : k < s.size
    · have hr256 : s[k].toNat < 256 := s[k].toNat_lt
      by_cases h1 : 97 ≤ s[k].toNat
      · by_cases h2 : s[k].toNat ≤ 122
        · have e : isAN s[k].toNat = true := by unfold isAN; simp; omega
          have HG2 : Hid (∀ j, ∀ h : j < s.size, j < k + 1 → isAN s[j].toNat = true) := Lib.hid (fun j h hj => by
            rcases Nat.eq_or_lt_of_le (Nat.le_of_lt_succ hj) with e' | e'
            · subst e'; exact e
            · exact HG.out j h e')
          clear e
          have t0 : decide ((97 : Int) ≤ (s[k].toNat : Int)) = true := by exact decide_eq_true (by omega)
          have t1 : decide ((s[k].toNat : Int) ≤ 122) = true := by exact decide_eq_true (by omega)
          go_wp2
          go_round
          case rel => exact ⟨k + 1, by omega, by go_num, HG2⟩
          case measure => simp [intOf]; omega
        · have e : isAN s[k].toNat = false := by unfold isAN; simp; omega
          have E : Hid (nm s.data.toList = false) := Lib.hid (nm_bad hlt e)
          clear e
          have t0 : decide ((97 : Int) ≤ (s[k].toNat : Int)) = true := by exact decide_eq_true (by omega)
          have t1 : decide ((s[k].toNat : Int) ≤ 122) = false := by exact decide_eq_false (by omega)
          have t2 : decide ((65 : Int) ≤ (s[k].toNat : Int)) = true := by exact decide_eq_true (by omega)
          have t3 : decide ((s[k].toNat : Int) ≤ 90) = false := by exact decide_eq_false (by omega)
          have t4 : decide ((48 : Int) ≤ (s[k].toNat : Int)) = true := by exact decide_eq_true (by omega)
          have t5 : decide ((s[k].toNat : Int) ≤ 57) = false := by exact decide_eq_false (by omega)
          go_wp2
          go_ret
          exact ⟨retb E.out.symm, rfl⟩
      · by_cases h3 : 65 ≤ s[k].toNat
        · by_cases h4 : s[k].toNat ≤ 90
          · have e : isAN s[k].toNat = true := by unfold isAN; simp; omega
            have HG2 : Hid (∀ j, ∀ h : j < s.size, j < k + 1 → isAN s[j].toNat = true) := Lib.hid (fun j h hj => by
              rcases Nat.eq_or_lt_of_le (Nat.le_of_lt_succ hj) with e' | e'
              · subst e'; exact e
              · exact HG.out j h e')
            clear e
            have t0 : decide ((97 : Int) ≤ (s[k].toNat : Int)) = false := by exact decide_eq_false (by omega)
            have t1 : decide ((65 : Int) ≤ (s[k].toNat : Int)) = true := by exact decide_eq_true (by omega)
            have t2 : decide ((s[k].toNat : Int) ≤ 90) = true := by exact decide_eq_true (by omega)
            go_wp2
            go_round
            case rel => exact ⟨k + 1, by omega, by go_num, HG2⟩
            case measure => simp [intOf]; omega
          · have e : isAN s[k].toNat = false := by unfold isAN; simp; omega
            have E : Hid (nm s.data.toList = false) := Lib.hid (nm_bad hlt e)
            clear e
            have t0 : decide ((97 : Int) ≤ (s[k].toNat : Int)) = false := by exact decide_eq_false (by omega)
            have t1 : decide ((65 : Int) ≤ (s[k].toNat : Int)) = true := by exact decide_eq_true (by omega)
            have t2 : decide ((s[k].toNat : Int) ≤ 90) = false := by exact decide_eq_false (by omega)
            have t3 : decide ((48 : Int) ≤ (s[k].toNat : Int)) = true := by exact decide_eq_true (by omega)
            have t4 : decide ((s[k].toNat : Int) ≤ 57) = false := by exact decide_eq_false (by omega)
            go_wp2
            go_ret
            exact ⟨retb E.out.symm, rfl⟩
        · by_cases h5 : 48 ≤ s[k].toNat
          · by_cases h6 : s[k].toNat ≤ 57
            · have e : isAN s[k].toNat = true := by unfold isAN; simp; omega
              have HG2 : Hid (∀ j, ∀ h : j < s.size, j < k + 1 → isAN s[j].toNat = true) := Lib.hid (fun j h hj => by
                rcases Nat.eq_or_lt_of_le (Nat.le_of_lt_succ hj) with e' | e'
                · subst e'; exact e
                · exact HG.out j h e')
              clear e
              have t0 : decide ((97 : Int) ≤ (s[k].toNat : Int)) = false := by exact decide_eq_false (by omega)
              have t1 : decide ((65 : Int) ≤ (s[k].toNat : Int)) = false := by exact decide_eq_false (by omega)
              have t2 : decide ((48 : Int) ≤ (s[k].toNat : Int)) = true := by exact decide_eq_true (by omega)
              have t3 : decide ((s[k].toNat : Int) ≤ 57) = true := by exact decide_eq_true (by omega)
              go_wp2
              go_round
              case rel => exact ⟨k + 1, by omega, by go_num, HG2⟩
              case measure => simp [intOf]; omega
            · have e : isAN s[k].toNat = false := by unfold isAN; simp; omega
              have E : Hid (nm s.data.toList = false) := Lib.hid (nm_bad hlt e)
              clear e
              have t0 : decide ((97 : Int) ≤ (s[k].toNat : Int)) = false := by exact decide_eq_false (by omega)
              have t1 : decide ((65 : Int) ≤ (s[k].toNat : Int)) = false := by exact decide_eq_false (by omega)
              have t2 : decide ((48 : Int) ≤ (s[k].toNat : Int)) = true := by exact decide_eq_true (by omega)
              have t3 : decide ((s[k].toNat : Int) ≤ 57) = false := by exact decide_eq_false (by omega)
              go_wp2
              go_ret
              exact ⟨retb E.out.symm, rfl⟩
          · have e : isAN s[k].toNat = false := by unfold isAN; simp; omega
            have E : Hid (nm s.data.toList = false) := Lib.hid (nm_bad hlt e)
            clear e
            have t0 : decide ((97 : Int) ≤ (s[k].toNat : Int)) = false := by exact decide_eq_false (by omega)
            have t1 : decide ((65 : Int) ≤ (s[k].toNat : Int)) = false := by exact decide_eq_false (by omega)
            have t2 : decide ((48 : Int) ≤ (s[k].toNat : Int)) = false := by exact decide_eq_false (by omega)
            go_wp2
            go_ret
            exact ⟨retb E.out.symm, rfl⟩
    · have hall : ∀ j, ∀ h : j < s.size, isAN s[j].toNat = true := fun j h => HG.out j h (by omega)
      have HN := Lib.hid (nm_good hall)
      clear hall
      by_cases h4 : s.size = 4
      · have hl4 : ((s.size : Int) == 4) = true := by rw [h4]; rfl
        by_cases hc : s.data.toList = [67, 83, 85, 77]
        · have E : Hid (nm s.data.toList = false) := Lib.hid (by rw [hc]; rfl)
          have h2 : (s.toList == [67, 83, 85, 77]) = true := by rw [ByteArray.toList_eq, hc]; rfl
          clear hc h4
          go_wp2
          go_ret
          exact ⟨retb E.out.symm, rfl⟩
        · have E : Hid (nm s.data.toList = true) := Lib.hid (by rw [HN.out, decide_eq_true (by rw [HL.out]; exact h4), decide_eq_false hc]; rfl)
          have h2 : (s.toList == [67, 83, 85, 77]) = false := by rw [ByteArray.toList_eq]; simpa using hc
          clear hc h4
          go_wp2
          go_ret
          exact ⟨retb E.out.symm, rfl⟩
      · have hl4 : ((s.size : Int) == 4) = false := by rw [beq_eq_false_iff_ne]; omega
        have E : Hid (nm s.data.toList = false) := Lib.hid (by unfold nm; rw [decide_eq_false (by rw [HL.out]; exact h4)]; rfl)
        clear h4
        go_wp2
        go_ret
        exact ⟨retb E.out.symm, rfl⟩

end Go.Proofs.YteleaiodkljigaaDoor
