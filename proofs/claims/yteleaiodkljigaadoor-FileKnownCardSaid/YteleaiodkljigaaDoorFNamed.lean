/-
  The names of chunks: file.named, the reference's Name.
-/
import Derived.Test.YteleaiodkljigaaDoorFBase
import Derived.Test.YteleaiodkljigaaDoorShelf
import Derived.Laws.RangeAny
namespace Go.Proofs.YteleaiodkljigaaDoor
open Go.RowKit Go.Shelf Go.Lib

theorem isAN_lt {b : Nat} (h : isAN b = true) : b < 128 := by
  unfold isAN at h; simp at h; omega
theorem isAN_high {b : Nat} (h : 128 ≤ b) : isAN b = false := by
  cases hb : isAN b with
  | false => rfl
  | true => have := isAN_lt hb; omega

set_option maxHeartbeats 1000000 in
theorem named1_any (W : World) (r : Nat) : FnGives Tryd.prog 42 #[] #[encR r] (.bool (!isAN r)) W := by
  unfold FnGives encR
  have hx : ∀ b, isAN r = b → FnGives Tryd.prog 42 #[] #[.int .i32 r] (.bool (!b)) W := by
    intro b hb
    unfold FnGives
    by_cases h1 : 97 ≤ r
    · by_cases h2 : r ≤ 122
      · have e : true = b := by rw [← hb]; unfold isAN; simp; omega
        subst e
        clear hb
        go_enter Tryd.func42, Tryd.ntmps42
        go_wp2
        go_ret
        first | exact ⟨rfl, 0, rfl⟩ | exact ⟨retb (by simp; omega), 0, rfl⟩
      · have e : false = b := by rw [← hb]; unfold isAN; simp; omega
        subst e
        clear hb
        go_enter Tryd.func42, Tryd.ntmps42
        go_wp2
        go_ret
        first | exact ⟨rfl, 0, rfl⟩ | exact ⟨retb (by simp; omega), 0, rfl⟩
    · by_cases h3 : 65 ≤ r
      · by_cases h4 : r ≤ 90
        · have e : true = b := by rw [← hb]; unfold isAN; simp; omega
          subst e
          clear hb
          go_enter Tryd.func42, Tryd.ntmps42
          go_wp2
          go_ret
          first | exact ⟨rfl, 0, rfl⟩ | exact ⟨retb (by simp; omega), 0, rfl⟩
        · have e : false = b := by rw [← hb]; unfold isAN; simp; omega
          subst e
          clear hb
          go_enter Tryd.func42, Tryd.ntmps42
          go_wp2
          go_ret
          first | exact ⟨rfl, 0, rfl⟩ | exact ⟨retb (by simp; omega), 0, rfl⟩
      · by_cases h5 : 48 ≤ r
        · by_cases h6 : r ≤ 57
          · have e : true = b := by rw [← hb]; unfold isAN; simp; omega
            subst e
            clear hb
            go_enter Tryd.func42, Tryd.ntmps42
            go_wp2
            go_ret
            first | exact ⟨rfl, 0, rfl⟩ | exact ⟨retb (by simp; omega), 0, rfl⟩
          · have e : false = b := by rw [← hb]; unfold isAN; simp; omega
            subst e
            clear hb
            go_enter Tryd.func42, Tryd.ntmps42
            go_wp2
            go_ret
            first | exact ⟨rfl, 0, rfl⟩ | exact ⟨retb (by simp; omega), 0, rfl⟩
        · have e : false = b := by rw [← hb]; unfold isAN; simp; omega
          subst e
          clear hb
          go_enter Tryd.func42, Tryd.ntmps42
          go_wp2
          go_ret
          first | exact ⟨rfl, 0, rfl⟩ | exact ⟨retb (by simp; omega), 0, rfl⟩
  exact hx _ rfl

/-- No rune is other than a letter or a digit, just where no byte is. -/
theorem idx_all (s : ByteArray) : ∀ (f pos : Nat), s.size ≤ pos + f → (0 ≤ Lib.idxFuncFrom (fun r => !isAN r) true s f pos ↔ ∃ j, ∃ h : j < s.size, pos ≤ j ∧ isAN s[j].toNat = false)
  | 0, pos, hf => by
    unfold Lib.idxFuncFrom
    constructor
    · intro h; omega
    · rintro ⟨j, h, hj, _⟩; omega
  | f + 1, pos, hf => by
    unfold Lib.idxFuncFrom
    by_cases hp : pos < s.size
    · rw [if_pos hp]
      by_cases hi : 128 ≤ s[pos].toNat
      · have hd := (decode_high s pos hp hi).1
        have : (!isAN (Utf8.decode s pos).1) = true := by rw [isAN_high hd]; rfl
        rw [if_pos this]
        exact ⟨fun _ => ⟨pos, hp, Nat.le_refl _, isAN_high hi⟩, fun _ => by omega⟩
      · rw [decode_ascii s pos hp (by omega)]
        cases ha : isAN s[pos].toNat with
        | false =>
          rw [if_pos (by simp)]
          exact ⟨fun _ => ⟨pos, hp, Nat.le_refl _, ha⟩, fun _ => by omega⟩
        | true =>
          rw [if_neg (by simp), idx_all s f (pos + 1) (by omega)]
          constructor
          · rintro ⟨j, h, hj, hn⟩; exact ⟨j, h, by omega, hn⟩
          · rintro ⟨j, h, hj, hn⟩
            refine ⟨j, h, ?_, hn⟩
            rcases Nat.eq_or_lt_of_le hj with e | e
            · subst e; rw [ha] at hn; cases hn
            · exact e
    · rw [if_neg hp]
      constructor
      · intro h; omega
      · rintro ⟨j, h, hj, _⟩; omega
theorem contains_all (s : ByteArray) : decide (0 ≤ Lib.idxFunc (fun r => !isAN r) true s) = !(s.data.toList.all fun b => isAN b.toNat) := by
  have hi := idx_all s s.size 0 (by omega)
  unfold Lib.idxFunc
  cases hb : s.data.toList.all fun b => isAN b.toNat with
  | true =>
    have := List.all_eq_true.1 hb
    refine decide_eq_false (fun h => ?_)
    obtain ⟨j, h, _, hn⟩ := hi.1 h
    have h2 := this s[j] (List.getElem_mem (by rw [size_list]; exact h))
    rw [hn] at h2; cases h2
  | false =>
    have := List.all_eq_false.1 hb
    obtain ⟨x, hx, hn⟩ := this
    obtain ⟨j, hj, rfl⟩ := List.getElem_of_mem hx
    refine decide_eq_true (hi.2 ⟨j, by rw [size_list] at hj; exact hj, Nat.zero_le _, ?_⟩)
    show isAN s.data.toList[j].toNat = false
    cases h : isAN s.data.toList[j].toNat with
    | false => rfl
    | true => exact absurd h hn

set_option maxHeartbeats 1000000 in
theorem named_any (s : ByteArray) (w : World) :
    Calls Tryd.prog 35 #[.string s] w fun e w' => e = .returned (.bool (nm s.data.toList)) ∧ Below w.heap.size w w' := by
  have HL := Lib.hid (size_list s)
  by_cases h4 : s.size = 4
  · have hl4 : ((s.size : Int) == 4) = true := by rw [h4]; rfl
    by_cases hc : s.data.toList = [67, 83, 85, 77]
    · have E : Hid (nm s.data.toList = false) := Lib.hid (by rw [hc]; rfl)
      have h2 : (s.toList == [67, 83, 85, 77]) = true := by rw [ByteArray.toList_eq, hc]; rfl
      clear hc h4
      go_enter Tryd.func35, Tryd.ntmps35
      go_wp2
      go_ret
      exact ⟨retb E.out.symm, Below.refl _ _⟩
    · have E : Hid (nm s.data.toList = !decide (0 ≤ Lib.idxFunc (fun r => !isAN r) true s)) := Lib.hid (by
        rw [contains_all]; unfold nm; rw [decide_eq_true (by rw [HL.out]; exact h4), decide_eq_false hc]; simp)
      have h2 : (s.toList == [67, 83, 85, 77]) = false := by rw [ByteArray.toList_eq]; simpa using hc
      clear hc h4
      go_enter Tryd.func35, Tryd.ntmps35
      go_wp2_with (go_at_call 41; refine (Tryd.strings_ContainsFunc 42 #[] (enters_of Tryd.func42 (by kernel_rfl) rfl) (fun r => !isAN r) s _ (fun W x _ => named1_any W x)).mono ?_; rintro e w1 ⟨rfl, hb1⟩)
      go_ret
      exact ⟨retb E.out.symm, hb1⟩
  · have hl4 : ((s.size : Int) == 4) = false := by rw [beq_eq_false_iff_ne]; omega
    have E : Hid (nm s.data.toList = false) := Lib.hid (by unfold nm; rw [decide_eq_false (by rw [HL.out]; exact h4)]; rfl)
    clear h4
    go_enter Tryd.func35, Tryd.ntmps35
    go_wp2
    go_ret
    exact ⟨retb E.out.symm, Below.refl _ _⟩

end Go.Proofs.YteleaiodkljigaaDoor
