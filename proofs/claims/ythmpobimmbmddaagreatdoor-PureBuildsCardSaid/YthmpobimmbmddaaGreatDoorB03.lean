/-
  names.Valid: the walk (printed by gen_names.py). Terms: what it is that one is well-formed, and how great it is. No program in sight.
-/
import Derived.Laws.RangeAny
import Derived.Laws.RangeString
import Derived.Test.YthmpobimmbmddaaGreatDoorB01
namespace Go.Proofs.YthmpobimmbmddaaGreatDoor
open Go.RowKit
set_option linter.unusedVariables false
set_option linter.unusedSimpArgs false

/-- Byte b may stand at place i of a name. -/
def okAt (i b : Nat) : Bool := decide (97 ≤ b ∧ b ≤ 122 ∨ 0 < i ∧ (65 ≤ b ∧ b ≤ 90 ∨ 48 ≤ b ∧ b ≤ 57 ∨ b = 95 ∨ b = 64))
def nameB (s : ByteArray) : Bool := decide (0 < s.size) && decide (s.size ≤ 32) && decide (∀ i, (h : i < s.size) → okAt i s[i].toNat = true)
theorem nameB_bad {s : ByteArray} {i : Nat} (h : i < s.size) (e : okAt i s[i].toNat = false) : nameB s = false := by
  unfold nameB
  have : decide (∀ i, (h : i < s.size) → okAt i s[i].toNat = true) = false := by
    apply decide_eq_false; intro hh; have := hh i h; rw [e] at this; simp at this
  rw [this, Bool.and_false]
theorem nameB_good {s : ByteArray} (h0 : 0 < s.size) (h1 : s.size ≤ 32) (h : ∀ i, (h : i < s.size) → okAt i s[i].toNat = true) : nameB s = true := by
  unfold nameB; rw [decide_eq_true h0, decide_eq_true h1, decide_eq_true h]; rfl
theorem okAt_high {i b : Nat} (h : 123 ≤ b) : okAt i b = false := by unfold okAt; apply decide_eq_false; omega
theorem nameB_len {s : ByteArray} (h : ¬ (0 < s.size ∧ s.size ≤ 32)) : nameB s = false := by
  unfold nameB
  by_cases h0 : 0 < s.size
  · rw [decide_eq_false (p := s.size ≤ 32) (by omega), Bool.and_false, Bool.false_and]
  · rw [decide_eq_false h0, Bool.false_and, Bool.false_and]
/-- What the rune at a place says of the byte there. -/
theorem rune_at (s : ByteArray) (pos : Nat) (hp : pos < s.size) : okAt pos (Utf8.decode s pos).1 = okAt pos s[pos].toNat ∧ (okAt pos s[pos].toNat = true → (Utf8.decode s pos).2 = 1) := by
  by_cases ha : s[pos].toNat < 128
  · rw [decode_ascii s pos hp ha]; exact ⟨rfl, fun _ => rfl⟩
  · have h := (decode_high s pos hp (by omega)).1
    rw [okAt_high (by omega), okAt_high (by omega)]; exact ⟨rfl, fun e => by simp at e⟩
theorem below_iter (w : World) (s : ByteArray) (pos : Nat) : Below w.heap.size w (w.iter s pos) := (Below.refl _ _).alloc (Nat.le_refl _) _

set_option maxRecDepth 100000 in
set_option maxHeartbeats 4000000 in
theorem names_any (s : ByteArray) (w : World) : Calls Tryz.prog 205 #[.string s] w fun e w' => e = .returned (.bool (nameB s)) ∧ Below w.heap.size w w' := by
  have HL : Hid (¬ (0 < s.size ∧ s.size ≤ 32) → nameB s = false) := Lib.hid nameB_len
  by_cases hs0 : s.size = 0
  · have he : s = ByteArray.empty := by
      have h : s.data.size = 0 := hs0
      exact ByteArray.ext (Array.eq_empty_of_size_eq_zero h)
    subst he
    have HV : Hid (nameB ByteArray.empty = false) := Lib.hid (nameB_len (by simp))
    clear HL
    go_enter Tryz.func205, Tryz.ntmps205
    go_wp2_with fail
    go_ret
    exact ⟨retb HV.out.symm, Below.refl _ _⟩
  · have hne : ¬ s.toList = [] := by
      rw [ByteArray.toList_eq]; intro e; have h2 := congrArg List.length e; exact hs0 (by simpa using h2)
    have hne2 : s.toList.isEmpty = false := by cases h : s.toList with | nil => exact absurd h hne | cons _ _ => rfl
    by_cases hs1 : 32 < s.size
    · have HV : Hid (nameB s = false) := Lib.hid (nameB_len (by omega))
      have g1 : decide ((32 : Int) < (s.size : Int)) = true := by simp; omega
      clear HL
      go_enter Tryz.func205, Tryz.ntmps205
      go_wp2_with fail
      go_ret
      exact ⟨retb HV.out.symm, Below.refl _ _⟩
    · have g1 : decide ((32 : Int) < (s.size : Int)) = false := by simp; omega
      clear HL
      go_enter Tryz.func205, Tryz.ntmps205
      go_wp2_with fail
      go_loopw [] (fun wr => ∃ pos : Nat, pos ≤ s.size ∧ wr = w.iter s pos ∧ Hid (∀ i, (h : i < s.size) → i < pos → okAt i s[i].toNat = true)) (fun wr => s.size - wr.iterPos w.heap.size)
      case atStart => exact ⟨0, Nat.zero_le _, rfl, Lib.hid (fun i _ h => absurd h (Nat.not_lt_zero _))⟩
      case round =>
        obtain ⟨pos, hpl, rfl, HG⟩ := hrel
        by_cases hp : pos < s.size
        · have hnx : ∀ ty, (Instr.next (.pointer (some ⟨w.heap.size, 0, none⟩)) true ty).run Tryz.prog (w.iter s pos) = _ := fun ty => run_next_any w s pos ty hp
          have HR := Lib.hid (rune_at s pos hp)
          have HB : Hid (okAt pos s[pos].toNat = false → nameB s = false) := Lib.hid (nameB_bad hp)
          have HK : Hid (okAt pos s[pos].toNat = true → (∀ i, (h : i < s.size) → i < pos + 1 → okAt i s[i].toNat = true)) := Lib.hid (fun e i h h1 => by
            rcases Nat.lt_or_ge i pos with h2 | h2
            · exact HG.out i h h2
            · obtain rfl : i = pos := by omega
              exact e)
          generalize (Utf8.decode s pos).1 = c at *
          generalize (Utf8.decode s pos).2 = d at *

          by_cases r8 : 97 ≤ c ∧ c ≤ 122
          · have hc : 97 ≤ c ∧ c ≤ 122 := by omega
            have q0 : decide ((97 : Int) ≤ (c : Int)) = true := by simp; omega
            have q1 : decide ((c : Int) ≤ 122) = true := by simp; omega
            have q2 : decide ((65 : Int) ≤ (c : Int)) = true := by simp; omega
            have q3 : decide ((c : Int) ≤ 90) = false := by simp; omega
            have q4 : decide ((48 : Int) ≤ (c : Int)) = true := by simp; omega
            have q5 : decide ((c : Int) ≤ 57) = false := by simp; omega
            have q6 : ((c : Int) == 95) = false := by simp; omega
            have q7 : ((c : Int) == 64) = false := by simp; omega
            have hok : Hid (okAt pos c = true) := Lib.hid (by unfold okAt; apply decide_eq_true; omega)
            have hok2 : Hid (okAt pos s[pos].toNat = true) := Lib.hid (by rw [← HR.out.1]; exact hok.out)
            obtain rfl := HR.out.2 hok2.out
            have HG2 := Lib.hid (HK.out hok2.out)
            clear HG HK HB HR hok hok2
            go_wp2_with fail
            go_roundw
            case rel => exact ⟨_, by omega, rfl, HG2⟩
            case measure => simp; omega
          · by_cases hz : pos = 0
            · obtain rfl := hz
              by_cases r10 : c ≤ 47
              · have hc : 0 ≤ c ∧ c ≤ 47 := by omega
                have q0 : decide ((97 : Int) ≤ (c : Int)) = false := by simp; omega
                have q1 : decide ((c : Int) ≤ 122) = true := by simp; omega
                have q2 : decide ((65 : Int) ≤ (c : Int)) = false := by simp; omega
                have q3 : decide ((c : Int) ≤ 90) = true := by simp; omega
                have q4 : decide ((48 : Int) ≤ (c : Int)) = false := by simp; omega
                have q5 : decide ((c : Int) ≤ 57) = true := by simp; omega
                have q6 : ((c : Int) == 95) = false := by simp; omega
                have q7 : ((c : Int) == 64) = false := by simp; omega
                have hok : Hid (okAt 0 c = false) := Lib.hid (by unfold okAt; apply decide_eq_false; omega)
                have hok2 : Hid (okAt 0 s[0].toNat = false) := Lib.hid (by rw [← HR.out.1]; exact hok.out)
                have HV : Hid (nameB s = false) := Lib.hid (HB.out hok2.out)
                clear HG HK HB HR hok hok2
                go_wp2_with fail
                (try simp only [Exit.inBlock, Exit.then])
                go_ret
                exact ⟨retb HV.out.symm, below_iter _ _ _⟩
              · by_cases r11 : c ≤ 57
                · have hc : 48 ≤ c ∧ c ≤ 57 := by omega
                  have q0 : decide ((97 : Int) ≤ (c : Int)) = false := by simp; omega
                  have q1 : decide ((c : Int) ≤ 122) = true := by simp; omega
                  have q2 : decide ((65 : Int) ≤ (c : Int)) = false := by simp; omega
                  have q3 : decide ((c : Int) ≤ 90) = true := by simp; omega
                  have q4 : decide ((48 : Int) ≤ (c : Int)) = true := by simp; omega
                  have q5 : decide ((c : Int) ≤ 57) = true := by simp; omega
                  have q6 : ((c : Int) == 95) = false := by simp; omega
                  have q7 : ((c : Int) == 64) = false := by simp; omega
                  have hok : Hid (okAt 0 c = false) := Lib.hid (by unfold okAt; apply decide_eq_false; omega)
                  have hok2 : Hid (okAt 0 s[0].toNat = false) := Lib.hid (by rw [← HR.out.1]; exact hok.out)
                  have HV : Hid (nameB s = false) := Lib.hid (HB.out hok2.out)
                  clear HG HK HB HR hok hok2
                  go_wp2_with fail
                  (try simp only [Exit.inBlock, Exit.then])
                  go_ret
                  exact ⟨retb HV.out.symm, below_iter _ _ _⟩
                · by_cases r12 : c ≤ 63
                  · have hc : 58 ≤ c ∧ c ≤ 63 := by omega
                    have q0 : decide ((97 : Int) ≤ (c : Int)) = false := by simp; omega
                    have q1 : decide ((c : Int) ≤ 122) = true := by simp; omega
                    have q2 : decide ((65 : Int) ≤ (c : Int)) = false := by simp; omega
                    have q3 : decide ((c : Int) ≤ 90) = true := by simp; omega
                    have q4 : decide ((48 : Int) ≤ (c : Int)) = true := by simp; omega
                    have q5 : decide ((c : Int) ≤ 57) = false := by simp; omega
                    have q6 : ((c : Int) == 95) = false := by simp; omega
                    have q7 : ((c : Int) == 64) = false := by simp; omega
                    have hok : Hid (okAt 0 c = false) := Lib.hid (by unfold okAt; apply decide_eq_false; omega)
                    have hok2 : Hid (okAt 0 s[0].toNat = false) := Lib.hid (by rw [← HR.out.1]; exact hok.out)
                    have HV : Hid (nameB s = false) := Lib.hid (HB.out hok2.out)
                    clear HG HK HB HR hok hok2
                    go_wp2_with fail
                    (try simp only [Exit.inBlock, Exit.then])
                    go_ret
                    exact ⟨retb HV.out.symm, below_iter _ _ _⟩
                  · by_cases r13 : c ≤ 64
                    · have hc : 64 ≤ c ∧ c ≤ 64 := by omega
                      obtain rfl : c = 64 := by omega
                      have hok : Hid (okAt 0 64 = false) := Lib.hid (by unfold okAt; apply decide_eq_false; omega)
                      have hok2 : Hid (okAt 0 s[0].toNat = false) := Lib.hid (by rw [← HR.out.1]; exact hok.out)
                      have HV : Hid (nameB s = false) := Lib.hid (HB.out hok2.out)
                      clear HG HK HB HR hok hok2
                      go_wp2_with fail
                      (try simp only [Exit.inBlock, Exit.then])
                      go_ret
                      exact ⟨retb HV.out.symm, below_iter _ _ _⟩
                    · by_cases r14 : c ≤ 90
                      · have hc : 65 ≤ c ∧ c ≤ 90 := by omega
                        have q0 : decide ((97 : Int) ≤ (c : Int)) = false := by simp; omega
                        have q1 : decide ((c : Int) ≤ 122) = true := by simp; omega
                        have q2 : decide ((65 : Int) ≤ (c : Int)) = true := by simp; omega
                        have q3 : decide ((c : Int) ≤ 90) = true := by simp; omega
                        have q4 : decide ((48 : Int) ≤ (c : Int)) = true := by simp; omega
                        have q5 : decide ((c : Int) ≤ 57) = false := by simp; omega
                        have q6 : ((c : Int) == 95) = false := by simp; omega
                        have q7 : ((c : Int) == 64) = false := by simp; omega
                        have hok : Hid (okAt 0 c = false) := Lib.hid (by unfold okAt; apply decide_eq_false; omega)
                        have hok2 : Hid (okAt 0 s[0].toNat = false) := Lib.hid (by rw [← HR.out.1]; exact hok.out)
                        have HV : Hid (nameB s = false) := Lib.hid (HB.out hok2.out)
                        clear HG HK HB HR hok hok2
                        go_wp2_with fail
                        (try simp only [Exit.inBlock, Exit.then])
                        go_ret
                        exact ⟨retb HV.out.symm, below_iter _ _ _⟩
                      · by_cases r15 : c ≤ 94
                        · have hc : 91 ≤ c ∧ c ≤ 94 := by omega
                          have q0 : decide ((97 : Int) ≤ (c : Int)) = false := by simp; omega
                          have q1 : decide ((c : Int) ≤ 122) = true := by simp; omega
                          have q2 : decide ((65 : Int) ≤ (c : Int)) = true := by simp; omega
                          have q3 : decide ((c : Int) ≤ 90) = false := by simp; omega
                          have q4 : decide ((48 : Int) ≤ (c : Int)) = true := by simp; omega
                          have q5 : decide ((c : Int) ≤ 57) = false := by simp; omega
                          have q6 : ((c : Int) == 95) = false := by simp; omega
                          have q7 : ((c : Int) == 64) = false := by simp; omega
                          have hok : Hid (okAt 0 c = false) := Lib.hid (by unfold okAt; apply decide_eq_false; omega)
                          have hok2 : Hid (okAt 0 s[0].toNat = false) := Lib.hid (by rw [← HR.out.1]; exact hok.out)
                          have HV : Hid (nameB s = false) := Lib.hid (HB.out hok2.out)
                          clear HG HK HB HR hok hok2
                          go_wp2_with fail
                          (try simp only [Exit.inBlock, Exit.then])
                          go_ret
                          exact ⟨retb HV.out.symm, below_iter _ _ _⟩
                        · by_cases r16 : c ≤ 95
                          · have hc : 95 ≤ c ∧ c ≤ 95 := by omega
                            obtain rfl : c = 95 := by omega
                            have hok : Hid (okAt 0 95 = false) := Lib.hid (by unfold okAt; apply decide_eq_false; omega)
                            have hok2 : Hid (okAt 0 s[0].toNat = false) := Lib.hid (by rw [← HR.out.1]; exact hok.out)
                            have HV : Hid (nameB s = false) := Lib.hid (HB.out hok2.out)
                            clear HG HK HB HR hok hok2
                            go_wp2_with fail
                            (try simp only [Exit.inBlock, Exit.then])
                            go_ret
                            exact ⟨retb HV.out.symm, below_iter _ _ _⟩
                          · by_cases r17 : c ≤ 96
                            · have hc : 96 ≤ c ∧ c ≤ 96 := by omega
                              obtain rfl : c = 96 := by omega
                              have hok : Hid (okAt 0 96 = false) := Lib.hid (by unfold okAt; apply decide_eq_false; omega)
                              have hok2 : Hid (okAt 0 s[0].toNat = false) := Lib.hid (by rw [← HR.out.1]; exact hok.out)
                              have HV : Hid (nameB s = false) := Lib.hid (HB.out hok2.out)
                              clear HG HK HB HR hok hok2
                              go_wp2_with fail
                              (try simp only [Exit.inBlock, Exit.then])
                              go_ret
                              exact ⟨retb HV.out.symm, below_iter _ _ _⟩
                            · have hc : 123 ≤ c := by omega
                              have q0 : decide ((97 : Int) ≤ (c : Int)) = true := by simp; omega
                              have q1 : decide ((c : Int) ≤ 122) = false := by simp; omega
                              have q2 : decide ((65 : Int) ≤ (c : Int)) = true := by simp; omega
                              have q3 : decide ((c : Int) ≤ 90) = false := by simp; omega
                              have q4 : decide ((48 : Int) ≤ (c : Int)) = true := by simp; omega
                              have q5 : decide ((c : Int) ≤ 57) = false := by simp; omega
                              have q6 : ((c : Int) == 95) = false := by simp; omega
                              have q7 : ((c : Int) == 64) = false := by simp; omega
                              have hok : Hid (okAt 0 c = false) := Lib.hid (by unfold okAt; apply decide_eq_false; omega)
                              have hok2 : Hid (okAt 0 s[0].toNat = false) := Lib.hid (by rw [← HR.out.1]; exact hok.out)
                              have HV : Hid (nameB s = false) := Lib.hid (HB.out hok2.out)
                              clear HG HK HB HR hok hok2
                              go_wp2_with fail
                              (try simp only [Exit.inBlock, Exit.then])
                              go_ret
                              exact ⟨retb HV.out.symm, below_iter _ _ _⟩
            · by_cases r10 : c ≤ 47
              · have hc : 0 ≤ c ∧ c ≤ 47 := by omega
                have q0 : decide ((97 : Int) ≤ (c : Int)) = false := by simp; omega
                have q1 : decide ((c : Int) ≤ 122) = true := by simp; omega
                have q2 : decide ((65 : Int) ≤ (c : Int)) = false := by simp; omega
                have q3 : decide ((c : Int) ≤ 90) = true := by simp; omega
                have q4 : decide ((48 : Int) ≤ (c : Int)) = false := by simp; omega
                have q5 : decide ((c : Int) ≤ 57) = true := by simp; omega
                have q6 : ((c : Int) == 95) = false := by simp; omega
                have q7 : ((c : Int) == 64) = false := by simp; omega
                have q9 : decide ((0 : Int) < (pos : Int)) = true := by simp; omega
                have hok : Hid (okAt pos c = false) := Lib.hid (by unfold okAt; apply decide_eq_false; omega)
                have hok2 : Hid (okAt pos s[pos].toNat = false) := Lib.hid (by rw [← HR.out.1]; exact hok.out)
                have HV : Hid (nameB s = false) := Lib.hid (HB.out hok2.out)
                clear HG HK HB HR hok hok2
                go_wp2_with fail
                (try simp only [Exit.inBlock, Exit.then])
                go_ret
                exact ⟨retb HV.out.symm, below_iter _ _ _⟩
              · by_cases r11 : c ≤ 57
                · have hc : 48 ≤ c ∧ c ≤ 57 := by omega
                  have q0 : decide ((97 : Int) ≤ (c : Int)) = false := by simp; omega
                  have q1 : decide ((c : Int) ≤ 122) = true := by simp; omega
                  have q2 : decide ((65 : Int) ≤ (c : Int)) = false := by simp; omega
                  have q3 : decide ((c : Int) ≤ 90) = true := by simp; omega
                  have q4 : decide ((48 : Int) ≤ (c : Int)) = true := by simp; omega
                  have q5 : decide ((c : Int) ≤ 57) = true := by simp; omega
                  have q6 : ((c : Int) == 95) = false := by simp; omega
                  have q7 : ((c : Int) == 64) = false := by simp; omega
                  have q9 : decide ((0 : Int) < (pos : Int)) = true := by simp; omega
                  have hok : Hid (okAt pos c = true) := Lib.hid (by unfold okAt; apply decide_eq_true; omega)
                  have hok2 : Hid (okAt pos s[pos].toNat = true) := Lib.hid (by rw [← HR.out.1]; exact hok.out)
                  obtain rfl := HR.out.2 hok2.out
                  have HG2 := Lib.hid (HK.out hok2.out)
                  clear HG HK HB HR hok hok2
                  go_wp2_with fail
                  go_roundw
                  case rel => exact ⟨_, by omega, rfl, HG2⟩
                  case measure => simp; omega
                · by_cases r12 : c ≤ 63
                  · have hc : 58 ≤ c ∧ c ≤ 63 := by omega
                    have q0 : decide ((97 : Int) ≤ (c : Int)) = false := by simp; omega
                    have q1 : decide ((c : Int) ≤ 122) = true := by simp; omega
                    have q2 : decide ((65 : Int) ≤ (c : Int)) = false := by simp; omega
                    have q3 : decide ((c : Int) ≤ 90) = true := by simp; omega
                    have q4 : decide ((48 : Int) ≤ (c : Int)) = true := by simp; omega
                    have q5 : decide ((c : Int) ≤ 57) = false := by simp; omega
                    have q6 : ((c : Int) == 95) = false := by simp; omega
                    have q7 : ((c : Int) == 64) = false := by simp; omega
                    have q9 : decide ((0 : Int) < (pos : Int)) = true := by simp; omega
                    have hok : Hid (okAt pos c = false) := Lib.hid (by unfold okAt; apply decide_eq_false; omega)
                    have hok2 : Hid (okAt pos s[pos].toNat = false) := Lib.hid (by rw [← HR.out.1]; exact hok.out)
                    have HV : Hid (nameB s = false) := Lib.hid (HB.out hok2.out)
                    clear HG HK HB HR hok hok2
                    go_wp2_with fail
                    (try simp only [Exit.inBlock, Exit.then])
                    go_ret
                    exact ⟨retb HV.out.symm, below_iter _ _ _⟩
                  · by_cases r13 : c ≤ 64
                    · have hc : 64 ≤ c ∧ c ≤ 64 := by omega
                      obtain rfl : c = 64 := by omega
                      have q9 : decide ((0 : Int) < (pos : Int)) = true := by simp; omega
                      have hok : Hid (okAt pos 64 = true) := Lib.hid (by unfold okAt; apply decide_eq_true; omega)
                      have hok2 : Hid (okAt pos s[pos].toNat = true) := Lib.hid (by rw [← HR.out.1]; exact hok.out)
                      obtain rfl := HR.out.2 hok2.out
                      have HG2 := Lib.hid (HK.out hok2.out)
                      clear HG HK HB HR hok hok2
                      go_wp2_with fail
                      go_roundw
                      case rel => exact ⟨_, by omega, rfl, HG2⟩
                      case measure => simp; omega
                    · by_cases r14 : c ≤ 90
                      · have hc : 65 ≤ c ∧ c ≤ 90 := by omega
                        have q0 : decide ((97 : Int) ≤ (c : Int)) = false := by simp; omega
                        have q1 : decide ((c : Int) ≤ 122) = true := by simp; omega
                        have q2 : decide ((65 : Int) ≤ (c : Int)) = true := by simp; omega
                        have q3 : decide ((c : Int) ≤ 90) = true := by simp; omega
                        have q4 : decide ((48 : Int) ≤ (c : Int)) = true := by simp; omega
                        have q5 : decide ((c : Int) ≤ 57) = false := by simp; omega
                        have q6 : ((c : Int) == 95) = false := by simp; omega
                        have q7 : ((c : Int) == 64) = false := by simp; omega
                        have q9 : decide ((0 : Int) < (pos : Int)) = true := by simp; omega
                        have hok : Hid (okAt pos c = true) := Lib.hid (by unfold okAt; apply decide_eq_true; omega)
                        have hok2 : Hid (okAt pos s[pos].toNat = true) := Lib.hid (by rw [← HR.out.1]; exact hok.out)
                        obtain rfl := HR.out.2 hok2.out
                        have HG2 := Lib.hid (HK.out hok2.out)
                        clear HG HK HB HR hok hok2
                        go_wp2_with fail
                        go_roundw
                        case rel => exact ⟨_, by omega, rfl, HG2⟩
                        case measure => simp; omega
                      · by_cases r15 : c ≤ 94
                        · have hc : 91 ≤ c ∧ c ≤ 94 := by omega
                          have q0 : decide ((97 : Int) ≤ (c : Int)) = false := by simp; omega
                          have q1 : decide ((c : Int) ≤ 122) = true := by simp; omega
                          have q2 : decide ((65 : Int) ≤ (c : Int)) = true := by simp; omega
                          have q3 : decide ((c : Int) ≤ 90) = false := by simp; omega
                          have q4 : decide ((48 : Int) ≤ (c : Int)) = true := by simp; omega
                          have q5 : decide ((c : Int) ≤ 57) = false := by simp; omega
                          have q6 : ((c : Int) == 95) = false := by simp; omega
                          have q7 : ((c : Int) == 64) = false := by simp; omega
                          have q9 : decide ((0 : Int) < (pos : Int)) = true := by simp; omega
                          have hok : Hid (okAt pos c = false) := Lib.hid (by unfold okAt; apply decide_eq_false; omega)
                          have hok2 : Hid (okAt pos s[pos].toNat = false) := Lib.hid (by rw [← HR.out.1]; exact hok.out)
                          have HV : Hid (nameB s = false) := Lib.hid (HB.out hok2.out)
                          clear HG HK HB HR hok hok2
                          go_wp2_with fail
                          (try simp only [Exit.inBlock, Exit.then])
                          go_ret
                          exact ⟨retb HV.out.symm, below_iter _ _ _⟩
                        · by_cases r16 : c ≤ 95
                          · have hc : 95 ≤ c ∧ c ≤ 95 := by omega
                            obtain rfl : c = 95 := by omega
                            have q9 : decide ((0 : Int) < (pos : Int)) = true := by simp; omega
                            have hok : Hid (okAt pos 95 = true) := Lib.hid (by unfold okAt; apply decide_eq_true; omega)
                            have hok2 : Hid (okAt pos s[pos].toNat = true) := Lib.hid (by rw [← HR.out.1]; exact hok.out)
                            obtain rfl := HR.out.2 hok2.out
                            have HG2 := Lib.hid (HK.out hok2.out)
                            clear HG HK HB HR hok hok2
                            go_wp2_with fail
                            go_roundw
                            case rel => exact ⟨_, by omega, rfl, HG2⟩
                            case measure => simp; omega
                          · by_cases r17 : c ≤ 96
                            · have hc : 96 ≤ c ∧ c ≤ 96 := by omega
                              obtain rfl : c = 96 := by omega
                              have q9 : decide ((0 : Int) < (pos : Int)) = true := by simp; omega
                              have hok : Hid (okAt pos 96 = false) := Lib.hid (by unfold okAt; apply decide_eq_false; omega)
                              have hok2 : Hid (okAt pos s[pos].toNat = false) := Lib.hid (by rw [← HR.out.1]; exact hok.out)
                              have HV : Hid (nameB s = false) := Lib.hid (HB.out hok2.out)
                              clear HG HK HB HR hok hok2
                              go_wp2_with fail
                              (try simp only [Exit.inBlock, Exit.then])
                              go_ret
                              exact ⟨retb HV.out.symm, below_iter _ _ _⟩
                            · have hc : 123 ≤ c := by omega
                              have q0 : decide ((97 : Int) ≤ (c : Int)) = true := by simp; omega
                              have q1 : decide ((c : Int) ≤ 122) = false := by simp; omega
                              have q2 : decide ((65 : Int) ≤ (c : Int)) = true := by simp; omega
                              have q3 : decide ((c : Int) ≤ 90) = false := by simp; omega
                              have q4 : decide ((48 : Int) ≤ (c : Int)) = true := by simp; omega
                              have q5 : decide ((c : Int) ≤ 57) = false := by simp; omega
                              have q6 : ((c : Int) == 95) = false := by simp; omega
                              have q7 : ((c : Int) == 64) = false := by simp; omega
                              have q9 : decide ((0 : Int) < (pos : Int)) = true := by simp; omega
                              have hok : Hid (okAt pos c = false) := Lib.hid (by unfold okAt; apply decide_eq_false; omega)
                              have hok2 : Hid (okAt pos s[pos].toNat = false) := Lib.hid (by rw [← HR.out.1]; exact hok.out)
                              have HV : Hid (nameB s = false) := Lib.hid (HB.out hok2.out)
                              clear HG HK HB HR hok hok2
                              go_wp2_with fail
                              (try simp only [Exit.inBlock, Exit.then])
                              go_ret
                              exact ⟨retb HV.out.symm, below_iter _ _ _⟩
        · have hnx : ∀ ty, (Instr.next (.pointer (some ⟨w.heap.size, 0, none⟩)) true ty).run Tryz.prog (w.iter s pos) = _ := fun ty => run_next_end w s pos ty hp
          have HV : Hid (nameB s = true) := Lib.hid (nameB_good (by omega) (by omega) (fun i h => HG.out i h (by omega)))
          clear HG
          go_wp2_with fail
          (try simp only [Exit.inBlock, Exit.then])
          go_ret
          exact ⟨retb HV.out.symm, below_iter _ _ _⟩
end Go.Proofs.YthmpobimmbmddaaGreatDoor
namespace Go.Proofs.YthmpobimmbmddaaGreatDoor
open Go.RowKit

def zI (n : Int) : Bool := decide (n = 0)
def zS (s : ByteArray) : Bool := decide (s.size = 0)
def zL (l : List Tm) : Bool := decide (l.length = 0)
/-- The kind of the last of a list (0: none). -/
def lastK (l : List Tm) : Int := match l.getLast? with
  | some t => t.kind
  | none => 0
def lastByte (s : ByteArray) : Nat := (s.data.toList.getLast?.getD 0).toNat
/-- Are the bytes those of so many bits? -/
def bitsV (y : ByteArray) (z : Int) : Bool := (wi z 0 16384 && decide ((y.size : Int) = (z + 7) / 8)) && (decide (z % 8 = 0) || decide (lastByte y % 2 ^ (8 - z % 8).toNat = 0))
def bitsB (t : Tm) : Bool := bitsV t.bytes t.bits
/-- What a kind asks of its own fields. -/
def okK (t : Tm) : Bool :=
  if t.kind = 1 then true
  else if t.kind = 2 then nameB t.name
  else if t.kind = 3 ∨ t.kind = 6 then wi t.int 1 2147483647 && wi t.gen 1 2147483647 && nameB t.name
  else if t.kind = 4 then wi t.int 0 999 && wi t.gen 1 2147483647 && nameB t.name && wi t.arity 0 16 && decide (t.items.length ≤ 200)
  else if t.kind = 5 then nameB t.name && nameB t.func && wi t.arity 0 16
  else if t.kind = 7 then decide (t.items.length ≤ 255)
  else if t.kind = 8 then true
  else if t.kind = 9 then decide (2 ≤ t.items.length) && decide (lastK t.items ≠ 9)
  else if t.kind = 10 then bitsB t
  else false
/-- Are the fields that a kind does not use zero? -/
def zeroK (t : Tm) : Bool :=
  (decide (t.kind = 1 ∨ t.kind = 3 ∨ t.kind = 4 ∨ t.kind = 6) || zI t.int) &&
  (decide (t.kind = 3 ∨ t.kind = 4 ∨ t.kind = 6) || zI t.gen) &&
  (decide (t.kind = 2 ∨ t.kind = 3 ∨ t.kind = 4 ∨ t.kind = 5 ∨ t.kind = 6) || zS t.name) &&
  (decide (t.kind = 5) || zS t.func) &&
  (decide (t.kind = 4 ∨ t.kind = 5) || zI t.arity) &&
  (decide (t.kind = 4 ∨ t.kind = 7 ∨ t.kind = 9) || zL t.items) &&
  (decide (t.kind = 10) || zS t.bytes) &&
  (decide (t.kind = 10) || zI t.bits)
def locB (t : Tm) : Bool := okK t && zeroK t
/-- Well-formed, up to a depth. -/
def formF : Nat → Tm → Bool
  | 0, _ => false
  | f + 1, t => locB t && t.items.all (formF f)
def ownSize (t : Tm) : Int := if t.kind = 9 then (t.items.length : Int) - 1 else if t.kind = 10 then 1 + (t.bits + 63) / 64 else 1
def sumI : List Int → Int
  | [] => 0
  | x :: l => x + sumI l
/-- How great a term is, up to a depth. -/
def wholeF : Nat → Tm → Int
  | 0, _ => 0
  | f + 1, t => ownSize t + sumI (t.items.map (wholeF f))
def validF (f : Nat) (t : Tm) : Bool := formF f t && decide (wholeF f t ≤ 2000)
