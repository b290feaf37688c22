/-
  names.Valid: the walk (printed by gen_names.py).
-/
import Derived.Test.YthmpobimmbmddaaGreatDoorCWalk1
import Derived.Laws.RangeAny
import Derived.Laws.RangeString
namespace Go.Proofs.YthmpobimmbmddaaGreatDoor
open Go.RowKit
set_option linter.unusedVariables false
set_option linter.unusedSimpArgs false

/-- Byte b may stand at place i of a name. -/
def okAt (i b : Nat) : Bool := decide (97 ≤ b ∧ b ≤ 122 ∨ 0 < i ∧ (65 ≤ b ∧ b ≤ 90 ∨ 48 ≤ b ∧ b ≤ 57 ∨ b = 95 ∨ b = 64))
def nameB (s : ByteArray) : Bool := decide (0 < s.size) && decide (s.size ≤ 32) && decide (∀ i, (h : i < s.size) → okAt i s[i].toNat = true)
theorem nameB_bad {s : ByteArray} {i : Nat} (h : i < s.size) (e : okAt i s[i].toNat = false) : nameB s = false := by
  unfold nameB
  have : decide (∀ i, (h : i < s.size) → okAt i s[i].toNat = true) = false := by
    apply decide_eq_false; intro hh; have := hh i h; rw [e] at this; simp at this
  rw [this, Bool.and_false]
theorem nameB_good {s : ByteArray} (h0 : 0 < s.size) (h1 : s.size ≤ 32) (h : ∀ i, (h : i < s.size) → okAt i s[i].toNat = true) : nameB s = true := by
  unfold nameB; rw [decide_eq_true h0, decide_eq_true h1, decide_eq_true h]; rfl
theorem okAt_high {i b : Nat} (h : 123 ≤ b) : okAt i b = false := by unfold okAt; apply decide_eq_false; omega
theorem nameB_len {s : ByteArray} (h : ¬ (0 < s.size ∧ s.size ≤ 32)) : nameB s = false := by
  unfold nameB
  by_cases h0 : 0 < s.size
  · rw [decide_eq_false (p := s.size ≤ 32) (by omega), Bool.and_false, Bool.false_and]
  · rw [decide_eq_false h0, Bool.false_and, Bool.false_and]
/-- What the rune at a place says of the byte there. -/
theorem rune_at (s : ByteArray) (pos : Nat) (hp : pos < s.size) : okAt pos (Utf8.decode s pos).1 = okAt pos s[pos].toNat ∧ (okAt pos s[pos].toNat = true → (Utf8.decode s pos).2 = 1) := by
  by_cases ha : s[pos].toNat < 128
  · rw [decode_ascii s pos hp ha]; exact ⟨rfl, fun _ => rfl⟩
  · have h := (decode_high s pos hp (by omega)).1
    rw [okAt_high (by omega), okAt_high (by omega)]; exact ⟨rfl, fun e => by simp at e⟩
theorem below_iter (w : World) (s : ByteArray) (pos : Nat) : Below w.heap.size w (w.iter s pos) := (Below.refl _ _).alloc (Nat.le_refl _) _

set_option maxRecDepth 100000 in
set_option maxHeartbeats 4000000 in
theorem names_any (s : ByteArray) (w : World) : Calls Tryz.prog 205 #[.string s] w fun e w' => e = .returned (.bool (nameB s)) ∧ Below w.heap.size w w' := by
  have HL : Hid (¬ (0 < s.size ∧ s.size ≤ 32) → nameB s = false) := Lib.hid nameB_len
  by_cases hs0 : s.size = 0
  · have he : s = ByteArray.empty := by
      have h : s.data.size = 0 := hs0
      exact ByteArray.ext (Array.eq_empty_of_size_eq_zero h)
    subst he
    have HV : Hid (nameB ByteArray.empty = false) := Lib.hid (nameB_len (by simp))
    clear HL
    go_enter Tryz.func205, Tryz.ntmps205
    go_wp2_with fail
    go_ret
    exact ⟨retb HV.out.symm, Below.refl _ _⟩
  · have hne : ¬ s.toList = [] := by
      rw [ByteArray.toList_eq]; intro e; have h2 := congrArg List.length e; exact hs0 (by simpa using h2)
    have hne2 : s.toList.isEmpty = false := by cases h : s.toList with | nil => exact absurd h hne | cons _ _ => rfl
    by_cases hs1 : 32 < s.size
    · have HV : Hid (nameB s = false) := Lib.hid (nameB_len (by omega))
      have g1 : decide ((32 : Int) < (s.size : Int)) = true := by simp; omega
      clear HL
      go_enter Tryz.func205, Tryz.ntmps205
      go_wp2_with fail
      go_ret
      exact ⟨retb HV.out.symm, Below.refl _ _⟩
    · have g1 : decide ((32 : Int) < (s.size : Int)) = false := by simp; omega
      clear HL
      go_enter Tryz.func205, Tryz.ntmps205
      go_wp2_with fail
      go_loopw [] (fun wr => ∃ pos : Nat, pos ≤ s.size ∧ wr = w.iter s pos ∧ Hid (∀ i, (h : i < s.size) → i < pos → okAt i s[i].toNat = true)) (fun wr => s.size - wr.iterPos w.heap.size)
      case atStart => exact ⟨0, Nat.zero_le _, rfl, Lib.hid (fun i _ h => absurd h (Nat.not_lt_zero _))⟩
      case round =>
        obtain ⟨pos, hpl, rfl, HG⟩ := hrel
        by_cases hp : pos < s.size
        · have hnx : ∀ ty, (Instr.next (.pointer (some ⟨w.heap.size, 0, none⟩)) true ty).run Tryz.prog (w.iter s pos) = _ := fun ty => run_next_any w s pos ty hp
          have HR := Lib.hid (rune_at s pos hp)
          have HB : Hid (okAt pos s[pos].toNat = false → nameB s = false) := Lib.hid (nameB_bad hp)
          have HK : Hid (okAt pos s[pos].toNat = true → (∀ i, (h : i < s.size) → i < pos + 1 → okAt i s[i].toNat = true)) := Lib.hid (fun e i h h1 => by
            rcases Nat.lt_or_ge i pos with h2 | h2
            · exact HG.out i h h2
            · obtain rfl : i = pos := by omega
              exact e)
          generalize (Utf8.decode s pos).1 = c at *
          generalize (Utf8.decode s pos).2 = d at *

          by_cases r8 : 97 ≤ c ∧ c ≤ 122
          · have hc : 97 ≤ c ∧ c ≤ 122 := by omega
            have q0 : decide ((97 : Int) ≤ (c : Int)) = true := by simp; omega
            have q1 : decide ((c : Int) ≤ 122) = true := by simp; omega
            have q2 : decide ((65 : Int) ≤ (c : Int)) = true := by simp; omega
            have q3 : decide ((c : Int) ≤ 90) = false := by simp; omega
            have q4 : decide ((48 : Int) ≤ (c : Int)) = true := by simp; omega
            have q5 : decide ((c : Int) ≤ 57) = false := by simp; omega
            have q6 : ((c : Int) == 95) = false := by simp; omega
            have q7 : ((c : Int) == 64) = false := by simp; omega
            have hok : Hid (okAt pos c = true) := Lib.hid (by unfold okAt; apply decide_eq_true; omega)
            have hok2 : Hid (okAt pos s[pos].toNat = true) := Lib.hid (by rw [← HR.out.1]; exact hok.out)
            obtain rfl := HR.out.2 hok2.out
            have HG2 := Lib.hid (HK.out hok2.out)
            clear HG HK HB HR hok hok2
            go_wp2_with fail
            go_roundw
            case rel => exact ⟨_, by omega, rfl, HG2⟩
            case measure => simp; omega
          · by_cases hz : pos = 0
            · obtain rfl := hz
              by_cases r10 : c ≤ 47
              · have hc : 0 ≤ c ∧ c ≤ 47 := by omega
                have q0 : decide ((97 : Int) ≤ (c : Int)) = false := by simp; omega
                have q1 : decide ((c : Int) ≤ 122) = true := by simp; omega
                have q2 : decide ((65 : Int) ≤ (c : Int)) = false := by simp; omega
                have q3 : decide ((c : Int) ≤ 90) = true := by simp; omega
                have q4 : decide ((48 : Int) ≤ (c : Int)) = false := by simp; omega
                have q5 : decide ((c : Int) ≤ 57) = true := by simp; omega
                have q6 : ((c : Int) == 95) = false := by simp; omega
                have q7 : ((c : Int) == 64) = false := by simp; omega
                have hok : Hid (okAt 0 c = false) := Lib.hid (by unfold okAt; apply decide_eq_false; omega)
                have hok2 : Hid (okAt 0 s[0].toNat = false) := Lib.hid (by rw [← HR.out.1]; exact hok.out)
                have HV : Hid (nameB s = false) := Lib.hid (HB.out hok2.out)
                clear HG HK HB HR hok hok2
                go_wp2_with fail
                (try simp only [Exit.inBlock, Exit.then])
                go_ret
                exact ⟨retb HV.out.symm, below_iter _ _ _⟩
              · by_cases r11 : c ≤ 57
                · have hc : 48 ≤ c ∧ c ≤ 57 := by omega
                  have q0 : decide ((97 : Int) ≤ (c : Int)) = false := by simp; omega
                  have q1 : decide ((c : Int) ≤ 122) = true := by simp; omega
                  have q2 : decide ((65 : Int) ≤ (c : Int)) = false := by simp; omega
                  have q3 : decide ((c : Int) ≤ 90) = true := by simp; omega
                  have q4 : decide ((48 : Int) ≤ (c : Int)) = true := by simp; omega
                  have q5 : decide ((c : Int) ≤ 57) = true := by simp; omega
                  have q6 : ((c : Int) == 95) = false := by simp; omega
                  have q7 : ((c : Int) == 64) = false := by simp; omega
                  have hok : Hid (okAt 0 c = false) := Lib.hid (by unfold okAt; apply decide_eq_false; omega)
                  have hok2 : Hid (okAt 0 s[0].toNat = false) := Lib.hid (by rw [← HR.out.1]; exact hok.out)
                  have HV : Hid (nameB s = false) := Lib.hid (HB.out hok2.out)
                  clear HG HK HB HR hok hok2
                  go_wp2_with fail
                  (try simp only [Exit.inBlock, Exit.then])
                  go_ret
                  exact ⟨retb HV.out.symm, below_iter _ _ _⟩
                · by_cases r12 : c ≤ 63
                  · have hc : 58 ≤ c ∧ c ≤ 63 := by omega
                    have q0 : decide ((97 : Int) ≤ (c : Int)) = false := by simp; omega
                    have q1 : decide ((c : Int) ≤ 122) = true := by simp; omega
                    have q2 : decide ((65 : Int) ≤ (c : Int)) = false := by simp; omega
                    have q3 : decide ((c : Int) ≤ 90) = true := by simp; omega
                    have q4 : decide ((48 : Int) ≤ (c : Int)) = true := by simp; omega
                    have q5 : decide ((c : Int) ≤ 57) = false := by simp; omega
                    have q6 : ((c : Int) == 95) = false := by simp; omega
                    have q7 : ((c : Int) == 64) = false := by simp; omega
                    have hok : Hid (okAt 0 c = false) := Lib.hid (by unfold okAt; apply decide_eq_false; omega)
                    have hok2 : Hid (okAt 0 s[0].toNat = false) := Lib.hid (by rw [← HR.out.1]; exact hok.out)
                    have HV : Hid (nameB s = false) := Lib.hid (HB.out hok2.out)
                    clear HG HK HB HR hok hok2
                    go_wp2_with fail
                    (try simp only [Exit.inBlock, Exit.then])
                    go_ret
                    exact ⟨retb HV.out.symm, below_iter _ _ _⟩
                  · by_cases r13 : c ≤ 64
                    · have hc : 64 ≤ c ∧ c ≤ 64 := by omega
                      obtain rfl : c = 64 := by omega
                      have hok : Hid (okAt 0 64 = false) := Lib.hid (by unfold okAt; apply decide_eq_false; omega)
                      have hok2 : Hid (okAt 0 s[0].toNat = false) := Lib.hid (by rw [← HR.out.1]; exact hok.out)
                      have HV : Hid (nameB s = false) := Lib.hid (HB.out hok2.out)
                      clear HG HK HB HR hok hok2
                      go_wp2_with fail
                      (try simp only [Exit.inBlock, Exit.then])
                      go_ret
                      exact ⟨retb HV.out.symm, below_iter _ _ _⟩
                    · by_cases r14 : c ≤ 90
                      · have hc : 65 ≤ c ∧ c ≤ 90 := by omega
                        have q0 : decide ((97 : Int) ≤ (c : Int)) = false := by simp; omega
                        have q1 : decide ((c : Int) ≤ 122) = true := by simp; omega
                        have q2 : decide ((65 : Int) ≤ (c : Int)) = true := by simp; omega
                        have q3 : decide ((c : Int) ≤ 90) = true := by simp; omega
                        have q4 : decide ((48 : Int) ≤ (c : Int)) = true := by simp; omega
                        have q5 : decide ((c : Int) ≤ 57) = false := by simp; omega
                        have q6 : ((c : Int) == 95) = false := by simp; omega
                        have q7 : ((c : Int) == 64) = false := by simp; omega
                        have hok : Hid (okAt 0 c = false) := Lib.hid (by unfold okAt; apply decide_eq_false; omega)
                        have hok2 : Hid (okAt 0 s[0].toNat = false) := Lib.hid (by rw [← HR.out.1]; exact hok.out)
                        have HV : Hid (nameB s = false) := Lib.hid (HB.out hok2.out)
                        clear HG HK HB HR hok hok2
                        go_wp2_with fail
                        (try simp only [Exit.inBlock, Exit.then])
                        go_ret
                        exact ⟨retb HV.out.symm, below_iter _ _ _⟩
                      · by_cases r15 : c ≤ 94
                        · have hc : 91 ≤ c ∧ c ≤ 94 := by omega
                          have q0 : decide ((97 : Int) ≤ (c : Int)) = false := by simp; omega
                          have q1 : decide ((c : Int) ≤ 122) = true := by simp; omega
                          have q2 : decide ((65 : Int) ≤ (c : Int)) = true := by simp; omega
                          have q3 : decide ((c : Int) ≤ 90) = false := by simp; omega
                          have q4 : decide ((48 : Int) ≤ (c : Int)) = true := by simp; omega
                          have q5 : decide ((c : Int) ≤ 57) = false := by simp; omega
                          have q6 : ((c : Int) == 95) = false := by simp; omega
                          have q7 : ((c : Int) == 64) = false := by simp; omega
                          have hok : Hid (okAt 0 c = false) := Lib.hid (by unfold okAt; apply decide_eq_false; omega)
                          have hok2 : Hid (okAt 0 s[0].toNat = false) := Lib.hid (by rw [← HR.out.1]; exact hok.out)
                          have HV : Hid (nameB s = false) := Lib.hid (HB.out hok2.out)
                          clear HG HK HB HR hok hok2
                          go_wp2_with fail
                          (try simp only [Exit.inBlock, Exit.then])
                          go_ret
                          exact ⟨retb HV.out.symm, below_iter _ _ _⟩
                        · by_cases r16 : c ≤ 95
                          · have hc : 95 ≤ c ∧ c ≤ 95 := by omega
                            obtain rfl : c = 95 := by omega
                            have hok : Hid (okAt 0 95 = false) := Lib.hid (by unfold okAt; apply decide_eq_false; omega)
                            have hok2 : Hid (okAt 0 s[0].toNat = false) := Lib.hid (by rw [← HR.out.1]; exact hok.out)
                            have HV : Hid (nameB s = false) := Lib.hid (HB.out hok2.out)
                            clear HG HK HB HR hok hok2
                            go_wp2_with fail
                            (try simp only [Exit.inBlock, Exit.then])
                            go_ret
                            exact ⟨retb HV.out.symm, below_iter _ _ _⟩
                          · by_cases r17 : c ≤ 96
                            · have hc : 96 ≤ c ∧ c ≤ 96 := by omega
                              obtain rfl : c = 96 := by omega
                              have hok : Hid (okAt 0 96 = false) := Lib.hid (by unfold okAt; apply decide_eq_false; omega)
                              have hok2 : Hid (okAt 0 s[0].toNat = false) := Lib.hid (by rw [← HR.out.1]; exact hok.out)
                              have HV : Hid (nameB s = false) := Lib.hid (HB.out hok2.out)
                              clear HG HK HB HR hok hok2
                              go_wp2_with fail
                              (try simp only [Exit.inBlock, Exit.then])
                              go_ret
                              exact ⟨retb HV.out.symm, below_iter _ _ _⟩
                            · have hc : 123 ≤ c := by omega
                              have q0 : decide ((97 : Int) ≤ (c : Int)) = true := by simp; omega
                              have q1 : decide ((c : Int) ≤ 122) = false := by simp; omega
                              have q2 : decide ((65 : Int) ≤ (c : Int)) = true := by simp; omega
                              have q3 : decide ((c : Int) ≤ 90) = false := by simp; omega
                              have q4 : decide ((48 : Int) ≤ (c : Int)) = true := by simp; omega
                              have q5 : decide ((c : Int) ≤ 57) = false := by simp; omega
                              have q6 : ((c : Int) == 95) = false := by simp; omega
                              have q7 : ((c : Int) == 64) = false := by simp; omega
                              have hok : Hid (okAt 0 c = false) := Lib.hid (by unfold okAt; apply decide_eq_false; omega)
                              have hok2 : Hid (okAt 0 s[0].toNat = false) := Lib.hid (by rw [← HR.out.1]; exact hok.out)
                              have HV : Hid (nameB s = false) := Lib.hid (HB.out hok2.out)
                              clear HG HK HB HR hok hok2
                              go_wp2_with fail
                              (try simp only [Exit.inBlock, Exit.then])
                              go_ret
                              exact ⟨retb HV.out.symm, below_iter _ _ _⟩
            · by_cases r10 : c ≤ 47
              · have hc : 0 ≤ c ∧ c ≤ 47 := by omega
                have q0 : decide ((97 : Int) ≤ (c : Int)) = false := by simp; omega
                have q1 : decide ((c : Int) ≤ 122) = true := by simp; omega
                have q2 : decide ((65 : Int) ≤ (c : Int)) = false := by simp; omega
                have q3 : decide ((c : Int) ≤ 90) = true := by simp; omega
                have q4 : decide ((48 : Int) ≤ (c : Int)) = false := by simp; omega
                have q5 : decide ((c : Int) ≤ 57) = true := by simp; omega
                have q6 : ((c : Int) == 95) = false := by simp; omega
                have q7 : ((c : Int) == 64) = false := by simp; omega
                have q9 : decide ((0 : Int) < (pos : Int)) = true := by simp; omega
                have hok : Hid (okAt pos c = false) := Lib.hid (by unfold okAt; apply decide_eq_false; omega)
                have hok2 : Hid (okAt pos s[pos].toNat = false) := Lib.hid (by rw [← HR.out.1]; exact hok.out)
                have HV : Hid (nameB s = false) := Lib.hid (HB.out hok2.out)
                clear HG HK HB HR hok hok2
                go_wp2_with fail
                (try simp only [Exit.inBlock, Exit.then])
                go_ret
                exact ⟨retb HV.out.symm, below_iter _ _ _⟩
              · by_cases r11 : c ≤ 57
                · have hc : 48 ≤ c ∧ c ≤ 57 := by omega
                  have q0 : decide ((97 : Int) ≤ (c : Int)) = false := by simp; omega
                  have q1 : decide ((c : Int) ≤ 122) = true := by simp; omega
                  have q2 : decide ((65 : Int) ≤ (c : Int)) = false := by simp; omega
                  have q3 : decide ((c : Int) ≤ 90) = true := by simp; omega
                  have q4 : decide ((48 : Int) ≤ (c : Int)) = true := by simp; omega
                  have q5 : decide ((c : Int) ≤ 57) = true := by simp; omega
                  have q6 : ((c : Int) == 95) = false := by simp; omega
                  have q7 : ((c : Int) == 64) = false := by simp; omega
                  have q9 : decide ((0 : Int) < (pos : Int)) = true := by simp; omega
                  have hok : Hid (okAt pos c = true) := Lib.hid (by unfold okAt; apply decide_eq_true; omega)
                  have hok2 : Hid (okAt pos s[pos].toNat = true) := Lib.hid (by rw [← HR.out.1]; exact hok.out)
                  obtain rfl := HR.out.2 hok2.out
                  have HG2 := Lib.hid (HK.out hok2.out)
                  clear HG HK HB HR hok hok2
                  go_wp2_with fail
                  go_roundw
                  case rel => exact ⟨_, by omega, rfl, HG2⟩
                  case measure => simp; omega
                · by_cases r12 : c ≤ 63
                  · have hc : 58 ≤ c ∧ c ≤ 63 := by omega
                    have q0 : decide ((97 : Int) ≤ (c : Int)) = false := by simp; omega
                    have q1 : decide ((c : Int) ≤ 122) = true := by simp; omega
                    have q2 : decide ((65 : Int) ≤ (c : Int)) = false := by simp; omega
                    have q3 : decide ((c : Int) ≤ 90) = true := by simp; omega
                    have q4 : decide ((48 : Int) ≤ (c : Int)) = true := by simp; omega
                    have q5 : decide ((c : Int) ≤ 57) = false := by simp; omega
                    have q6 : ((c : Int) == 95) = false := by simp; omega
                    have q7 : ((c : Int) == 64) = false := by simp; omega
                    have q9 : decide ((0 : Int) < (pos : Int)) = true := by simp; omega
                    have hok : Hid (okAt pos c = false) := Lib.hid (by unfold okAt; apply decide_eq_false; omega)
                    have hok2 : Hid (okAt pos s[pos].toNat = false) := Lib.hid (by rw [← HR.out.1]; exact hok.out)
                    have HV : Hid (nameB s = false) := Lib.hid (HB.out hok2.out)
                    clear HG HK HB HR hok hok2
                    go_wp2_with fail
                    (try simp only [Exit.inBlock, Exit.then])
                    go_ret
                    exact ⟨retb HV.out.symm, below_iter _ _ _⟩
                  · by_cases r13 : c ≤ 64
                    · have hc : 64 ≤ c ∧ c ≤ 64 := by omega
                      obtain rfl : c = 64 := by omega
                      have q9 : decide ((0 : Int) < (pos : Int)) = true := by simp; omega
                      have hok : Hid (okAt pos 64 = true) := Lib.hid (by unfold okAt; apply decide_eq_true; omega)
                      have hok2 : Hid (okAt pos s[pos].toNat = true) := Lib.hid (by rw [← HR.out.1]; exact hok.out)
                      obtain rfl := HR.out.2 hok2.out
                      have HG2 := Lib.hid (HK.out hok2.out)
                      clear HG HK HB HR hok hok2
                      go_wp2_with fail
                      go_roundw
                      case rel => exact ⟨_, by omega, rfl, HG2⟩
                      case measure => simp; omega
                    · by_cases r14 : c ≤ 90
                      · have hc : 65 ≤ c ∧ c ≤ 90 := by omega
                        have q0 : decide ((97 : Int) ≤ (c : Int)) = false := by simp; omega
                        have q1 : decide ((c : Int) ≤ 122) = true := by simp; omega
                        have q2 : decide ((65 : Int) ≤ (c : Int)) = true := by simp; omega
                        have q3 : decide ((c : Int) ≤ 90) = true := by simp; omega
                        have q4 : decide ((48 : Int) ≤ (c : Int)) = true := by simp; omega
                        have q5 : decide ((c : Int) ≤ 57) = false := by simp; omega
                        have q6 : ((c : Int) == 95) = false := by simp; omega
                        have q7 : ((c : Int) == 64) = false := by simp; omega
                        have q9 : decide ((0 : Int) < (pos : Int)) = true := by simp; omega
                        have hok : Hid (okAt pos c = true) := Lib.hid (by unfold okAt; apply decide_eq_true; omega)
                        have hok2 : Hid (okAt pos s[pos].toNat = true) := Lib.hid (by rw [← HR.out.1]; exact hok.out)
                        obtain rfl := HR.out.2 hok2.out
                        have HG2 := Lib.hid (HK.out hok2.out)
                        clear HG HK HB HR hok hok2
                        go_wp2_with fail
                        go_roundw
                        case rel => exact ⟨_, by omega, rfl, HG2⟩
                        case measure => simp; omega
                      · by_cases r15 : c ≤ 94
                        · have hc : 91 ≤ c ∧ c ≤ 94 := by omega
                          have q0 : decide ((97 : Int) ≤ (c : Int)) = false := by simp; omega
                          have q1 : decide ((c : Int) ≤ 122) = true := by simp; omega
                          have q2 : decide ((65 : Int) ≤ (c : Int)) = true := by simp; omega
                          have q3 : decide ((c : Int) ≤ 90) = false := by simp; omega
                          have q4 : decide ((48 : Int) ≤ (c : Int)) = true := by simp; omega
                          have q5 : decide ((c : Int) ≤ 57) = false := by simp; omega
                          have q6 : ((c : Int) == 95) = false := by simp; omega
                          have q7 : ((c : Int) == 64) = false := by simp; omega
                          have q9 : decide ((0 : Int) < (pos : Int)) = true := by simp; omega
                          have hok : Hid (okAt pos c = false) := Lib.hid (by unfold okAt; apply decide_eq_false; omega)
                          have hok2 : Hid (okAt pos s[pos].toNat = false) := Lib.hid (by rw [← HR.out.1]; exact hok.out)
                          have HV : Hid (nameB s = false) := Lib.hid (HB.out hok2.out)
                          clear HG HK HB HR hok hok2
                          go_wp2_with fail
                          (try simp only [Exit.inBlock, Exit.then])
                          go_ret
                          exact ⟨retb HV.out.symm, below_iter _ _ _⟩
                        · by_cases r16 : c ≤ 95
                          · have hc : 95 ≤ c ∧ c ≤ 95 := by omega
                            obtain rfl : c = 95 := by omega
                            have q9 : decide ((0 : Int) < (pos : Int)) = true := by simp; omega
                            have hok : Hid (okAt pos 95 = true) := Lib.hid (by unfold okAt; apply decide_eq_true; omega)
                            have hok2 : Hid (okAt pos s[pos].toNat = true) := Lib.hid (by rw [← HR.out.1]; exact hok.out)
                            obtain rfl := HR.out.2 hok2.out
                            have HG2 := Lib.hid (HK.out hok2.out)
                            clear HG HK HB HR hok hok2
                            go_wp2_with fail
                            go_roundw
                            case rel => exact ⟨_, by omega, rfl, HG2⟩
                            case measure => simp; omega
                          · by_cases r17 : c ≤ 96
                            · have hc : 96 ≤ c ∧ c ≤ 96 := by omega
                              obtain rfl : c = 96 := by omega
                              have q9 : decide ((0 : Int) < (pos : Int)) = true := by simp; omega
                              have hok : Hid (okAt pos 96 = false) := Lib.hid (by unfold okAt; apply decide_eq_false; omega)
                              have hok2 : Hid (okAt pos s[pos].toNat = false) := Lib.hid (by rw [← HR.out.1]; exact hok.out)
                              have HV : Hid (nameB s = false) := Lib.hid (HB.out hok2.out)
                              clear HG HK HB HR hok hok2
                              go_wp2_with fail
                              (try simp only [Exit.inBlock, Exit.then])
                              go_ret
                              exact ⟨retb HV.out.symm, below_iter _ _ _⟩
                            · have hc : 123 ≤ c := by omega
                              have q0 : decide ((97 : Int) ≤ (c : Int)) = true := by simp; omega
                              have q1 : decide ((c : Int) ≤ 122) = false := by simp; omega
                              have q2 : decide ((65 : Int) ≤ (c : Int)) = true := by simp; omega
                              have q3 : decide ((c : Int) ≤ 90) = false := by simp; omega
                              have q4 : decide ((48 : Int) ≤ (c : Int)) = true := by simp; omega
                              have q5 : decide ((c : Int) ≤ 57) = false := by simp; omega
                              have q6 : ((c : Int) == 95) = false := by simp; omega
                              have q7 : ((c : Int) == 64) = false := by simp; omega
                              have q9 : decide ((0 : Int) < (pos : Int)) = true := by simp; omega
                              have hok : Hid (okAt pos c = false) := Lib.hid (by unfold okAt; apply decide_eq_false; omega)
                              have hok2 : Hid (okAt pos s[pos].toNat = false) := Lib.hid (by rw [← HR.out.1]; exact hok.out)
                              have HV : Hid (nameB s = false) := Lib.hid (HB.out hok2.out)
                              clear HG HK HB HR hok hok2
                              go_wp2_with fail
                              (try simp only [Exit.inBlock, Exit.then])
                              go_ret
                              exact ⟨retb HV.out.symm, below_iter _ _ _⟩
        · have hnx : ∀ ty, (Instr.next (.pointer (some ⟨w.heap.size, 0, none⟩)) true ty).run Tryz.prog (w.iter s pos) = _ := fun ty => run_next_end w s pos ty hp
          have HV : Hid (nameB s = true) := Lib.hid (nameB_good (by omega) (by omega) (fun i h => HG.out i h (by omega)))
          clear HG
          go_wp2_with fail
          (try simp only [Exit.inBlock, Exit.then])
          go_ret
          exact ⟨retb HV.out.symm, below_iter _ _ _⟩
end Go.Proofs.YthmpobimmbmddaaGreatDoor
