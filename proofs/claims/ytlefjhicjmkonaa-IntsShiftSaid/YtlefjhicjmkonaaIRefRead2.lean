/-
  stagehandref01.Read: what it computes of any string.
-/
import Derived.Test.YtlefjhicjmkonaaIRefRead
namespace Go.Proofs.Ytlefjhicjmkonaa
open Go.RowKit

set_option maxHeartbeats 1000000 in
theorem rread_any (s : ByteArray) (w : World) (hs : s.size ≤ maxLen) :
    Calls Try.prog 12 #[.string s] w fun e w' => e = .returned (.tuple #[.int .i64 (rdv s.data.toList), .int .i64 (rde s.data.toList)]) ∧ w = w' := by
  have hs' := hs
  unfold maxLen at hs
  cases hf : form s.data.toList with
  | false =>
    have E1 : Hid (rdv s.data.toList = 0) := Lib.hid (by unfold rdv; rw [hf]; rfl)
    have E2 : Hid (rde s.data.toList = 6) := Lib.hid (by unfold rde; rw [hf]; rfl)
    go_enter Try.func12, Try.ntmps12
    go_wp2_with (go_at_call 33; refine (rform_any _ _ hs').mono ?_; rintro e w1 ⟨rfl, rfl⟩)
    go_ret2
    exact ⟨ret2 E1.out.symm E2.out.symm, rfl⟩
  | true =>
    have E1 : Hid (rdv s.data.toList = okv (num s.data.toList)) := Lib.hid (by unfold rdv; rw [hf]; rfl)
    have E2 : Hid (rde s.data.toList = oke (num s.data.toList)) := Lib.hid (by unfold rde; rw [hf]; rfl)
    have hd : dgs (mag s.data.toList) = true := by unfold form at hf; simp only [Bool.and_eq_true] at hf; exact hf.1
    have hm : (mag s.data.toList).length ≤ s.data.toList.length := by unfold mag; split <;> simp
    have hl : 0 < s.data.toList.length := by have := dgs_len hd; omega
    have hp : 0 < s.size := by rw [← size_list]; exact hl
    have HDG := Lib.hid hd
    clear hd hm
    by_cases c : s[0].toNat = 45
    · have hg : sgn s.data.toList = true := by rw [sgn_of hl]; exact decide_eq_true c
      have HM := Lib.hid (form_neg hg)
      have c2 : ((s[0].toNat : Int) == 45) = true := by simp [c]
      have hx : (s.extract 1 s.size).data.toList = mag s.data.toList := by rw [extract1_list, HM.out.1]
      have hxs := extract1_size s
      have HX := Lib.hid hx
      have hts : (s.extract 1 s.size).size ≤ 9223372036854775807 := by omega
      have HFO := Lib.hid hf
      clear c hg hl hx hxs hf
      go_enter Try.func12, Try.ntmps12
      go_wp2_with (go_at_call 33; refine (rform_any _ _ hs').mono ?_; rintro e w1 ⟨rfl, rfl⟩; rw [HFO.out])
      generalize s.extract 1 s.size = t at *
      have HT : Hid (t.data.toList = mag s.data.toList) := HX
      have HN : Hid (num s.data.toList = -(val t.data.toList : Int)) := Lib.hid (by rw [HM.out.2, HT.out])
      have hts2 : t.data.toList.length = t.size := size_list t
      have HD : Hid (∀ j (hj : j < t.size), 48 ≤ t[j].toNat ∧ t[j].toNat ≤ 57) := Lib.hid (fun j hj => by
        have := dgs_digit HDG.out j (by rw [← HT.out, size_list]; exact hj)
        simp only [← HT.out] at this
        exact this)
      have HOV : Hid (∀ k, 9223372036854775808 < val (t.data.toList.take k) → ¬ I64 (num s.data.toList)) := Lib.hid (fun k h => by rw [HN.out]; exact (val_over h).2)
      have HL := Lib.hid hts2; clear hts2
      go_loop [5, 6] (fun v i => ∃ k : Nat, k ≤ t.size ∧ i = .int .i64 k ∧ v = .int .i64 (-(val (t.data.toList.take k) : Int)) ∧ val (t.data.toList.take k) ≤ 9223372036854775808) (fun _ i => t.size - (intOf i).toNat)
      case atStart => exact ⟨0, Nat.zero_le _, rfl, rfl, Nat.zero_le _⟩
      case round =>
        obtain ⟨k, hk, rfl, rfl, hv⟩ := hrel
        by_cases hlt : k < t.size
        · have hst := val_take (l := t.data.toList) (k := k) (by rw [HL.out]; exact hlt)
          have HST : Hid (val (t.data.toList.take (k + 1)) = 10 * val (t.data.toList.take k) + (t[k].toNat - 48)) := Lib.hid hst
          clear hst
          have hb := HD.out k hlt
          have HOV1 := Lib.hid (HOV.out (k + 1))
          generalize hV : val (t.data.toList.take k) = V at *
          clear hV
          have e := tdiv10 (d := (t[k].toNat : Int) - 48) (by omega)
          by_cases big : 9223372036854775808 < 10 * V + (t[k].toNat - 48)
          · have hn := HOV1.out (by rw [HST.out]; exact big)
            go_wp2
            go_ret2
            exact ⟨ret2 (by rw [E1.out, okv_not hn]) (by rw [E2.out, oke_not hn]), rfl⟩
          · go_wp2
            go_round
            case rel => exact ⟨k + 1, by omega, by go_num, by rw [HST.out]; exact congrArg (Value.int .i64) (by omega), by rw [HST.out]; omega⟩
            case measure => simp [intOf]; omega
        · have hfull : t.data.toList.take k = t.data.toList := List.take_of_length_le (by rw [HL.out]; omega)
          rw [hfull] at hv ⊢
          clear hfull
          go_wp2
          go_ret2
          have hf : I64 (num s.data.toList) := by rw [HN.out]; unfold I64; omega
          exact ⟨ret2 (by rw [E1.out, okv_fit hf, HN.out]) (by rw [E2.out, oke_fit hf]), rfl⟩
    · have hg : sgn s.data.toList = false := by rw [sgn_of hl]; exact decide_eq_false c
      have HM := Lib.hid (form_pos hg)
      have c2 : ((s[0].toNat : Int) == 45) = false := by rw [beq_eq_false_iff_ne]; omega
      have HT : Hid (s.data.toList = mag s.data.toList) := Lib.hid (HM.out.1).symm
      have HN : Hid (num s.data.toList = (val s.data.toList : Int)) := Lib.hid (by rw [HM.out.2, ← HT.out])
      have HFO := Lib.hid hf
      clear c hg hl hf
      go_enter Try.func12, Try.ntmps12
      go_wp2_with (go_at_call 33; refine (rform_any _ _ hs').mono ?_; rintro e w1 ⟨rfl, rfl⟩; rw [HFO.out])
      have hts2 : s.data.toList.length = s.size := size_list s
      have HD : Hid (∀ j (hj : j < s.size), 48 ≤ s[j].toNat ∧ s[j].toNat ≤ 57) := Lib.hid (fun j hj => by
        have := dgs_digit HDG.out j (by rw [← HT.out, size_list]; exact hj)
        simp only [← HT.out] at this
        exact this)
      have HOV : Hid (∀ k, 9223372036854775808 < val (s.data.toList.take k) → ¬ I64 (num s.data.toList)) := Lib.hid (fun k h => by rw [HN.out]; exact (val_over h).1)
      have HL := Lib.hid hts2; clear hts2
      go_loop [5, 6] (fun v i => ∃ k : Nat, k ≤ s.size ∧ i = .int .i64 k ∧ v = .int .i64 (-(val (s.data.toList.take k) : Int)) ∧ val (s.data.toList.take k) ≤ 9223372036854775808) (fun _ i => s.size - (intOf i).toNat)
      case atStart => exact ⟨0, Nat.zero_le _, rfl, rfl, Nat.zero_le _⟩
      case round =>
        obtain ⟨k, hk, rfl, rfl, hv⟩ := hrel
        by_cases hlt : k < s.size
        · have hst := val_take (l := s.data.toList) (k := k) (by rw [HL.out]; exact hlt)
          have HST : Hid (val (s.data.toList.take (k + 1)) = 10 * val (s.data.toList.take k) + (s[k].toNat - 48)) := Lib.hid hst
          clear hst
          have hb := HD.out k hlt
          have HOV1 := Lib.hid (HOV.out (k + 1))
          generalize hV : val (s.data.toList.take k) = V at *
          clear hV
          have e := tdiv10 (d := (s[k].toNat : Int) - 48) (by omega)
          by_cases big : 9223372036854775808 < 10 * V + (s[k].toNat - 48)
          · have hn := HOV1.out (by rw [HST.out]; exact big)
            go_wp2
            go_ret2
            exact ⟨ret2 (by rw [E1.out, okv_not hn]) (by rw [E2.out, oke_not hn]), rfl⟩
          · go_wp2
            go_round
            case rel => exact ⟨k + 1, by omega, by go_num, by rw [HST.out]; exact congrArg (Value.int .i64) (by omega), by rw [HST.out]; omega⟩
            case measure => simp [intOf]; omega
        · have hfull : s.data.toList.take k = s.data.toList := List.take_of_length_le (by rw [HL.out]; omega)
          rw [hfull] at hv ⊢
          clear hfull
          go_wp2_with (go_at_call 26; refine (rneg_any _ _ ⟨by omega, by omega⟩).mono ?_; rintro e w1 ⟨rfl, rfl⟩)
          go_ret2
          exact ⟨ret2 (by rw [E1.out, HN.out]) (by rw [E2.out, HN.out]), rfl⟩

end Go.Proofs.Ytlefjhicjmkonaa
