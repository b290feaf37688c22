/-
  stagehandref01: the reference's loops: up, down, Shl, Shr, bit, Mul. The arguments are 64-bit integers.
-/
import Derived.Test.YtlefjhicjmkonaaIRef
import Derived.Lib.Hide
namespace Go.Proofs.Ytlefjhicjmkonaa
open Go.RowKit

set_option maxHeartbeats 400000 in
theorem rup_any (a n : Int) (w : World) (ha : I64 a) (h0 : 0 ≤ n) (h1 : n ≤ 9223372036854775807) :
    Calls Try.prog 37 #[.int .i64 a, .int .i64 n] w fun e w' => e = .returned (.tuple #[.int .i64 (shv a n), .int .i64 (she a n)]) ∧ w = w' := by
  rw [(shv_up h0).1, (shv_up h0).2]
  go_enter Try.func37, Try.ntmps37
  go_wp2
  go_loop [0, 6] (fun v i => ∃ k : Nat, k ≤ n.toNat ∧ i = .int .i64 k ∧ v = .int .i64 (a * 2 ^ k) ∧ I64 (a * 2 ^ k)) (fun _ i => n.toNat - (intOf i).toNat)
  case atStart => exact ⟨0, Nat.zero_le _, rfl, by simp, by simpa using ha⟩
  case round =>
    obtain ⟨k, hk, rfl, rfl, hc⟩ := hrel
    have hs := pow_succ2 a k
    have HS := Lib.hid hs; clear hs
    have hov := @pow_over a k n.toNat
    have hze := @pow_zero_end a k n.toNat
    have HOV := Lib.hid hov; have HZE := Lib.hid hze; clear hov hze
    generalize hce : a * 2 ^ k = c at *
    have HC := Lib.hid hce; clear hce
    have c1 := hc.1; have c2 := hc.2
    by_cases hlt : (k : Int) < n
    · by_cases hz : c = 0
      · have hz' : (c != 0) = false := by simp [hz]
        have HZ := Lib.hid hz; clear hz
        go_wp2
        go_ret2
        have e := HZE.out HZ.out
        exact ⟨ret2 (by rw [e, HZ.out]; rfl) (by rw [e]; rfl), rfl⟩
      · have nz : (c != 0) = true := by simp [hz]
        clear hz
        by_cases hb : c < -4611686018427387904 ∨ 4611686018427387903 < c
        · have hn := HOV.out (by omega) hb
          rcases hb with hb | hb
          · go_wp2
            go_ret2
            exact ⟨to_err hn, rfl⟩
          · go_wp2
            go_ret2
            exact ⟨to_err hn, rfl⟩
        · have hb1 : -4611686018427387904 ≤ c := by omega
          have hb2 : c ≤ 4611686018427387903 := by omega
          clear hb
          go_wp2
          go_round
          case rel => exact ⟨k + 1, by omega, by go_num, by rw [HS.out], by rw [HS.out]; unfold I64; omega⟩
          case measure => simp [intOf]; omega
    · go_wp2
      go_ret2
      have e : n.toNat = k := by omega
      exact ⟨ret2 (by rw [e, HC.out, okv_fit hc]) (by rw [e, HC.out, oke_fit hc]), rfl⟩

set_option maxHeartbeats 400000 in
theorem rdown_any (a n : Int) (w : World) (ha : I64 a) (h0 : n ≤ 0) (h1 : -9223372036854775808 ≤ n) :
    Calls Try.prog 36 #[.int .i64 a, .int .i64 n] w fun e w' => e = .returned (.int .i64 (a / 2 ^ (-n).toNat)) ∧ w = w' := by
  go_enter Try.func36, Try.ntmps36
  go_wp2
  go_loop [0, 1] (fun v i => ∃ k : Nat, k ≤ (-n).toNat ∧ i = .int .i64 (n + k) ∧ v = .int .i64 (a / 2 ^ k) ∧ I64 (a / 2 ^ k)) (fun _ i => (-(intOf i)).toNat)
  case atStart => exact ⟨0, Nat.zero_le _, by simp, by simp, by simpa using ha⟩
  case round =>
    obtain ⟨k, hk, rfl, rfl, hc⟩ := hrel
    have hs := half_succ a k
    have HS := Lib.hid hs; clear hs
    have hen := @half_end a k (-n).toNat (by omega)
    have HEN := Lib.hid hen; clear hen
    generalize hce : a / 2 ^ k = c at *
    have HC := Lib.hid hce; clear hce
    have c1 := hc.1; have c2 := hc.2
    by_cases hlt : n + (k : Int) < 0
    · by_cases hz : c = 0
      · have hz' : (c != 0) = false := by simp [hz]
        have HZ := Lib.hid hz; clear hz
        go_wp2
        go_ret
        exact ⟨ret1 (HEN.out (Or.inl HZ.out)).symm, rfl⟩
      · by_cases hm : c = -1
        · have hz' : (c != -1) = false := by simp [hm]
          have nz : (c != 0) = true := by simp [hz]
          clear hz
          have HM := Lib.hid hm; clear hm
          go_wp2
          go_ret
          exact ⟨ret1 (HEN.out (Or.inr HM.out)).symm, rfl⟩
        · have nz : (c != 0) = true := by simp [hz]
          have nm : (c != -1) = true := by simp [hm]
          clear hz hm
          by_cases hp : 0 ≤ c
          · go_wp2
            go_round
            case rel => exact ⟨k + 1, by omega, by go_num, by rw [HS.out], by rw [HS.out]; unfold I64; omega⟩
            case measure => simp [intOf]; omega
          · by_cases ho : c.tmod 2 = 0
            · have e := half_neg_even ho
              have HE := Lib.hid e
              have ho' : (c.tmod 2 != 0) = false := by simp [ho]
              clear ho e
              go_wp2
              go_round
              case rel => exact ⟨k + 1, by omega, by go_num, by rw [HS.out, HE.out], by rw [HS.out]; unfold I64; omega⟩
              case measure => simp [intOf]; omega
            · have e := half_neg_odd (by omega) ho
              have HE := Lib.hid e
              have ho' : (c.tmod 2 != 0) = true := by simp [ho]
              have b1 : -4611686018427387904 ≤ c.tdiv 2 := by omega
              have b2 : c.tdiv 2 ≤ 0 := by omega
              clear ho e
              go_wp2
              go_round
              case rel => exact ⟨k + 1, by omega, by go_num, by rw [HS.out, HE.out], by rw [HS.out]; unfold I64; omega⟩
              case measure => simp [intOf]; omega
    · go_wp2
      go_ret
      have e : (-n).toNat = k := by omega
      exact ⟨ret1 (by rw [e, HC.out]), rfl⟩

set_option maxHeartbeats 400000 in
theorem rbit_any (y i : Int) (w : World) (hy : I64 y) (hy0 : y ≤ 0) (h0 : 0 ≤ i) (h1 : i ≤ 63) :
    Calls Try.prog 41 #[.int .i64 y, .int .i64 i] w fun e w' => e = .returned (.bool (bitv y i.toNat)) ∧ w = w' := by
  obtain ⟨y1, y2⟩ := hy
  go_enter Try.func41, Try.ntmps41
  go_wp2
  go_ret
  exact ⟨retb (bit_val y1 hy0 _), rfl⟩

set_option maxHeartbeats 400000 in
theorem rshl_any (a n : Int) (w : World) (ha : I64 a) (hn : I64 n) :
    Calls Try.prog 16 #[.int .i64 a, .int .i64 n] w fun e w' => e = .returned (.tuple #[.int .i64 (shv a n), .int .i64 (she a n)]) ∧ w = w' := by
  obtain ⟨n1, n2⟩ := hn
  by_cases h : n < 0
  · go_enter Try.func16, Try.ntmps16
    go_wp2_with (go_at_call 36; refine (rdown_any _ _ _ ha (by omega) n1).mono ?_; rintro e w1 ⟨rfl, rfl⟩)
    go_ret2
    exact ⟨ret2 (by rw [shv, if_pos h]) (by rw [she, if_pos h]), rfl⟩
  · go_enter Try.func16, Try.ntmps16
    go_wp2_with (go_at_call 37; refine (rup_any _ _ _ ha (by omega) n2).mono ?_; rintro e w1 ⟨rfl, rfl⟩)
    go_ret2
    exact ⟨rfl, rfl⟩

set_option maxHeartbeats 400000 in
theorem rshr_any (a n : Int) (w : World) (ha : I64 a) (hn : I64 n) :
    Calls Try.prog 18 #[.int .i64 a, .int .i64 n] w fun e w' => e = .returned (.tuple #[.int .i64 (shv a (-n)), .int .i64 (she a (-n))]) ∧ w = w' := by
  obtain ⟨n1, n2⟩ := hn
  by_cases h : n < 0
  · by_cases hl : n = -9223372036854775808
    · have e : ∀ m, m = 9223372036854775807 → shv a m = shv a (-n) ∧ she a m = she a (-n) := fun m hm => shv_same ha (by omega) (by omega)
      have E := Lib.hid e
      have hl' : (n == -9223372036854775808) = true := by simpa using hl
      clear hl e
      go_enter Try.func18, Try.ntmps18
      go_wp2_with (go_at_call 37; refine (rup_any _ _ _ ha (by omega) (by omega)).mono ?_; rintro e w1 ⟨rfl, rfl⟩)
      go_ret2
      exact ⟨ret2 (E.out _ rfl).1 (E.out _ rfl).2, rfl⟩
    · have hl' : (n == -9223372036854775808) = false := by simpa using hl
      go_enter Try.func18, Try.ntmps18
      go_wp2_with (go_at_call 37; refine (rup_any _ _ _ ha (by omega) (by omega)).mono ?_; rintro e w1 ⟨rfl, rfl⟩)
      go_ret2
      exact ⟨rfl, rfl⟩
  · go_enter Try.func18, Try.ntmps18
    go_wp2_with (go_at_call 36; refine (rdown_any _ _ _ ha (by omega) (by omega)).mono ?_; rintro e w1 ⟨rfl, rfl⟩)
    go_ret2
    by_cases n0 : n = 0
    · subst n0
      exact ⟨ret2 (by rw [shv]; simp [okv_fit ha]) (by rw [she]; simp [oke_fit ha]), rfl⟩
    · exact ⟨ret2 (by rw [shv, if_pos (by omega), Int.neg_neg]) (by rw [she, if_pos (by omega)]), rfl⟩

end Go.Proofs.Ytlefjhicjmkonaa
