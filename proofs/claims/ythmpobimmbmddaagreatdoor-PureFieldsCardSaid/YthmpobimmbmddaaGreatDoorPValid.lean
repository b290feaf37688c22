/-
  bits.Valid of a bit string that is valid: the walk.
-/
import Derived.Test.YthmpobimmbmddaaGreatDoorPAdd
import Derived.Laws.IdiomStrings
namespace Go.Proofs.YthmpobimmbmddaaGreatDoor
open Go.RowKit
set_option linter.unusedVariables false
set_option linter.unusedSimpArgs false

/-- The bit string of some bits, as a value. -/
abbrev bstr (m : List Bool) : ByteArray := ⟨(packB m).toArray⟩
theorem bstr_size (m : List Bool) : (bstr m).size = (m.length + 7) / 8 := by
  have e : (bstr m).size = (packB m).length := by show (packB m).toArray.size = _; simp
  rw [e, packB_length]
/-- The last byte is filled up with zeros. -/
theorem last_zero (m : List Bool) (h : 0 < m.length % 8) (hi : (bstr m).size - 1 < (bstr m).size) : (bstr m)[(bstr m).size - 1].toNat &&& 255 >>> (m.length % 8) = 0 := by
  obtain ⟨A, r, h1, h2, h3, _⟩ := packB_split m h
  have hsz : (bstr m).size = A.length + 1 := by
    have e : (bstr m).size = (packB m).length := by show (packB m).toArray.size = _; simp
    rw [e, h1]; simp
  have e : (bstr m)[(bstr m).size - 1] = UInt8.ofNat (pk r) := by
    have h4 : byteAt (bstr m) ((bstr m).size - 1) = (bstr m)[(bstr m).size - 1] := byteAt_in hi
    rw [← h4]
    unfold byteAt
    have h5 : (bstr m).data.toList = A ++ [UInt8.ofNat (pk r)] := by show (packB m).toArray.toList = _; rw [List.toList_toArray, h1]
    rw [h5, hsz, List.getElem?_append_right (by omega)]
    simp
  rw [e, UInt8.toNat_ofNat', Nat.mod_eq_of_lt (pk_lt r)]
  apply testBit_ext
  intro j
  have h255 : (255 : Nat) = 2 ^ 8 - 1 := rfl
  rw [Nat.testBit_and, pk_bit, Nat.testBit_shiftRight, h255, Nat.testBit_two_pow_sub_one, Nat.zero_testBit]
  by_cases hj : j < 8
  · by_cases hr : 7 - j < r.length
    · have e1 : ¬ m.length % 8 + j < 8 := by omega
      simp [e1]
    · rw [List.getElem?_eq_none (by omega)]
      simp
  · simp [hj]
set_option maxRecDepth 100000 in
set_option maxHeartbeats 4000000 in
theorem bvalid_any (m : List Bool) (hm : m.length ≤ 70368744177664) (w : World) : Calls Tryz.prog 54 #[.agg #[.string (bstr m), .int .i64 m.length]] w fun e w' => e = .returned (.bool true) ∧ Below w.heap.size w w' := by
  have hsz := bstr_size m
  have HZ := Lib.hid (fun h h2 => last_zero m h h2)
  have HB := Lib.hid ((Below.refl w.heap.size w).alloc (Nat.le_refl _) (.cells #[.string (bstr m), .int .i64 m.length] 56))
  generalize bstr m = y at *
  generalize m.length = n at *
  have E1 : ((y.size : Int) != (((n + 7) / 8 : Nat) : Int)) = false := by rw [hsz]; simp
  by_cases h0 : n % 8 = 0
  · have t1 : (((n : Int) % 8) == 0) = true := beq_iff_eq.2 (by omega)
    clear h0 HZ
    go_enter Tryz.func54, Tryz.ntmps54
    go_wp2_with fail
    go_quiet ((go_at_call 127; exact Calls.quiet_of_same ((blen_any n (by omega) _).mono fun _ _ ⟨a, b⟩ => ⟨a, b.symm⟩)))
    go_wp2_with fail
    go_ret
    exact ⟨rfl, below_drewN HB.out _⟩
  · have hZ : Hid (∀ h : (n + 7) / 8 - 1 < y.size, bits .and .u8 ((y[(n + 7) / 8 - 1].toNat : Nat) : Int) ((255 : Int) / (2 : Int) ^ (n % 8)) = 0) := Lib.hid (fun h => by
      have h7 : (y[(n + 7) / 8 - 1]'h) = y[y.size - 1]'(by omega) := by congr 1; omega
      have h6 : ((255 : Int) / (2 : Int) ^ (n % 8)) = (((255 >>> (n % 8)) : Nat) : Int) := by rw [Nat.shiftRight_eq_div_pow]; simp
      rw [h6, h7]
      have h5 : 255 >>> (n % 8) < 256 := by rw [Nat.shiftRight_eq_div_pow]; exact Nat.lt_of_le_of_lt (Nat.div_le_self _ _) (by decide)
      rw [and_u8 _ _ (y[y.size - 1].toNat_lt) h5, HZ.out (by omega) (by omega)]; rfl)
    have t1 : (((n : Int) % 8) == 0) = false := beq_eq_false_iff_ne.2 (by omega)
    have hy0 : 0 < y.size := by omega
    clear HZ h0
    go_enter Tryz.func54, Tryz.ntmps54
    go_wp2_with fail
    go_quiet ((go_at_call 127; exact Calls.quiet_of_same ((blen_any n (by omega) _).mono fun _ _ ⟨a, b⟩ => ⟨a, b.symm⟩)))
    go_wp2_with fail
    go_ret
    exact ⟨retb (by rw [hZ.out]; rfl), below_drewN HB.out _⟩
end Go.Proofs.YthmpobimmbmddaaGreatDoor
