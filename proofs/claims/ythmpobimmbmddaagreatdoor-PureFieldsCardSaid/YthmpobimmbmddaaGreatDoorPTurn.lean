/-
  The bits of an integer, plain. No program in sight.
  bits.turn, bits.PutInt: the walks.
-/
import Derived.Test.YthmpobimmbmddaaGreatDoorBitsP
import Derived.Test.YthmpobimmbmddaaGreatDoorPDone
import Derived.Test.YthmpobimmbmddaaGreatDoorTCap
namespace Go.Proofs.YthmpobimmbmddaaGreatDoor
set_option linter.unusedVariables false
set_option linter.unusedSimpArgs false

/-- The low 64 bits of an integer. -/
def u64 (v : Int) : Nat := (v % 18446744073709551616).toNat
theorem u64_lt (v : Int) : u64 v < 2 ^ 64 := by unfold u64; omega
/-- Its low bits at the upper end. -/
def upN (v : Int) (k : Nat) : Nat := (u64 v * 2 ^ (64 - k)) % 2 ^ 64
/-- The bytes from the upper end on. -/
def byteOf (x i : Nat) : Nat := (x * 2 ^ (8 * i)) % 2 ^ 64 / 2 ^ 56
def bytesN (v : Int) (k : Nat) : List UInt8 := (List.range ((k + 7) / 8)).map fun i => UInt8.ofNat (byteOf (upN v k) i)
def bitsN (v : Int) (k : Nat) : List Bool := (List.range k).map fun j => (u64 v).testBit (k - 1 - j)
theorem bytesN_len (v : Int) (k : Nat) : (bytesN v k).length = (k + 7) / 8 := by unfold bytesN; simp
theorem bitsN_len (v : Int) (k : Nat) : (bitsN v k).length = k := by unfold bitsN; simp
theorem byteOf_lt (x i : Nat) : byteOf x i < 256 := by
  unfold byteOf
  have : (x * 2 ^ (8 * i)) % 2 ^ 64 < 2 ^ 64 := Nat.mod_lt _ (by decide)
  omega
theorem byteOf_bit (x i j : Nat) (hx : x < 2 ^ 64) (hj : j < 8) (hi : i < 8) : (byteOf x i).testBit j = x.testBit (56 + j - 8 * i) := by
  unfold byteOf
  rw [← Nat.shiftLeft_eq, ← Nat.shiftRight_eq_div_pow, Nat.testBit_shiftRight, Nat.testBit_mod_two_pow, Nat.testBit_shiftLeft]
  have h1 : 56 + j < 64 := by omega
  have h2 : 56 + j ≥ 8 * i := by omega
  simp [h1, h2]
theorem upN_bit (v : Int) (k p : Nat) (hk : k ≤ 64) (hp : p < 64) : (upN v k).testBit p = (decide (64 - k ≤ p) && (u64 v).testBit (p - (64 - k))) := by
  unfold upN
  rw [← Nat.shiftLeft_eq, Nat.testBit_mod_two_pow, Nat.testBit_shiftLeft]
  simp [hp]
theorem upN_lt (v : Int) (k : Nat) : upN v k < 2 ^ 64 := Nat.mod_lt _ (by decide)
theorem packB_get : ∀ (i : Nat) (m : List Bool), 8 * i < m.length → (packB m)[i]? = some (UInt8.ofNat (pk (m.drop (8 * i))))
  | 0, m, h => by
    have hm : m ≠ [] := by intro e; subst e; simp at h
    rw [packB_cons m hm]; rfl
  | i + 1, m, h => by
    have hm : m ≠ [] := by intro e; subst e; simp at h
    rw [packB_cons m hm, List.getElem?_cons_succ, packB_get i (m.drop 8) (by rw [List.length_drop]; omega), List.drop_drop, show 8 + 8 * i = 8 * (i + 1) by omega]
/-- The bytes are those of the bits. -/
theorem bytesN_pack (v : Int) (k : Nat) (hk : k ≤ 64) : packB (bitsN v k) = bytesN v k := by
  apply List.ext_getElem?
  intro i
  by_cases hi : i < (k + 7) / 8
  · rw [packB_get i _ (by rw [bitsN_len]; omega)]
    unfold bytesN
    rw [List.getElem?_map, List.getElem?_range hi, Option.map_some]
    congr 1
    congr 1
    apply testBit_ext
    intro j
    rw [pk_bit]
    by_cases hj : j < 8
    · rw [byteOf_bit _ _ _ (upN_lt v k) hj (by omega), upN_bit v k _ hk (by omega), List.getElem?_drop]
      unfold bitsN
      rw [List.getElem?_map]
      by_cases hb : 8 * i + (7 - j) < k
      · rw [List.getElem?_range hb]
        have e1 : 64 - k ≤ 56 + j - 8 * i := by omega
        have e2 : k - 1 - (8 * i + (7 - j)) = 56 + j - 8 * i - (64 - k) := by omega
        simp [hj, e1, e2]
      · rw [List.getElem?_eq_none (by simp; omega)]
        have e1 : ¬ 64 - k ≤ 56 + j - 8 * i := by omega
        simp [hj, e1]
    · have := byteOf_lt (upN v k) i
      rw [Nat.testBit_lt_two_pow (Nat.lt_of_lt_of_le this (Nat.pow_le_pow_right (n := 2) (by decide) (show 8 ≤ j by omega)))]
      simp [hj]
  · rw [List.getElem?_eq_none (by rw [packB_length, bitsN_len]; omega), List.getElem?_eq_none (by rw [bytesN_len]; omega)]
/-- Bit i of the bytes, the highest first. -/
theorem bytesN_bit (v : Int) (k i : Nat) (hk : k ≤ 64) (hi : i < k) : ((bytesN v k)[i / 8]?.getD 0).toNat.testBit (7 - i % 8) = (u64 v).testBit (k - 1 - i) := by
  unfold bytesN
  rw [List.getElem?_map, List.getElem?_range (by omega), Option.map_some, Option.getD_some, UInt8.toNat_ofNat', Nat.mod_eq_of_lt (byteOf_lt _ _), byteOf_bit _ _ _ (upN_lt v k) (by omega) (by omega), upN_bit v k _ hk (by omega)]
  have e1 : 64 - k ≤ 56 + (7 - i % 8) - 8 * (i / 8) := by omega
  have e2 : 56 + (7 - i % 8) - 8 * (i / 8) - (64 - k) = k - 1 - i := by omega
  simp [e1, e2]
theorem u64_bit (v : Int) (p : Nat) (hp : p < 64) : (u64 v).testBit p = decide (v / 2 ^ p % 2 = 1) := by
  unfold u64
  have h : ((v % 18446744073709551616).toNat : Int) = v % 18446744073709551616 := Int.toNat_of_nonneg (by omega)
  rw [Nat.testBit_eq_decide_div_mod_eq]
  congr 1
  apply propext
  have e1 : (((v % 18446744073709551616).toNat / 2 ^ p % 2 : Nat) : Int) = (v % 18446744073709551616) / 2 ^ p % 2 := by
    push_cast; rw [h]
  have e2 : (v % 18446744073709551616) / 2 ^ p % 2 = v / 2 ^ p % 2 := by
    have h2 : (18446744073709551616 : Int) = 2 ^ p * (2 * 2 ^ (63 - p)) := by
      have : (2 : Int) ^ p * (2 * 2 ^ (63 - p)) = 2 ^ (p + (1 + (63 - p))) := by rw [Int.pow_add, Int.pow_add]; rfl
      rw [this, show p + (1 + (63 - p)) = 64 by omega]; rfl
    have hq : v % 18446744073709551616 = v - 18446744073709551616 * (v / 18446744073709551616) := by have := Int.emod_add_mul_ediv v 18446744073709551616; omega
    rw [hq, h2]
    generalize v / (2 ^ p * (2 * 2 ^ (63 - p))) = q
    have hpos : (0 : Int) < 2 ^ p := Int.pow_pos (by decide)
    have e3 : v - 2 ^ p * (2 * 2 ^ (63 - p)) * q = v + 2 ^ p * (-(2 * 2 ^ (63 - p)) * q) := by
      rw [Int.sub_eq_add_neg, ← Int.neg_mul, ← Int.mul_neg, Int.mul_assoc]
    rw [e3, Int.add_mul_ediv_left _ _ (by omega)]
    have e4 : -(2 * 2 ^ (63 - p)) * q = 2 * (-(2 ^ (63 - p) * q)) := by
      rw [Int.neg_mul, Int.mul_assoc, Int.mul_neg]
    rw [e4, Int.add_mul_emod_self_left]
  omega
/-- A row whose first k and last k elements have changed places. -/
def swL (l : List UInt8) (k : Nat) : List UInt8 := (List.range l.length).map fun x => if x < k ∨ l.length - 1 - x < k then l.getD (l.length - 1 - x) 0 else l.getD x 0
theorem swL_len (l : List UInt8) (k : Nat) : (swL l k).length = l.length := by unfold swL; simp
theorem swL_at (l : List UInt8) (k x : Nat) (h : x < l.length) : (swL l k)[x]? = some (if x < k ∨ l.length - 1 - x < k then l.getD (l.length - 1 - x) 0 else l.getD x 0) := by
  unfold swL; rw [List.getElem?_map, List.getElem?_range h]; rfl
theorem swL_zero (l : List UInt8) : swL l 0 = l := by
  apply List.ext_getElem?
  intro x
  by_cases h : x < l.length
  · rw [swL_at l 0 x h, if_neg (by omega), List.getElem?_eq_getElem h, List.getD_eq_getElem?_getD, List.getElem?_eq_getElem h]; rfl
  · rw [List.getElem?_eq_none (by rw [swL_len]; omega), List.getElem?_eq_none (by omega)]
theorem swL_step (l : List UInt8) (k : Nat) (h : 2 * k + 1 < l.length) : swL l (k + 1) = ((swL l k).set k (l.getD (l.length - 1 - k) 0)).set (l.length - 1 - k) (l.getD k 0) := by
  apply List.ext_getElem?
  intro x
  by_cases hx : x < l.length
  · rw [swL_at l (k + 1) x hx, List.getElem?_set, List.getElem?_set]
    by_cases h1 : l.length - 1 - k = x
    · subst h1
      rw [if_pos (by omega), if_pos rfl, if_pos (by rw [List.length_set, swL_len]; omega)]
      congr 2; omega
    · rw [if_neg h1]
      by_cases h2 : k = x
      · subst h2
        rw [if_pos (by omega), if_pos rfl, if_pos (by rw [swL_len]; omega)]
      · rw [if_neg h2, swL_at l k x hx]
        have e : (x < k + 1 ∨ l.length - 1 - x < k + 1) ↔ (x < k ∨ l.length - 1 - x < k) := by omega
        simp only [e]
  · rw [List.getElem?_eq_none (by rw [swL_len]; omega), List.getElem?_eq_none (by rw [List.length_set, List.length_set, swL_len]; omega)]
theorem swL_end (l : List UInt8) (k : Nat) (h : l.length ≤ 2 * k + 1) : swL l k = l.reverse := by
  apply List.ext_getElem?
  intro x
  by_cases hx : x < l.length
  · rw [swL_at l k x hx, List.getElem?_reverse hx, List.getElem?_eq_getElem (by omega)]
    by_cases h1 : x < k ∨ l.length - 1 - x < k
    · rw [if_pos h1, List.getD_eq_getElem?_getD, List.getElem?_eq_getElem (by omega)]; rfl
    · rw [if_neg h1, List.getD_eq_getElem?_getD, List.getElem?_eq_getElem hx, Option.getD_some]
      congr 2; omega
  · rw [List.getElem?_eq_none (by rw [swL_len]; omega), List.getElem?_eq_none (by rw [List.length_reverse]; omega)]
end Go.Proofs.YthmpobimmbmddaaGreatDoor
namespace Go.Proofs.YthmpobimmbmddaaGreatDoor
open Go.RowKit
set_option linter.unusedVariables false
set_option linter.unusedSimpArgs false

theorem grownBy_set1 (w : World) (r o : Nat) (v : Value) : w.grownBy (w.setCell ⟨r, o, none⟩ v) (some r) :=
  ⟨rfl, rfl, rfl, by simp [World.setCell], fun k _ hk => Below.heap_setCell w ⟨r, o, none⟩ v k (fun e => hk (congrArg some e))⟩
theorem byteC_at (l : List UInt8) (i : Nat) (h : i < l.length) : (byteC l).toArray[i]? = some (.int .u8 ((l.getD i 0).toNat : Int)) := by
  have e : (byteC l)[i]? = some (.int .u8 (l[i].toNat : Int)) := by unfold byteC; rw [List.getElem?_map, List.getElem?_eq_getElem h]; rfl
  rw [List.getElem?_toArray, e, List.getD_eq_getElem?_getD, List.getElem?_eq_getElem h]; rfl
theorem byteC_set (l : List UInt8) (i : Nat) (x : UInt8) : (byteC l).toArray.setIfInBounds i (.int .u8 (x.toNat : Int)) = (byteC (l.set i x)).toArray := by
  unfold byteC; simp [List.map_set]
set_option maxRecDepth 100000 in
set_option maxHeartbeats 4000000 in
theorem turn_any (l : List UInt8) (b c : Nat) (w : World) (h : w.heap[b]? = some (.cells (byteC l).toArray 5 (0, 0))) (hl : l.length ≤ 1000000) :
    Calls Tryz.prog 128 #[.slice (some ⟨b, 0, none⟩) l.length c] w fun e w' => e = .returned (.tuple #[]) ∧ w'.heap[b]? = some (.cells (byteC l.reverse).toArray 5 (0, 0)) ∧ w.grownBy w' (some b) := by
  have H0 := Lib.hid (show w.heap[b]? = some (.cells (byteC (swL l 0)).toArray 5 (0, 0)) by rw [swL_zero]; exact h)
  clear h
  go_enter Tryz.func128, Tryz.ntmps128
  go_wp2_with fail
  go_loopw [2, 3] (fun iv jv wr => ∃ k : Nat, 2 * k ≤ l.length + 1 ∧ iv = .int .i64 k ∧ jv = .int .i64 ((l.length : Int) - 1 - k) ∧ Hid (wr.heap[b]? = some (.cells (byteC (swL l k)).toArray 5 (0, 0))) ∧ Hid (w.grownBy wr (some b))) (fun iv _ _ => l.length + 1 - (intOf iv).toNat)
  case atStart => exact ⟨0, by omega, rfl, by simp, H0, Lib.hid (grownBy_refl _ _)⟩
  case round =>
    obtain ⟨k, hk, rfl, rfl, HR, HG⟩ := hrel
    rename World => wr
    by_cases hlt : 2 * k + 1 < l.length
    · have t1 : decide ((k : Int) < (l.length : Int) - 1 - k) = true := decide_eq_true (by omega)
      obtain ⟨m, hm⟩ : ∃ m : Nat, m = l.length - 1 - k := ⟨_, rfl⟩
      have hmi : (l.length : Int) - 1 - k = (m : Int) := by omega
      rw [hmi] at t1 ⊢
      have hck := byteC_at (swL l k) k (by rw [swL_len]; omega)
      have hcm := byteC_at (swL l k) m (by rw [swL_len]; omega)
      rw [← cell_of_row _ _ k _ _ _ HR.out] at hck
      rw [← cell_of_row _ _ m _ _ _ HR.out] at hcm
      have hfk := Lib.frozen_of_heap HR.out k
      have hfm := Lib.frozen_of_heap HR.out m
      have hs := swL_step l k hlt
      rw [← hm] at hs
      have evk : (swL l k).getD k 0 = l.getD k 0 := by rw [List.getD_eq_getElem?_getD, swL_at l k k (by omega), if_neg (by omega)]; rfl
      have evm : (swL l k).getD m 0 = l.getD m 0 := by rw [List.getD_eq_getElem?_getD, swL_at l k m (by omega), if_neg (by omega)]; rfl
      rw [evk] at hck
      rw [evm] at hcm
      generalize l.getD k 0 = xk at *
      generalize l.getD m 0 = xm at *
      have HS := Lib.hid hs
      clear hs evk evm
      have hkm : k < m := by omega
      have hml : m < l.length := by omega
      have HM := Lib.hid hm
      clear hm hmi
      go_upto_region 3 with fail
      go_region
      have hr1 := heap_setCell_same wr b k _ _ (.int .u8 (xm.toNat : Int)) HR.out
      rw [byteC_set] at hr1
      have hr2 := heap_setCell_same _ b m _ _ (.int .u8 (xk.toNat : Int)) hr1
      rw [byteC_set, ← HS.out] at hr2
      have HR2 : Hid (((wr.setCell ⟨b, k, none⟩ (.int .u8 (xm.toNat : Int))).setCell ⟨b, m, none⟩ (.int .u8 (xk.toNat : Int))).drew.heap[b]? = some (.cells (byteC (swL l (k + 1))).toArray 5 (0, 0))) := Lib.hid hr2
      have HG2 : Hid (w.grownBy ((wr.setCell ⟨b, k, none⟩ (.int .u8 (xm.toNat : Int))).setCell ⟨b, m, none⟩ (.int .u8 (xk.toNat : Int))).drew (some b)) := Lib.hid (grownBy_drew (grownBy_trans (grownBy_trans HG.out (grownBy_set1 _ _ _ _)) (grownBy_set1 _ _ _ _)))
      clear hr1 hr2 hck hcm hfk hfm
      go_wp2_with fail
      go_roundw
      case rel => exact ⟨k + 1, by omega, by go_num, by congr 1; have := HM.out; omega, HR2, HG2⟩
      case measure => simp [intOf]; omega
    · have t1 : decide ((k : Int) < (l.length : Int) - 1 - k) = false := decide_eq_false (by omega)
      have HE := Lib.hid (swL_end l k (by omega))
      go_wp2_with fail
      (try simp only [Exit.inBlock, Exit.then])
      go_end0
      exact ⟨rfl, by rw [← HE.out]; exact HR.out, HG.out⟩
end Go.Proofs.YthmpobimmbmddaaGreatDoor
