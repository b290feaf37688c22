/-
  The bits of an integer, plain. No program in sight.   bits.turn, bits.PutInt: the walks. bits.PutInt: the walk. A map that the call has made, from strings to values of any kind: what it holds is a function from keys to values. Decimal texts: the plain functions. No program in sight. ints.Text: the decimal text of a 64-bit integer.
-/
import Derived.Maps.OwnOps
import Derived.Maps.OwnSet
import Derived.Maps.Views
import Derived.Lib.Hide
import Derived.Test.YthmpobimmbmddaaGreatDoorB01
import Derived.Test.YthmpobimmbmddaaGreatDoorB04
import Derived.Test.YthmpobimmbmddaaGreatDoorB05
namespace Go.Proofs.YthmpobimmbmddaaGreatDoor
set_option linter.unusedVariables false
set_option linter.unusedSimpArgs false

/-- The low 64 bits of an integer. -/
def u64 (v : Int) : Nat := (v % 18446744073709551616).toNat
theorem u64_lt (v : Int) : u64 v < 2 ^ 64 := by unfold u64; omega
/-- Its low bits at the upper end. -/
def upN (v : Int) (k : Nat) : Nat := (u64 v * 2 ^ (64 - k)) % 2 ^ 64
/-- The bytes from the upper end on. -/
def byteOf (x i : Nat) : Nat := (x * 2 ^ (8 * i)) % 2 ^ 64 / 2 ^ 56
def bytesN (v : Int) (k : Nat) : List UInt8 := (List.range ((k + 7) / 8)).map fun i => UInt8.ofNat (byteOf (upN v k) i)
def bitsN (v : Int) (k : Nat) : List Bool := (List.range k).map fun j => (u64 v).testBit (k - 1 - j)
theorem bytesN_len (v : Int) (k : Nat) : (bytesN v k).length = (k + 7) / 8 := by unfold bytesN; simp
theorem bitsN_len (v : Int) (k : Nat) : (bitsN v k).length = k := by unfold bitsN; simp
theorem byteOf_lt (x i : Nat) : byteOf x i < 256 := by
  unfold byteOf
  have : (x * 2 ^ (8 * i)) % 2 ^ 64 < 2 ^ 64 := Nat.mod_lt _ (by decide)
  omega
theorem byteOf_bit (x i j : Nat) (hx : x < 2 ^ 64) (hj : j < 8) (hi : i < 8) : (byteOf x i).testBit j = x.testBit (56 + j - 8 * i) := by
  unfold byteOf
  rw [← Nat.shiftLeft_eq, ← Nat.shiftRight_eq_div_pow, Nat.testBit_shiftRight, Nat.testBit_mod_two_pow, Nat.testBit_shiftLeft]
  have h1 : 56 + j < 64 := by omega
  have h2 : 56 + j ≥ 8 * i := by omega
  simp [h1, h2]
theorem upN_bit (v : Int) (k p : Nat) (hk : k ≤ 64) (hp : p < 64) : (upN v k).testBit p = (decide (64 - k ≤ p) && (u64 v).testBit (p - (64 - k))) := by
  unfold upN
  rw [← Nat.shiftLeft_eq, Nat.testBit_mod_two_pow, Nat.testBit_shiftLeft]
  simp [hp]
theorem upN_lt (v : Int) (k : Nat) : upN v k < 2 ^ 64 := Nat.mod_lt _ (by decide)
theorem packB_get : ∀ (i : Nat) (m : List Bool), 8 * i < m.length → (packB m)[i]? = some (UInt8.ofNat (pk (m.drop (8 * i))))
  | 0, m, h => by
    have hm : m ≠ [] := by intro e; subst e; simp at h
    rw [packB_cons m hm]; rfl
  | i + 1, m, h => by
    have hm : m ≠ [] := by intro e; subst e; simp at h
    rw [packB_cons m hm, List.getElem?_cons_succ, packB_get i (m.drop 8) (by rw [List.length_drop]; omega), List.drop_drop, show 8 + 8 * i = 8 * (i + 1) by omega]
/-- The bytes are those of the bits. -/
theorem bytesN_pack (v : Int) (k : Nat) (hk : k ≤ 64) : packB (bitsN v k) = bytesN v k := by
  apply List.ext_getElem?
  intro i
  by_cases hi : i < (k + 7) / 8
  · rw [packB_get i _ (by rw [bitsN_len]; omega)]
    unfold bytesN
    rw [List.getElem?_map, List.getElem?_range hi, Option.map_some]
    congr 1
    congr 1
    apply testBit_ext
    intro j
    rw [pk_bit]
    by_cases hj : j < 8
    · rw [byteOf_bit _ _ _ (upN_lt v k) hj (by omega), upN_bit v k _ hk (by omega), List.getElem?_drop]
      unfold bitsN
      rw [List.getElem?_map]
      by_cases hb : 8 * i + (7 - j) < k
      · rw [List.getElem?_range hb]
        have e1 : 64 - k ≤ 56 + j - 8 * i := by omega
        have e2 : k - 1 - (8 * i + (7 - j)) = 56 + j - 8 * i - (64 - k) := by omega
        simp [hj, e1, e2]
      · rw [List.getElem?_eq_none (by simp; omega)]
        have e1 : ¬ 64 - k ≤ 56 + j - 8 * i := by omega
        simp [hj, e1]
    · have := byteOf_lt (upN v k) i
      rw [Nat.testBit_lt_two_pow (Nat.lt_of_lt_of_le this (Nat.pow_le_pow_right (n := 2) (by decide) (show 8 ≤ j by omega)))]
      simp [hj]
  · rw [List.getElem?_eq_none (by rw [packB_length, bitsN_len]; omega), List.getElem?_eq_none (by rw [bytesN_len]; omega)]
/-- Bit i of the bytes, the highest first. -/
theorem bytesN_bit (v : Int) (k i : Nat) (hk : k ≤ 64) (hi : i < k) : ((bytesN v k)[i / 8]?.getD 0).toNat.testBit (7 - i % 8) = (u64 v).testBit (k - 1 - i) := by
  unfold bytesN
  rw [List.getElem?_map, List.getElem?_range (by omega), Option.map_some, Option.getD_some, UInt8.toNat_ofNat', Nat.mod_eq_of_lt (byteOf_lt _ _), byteOf_bit _ _ _ (upN_lt v k) (by omega) (by omega), upN_bit v k _ hk (by omega)]
  have e1 : 64 - k ≤ 56 + (7 - i % 8) - 8 * (i / 8) := by omega
  have e2 : 56 + (7 - i % 8) - 8 * (i / 8) - (64 - k) = k - 1 - i := by omega
  simp [e1, e2]
theorem u64_bit (v : Int) (p : Nat) (hp : p < 64) : (u64 v).testBit p = decide (v / 2 ^ p % 2 = 1) := by
  unfold u64
  have h : ((v % 18446744073709551616).toNat : Int) = v % 18446744073709551616 := Int.toNat_of_nonneg (by omega)
  rw [Nat.testBit_eq_decide_div_mod_eq]
  congr 1
  apply propext
  have e1 : (((v % 18446744073709551616).toNat / 2 ^ p % 2 : Nat) : Int) = (v % 18446744073709551616) / 2 ^ p % 2 := by
    push_cast; rw [h]
  have e2 : (v % 18446744073709551616) / 2 ^ p % 2 = v / 2 ^ p % 2 := by
    have h2 : (18446744073709551616 : Int) = 2 ^ p * (2 * 2 ^ (63 - p)) := by
      have : (2 : Int) ^ p * (2 * 2 ^ (63 - p)) = 2 ^ (p + (1 + (63 - p))) := by rw [Int.pow_add, Int.pow_add]; rfl
      rw [this, show p + (1 + (63 - p)) = 64 by omega]; rfl
    have hq : v % 18446744073709551616 = v - 18446744073709551616 * (v / 18446744073709551616) := by have := Int.emod_add_mul_ediv v 18446744073709551616; omega
    rw [hq, h2]
    generalize v / (2 ^ p * (2 * 2 ^ (63 - p))) = q
    have hpos : (0 : Int) < 2 ^ p := Int.pow_pos (by decide)
    have e3 : v - 2 ^ p * (2 * 2 ^ (63 - p)) * q = v + 2 ^ p * (-(2 * 2 ^ (63 - p)) * q) := by
      rw [Int.sub_eq_add_neg, ← Int.neg_mul, ← Int.mul_neg, Int.mul_assoc]
    rw [e3, Int.add_mul_ediv_left _ _ (by omega)]
    have e4 : -(2 * 2 ^ (63 - p)) * q = 2 * (-(2 ^ (63 - p) * q)) := by
      rw [Int.neg_mul, Int.mul_assoc, Int.mul_neg]
    rw [e4, Int.add_mul_emod_self_left]
  omega
/-- A row whose first k and last k elements have changed places. -/
def swL (l : List UInt8) (k : Nat) : List UInt8 := (List.range l.length).map fun x => if x < k ∨ l.length - 1 - x < k then l.getD (l.length - 1 - x) 0 else l.getD x 0
theorem swL_len (l : List UInt8) (k : Nat) : (swL l k).length = l.length := by unfold swL; simp
theorem swL_at (l : List UInt8) (k x : Nat) (h : x < l.length) : (swL l k)[x]? = some (if x < k ∨ l.length - 1 - x < k then l.getD (l.length - 1 - x) 0 else l.getD x 0) := by
  unfold swL; rw [List.getElem?_map, List.getElem?_range h]; rfl
theorem swL_zero (l : List UInt8) : swL l 0 = l := by
  apply List.ext_getElem?
  intro x
  by_cases h : x < l.length
  · rw [swL_at l 0 x h, if_neg (by omega), List.getElem?_eq_getElem h, List.getD_eq_getElem?_getD, List.getElem?_eq_getElem h]; rfl
  · rw [List.getElem?_eq_none (by rw [swL_len]; omega), List.getElem?_eq_none (by omega)]
theorem swL_step (l : List UInt8) (k : Nat) (h : 2 * k + 1 < l.length) : swL l (k + 1) = ((swL l k).set k (l.getD (l.length - 1 - k) 0)).set (l.length - 1 - k) (l.getD k 0) := by
  apply List.ext_getElem?
  intro x
  by_cases hx : x < l.length
  · rw [swL_at l (k + 1) x hx, List.getElem?_set, List.getElem?_set]
    by_cases h1 : l.length - 1 - k = x
    · subst h1
      rw [if_pos (by omega), if_pos rfl, if_pos (by rw [List.length_set, swL_len]; omega)]
      congr 2; omega
    · rw [if_neg h1]
      by_cases h2 : k = x
      · subst h2
        rw [if_pos (by omega), if_pos rfl, if_pos (by rw [swL_len]; omega)]
      · rw [if_neg h2, swL_at l k x hx]
        have e : (x < k + 1 ∨ l.length - 1 - x < k + 1) ↔ (x < k ∨ l.length - 1 - x < k) := by omega
        simp only [e]
  · rw [List.getElem?_eq_none (by rw [swL_len]; omega), List.getElem?_eq_none (by rw [List.length_set, List.length_set, swL_len]; omega)]
theorem swL_end (l : List UInt8) (k : Nat) (h : l.length ≤ 2 * k + 1) : swL l k = l.reverse := by
  apply List.ext_getElem?
  intro x
  by_cases hx : x < l.length
  · rw [swL_at l k x hx, List.getElem?_reverse hx, List.getElem?_eq_getElem (by omega)]
    by_cases h1 : x < k ∨ l.length - 1 - x < k
    · rw [if_pos h1, List.getD_eq_getElem?_getD, List.getElem?_eq_getElem (by omega)]; rfl
    · rw [if_neg h1, List.getD_eq_getElem?_getD, List.getElem?_eq_getElem hx, Option.getD_some]
      congr 2; omega
  · rw [List.getElem?_eq_none (by rw [swL_len]; omega), List.getElem?_eq_none (by rw [List.length_reverse]; omega)]
end Go.Proofs.YthmpobimmbmddaaGreatDoor
namespace Go.Proofs.YthmpobimmbmddaaGreatDoor
open Go.RowKit
set_option linter.unusedVariables false
set_option linter.unusedSimpArgs false

theorem grownBy_set1 (w : World) (r o : Nat) (v : Value) : w.grownBy (w.setCell ⟨r, o, none⟩ v) (some r) :=
  ⟨rfl, rfl, rfl, by simp [World.setCell], fun k _ hk => Below.heap_setCell w ⟨r, o, none⟩ v k (fun e => hk (congrArg some e))⟩
theorem byteC_at (l : List UInt8) (i : Nat) (h : i < l.length) : (byteC l).toArray[i]? = some (.int .u8 ((l.getD i 0).toNat : Int)) := by
  have e : (byteC l)[i]? = some (.int .u8 (l[i].toNat : Int)) := by unfold byteC; rw [List.getElem?_map, List.getElem?_eq_getElem h]; rfl
  rw [List.getElem?_toArray, e, List.getD_eq_getElem?_getD, List.getElem?_eq_getElem h]; rfl
theorem byteC_set (l : List UInt8) (i : Nat) (x : UInt8) : (byteC l).toArray.setIfInBounds i (.int .u8 (x.toNat : Int)) = (byteC (l.set i x)).toArray := by
  unfold byteC; simp [List.map_set]
set_option maxRecDepth 100000 in
set_option maxHeartbeats 4000000 in
theorem turn_any (l : List UInt8) (b c : Nat) (w : World) (h : w.heap[b]? = some (.cells (byteC l).toArray 5 (0, 0))) (hl : l.length ≤ 1000000) :
    Calls Tryz.prog 128 #[.slice (some ⟨b, 0, none⟩) l.length c] w fun e w' => e = .returned (.tuple #[]) ∧ w'.heap[b]? = some (.cells (byteC l.reverse).toArray 5 (0, 0)) ∧ w.grownBy w' (some b) := by
  have H0 := Lib.hid (show w.heap[b]? = some (.cells (byteC (swL l 0)).toArray 5 (0, 0)) by rw [swL_zero]; exact h)
  clear h
  go_enter Tryz.func128, Tryz.ntmps128
  go_wp2_with fail
  go_loopw [2, 3] (fun iv jv wr => ∃ k : Nat, 2 * k ≤ l.length + 1 ∧ iv = .int .i64 k ∧ jv = .int .i64 ((l.length : Int) - 1 - k) ∧ Hid (wr.heap[b]? = some (.cells (byteC (swL l k)).toArray 5 (0, 0))) ∧ Hid (w.grownBy wr (some b))) (fun iv _ _ => l.length + 1 - (intOf iv).toNat)
  case atStart => exact ⟨0, by omega, rfl, by simp, H0, Lib.hid (grownBy_refl _ _)⟩
  case round =>
    obtain ⟨k, hk, rfl, rfl, HR, HG⟩ := hrel
    rename World => wr
    by_cases hlt : 2 * k + 1 < l.length
    · have t1 : decide ((k : Int) < (l.length : Int) - 1 - k) = true := decide_eq_true (by omega)
      obtain ⟨m, hm⟩ : ∃ m : Nat, m = l.length - 1 - k := ⟨_, rfl⟩
      have hmi : (l.length : Int) - 1 - k = (m : Int) := by omega
      rw [hmi] at t1 ⊢
      have hck := byteC_at (swL l k) k (by rw [swL_len]; omega)
      have hcm := byteC_at (swL l k) m (by rw [swL_len]; omega)
      rw [← cell_of_row _ _ k _ _ _ HR.out] at hck
      rw [← cell_of_row _ _ m _ _ _ HR.out] at hcm
      have hfk := Lib.frozen_of_heap HR.out k
      have hfm := Lib.frozen_of_heap HR.out m
      have hs := swL_step l k hlt
      rw [← hm] at hs
      have evk : (swL l k).getD k 0 = l.getD k 0 := by rw [List.getD_eq_getElem?_getD, swL_at l k k (by omega), if_neg (by omega)]; rfl
      have evm : (swL l k).getD m 0 = l.getD m 0 := by rw [List.getD_eq_getElem?_getD, swL_at l k m (by omega), if_neg (by omega)]; rfl
      rw [evk] at hck
      rw [evm] at hcm
      generalize l.getD k 0 = xk at *
      generalize l.getD m 0 = xm at *
      have HS := Lib.hid hs
      clear hs evk evm
      have hkm : k < m := by omega
      have hml : m < l.length := by omega
      have HM := Lib.hid hm
      clear hm hmi
      go_upto_region 3 with fail
      go_region
      have hr1 := heap_setCell_same wr b k _ _ (.int .u8 (xm.toNat : Int)) HR.out
      rw [byteC_set] at hr1
      have hr2 := heap_setCell_same _ b m _ _ (.int .u8 (xk.toNat : Int)) hr1
      rw [byteC_set, ← HS.out] at hr2
      have HR2 : Hid (((wr.setCell ⟨b, k, none⟩ (.int .u8 (xm.toNat : Int))).setCell ⟨b, m, none⟩ (.int .u8 (xk.toNat : Int))).drew.heap[b]? = some (.cells (byteC (swL l (k + 1))).toArray 5 (0, 0))) := Lib.hid hr2
      have HG2 : Hid (w.grownBy ((wr.setCell ⟨b, k, none⟩ (.int .u8 (xm.toNat : Int))).setCell ⟨b, m, none⟩ (.int .u8 (xk.toNat : Int))).drew (some b)) := Lib.hid (grownBy_drew (grownBy_trans (grownBy_trans HG.out (grownBy_set1 _ _ _ _)) (grownBy_set1 _ _ _ _)))
      clear hr1 hr2 hck hcm hfk hfm
      go_wp2_with fail
      go_roundw
      case rel => exact ⟨k + 1, by omega, by go_num, by congr 1; have := HM.out; omega, HR2, HG2⟩
      case measure => simp [intOf]; omega
    · have t1 : decide ((k : Int) < (l.length : Int) - 1 - k) = false := decide_eq_false (by omega)
      have HE := Lib.hid (swL_end l k (by omega))
      go_wp2_with fail
      (try simp only [Exit.inBlock, Exit.then])
      go_end0
      exact ⟨rfl, by rw [← HE.out]; exact HR.out, HG.out⟩
end Go.Proofs.YthmpobimmbmddaaGreatDoor
namespace Go.Proofs.YthmpobimmbmddaaGreatDoor
open Go.RowKit
set_option linter.unusedVariables false
set_option linter.unusedSimpArgs false

/-- The bytes of an integer, in either order. -/
def intBytes (v : Int) (k : Nat) (lt : Bool) : List UInt8 := if lt = true then (bytesN v k).reverse else bytesN v k
theorem below_of_grown {w w' : World} (h : w.grownBy w' none) : Below w.heap.size w w' := ⟨h.os, h.tape, h.output, h.size, fun k hk => h.block k hk (by simp)⟩
theorem made_row {w : World} {B g n : Nat} (h : w.ownsRow B 5 1 (.slice (some ⟨g, 0, none⟩) n n) n (madeCells (Value.int .u8 0).cells (n * 1)).toList) : w.heap[g]? = some (.cells (byteC (List.replicate n 0)).toArray 5 (0, 0)) := by
  obtain ⟨h1, h2⟩ := h
  have e : (madeCells (Value.int .u8 0).cells (n * 1)).toList = byteC (List.replicate n 0) := by
    unfold byteC
    rw [Nat.mul_one] at h1 ⊢
    apply List.ext_getElem?
    intro i
    by_cases hi : i < n
    · rw [List.getElem?_map, List.getElem?_replicate_of_lt hi]
      simp [madeCells, hi, Value.cells, Nat.mod_one]
    · rw [List.getElem?_eq_none (by omega), List.getElem?_eq_none (by simp; omega)]
  rw [e] at h1 h2
  rcases h2 with ⟨h2, _⟩ | ⟨g', cap, cur, h2, _, hg, hc, _, hs, ht⟩
  · cases h2
  · injection h2 with h3 _ h4
    injection h3 with h3
    injection h3 with h3 _ _
    subst h3 h4
    rw [hg]
    have : cur = (byteC (List.replicate n 0)).toArray := by
      rw [← ht, List.take_of_length_le (by simp [hs]), Array.toArray_toList]
    rw [this]
theorem conv_row {w : World} {b c : Nat} {L : List UInt8} (h : w.heap[b]? = some (.cells (byteC L).toArray 5 (0, 0))) : (convert 50 9 (.slice (some ⟨b, 0, none⟩) L.length c)).run Tryz.prog w = .ok (.string ⟨L.toArray⟩) w := by
  refine run_convert_bytes_back (P := Tryz.prog) w 50 9 5 ⟨b, 0, none⟩ c L Tryz.underlying50 Tryz.underlying5 Tryz.underlying9 (fun j hj => ?_)
  have ha : (⟨b, 0, none⟩ : Addr).add j = ⟨b, j, none⟩ := by unfold Addr.add; split <;> simp_all
  rw [ha, cell_of_row _ _ _ _ _ _ h, byteC_at L j hj, List.getD_eq_getElem?_getD, List.getElem?_eq_getElem hj, Option.getD_some]
theorem byte_hi (X i : Nat) : ((X * 2 ^ (8 * i) % 18446744073709551616 : Nat) : Int) / 72057594037927936 % 256 = ((UInt8.ofNat (byteOf X i)).toNat : Int) := by
  have h := byteOf_lt X i
  rw [UInt8.toNat_ofNat', Nat.mod_eq_of_lt h]
  unfold byteOf at h ⊢
  have e : (2 : Nat) ^ 64 = 18446744073709551616 := rfl
  have e2 : (2 : Nat) ^ 56 = 72057594037927936 := rfl
  rw [e, e2] at h ⊢
  omega
theorem shift_hi (X i : Nat) : IntKind.u64.wrap (((X * 2 ^ (8 * i) % 18446744073709551616 : Nat) : Int) * 256) = ((X * 2 ^ (8 * (i + 1)) % 18446744073709551616 : Nat) : Int) := by
  rw [IntKind.wrap_u64]
  have e : X * 2 ^ (8 * (i + 1)) = X * 2 ^ (8 * i) * 256 := by rw [show 8 * (i + 1) = 8 * i + 8 by omega, Nat.pow_add, ← Nat.mul_assoc]
  rw [e]
  omega
theorem row_step (L : List UInt8) (n i : Nat) (h : i < n) (hl : L.length = n) : (L.take i ++ List.replicate (n - i) 0).set i (L.getD i 0) = L.take (i + 1) ++ List.replicate (n - (i + 1)) 0 := by
  apply List.ext_getElem?
  intro x
  rw [List.getElem?_set]
  by_cases c : i = x
  · subst c
    rw [if_pos rfl, if_pos (by simp; omega), List.getElem?_append_left (by simp; omega), List.getElem?_take_of_lt (by omega), List.getD_eq_getElem?_getD, List.getElem?_eq_getElem (by omega)]
    simp
  · rw [if_neg c]
    by_cases h1 : x < i
    · rw [List.getElem?_append_left (by simp; omega), List.getElem?_append_left (by simp; omega), List.getElem?_take_of_lt h1, List.getElem?_take_of_lt (by omega)]
    · rw [List.getElem?_append_right (by simp; omega), List.getElem?_append_right (by simp; omega), List.getElem?_replicate, List.getElem?_replicate]
      have e1 : (x - (L.take i).length < n - i) ↔ (x - (L.take (i + 1)).length < n - (i + 1)) := by simp; omega
      simp only [e1]
theorem up_lt (v : Int) (k : Nat) (hU : (v % 18446744073709551616 : Int) = ((u64 v : Nat) : Int)) : IntKind.u64.wrap (IntKind.u64.wrap v * (2 : Int) ^ (64 - k)) = ((upN v k : Nat) : Int) := by
  rw [IntKind.wrap_u64, IntKind.wrap_u64, hU]
  unfold upN
  simp
theorem up_eq (v : Int) (k : Nat) (hU : (v % 18446744073709551616 : Int) = ((u64 v : Nat) : Int)) (hk : k = 64) : IntKind.u64.wrap v = ((upN v k : Nat) : Int) := by
  subst hk
  rw [IntKind.wrap_u64, hU]
  unfold upN
  have := u64_lt v
  rw [Nat.sub_self, Nat.pow_zero, Nat.mul_one, Nat.mod_eq_of_lt this]
set_option maxRecDepth 100000 in
set_option maxHeartbeats 4000000 in
theorem putint_any (v : Int) (k : Nat) (lt : Bool) (w : World) (hv : I64 v) (hk : k ≤ 64) (hlt : lt = true → k % 8 = 0) :
    Calls Tryz.prog 50 #[.int .i64 v, .int .i64 k, .bool lt] w fun e w' => e = .returned (.tuple #[.agg #[.string ⟨(intBytes v k lt).toArray⟩, .int .i64 k], .int .i64 0]) ∧ Below w.heap.size w w' := by
  have HB0 := Lib.hid ((Below.refl w.heap.size w).alloc (Nat.le_refl _) (.cells #[.string ⟨#[]⟩, .int .i64 0] 56))
  have HR0 := Lib.hid (heap_alloc_new w (.cells #[.string ⟨#[]⟩, .int .i64 0] 56))
  have hU : ((v % 18446744073709551616 : Int)) = ((u64 v : Nat) : Int) := by unfold u64; omega
  have ht : (k : Int) ≤ 64 := by omega
  obtain ⟨v1, v2⟩ := hv
  have hg : lt = false ∨ (((k : Int) % 8) != 0) = false := by
    cases lt with
    | false => exact .inl rfl
    | true => exact .inr (by have := hlt rfl; simp; omega)
  have HLT := Lib.hid hlt
  clear hlt
  go_enter Tryz.func50, Tryz.ntmps50
  generalize hW : w.alloc (.cells #[.string ⟨#[]⟩, .int .i64 0] 56) = W at *
  cases lt with
  | false =>
    clear hg
    go_upto_if 29 with fail
    go_cut [8] (fun uv wx => uv = .int .u64 ((upN v k : Nat) : Int) ∧ W = wx)
    case first =>
      go_wp2_with fail
      · go_meet
        case rel => exact ⟨by rw [up_lt v k hU], rfl⟩
      · go_meet
        case rel => exact ⟨by rw [up_eq v k hU (by have h64 : (64 : Int) ≤ k := by assumption
                                                   omega)], rfl⟩
    case rest =>
      obtain ⟨rfl, rfl⟩ := hcut
      obtain ⟨n, hn⟩ : ∃ n : Nat, n = (k + 7) / 8 := ⟨_, rfl⟩
      have HN := Lib.hid hn
      have hn8 : n ≤ 8 := by omega
      have HLN := Lib.hid (show Calls Tryz.prog 127 #[.int .i64 k] W fun e w' => e = .returned (.int .i64 n) ∧ W = w' by rw [hn]; exact blen_any k (by omega) W)
      obtain ⟨i0, hi, hz0, hz1, hz2⟩ := info_parts infoByte
      clear hn
      go_upto_region 7 with (first | (go_at_call 127; refine HLN.out.mono ?_; rintro e w1 ⟨rfl, rfl⟩) | (at_make; refine wpList_make_full W rfl (.tmp 36) (.tmp 36) 50 rfl W.heap.size 5 i0 (.int .u8 0) 1 Tryz.underlying50 hi hz0 hz1 .i64 .i64 (n : Int) (n : Int) n rfl rfl rfl rfl (by rw [hz2]; omega) (by unfold maxLen; omega) (Nat.le_refl _) ?_; intro w1 hown hgrow) | fail)
      have hrow := made_row hown
      have HB1 := Lib.hid (below_of_grown hgrow)
      have HR1 := Lib.hid hrow
      obtain ⟨X, hX⟩ : ∃ X, X = upN v k := ⟨_, rfl⟩
      obtain ⟨L, hL⟩ : ∃ L, L = bytesN v k := ⟨_, rfl⟩
      have hLn : L.length = n := by rw [hL, bytesN_len]; exact HN.out.symm
      have HLB : Hid (∀ i, i < n → L.getD i 0 = UInt8.ofNat (byteOf X i)) := Lib.hid (fun i hi => by
        rw [hL, hX, List.getD_eq_getElem?_getD]; unfold bytesN; rw [List.getElem?_map, List.getElem?_range (by have := HN.out; omega)]; rfl)
      have HXl : Hid (X < 2 ^ 64) := Lib.hid (by rw [hX]; exact upN_lt v k)
      have HL := Lib.hid hL
      rw [← hX]
      generalize hbW : W.heap.size = b at *
      clear hown hgrow hrow hX hL hi hz0 hz1 hz2
      go_wp2_with fail
      go_loopw [8, 40] (fun uv iv wr => ∃ i : Nat, i ≤ n ∧ uv = .int .u64 ((X * 2 ^ (8 * i) % 18446744073709551616 : Nat) : Int) ∧ iv = .int .i64 i ∧ Hid (wr.heap[b]? = some (.cells (byteC (L.take i ++ List.replicate (n - i) 0)).toArray 5 (0, 0))) ∧ Hid (Below b W wr)) (fun _ iv _ => n - (intOf iv).toNat)
      case atStart => exact ⟨0, Nat.zero_le _, by rw [Nat.mul_zero, Nat.pow_zero, Nat.mul_one, Nat.mod_eq_of_lt HXl.out], rfl, by simpa using HR1, HB1⟩
      case round =>
        obtain ⟨i, hi, rfl, rfl, HR, HBr⟩ := hrel
        rename World => wr
        by_cases hlt : i < n
        · have HBY := Lib.hid (byte_hi X i)
          have HUP := Lib.hid (shift_hi X i)
          have HST := Lib.hid (row_step L n i hlt hLn)
          have hx := HLB.out i hlt
          obtain ⟨c0, hc0⟩ : ∃ c0 : Value, wr.cell? ⟨b, i, none⟩ = some c0 := by
            rw [cell_of_row _ _ _ _ _ _ HR.out, List.getElem?_toArray]
            exact ⟨_, List.getElem?_eq_getElem (by simp [byteC]; omega)⟩
          have hf0 := Lib.frozen_of_heap HR.out i
          generalize X * 2 ^ (8 * i) % 18446744073709551616 = U at *
          generalize hBX : byteOf X i = Y at *
          clear hBX
          have hr := heap_setCell_same wr b i _ _ (.int .u8 ((UInt8.ofNat Y).toNat : Int)) HR.out
          rw [byteC_set, ← hx, HST.out, hx] at hr
          have HR2 := Lib.hid hr
          clear hr
          go_wp2_with fail
          go_roundw
          case rel =>
            rw [HBY.out]
            exact ⟨i + 1, by omega, by rw [HUP.out], by go_num, HR2, Lib.hid (HBr.out.setCell (p := ⟨b, i, none⟩) (Nat.le_refl _) _)⟩
          case measure => simp [intOf]; omega
        · obtain rfl : n = i := by omega
          have HR3 : Hid (wr.heap[b]? = some (.cells (byteC L).toArray 5 (0, 0))) := Lib.hid (by
            have := HR.out
            rw [Nat.sub_self, List.replicate_zero, List.append_nil, List.take_of_length_le (by omega)] at this
            exact this)
          have hbr := HBr.out.block w.heap.size (by rw [← hbW]; exact lt_of_row HR0.out)
          have HR4 := Lib.hid (hbr.trans HR0.out)
          clear hbr HR
          have hcv := conv_row (c := n) HR3.out
          rw [hLn] at hcv
          go_wp2_with (first | (refine wpList_store_row rfl 56 _ _ rfl w.heap.size _ rfl rfl 56 _ HR4.out (by kernel_rfl) rfl (by simp [Value.oneCell']) ?_) | fail)
          refine bodyPost_ret (results_row_tmp rfl _ _ _ w.heap.size _ _ _ _ rfl (setRow_heap _ _ _ _ _ _ HR4.out) Tryz.underlying56 (by kernel_rfl)) rfl ?_
          refine ⟨?_, below_setRow (HB0.out.trans (HBr.out.mono (by rw [← hbW]; exact HB0.out.size))) (Nat.le_refl _) _⟩
          unfold intBytes
          rw [if_neg (by decide), ← HL.out]
          rfl
  | true =>
    have hg2 : (((k : Int) % 8) != 0) = false := by rcases hg with h | h; cases h; exact h
    clear hg
    go_upto_if 29 with fail
    go_cut [8] (fun uv wx => uv = .int .u64 ((upN v k : Nat) : Int) ∧ W = wx)
    case first =>
      go_wp2_with fail
      · go_meet
        case rel => exact ⟨by rw [up_lt v k hU], rfl⟩
      · go_meet
        case rel => exact ⟨by rw [up_eq v k hU (by have h64 : (64 : Int) ≤ k := by assumption
                                                   omega)], rfl⟩
    case rest =>
      obtain ⟨rfl, rfl⟩ := hcut
      obtain ⟨n, hn⟩ : ∃ n : Nat, n = (k + 7) / 8 := ⟨_, rfl⟩
      have HN := Lib.hid hn
      have hn8 : n ≤ 8 := by omega
      have HLN := Lib.hid (show Calls Tryz.prog 127 #[.int .i64 k] W fun e w' => e = .returned (.int .i64 n) ∧ W = w' by rw [hn]; exact blen_any k (by omega) W)
      obtain ⟨i0, hi, hz0, hz1, hz2⟩ := info_parts infoByte
      clear hn
      go_upto_region 7 with (first | (go_at_call 127; refine HLN.out.mono ?_; rintro e w1 ⟨rfl, rfl⟩) | (at_make; refine wpList_make_full W rfl (.tmp 36) (.tmp 36) 50 rfl W.heap.size 5 i0 (.int .u8 0) 1 Tryz.underlying50 hi hz0 hz1 .i64 .i64 (n : Int) (n : Int) n rfl rfl rfl rfl (by rw [hz2]; omega) (by unfold maxLen; omega) (Nat.le_refl _) ?_; intro w1 hown hgrow) | fail)
      have hrow := made_row hown
      have HB1 := Lib.hid (below_of_grown hgrow)
      have HR1 := Lib.hid hrow
      obtain ⟨X, hX⟩ : ∃ X, X = upN v k := ⟨_, rfl⟩
      obtain ⟨L, hL⟩ : ∃ L, L = bytesN v k := ⟨_, rfl⟩
      have hLn : L.length = n := by rw [hL, bytesN_len]; exact HN.out.symm
      have HLB : Hid (∀ i, i < n → L.getD i 0 = UInt8.ofNat (byteOf X i)) := Lib.hid (fun i hi => by
        rw [hL, hX, List.getD_eq_getElem?_getD]; unfold bytesN; rw [List.getElem?_map, List.getElem?_range (by have := HN.out; omega)]; rfl)
      have HXl : Hid (X < 2 ^ 64) := Lib.hid (by rw [hX]; exact upN_lt v k)
      have HL := Lib.hid hL
      rw [← hX]
      generalize hbW : W.heap.size = b at *
      clear hown hgrow hrow hX hL hi hz0 hz1 hz2
      go_wp2_with fail
      go_loopw [8, 40] (fun uv iv wr => ∃ i : Nat, i ≤ n ∧ uv = .int .u64 ((X * 2 ^ (8 * i) % 18446744073709551616 : Nat) : Int) ∧ iv = .int .i64 i ∧ Hid (wr.heap[b]? = some (.cells (byteC (L.take i ++ List.replicate (n - i) 0)).toArray 5 (0, 0))) ∧ Hid (Below b W wr)) (fun _ iv _ => n - (intOf iv).toNat)
      case atStart => exact ⟨0, Nat.zero_le _, by rw [Nat.mul_zero, Nat.pow_zero, Nat.mul_one, Nat.mod_eq_of_lt HXl.out], rfl, by simpa using HR1, HB1⟩
      case round =>
        obtain ⟨i, hi, rfl, rfl, HR, HBr⟩ := hrel
        rename World => wr
        by_cases hlt : i < n
        · have HBY := Lib.hid (byte_hi X i)
          have HUP := Lib.hid (shift_hi X i)
          have HST := Lib.hid (row_step L n i hlt hLn)
          have hx := HLB.out i hlt
          obtain ⟨c0, hc0⟩ : ∃ c0 : Value, wr.cell? ⟨b, i, none⟩ = some c0 := by
            rw [cell_of_row _ _ _ _ _ _ HR.out, List.getElem?_toArray]
            exact ⟨_, List.getElem?_eq_getElem (by simp [byteC]; omega)⟩
          have hf0 := Lib.frozen_of_heap HR.out i
          generalize X * 2 ^ (8 * i) % 18446744073709551616 = U at *
          generalize hBX : byteOf X i = Y at *
          clear hBX
          have hr := heap_setCell_same wr b i _ _ (.int .u8 ((UInt8.ofNat Y).toNat : Int)) HR.out
          rw [byteC_set, ← hx, HST.out, hx] at hr
          have HR2 := Lib.hid hr
          clear hr
          go_wp2_with fail
          go_roundw
          case rel =>
            rw [HBY.out]
            exact ⟨i + 1, by omega, by rw [HUP.out], by go_num, HR2, Lib.hid (HBr.out.setCell (p := ⟨b, i, none⟩) (Nat.le_refl _) _)⟩
          case measure => simp [intOf]; omega
        · obtain rfl : n = i := by omega
          have HR3 : Hid (wr.heap[b]? = some (.cells (byteC L).toArray 5 (0, 0))) := Lib.hid (by
            have := HR.out
            rw [Nat.sub_self, List.replicate_zero, List.append_nil, List.take_of_length_le (by omega)] at this
            exact this)
          have htn := turn_any L b n wr HR3.out (by omega)
          rw [hLn] at htn
          have HTN := Lib.hid htn
          have hcvv := fun (wx : World) (hx : wx.heap[b]? = some (.cells (byteC L.reverse).toArray 5 (0, 0))) => conv_row (c := n) hx
          rw [List.length_reverse, hLn] at hcvv
          have HBw : Hid (w.heap.size < b) := Lib.hid (by rw [← hbW]; exact lt_of_row HR0.out)
          clear HR htn HR3
          go_upto_region 15 with (first | (go_at_call 128; refine HTN.out.mono ?_; rintro e w5 ⟨rfl, hr5, hg5⟩) | fail)
          have hcv := hcvv w5 hr5
          have hB5 : Below b W w5 := HBr.out.grown hg5 (by rw [← hbW]; exact HBr.out.size) (fun k hk => by cases hk; exact Nat.le_refl _)
          have HB5 := Lib.hid hB5
          have HR4 := Lib.hid ((hB5.block w.heap.size HBw.out).trans HR0.out)
          clear hcvv hr5 hg5 hB5
          go_wp2_with (first | (refine wpList_store_row rfl 56 _ _ rfl w.heap.size _ rfl rfl 56 _ HR4.out (by kernel_rfl) rfl (by simp [Value.oneCell']) ?_) | fail)
          refine bodyPost_ret (results_row_tmp rfl _ _ _ w.heap.size _ _ _ _ rfl (setRow_heap _ _ _ _ _ _ HR4.out) Tryz.underlying56 (by kernel_rfl)) rfl ?_
          refine ⟨?_, below_setRow (HB0.out.trans (HB5.out.mono (by rw [← hbW]; exact HB0.out.size))) (Nat.le_refl _) _⟩
          unfold intBytes
          rw [if_pos rfl, ← HL.out]
          rfl
end Go.Proofs.YthmpobimmbmddaaGreatDoor
namespace Go.Proofs.YthmpobimmbmddaaGreatDoor
open Go.RowKit Go.Maps Go.WideMaps
set_option linter.unusedVariables false
set_option linter.unusedSimpArgs false

def heldV (v : Value) : Option (DataW Value × List MemPlace) := some (.held v, [])
def putV (t : List UInt8 → Value) (k : List UInt8) (v : Value) : List UInt8 → Value := fun x => if x = k then v else t x
/-- Block M is a map of at most n entries (keys of type K, strings) that reads as t; z is the zero value. -/
def MapVP (P : Program) (w : World) (K : TypeId) (M n : Nat) (z : Value) (t : List UInt8 → Value) : Prop := ∃ D : DataW Value, w.ownsMap P K heldV M n D ∧ ∀ k : List UInt8, D.atKey (.string k) (.held z) = .held (t k)
section
variable {P : Program}
theorem isKeyS (k : List UInt8) : WideAt.IsKeyLit (.string k) := by unfold WideAt.IsKeyLit; simp
theorem MapVP.lt {w : World} {K : TypeId} {M n : Nat} {z : Value} {t : List UInt8 → Value} (h : MapVP P w K M n z t) : M < w.heap.size := by obtain ⟨D, h, _⟩ := h; exact h.lt
theorem MapVP.alloc {w : World} {K : TypeId} {M n : Nat} {z : Value} {t : List UInt8 → Value} (h : MapVP P w K M n z t) (o : Obj) : MapVP P (w.alloc o) K M n z t := by obtain ⟨D, h, h2⟩ := h; exact ⟨D, h.alloc o, h2⟩
theorem MapVP.mono {w : World} {K : TypeId} {M n m : Nat} {z : Value} {t : List UInt8 → Value} (h : MapVP P w K M n z t) (hm : n ≤ m) : MapVP P w K M m z t := by obtain ⟨D, h, h2⟩ := h; exact ⟨D, h.mono hm, h2⟩
theorem MapVP.grown {w w' : World} {K : TypeId} {M n : Nat} {z : Value} {t : List UInt8 → Value} {row : Option Nat} (h : MapVP P w K M n z t) (hg : w.grownBy w' row) (hne : some M ≠ row) : MapVP P w' K M n z t := by obtain ⟨D, h, h2⟩ := h; exact ⟨D, h.kept hg hne, h2⟩
theorem MapVP.below {w w' : World} {K : TypeId} {M n : Nat} {z : Value} {t : List UInt8 → Value} (h : MapVP P w K M n z t) (hb : Below w.heap.size w w') : MapVP P w' K M n z t := by
  obtain ⟨D, h, h2⟩ := h
  exact ⟨D, h.kept (row := none) ⟨hb.os, hb.tape, hb.output, hb.size, fun k hk _ => hb.block k hk⟩ (by simp), h2⟩
theorem MapVP.made (w : World) (K : TypeId) (z : Value) : MapVP P (w.alloc (.map #[] 0)) K w.heap.size 0 z (fun _ => z) := ⟨_, World.ownsMap_made _ _ _ _, fun k => rfl⟩
theorem MapVP.put {w' : World} {K : TypeId} {M m : Nat} {z : Value} {t : List UInt8 → Value} {D : DataW Value} (hD : IsMap D) (h2 : ∀ k : List UInt8, D.atKey (.string k) (.held z) = .held (t k)) (x : List UInt8) (v : Value) (h : w'.ownsMap P K heldV M m (D.put (.string x) (.held v))) : MapVP P w' K M m z (putV t x v) := by
  refine ⟨_, h, fun k => ?_⟩
  unfold putV
  by_cases e : k = x
  · rw [if_pos e, e, atKey_put_same hD (isKeyS x)]
  · rw [if_neg e, atKey_put_other (by intro h2; injection h2 with h2; exact e h2)]; exact h2 k
variable {w : World} {ops : Array Oper} {rest : List Oper} {o : Oper} {a : Act} {Q : Exit → Act → World → Prop}
/-- A look-up (without ok) of a key that is x. -/
theorem wpList_look_V (hg : o.guard = none) (m xo : Operand) (ty K E : TypeId) (hop : o.op = Op.lookup ty m xo false) (law : Keyed P K) (ht : P.underlying ty = some (.map K E)) {z : Value} (hz : (zeroValue E).run P w = .ok z w)
    {M n : Nat} {t : List UInt8 → Value} (hm : a.eval m = .map (some M)) (hM : MapVP P w K M n z t) (key : Value) (x : List UInt8) (hx : a.eval xo = key) (hkey : keyOf P K key = some (.string x))
    (hK : wpList P ops Q rest (a.put o.dst (t x)) w) : wpList P ops Q (o :: rest) a w := by
  obtain ⟨D, hown, hD⟩ := hM
  refine wpList_plain hg fun K' hK' => ?_
  obtain ⟨v, ps, hrun, hv⟩ := hown.lookup law ht hz (zd := .held z) (zp := []) rfl hkey
  have e : v = t x := by
    have h := hv
    unfold heldV at h
    rw [hD x] at h
    injection h with h
    injection h with h _
    injection h with h
  subst e
  unfold Oper.wp
  simp [execOp, hop, hm, hx, hrun, Result.andThen]
  exact hK' _ _ hK
/-- A store into the map. -/
theorem wpList_store_V (hg : o.guard = none) (m xo vo : Operand) (ty K E : TypeId) (hop : o.op = Op.mapUpdate ty m xo vo) (law : Keyed P K) (ht : P.underlying ty = some (.map K E)) {z : Value}
    {M n : Nat} {t : List UInt8 → Value} (hm : a.eval m = .map (some M)) (hM : MapVP P w K M n z t) (hn : n < maxLen) (key v : Value) (x : List UInt8) (hx : a.eval xo = key) (hv : a.eval vo = v) (hkey : keyOf P K key = some (.string x))
    (hK : ∀ w', MapVP P w' K M (n + 1) z (putV t x v) → w.grownBy w' (some M) → wpList P ops Q rest (a.put o.dst undef) w') : wpList P ops Q (o :: rest) a w := by
  obtain ⟨D, hown, hD⟩ := hM
  refine wpList_plain hg fun K' hK' => ?_
  obtain ⟨w', hrun, r1, r2⟩ := hown.update law ht hn hkey (d := .held v) (ps := []) rfl
  unfold Oper.wp
  simp [execOp, hop, hm, hx, hv, hrun, Result.andThen]
  exact hK' _ _ (hK w' (MapVP.put hown.isMap hD x v r1) r2)
end
abbrev MapV := MapVP Tryz.prog
end Go.Proofs.YthmpobimmbmddaaGreatDoor
namespace Go.Proofs.YthmpobimmbmddaaGreatDoor
open Go.RowKit

/-- The byte of a decimal digit. -/
def dgt (m : Nat) : UInt8 := UInt8.ofNat (48 + m % 10)
/-- The decimal digits of m (f bounds their number). -/
def digF : Nat → Nat → List UInt8
  | 0, _ => []
  | f + 1, m => if m < 10 then [dgt m] else digF f (m / 10) ++ [dgt m]
def dig (m : Nat) : List UInt8 := digF (m + 1) m
theorem digF_eq : ∀ (f g m : Nat), m < f → m < g → digF f m = digF g m
  | 0, _, _, h, _ => absurd h (Nat.not_lt_zero _)
  | _, 0, _, _, h => absurd h (Nat.not_lt_zero _)
  | f + 1, g + 1, m, h1, h2 => by
    unfold digF
    by_cases h : m < 10
    · rw [if_pos h, if_pos h]
    · rw [if_neg h, if_neg h, digF_eq f g (m / 10) (by omega) (by omega)]
theorem dig_small {m : Nat} (h : m < 10) : dig m = [dgt m] := by unfold dig digF; rw [if_pos h]
theorem dig_big {m : Nat} (h : ¬ m < 10) : dig m = dig (m / 10) ++ [dgt m] := by
  unfold dig
  rw [show digF (m + 1) m = digF m (m / 10) ++ [dgt m] by rw [digF, if_neg h], digF_eq m (m / 10 + 1) (m / 10) (by omega) (by omega)]
theorem dig_len : ∀ (k m : Nat), m < 10 ^ (k + 1) → (dig m).length ≤ k + 1
  | 0, m, h => by rw [dig_small (by omega)]; simp
  | k + 1, m, h => by
    by_cases hs : m < 10
    · rw [dig_small hs]; simp
    · have := dig_len k (m / 10) (by rw [Nat.pow_succ] at h; omega)
      rw [dig_big hs]; simp; omega
theorem dig_len20 {m : Nat} (h : m ≤ 18446744073709551616) : (dig m).length ≤ 20 := dig_len 19 m (by omega)
/-- The decimal text of an integer. -/
def txt (n : Int) : List UInt8 := if n < 0 then 45 :: dig n.natAbs else dig n.natAbs

/-! A row of bytes in memory. -/
def byteCells (cs : List UInt8) : Array Value := (cs.map fun b => Value.int .u8 (b.toNat : Int)).toArray
theorem byteCells_get {cs : List UInt8} {j : Nat} (h : j < cs.length) : (byteCells cs)[j]? = some (.int .u8 (cs[j].toNat : Int)) := by
  simp [byteCells, h]
theorem byteCells_set (cs : List UInt8) (j : Nat) (d : UInt8) : (byteCells cs).setIfInBounds j (.int .u8 (d.toNat : Int)) = byteCells (cs.set j d) := by
  simp [byteCells, List.map_set]
theorem dgt_toNat (m : Nat) : ((dgt m).toNat : Int) = 48 + (m : Int) % 10 := by
  unfold dgt
  have h : (UInt8.ofNat (48 + m % 10)).toNat = (48 + m % 10) % 256 := UInt8.toNat_ofNat'
  rw [h]; omega
theorem drop_set (cs : List UInt8) (k : Nat) (d : UInt8) (h : k < cs.length) : (cs.set k d).drop k = d :: cs.drop (k + 1) := by
  rw [List.drop_eq_getElem_cons (by simpa using h), List.drop_set_of_lt (by omega)]
  simp
theorem pow10 (j : Nat) : (10 : Nat) ^ (j + 1) = 10 ^ j * 10 := Nat.pow_succ ..

end Go.Proofs.YthmpobimmbmddaaGreatDoor
namespace Go.Proofs.YthmpobimmbmddaaGreatDoor
open Go.RowKit

set_option maxHeartbeats 400000 in
theorem size_any (a : Int) (w : World) (ha : I64 a) :
    Calls Tryz.prog 47 #[.int .i64 a] w fun e w' => e = .returned (.int .u64 a.natAbs) ∧ w = w' := by
  obtain ⟨a1, a2⟩ := ha
  go_enter Tryz.func47, Tryz.ntmps47
  go_wp2
  · go_ret
    exact ⟨ret1 (by
        have : a < 0 := by assumption
        rw [IntKind.wrap_u64, IntKind.wrap_u64]; omega), rfl⟩
  · go_ret
    exact ⟨ret1 (by
        have : 0 ≤ a := by assumption
        omega), rfl⟩

/-- b[l:] of the array of twenty bytes at block B. -/
theorem slice20 (B : Nat) (l : Int) (k : Nat) (hl : l = k) (hk : k < 20) (w : World) :
    (Instr.sliceAt 79 (.pointer (some ⟨B, 0, none⟩)) (some (.int .i64 l)) none none).run Tryz.prog w = .ok (.slice (some ⟨B, k, none⟩) (20 - k) (20 - k)) w := by
  subst hl
  have e : Tryz.prog.arrayLen 79 = 20 := by kernel_rfl
  have ee : Tryz.prog.elem 79 = 5 := by kernel_rfl
  rw [run_sliceAt_array_l w 79 ⟨B, 0, none⟩ (by rw [e, ee]; exact Tryz.underlying79) .i64 k (by omega) (by rw [e]; omega), e, ee]
  simp [go_sem, slicedAt, Addr.add]
  rw [if_neg (by omega)]
  split <;> simp_all
/-- string(b[k:]) where the bytes of block B are cs. -/
theorem conv20 (B k L : Nat) (hL : L = 20 - k) (l cs : List UInt8) (w : World) (hh : w.heap[B]? = some (.cells (byteCells cs) 79 (0, 0))) (hl : cs.length = 20) (e : l = cs.drop k) :
    (convert 50 9 (.slice (some ⟨B, k, none⟩) L L)).run Tryz.prog w = .ok (.string ⟨l.toArray⟩) w := by
  subst e hL
  have := run_convert_bytes_back (P := Tryz.prog) w 50 9 5 ⟨B, k, none⟩ (20 - k) (cs.drop k) Tryz.underlying50 Tryz.underlying5 Tryz.underlying9 (fun j hj => by
    have hp : (⟨B, k, none⟩ : Addr).add j = ⟨B, k + j, none⟩ := by unfold Addr.add; split <;> simp_all
    rw [hp, cell_of_row _ _ _ _ _ _ hh, byteCells_get (by simp at hj; omega)]
    simp)
  rw [List.length_drop, hl] at this
  exact this

set_option maxRecDepth 100000 in
set_option maxHeartbeats 1000000 in
theorem text_any (n : Int) (w : World) (hn : I64 n) :
    Calls Tryz.prog 22 #[.int .i64 n] w fun e w' => e = .returned (.string ⟨(txt n).toArray⟩) ∧ Below w.heap.size w w' := by
  go_enter Tryz.func22, Tryz.ntmps22
  go_wp2_with (go_at_call 47; refine (size_any _ _ hn).mono ?_; rintro e w1 ⟨rfl, rfl⟩)
  go_loopw [4, 5] (fun v l wr => ∃ (k m : Nat) (cs : List UInt8), v = .int .i64 k ∧ l = .int .u64 m ∧ 2 ≤ k ∧ k ≤ 20 ∧ m < 10 ^ (k - 1) ∧ m ≤ 9223372036854775808 ∧ cs.length = 20 ∧ wr.heap[w.heap.size]? = some (.cells (byteCells cs) 79 (0, 0)) ∧ Below w.heap.size w wr ∧ Hid (dig n.natAbs = dig m ++ cs.drop k)) (fun v _ _ => (intOf v).toNat)
  case atStart => exact ⟨20, n.natAbs, List.replicate 20 0, rfl, rfl, by omega, by omega, by have := hn.1; have := hn.2; omega, by have := hn.1; have := hn.2; omega, rfl, heap_alloc_new _ _, (Below.refl _ _).alloc (Nat.le_refl _) _, by simp [Hid]⟩
  case round =>
    obtain ⟨k, m, cs, rfl, rfl, hk1, hk2, hm, hm2, hl, hh, hB, HD⟩ := hrel
    obtain ⟨j, rfl⟩ : ∃ j, k = j + 2 := ⟨k - 2, by omega⟩
    rename World => wr
    have HM := Lib.hid hm; clear hm
    have HL := Lib.hid hl; clear hl
    have hcell : wr.cell? ⟨w.heap.size, j + 1, none⟩ = some (.int .u8 (cs[j + 1]'(by rw [HL.out]; omega)).toNat) := by rw [cell_of_row _ _ _ _ _ _ hh]; exact byteCells_get _
    have hcell0 : wr.cell? ⟨w.heap.size, j, none⟩ = some (.int .u8 (cs[j]'(by rw [HL.out]; omega)).toNat) := by rw [cell_of_row _ _ _ _ _ _ hh]; exact byteCells_get _
    have hfz0 : wr.frozen? ⟨w.heap.size, j, none⟩ = false := frozen_of_row _ _ _ _ _ hh
    have hfz : wr.frozen? ⟨w.heap.size, j + 1, none⟩ = false := frozen_of_row _ _ _ _ _ hh
    have hh1 : (wr.setCell ⟨w.heap.size, j + 1, none⟩ (.int .u8 (48 + (m : Int) % 10))).heap[w.heap.size]? = some (.cells (byteCells (cs.set (j + 1) (dgt m))) 79 (0, 0)) := by
      rw [heap_setCell_same _ _ _ _ _ _ hh, ← dgt_toNat, byteCells_set]
    have hd1 : (cs.set (j + 1) (dgt m)).drop (j + 1) = dgt m :: cs.drop (j + 2) := drop_set _ _ _ (by rw [HL.out]; omega)
    have hl1 : (cs.set (j + 1) (dgt m)).length = 20 := by rw [List.length_set]; exact HL.out
    have hB1 : Below w.heap.size w (wr.setCell ⟨w.heap.size, j + 1, none⟩ (.int .u8 (48 + (m : Int) % 10))) := hB.setCell (Nat.le_refl _) _
    have HH := Lib.hid hh; have HH1 := Lib.hid hh1; have HD1 := Lib.hid hd1; have HL1 := Lib.hid hl1; clear hh hh1 hd1 hl1
    by_cases small : m < 10
    · have hdm := dig_small small
      have HDM := Lib.hid hdm; clear hdm
      have HT : Hid (dig n.natAbs = dgt m :: cs.drop (j + 2)) := by have := HD.out; rw [HDM.out] at this; exact this
      by_cases neg : n < 0
      · have hh2 : ((wr.setCell ⟨w.heap.size, j + 1, none⟩ (.int .u8 (48 + (m : Int) % 10))).setCell ⟨w.heap.size, j, none⟩ (.int .u8 45)).heap[w.heap.size]? = some (.cells (byteCells ((cs.set (j + 1) (dgt m)).set j 45)) 79 (0, 0)) := by
          exact (heap_setCell_same _ _ _ _ _ _ HH1.out).trans (congrArg (fun x => some (Obj.cells x 79 (0, 0))) (byteCells_set _ j 45))
        have hcv := conv20 w.heap.size j (20 - j) rfl (txt n) _ _ hh2 (by rw [List.length_set]; exact HL1.out) (by rw [drop_set _ _ _ (by rw [HL1.out]; omega), HD1.out, txt, if_pos neg, HT.out])
        have hsl := slice20 w.heap.size ((j : Int) + 2 - 1 - 1) j (by omega) (by omega)
        clear hh2
        go_wp2
        go_ret
        exact ⟨rfl, hB1.setCell (Nat.le_refl _) _⟩
      · have hcv := conv20 w.heap.size (j + 1) (19 - j) (by omega) (txt n) _ _ HH1.out HL1.out (by rw [HD1.out, txt, if_neg neg, HT.out])
        have hsl := slice20 w.heap.size ((j : Int) + 2 - 1) (j + 1) (by omega) (by omega)
        go_wp2
        go_ret
        exact ⟨rfl, hB1⟩
    · have hdm := dig_big small
      have HDM := Lib.hid hdm; clear hdm
      go_wp2
      go_roundw
      case rel =>
        have hj : 1 ≤ j := by
          rcases Nat.eq_zero_or_pos j with h | h
          · have := HM.out; subst h; omega
          · exact h
        refine ⟨j + 1, m / 10, cs.set (j + 1) (dgt m), by go_num, by go_num, by omega, by omega, ?_, by omega, HL1.out, HH1.out, hB1, ?_⟩
        · have := HM.out
          obtain ⟨i, rfl⟩ : ∃ i, j = i + 1 := ⟨j - 1, by omega⟩
          rw [show i + 1 + 2 - 1 = i + 1 + 1 by omega, pow10] at this
          rw [show i + 1 + 1 - 1 = i + 1 by omega]
          omega
        · exact Lib.hid (by rw [HD.out, HDM.out, HD1.out, List.append_assoc]; rfl)
      case measure => simp [intOf]; omega

end Go.Proofs.YthmpobimmbmddaaGreatDoor
