/-
  The reader of units: number, text, bool, arg: the walks. Rows that grow while a reader of units is at work; what its lists may end in. The unit reader's lists: the walks (printed by gen_klist.py).
-/
import Derived.Deep.RegionHeld3
import Derived.Test.YtghgbikmlbildaaGreatDoorRoundsAll23
namespace Go.Proofs.YtghgbikmlbildaaGreatDoor
open Go.RowKit
set_option linter.unusedVariables false
set_option linter.unusedSimpArgs false

/-- Block r is a reader before which l lies. -/
def RdC (r : Nat) (l : List UInt8) (w : World) : Prop := ∃ s : ByteArray, w.heap[r]? = some (.cells #[.string s] 95 (0, 0)) ∧ s.data.toList = l ∧ s.size ≤ 68719476736
/-- How a reader of units gives up. -/
abbrev gaveUp : Ending := .panicked [{ v := .iface 91 (.agg #[]), recovered := false }]
/-- What a part of the reader may end in. -/
def KPost {α : Type} (r : Nat) (w : World) (val : α → Value) (d : Option (α × List UInt8)) (e : Ending) (w' : World) : Prop :=
 match d with
 | none => e = gaveUp ∧ w.grownBy w' (some r)
 | some (v, l) => e = .returned (val v) ∧ RdC r l w' ∧ w.grownBy w' (some r)
theorem RdC.lt {r : Nat} {l : List UInt8} {w : World} (h : RdC r l w) : r < w.heap.size := by obtain ⟨s, h, -⟩ := h; exact lt_of_row h
theorem RdC.below {r : Nat} {l : List UInt8} {w w' : World} (h : RdC r l w) (hb : Below w.heap.size w w') : RdC r l w' := by
 obtain ⟨s, h1, h2⟩ := h; exact ⟨s, (hb.block r (lt_of_row h1)).trans h1, h2⟩
theorem RdC.cells {r : Nat} {s : ByteArray} {w : World} (h : w.heap[r]? = some (.cells #[.string s] 95 (0, 0))) : w.cell? ⟨r, 0, none⟩ = some (.string s) ∧ w.frozen? ⟨r, 0, none⟩ = false :=
 ⟨cell_of_row w r 0 _ _ _ h, frozen_of_row w r 0 _ _ h⟩
theorem RdC.len {r : Nat} {l : List UInt8} {w : World} (h : RdC r l w) : l.length ≤ 68719476736 := by
 obtain ⟨s, h1, h2, h3⟩ := h
 rw [← h2, Array.length_toList]; exact h3
theorem and_127 (c : Nat) (h : c < 256) : bits .and .u8 (c : Int) 127 = ((c % 128 : Nat) : Int) := by
 have h1 : (BitVec.ofInt 8 (c : Int)).toNat = c := by
  rw [BitVec.ofInt_natCast, BitVec.toNat_ofNat]; exact Nat.mod_eq_of_lt (by omega)
 show IntKind.u8.wrap ((BitVec.ofInt 8 (c : Int) &&& BitVec.ofInt 8 127).toNat : Int) = _
 rw [BitVec.toNat_and, h1, show (BitVec.ofInt 8 127).toNat = 2 ^ 7 - 1 from rfl, Nat.and_two_pow_sub_one_eq_mod, IntKind.wrap_u8]
 omega
theorem num_lt {acc c i : Nat} (ha : acc < 128 ^ i) (hc : c < 128) : acc + 128 ^ i * c < 128 ^ (i + 1) := by
 have : 128 ^ i * (c + 1) ≤ 128 ^ i * 128 := Nat.mul_le_mul_left _ hc
 rw [Nat.pow_succ]; rw [Nat.mul_succ] at this; omega
theorem or_step {acc c i : Nat} (ha : acc < 128 ^ i) (hi : i ≤ 5) (hc : c < 256) : bits .or .u64 (acc : Int) (IntKind.u64.wrap (IntKind.u64.wrap (bits .and .u8 (c : Int) 127) * 2 ^ (7 * i))) = ((acc + 128 ^ i * (c % 128) : Nat) : Int) := by
 have h128 : (128 : Nat) ^ i = 2 ^ (7 * i) := by rw [Nat.pow_mul]
 have hn := num_lt ha (show c % 128 < 128 by omega)
 have h6 : 128 ^ (i + 1) ≤ 128 ^ 6 := Nat.pow_le_pow_right (by omega) (by omega)
 have e6 : (128 : Nat) ^ 6 = 4398046511104 := by decide
 have e1 : IntKind.u64.wrap (bits .and .u8 (c : Int) 127) = ((c % 128 : Nat) : Int) := by rw [and_127 c hc, IntKind.wrap_u64]; omega
 have e2 : IntKind.u64.wrap (((c % 128 : Nat) : Int) * 2 ^ (7 * i)) = ((128 ^ i * (c % 128) : Nat) : Int) := by
  rw [show ((c % 128 : Nat) : Int) * 2 ^ (7 * i) = ((128 ^ i * (c % 128) : Nat) : Int) by rw [h128, Int.natCast_mul, Int.natCast_pow, Int.mul_comm]; rfl, IntKind.wrap_u64]
  omega
 rw [e1, e2, bits_or_u64_nat _ _ (by omega) (by omega), Nat.or_comm, h128, ← Nat.two_pow_add_eq_or_of_lt (by rw [← h128]; exact ha), ← h128, Nat.add_comm]
set_option maxRecDepth 100000 in
set_option maxHeartbeats 4000000 in
theorem knum_any (r : Nat) (l : List UInt8) (w : World) (h : RdC r l w) :
  Calls Tryz.prog 56 #[.pointer (some ⟨r, 0, none⟩)] w (KPost r w (fun n : Nat => Value.int .i64 n) (vD l)) := by
 generalize hQ : KPost r w (fun n : Nat => Value.int .i64 n) (vD l) = Q at *
 have HQ := Lib.hid hQ
 clear hQ
 obtain ⟨s, hr, hl, hs⟩ := h
 obtain ⟨c0, f0⟩ := RdC.cells hr
 have hrl := lt_of_row hr
 have hlen : l.length = s.size := by rw [← hl, Array.length_toList]; rfl
 go_enter Tryz.func56, Tryz.ntmps56
 go_wp2_with fail
 obtain ⟨mn, hmn, hm6, hms, hmo⟩ : ∃ mn : Nat, min (s.size : Int) 6 = (mn : Int) ∧ mn ≤ 6 ∧ mn ≤ s.size ∧ (mn = 6 ∨ mn = s.size) := ⟨min s.size 6, by omega, by omega, by omega, by omega⟩
 rw [hmn]
 clear hmn
 go_loop [3, 12] (fun nv iv => ∃ (i acc : Nat), i ≤ mn ∧ iv = .int .i64 i ∧ nv = .int .u64 acc ∧ acc < 128 ^ i ∧ Hid (vD l = (vR (6 - i) (decide (i = 0)) (l.drop i)).bind fun x => some (acc + 128 ^ i * x.1, x.2))) (fun _ iv => mn - (intOf iv).toNat)
 case atStart => exact ⟨0, 0, Nat.zero_le _, rfl, rfl, by decide, Lib.hid (by
   show vR 6 true l = (vR 6 true l).bind _
   cases vR 6 true l with
   | none => rfl
   | some x => simp)⟩
 case round =>
  obtain ⟨i, acc, hi, rfl, rfl, ha, HV⟩ := hrel
  by_cases hlt : i < mn
  ·have his : i < s.size := by omega
   have hcl := (s[i]'his).toNat_lt
   have hdr : l.drop i = s[i] :: l.drop (i + 1) := by
    have hil : i < l.length := by omega
    rw [List.drop_eq_getElem_cons hil]
    congr 1
    subst hl
    rw [Array.getElem_toList]; rfl
   have HO := Lib.hid (or_step (c := (s[i]'his).toNat) ha (show i ≤ 5 by omega) hcl)
   have hk : 6 - i = (5 - i) + 1 := by omega
   have HV2 : Hid (vD l = (vR ((5 - i) + 1) (decide (i = 0)) (s[i] :: l.drop (i + 1))).bind fun x => some (acc + 128 ^ i * x.1, x.2)) := Lib.hid (by rw [HV.out, hdr, hk])
   unfold vR at HV2
   clear HV hdr hk
   go_upto_region 7 with fail
   rw [HO.out]
   generalize s[i].toNat = c at *
   by_cases c1 : c < 128
   ·have d1 : decide ((c : Int) < 128) = true := decide_eq_true (by omega)
    rw [if_pos c1] at HV2
    have HM : Hid (((acc + 128 ^ i * (c % 128) : Nat) : Int) = ((acc + 128 ^ i * c : Nat) : Int)) := Lib.hid (by rw [Nat.mod_eq_of_lt c1])
    rw [HM.out]
    by_cases c2 : c = 0 ∧ decide (i = 0) = false
    ·have HD : Hid (vD l = none) := Lib.hid (by rw [HV2.out, if_pos c2]; rfl)
     have d2 : ((c : Int) == 0) = true := by rw [beq_iff_eq]; omega
     have d3 : (i : Int) > 0 := by have := c2.2; have := of_decide_eq_false this; omega
     clear hmo HV2 c2 HM HO
     go_wp2_with fail
     exact ⟨rfl, by rw [← HQ.out, HD.out]; exact ⟨rfl, grownBy_refl _ _⟩⟩
    ·have HD : Hid (vD l = some (acc + 128 ^ i * c, l.drop (i + 1))) := Lib.hid (by rw [HV2.out, if_neg c2]; rfl)
     have hnb : acc + 128 ^ i * c < 4398046511104 := by
      have h1 := num_lt ha c1
      have : 128 ^ (i + 1) ≤ 128 ^ 6 := Nat.pow_le_pow_right (by omega) (by omega)
      have e6 : (128 : Nat) ^ 6 = 4398046511104 := by decide
      omega
     have hx : (s.extract (i + 1) s.size).data.toList = l.drop (i + 1) := by
      rw [ByteArray.data_extract, Array.toList_extract, List.extract_eq_take_drop, hl, List.take_of_length_le (by rw [List.length_drop]; omega)]
     have HX := Lib.hid hx
     have hsx : (s.extract (i + 1) s.size).size ≤ 68719476736 := by rw [ByteArray.size_extract]; omega
     have HSX := Lib.hid hsx
     have hw1 : IntKind.i64.wrap ((i : Int) + 1) = (i : Int) + 1 := by rw [IntKind.wrap_i64]; omega
     clear hmo HV2 HM HO hx hsx hi
     by_cases c3 : c = 0
     ·have d2 : ((c : Int) == 0) = true := by rw [beq_iff_eq]; omega
      have d3 : ¬ (i : Int) > 0 := by
       intro e; exact c2 ⟨c3, decide_eq_false (by omega)⟩
      clear c2 c3
      generalize acc + 128 ^ i * c = nn at *
      go_wp2_with fail
      rw [← HQ.out, HD.out]
      exact ⟨rfl, ⟨_, heap_setCell_same w r 0 _ _ _ hr, HX.out, HSX.out⟩, grownBy_set _ _ _ _⟩
     ·have d2 : ((c : Int) == 0) = false := beq_eq_false_iff_ne.2 (by omega)
      clear c2 c3
      generalize acc + 128 ^ i * c = nn at *
      go_wp2_with fail
      rw [← HQ.out, HD.out]
      exact ⟨rfl, ⟨_, heap_setCell_same w r 0 _ _ _ hr, HX.out, HSX.out⟩, grownBy_set _ _ _ _⟩
   ·have d1 : decide ((c : Int) < 128) = false := decide_eq_false (by omega)
    rw [if_neg c1] at HV2
    have HM : Hid (((acc + 128 ^ i * (c % 128) : Nat) : Int) = ((acc + 128 ^ i * (c - 128) : Nat) : Int)) := Lib.hid (by rw [show c % 128 = c - 128 by omega])
    rw [HM.out]
    have hn2 := num_lt ha (show c - 128 < 128 by omega)
    have HN := Lib.hid hn2
    have HV3 : Hid (vD l = (vR (6 - (i + 1)) (decide (i + 1 = 0)) (l.drop (i + 1))).bind fun x => some ((acc + 128 ^ i * (c - 128)) + 128 ^ (i + 1) * x.1, x.2)) := Lib.hid (by
     rw [HV2.out, show 6 - (i + 1) = 5 - i by omega, show decide (i + 1 = 0) = false from decide_eq_false (by omega)]
     cases vR (5 - i) false (l.drop (i + 1)) with
     | none => rfl
     | some x =>
      simp only [Option.bind_some, Option.some.injEq, Prod.mk.injEq, and_true]
      rw [Nat.pow_succ, Nat.mul_add, Nat.mul_assoc, Nat.add_assoc])
    clear HV2 HM HO hn2 c1 hmo
    generalize acc + 128 ^ i * (c - 128) = nn at *
    go_wp2_with fail
    go_round
    case rel => exact ⟨i + 1, nn, by omega, by go_num, rfl, HN.out, HV3⟩
    case measure => simp [intOf]; omega
  ·have HD : Hid (vD l = none) := Lib.hid (by
    rw [HV.out]
    rcases hmo with h6 | h6
    ·rw [show 6 - i = 0 by omega]; rfl
    ·rw [List.drop_of_length_le (by omega)]
     cases 6 - i <;> rfl)
   clear hmo HV
   go_wp2_with fail
   exact ⟨rfl, by rw [← HQ.out, HD.out]; exact ⟨rfl, grownBy_refl _ _⟩⟩
theorem and_3 (n : Nat) (h : n < 4398046511104) : bits .and .i64 (n : Int) 3 = ((n % 4 : Nat) : Int) := by
 have h1 := and_i64 n 3 (by omega) (by omega)
 rw [show ((3 : Nat) : Int) = 3 from rfl] at h1
 rw [h1, show (3 : Nat) = 2 ^ 2 - 1 from rfl, Nat.and_two_pow_sub_one_eq_mod]
theorem RdC.off {r : Nat} {l : List UInt8} {X : Nat} {w w' : World} (h : RdC r l w) (ho : OffB X w w') (hr : r ≠ X) : RdC r l w' := by
 obtain ⟨s, h1, h2⟩ := h; exact ⟨s, (ho.2 r hr).trans h1, h2⟩
theorem vD_len {l l2 : List UInt8} {n : Nat} (h : vD l = some (n, l2)) : n < 4398046511104 ∧ l2.length ≤ l.length := by
 have e := vD_enc h
 exact ⟨e.2, by rw [e.1, List.length_append]; omega⟩
set_option maxRecDepth 100000 in
set_option maxHeartbeats 4000000 in
theorem ktext_any (r : Nat) (l : List UInt8) (w : World) (h : RdC r l w) :
  Calls Tryz.prog 55 #[.pointer (some ⟨r, 0, none⟩)] w (KPost r w Value.string (textD l)) := by
 generalize hQ : KPost r w Value.string (textD l) = Q at *
 have HQ := Lib.hid hQ
 clear hQ
 have HN := knum_any r l w h
 have HD : Hid (textD l = (vD l).bind fun x => strD x.1 x.2) := Lib.hid rfl
 go_enter Tryz.func55, Tryz.ntmps55
 rcases h1 : vD l with _ | ⟨n, l1⟩
 ·rw [h1] at HN HD
  go_wp2_with (go_at_call 56; refine HN.mono ?_; rintro e w1 ⟨rfl, hg1⟩)
  exact ⟨rfl, by rw [← HQ.out, HD.out]; exact ⟨rfl, hg1⟩⟩
 rw [h1] at HN HD
 rw [Option.bind_some] at HD
 have hn := (vD_len h1).1
 go_upto_region 2 with (go_at_call 56; refine HN.mono ?_; rintro e w1 ⟨rfl, ⟨s, hr, hl, hs⟩, hg1⟩)
 obtain ⟨c0, f0⟩ := RdC.cells hr
 have hrl := lt_of_row hr
 have hlen : l1.length = s.size := by rw [← hl, Array.length_toList]; rfl
 by_cases c : n ≤ s.size
 case neg =>
  have HE : Hid (textD l = none) := Lib.hid (by rw [HD.out]; exact if_neg (by show ¬ n ≤ l1.length; omega))
  have d1 : (n : Int) > (s.size : Int) := by omega
  clear hlen c HD
  go_wp2_with fail
  exact ⟨rfl, by rw [← HQ.out, HE.out]; exact ⟨rfl, hg1⟩⟩
 have HE : Hid (textD l = some (s.extract 0 n, l1.drop n)) := Lib.hid (by
  rw [HD.out]
  show (if n ≤ l1.length then _ else _) = _
  rw [if_pos (by omega)]
  congr 2
  apply ByteArray.ext; apply Array.ext'
  rw [ByteArray.data_extract, Array.toList_extract, List.extract_eq_take_drop, hl]; rfl)
 have hx : (s.extract n s.size).data.toList = l1.drop n := by
  rw [ByteArray.data_extract, Array.toList_extract, List.extract_eq_take_drop, hl, List.take_of_length_le (by rw [List.length_drop]; omega)]
 have HX := Lib.hid hx
 have hsx : (s.extract n s.size).size ≤ 68719476736 := by rw [ByteArray.size_extract]; omega
 have HSX := Lib.hid hsx
 have d1 : ¬ (n : Int) > (s.size : Int) := by omega
 clear hx hsx HD hlen
 go_wp2_with fail
 rw [← HQ.out, HE.out]
 exact ⟨rfl, ⟨_, heap_setCell_same w1 r 0 _ _ _ hr, HX.out, HSX.out⟩, grownBy_trans hg1 (grownBy_set _ _ _ _)⟩
set_option maxRecDepth 100000 in
set_option maxHeartbeats 4000000 in
theorem kbool_any (r : Nat) (l : List UInt8) (w : World) (h : RdC r l w) :
  Calls Tryz.prog 102 #[.pointer (some ⟨r, 0, none⟩)] w (KPost r w Value.bool (boolD l)) := by
 generalize hQ : KPost r w Value.bool (boolD l) = Q at *
 have HQ := Lib.hid hQ
 clear hQ
 have HN := knum_any r l w h
 have HD : Hid (boolD l = (vD l).bind fun x => if x.1 ≤ 1 then some (decide (x.1 = 1), x.2) else none) := Lib.hid rfl
 go_enter Tryz.func102, Tryz.ntmps102
 rcases h1 : vD l with _ | ⟨n, l1⟩
 ·rw [h1] at HN HD
  go_wp2_with (go_at_call 56; refine HN.mono ?_; rintro e w1 ⟨rfl, hg1⟩)
  exact ⟨rfl, by rw [← HQ.out, HD.out]; exact ⟨rfl, hg1⟩⟩
 rw [h1] at HN HD
 rw [Option.bind_some] at HD
 by_cases c : n ≤ 1
 case neg =>
  rw [if_neg c] at HD
  have d1 : (n : Int) > 1 := by omega
  go_wp2_with (go_at_call 56; refine HN.mono ?_; rintro e w1 ⟨rfl, hr, hg1⟩)
  exact ⟨rfl, by rw [← HQ.out, HD.out]; exact ⟨rfl, hg1⟩⟩
 rw [if_pos c] at HD
 have d1 : ¬ (n : Int) > 1 := by omega
 have HB : Hid (((n : Int) == 1) = decide (n = 1)) := Lib.hid (by
  by_cases c2 : n = 1
  ·subst c2; rfl
  ·rw [decide_eq_false c2]; exact beq_eq_false_iff_ne.2 (by omega))
 clear c
 go_wp2_with (go_at_call 56; refine HN.mono ?_; rintro e w1 ⟨rfl, hr, hg1⟩)
 rw [← HQ.out, HD.out]
 exact ⟨congrArg (fun b => Ending.returned (.bool b)) HB.out, hr, hg1⟩
set_option maxRecDepth 100000 in
set_option maxHeartbeats 4000000 in
theorem karg_any (r : Nat) (l : List UInt8) (w : World) (h : RdC r l w) :
  Calls Tryz.prog 103 #[.pointer (some ⟨r, 0, none⟩)] w (KPost r w (fun a : RArg => Value.agg #[.int .i64 a.kind, .int .i64 a.n]) (argD l)) := by
 generalize hQ : KPost r w (fun a : RArg => Value.agg #[.int .i64 a.kind, .int .i64 a.n]) (argD l) = Q at *
 have HQ := Lib.hid hQ
 clear hQ
 have hba := (Below.refl w.heap.size w).alloc (Nat.le_refl _) (.cells #[.int .i64 0, .int .i64 0] 45)
 have hx := heap_alloc_new w (.cells #[.int .i64 0, .int .i64 0] 45)
 have HN := knum_any r l _ (h.below hba)
 have hgw := grownBy_below hba (some r)
 have hrl := h.lt
 have HD : Hid (argD l = (vD l).bind fun x => some (⟨((x.1 % 4 : Nat) : Int), ((x.1 / 4 : Nat) : Int)⟩, x.2)) := Lib.hid rfl
 go_enter Tryz.func103, Tryz.ntmps103
 go_upto_region 1 with fail
 generalize w.alloc _ = w0 at *
 rcases h1 : vD l with _ | ⟨n, l1⟩
 ·rw [h1] at HN HD
  go_wp2_with (go_at_call 56; refine HN.mono ?_; rintro e w1 ⟨rfl, hg1⟩)
  exact ⟨rfl, by rw [← HQ.out, HD.out]; exact ⟨rfl, grownBy_trans hgw hg1⟩⟩
 rw [h1] at HN HD
 rw [Option.bind_some] at HD
 have hn := (vD_len h1).1
 go_upto_region 2 with (go_at_call 56; refine HN.mono ?_; rintro e w1 ⟨rfl, hr, hg1⟩)
 have hx1 : w1.heap[w.heap.size]? = _ := (hg1.block _ (lt_of_row hx) (fun e => by have := Option.some.inj e; omega)).trans hx
 have x0 : w1.cell? ⟨w.heap.size, 0, none⟩ = some (.int .i64 0) := cell_of_row w1 _ 0 _ _ _ hx1
 have x1 : w1.cell? ⟨w.heap.size, 1, none⟩ = some (.int .i64 0) := cell_of_row w1 _ 1 _ _ _ hx1
 have y0 : w1.frozen? ⟨w.heap.size, 0, none⟩ = false := frozen_of_row w1 _ 0 _ _ hx1
 have y1 : w1.frozen? ⟨w.heap.size, 1, none⟩ = false := frozen_of_row w1 _ 1 _ _ hx1
 go_wp2_with fail
 have HA := Lib.hid (and_3 n hn)
 rw [HA.out, show (n : Int) / 4 = ((n / 4 : Nat) : Int) by omega]
 have hres : ((w1.setCell ⟨w.heap.size, 0, none⟩ (.int .i64 ((n % 4 : Nat) : Int))).setCell ⟨w.heap.size, 1, none⟩ (.int .i64 ((n / 4 : Nat) : Int))).heap[w.heap.size]? = some (.cells #[.int .i64 ((n % 4 : Nat) : Int), .int .i64 ((n / 4 : Nat) : Int)] 45 (0, 0)) := heap_setCell_same _ _ 1 _ _ _ (heap_setCell_same _ _ 0 _ _ _ hx1)
 refine bodyPost_ret (results_cell_row rfl _ _ w.heap.size _ _ _ _ rfl hres Tryz.underlying45 rfl (by kernel_rfl)) rfl ?_
 rw [← HQ.out, HD.out]
 exact ⟨rfl, (hr.off (OffB.set _ _ _ _) (by omega)).off (OffB.set _ _ _ _) (by omega), grown_low (grownBy_trans hgw hg1) (((Below.refl _ _).setCell (p := ⟨w.heap.size, 0, none⟩) (Nat.le_refl _) _).setCell (p := ⟨w.heap.size, 1, none⟩) (Nat.le_refl _) _)⟩
end Go.Proofs.YtghgbikmlbildaaGreatDoor
namespace Go.Proofs.YtghgbikmlbildaaGreatDoor
open Go.RowKit
set_option linter.unusedVariables false
set_option linter.unusedSimpArgs false

/-- A way of lying in memory, in blocks of which a property is true, that is kept where these blocks are. -/
structure Way (α : Type) where
 on : World → (Nat → Prop) → List Value → α → Prop
 keep : ∀ {w w' : World} {P P' : Nat → Prop} {cs : List Value} {a : α}, w.heap.size ≤ w'.heap.size → (∀ b, P b → b < w.heap.size → w'.heap[b]? = w.heap[b]?) → (∀ b, P b → b < w.heap.size → P' b) → on w P cs a → on w' P' cs a
theorem Way.below {α : Type} (E : Way α) {w w' : World} {P : Nat → Prop} {cs : List Value} {a : α} (hb : Below w.heap.size w w') (h : E.on w P cs a) : E.on w' P cs a := E.keep hb.size (fun b _ hl => hb.block b hl) (fun b h _ => h) h
/-- A way that needs no memory. -/
def Way.pure {α : Type} (R : List Value → α → Prop) : Way α := ⟨fun _ _ => R, fun _ _ _ h => h⟩
def Way.tm : Way Tm := ⟨fun w P cs t => TmIn w P 2000 cs t, fun hs hk hP h => h.kept hs hk hP⟩
structure AccG {α : Type} (T : TypeId) (sz : Nat) (E : Way α) (B : Nat) (v : Value) (ts : List α) (w : World) : Prop where
 own : ∃ xs, w.ownsRow B T sz v ts.length xs ∧ RowsIn sz (E.on w (fun b => B ≤ b ∧ v.ownBlock ≠ some b)) xs ts
section
variable {α : Type} {T : TypeId} {sz : Nat} {E : Way α} {B : Nat}
theorem AccG.nil (w : World) : AccG T sz E B (.slice none 0 0) [] w := ⟨⟨[], World.ownsRow_nil _ _ _ _, rfl⟩⟩
theorem AccG.grown {r : Nat} {v : Value} {ts : List α} {w w' : World} (h : AccG T sz E B v ts w) (hg : w.grownBy w' (some r)) (hr : r < B) : AccG T sz E B v ts w' := by
 obtain ⟨xs, ho, hR⟩ := h.own
 exact ⟨xs, ho.kept hg (.inr fun e => by have := (ho.lt r e).1; omega), hR.mono fun _ _ h => E.keep hg.size (fun b hb hl => hg.block b hl fun e => by have := Option.some.inj e; omega) (fun b hb _ => hb) h⟩
theorem AccG.below {v : Value} {ts : List α} {w w' : World} (h : AccG T sz E B v ts w) (hb : Below w.heap.size w w') : AccG T sz E B v ts w' := by
 obtain ⟨xs, ho, hR⟩ := h.own
 exact ⟨xs, ho.kept (grownBy_below hb none) (by cases v.ownBlock <;> simp), hR.mono fun _ _ h => E.below hb h⟩
theorem AccG.sl {v : Value} {ts : List α} {w : World} (h : AccG T sz E B v ts w) : ∃ ao c, v = .slice ao ts.length c ∧ SlIn w (B ≤ ·) sz (E.on w (B ≤ ·)) ao ts := by
 obtain ⟨xs, ho, hR⟩ := h.own
 exact owns_slIn ho (hR.mono fun _ _ h => E.keep (Nat.le_refl _) (fun _ _ _ => rfl) (fun b hb _ => hb.1) h)
theorem AccG.app {v v' : Value} {ts : List α} {w0 w w' : World} {xs cs : List Value} {t : α} (hlt : ∀ k, v.ownBlock = some k → k < w0.heap.size) (hR : RowsIn sz (E.on w (fun b => B ≤ b ∧ v.ownBlock ≠ some b)) xs ts)
  (ht : E.on w (w0.heap.size ≤ ·) cs t) (hcl : cs.length = sz) (hB : B ≤ w0.heap.size) (hg : w.grownBy w' v.ownBlock) (hat : ∀ k, v'.ownBlock = some k → v.ownBlock = some k ∨ w.heap.size ≤ k) (ho' : w'.ownsRow B T sz v' (ts.length + 1) (xs ++ cs)) : AccG T sz E B v' (ts ++ [t]) w' := by
 have hne : ∀ b, v.ownBlock ≠ some b → b < w.heap.size → v'.ownBlock ≠ some b := fun b h1 h2 e => by
  rcases hat b e with h | h
  ·exact h1 h
  ·omega
 refine ⟨xs ++ cs, by rw [List.length_append]; exact ho', RowsIn.snoc hcl (E.keep hg.size (fun b hb hl => hg.block b hl fun e => by have := hlt b e.symm; omega) (fun b hb hl => ⟨Nat.le_trans hB hb, hne b (fun e => by have := hlt b e; omega) hl⟩) ht) (hR.mono fun _ _ h => E.keep hg.size (fun b hb hl => hg.block b hl fun e => hb.2 e.symm) (fun b hb hl => ⟨hb.1, hne b hb.2 hl⟩) h)⟩
end
/-- What a reader of a list may end in. -/
def LPost {α : Type} (r : Nat) (w : World) (sz : Nat) (E : Way α) (d : Option (List α × List UInt8)) (e : Ending) (w' : World) : Prop :=
 match d with
 | none => e = gaveUp ∧ w.grownBy w' (some r)
 | some (ts, l) => (∃ so c, e = .returned (.slice so ts.length c) ∧ SlIn w' (w.heap.size ≤ ·) sz (E.on w' (w.heap.size ≤ ·)) so ts) ∧ RdC r l w' ∧ w.grownBy w' (some r)
theorem repD_succ {α : Type} (one : Dec α) (n : Nat) (l : List UInt8) : repD one (n + 1) l = (one l).bind fun x => (repD one n x.2).bind fun y => some (x.1 :: y.1, y.2) := rfl
/-- A slice in new blocks stays while blocks that are older are written. -/
theorem SlIn.onKeep {α : Type} {w w' : World} {P P' : Nat → Prop} {sz : Nat} {E : Way α} {ao : Option Addr} {ts : List α} (h : SlIn w P sz (E.on w P) ao ts) (hs : w.heap.size ≤ w'.heap.size) (hk : ∀ b, P b → b < w.heap.size → w'.heap[b]? = w.heap[b]?) (hP : ∀ b, P b → b < w.heap.size → P' b) : SlIn w' P' sz (E.on w' P') ao ts :=
 h.kept hs hk hP fun _ _ h => E.keep hs hk hP h
end Go.Proofs.YtghgbikmlbildaaGreatDoor
namespace Go.Proofs.YtghgbikmlbildaaGreatDoor
open Go.RowKit
set_option linter.unusedVariables false
set_option linter.unusedSimpArgs false

theorem infoArgK : (Tryz.prog.info? 45).map (fun i => (i.zero, i.size, i.bytes)) = some (some (.agg #[.int .i64 0, .int .i64 0]), 2, 16) := by kernel_rfl
/-- What the reader of one Arg may end in. -/
def ArgPost (r : Nat) (w : World) (d : Option (RArg × List UInt8)) (e : Ending) (w' : World) : Prop :=
 match d with
 | none => e = gaveUp ∧ w.grownBy w' (some r)
 | some (x, l) => (e = .returned (.agg #[.int .i64 x.kind, .int .i64 x.n]) ∧ (Way.pure ArgR).on w' (w.heap.size ≤ ·) (#[.int .i64 x.kind, .int .i64 x.n]).toList x) ∧ RdC r l w' ∧ w.grownBy w' (some r)
set_option maxRecDepth 100000 in
set_option maxHeartbeats 8000000 in
theorem klistArg_any (r : Nat) (l0 : List UInt8) (w : World) (HO : ∀ (l : List UInt8) (wx : World), RdC r l wx → Calls Tryz.prog 103 #[.pointer (some ⟨r, 0, none⟩)] wx (ArgPost r wx (argD l)))
  (HL : ∀ l x l', argD l = some (x, l') → l'.length < l.length) (h : RdC r l0 w) :
  Calls Tryz.prog 104 #[.pointer (some ⟨r, 0, none⟩), .func (.func 103) #[.pointer (some ⟨r, 0, none⟩)] #[]] w (LPost r w 2 (Way.pure ArgR) (listD argD l0)) := by
 generalize hQ : LPost r w 2 (Way.pure ArgR) (listD argD l0) = Q at *
 have HQ := Lib.hid hQ
 clear hQ
 have HOO := Lib.hid HO; have HLL := Lib.hid HL
 clear HO HL
 have HN := knum_any r l0 w h
 have HD : Hid (listD argD l0 = (vD l0).bind fun x => repD argD x.1 x.2) := Lib.hid rfl
 have hrw := h.lt
 have hlen0 := h.len
 go_enter Tryz.func104, Tryz.ntmps104
 rcases h1 : vD l0 with _ | ⟨n, l1⟩
 ·rw [h1] at HN HD
  go_wp2_with (go_at_call 56; refine HN.mono ?_; rintro e w1 ⟨rfl, hg1⟩)
  exact ⟨rfl, by rw [← HQ.out, HD.out]; exact ⟨rfl, hg1⟩⟩
 rw [h1] at HN HD
 rw [Option.bind_some] at HD
 have hn := vD_len h1
 go_wp2_with (go_at_call 56; refine HN.mono ?_; rintro e w1 ⟨rfl, hr1, hg1⟩)
 go_loopw [6, 5] (fun nv lv wr => ∃ (k : Nat) (l : List UInt8) (ts : List RArg), nv = .int .i64 k ∧ k + ts.length = n ∧ ts.length + l.length ≤ l0.length ∧ Hid (listD argD l0 = (repD argD k l).bind fun y => some (ts ++ y.1, y.2)) ∧ RdC r l wr ∧ AccG 45 2 (Way.pure ArgR) w.heap.size lv ts wr ∧ w.grownBy wr (some r)) (fun nv _ _ => (intOf nv).toNat)
 case atStart => exact ⟨n, l1, [], rfl, rfl, by simp; omega, Lib.hid (by rw [HD.out]; cases repD argD n l1 <;> rfl), hr1, AccG.nil _, hg1⟩
 case round =>
  obtain ⟨k, l, ts, rfl, hk, hll, HI, hrd, hacc, hg⟩ := hrel
  cases k with
  | zero =>
   obtain ⟨ao, cap, rfl, hsl⟩ := hacc.sl
   have HS := Lib.hid hsl
   clear hsl
   go_wp2_with fail
   rw [← HQ.out, HI.out]
   exact ⟨⟨_, _, by rw [List.append_nil], by rw [List.append_nil]; exact HS.out⟩, hrd, hg⟩
  | succ k =>
   obtain ⟨ao, cap0, rfl, -⟩ := hacc.sl
   have hpos : ((k + 1 : Nat) : Int) > 0 := by omega
   have HT := HOO.out l wr hrd
   rcases h2 : argD l with _ | ⟨x, l2⟩
   ·rw [h2] at HT
    go_wp2_with (go_at_call 103; refine HT.mono ?_; rintro e w2 ⟨rfl, hg2⟩)
    exact ⟨rfl, by rw [← HQ.out, HI.out, repD_succ, h2]; exact ⟨rfl, grownBy_trans hg hg2⟩⟩
   rw [h2] at HT
   have hlt := HLL.out l x l2 h2
   obtain ⟨i0, hi, hz0, hz1, hz2⟩ := info_parts infoArgK
   go_wp2_with (first
    | (go_at_call 103; refine HT.mono ?_; rintro e w2 ⟨⟨rfl, hval⟩, hr2, hg2⟩; obtain ⟨xs, ho, hR⟩ := ((hacc.grown hg2 hrw).below ((Below.refl _ _).alloc (Nat.le_refl _) (.cells #[.int .i64 x.kind, .int .i64 x.n] 45))).own)
    | (at_builtin; refine wpList_append_lies _ rfl (.tmp 13) (.tmp 16) 46 rfl w.heap.size 45 i0 _ 2 16 Tryz.underlying46 hi hz0 hz1 hz2 rfl (by decide) _ ts.length xs rfl ho ⟨w2.heap.size, 0, none⟩ 1 1 (#[.int .i64 x.kind, .int .i64 x.n]).toList rfl rfl (World.news_of_block (heap_alloc_new _ _)) (by simp [Value.oneCell']) (by decide) (by unfold maxLen; omega) (by omega) (by have := hg.size; have := hg2.size; simp; omega) _ rfl ?_; intro g cap w3 ho3 hg3 hat hlt3))
   have ho0 : ∀ k, (Value.slice ao ts.length cap0).ownBlock = some k → w.heap.size ≤ k ∧ k < wr.heap.size := by
    obtain ⟨xs0, ho0, -⟩ := hacc.own; exact ho0.lt
   have hb1 := (Below.refl w2.heap.size w2).alloc (Nat.le_refl _) (.cells #[.int .i64 x.kind, .int .i64 x.n] 45)
   have hacc2 : AccG 45 2 (Way.pure ArgR) w.heap.size (.slice (some ⟨g, 0, none⟩) (ts.length + 1) cap) (ts ++ [x]) w3 :=
    AccG.app (fun k e => (ho0 k e).2) hR (Way.below _ hb1 hval) rfl hg.size hg3 (fun k e => by
     have e : g = k := Option.some.inj e
     subst e
     exact hat.imp id fun h => Nat.le_of_eq h.symm) ho3
   have hr3 : RdC r l2 w3 := by
    obtain ⟨s, h1, h2⟩ := hr2.below hb1
    exact ⟨s, (hg3.block r (lt_of_row h1) fun e => by have := (ho0 r e.symm).1; omega).trans h1, h2⟩
   have hgw : w.grownBy w3 (some r) := grownBy_own (grown_low (grownBy_trans hg hg2) (hb1.mono (Nat.le_trans hg.size hg2.size))) hg3 (fun k e => (ho0 k e).1)
   go_wp2_with fail
   go_roundw
   case rel => exact ⟨k, l2, ts ++ [x], by go_num, by rw [List.length_append]; simp; omega, by rw [List.length_append]; simp; omega, Lib.hid (by
    rw [HI.out, repD_succ, h2, Option.bind_some]
    cases repD argD k l2 with
    | none => rfl
    | some y => simp only [Option.bind_some, List.append_assoc, List.cons_append, List.nil_append]), hr3, hacc2, hgw⟩
   case measure => simp [intOf]

theorem infoCaseK : (Tryz.prog.info? 131).map (fun i => (i.zero, i.size, i.bytes)) = some (some (.agg #[.int .i64 0, .int .i64 0]), 2, 16) := by kernel_rfl
/-- What the reader of one Case may end in. -/
def CasePost (r : Nat) (w : World) (d : Option (RCase × List UInt8)) (e : Ending) (w' : World) : Prop :=
 match d with
 | none => e = gaveUp ∧ w.grownBy w' (some r)
 | some (x, l) => (e = .returned (.agg #[.int .i64 x.lit, .int .i64 x.to]) ∧ (Way.pure CaseR).on w' (w.heap.size ≤ ·) (#[.int .i64 x.lit, .int .i64 x.to]).toList x) ∧ RdC r l w' ∧ w.grownBy w' (some r)
set_option maxRecDepth 100000 in
set_option maxHeartbeats 8000000 in
theorem klistCase_any (r : Nat) (l0 : List UInt8) (w : World) (HO : ∀ (l : List UInt8) (wx : World), RdC r l wx → Calls Tryz.prog 106 #[.pointer (some ⟨r, 0, none⟩)] wx (CasePost r wx (caseD l)))
  (HL : ∀ l x l', caseD l = some (x, l') → l'.length < l.length) (h : RdC r l0 w) :
  Calls Tryz.prog 105 #[.pointer (some ⟨r, 0, none⟩), .func (.func 106) #[.pointer (some ⟨r, 0, none⟩)] #[]] w (LPost r w 2 (Way.pure CaseR) (listD caseD l0)) := by
 generalize hQ : LPost r w 2 (Way.pure CaseR) (listD caseD l0) = Q at *
 have HQ := Lib.hid hQ
 clear hQ
 have HOO := Lib.hid HO; have HLL := Lib.hid HL
 clear HO HL
 have HN := knum_any r l0 w h
 have HD : Hid (listD caseD l0 = (vD l0).bind fun x => repD caseD x.1 x.2) := Lib.hid rfl
 have hrw := h.lt
 have hlen0 := h.len
 go_enter Tryz.func105, Tryz.ntmps105
 rcases h1 : vD l0 with _ | ⟨n, l1⟩
 ·rw [h1] at HN HD
  go_wp2_with (go_at_call 56; refine HN.mono ?_; rintro e w1 ⟨rfl, hg1⟩)
  exact ⟨rfl, by rw [← HQ.out, HD.out]; exact ⟨rfl, hg1⟩⟩
 rw [h1] at HN HD
 rw [Option.bind_some] at HD
 have hn := vD_len h1
 go_wp2_with (go_at_call 56; refine HN.mono ?_; rintro e w1 ⟨rfl, hr1, hg1⟩)
 go_loopw [6, 5] (fun nv lv wr => ∃ (k : Nat) (l : List UInt8) (ts : List RCase), nv = .int .i64 k ∧ k + ts.length = n ∧ ts.length + l.length ≤ l0.length ∧ Hid (listD caseD l0 = (repD caseD k l).bind fun y => some (ts ++ y.1, y.2)) ∧ RdC r l wr ∧ AccG 131 2 (Way.pure CaseR) w.heap.size lv ts wr ∧ w.grownBy wr (some r)) (fun nv _ _ => (intOf nv).toNat)
 case atStart => exact ⟨n, l1, [], rfl, rfl, by simp; omega, Lib.hid (by rw [HD.out]; cases repD caseD n l1 <;> rfl), hr1, AccG.nil _, hg1⟩
 case round =>
  obtain ⟨k, l, ts, rfl, hk, hll, HI, hrd, hacc, hg⟩ := hrel
  cases k with
  | zero =>
   obtain ⟨ao, cap, rfl, hsl⟩ := hacc.sl
   have HS := Lib.hid hsl
   clear hsl
   go_wp2_with fail
   rw [← HQ.out, HI.out]
   exact ⟨⟨_, _, by rw [List.append_nil], by rw [List.append_nil]; exact HS.out⟩, hrd, hg⟩
  | succ k =>
   obtain ⟨ao, cap0, rfl, -⟩ := hacc.sl
   have hpos : ((k + 1 : Nat) : Int) > 0 := by omega
   have HT := HOO.out l wr hrd
   rcases h2 : caseD l with _ | ⟨x, l2⟩
   ·rw [h2] at HT
    go_wp2_with (go_at_call 106; refine HT.mono ?_; rintro e w2 ⟨rfl, hg2⟩)
    exact ⟨rfl, by rw [← HQ.out, HI.out, repD_succ, h2]; exact ⟨rfl, grownBy_trans hg hg2⟩⟩
   rw [h2] at HT
   have hlt := HLL.out l x l2 h2
   obtain ⟨i0, hi, hz0, hz1, hz2⟩ := info_parts infoCaseK
   go_wp2_with (first
    | (go_at_call 106; refine HT.mono ?_; rintro e w2 ⟨⟨rfl, hval⟩, hr2, hg2⟩; obtain ⟨xs, ho, hR⟩ := ((hacc.grown hg2 hrw).below ((Below.refl _ _).alloc (Nat.le_refl _) (.cells #[.int .i64 x.lit, .int .i64 x.to] 131))).own)
    | (at_builtin; refine wpList_append_lies _ rfl (.tmp 13) (.tmp 16) 47 rfl w.heap.size 131 i0 _ 2 16 Tryz.underlying47 hi hz0 hz1 hz2 rfl (by decide) _ ts.length xs rfl ho ⟨w2.heap.size, 0, none⟩ 1 1 (#[.int .i64 x.lit, .int .i64 x.to]).toList rfl rfl (World.news_of_block (heap_alloc_new _ _)) (by simp [Value.oneCell']) (by decide) (by unfold maxLen; omega) (by omega) (by have := hg.size; have := hg2.size; simp; omega) _ rfl ?_; intro g cap w3 ho3 hg3 hat hlt3))
   have ho0 : ∀ k, (Value.slice ao ts.length cap0).ownBlock = some k → w.heap.size ≤ k ∧ k < wr.heap.size := by
    obtain ⟨xs0, ho0, -⟩ := hacc.own; exact ho0.lt
   have hb1 := (Below.refl w2.heap.size w2).alloc (Nat.le_refl _) (.cells #[.int .i64 x.lit, .int .i64 x.to] 131)
   have hacc2 : AccG 131 2 (Way.pure CaseR) w.heap.size (.slice (some ⟨g, 0, none⟩) (ts.length + 1) cap) (ts ++ [x]) w3 :=
    AccG.app (fun k e => (ho0 k e).2) hR (Way.below _ hb1 hval) rfl hg.size hg3 (fun k e => by
     have e : g = k := Option.some.inj e
     subst e
     exact hat.imp id fun h => Nat.le_of_eq h.symm) ho3
   have hr3 : RdC r l2 w3 := by
    obtain ⟨s, h1, h2⟩ := hr2.below hb1
    exact ⟨s, (hg3.block r (lt_of_row h1) fun e => by have := (ho0 r e.symm).1; omega).trans h1, h2⟩
   have hgw : w.grownBy w3 (some r) := grownBy_own (grown_low (grownBy_trans hg hg2) (hb1.mono (Nat.le_trans hg.size hg2.size))) hg3 (fun k e => (ho0 k e).1)
   go_wp2_with fail
   go_roundw
   case rel => exact ⟨k, l2, ts ++ [x], by go_num, by rw [List.length_append]; simp; omega, by rw [List.length_append]; simp; omega, Lib.hid (by
    rw [HI.out, repD_succ, h2, Option.bind_some]
    cases repD caseD k l2 with
    | none => rfl
    | some y => simp only [Option.bind_some, List.append_assoc, List.cons_append, List.nil_append]), hr3, hacc2, hgw⟩
   case measure => simp [intOf]

theorem infoSegK : (Tryz.prog.info? 133).map (fun i => (i.zero, i.size, i.bytes)) = some (some (.agg #[.int .i64 0, .int .i64 0, .int .i64 0, .int .i64 0, .int .i64 0, .bool false]), 6, 48) := by kernel_rfl
/-- What the reader of one Seg may end in. -/
def SegPost (r : Nat) (w : World) (d : Option (RSeg × List UInt8)) (e : Ending) (w' : World) : Prop :=
 match d with
 | none => e = gaveUp ∧ w.grownBy w' (some r)
 | some (x, l) => (e = .returned (.agg #[.int .i64 x.type, .int .i64 x.val.kind, .int .i64 x.val.n, .int .i64 x.size.kind, .int .i64 x.size.n, .bool x.little]) ∧ (Way.pure SegR).on w' (w.heap.size ≤ ·) (#[.int .i64 x.type, .int .i64 x.val.kind, .int .i64 x.val.n, .int .i64 x.size.kind, .int .i64 x.size.n, .bool x.little]).toList x) ∧ RdC r l w' ∧ w.grownBy w' (some r)
set_option maxRecDepth 100000 in
set_option maxHeartbeats 8000000 in
theorem klistSeg_any (r : Nat) (l0 : List UInt8) (w : World) (HO : ∀ (l : List UInt8) (wx : World), RdC r l wx → Calls Tryz.prog 108 #[.pointer (some ⟨r, 0, none⟩)] wx (SegPost r wx (segD l)))
  (HL : ∀ l x l', segD l = some (x, l') → l'.length < l.length) (h : RdC r l0 w) :
  Calls Tryz.prog 107 #[.pointer (some ⟨r, 0, none⟩), .func (.func 108) #[.pointer (some ⟨r, 0, none⟩)] #[]] w (LPost r w 6 (Way.pure SegR) (listD segD l0)) := by
 generalize hQ : LPost r w 6 (Way.pure SegR) (listD segD l0) = Q at *
 have HQ := Lib.hid hQ
 clear hQ
 have HOO := Lib.hid HO; have HLL := Lib.hid HL
 clear HO HL
 have HN := knum_any r l0 w h
 have HD : Hid (listD segD l0 = (vD l0).bind fun x => repD segD x.1 x.2) := Lib.hid rfl
 have hrw := h.lt
 have hlen0 := h.len
 go_enter Tryz.func107, Tryz.ntmps107
 rcases h1 : vD l0 with _ | ⟨n, l1⟩
 ·rw [h1] at HN HD
  go_wp2_with (go_at_call 56; refine HN.mono ?_; rintro e w1 ⟨rfl, hg1⟩)
  exact ⟨rfl, by rw [← HQ.out, HD.out]; exact ⟨rfl, hg1⟩⟩
 rw [h1] at HN HD
 rw [Option.bind_some] at HD
 have hn := vD_len h1
 go_wp2_with (go_at_call 56; refine HN.mono ?_; rintro e w1 ⟨rfl, hr1, hg1⟩)
 go_loopw [6, 5] (fun nv lv wr => ∃ (k : Nat) (l : List UInt8) (ts : List RSeg), nv = .int .i64 k ∧ k + ts.length = n ∧ ts.length + l.length ≤ l0.length ∧ Hid (listD segD l0 = (repD segD k l).bind fun y => some (ts ++ y.1, y.2)) ∧ RdC r l wr ∧ AccG 133 6 (Way.pure SegR) w.heap.size lv ts wr ∧ w.grownBy wr (some r)) (fun nv _ _ => (intOf nv).toNat)
 case atStart => exact ⟨n, l1, [], rfl, rfl, by simp; omega, Lib.hid (by rw [HD.out]; cases repD segD n l1 <;> rfl), hr1, AccG.nil _, hg1⟩
 case round =>
  obtain ⟨k, l, ts, rfl, hk, hll, HI, hrd, hacc, hg⟩ := hrel
  cases k with
  | zero =>
   obtain ⟨ao, cap, rfl, hsl⟩ := hacc.sl
   have HS := Lib.hid hsl
   clear hsl
   go_wp2_with fail
   rw [← HQ.out, HI.out]
   exact ⟨⟨_, _, by rw [List.append_nil], by rw [List.append_nil]; exact HS.out⟩, hrd, hg⟩
  | succ k =>
   obtain ⟨ao, cap0, rfl, -⟩ := hacc.sl
   have hpos : ((k + 1 : Nat) : Int) > 0 := by omega
   have HT := HOO.out l wr hrd
   rcases h2 : segD l with _ | ⟨x, l2⟩
   ·rw [h2] at HT
    go_wp2_with (go_at_call 108; refine HT.mono ?_; rintro e w2 ⟨rfl, hg2⟩)
    exact ⟨rfl, by rw [← HQ.out, HI.out, repD_succ, h2]; exact ⟨rfl, grownBy_trans hg hg2⟩⟩
   rw [h2] at HT
   have hlt := HLL.out l x l2 h2
   obtain ⟨i0, hi, hz0, hz1, hz2⟩ := info_parts infoSegK
   go_wp2_with (first
    | (go_at_call 108; refine HT.mono ?_; rintro e w2 ⟨⟨rfl, hval⟩, hr2, hg2⟩; obtain ⟨xs, ho, hR⟩ := ((hacc.grown hg2 hrw).below ((Below.refl _ _).alloc (Nat.le_refl _) (.cells #[.int .i64 x.type, .int .i64 x.val.kind, .int .i64 x.val.n, .int .i64 x.size.kind, .int .i64 x.size.n, .bool x.little] 133))).own)
    | (at_builtin; refine wpList_append_lies _ rfl (.tmp 13) (.tmp 16) 48 rfl w.heap.size 133 i0 _ 6 48 Tryz.underlying48 hi hz0 hz1 hz2 rfl (by decide) _ ts.length xs rfl ho ⟨w2.heap.size, 0, none⟩ 1 1 (#[.int .i64 x.type, .int .i64 x.val.kind, .int .i64 x.val.n, .int .i64 x.size.kind, .int .i64 x.size.n, .bool x.little]).toList rfl rfl (World.news_of_block (heap_alloc_new _ _)) (by simp [Value.oneCell']) (by decide) (by unfold maxLen; omega) (by omega) (by have := hg.size; have := hg2.size; simp; omega) _ rfl ?_; intro g cap w3 ho3 hg3 hat hlt3))
   have ho0 : ∀ k, (Value.slice ao ts.length cap0).ownBlock = some k → w.heap.size ≤ k ∧ k < wr.heap.size := by
    obtain ⟨xs0, ho0, -⟩ := hacc.own; exact ho0.lt
   have hb1 := (Below.refl w2.heap.size w2).alloc (Nat.le_refl _) (.cells #[.int .i64 x.type, .int .i64 x.val.kind, .int .i64 x.val.n, .int .i64 x.size.kind, .int .i64 x.size.n, .bool x.little] 133)
   have hacc2 : AccG 133 6 (Way.pure SegR) w.heap.size (.slice (some ⟨g, 0, none⟩) (ts.length + 1) cap) (ts ++ [x]) w3 :=
    AccG.app (fun k e => (ho0 k e).2) hR (Way.below _ hb1 hval) rfl hg.size hg3 (fun k e => by
     have e : g = k := Option.some.inj e
     subst e
     exact hat.imp id fun h => Nat.le_of_eq h.symm) ho3
   have hr3 : RdC r l2 w3 := by
    obtain ⟨s, h1, h2⟩ := hr2.below hb1
    exact ⟨s, (hg3.block r (lt_of_row h1) fun e => by have := (ho0 r e.symm).1; omega).trans h1, h2⟩
   have hgw : w.grownBy w3 (some r) := grownBy_own (grown_low (grownBy_trans hg hg2) (hb1.mono (Nat.le_trans hg.size hg2.size))) hg3 (fun k e => (ho0 k e).1)
   go_wp2_with fail
   go_roundw
   case rel => exact ⟨k, l2, ts ++ [x], by go_num, by rw [List.length_append]; simp; omega, by rw [List.length_append]; simp; omega, Lib.hid (by
    rw [HI.out, repD_succ, h2, Option.bind_some]
    cases repD segD k l2 with
    | none => rfl
    | some y => simp only [Option.bind_some, List.append_assoc, List.cons_append, List.nil_append]), hr3, hacc2, hgw⟩
   case measure => simp [intOf]

theorem infoFuncK : (Tryz.prog.info? 81).map (fun i => (i.zero, i.size, i.bytes)) = some (some (.agg #[.string ⟨#[]⟩, .int .i64 0, .bool false, .int .i64 0]), 4, 40) := by kernel_rfl
/-- What the reader of one Func may end in. -/
def FuncPost (r : Nat) (w : World) (d : Option (RFunc × List UInt8)) (e : Ending) (w' : World) : Prop :=
 match d with
 | none => e = gaveUp ∧ w.grownBy w' (some r)
 | some (x, l) => (e = .returned (.agg #[.string x.name, .int .i64 x.arity, .bool x.pub, .int .i64 x.entry]) ∧ (Way.pure FuncR).on w' (w.heap.size ≤ ·) (#[.string x.name, .int .i64 x.arity, .bool x.pub, .int .i64 x.entry]).toList x) ∧ RdC r l w' ∧ w.grownBy w' (some r)
set_option maxRecDepth 100000 in
set_option maxHeartbeats 8000000 in
theorem klistFunc_any (r : Nat) (l0 : List UInt8) (w : World) (HO : ∀ (l : List UInt8) (wx : World), RdC r l wx → Calls Tryz.prog 60 #[.pointer (some ⟨r, 0, none⟩)] wx (FuncPost r wx (funcD l)))
  (HL : ∀ l x l', funcD l = some (x, l') → l'.length < l.length) (h : RdC r l0 w) :
  Calls Tryz.prog 59 #[.pointer (some ⟨r, 0, none⟩), .func (.func 60) #[.pointer (some ⟨r, 0, none⟩)] #[]] w (LPost r w 4 (Way.pure FuncR) (listD funcD l0)) := by
 generalize hQ : LPost r w 4 (Way.pure FuncR) (listD funcD l0) = Q at *
 have HQ := Lib.hid hQ
 clear hQ
 have HOO := Lib.hid HO; have HLL := Lib.hid HL
 clear HO HL
 have HN := knum_any r l0 w h
 have HD : Hid (listD funcD l0 = (vD l0).bind fun x => repD funcD x.1 x.2) := Lib.hid rfl
 have hrw := h.lt
 have hlen0 := h.len
 go_enter Tryz.func59, Tryz.ntmps59
 rcases h1 : vD l0 with _ | ⟨n, l1⟩
 ·rw [h1] at HN HD
  go_wp2_with (go_at_call 56; refine HN.mono ?_; rintro e w1 ⟨rfl, hg1⟩)
  exact ⟨rfl, by rw [← HQ.out, HD.out]; exact ⟨rfl, hg1⟩⟩
 rw [h1] at HN HD
 rw [Option.bind_some] at HD
 have hn := vD_len h1
 go_wp2_with (go_at_call 56; refine HN.mono ?_; rintro e w1 ⟨rfl, hr1, hg1⟩)
 go_loopw [6, 5] (fun nv lv wr => ∃ (k : Nat) (l : List UInt8) (ts : List RFunc), nv = .int .i64 k ∧ k + ts.length = n ∧ ts.length + l.length ≤ l0.length ∧ Hid (listD funcD l0 = (repD funcD k l).bind fun y => some (ts ++ y.1, y.2)) ∧ RdC r l wr ∧ AccG 81 4 (Way.pure FuncR) w.heap.size lv ts wr ∧ w.grownBy wr (some r)) (fun nv _ _ => (intOf nv).toNat)
 case atStart => exact ⟨n, l1, [], rfl, rfl, by simp; omega, Lib.hid (by rw [HD.out]; cases repD funcD n l1 <;> rfl), hr1, AccG.nil _, hg1⟩
 case round =>
  obtain ⟨k, l, ts, rfl, hk, hll, HI, hrd, hacc, hg⟩ := hrel
  cases k with
  | zero =>
   obtain ⟨ao, cap, rfl, hsl⟩ := hacc.sl
   have HS := Lib.hid hsl
   clear hsl
   go_wp2_with fail
   rw [← HQ.out, HI.out]
   exact ⟨⟨_, _, by rw [List.append_nil], by rw [List.append_nil]; exact HS.out⟩, hrd, hg⟩
  | succ k =>
   obtain ⟨ao, cap0, rfl, -⟩ := hacc.sl
   have hpos : ((k + 1 : Nat) : Int) > 0 := by omega
   have HT := HOO.out l wr hrd
   rcases h2 : funcD l with _ | ⟨x, l2⟩
   ·rw [h2] at HT
    go_wp2_with (go_at_call 60; refine HT.mono ?_; rintro e w2 ⟨rfl, hg2⟩)
    exact ⟨rfl, by rw [← HQ.out, HI.out, repD_succ, h2]; exact ⟨rfl, grownBy_trans hg hg2⟩⟩
   rw [h2] at HT
   have hlt := HLL.out l x l2 h2
   obtain ⟨i0, hi, hz0, hz1, hz2⟩ := info_parts infoFuncK
   go_wp2_with (first
    | (go_at_call 60; refine HT.mono ?_; rintro e w2 ⟨⟨rfl, hval⟩, hr2, hg2⟩; obtain ⟨xs, ho, hR⟩ := ((hacc.grown hg2 hrw).below ((Below.refl _ _).alloc (Nat.le_refl _) (.cells #[.string x.name, .int .i64 x.arity, .bool x.pub, .int .i64 x.entry] 81))).own)
    | (at_builtin; refine wpList_append_lies _ rfl (.tmp 13) (.tmp 16) 23 rfl w.heap.size 81 i0 _ 4 40 Tryz.underlying23 hi hz0 hz1 hz2 rfl (by decide) _ ts.length xs rfl ho ⟨w2.heap.size, 0, none⟩ 1 1 (#[.string x.name, .int .i64 x.arity, .bool x.pub, .int .i64 x.entry]).toList rfl rfl (World.news_of_block (heap_alloc_new _ _)) (by simp [Value.oneCell']) (by decide) (by unfold maxLen; omega) (by omega) (by have := hg.size; have := hg2.size; simp; omega) _ rfl ?_; intro g cap w3 ho3 hg3 hat hlt3))
   have ho0 : ∀ k, (Value.slice ao ts.length cap0).ownBlock = some k → w.heap.size ≤ k ∧ k < wr.heap.size := by
    obtain ⟨xs0, ho0, -⟩ := hacc.own; exact ho0.lt
   have hb1 := (Below.refl w2.heap.size w2).alloc (Nat.le_refl _) (.cells #[.string x.name, .int .i64 x.arity, .bool x.pub, .int .i64 x.entry] 81)
   have hacc2 : AccG 81 4 (Way.pure FuncR) w.heap.size (.slice (some ⟨g, 0, none⟩) (ts.length + 1) cap) (ts ++ [x]) w3 :=
    AccG.app (fun k e => (ho0 k e).2) hR (Way.below _ hb1 hval) rfl hg.size hg3 (fun k e => by
     have e : g = k := Option.some.inj e
     subst e
     exact hat.imp id fun h => Nat.le_of_eq h.symm) ho3
   have hr3 : RdC r l2 w3 := by
    obtain ⟨s, h1, h2⟩ := hr2.below hb1
    exact ⟨s, (hg3.block r (lt_of_row h1) fun e => by have := (ho0 r e.symm).1; omega).trans h1, h2⟩
   have hgw : w.grownBy w3 (some r) := grownBy_own (grown_low (grownBy_trans hg hg2) (hb1.mono (Nat.le_trans hg.size hg2.size))) hg3 (fun k e => (ho0 k e).1)
   go_wp2_with fail
   go_roundw
   case rel => exact ⟨k, l2, ts ++ [x], by go_num, by rw [List.length_append]; simp; omega, by rw [List.length_append]; simp; omega, Lib.hid (by
    rw [HI.out, repD_succ, h2, Option.bind_some]
    cases repD funcD k l2 with
    | none => rfl
    | some y => simp only [Option.bind_some, List.append_assoc, List.cons_append, List.nil_append]), hr3, hacc2, hgw⟩
   case measure => simp [intOf]

theorem infoFunK : (Tryz.prog.info? 84).map (fun i => (i.zero, i.size, i.bytes)) = some (some (.agg #[.int .i64 0, .int .i64 0, .int .i64 0]), 3, 24) := by kernel_rfl
/-- What the reader of one Fun may end in. -/
def FunPost (r : Nat) (w : World) (d : Option (RFun × List UInt8)) (e : Ending) (w' : World) : Prop :=
 match d with
 | none => e = gaveUp ∧ w.grownBy w' (some r)
 | some (x, l) => (e = .returned (.agg #[.int .i64 x.arity, .int .i64 x.free, .int .i64 x.entry]) ∧ (Way.pure FunR).on w' (w.heap.size ≤ ·) (#[.int .i64 x.arity, .int .i64 x.free, .int .i64 x.entry]).toList x) ∧ RdC r l w' ∧ w.grownBy w' (some r)
set_option maxRecDepth 100000 in
set_option maxHeartbeats 8000000 in
theorem klistFun_any (r : Nat) (l0 : List UInt8) (w : World) (HO : ∀ (l : List UInt8) (wx : World), RdC r l wx → Calls Tryz.prog 62 #[.pointer (some ⟨r, 0, none⟩)] wx (FunPost r wx (fnD l)))
  (HL : ∀ l x l', fnD l = some (x, l') → l'.length < l.length) (h : RdC r l0 w) :
  Calls Tryz.prog 61 #[.pointer (some ⟨r, 0, none⟩), .func (.func 62) #[.pointer (some ⟨r, 0, none⟩)] #[]] w (LPost r w 3 (Way.pure FunR) (listD fnD l0)) := by
 generalize hQ : LPost r w 3 (Way.pure FunR) (listD fnD l0) = Q at *
 have HQ := Lib.hid hQ
 clear hQ
 have HOO := Lib.hid HO; have HLL := Lib.hid HL
 clear HO HL
 have HN := knum_any r l0 w h
 have HD : Hid (listD fnD l0 = (vD l0).bind fun x => repD fnD x.1 x.2) := Lib.hid rfl
 have hrw := h.lt
 have hlen0 := h.len
 go_enter Tryz.func61, Tryz.ntmps61
 rcases h1 : vD l0 with _ | ⟨n, l1⟩
 ·rw [h1] at HN HD
  go_wp2_with (go_at_call 56; refine HN.mono ?_; rintro e w1 ⟨rfl, hg1⟩)
  exact ⟨rfl, by rw [← HQ.out, HD.out]; exact ⟨rfl, hg1⟩⟩
 rw [h1] at HN HD
 rw [Option.bind_some] at HD
 have hn := vD_len h1
 go_wp2_with (go_at_call 56; refine HN.mono ?_; rintro e w1 ⟨rfl, hr1, hg1⟩)
 go_loopw [6, 5] (fun nv lv wr => ∃ (k : Nat) (l : List UInt8) (ts : List RFun), nv = .int .i64 k ∧ k + ts.length = n ∧ ts.length + l.length ≤ l0.length ∧ Hid (listD fnD l0 = (repD fnD k l).bind fun y => some (ts ++ y.1, y.2)) ∧ RdC r l wr ∧ AccG 84 3 (Way.pure FunR) w.heap.size lv ts wr ∧ w.grownBy wr (some r)) (fun nv _ _ => (intOf nv).toNat)
 case atStart => exact ⟨n, l1, [], rfl, rfl, by simp; omega, Lib.hid (by rw [HD.out]; cases repD fnD n l1 <;> rfl), hr1, AccG.nil _, hg1⟩
 case round =>
  obtain ⟨k, l, ts, rfl, hk, hll, HI, hrd, hacc, hg⟩ := hrel
  cases k with
  | zero =>
   obtain ⟨ao, cap, rfl, hsl⟩ := hacc.sl
   have HS := Lib.hid hsl
   clear hsl
   go_wp2_with fail
   rw [← HQ.out, HI.out]
   exact ⟨⟨_, _, by rw [List.append_nil], by rw [List.append_nil]; exact HS.out⟩, hrd, hg⟩
  | succ k =>
   obtain ⟨ao, cap0, rfl, -⟩ := hacc.sl
   have hpos : ((k + 1 : Nat) : Int) > 0 := by omega
   have HT := HOO.out l wr hrd
   rcases h2 : fnD l with _ | ⟨x, l2⟩
   ·rw [h2] at HT
    go_wp2_with (go_at_call 62; refine HT.mono ?_; rintro e w2 ⟨rfl, hg2⟩)
    exact ⟨rfl, by rw [← HQ.out, HI.out, repD_succ, h2]; exact ⟨rfl, grownBy_trans hg hg2⟩⟩
   rw [h2] at HT
   have hlt := HLL.out l x l2 h2
   obtain ⟨i0, hi, hz0, hz1, hz2⟩ := info_parts infoFunK
   go_wp2_with (first
    | (go_at_call 62; refine HT.mono ?_; rintro e w2 ⟨⟨rfl, hval⟩, hr2, hg2⟩; obtain ⟨xs, ho, hR⟩ := ((hacc.grown hg2 hrw).below ((Below.refl _ _).alloc (Nat.le_refl _) (.cells #[.int .i64 x.arity, .int .i64 x.free, .int .i64 x.entry] 84))).own)
    | (at_builtin; refine wpList_append_lies _ rfl (.tmp 13) (.tmp 16) 24 rfl w.heap.size 84 i0 _ 3 24 Tryz.underlying24 hi hz0 hz1 hz2 rfl (by decide) _ ts.length xs rfl ho ⟨w2.heap.size, 0, none⟩ 1 1 (#[.int .i64 x.arity, .int .i64 x.free, .int .i64 x.entry]).toList rfl rfl (World.news_of_block (heap_alloc_new _ _)) (by simp [Value.oneCell']) (by decide) (by unfold maxLen; omega) (by omega) (by have := hg.size; have := hg2.size; simp; omega) _ rfl ?_; intro g cap w3 ho3 hg3 hat hlt3))
   have ho0 : ∀ k, (Value.slice ao ts.length cap0).ownBlock = some k → w.heap.size ≤ k ∧ k < wr.heap.size := by
    obtain ⟨xs0, ho0, -⟩ := hacc.own; exact ho0.lt
   have hb1 := (Below.refl w2.heap.size w2).alloc (Nat.le_refl _) (.cells #[.int .i64 x.arity, .int .i64 x.free, .int .i64 x.entry] 84)
   have hacc2 : AccG 84 3 (Way.pure FunR) w.heap.size (.slice (some ⟨g, 0, none⟩) (ts.length + 1) cap) (ts ++ [x]) w3 :=
    AccG.app (fun k e => (ho0 k e).2) hR (Way.below _ hb1 hval) rfl hg.size hg3 (fun k e => by
     have e : g = k := Option.some.inj e
     subst e
     exact hat.imp id fun h => Nat.le_of_eq h.symm) ho3
   have hr3 : RdC r l2 w3 := by
    obtain ⟨s, h1, h2⟩ := hr2.below hb1
    exact ⟨s, (hg3.block r (lt_of_row h1) fun e => by have := (ho0 r e.symm).1; omega).trans h1, h2⟩
   have hgw : w.grownBy w3 (some r) := grownBy_own (grown_low (grownBy_trans hg hg2) (hb1.mono (Nat.le_trans hg.size hg2.size))) hg3 (fun k e => (ho0 k e).1)
   go_wp2_with fail
   go_roundw
   case rel => exact ⟨k, l2, ts ++ [x], by go_num, by rw [List.length_append]; simp; omega, by rw [List.length_append]; simp; omega, Lib.hid (by
    rw [HI.out, repD_succ, h2, Option.bind_some]
    cases repD fnD k l2 with
    | none => rfl
    | some y => simp only [Option.bind_some, List.append_assoc, List.cons_append, List.nil_append]), hr3, hacc2, hgw⟩
   case measure => simp [intOf]
end Go.Proofs.YtghgbikmlbildaaGreatDoor
