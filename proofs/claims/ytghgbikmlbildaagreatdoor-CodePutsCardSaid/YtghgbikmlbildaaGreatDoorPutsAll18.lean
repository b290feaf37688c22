/-
  The document's operators, and its rows of the operations: the walks (printed by gen_rrow.py).
-/
import Derived.Laws.CopyOwn
import Derived.Test.YtghgbikmlbildaaGreatDoorPutsAll02
import Derived.Test.YtghgbikmlbildaaGreatDoorPutsAll17
namespace Go.Proofs.YtghgbikmlbildaaGreatDoor
open Go.RowKit
set_option linter.unusedVariables false
set_option linter.unusedSimpArgs false

set_option maxRecDepth 100000 in
set_option maxHeartbeats 8000000 in
theorem roper_any (s : ByteArray) (n : Int) (w : World) : Calls Tryz.prog 93 #[.string s, .int .i64 n] w fun e w' => e = .returned (.bool (operB s n)) ∧ w = w' := by
 have HQ := Lib.hid (roper_eq s n)
 generalize operB s n = r at *
 by_cases h1 : n = 1
 ·subst h1
  rw [if_pos rfl] at HQ
  cases t0 : (s.toList == [45]) with
  | true =>
   rw [t0] at HQ
   have E : Hid (r = true) := Lib.hid (by rw [HQ.out]; rfl)
   go_enter Tryz.func93, Tryz.ntmps93
   go_wp2_with fail
   go_ret
   exact ⟨retb E.out.symm, rfl⟩
  | false =>
   cases t1 : (s.toList == [98, 110, 111, 116]) with
   | true =>
    rw [t0, t1] at HQ
    have E : Hid (r = true) := Lib.hid (by rw [HQ.out]; rfl)
    go_enter Tryz.func93, Tryz.ntmps93
    go_wp2_with fail
    go_ret
    exact ⟨retb E.out.symm, rfl⟩
   | false =>
    rw [t0, t1] at HQ
    have E : Hid (r = (s.toList == [110, 111, 116])) := Lib.hid (by rw [HQ.out]; rfl)
    go_enter Tryz.func93, Tryz.ntmps93
    go_wp2_with fail
    go_ret
    exact ⟨retb E.out.symm, rfl⟩
 ·rw [if_neg h1] at HQ
  have q1 : (n == 1) = false := beq_eq_false_iff_ne.2 h1
  by_cases h2 : n = 2
  ·subst h2
   rw [if_pos rfl] at HQ
   have HL : Hid (r = ((s.toList == [43]) || (s.toList == [45]) || (s.toList == [42]) || (s.toList == [100, 105, 118]) || (s.toList == [114, 101, 109]) || (s.toList == [98, 97, 110, 100]) || (s.toList == [98, 111, 114]) || (s.toList == [98, 120, 111, 114]) || (s.toList == [98, 115, 108]) || (s.toList == [98, 115, 114]) || (s.toList == [97, 110, 100]) || (s.toList == [111, 114]) || (s.toList == [120, 111, 114]) || (s.toList == [43, 43]) || (s.toList == [61, 58, 61]) || (s.toList == [61, 47, 61]) || (s.toList == [60]) || (s.toList == [61, 60]) || (s.toList == [62]) || (s.toList == [62, 61]))) := Lib.hid (by
    rw [HQ.out]; unfold opTwo; simp only [List.any_cons, List.any_nil]
    generalize (s.toList == [45]) = b0
    generalize (s.toList == [43]) = b1
    generalize (s.toList == [42]) = b2
    generalize (s.toList == [100, 105, 118]) = b3
    generalize (s.toList == [114, 101, 109]) = b4
    generalize (s.toList == [98, 97, 110, 100]) = b5
    generalize (s.toList == [98, 111, 114]) = b6
    generalize (s.toList == [98, 120, 111, 114]) = b7
    generalize (s.toList == [98, 115, 108]) = b8
    generalize (s.toList == [98, 115, 114]) = b9
    generalize (s.toList == [97, 110, 100]) = b10
    generalize (s.toList == [111, 114]) = b11
    generalize (s.toList == [120, 111, 114]) = b12
    generalize (s.toList == [61, 58, 61]) = b13
    generalize (s.toList == [61, 47, 61]) = b14
    generalize (s.toList == [60]) = b15
    generalize (s.toList == [61, 60]) = b16
    generalize (s.toList == [62]) = b17
    generalize (s.toList == [62, 61]) = b18
    generalize (s.toList == [43, 43]) = b19
    cases b0 <;> simp only [Bool.true_or, Bool.false_or, Bool.or_true, Bool.or_false] <;> (first | rfl | ac_rfl))
   clear h1 HQ
   cases t0 : (s.toList == [43]) with
   | true =>
    have E : Hid (r = true) := Lib.hid (by rw [HL.out]; simp only [t0, Bool.false_or, Bool.true_or, Bool.or_true])
    go_enter Tryz.func93, Tryz.ntmps93
    go_wp2_with fail
    go_ret
    exact ⟨retb E.out.symm, rfl⟩
   | false =>
    cases t1 : (s.toList == [45]) with
    | true =>
      have E : Hid (r = true) := Lib.hid (by rw [HL.out]; simp only [t0, t1, Bool.false_or, Bool.true_or, Bool.or_true])
      go_enter Tryz.func93, Tryz.ntmps93
      go_wp2_with fail
      go_ret
      exact ⟨retb E.out.symm, rfl⟩
    | false =>
    cases t2 : (s.toList == [42]) with
    | true =>
     have E : Hid (r = true) := Lib.hid (by rw [HL.out]; simp only [t0, t1, t2, Bool.false_or, Bool.true_or, Bool.or_true])
     go_enter Tryz.func93, Tryz.ntmps93
     go_wp2_with fail
     go_ret
     exact ⟨retb E.out.symm, rfl⟩
    | false =>
     cases t3 : (s.toList == [100, 105, 118]) with
     | true =>
       have E : Hid (r = true) := Lib.hid (by rw [HL.out]; simp only [t0, t1, t2, t3, Bool.false_or, Bool.true_or, Bool.or_true])
       go_enter Tryz.func93, Tryz.ntmps93
       go_wp2_with fail
       go_ret
       exact ⟨retb E.out.symm, rfl⟩
     | false =>
     cases t4 : (s.toList == [114, 101, 109]) with
     | true =>
      have E : Hid (r = true) := Lib.hid (by rw [HL.out]; simp only [t0, t1, t2, t3, t4, Bool.false_or, Bool.true_or, Bool.or_true])
      go_enter Tryz.func93, Tryz.ntmps93
      go_wp2_with fail
      go_ret
      exact ⟨retb E.out.symm, rfl⟩
     | false =>
      cases t5 : (s.toList == [98, 97, 110, 100]) with
      | true =>
        have E : Hid (r = true) := Lib.hid (by rw [HL.out]; simp only [t0, t1, t2, t3, t4, t5, Bool.false_or, Bool.true_or, Bool.or_true])
        go_enter Tryz.func93, Tryz.ntmps93
        go_wp2_with fail
        go_ret
        exact ⟨retb E.out.symm, rfl⟩
      | false =>
      cases t6 : (s.toList == [98, 111, 114]) with
      | true =>
       have E : Hid (r = true) := Lib.hid (by rw [HL.out]; simp only [t0, t1, t2, t3, t4, t5, t6, Bool.false_or, Bool.true_or, Bool.or_true])
       go_enter Tryz.func93, Tryz.ntmps93
       go_wp2_with fail
       go_ret
       exact ⟨retb E.out.symm, rfl⟩
      | false =>
       cases t7 : (s.toList == [98, 120, 111, 114]) with
       | true =>
         have E : Hid (r = true) := Lib.hid (by rw [HL.out]; simp only [t0, t1, t2, t3, t4, t5, t6, t7, Bool.false_or, Bool.true_or, Bool.or_true])
         go_enter Tryz.func93, Tryz.ntmps93
         go_wp2_with fail
         go_ret
         exact ⟨retb E.out.symm, rfl⟩
       | false =>
       cases t8 : (s.toList == [98, 115, 108]) with
       | true =>
        have E : Hid (r = true) := Lib.hid (by rw [HL.out]; simp only [t0, t1, t2, t3, t4, t5, t6, t7, t8, Bool.false_or, Bool.true_or, Bool.or_true])
        go_enter Tryz.func93, Tryz.ntmps93
        go_wp2_with fail
        go_ret
        exact ⟨retb E.out.symm, rfl⟩
       | false =>
        cases t9 : (s.toList == [98, 115, 114]) with
        | true =>
          have E : Hid (r = true) := Lib.hid (by rw [HL.out]; simp only [t0, t1, t2, t3, t4, t5, t6, t7, t8, t9, Bool.false_or, Bool.true_or, Bool.or_true])
          go_enter Tryz.func93, Tryz.ntmps93
          go_wp2_with fail
          go_ret
          exact ⟨retb E.out.symm, rfl⟩
        | false =>
        cases t10 : (s.toList == [97, 110, 100]) with
        | true =>
         have E : Hid (r = true) := Lib.hid (by rw [HL.out]; simp only [t0, t1, t2, t3, t4, t5, t6, t7, t8, t9, t10, Bool.false_or, Bool.true_or, Bool.or_true])
         go_enter Tryz.func93, Tryz.ntmps93
         go_wp2_with fail
         go_ret
         exact ⟨retb E.out.symm, rfl⟩
        | false =>
         cases t11 : (s.toList == [111, 114]) with
         | true =>
           have E : Hid (r = true) := Lib.hid (by rw [HL.out]; simp only [t0, t1, t2, t3, t4, t5, t6, t7, t8, t9, t10, t11, Bool.false_or, Bool.true_or, Bool.or_true])
           go_enter Tryz.func93, Tryz.ntmps93
           go_wp2_with fail
           go_ret
           exact ⟨retb E.out.symm, rfl⟩
         | false =>
         cases t12 : (s.toList == [120, 111, 114]) with
         | true =>
          have E : Hid (r = true) := Lib.hid (by rw [HL.out]; simp only [t0, t1, t2, t3, t4, t5, t6, t7, t8, t9, t10, t11, t12, Bool.false_or, Bool.true_or, Bool.or_true])
          go_enter Tryz.func93, Tryz.ntmps93
          go_wp2_with fail
          go_ret
          exact ⟨retb E.out.symm, rfl⟩
         | false =>
          cases t13 : (s.toList == [43, 43]) with
          | true =>
            have E : Hid (r = true) := Lib.hid (by rw [HL.out]; simp only [t0, t1, t2, t3, t4, t5, t6, t7, t8, t9, t10, t11, t12, t13, Bool.false_or, Bool.true_or, Bool.or_true])
            go_enter Tryz.func93, Tryz.ntmps93
            go_wp2_with fail
            go_ret
            exact ⟨retb E.out.symm, rfl⟩
          | false =>
          cases t14 : (s.toList == [61, 58, 61]) with
          | true =>
           have E : Hid (r = true) := Lib.hid (by rw [HL.out]; simp only [t0, t1, t2, t3, t4, t5, t6, t7, t8, t9, t10, t11, t12, t13, t14, Bool.false_or, Bool.true_or, Bool.or_true])
           go_enter Tryz.func93, Tryz.ntmps93
           go_wp2_with fail
           go_ret
           exact ⟨retb E.out.symm, rfl⟩
          | false =>
           cases t15 : (s.toList == [61, 47, 61]) with
           | true =>
             have E : Hid (r = true) := Lib.hid (by rw [HL.out]; simp only [t0, t1, t2, t3, t4, t5, t6, t7, t8, t9, t10, t11, t12, t13, t14, t15, Bool.false_or, Bool.true_or, Bool.or_true])
             go_enter Tryz.func93, Tryz.ntmps93
             go_wp2_with fail
             go_ret
             exact ⟨retb E.out.symm, rfl⟩
           | false =>
           cases t16 : (s.toList == [60]) with
           | true =>
            have E : Hid (r = true) := Lib.hid (by rw [HL.out]; simp only [t0, t1, t2, t3, t4, t5, t6, t7, t8, t9, t10, t11, t12, t13, t14, t15, t16, Bool.false_or, Bool.true_or, Bool.or_true])
            go_enter Tryz.func93, Tryz.ntmps93
            go_wp2_with fail
            go_ret
            exact ⟨retb E.out.symm, rfl⟩
           | false =>
            cases t17 : (s.toList == [61, 60]) with
            | true =>
              have E : Hid (r = true) := Lib.hid (by rw [HL.out]; simp only [t0, t1, t2, t3, t4, t5, t6, t7, t8, t9, t10, t11, t12, t13, t14, t15, t16, t17, Bool.false_or, Bool.true_or, Bool.or_true])
              go_enter Tryz.func93, Tryz.ntmps93
              go_wp2_with fail
              go_ret
              exact ⟨retb E.out.symm, rfl⟩
            | false =>
            cases t18 : (s.toList == [62]) with
            | true =>
             have E : Hid (r = true) := Lib.hid (by rw [HL.out]; simp only [t0, t1, t2, t3, t4, t5, t6, t7, t8, t9, t10, t11, t12, t13, t14, t15, t16, t17, t18, Bool.false_or, Bool.true_or, Bool.or_true])
             go_enter Tryz.func93, Tryz.ntmps93
             go_wp2_with fail
             go_ret
             exact ⟨retb E.out.symm, rfl⟩
            | false =>
             cases t19 : (s.toList == [62, 61]) with
             | true =>
               have E : Hid (r = true) := Lib.hid (by rw [HL.out]; simp only [t0, t1, t2, t3, t4, t5, t6, t7, t8, t9, t10, t11, t12, t13, t14, t15, t16, t17, t18, t19, Bool.false_or, Bool.true_or, Bool.or_true])
               go_enter Tryz.func93, Tryz.ntmps93
               go_wp2_with fail
               go_ret
               exact ⟨retb E.out.symm, rfl⟩
             | false =>
             have E : Hid (r = false) := Lib.hid (by rw [HL.out]; simp only [t0, t1, t2, t3, t4, t5, t6, t7, t8, t9, t10, t11, t12, t13, t14, t15, t16, t17, t18, t19, Bool.false_or])
             go_enter Tryz.func93, Tryz.ntmps93
             go_wp2_with fail
             go_ret
             exact ⟨retb E.out.symm, rfl⟩
  ·have q2 : (n != 2) = true := by rw [bne_iff_ne]; exact h2
   rw [if_neg h2] at HQ
   have E : Hid (r = false) := Lib.hid HQ.out
   clear h1 h2
   go_enter Tryz.func93, Tryz.ntmps93
   go_wp2_with fail
   go_ret
   exact ⟨retb E.out.symm, rfl⟩

/-- A row of letters: dst, src, n, name, cases, segs, to, live. -/
structure RRow where
 a : Bool
 b : Bool
 c : Bool
 d : Bool
 e : Bool
 f : Bool
 g : Bool
 h : Bool
 lo : Int
 hi : Int
def RRow.val (r : RRow) : Array Value := #[.bool r.a, .bool r.b, .bool r.c, .bool r.d, .bool r.e, .bool r.f, .bool r.g, .bool r.h, .int .i64 r.lo, .int .i64 r.hi]
theorem RRow.one (r : RRow) : r.val.all (·.oneCell') = true := by
 simp [RRow.val, Value.oneCell']
def hasL (l : List UInt8) (c : UInt8) : Bool := l.any (fun x => x == c)
def rowL (l : List UInt8) (lo hi : Int) : RRow := ⟨hasL l 100, hasL l 115, hasL l 110, hasL l 119, hasL l 99, hasL l 103, hasL l 116, hasL l 108, lo, hi⟩
theorem hasL_step (l : List UInt8) {k : Nat} (h : k < l.length) (c : UInt8) : hasL (l.take (k + 1)) c = (hasL (l.take k) c || (l[k] == c)) := by
 unfold hasL
 rw [List.take_add_one, List.getElem?_eq_getElem h, List.any_append]
 simp
theorem byte_eq (x : UInt8) (c : Nat) (hc : c < 256) : (x == UInt8.ofNat c) = ((x.toNat : Int) == (c : Int)) := by
 rw [Bool.eq_iff_iff, beq_iff_eq, beq_iff_eq]
 constructor
 ·intro h; rw [h, UInt8.toNat_ofNat']; omega
 ·intro h; exact UInt8.toNat_inj.1 (by rw [UInt8.toNat_ofNat']; omega)

set_option maxRecDepth 100000 in
set_option maxHeartbeats 8000000 in
theorem letters_any (s : ByteArray) (lo hi : Int) (w : World) (hs : s.size ≤ 1000) :
  Calls Tryz.prog 88 #[.string s, .int .i64 lo, .int .i64 hi] w fun e w' => e = .returned (.agg (rowL s.data.toList lo hi).val) ∧ Below w.heap.size w w' := by
 have HE : Hid (rowL s.data.toList lo hi = rowL (s.data.toList.take s.size) lo hi) := Lib.hid (by rw [List.take_of_length_le (by simp)])
 have HB := Lib.hid (Below.refl w.heap.size w)
 go_enter Tryz.func88, Tryz.ntmps88
 go_upto_region 2 with fail
 have hR := heap_alloc_new (w.alloc (.cells #[.bool false, .bool false, .bool false, .bool false, .bool false, .bool false, .bool false, .bool false, .int .i64 0, .int .i64 0] 65)) (.cells #[.bool false, .bool false, .bool false, .bool false, .bool false, .bool false, .bool false, .bool false, .int .i64 lo, .int .i64 hi] 65)
 have hbe : Below w.heap.size w ((w.alloc (.cells #[.bool false, .bool false, .bool false, .bool false, .bool false, .bool false, .bool false, .bool false, .int .i64 0, .int .i64 0] 65)).alloc (.cells #[.bool false, .bool false, .bool false, .bool false, .bool false, .bool false, .bool false, .bool false, .int .i64 lo, .int .i64 hi] 65)) := ((Below.refl _ _).alloc (Nat.le_refl _) _).alloc (by simp) _
 have hsz : (w.alloc (.cells #[.bool false, .bool false, .bool false, .bool false, .bool false, .bool false, .bool false, .bool false, .int .i64 0, .int .i64 0] 65)).heap.size = w.heap.size + 1 := by simp
 rw [hsz] at hR
 have h0 : ((w.alloc (.cells #[.bool false, .bool false, .bool false, .bool false, .bool false, .bool false, .bool false, .bool false, .int .i64 0, .int .i64 0] 65)).alloc (.cells #[.bool false, .bool false, .bool false, .bool false, .bool false, .bool false, .bool false, .bool false, .int .i64 lo, .int .i64 hi] 65)).heap[w.heap.size]? = some (.cells #[.bool false, .bool false, .bool false, .bool false, .bool false, .bool false, .bool false, .bool false, .int .i64 0, .int .i64 0] 65 (0, 0)) := (Below.heap_alloc _ _ _ (by simp)).trans (heap_alloc_new _ _)
 generalize (w.alloc (.cells #[.bool false, .bool false, .bool false, .bool false, .bool false, .bool false, .bool false, .bool false, .int .i64 0, .int .i64 0] 65)).alloc (.cells #[.bool false, .bool false, .bool false, .bool false, .bool false, .bool false, .bool false, .bool false, .int .i64 lo, .int .i64 hi] 65) = Wa at *
 generalize hB0 : w.heap.size = B at *
 have HBE := Lib.hid hB0; have HBA := Lib.hid hbe; have HR := Lib.hid hR; have H0 := Lib.hid h0
 clear hB0 hbe hR hsz h0 HB
 go_wp2_with fail
 go_loopw [8] (fun iv wr => ∃ (k : Nat) (r : RRow), k ≤ s.size ∧ iv = .int .i64 k ∧ Hid (r = rowL (s.data.toList.take k) lo hi) ∧ Hid (wr.heap[B + 1]? = some (.cells r.val 65 (0, 0))) ∧ Hid (wr.heap[B]? = some (.cells #[.bool false, .bool false, .bool false, .bool false, .bool false, .bool false, .bool false, .bool false, .int .i64 0, .int .i64 0] 65 (0, 0))) ∧ Hid (Below B w wr)) (fun iv _ => s.size - (intOf iv).toNat)
 case atStart => exact ⟨0, ⟨false, false, false, false, false, false, false, false, lo, hi⟩, Nat.zero_le _, rfl, Lib.hid rfl, HR, H0, HBA⟩
 case round =>
  obtain ⟨k, r, hk, rfl, HRW, HRk, H0k, HBk⟩ := hrel
  rename World => wr
  obtain ⟨A0, A1, A2, A3, A4, A5, A6, A7, lo', hi'⟩ := r
  obtain ⟨rfl, rfl⟩ : lo' = lo ∧ hi' = hi := by have := HRW.out; unfold rowL at this; injection this with _ _ _ _ _ _ _ _ e1 e2; exact ⟨e1, e2⟩
  by_cases hlt : k < s.size
  ·have hkl : k < s.data.toList.length := by simpa using hlt
   have HST : Hid (rowL (s.data.toList.take (k + 1)) lo' hi' = ⟨A0 || (s.data.toList[k] == 100), A1 || (s.data.toList[k] == 115), A2 || (s.data.toList[k] == 110), A3 || (s.data.toList[k] == 119), A4 || (s.data.toList[k] == 99), A5 || (s.data.toList[k] == 103), A6 || (s.data.toList[k] == 116), A7 || (s.data.toList[k] == 108), lo', hi'⟩) := Lib.hid (by
    have := HRW.out
    unfold rowL at this ⊢
    injection this with e0 e1 e2 e3 e4 e5 e6 e7
    rw [hasL_step _ hkl, hasL_step _ hkl, hasL_step _ hkl, hasL_step _ hkl, hasL_step _ hkl, hasL_step _ hkl, hasL_step _ hkl, hasL_step _ hkl, ← e0, ← e1, ← e2, ← e3, ← e4, ← e5, ← e6, ← e7])
   have hsk : s.data.toList[k] = s[k] := by rw [Array.getElem_toList]; rfl
   rw [hsk] at HST
   clear HRW hsk
   have y0 := byte_eq s[k] 100 (by decide)
   have y1 := byte_eq s[k] 115 (by decide)
   have y2 := byte_eq s[k] 110 (by decide)
   have y3 := byte_eq s[k] 119 (by decide)
   have y4 := byte_eq s[k] 99 (by decide)
   have y5 := byte_eq s[k] 103 (by decide)
   have y6 := byte_eq s[k] 116 (by decide)
   have y7 := byte_eq s[k] 108 (by decide)
   rw [show (UInt8.ofNat 100) = (100 : UInt8) from rfl] at y0; rw [y0] at HST; clear y0
   rw [show (UInt8.ofNat 115) = (115 : UInt8) from rfl] at y1; rw [y1] at HST; clear y1
   rw [show (UInt8.ofNat 110) = (110 : UInt8) from rfl] at y2; rw [y2] at HST; clear y2
   rw [show (UInt8.ofNat 119) = (119 : UInt8) from rfl] at y3; rw [y3] at HST; clear y3
   rw [show (UInt8.ofNat 99) = (99 : UInt8) from rfl] at y4; rw [y4] at HST; clear y4
   rw [show (UInt8.ofNat 103) = (103 : UInt8) from rfl] at y5; rw [y5] at HST; clear y5
   rw [show (UInt8.ofNat 116) = (116 : UInt8) from rfl] at y6; rw [y6] at HST; clear y6
   rw [show (UInt8.ofNat 108) = (108 : UInt8) from rfl] at y7; rw [y7] at HST; clear y7
   rw [show (((s[k].toNat : Nat) : Int) == ((100 : Nat) : Int)) = ((s[k].toNat : Int) == 100 + 0) from rfl] at HST
   rw [show ((s[k].toNat : Int) == 100 + 0) = ((s[k].toNat : Int) == 100) from rfl] at HST
   generalize het0 : ((s[k].toNat : Int) == 100) = t0 at *
   rw [show (((s[k].toNat : Nat) : Int) == ((115 : Nat) : Int)) = ((s[k].toNat : Int) == 100 + 15) from rfl] at HST
   rw [show ((s[k].toNat : Int) == 100 + 15) = ((s[k].toNat : Int) == 115) from rfl] at HST
   generalize het1 : ((s[k].toNat : Int) == 115) = t1 at *
   rw [show (((s[k].toNat : Nat) : Int) == ((110 : Nat) : Int)) = ((s[k].toNat : Int) == 100 + 10) from rfl] at HST
   rw [show ((s[k].toNat : Int) == 100 + 10) = ((s[k].toNat : Int) == 110) from rfl] at HST
   generalize het2 : ((s[k].toNat : Int) == 110) = t2 at *
   rw [show (((s[k].toNat : Nat) : Int) == ((119 : Nat) : Int)) = ((s[k].toNat : Int) == 100 + 19) from rfl] at HST
   rw [show ((s[k].toNat : Int) == 100 + 19) = ((s[k].toNat : Int) == 119) from rfl] at HST
   generalize het3 : ((s[k].toNat : Int) == 119) = t3 at *
   rw [show (((s[k].toNat : Nat) : Int) == ((99 : Nat) : Int)) = ((s[k].toNat : Int) == 100 + -1) from rfl] at HST
   rw [show ((s[k].toNat : Int) == 100 + -1) = ((s[k].toNat : Int) == 99) from rfl] at HST
   generalize het4 : ((s[k].toNat : Int) == 99) = t4 at *
   rw [show (((s[k].toNat : Nat) : Int) == ((103 : Nat) : Int)) = ((s[k].toNat : Int) == 100 + 3) from rfl] at HST
   rw [show ((s[k].toNat : Int) == 100 + 3) = ((s[k].toNat : Int) == 103) from rfl] at HST
   generalize het5 : ((s[k].toNat : Int) == 103) = t5 at *
   rw [show (((s[k].toNat : Nat) : Int) == ((116 : Nat) : Int)) = ((s[k].toNat : Int) == 100 + 16) from rfl] at HST
   rw [show ((s[k].toNat : Int) == 100 + 16) = ((s[k].toNat : Int) == 116) from rfl] at HST
   generalize het6 : ((s[k].toNat : Int) == 116) = t6 at *
   rw [show (((s[k].toNat : Nat) : Int) == ((108 : Nat) : Int)) = ((s[k].toNat : Int) == 100 + 8) from rfl] at HST
   rw [show ((s[k].toNat : Int) == 100 + 8) = ((s[k].toNat : Int) == 108) from rfl] at HST
   generalize het7 : ((s[k].toNat : Int) == 108) = t7 at *
   go_upto_region 5 with fail
   have g0 : wr.cell? ⟨B + 1, 0, none⟩ = some (.bool A0) := by rw [cell_of_row _ _ _ _ _ _ HRk.out]; rfl
   have hrl := lt_of_row HRk.out
   have hfz : wr.frozen? ⟨B + 1, 0, none⟩ = false := Lib.frozen_of_heap HRk.out 0
   go_cut [] (fun wx => ∃ x : Bool, Hid (x = (A0 || t0)) ∧ Hid (wx.heap[B + 1]? = some (.cells #[.bool x, .bool A1, .bool A2, .bool A3, .bool A4, .bool A5, .bool A6, .bool A7, .int .i64 lo', .int .i64 hi'] 65 (0, 0))) ∧ Hid (wx.heap[B]? = wr.heap[B]?) ∧ Hid (Below B w wx))
   case first =>
    cases A0 with
    | true =>
     go_wp2_with fail
     go_meet
     case rel => exact ⟨true, Lib.hid (by cases t0 <;> rfl), Lib.hid (by rw [heap_setCell_same _ _ _ _ _ _ HRk.out]; rfl), Lib.hid (Below.heap_setCell _ _ _ _ (by simp)), Lib.hid (HBk.out.setCell (p := ⟨B + 1, 0, none⟩) (by simp) _)⟩
    | false =>
     go_wp2_with fail
     go_meet
     case rel => exact ⟨t0, Lib.hid (by cases t0 <;> rfl), Lib.hid (by rw [heap_setCell_same _ _ _ _ _ _ HRk.out]; rfl), Lib.hid (Below.heap_setCell _ _ _ _ (by simp)), Lib.hid (HBk.out.setCell (p := ⟨B + 1, 0, none⟩) (by simp) _)⟩
   case rest =>
    obtain ⟨x0, HX0, HR2, H02, HB2⟩ := hcut
    have H03 : Hid (wc.heap[B]? = some (.cells #[.bool false, .bool false, .bool false, .bool false, .bool false, .bool false, .bool false, .bool false, .int .i64 0, .int .i64 0] 65 (0, 0))) := Lib.hid (H02.out.trans H0k.out)
    clear HRk H0k HBk H02 g0 hrl hfz
    have HRk := HR2; have H0k := H03; have HBk := HB2
    clear HR2 H03 HB2
    go_upto_region 6 with fail
    have g1 : wc.cell? ⟨B + 1, 1, none⟩ = some (.bool A1) := by rw [cell_of_row _ _ _ _ _ _ HRk.out]; rfl
    have hrl := lt_of_row HRk.out
    have hfz : wc.frozen? ⟨B + 1, 1, none⟩ = false := Lib.frozen_of_heap HRk.out 1
    go_cut [] (fun wx => ∃ x : Bool, Hid (x = (A1 || t1)) ∧ Hid (wx.heap[B + 1]? = some (.cells #[.bool x0, .bool x, .bool A2, .bool A3, .bool A4, .bool A5, .bool A6, .bool A7, .int .i64 lo', .int .i64 hi'] 65 (0, 0))) ∧ Hid (wx.heap[B]? = wc.heap[B]?) ∧ Hid (Below B w wx))
    case first =>
     cases A1 with
     | true =>
      go_wp2_with fail
      go_meet
      case rel => exact ⟨true, Lib.hid (by cases t1 <;> rfl), Lib.hid (by rw [heap_setCell_same _ _ _ _ _ _ HRk.out]; rfl), Lib.hid (Below.heap_setCell _ _ _ _ (by simp)), Lib.hid (HBk.out.setCell (p := ⟨B + 1, 1, none⟩) (by simp) _)⟩
     | false =>
      go_wp2_with fail
      go_meet
      case rel => exact ⟨t1, Lib.hid (by cases t1 <;> rfl), Lib.hid (by rw [heap_setCell_same _ _ _ _ _ _ HRk.out]; rfl), Lib.hid (Below.heap_setCell _ _ _ _ (by simp)), Lib.hid (HBk.out.setCell (p := ⟨B + 1, 1, none⟩) (by simp) _)⟩
    case rest =>
     obtain ⟨x1, HX1, HR2, H02, HB2⟩ := hcut
     have H03 : Hid (wc.heap[B]? = some (.cells #[.bool false, .bool false, .bool false, .bool false, .bool false, .bool false, .bool false, .bool false, .int .i64 0, .int .i64 0] 65 (0, 0))) := Lib.hid (H02.out.trans H0k.out)
     clear HRk H0k HBk H02 g1 hrl hfz
     have HRk := HR2; have H0k := H03; have HBk := HB2
     clear HR2 H03 HB2
     go_upto_region 7 with fail
     have g2 : wc.cell? ⟨B + 1, 2, none⟩ = some (.bool A2) := by rw [cell_of_row _ _ _ _ _ _ HRk.out]; rfl
     have hrl := lt_of_row HRk.out
     have hfz : wc.frozen? ⟨B + 1, 2, none⟩ = false := Lib.frozen_of_heap HRk.out 2
     go_cut [] (fun wx => ∃ x : Bool, Hid (x = (A2 || t2)) ∧ Hid (wx.heap[B + 1]? = some (.cells #[.bool x0, .bool x1, .bool x, .bool A3, .bool A4, .bool A5, .bool A6, .bool A7, .int .i64 lo', .int .i64 hi'] 65 (0, 0))) ∧ Hid (wx.heap[B]? = wc.heap[B]?) ∧ Hid (Below B w wx))
     case first =>
      cases A2 with
      | true =>
       go_wp2_with fail
       go_meet
       case rel => exact ⟨true, Lib.hid (by cases t2 <;> rfl), Lib.hid (by rw [heap_setCell_same _ _ _ _ _ _ HRk.out]; rfl), Lib.hid (Below.heap_setCell _ _ _ _ (by simp)), Lib.hid (HBk.out.setCell (p := ⟨B + 1, 2, none⟩) (by simp) _)⟩
      | false =>
       go_wp2_with fail
       go_meet
       case rel => exact ⟨t2, Lib.hid (by cases t2 <;> rfl), Lib.hid (by rw [heap_setCell_same _ _ _ _ _ _ HRk.out]; rfl), Lib.hid (Below.heap_setCell _ _ _ _ (by simp)), Lib.hid (HBk.out.setCell (p := ⟨B + 1, 2, none⟩) (by simp) _)⟩
     case rest =>
      obtain ⟨x2, HX2, HR2, H02, HB2⟩ := hcut
      have H03 : Hid (wc.heap[B]? = some (.cells #[.bool false, .bool false, .bool false, .bool false, .bool false, .bool false, .bool false, .bool false, .int .i64 0, .int .i64 0] 65 (0, 0))) := Lib.hid (H02.out.trans H0k.out)
      clear HRk H0k HBk H02 g2 hrl hfz
      have HRk := HR2; have H0k := H03; have HBk := HB2
      clear HR2 H03 HB2
      go_upto_region 8 with fail
      have g3 : wc.cell? ⟨B + 1, 3, none⟩ = some (.bool A3) := by rw [cell_of_row _ _ _ _ _ _ HRk.out]; rfl
      have hrl := lt_of_row HRk.out
      have hfz : wc.frozen? ⟨B + 1, 3, none⟩ = false := Lib.frozen_of_heap HRk.out 3
      go_cut [] (fun wx => ∃ x : Bool, Hid (x = (A3 || t3)) ∧ Hid (wx.heap[B + 1]? = some (.cells #[.bool x0, .bool x1, .bool x2, .bool x, .bool A4, .bool A5, .bool A6, .bool A7, .int .i64 lo', .int .i64 hi'] 65 (0, 0))) ∧ Hid (wx.heap[B]? = wc.heap[B]?) ∧ Hid (Below B w wx))
      case first =>
       cases A3 with
       | true =>
        go_wp2_with fail
        go_meet
        case rel => exact ⟨true, Lib.hid (by cases t3 <;> rfl), Lib.hid (by rw [heap_setCell_same _ _ _ _ _ _ HRk.out]; rfl), Lib.hid (Below.heap_setCell _ _ _ _ (by simp)), Lib.hid (HBk.out.setCell (p := ⟨B + 1, 3, none⟩) (by simp) _)⟩
       | false =>
        go_wp2_with fail
        go_meet
        case rel => exact ⟨t3, Lib.hid (by cases t3 <;> rfl), Lib.hid (by rw [heap_setCell_same _ _ _ _ _ _ HRk.out]; rfl), Lib.hid (Below.heap_setCell _ _ _ _ (by simp)), Lib.hid (HBk.out.setCell (p := ⟨B + 1, 3, none⟩) (by simp) _)⟩
      case rest =>
       obtain ⟨x3, HX3, HR2, H02, HB2⟩ := hcut
       have H03 : Hid (wc.heap[B]? = some (.cells #[.bool false, .bool false, .bool false, .bool false, .bool false, .bool false, .bool false, .bool false, .int .i64 0, .int .i64 0] 65 (0, 0))) := Lib.hid (H02.out.trans H0k.out)
       clear HRk H0k HBk H02 g3 hrl hfz
       have HRk := HR2; have H0k := H03; have HBk := HB2
       clear HR2 H03 HB2
       go_upto_region 9 with fail
       have g4 : wc.cell? ⟨B + 1, 4, none⟩ = some (.bool A4) := by rw [cell_of_row _ _ _ _ _ _ HRk.out]; rfl
       have hrl := lt_of_row HRk.out
       have hfz : wc.frozen? ⟨B + 1, 4, none⟩ = false := Lib.frozen_of_heap HRk.out 4
       go_cut [] (fun wx => ∃ x : Bool, Hid (x = (A4 || t4)) ∧ Hid (wx.heap[B + 1]? = some (.cells #[.bool x0, .bool x1, .bool x2, .bool x3, .bool x, .bool A5, .bool A6, .bool A7, .int .i64 lo', .int .i64 hi'] 65 (0, 0))) ∧ Hid (wx.heap[B]? = wc.heap[B]?) ∧ Hid (Below B w wx))
       case first =>
        cases A4 with
        | true =>
         go_wp2_with fail
         go_meet
         case rel => exact ⟨true, Lib.hid (by cases t4 <;> rfl), Lib.hid (by rw [heap_setCell_same _ _ _ _ _ _ HRk.out]; rfl), Lib.hid (Below.heap_setCell _ _ _ _ (by simp)), Lib.hid (HBk.out.setCell (p := ⟨B + 1, 4, none⟩) (by simp) _)⟩
        | false =>
         go_wp2_with fail
         go_meet
         case rel => exact ⟨t4, Lib.hid (by cases t4 <;> rfl), Lib.hid (by rw [heap_setCell_same _ _ _ _ _ _ HRk.out]; rfl), Lib.hid (Below.heap_setCell _ _ _ _ (by simp)), Lib.hid (HBk.out.setCell (p := ⟨B + 1, 4, none⟩) (by simp) _)⟩
       case rest =>
        obtain ⟨x4, HX4, HR2, H02, HB2⟩ := hcut
        have H03 : Hid (wc.heap[B]? = some (.cells #[.bool false, .bool false, .bool false, .bool false, .bool false, .bool false, .bool false, .bool false, .int .i64 0, .int .i64 0] 65 (0, 0))) := Lib.hid (H02.out.trans H0k.out)
        clear HRk H0k HBk H02 g4 hrl hfz
        have HRk := HR2; have H0k := H03; have HBk := HB2
        clear HR2 H03 HB2
        go_upto_region 10 with fail
        have g5 : wc.cell? ⟨B + 1, 5, none⟩ = some (.bool A5) := by rw [cell_of_row _ _ _ _ _ _ HRk.out]; rfl
        have hrl := lt_of_row HRk.out
        have hfz : wc.frozen? ⟨B + 1, 5, none⟩ = false := Lib.frozen_of_heap HRk.out 5
        go_cut [] (fun wx => ∃ x : Bool, Hid (x = (A5 || t5)) ∧ Hid (wx.heap[B + 1]? = some (.cells #[.bool x0, .bool x1, .bool x2, .bool x3, .bool x4, .bool x, .bool A6, .bool A7, .int .i64 lo', .int .i64 hi'] 65 (0, 0))) ∧ Hid (wx.heap[B]? = wc.heap[B]?) ∧ Hid (Below B w wx))
        case first =>
         cases A5 with
         | true =>
          go_wp2_with fail
          go_meet
          case rel => exact ⟨true, Lib.hid (by cases t5 <;> rfl), Lib.hid (by rw [heap_setCell_same _ _ _ _ _ _ HRk.out]; rfl), Lib.hid (Below.heap_setCell _ _ _ _ (by simp)), Lib.hid (HBk.out.setCell (p := ⟨B + 1, 5, none⟩) (by simp) _)⟩
         | false =>
          go_wp2_with fail
          go_meet
          case rel => exact ⟨t5, Lib.hid (by cases t5 <;> rfl), Lib.hid (by rw [heap_setCell_same _ _ _ _ _ _ HRk.out]; rfl), Lib.hid (Below.heap_setCell _ _ _ _ (by simp)), Lib.hid (HBk.out.setCell (p := ⟨B + 1, 5, none⟩) (by simp) _)⟩
        case rest =>
         obtain ⟨x5, HX5, HR2, H02, HB2⟩ := hcut
         have H03 : Hid (wc.heap[B]? = some (.cells #[.bool false, .bool false, .bool false, .bool false, .bool false, .bool false, .bool false, .bool false, .int .i64 0, .int .i64 0] 65 (0, 0))) := Lib.hid (H02.out.trans H0k.out)
         clear HRk H0k HBk H02 g5 hrl hfz
         have HRk := HR2; have H0k := H03; have HBk := HB2
         clear HR2 H03 HB2
         go_upto_region 11 with fail
         have g6 : wc.cell? ⟨B + 1, 6, none⟩ = some (.bool A6) := by rw [cell_of_row _ _ _ _ _ _ HRk.out]; rfl
         have hrl := lt_of_row HRk.out
         have hfz : wc.frozen? ⟨B + 1, 6, none⟩ = false := Lib.frozen_of_heap HRk.out 6
         go_cut [] (fun wx => ∃ x : Bool, Hid (x = (A6 || t6)) ∧ Hid (wx.heap[B + 1]? = some (.cells #[.bool x0, .bool x1, .bool x2, .bool x3, .bool x4, .bool x5, .bool x, .bool A7, .int .i64 lo', .int .i64 hi'] 65 (0, 0))) ∧ Hid (wx.heap[B]? = wc.heap[B]?) ∧ Hid (Below B w wx))
         case first =>
          cases A6 with
          | true =>
           go_wp2_with fail
           go_meet
           case rel => exact ⟨true, Lib.hid (by cases t6 <;> rfl), Lib.hid (by rw [heap_setCell_same _ _ _ _ _ _ HRk.out]; rfl), Lib.hid (Below.heap_setCell _ _ _ _ (by simp)), Lib.hid (HBk.out.setCell (p := ⟨B + 1, 6, none⟩) (by simp) _)⟩
          | false =>
           go_wp2_with fail
           go_meet
           case rel => exact ⟨t6, Lib.hid (by cases t6 <;> rfl), Lib.hid (by rw [heap_setCell_same _ _ _ _ _ _ HRk.out]; rfl), Lib.hid (Below.heap_setCell _ _ _ _ (by simp)), Lib.hid (HBk.out.setCell (p := ⟨B + 1, 6, none⟩) (by simp) _)⟩
         case rest =>
          obtain ⟨x6, HX6, HR2, H02, HB2⟩ := hcut
          have H03 : Hid (wc.heap[B]? = some (.cells #[.bool false, .bool false, .bool false, .bool false, .bool false, .bool false, .bool false, .bool false, .int .i64 0, .int .i64 0] 65 (0, 0))) := Lib.hid (H02.out.trans H0k.out)
          clear HRk H0k HBk H02 g6 hrl hfz
          have HRk := HR2; have H0k := H03; have HBk := HB2
          clear HR2 H03 HB2
          go_upto_region 12 with fail
          have g7 : wc.cell? ⟨B + 1, 7, none⟩ = some (.bool A7) := by rw [cell_of_row _ _ _ _ _ _ HRk.out]; rfl
          have hrl := lt_of_row HRk.out
          have hfz : wc.frozen? ⟨B + 1, 7, none⟩ = false := Lib.frozen_of_heap HRk.out 7
          cases A7 with
          | true =>
           go_wp2_with fail
           have HR8 : Hid ((wc.setCell ⟨B + 1, 7, none⟩ (.bool true)).heap[B + 1]? = some (.cells (RRow.val ⟨x0, x1, x2, x3, x4, x5, x6, true, lo', hi'⟩) 65 (0, 0))) := Lib.hid (by rw [heap_setCell_same _ _ _ _ _ _ HRk.out]; rfl)
           have H08 : Hid ((wc.setCell ⟨B + 1, 7, none⟩ (.bool true)).heap[B]? = some (.cells #[.bool false, .bool false, .bool false, .bool false, .bool false, .bool false, .bool false, .bool false, .int .i64 0, .int .i64 0] 65 (0, 0))) := Lib.hid ((Below.heap_setCell _ _ _ _ (by simp)).trans H0k.out)
           go_roundw
           case rel => exact ⟨k + 1, ⟨x0, x1, x2, x3, x4, x5, x6, true, lo', hi'⟩, by omega, by go_num, Lib.hid (by rw [HST.out, HX0.out, HX1.out, HX2.out, HX3.out, HX4.out, HX5.out, HX6.out]; cases t7 <;> rfl), HR8, H08, Lib.hid (HBk.out.setCell (p := ⟨B + 1, 7, none⟩) (by simp) _)⟩
           case measure => simp [intOf]; omega
          | false =>
           go_wp2_with fail
           have HR8 : Hid ((wc.setCell ⟨B + 1, 7, none⟩ (.bool t7)).heap[B + 1]? = some (.cells (RRow.val ⟨x0, x1, x2, x3, x4, x5, x6, t7, lo', hi'⟩) 65 (0, 0))) := Lib.hid (by rw [heap_setCell_same _ _ _ _ _ _ HRk.out]; rfl)
           have H08 : Hid ((wc.setCell ⟨B + 1, 7, none⟩ (.bool t7)).heap[B]? = some (.cells #[.bool false, .bool false, .bool false, .bool false, .bool false, .bool false, .bool false, .bool false, .int .i64 0, .int .i64 0] 65 (0, 0))) := Lib.hid ((Below.heap_setCell _ _ _ _ (by simp)).trans H0k.out)
           go_roundw
           case rel => exact ⟨k + 1, ⟨x0, x1, x2, x3, x4, x5, x6, t7, lo', hi'⟩, by omega, by go_num, Lib.hid (by rw [HST.out, HX0.out, HX1.out, HX2.out, HX3.out, HX4.out, HX5.out, HX6.out]; cases t7 <;> rfl), HR8, H08, Lib.hid (HBk.out.setCell (p := ⟨B + 1, 7, none⟩) (by simp) _)⟩
           case measure => simp [intOf]; omega
  ·have hke : k = s.size := by omega
   have E : Hid ((⟨A0, A1, A2, A3, A4, A5, A6, A7, lo', hi'⟩ : RRow) = rowL s.data.toList lo' hi') := Lib.hid (by rw [HRW.out, HE.out, hke])
   clear hke HRW
   go_wp2_with (first
    | (refine wpList_load_row rfl 65 (.tmp 7) rfl (B + 1) rfl _ _ _ _ HRk.out Tryz.underlying65 rfl (by kernel_rfl) ?_)
    | (refine wpList_store_row rfl 65 (.tmp 6) (.tmp 90) rfl B (RRow.val ⟨A0, A1, A2, A3, A4, A5, A6, A7, lo', hi'⟩) rfl rfl 65 _ H0k.out (by kernel_rfl) rfl (RRow.one _) ?_))
   have hres := setRow_heap wr B _ (RRow.val ⟨A0, A1, A2, A3, A4, A5, A6, A7, lo', hi'⟩) 65 _ H0k.out
   refine bodyPost_ret (results_cell_row rfl _ _ B _ _ _ _ rfl hres Tryz.underlying65 rfl (by kernel_rfl)) rfl ?_
   exact ⟨by rw [E.out], by rw [HBE.out]; exact below_setRow HBk.out (Nat.le_refl _) _⟩
end Go.Proofs.YtghgbikmlbildaaGreatDoor
