/-
  The reference's zero, bare, between: the walks (printed by gen_rterm1.py). The reference's bits, Whole: the walks. The reference's Whole, Formed, Check, Valid: the walks (printed by gen_rterm3.py).
-/
import Derived.Test.YtghgbikmlbildaaGreatDoorPutsAll04
import Derived.Test.YtghgbikmlbildaaGreatDoorPutsAll05
import Derived.Test.YtghgbikmlbildaaGreatDoorPutsAll06
import Derived.Test.YtghgbikmlbildaaGreatDoorPutsAll07
import Derived.Test.YtghgbikmlbildaaGreatDoorPutsAll17
namespace Go.Proofs.YtghgbikmlbildaaGreatDoor
open Go.RowKit
set_option linter.unusedVariables false
set_option linter.unusedSimpArgs false

set_option maxRecDepth 100000 in
theorem rbetween_any (n a b : Int) (w : World) : Calls Tryz.prog 197 #[.int .i64 n, .int .i64 a, .int .i64 b] w fun e w' => e = .returned (.bool (wi n a b)) ∧ w = w' := by
 by_cases h : a ≤ n
 ·by_cases h' : n ≤ b
  ·have E := Lib.hid (wi_yes h h')
   go_enter Tryz.func197, Tryz.ntmps197
   go_wp2
   go_ret
   exact ⟨retb E.out.symm, rfl⟩
  ·have E : Hid (wi n a b = false) := Lib.hid (wi_no (by omega))
   go_enter Tryz.func197, Tryz.ntmps197
   go_wp2
   go_ret
   exact ⟨retb E.out.symm, rfl⟩
 ·have E : Hid (wi n a b = false) := Lib.hid (wi_no (by omega))
  go_enter Tryz.func197, Tryz.ntmps197
  go_wp2
  go_ret
  exact ⟨retb E.out.symm, rfl⟩
/-- Are all fields zero? -/
def allZ (k i g : Int) (n f : ByteArray) (a : Int) (l : Nat) (y : ByteArray) (z : Int) : Bool := zI k && (zI i && (zI g && (zS n && (zS f && (zI a && (decide (l = 0) && (zS y && zI z)))))))
theorem allZ_left (t : Tm) : allZ 0 (leftT t).int (leftT t).gen (leftT t).name (leftT t).func (leftT t).arity (leftT t).items.length (leftT t).bytes (leftT t).bits = sameF 1 (left0 t) zeroTm := by
 rw [same_zero]
 unfold allZ left0 zL
 simp only [Tm.kind, Tm.int, Tm.gen, Tm.name, Tm.func, Tm.arity, Tm.items, Tm.bytes, Tm.bits]
 ac_rfl
theorem loc_all (t : Tm) : (okK t && allZ 0 (leftT t).int (leftT t).gen (leftT t).name (leftT t).func (leftT t).arity (leftT t).items.length (leftT t).bytes (leftT t).bits) = locB t := by rw [allZ_left]; exact loc_of 0 t
theorem zS_nilList (s : ByteArray) : (s.toList == []) = zS s := by
 have := zS_is s
 rw [ByteArray.toList_eq (ByteArray.mk #[])] at this
 exact this
set_option maxRecDepth 100000 in
set_option maxHeartbeats 4000000 in
theorem rzero_any (k i g : Int) (n f : ByteArray) (a : Int) (so : Option Addr) (l c : Nat) (y : ByteArray) (z : Int) (w : World) (hl : l ≤ 9223372036854775807) :
  Calls Tryz.prog 195 #[.agg #[.int .i64 k, .int .i64 i, .int .i64 g, .string n, .string f, .int .i64 a, .slice so l c, .string y, .int .i64 z]] w fun e w' => e = .returned (.bool (allZ k i g n f a l y z)) ∧ Below w.heap.size w w' := by
 have HB := Lib.hid ((Below.refl w.heap.size w).alloc (Nat.le_refl _) (.cells #[.int .i64 k, .int .i64 i, .int .i64 g, .string n, .string f, .int .i64 a, .slice so l c, .string y, .int .i64 z] 78))
 have HZ : Hid (allZ k i g n f a l y z = (zI k && (zI i && (zI g && (zS n && (zS f && (zI a && (decide (l = 0) && (zS y && zI z))))))))) := Lib.hid rfl
 generalize allZ k i g n f a l y z = r at *
 cases h0 : zI k with
 | false =>
  have t0 : (k == 0) = false := (zI_is k).trans h0
  have E : Hid (r = false) := Lib.hid (by rw [HZ.out, h0]; rfl)
  clear h0
  go_enter Tryz.func195, Tryz.ntmps195
  go_wp2_with fail
  go_ret
  exact ⟨retb E.out.symm, HB.out⟩
 | true =>
  have t0 : (k == 0) = true := (zI_is k).trans h0
  cases h1 : zI i with
  | false =>
   have t1 : (i == 0) = false := (zI_is i).trans h1
   have E : Hid (r = false) := Lib.hid (by rw [HZ.out, h0, h1]; rfl)
   clear h0 h1
   go_enter Tryz.func195, Tryz.ntmps195
   go_wp2_with fail
   go_ret
   exact ⟨retb E.out.symm, HB.out⟩
  | true =>
   have t1 : (i == 0) = true := (zI_is i).trans h1
   cases h2 : zI g with
   | false =>
    have t2 : (g == 0) = false := (zI_is g).trans h2
    have E : Hid (r = false) := Lib.hid (by rw [HZ.out, h0, h1, h2]; rfl)
    clear h0 h1 h2
    go_enter Tryz.func195, Tryz.ntmps195
    go_wp2_with fail
    go_ret
    exact ⟨retb E.out.symm, HB.out⟩
   | true =>
    have t2 : (g == 0) = true := (zI_is g).trans h2
    cases h3 : zS n with
    | false =>
     have t3 : (n.toList == []) = false := (zS_nilList n).trans h3
     have u3 : n.toList.isEmpty = false := by rw [← t3]; cases n.toList <;> rfl
     have E : Hid (r = false) := Lib.hid (by rw [HZ.out, h0, h1, h2, h3]; rfl)
     clear h0 h1 h2 h3
     go_enter Tryz.func195, Tryz.ntmps195
     go_wp2_with fail
     go_ret
     exact ⟨retb E.out.symm, HB.out⟩
    | true =>
     have t3 : (n.toList == []) = true := (zS_nilList n).trans h3
     have u3 : n.toList.isEmpty = true := by rw [← t3]; cases n.toList <;> rfl
     cases h4 : zS f with
     | false =>
      have t4 : (f.toList == []) = false := (zS_nilList f).trans h4
      have u4 : f.toList.isEmpty = false := by rw [← t4]; cases f.toList <;> rfl
      have E : Hid (r = false) := Lib.hid (by rw [HZ.out, h0, h1, h2, h3, h4]; rfl)
      clear h0 h1 h2 h3 h4
      go_enter Tryz.func195, Tryz.ntmps195
      go_wp2_with fail
      go_ret
      exact ⟨retb E.out.symm, HB.out⟩
     | true =>
      have t4 : (f.toList == []) = true := (zS_nilList f).trans h4
      have u4 : f.toList.isEmpty = true := by rw [← t4]; cases f.toList <;> rfl
      cases h5 : zI a with
      | false =>
       have t5 : (a == 0) = false := (zI_is a).trans h5
       have E : Hid (r = false) := Lib.hid (by rw [HZ.out, h0, h1, h2, h3, h4, h5]; rfl)
       clear h0 h1 h2 h3 h4 h5
       go_enter Tryz.func195, Tryz.ntmps195
       go_wp2_with fail
       go_ret
       exact ⟨retb E.out.symm, HB.out⟩
      | true =>
       have t5 : (a == 0) = true := (zI_is a).trans h5
       cases h6 : decide (l = 0) with
       | false =>
        have t6 : ((l : Int) == 0) = false := by rw [← h6, Bool.eq_iff_iff, beq_iff_eq, decide_eq_true_eq]; omega
        have E : Hid (r = false) := Lib.hid (by rw [HZ.out, h0, h1, h2, h3, h4, h5, h6]; rfl)
        clear h0 h1 h2 h3 h4 h5 h6
        go_enter Tryz.func195, Tryz.ntmps195
        go_wp2_with fail
        go_ret
        exact ⟨retb E.out.symm, HB.out⟩
       | true =>
        have t6 : ((l : Int) == 0) = true := by rw [← h6, Bool.eq_iff_iff, beq_iff_eq, decide_eq_true_eq]; omega
        cases h7 : zS y with
        | false =>
         have t7 : (y.toList == []) = false := (zS_nilList y).trans h7
         have u7 : y.toList.isEmpty = false := by rw [← t7]; cases y.toList <;> rfl
         have E : Hid (r = false) := Lib.hid (by rw [HZ.out, h0, h1, h2, h3, h4, h5, h6, h7]; rfl)
         clear h0 h1 h2 h3 h4 h5 h6 h7
         go_enter Tryz.func195, Tryz.ntmps195
         go_wp2_with fail
         go_ret
         exact ⟨retb E.out.symm, HB.out⟩
        | true =>
         have t7 : (y.toList == []) = true := (zS_nilList y).trans h7
         have u7 : y.toList.isEmpty = true := by rw [← t7]; cases y.toList <;> rfl
         cases h8 : zI z with
         | false =>
          have t8 : (z == 0) = false := (zI_is z).trans h8
          have E : Hid (r = false) := Lib.hid (by rw [HZ.out, h0, h1, h2, h3, h4, h5, h6, h7, h8]; rfl)
          clear h0 h1 h2 h3 h4 h5 h6 h7 h8
          go_enter Tryz.func195, Tryz.ntmps195
          go_wp2_with fail
          go_ret
          exact ⟨retb E.out.symm, HB.out⟩
         | true =>
          have t8 : (z == 0) = true := (zI_is z).trans h8
          have E : Hid (r = true) := Lib.hid (by rw [HZ.out, h0, h1, h2, h3, h4, h5, h6, h7, h8]; rfl)
          go_enter Tryz.func195, Tryz.ntmps195
          go_wp2_with fail
          go_ret
          exact ⟨retb E.out.symm, HB.out⟩
theorem alloc2_new (w : World) (a b : Obj) : ((w.alloc a).alloc b).heap[w.heap.size + 1]? = some b := by
 have := heap_alloc_new (w.alloc a) b
 rwa [show (w.alloc a).heap.size = w.heap.size + 1 by simp] at this
/-- What bare tells. -/
def BareQ (w : World) (t : Tm) (e : Ending) (w' : World) : Prop := ∃ so' c', e = .returned (.agg #[.int .i64 0, .int .i64 (leftT t).int, .int .i64 (leftT t).gen, .string (leftT t).name, .string (leftT t).func, .int .i64 (leftT t).arity, .slice so' (leftT t).items.length c', .string (leftT t).bytes, .int .i64 (leftT t).bits]) ∧ Below w.heap.size w w'
set_option maxRecDepth 100000 in
set_option maxHeartbeats 8000000 in
theorem rbare_any (t : Tm) (so : Option Addr) (c : Nat) (w : World) : Calls Tryz.prog 196 #[.agg #[.int .i64 t.kind, .int .i64 t.int, .int .i64 t.gen, .string t.name, .string t.func, .int .i64 t.arity, .slice so t.items.length c, .string t.bytes, .int .i64 t.bits]] w (BareQ w t) := by
 obtain ⟨tk, ti, tg, tn, tf, ta, tl, ty, tz⟩ := t
 simp only [Tm.kind, Tm.int, Tm.gen, Tm.name, Tm.func, Tm.arity, Tm.items, Tm.bytes, Tm.bits]
 by_cases h : tk = 1 ∨ tk = 2 ∨ tk = 3 ∨ tk = 4 ∨ tk = 5 ∨ tk = 6 ∨ tk = 7 ∨ tk = 9 ∨ tk = 10
 ·rcases h with rfl | rfl | rfl | rfl | rfl | rfl | rfl | rfl | rfl
  ·have HN := Lib.hid (alloc2_new w (.cells #[.int .i64 0, .int .i64 0, .int .i64 tg, .string tn, .string tf, .int .i64 ta, .slice so tl.length c, .string ty, .int .i64 tz] 78) (.cells #[.int .i64 0, .int .i64 0, .int .i64 tg, .string tn, .string tf, .int .i64 ta, .slice so tl.length c, .string ty, .int .i64 tz] 78))
   have HB : Hid (Below w.heap.size w ((w.alloc (.cells #[.int .i64 0, .int .i64 0, .int .i64 tg, .string tn, .string tf, .int .i64 ta, .slice so tl.length c, .string ty, .int .i64 tz] 78)).alloc (.cells #[.int .i64 0, .int .i64 0, .int .i64 tg, .string tn, .string tf, .int .i64 ta, .slice so tl.length c, .string ty, .int .i64 tz] 78))) := Lib.hid (((Below.refl _ _).alloc (Nat.le_refl _) _).alloc (by simp) _)
   go_enter Tryz.func196, Tryz.ntmps196
   go_wp2_with fail
   refine bodyPost_ret (results_cell_row rfl _ _ (w.heap.size + 1) _ _ _ _ rfl HN.out Tryz.underlying78 rfl (by kernel_rfl)) rfl ?_
   exact ⟨so, c, rfl, HB.out⟩
  ·have HN := Lib.hid (alloc2_new w (.cells #[.int .i64 0, .int .i64 ti, .int .i64 tg, .string ⟨#[]⟩, .string tf, .int .i64 ta, .slice so tl.length c, .string ty, .int .i64 tz] 78) (.cells #[.int .i64 0, .int .i64 ti, .int .i64 tg, .string ⟨#[]⟩, .string tf, .int .i64 ta, .slice so tl.length c, .string ty, .int .i64 tz] 78))
   have HB : Hid (Below w.heap.size w ((w.alloc (.cells #[.int .i64 0, .int .i64 ti, .int .i64 tg, .string ⟨#[]⟩, .string tf, .int .i64 ta, .slice so tl.length c, .string ty, .int .i64 tz] 78)).alloc (.cells #[.int .i64 0, .int .i64 ti, .int .i64 tg, .string ⟨#[]⟩, .string tf, .int .i64 ta, .slice so tl.length c, .string ty, .int .i64 tz] 78))) := Lib.hid (((Below.refl _ _).alloc (Nat.le_refl _) _).alloc (by simp) _)
   go_enter Tryz.func196, Tryz.ntmps196
   go_wp2_with fail
   refine bodyPost_ret (results_cell_row rfl _ _ (w.heap.size + 1) _ _ _ _ rfl HN.out Tryz.underlying78 rfl (by kernel_rfl)) rfl ?_
   exact ⟨so, c, rfl, HB.out⟩
  ·have HN := Lib.hid (alloc2_new w (.cells #[.int .i64 0, .int .i64 0, .int .i64 0, .string ⟨#[]⟩, .string tf, .int .i64 ta, .slice so tl.length c, .string ty, .int .i64 tz] 78) (.cells #[.int .i64 0, .int .i64 0, .int .i64 0, .string ⟨#[]⟩, .string tf, .int .i64 ta, .slice so tl.length c, .string ty, .int .i64 tz] 78))
   have HB : Hid (Below w.heap.size w ((w.alloc (.cells #[.int .i64 0, .int .i64 0, .int .i64 0, .string ⟨#[]⟩, .string tf, .int .i64 ta, .slice so tl.length c, .string ty, .int .i64 tz] 78)).alloc (.cells #[.int .i64 0, .int .i64 0, .int .i64 0, .string ⟨#[]⟩, .string tf, .int .i64 ta, .slice so tl.length c, .string ty, .int .i64 tz] 78))) := Lib.hid (((Below.refl _ _).alloc (Nat.le_refl _) _).alloc (by simp) _)
   go_enter Tryz.func196, Tryz.ntmps196
   go_wp2_with fail
   refine bodyPost_ret (results_cell_row rfl _ _ (w.heap.size + 1) _ _ _ _ rfl HN.out Tryz.underlying78 rfl (by kernel_rfl)) rfl ?_
   exact ⟨so, c, rfl, HB.out⟩
  ·have HN := Lib.hid (alloc2_new w (.cells #[.int .i64 0, .int .i64 0, .int .i64 0, .string ⟨#[]⟩, .string tf, .int .i64 0, .slice none 0 0, .string ty, .int .i64 tz] 78) (.cells #[.int .i64 0, .int .i64 0, .int .i64 0, .string ⟨#[]⟩, .string tf, .int .i64 0, .slice none 0 0, .string ty, .int .i64 tz] 78))
   have HB : Hid (Below w.heap.size w ((w.alloc (.cells #[.int .i64 0, .int .i64 0, .int .i64 0, .string ⟨#[]⟩, .string tf, .int .i64 0, .slice none 0 0, .string ty, .int .i64 tz] 78)).alloc (.cells #[.int .i64 0, .int .i64 0, .int .i64 0, .string ⟨#[]⟩, .string tf, .int .i64 0, .slice none 0 0, .string ty, .int .i64 tz] 78))) := Lib.hid (((Below.refl _ _).alloc (Nat.le_refl _) _).alloc (by simp) _)
   go_enter Tryz.func196, Tryz.ntmps196
   go_wp2_with fail
   refine bodyPost_ret (results_cell_row rfl _ _ (w.heap.size + 1) _ _ _ _ rfl HN.out Tryz.underlying78 rfl (by kernel_rfl)) rfl ?_
   exact ⟨none, 0, rfl, HB.out⟩
  ·have HN := Lib.hid (alloc2_new w (.cells #[.int .i64 0, .int .i64 ti, .int .i64 tg, .string ⟨#[]⟩, .string ⟨#[]⟩, .int .i64 0, .slice so tl.length c, .string ty, .int .i64 tz] 78) (.cells #[.int .i64 0, .int .i64 ti, .int .i64 tg, .string ⟨#[]⟩, .string ⟨#[]⟩, .int .i64 0, .slice so tl.length c, .string ty, .int .i64 tz] 78))
   have HB : Hid (Below w.heap.size w ((w.alloc (.cells #[.int .i64 0, .int .i64 ti, .int .i64 tg, .string ⟨#[]⟩, .string ⟨#[]⟩, .int .i64 0, .slice so tl.length c, .string ty, .int .i64 tz] 78)).alloc (.cells #[.int .i64 0, .int .i64 ti, .int .i64 tg, .string ⟨#[]⟩, .string ⟨#[]⟩, .int .i64 0, .slice so tl.length c, .string ty, .int .i64 tz] 78))) := Lib.hid (((Below.refl _ _).alloc (Nat.le_refl _) _).alloc (by simp) _)
   go_enter Tryz.func196, Tryz.ntmps196
   go_wp2_with fail
   refine bodyPost_ret (results_cell_row rfl _ _ (w.heap.size + 1) _ _ _ _ rfl HN.out Tryz.underlying78 rfl (by kernel_rfl)) rfl ?_
   exact ⟨so, c, rfl, HB.out⟩
  ·have HN := Lib.hid (alloc2_new w (.cells #[.int .i64 0, .int .i64 0, .int .i64 0, .string ⟨#[]⟩, .string tf, .int .i64 ta, .slice so tl.length c, .string ty, .int .i64 tz] 78) (.cells #[.int .i64 0, .int .i64 0, .int .i64 0, .string ⟨#[]⟩, .string tf, .int .i64 ta, .slice so tl.length c, .string ty, .int .i64 tz] 78))
   have HB : Hid (Below w.heap.size w ((w.alloc (.cells #[.int .i64 0, .int .i64 0, .int .i64 0, .string ⟨#[]⟩, .string tf, .int .i64 ta, .slice so tl.length c, .string ty, .int .i64 tz] 78)).alloc (.cells #[.int .i64 0, .int .i64 0, .int .i64 0, .string ⟨#[]⟩, .string tf, .int .i64 ta, .slice so tl.length c, .string ty, .int .i64 tz] 78))) := Lib.hid (((Below.refl _ _).alloc (Nat.le_refl _) _).alloc (by simp) _)
   go_enter Tryz.func196, Tryz.ntmps196
   go_wp2_with fail
   refine bodyPost_ret (results_cell_row rfl _ _ (w.heap.size + 1) _ _ _ _ rfl HN.out Tryz.underlying78 rfl (by kernel_rfl)) rfl ?_
   exact ⟨so, c, rfl, HB.out⟩
  ·have HN := Lib.hid (alloc2_new w (.cells #[.int .i64 0, .int .i64 ti, .int .i64 tg, .string tn, .string tf, .int .i64 ta, .slice none 0 0, .string ty, .int .i64 tz] 78) (.cells #[.int .i64 0, .int .i64 ti, .int .i64 tg, .string tn, .string tf, .int .i64 ta, .slice none 0 0, .string ty, .int .i64 tz] 78))
   have HB : Hid (Below w.heap.size w ((w.alloc (.cells #[.int .i64 0, .int .i64 ti, .int .i64 tg, .string tn, .string tf, .int .i64 ta, .slice none 0 0, .string ty, .int .i64 tz] 78)).alloc (.cells #[.int .i64 0, .int .i64 ti, .int .i64 tg, .string tn, .string tf, .int .i64 ta, .slice none 0 0, .string ty, .int .i64 tz] 78))) := Lib.hid (((Below.refl _ _).alloc (Nat.le_refl _) _).alloc (by simp) _)
   go_enter Tryz.func196, Tryz.ntmps196
   go_wp2_with fail
   refine bodyPost_ret (results_cell_row rfl _ _ (w.heap.size + 1) _ _ _ _ rfl HN.out Tryz.underlying78 rfl (by kernel_rfl)) rfl ?_
   exact ⟨none, 0, rfl, HB.out⟩
  ·have HN := Lib.hid (alloc2_new w (.cells #[.int .i64 0, .int .i64 ti, .int .i64 tg, .string tn, .string tf, .int .i64 ta, .slice none 0 0, .string ty, .int .i64 tz] 78) (.cells #[.int .i64 0, .int .i64 ti, .int .i64 tg, .string tn, .string tf, .int .i64 ta, .slice none 0 0, .string ty, .int .i64 tz] 78))
   have HB : Hid (Below w.heap.size w ((w.alloc (.cells #[.int .i64 0, .int .i64 ti, .int .i64 tg, .string tn, .string tf, .int .i64 ta, .slice none 0 0, .string ty, .int .i64 tz] 78)).alloc (.cells #[.int .i64 0, .int .i64 ti, .int .i64 tg, .string tn, .string tf, .int .i64 ta, .slice none 0 0, .string ty, .int .i64 tz] 78))) := Lib.hid (((Below.refl _ _).alloc (Nat.le_refl _) _).alloc (by simp) _)
   go_enter Tryz.func196, Tryz.ntmps196
   go_wp2_with fail
   refine bodyPost_ret (results_cell_row rfl _ _ (w.heap.size + 1) _ _ _ _ rfl HN.out Tryz.underlying78 rfl (by kernel_rfl)) rfl ?_
   exact ⟨none, 0, rfl, HB.out⟩
  ·have HN := Lib.hid (alloc2_new w (.cells #[.int .i64 0, .int .i64 ti, .int .i64 tg, .string tn, .string tf, .int .i64 ta, .slice so tl.length c, .string ⟨#[]⟩, .int .i64 0] 78) (.cells #[.int .i64 0, .int .i64 ti, .int .i64 tg, .string tn, .string tf, .int .i64 ta, .slice so tl.length c, .string ⟨#[]⟩, .int .i64 0] 78))
   have HB : Hid (Below w.heap.size w ((w.alloc (.cells #[.int .i64 0, .int .i64 ti, .int .i64 tg, .string tn, .string tf, .int .i64 ta, .slice so tl.length c, .string ⟨#[]⟩, .int .i64 0] 78)).alloc (.cells #[.int .i64 0, .int .i64 ti, .int .i64 tg, .string tn, .string tf, .int .i64 ta, .slice so tl.length c, .string ⟨#[]⟩, .int .i64 0] 78))) := Lib.hid (((Below.refl _ _).alloc (Nat.le_refl _) _).alloc (by simp) _)
   go_enter Tryz.func196, Tryz.ntmps196
   go_wp2_with fail
   refine bodyPost_ret (results_cell_row rfl _ _ (w.heap.size + 1) _ _ _ _ rfl HN.out Tryz.underlying78 rfl (by kernel_rfl)) rfl ?_
   exact ⟨so, c, rfl, HB.out⟩
 ·have b1 : (tk == 1) = false := beq_eq_false_iff_ne.2 (fun e => h (by omega))
  have b2 : (tk == 2) = false := beq_eq_false_iff_ne.2 (fun e => h (by omega))
  have b3 : (tk == 3) = false := beq_eq_false_iff_ne.2 (fun e => h (by omega))
  have b4 : (tk == 4) = false := beq_eq_false_iff_ne.2 (fun e => h (by omega))
  have b5 : (tk == 5) = false := beq_eq_false_iff_ne.2 (fun e => h (by omega))
  have b6 : (tk == 6) = false := beq_eq_false_iff_ne.2 (fun e => h (by omega))
  have b7 : (tk == 7) = false := beq_eq_false_iff_ne.2 (fun e => h (by omega))
  have b9 : (tk == 9) = false := beq_eq_false_iff_ne.2 (fun e => h (by omega))
  have b10 : (tk == 10) = false := beq_eq_false_iff_ne.2 (fun e => h (by omega))
  have HQ : Hid (leftT (Tm.mk tk ti tg tn tf ta tl ty tz) = Tm.mk tk ti tg tn tf ta tl ty tz) := Lib.hid (by
   simp only [not_or] at h
   obtain ⟨h1, h2, h3, h4, h5, h6, h7, h9, h10⟩ := h
   unfold leftT
   simp only [Tm.kind]
   simp only [h1, h2, h3, h4, h5, h6, h7, h9, h10, if_false, or_self]
   try (split <;> rfl))
  clear h
  have HN := Lib.hid (alloc2_new w (.cells #[.int .i64 0, .int .i64 ti, .int .i64 tg, .string tn, .string tf, .int .i64 ta, .slice so tl.length c, .string ty, .int .i64 tz] 78) (.cells #[.int .i64 0, .int .i64 ti, .int .i64 tg, .string tn, .string tf, .int .i64 ta, .slice so tl.length c, .string ty, .int .i64 tz] 78))
  have HB : Hid (Below w.heap.size w ((w.alloc (.cells #[.int .i64 0, .int .i64 ti, .int .i64 tg, .string tn, .string tf, .int .i64 ta, .slice so tl.length c, .string ty, .int .i64 tz] 78)).alloc (.cells #[.int .i64 0, .int .i64 ti, .int .i64 tg, .string tn, .string tf, .int .i64 ta, .slice so tl.length c, .string ty, .int .i64 tz] 78))) := Lib.hid (((Below.refl _ _).alloc (Nat.le_refl _) _).alloc (by simp) _)
  go_enter Tryz.func196, Tryz.ntmps196
  go_wp2_with fail
  refine bodyPost_ret (results_cell_row rfl _ _ (w.heap.size + 1) _ _ _ _ rfl HN.out Tryz.underlying78 rfl (by kernel_rfl)) rfl ?_
  exact ⟨so, c, by rw [HQ.out]; rfl, HB.out⟩
end Go.Proofs.YtghgbikmlbildaaGreatDoor
namespace Go.Proofs.YtghgbikmlbildaaGreatDoor
open Go.RowKit
set_option linter.unusedVariables false
set_option linter.unusedSimpArgs false

theorem pow_step (j : Nat) : (2 : Nat) ^ (j + 1) = 2 ^ j * 2 := Nat.pow_succ ..
theorem pow_le7 : ∀ j, j ≤ 7 → (2 : Nat) ^ j ≤ 128 ∧ 1 ≤ (2 : Nat) ^ j := by decide
set_option maxRecDepth 100000 in
set_option maxHeartbeats 8000000 in
theorem rbits_any (k i g : Int) (n f : ByteArray) (a : Int) (so : Option Addr) (l c : Nat) (y : ByteArray) (z : Int) (w : World) (hy : y.size ≤ 9223372036854775807) (hz : I64 z) :
  Calls Tryz.prog 198 #[.agg #[.int .i64 k, .int .i64 i, .int .i64 g, .string n, .string f, .int .i64 a, .slice so l c, .string y, .int .i64 z]] w fun e w' => e = .returned (.bool (bitsV y z)) ∧ Below w.heap.size w w' := by
 have HB := Lib.hid ((Below.refl w.heap.size w).alloc (Nat.le_refl _) (.cells #[.int .i64 k, .int .i64 i, .int .i64 g, .string n, .string f, .int .i64 a, .slice so l c, .string y, .int .i64 z] 78))
 obtain ⟨za, zb⟩ := hz
 by_cases h0 : z < 0
 ·have E : Hid (bitsV y z = false) := Lib.hid (by unfold bitsV; rw [wi_no (by omega)]; rfl)
  go_enter Tryz.func198, Tryz.ntmps198
  go_wp2_with fail
  go_ret
  exact ⟨retb E.out.symm, HB.out⟩
 ·by_cases h1 : 16384 < z
  ·have E : Hid (bitsV y z = false) := Lib.hid (by unfold bitsV; rw [wi_no (by omega)]; rfl)
   go_enter Tryz.func198, Tryz.ntmps198
   go_wp2_with fail
   go_ret
   exact ⟨retb E.out.symm, HB.out⟩
  ·have z0 : 0 ≤ z := by omega
   have z1 : z ≤ 16384 := by omega
   have E0 : bitsV y z = (decide ((y.size : Int) = (z + 7) / 8) && (decide (z % 8 = 0) || decide (lastByte y % 2 ^ (8 - z % 8).toNat = 0))) := by unfold bitsV; rw [wi_yes z0 z1]; rfl
   clear h0 h1
   by_cases hl : (y.size : Int) = (z + 7) / 8
   ·have hlb : ((y.size : Int) != (z + 7) / 8) = false := by rw [bne_eq_false_iff_eq]; exact hl
    by_cases hr : z % 8 = 0
    ·have E : Hid (bitsV y z = true) := Lib.hid (by rw [E0, decide_eq_true hl, decide_eq_true hr]; rfl)
     have hrb : (z % 8 == 0) = true := by rw [beq_iff_eq]; exact hr
     clear hl hr E0
     go_enter Tryz.func198, Tryz.ntmps198
     go_wp2_with fail
     go_ret
     exact ⟨retb E.out.symm, HB.out⟩
    ·obtain ⟨m, hm⟩ : ∃ m, y.size = m + 1 := ⟨y.size - 1, by omega⟩
     obtain ⟨r, hrr⟩ : ∃ r : Nat, z % 8 = (r : Int) := ⟨(z % 8).toNat, by omega⟩
     have hr1 : 1 ≤ r := by omega
     have hr7 : r ≤ 7 := by omega
     have hmi : m < y.size := by omega
     have E : Hid (bitsV y z = decide (y[m].toNat % 2 ^ (8 - r) = 0)) := Lib.hid (by
      rw [E0, decide_eq_true hl, decide_eq_false hr, lastByte_at hm, hrr, show (8 - (r : Int)).toNat = 8 - r by omega]
      rfl)
     have hrb : (z % 8 == 0) = false := beq_eq_false_iff_ne.2 hr
     have hw1 : IntKind.i64.wrap ((y.size : Int) - 1) = (m : Int) := by rw [IntKind.wrap_i64]; omega
     have hidx : (y.size : Int) - 1 = (m : Int) := by omega
     have HM := Lib.hid hm
     clear hr E0 hl hm
     go_enter Tryz.func198, Tryz.ntmps198
     go_wp2_with fail
     generalize hbb : y[m].toNat = lb at *
     have hlb2 : lb < 256 := by rw [← hbb]; exact UInt8.toNat_lt _
     have HRR := Lib.hid hrr
     have hwl : wrap64 ((lb : Nat) : Int) = (lb : Int) := by unfold wrap64; omega
     have HWL := Lib.hid hwl
     clear hbb hrr hw1 hidx hrb hlb hwl
     go_loop [4, 5] (fun uv iv => ∃ (j p : Nat), r + j ≤ 8 ∧ iv = .int .i64 ((r + j : Nat) : Int) ∧ uv = .int .i64 (p : Int) ∧ Hid (p = 2 ^ j) ∧ 1 ≤ p ∧ p ≤ 256) (fun _ iv => 8 - (intOf iv).toNat)
     case atStart => exact ⟨0, 1, by omega, by (have h9 := HRR.out; go_num), by go_num, Lib.hid rfl, by decide, by decide⟩
     case round =>
      obtain ⟨j, p, hj, rfl, rfl, HP, hp1, hp2⟩ := hrel
      by_cases hlt : r + j < 8
      ·have hp7 : p ≤ 128 := by rw [HP.out]; exact (pow_le7 j (by omega)).1
       have HP2 : Hid (p * 2 = 2 ^ (j + 1)) := Lib.hid (by rw [pow_step, HP.out])
       go_wp2_with fail
       go_round
       case rel => exact ⟨j + 1, p * 2, by omega, by go_num, by go_num, HP2, by omega, by omega⟩
       case measure => simp [intOf]; omega
      ·have hj8 : j = 8 - r := by omega
       have E2 : Hid (bitsV y z = (((lb : Int) % (p : Int)) == 0)) := Lib.hid (by
        rw [E.out, HP.out, hj8, Bool.eq_iff_iff, decide_eq_true_eq, beq_iff_eq]
        constructor
        ·intro h; exact_mod_cast h
        ·intro h; exact_mod_cast h)
       have hp0 : ((p : Int) == 0) = false := by rw [beq_eq_false_iff_ne]; omega
       clear hj8
       go_wp2_with fail
       all_goals go_ret
       all_goals exact ⟨retb (by rw [HWL.out, Int.tmod_eq_emod_of_nonneg (by omega)]; exact E2.out.symm), HB.out⟩
   ·have hlb : ((y.size : Int) != (z + 7) / 8) = true := by rw [bne_iff_ne]; exact hl
    have E : Hid (bitsV y z = false) := Lib.hid (by rw [E0, decide_eq_false hl]; rfl)
    clear hl E0
    go_enter Tryz.func198, Tryz.ntmps198
    go_wp2_with fail
    go_ret
    exact ⟨retb E.out.symm, HB.out⟩
end Go.Proofs.YtghgbikmlbildaaGreatDoor
namespace Go.Proofs.YtghgbikmlbildaaGreatDoor
open Go.RowKit
set_option linter.unusedVariables false
set_option linter.unusedSimpArgs false

theorem own_cap {t : Tm} (h : okK t = true) : 0 ≤ ownSize t ∧ ownSize t ≤ 300 + t.items.length := by
 unfold ownSize
 by_cases h9 : t.kind = 9
 ·rw [if_pos h9]
  unfold okK at h
  rw [if_neg (by omega), if_neg (by omega), if_neg (by omega), if_neg (by omega), if_neg (by omega), if_neg (by omega), if_neg (by omega), if_pos h9, Bool.and_eq_true, decide_eq_true_eq] at h
  omega
 ·rw [if_neg h9]
  by_cases h10 : t.kind = 10
  ·rw [if_pos h10]
   unfold okK at h
   rw [if_neg (by omega), if_neg (by omega), if_neg (by omega), if_neg (by omega), if_neg (by omega), if_neg (by omega), if_neg (by omega), if_neg h9, if_pos h10] at h
   unfold bitsB bitsV at h
   rw [Bool.and_eq_true, Bool.and_eq_true] at h
   have := h.1.1
   unfold wi at this
   rw [Bool.and_eq_true, decide_eq_true_eq, decide_eq_true_eq] at this
   omega
  ·rw [if_neg h10]; omega
theorem whole_list {f : Nat} (ih : ∀ t, formF f t = true → 0 ≤ wholeF f t ∧ wholeF f t ≤ (capF f t : Int)) : ∀ (l : List Tm), l.all (formF f) = true → 0 ≤ sumI (l.map (wholeF f)) ∧ sumI (l.map (wholeF f)) ≤ (sumN (l.map (capF f)) : Int)
 | [], _ => ⟨Int.le_refl _, Int.le_refl _⟩
 | t :: l, h => by
  rw [List.all_cons, Bool.and_eq_true] at h
  have h1 := ih t h.1
  have h2 := whole_list ih l h.2
  show 0 ≤ wholeF f t + sumI (l.map (wholeF f)) ∧ wholeF f t + sumI (l.map (wholeF f)) ≤ ((capF f t + sumN (l.map (capF f)) : Nat) : Int)
  omega
theorem whole_cap : ∀ (f : Nat) (t : Tm), formF f t = true → 0 ≤ wholeF f t ∧ wholeF f t ≤ (capF f t : Int)
 | 0, _, h => by cases h
 | f + 1, t, h => by
  unfold formF at h
  rw [Bool.and_eq_true] at h
  have hl := h.1
  unfold locB at hl
  rw [Bool.and_eq_true] at hl
  have h1 := own_cap hl.1
  have h2 := whole_list (whole_cap f) t.items h.2
  show 0 ≤ ownSize t + sumI (t.items.map (wholeF f)) ∧ ownSize t + sumI (t.items.map (wholeF f)) ≤ ((300 + t.items.length + sumN (t.items.map (capF f)) : Nat) : Int)
  omega
theorem all_drop3 {f : Nat} {l : List Tm} (h : l.all (formF f) = true) (k : Nat) : (l.drop k).all (formF f) = true := by
 rw [List.all_eq_true] at h ⊢
 exact fun x hx => h x (List.mem_of_mem_drop hx)
theorem tbox_new (w : World) (t : Tm) (so : Option Addr) (c : Nat) : (w.alloc (.cells #[.int .i64 t.kind, .int .i64 t.int, .int .i64 t.gen, .string t.name, .string t.func, .int .i64 t.arity, .slice so t.items.length c, .string t.bytes, .int .i64 t.bits] 78)).heap[w.heap.size]? = some (.cells #[.int .i64 t.kind, .int .i64 t.int, .int .i64 t.gen, .string t.name, .string t.func, .int .i64 t.arity, .slice so t.items.length c, .string t.bytes, .int .i64 t.bits] 78 (0, 0)) := heap_alloc_new _ _
theorem sumN_mem' : ∀ (l : List Nat) (x : Nat), x ∈ l → x ≤ sumN l
 | [], _, h => by cases h
 | y :: l, x, h => by
  show x ≤ y + sumN l
  rcases List.mem_cons.1 h with rfl | h
  ·omega
  ·have := sumN_mem' l x h; omega
/-- Whole on terms whose items are of a depth. -/
def WholeP (f : Nat) : Prop := ∀ (t : Tm) (so : Option Addr) (c : Nat) (w : World), SlAt w 9 (TmAt w f) so t.items → t.Ok → formF (f + 1) t = true → (capF (f + 1) t : Int) ≤ 1152921504606846976 →
 Calls Tryz.prog 162 #[.agg #[.int .i64 t.kind, .int .i64 t.int, .int .i64 t.gen, .string t.name, .string t.func, .int .i64 t.arity, .slice so t.items.length c, .string t.bytes, .int .i64 t.bits]] w fun e w' => e = .returned (.int .i64 (wholeF (f + 1) t)) ∧ Below w.heap.size w w'
/-- What a round of Whole wants of the items. -/
def RecAt (f : Nat) (t : Tm) (so : Option Addr) (Wa : World) (TV : Int) : Prop := ∀ (k : Nat) (s : Int) (wr : World) (hlt : k < t.items.length), Below Wa.heap.size Wa wr → TV = s + sumI ((t.items.drop k).map (wholeF f)) →
 ∃ b2 off ai ci, so = some ⟨b2, off, none⟩ ∧ b2 < wr.heap.size ∧ wr.cell? ⟨b2, off + k * 9, none⟩ = some (.int .i64 t.items[k].kind) ∧ wr.cell? ⟨b2, off + k * 9 + 1, none⟩ = some (.int .i64 t.items[k].int) ∧
   wr.cell? ⟨b2, off + k * 9 + 2, none⟩ = some (.int .i64 t.items[k].gen) ∧ wr.cell? ⟨b2, off + k * 9 + 3, none⟩ = some (.string t.items[k].name) ∧ wr.cell? ⟨b2, off + k * 9 + 4, none⟩ = some (.string t.items[k].func) ∧
   wr.cell? ⟨b2, off + k * 9 + 5, none⟩ = some (.int .i64 t.items[k].arity) ∧ wr.cell? ⟨b2, off + k * 9 + 6, none⟩ = some (.slice ai t.items[k].items.length ci) ∧ wr.cell? ⟨b2, off + k * 9 + 7, none⟩ = some (.string t.items[k].bytes) ∧
   wr.cell? ⟨b2, off + k * 9 + 8, none⟩ = some (.int .i64 t.items[k].bits) ∧
   (Calls Tryz.prog 162 #[.agg #[.int .i64 t.items[k].kind, .int .i64 t.items[k].int, .int .i64 t.items[k].gen, .string t.items[k].name, .string t.items[k].func, .int .i64 t.items[k].arity, .slice ai t.items[k].items.length ci, .string t.items[k].bytes, .int .i64 t.items[k].bits]] wr fun e w' => e = .returned (.int .i64 (wholeF f t.items[k])) ∧ Below wr.heap.size wr w') ∧ TV = (s + wholeF f t.items[k]) + sumI ((t.items.drop (k + 1)).map (wholeF f)) ∧ 0 ≤ wholeF f t.items[k] ∧ (s + wholeF f t.items[k] ≤ 1152921504606846976)
def RecP (f : Nat) (t : Tm) (so : Option Addr) (w : World) : Prop := ∀ (Wa : World), Below w.heap.size w Wa → RecAt f t so Wa (wholeF (f + 1) t)
set_option maxRecDepth 100000 in
set_option maxHeartbeats 8000000 in
theorem whole_list' (f : Nat) (t : Tm) (so : Option Addr) (c : Nat) (w : World) (hsl : SlAt w 9 (TmAt w f) so t.items) (hok : t.Ok) (hform : formF (f + 1) t = true) (hcap : (capF (f + 1) t : Int) ≤ 1152921504606846976) (hrec : RecP f t so w) (hk : t.kind = 9) :
  Calls Tryz.prog 162 #[.agg #[.int .i64 t.kind, .int .i64 t.int, .int .i64 t.gen, .string t.name, .string t.func, .int .i64 t.arity, .slice so t.items.length c, .string t.bytes, .int .i64 t.bits]] w fun e w' => e = .returned (.int .i64 (wholeF (f + 1) t)) ∧ Below w.heap.size w w' := by
 have hwc := whole_cap (f + 1) t hform
 have HTV0 : Hid (wholeF (f + 1) t = ownSize t + sumI ((t.items.drop 0).map (wholeF f))) := Lib.hid rfl
 have hown : 0 ≤ ownSize t ∧ ownSize t ≤ 300 + t.items.length := by
  unfold formF at hform
  rw [Bool.and_eq_true] at hform
  have := hform.1
  unfold locB at this
  rw [Bool.and_eq_true] at this
  exact own_cap this.1
 have hil : t.items.length ≤ 1152921504606846976 := by
  have : 300 + t.items.length ≤ capF (f + 1) t := by show 300 + t.items.length ≤ 300 + t.items.length + sumN (t.items.map (capF f)); omega
  omega
 have hownc : ownSize t ≤ 1152921504606846976 := by
  have : ((300 + t.items.length + sumN (t.items.map (capF f)) : Nat) : Int) ≤ 1152921504606846976 := hcap
  omega
 have HOWN : Hid (ownSize t = (t.items.length : Int) - 1) := Lib.hid (by unfold ownSize; rw [if_pos hk])
 have HKD := Lib.hid hk
 clear hk
 have HTV : Hid (wholeF (f + 1) t = ((t.items.length : Int) - 1) + sumI ((t.items.drop 0).map (wholeF f))) := Lib.hid (by rw [HTV0.out, HOWN.out])
 have HSL := Lib.hid hsl
 have HREC0 := Lib.hid hrec
 rw [HOWN.out] at hown hownc
 obtain ⟨hown0, hown1⟩ := hown
 clear hsl hrec hform hcap hwc HTV0
 unfold RecP at HREC0
 generalize wholeF (f + 1) t = TV at *
 go_enter Tryz.func162, Tryz.ntmps162
 go_upto_region 2 with fail
 have hbx := tbox_new w t so c
 have hba : Below w.heap.size w (w.alloc (.cells #[.int .i64 t.kind, .int .i64 t.int, .int .i64 t.gen, .string t.name, .string t.func, .int .i64 t.arity, .slice so t.items.length c, .string t.bytes, .int .i64 t.bits] 78)) := (Below.refl _ _).alloc (Nat.le_refl _) _
 generalize w.alloc (.cells #[.int .i64 t.kind, .int .i64 t.int, .int .i64 t.gen, .string t.name, .string t.func, .int .i64 t.arity, .slice so t.items.length c, .string t.bytes, .int .i64 t.bits] 78) = Wa at *
 have HS : Hid (SlAt Wa 9 (TmAt Wa f) so t.items) := Lib.hid (SlAt.tms HSL.out hba)
 generalize hBz : w.heap.size = B at *
 have HBZ := Lib.hid hBz; have HBA := Lib.hid hba; have HBX := Lib.hid hbx
 clear hBz hba
 have hlb := lt_of_row hbx
 have c0 : Wa.cell? ⟨B, 0, none⟩ = some (.int .i64 t.kind) := by rw [cell_of_row _ _ _ _ _ _ hbx]; rfl
 rw [HKD.out] at c0
 have c6 : Wa.cell? ⟨B, 6, none⟩ = some (.slice so t.items.length c) := by rw [cell_of_row _ _ _ _ _ _ hbx]; rfl
 have c8 : Wa.cell? ⟨B, 8, none⟩ = some (.int .i64 t.bits) := by rw [cell_of_row _ _ _ _ _ _ hbx]; rfl
 clear hbx
 have HFIN : Hid (∀ wx, Below Wa.heap.size Wa wx → Below B w wx) := Lib.hid (fun wx hh => HBA.out.trans (hh.mono (by have := HBA.out.size; have := HBZ.out; omega)))
 have HREC : Hid (RecAt f t so Wa TV) := Lib.hid (HREC0.out Wa HBA.out)
 go_wp2_with fail
 go_loopw [3, 4] (fun nv iv wr => ∃ (k : Nat) (s : Int), k ≤ t.items.length ∧ iv = .int .i64 k ∧ nv = .int .i64 s ∧ Hid (TV = s + sumI ((t.items.drop k).map (wholeF f))) ∧ 0 ≤ s ∧ s ≤ 1152921504606846976 ∧ Hid (Below Wa.heap.size Wa wr)) (fun _ iv _ => t.items.length - (intOf iv).toNat)
 case atStart => exact ⟨0, ((t.items.length : Int) - 1), Nat.zero_le _, rfl, by go_num, HTV, by omega, by omega, Lib.hid (Below.refl _ _)⟩
 case round =>
  obtain ⟨k, s, hk, rfl, rfl, HK, hs0, hs1, HBk⟩ := hrel
  rename World => wr
  clear c0 c6 c8
  have hb1 := (HBk.out.block B (lt_of_row HBX.out)).trans HBX.out
  have hlb1 := lt_of_row hb1
  have c6 : wr.cell? ⟨B, 6, none⟩ = some (.slice so t.items.length c) := by rw [cell_of_row _ _ _ _ _ _ hb1]; rfl
  clear hb1
  by_cases hlt : k < t.items.length
  ·obtain ⟨b2, off, ai, ci, hao, hb2, q0, q1, q2, q3, q4, q5, q6, q7, q8, hcall, hsd, hw0, hws⟩ := HREC.out k s wr hlt HBk.out HK.out
   subst hao
   have HCL := Lib.hid hcall; have HSD := Lib.hid hsd
   clear hcall hsd
   generalize t.items[k] = u at *
   generalize wholeF f u = wu at *
   go_wp2_with fail
   refine HCL.out.mono ?_
   rintro e9 w5 ⟨rfl, hb5⟩
   go_wp2_with fail
   go_roundw
   case rel => exact ⟨k + 1, s + wu, by omega, by go_num, rfl, HSD, by omega, by omega, Lib.hid (below_next HBk.out hb5)⟩
   case measure => simp [intOf]; omega
  ·have E : Hid (TV = s) := Lib.hid (by rw [HK.out, List.drop_eq_nil_of_le (by omega)]; show s + 0 = s; omega)
   go_wp2_with fail
   go_ret
   exact ⟨ret1 E.out.symm, by rw [HBZ.out]; exact HFIN.out _ HBk.out⟩
set_option maxRecDepth 100000 in
set_option maxHeartbeats 8000000 in
theorem whole_bits (f : Nat) (t : Tm) (so : Option Addr) (c : Nat) (w : World) (hsl : SlAt w 9 (TmAt w f) so t.items) (hok : t.Ok) (hform : formF (f + 1) t = true) (hcap : (capF (f + 1) t : Int) ≤ 1152921504606846976) (hrec : RecP f t so w) (hk : t.kind = 10) :
  Calls Tryz.prog 162 #[.agg #[.int .i64 t.kind, .int .i64 t.int, .int .i64 t.gen, .string t.name, .string t.func, .int .i64 t.arity, .slice so t.items.length c, .string t.bytes, .int .i64 t.bits]] w fun e w' => e = .returned (.int .i64 (wholeF (f + 1) t)) ∧ Below w.heap.size w w' := by
 have hwc := whole_cap (f + 1) t hform
 have HTV0 : Hid (wholeF (f + 1) t = ownSize t + sumI ((t.items.drop 0).map (wholeF f))) := Lib.hid rfl
 have hown : 0 ≤ ownSize t ∧ ownSize t ≤ 300 + t.items.length := by
  unfold formF at hform
  rw [Bool.and_eq_true] at hform
  have := hform.1
  unfold locB at this
  rw [Bool.and_eq_true] at this
  exact own_cap this.1
 have hil : t.items.length ≤ 1152921504606846976 := by
  have : 300 + t.items.length ≤ capF (f + 1) t := by show 300 + t.items.length ≤ 300 + t.items.length + sumN (t.items.map (capF f)); omega
  omega
 have hownc : ownSize t ≤ 1152921504606846976 := by
  have : ((300 + t.items.length + sumN (t.items.map (capF f)) : Nat) : Int) ≤ 1152921504606846976 := hcap
  omega
 have HOWN : Hid (ownSize t = 1 + (t.bits + 63) / 64) := Lib.hid (by unfold ownSize; rw [if_neg (by omega), if_pos hk])
 have hbt : 0 ≤ t.bits ∧ t.bits ≤ 16384 := by
  unfold formF at hform
  rw [Bool.and_eq_true] at hform
  have h := hform.1
  unfold locB at h
  rw [Bool.and_eq_true] at h
  have h := h.1
  unfold okK at h
  rw [if_neg (by omega), if_neg (by omega), if_neg (by omega), if_neg (by omega), if_neg (by omega), if_neg (by omega), if_neg (by omega), if_neg (by omega), if_pos hk] at h
  unfold bitsB bitsV at h
  rw [Bool.and_eq_true, Bool.and_eq_true] at h
  have := h.1.1
  unfold wi at this
  rw [Bool.and_eq_true, decide_eq_true_eq, decide_eq_true_eq] at this
  exact this
 obtain ⟨hbt0, hbt1⟩ := hbt
 have HKD := Lib.hid hk
 clear hk
 have HTV : Hid (wholeF (f + 1) t = (1 + (t.bits + 63) / 64) + sumI ((t.items.drop 0).map (wholeF f))) := Lib.hid (by rw [HTV0.out, HOWN.out])
 have HSL := Lib.hid hsl
 have HREC0 := Lib.hid hrec
 rw [HOWN.out] at hown hownc
 obtain ⟨hown0, hown1⟩ := hown
 clear hsl hrec hform hcap hwc HTV0
 unfold RecP at HREC0
 generalize wholeF (f + 1) t = TV at *
 go_enter Tryz.func162, Tryz.ntmps162
 go_upto_region 2 with fail
 have hbx := tbox_new w t so c
 have hba : Below w.heap.size w (w.alloc (.cells #[.int .i64 t.kind, .int .i64 t.int, .int .i64 t.gen, .string t.name, .string t.func, .int .i64 t.arity, .slice so t.items.length c, .string t.bytes, .int .i64 t.bits] 78)) := (Below.refl _ _).alloc (Nat.le_refl _) _
 generalize w.alloc (.cells #[.int .i64 t.kind, .int .i64 t.int, .int .i64 t.gen, .string t.name, .string t.func, .int .i64 t.arity, .slice so t.items.length c, .string t.bytes, .int .i64 t.bits] 78) = Wa at *
 have HS : Hid (SlAt Wa 9 (TmAt Wa f) so t.items) := Lib.hid (SlAt.tms HSL.out hba)
 generalize hBz : w.heap.size = B at *
 have HBZ := Lib.hid hBz; have HBA := Lib.hid hba; have HBX := Lib.hid hbx
 clear hBz hba
 have hlb := lt_of_row hbx
 have c0 : Wa.cell? ⟨B, 0, none⟩ = some (.int .i64 t.kind) := by rw [cell_of_row _ _ _ _ _ _ hbx]; rfl
 rw [HKD.out] at c0
 have c6 : Wa.cell? ⟨B, 6, none⟩ = some (.slice so t.items.length c) := by rw [cell_of_row _ _ _ _ _ _ hbx]; rfl
 have c8 : Wa.cell? ⟨B, 8, none⟩ = some (.int .i64 t.bits) := by rw [cell_of_row _ _ _ _ _ _ hbx]; rfl
 clear hbx
 have HFIN : Hid (∀ wx, Below Wa.heap.size Wa wx → Below B w wx) := Lib.hid (fun wx hh => HBA.out.trans (hh.mono (by have := HBA.out.size; have := HBZ.out; omega)))
 have HREC : Hid (RecAt f t so Wa TV) := Lib.hid (HREC0.out Wa HBA.out)
 go_wp2_with fail
 go_loopw [3, 4] (fun nv iv wr => ∃ (k : Nat) (s : Int), k ≤ t.items.length ∧ iv = .int .i64 k ∧ nv = .int .i64 s ∧ Hid (TV = s + sumI ((t.items.drop k).map (wholeF f))) ∧ 0 ≤ s ∧ s ≤ 1152921504606846976 ∧ Hid (Below Wa.heap.size Wa wr)) (fun _ iv _ => t.items.length - (intOf iv).toNat)
 case atStart => exact ⟨0, (1 + (t.bits + 63) / 64), Nat.zero_le _, rfl, by go_num, HTV, by omega, by omega, Lib.hid (Below.refl _ _)⟩
 case round =>
  obtain ⟨k, s, hk, rfl, rfl, HK, hs0, hs1, HBk⟩ := hrel
  rename World => wr
  clear c0 c6 c8
  have hb1 := (HBk.out.block B (lt_of_row HBX.out)).trans HBX.out
  have hlb1 := lt_of_row hb1
  have c6 : wr.cell? ⟨B, 6, none⟩ = some (.slice so t.items.length c) := by rw [cell_of_row _ _ _ _ _ _ hb1]; rfl
  clear hb1
  by_cases hlt : k < t.items.length
  ·obtain ⟨b2, off, ai, ci, hao, hb2, q0, q1, q2, q3, q4, q5, q6, q7, q8, hcall, hsd, hw0, hws⟩ := HREC.out k s wr hlt HBk.out HK.out
   subst hao
   have HCL := Lib.hid hcall; have HSD := Lib.hid hsd
   clear hcall hsd
   generalize t.items[k] = u at *
   generalize wholeF f u = wu at *
   go_wp2_with fail
   refine HCL.out.mono ?_
   rintro e9 w5 ⟨rfl, hb5⟩
   go_wp2_with fail
   go_roundw
   case rel => exact ⟨k + 1, s + wu, by omega, by go_num, rfl, HSD, by omega, by omega, Lib.hid (below_next HBk.out hb5)⟩
   case measure => simp [intOf]; omega
  ·have E : Hid (TV = s) := Lib.hid (by rw [HK.out, List.drop_eq_nil_of_le (by omega)]; show s + 0 = s; omega)
   go_wp2_with fail
   go_ret
   exact ⟨ret1 E.out.symm, by rw [HBZ.out]; exact HFIN.out _ HBk.out⟩
set_option maxRecDepth 100000 in
set_option maxHeartbeats 8000000 in
theorem whole_one (f : Nat) (t : Tm) (so : Option Addr) (c : Nat) (w : World) (hsl : SlAt w 9 (TmAt w f) so t.items) (hok : t.Ok) (hform : formF (f + 1) t = true) (hcap : (capF (f + 1) t : Int) ≤ 1152921504606846976) (hrec : RecP f t so w) (hk9 : ¬ t.kind = 9) (hk10 : ¬ t.kind = 10) :
  Calls Tryz.prog 162 #[.agg #[.int .i64 t.kind, .int .i64 t.int, .int .i64 t.gen, .string t.name, .string t.func, .int .i64 t.arity, .slice so t.items.length c, .string t.bytes, .int .i64 t.bits]] w fun e w' => e = .returned (.int .i64 (wholeF (f + 1) t)) ∧ Below w.heap.size w w' := by
 have hwc := whole_cap (f + 1) t hform
 have HTV0 : Hid (wholeF (f + 1) t = ownSize t + sumI ((t.items.drop 0).map (wholeF f))) := Lib.hid rfl
 have hown : 0 ≤ ownSize t ∧ ownSize t ≤ 300 + t.items.length := by
  unfold formF at hform
  rw [Bool.and_eq_true] at hform
  have := hform.1
  unfold locB at this
  rw [Bool.and_eq_true] at this
  exact own_cap this.1
 have hil : t.items.length ≤ 1152921504606846976 := by
  have : 300 + t.items.length ≤ capF (f + 1) t := by show 300 + t.items.length ≤ 300 + t.items.length + sumN (t.items.map (capF f)); omega
  omega
 have hownc : ownSize t ≤ 1152921504606846976 := by
  have : ((300 + t.items.length + sumN (t.items.map (capF f)) : Nat) : Int) ≤ 1152921504606846976 := hcap
  omega
 have HOWN : Hid (ownSize t = 1) := Lib.hid (by unfold ownSize; rw [if_neg hk9, if_neg hk10])
 have t9 : (t.kind == 9) = false := beq_eq_false_iff_ne.2 hk9
 have t10 : (t.kind == 10) = false := beq_eq_false_iff_ne.2 hk10
 clear hk9 hk10
 have HTV : Hid (wholeF (f + 1) t = (1 : Int) + sumI ((t.items.drop 0).map (wholeF f))) := Lib.hid (by rw [HTV0.out, HOWN.out])
 have HSL := Lib.hid hsl
 have HREC0 := Lib.hid hrec
 rw [HOWN.out] at hown hownc
 obtain ⟨hown0, hown1⟩ := hown
 clear hsl hrec hform hcap hwc HTV0
 unfold RecP at HREC0
 generalize wholeF (f + 1) t = TV at *
 go_enter Tryz.func162, Tryz.ntmps162
 go_upto_region 2 with fail
 have hbx := tbox_new w t so c
 have hba : Below w.heap.size w (w.alloc (.cells #[.int .i64 t.kind, .int .i64 t.int, .int .i64 t.gen, .string t.name, .string t.func, .int .i64 t.arity, .slice so t.items.length c, .string t.bytes, .int .i64 t.bits] 78)) := (Below.refl _ _).alloc (Nat.le_refl _) _
 generalize w.alloc (.cells #[.int .i64 t.kind, .int .i64 t.int, .int .i64 t.gen, .string t.name, .string t.func, .int .i64 t.arity, .slice so t.items.length c, .string t.bytes, .int .i64 t.bits] 78) = Wa at *
 have HS : Hid (SlAt Wa 9 (TmAt Wa f) so t.items) := Lib.hid (SlAt.tms HSL.out hba)
 generalize hBz : w.heap.size = B at *
 have HBZ := Lib.hid hBz; have HBA := Lib.hid hba; have HBX := Lib.hid hbx
 clear hBz hba
 have hlb := lt_of_row hbx
 have c0 : Wa.cell? ⟨B, 0, none⟩ = some (.int .i64 t.kind) := by rw [cell_of_row _ _ _ _ _ _ hbx]; rfl
 have c6 : Wa.cell? ⟨B, 6, none⟩ = some (.slice so t.items.length c) := by rw [cell_of_row _ _ _ _ _ _ hbx]; rfl
 have c8 : Wa.cell? ⟨B, 8, none⟩ = some (.int .i64 t.bits) := by rw [cell_of_row _ _ _ _ _ _ hbx]; rfl
 clear hbx
 have HFIN : Hid (∀ wx, Below Wa.heap.size Wa wx → Below B w wx) := Lib.hid (fun wx hh => HBA.out.trans (hh.mono (by have := HBA.out.size; have := HBZ.out; omega)))
 have HREC : Hid (RecAt f t so Wa TV) := Lib.hid (HREC0.out Wa HBA.out)
 go_wp2_with fail
 go_loopw [3, 4] (fun nv iv wr => ∃ (k : Nat) (s : Int), k ≤ t.items.length ∧ iv = .int .i64 k ∧ nv = .int .i64 s ∧ Hid (TV = s + sumI ((t.items.drop k).map (wholeF f))) ∧ 0 ≤ s ∧ s ≤ 1152921504606846976 ∧ Hid (Below Wa.heap.size Wa wr)) (fun _ iv _ => t.items.length - (intOf iv).toNat)
 case atStart => exact ⟨0, (1 : Int), Nat.zero_le _, rfl, by go_num, HTV, by omega, by omega, Lib.hid (Below.refl _ _)⟩
 case round =>
  obtain ⟨k, s, hk, rfl, rfl, HK, hs0, hs1, HBk⟩ := hrel
  rename World => wr
  clear c0 c6 c8
  have hb1 := (HBk.out.block B (lt_of_row HBX.out)).trans HBX.out
  have hlb1 := lt_of_row hb1
  have c6 : wr.cell? ⟨B, 6, none⟩ = some (.slice so t.items.length c) := by rw [cell_of_row _ _ _ _ _ _ hb1]; rfl
  clear hb1
  by_cases hlt : k < t.items.length
  ·obtain ⟨b2, off, ai, ci, hao, hb2, q0, q1, q2, q3, q4, q5, q6, q7, q8, hcall, hsd, hw0, hws⟩ := HREC.out k s wr hlt HBk.out HK.out
   subst hao
   have HCL := Lib.hid hcall; have HSD := Lib.hid hsd
   clear hcall hsd
   generalize t.items[k] = u at *
   generalize wholeF f u = wu at *
   go_wp2_with fail
   refine HCL.out.mono ?_
   rintro e9 w5 ⟨rfl, hb5⟩
   go_wp2_with fail
   go_roundw
   case rel => exact ⟨k + 1, s + wu, by omega, by go_num, rfl, HSD, by omega, by omega, Lib.hid (below_next HBk.out hb5)⟩
   case measure => simp [intOf]; omega
  ·have E : Hid (TV = s) := Lib.hid (by rw [HK.out, List.drop_eq_nil_of_le (by omega)]; show s + 0 = s; omega)
   go_wp2_with fail
   go_ret
   exact ⟨ret1 E.out.symm, by rw [HBZ.out]; exact HFIN.out _ HBk.out⟩
theorem whole_step (f : Nat) (IH : ∀ f', f = f' + 1 → WholeP f') : WholeP f := by
 intro t so c w hsl hok hform hcap
 have hall : t.items.all (formF f) = true := by
  unfold formF at hform; rw [Bool.and_eq_true] at hform; exact hform.2
 have hwc := whole_cap (f + 1) t hform
 have hrec : RecP f t so w := by
  intro Wa hba k s wr hlt hb hs
  cases f with
  | zero => rw [hsl.zero] at hlt; exact absurd hlt (Nat.not_lt_zero _)
  | succ f =>
   obtain ⟨b2, off, ai, ci, hao, hb2, q0, q1, q2, q3, q4, q5, q6, q7, q8, hit, hok2⟩ := (SlAt.tms (SlAt.tms hsl hba) hb).tm hlt
   have hf2 : formF (f + 1) t.items[k] = true := List.all_eq_true.1 hall _ (List.getElem_mem hlt)
   have hc2 : (capF (f + 1) t.items[k] : Int) ≤ 1152921504606846976 := by
    have h1 : capF (f + 1) t.items[k] ≤ sumN (t.items.map (capF (f + 1))) := sumN_mem' _ _ (List.mem_map.2 ⟨_, List.getElem_mem hlt, rfl⟩)
    have h2 : capF (f + 1 + 1) t = 300 + t.items.length + sumN (t.items.map (capF (f + 1))) := rfl
    rw [h2] at hcap
    omega
   have hd := sumI_drop (f := f + 1) hlt
   have hw := whole_cap (f + 1) _ hf2
   have hrest := whole_list (whole_cap (f + 1)) (t.items.drop (k + 1)) (all_drop3 hall (k + 1))
   rw [hd] at hs
   exact ⟨b2, off, ai, ci, hao, hb2, q0, q1, q2, q3, q4, q5, q6, q7, q8, IH f rfl _ ai ci wr hit hok2 hf2 hc2, by rw [hs]; omega, hw.1, by omega⟩
 by_cases h9 : t.kind = 9
 ·exact whole_list' f t so c w hsl hok hform hcap hrec h9
 by_cases h10 : t.kind = 10
 ·exact whole_bits f t so c w hsl hok hform hcap hrec h10
 exact whole_one f t so c w hsl hok hform hcap hrec h9 h10
theorem whole_rec (f : Nat) : WholeP f := by
 induction f with
 | zero => exact whole_step 0 (fun f' h => absurd h (by omega))
 | succ f ih => exact whole_step (f + 1) (fun f' h => by have : f' = f := by omega
                                                         subst this; exact ih)
end Go.Proofs.YtghgbikmlbildaaGreatDoor
