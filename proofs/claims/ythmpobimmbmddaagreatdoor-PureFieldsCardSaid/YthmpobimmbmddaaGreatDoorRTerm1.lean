/-
  The reference's zero, bare, between: the walks (printed by gen_rterm1.py).
-/
import Derived.Test.YthmpobimmbmddaaGreatDoorTOf1
import Derived.Test.YthmpobimmbmddaaGreatDoorRName
namespace Go.Proofs.YthmpobimmbmddaaGreatDoor
open Go.RowKit
set_option linter.unusedVariables false
set_option linter.unusedSimpArgs false

set_option maxRecDepth 100000 in
theorem rbetween_any (n a b : Int) (w : World) : Calls Tryz.prog 135 #[.int .i64 n, .int .i64 a, .int .i64 b] w fun e w' => e = .returned (.bool (wi n a b)) ∧ w = w' := by
  by_cases h : a ≤ n
  · by_cases h' : n ≤ b
    · have E := Lib.hid (wi_yes h h')
      go_enter Tryz.func135, Tryz.ntmps135
      go_wp2
      go_ret
      exact ⟨retb E.out.symm, rfl⟩
    · have E : Hid (wi n a b = false) := Lib.hid (wi_no (by omega))
      go_enter Tryz.func135, Tryz.ntmps135
      go_wp2
      go_ret
      exact ⟨retb E.out.symm, rfl⟩
  · have E : Hid (wi n a b = false) := Lib.hid (wi_no (by omega))
    go_enter Tryz.func135, Tryz.ntmps135
    go_wp2
    go_ret
    exact ⟨retb E.out.symm, rfl⟩
/-- Are all fields zero? -/
def allZ (k i g : Int) (n f : ByteArray) (a : Int) (l : Nat) (y : ByteArray) (z : Int) : Bool := zI k && (zI i && (zI g && (zS n && (zS f && (zI a && (decide (l = 0) && (zS y && zI z)))))))
theorem allZ_left (t : Tm) : allZ 0 (leftT t).int (leftT t).gen (leftT t).name (leftT t).func (leftT t).arity (leftT t).items.length (leftT t).bytes (leftT t).bits = sameF 1 (left0 t) zeroTm := by
  rw [same_zero]
  unfold allZ left0 zL
  simp only [Tm.kind, Tm.int, Tm.gen, Tm.name, Tm.func, Tm.arity, Tm.items, Tm.bytes, Tm.bits]
  ac_rfl
theorem loc_all (t : Tm) : (okK t && allZ 0 (leftT t).int (leftT t).gen (leftT t).name (leftT t).func (leftT t).arity (leftT t).items.length (leftT t).bytes (leftT t).bits) = locB t := by rw [allZ_left]; exact loc_of 0 t
theorem zS_nilList (s : ByteArray) : (s.toList == []) = zS s := by
  have := zS_is s
  rw [ByteArray.toList_eq (ByteArray.mk #[])] at this
  exact this
set_option maxRecDepth 100000 in
set_option maxHeartbeats 4000000 in
theorem rzero_any (k i g : Int) (n f : ByteArray) (a : Int) (so : Option Addr) (l c : Nat) (y : ByteArray) (z : Int) (w : World) (hl : l ≤ 9223372036854775807) :
    Calls Tryz.prog 133 #[.agg #[.int .i64 k, .int .i64 i, .int .i64 g, .string n, .string f, .int .i64 a, .slice so l c, .string y, .int .i64 z]] w fun e w' => e = .returned (.bool (allZ k i g n f a l y z)) ∧ Below w.heap.size w w' := by
  have HB := Lib.hid ((Below.refl w.heap.size w).alloc (Nat.le_refl _) (.cells #[.int .i64 k, .int .i64 i, .int .i64 g, .string n, .string f, .int .i64 a, .slice so l c, .string y, .int .i64 z] 28))
  have HZ : Hid (allZ k i g n f a l y z = (zI k && (zI i && (zI g && (zS n && (zS f && (zI a && (decide (l = 0) && (zS y && zI z))))))))) := Lib.hid rfl
  generalize allZ k i g n f a l y z = r at *
  cases h0 : zI k with
  | false =>
    have t0 : (k == 0) = false := (zI_is k).trans h0
    have E : Hid (r = false) := Lib.hid (by rw [HZ.out, h0]; rfl)
    clear h0
    go_enter Tryz.func133, Tryz.ntmps133
    go_wp2_with fail
    go_ret
    exact ⟨retb E.out.symm, HB.out⟩
  | true =>
    have t0 : (k == 0) = true := (zI_is k).trans h0
    cases h1 : zI i with
    | false =>
      have t1 : (i == 0) = false := (zI_is i).trans h1
      have E : Hid (r = false) := Lib.hid (by rw [HZ.out, h0, h1]; rfl)
      clear h0 h1
      go_enter Tryz.func133, Tryz.ntmps133
      go_wp2_with fail
      go_ret
      exact ⟨retb E.out.symm, HB.out⟩
    | true =>
      have t1 : (i == 0) = true := (zI_is i).trans h1
      cases h2 : zI g with
      | false =>
        have t2 : (g == 0) = false := (zI_is g).trans h2
        have E : Hid (r = false) := Lib.hid (by rw [HZ.out, h0, h1, h2]; rfl)
        clear h0 h1 h2
        go_enter Tryz.func133, Tryz.ntmps133
        go_wp2_with fail
        go_ret
        exact ⟨retb E.out.symm, HB.out⟩
      | true =>
        have t2 : (g == 0) = true := (zI_is g).trans h2
        cases h3 : zS n with
        | false =>
          have t3 : (n.toList == []) = false := (zS_nilList n).trans h3
          have u3 : n.toList.isEmpty = false := by rw [← t3]; cases n.toList <;> rfl
          have E : Hid (r = false) := Lib.hid (by rw [HZ.out, h0, h1, h2, h3]; rfl)
          clear h0 h1 h2 h3
          go_enter Tryz.func133, Tryz.ntmps133
          go_wp2_with fail
          go_ret
          exact ⟨retb E.out.symm, HB.out⟩
        | true =>
          have t3 : (n.toList == []) = true := (zS_nilList n).trans h3
          have u3 : n.toList.isEmpty = true := by rw [← t3]; cases n.toList <;> rfl
          cases h4 : zS f with
          | false =>
            have t4 : (f.toList == []) = false := (zS_nilList f).trans h4
            have u4 : f.toList.isEmpty = false := by rw [← t4]; cases f.toList <;> rfl
            have E : Hid (r = false) := Lib.hid (by rw [HZ.out, h0, h1, h2, h3, h4]; rfl)
            clear h0 h1 h2 h3 h4
            go_enter Tryz.func133, Tryz.ntmps133
            go_wp2_with fail
            go_ret
            exact ⟨retb E.out.symm, HB.out⟩
          | true =>
            have t4 : (f.toList == []) = true := (zS_nilList f).trans h4
            have u4 : f.toList.isEmpty = true := by rw [← t4]; cases f.toList <;> rfl
            cases h5 : zI a with
            | false =>
              have t5 : (a == 0) = false := (zI_is a).trans h5
              have E : Hid (r = false) := Lib.hid (by rw [HZ.out, h0, h1, h2, h3, h4, h5]; rfl)
              clear h0 h1 h2 h3 h4 h5
              go_enter Tryz.func133, Tryz.ntmps133
              go_wp2_with fail
              go_ret
              exact ⟨retb E.out.symm, HB.out⟩
            | true =>
              have t5 : (a == 0) = true := (zI_is a).trans h5
              cases h6 : decide (l = 0) with
              | false =>
                have t6 : ((l : Int) == 0) = false := by rw [← h6, Bool.eq_iff_iff, beq_iff_eq, decide_eq_true_eq]; omega
                have E : Hid (r = false) := Lib.hid (by rw [HZ.out, h0, h1, h2, h3, h4, h5, h6]; rfl)
                clear h0 h1 h2 h3 h4 h5 h6
                go_enter Tryz.func133, Tryz.ntmps133
                go_wp2_with fail
                go_ret
                exact ⟨retb E.out.symm, HB.out⟩
              | true =>
                have t6 : ((l : Int) == 0) = true := by rw [← h6, Bool.eq_iff_iff, beq_iff_eq, decide_eq_true_eq]; omega
                cases h7 : zS y with
                | false =>
                  have t7 : (y.toList == []) = false := (zS_nilList y).trans h7
                  have u7 : y.toList.isEmpty = false := by rw [← t7]; cases y.toList <;> rfl
                  have E : Hid (r = false) := Lib.hid (by rw [HZ.out, h0, h1, h2, h3, h4, h5, h6, h7]; rfl)
                  clear h0 h1 h2 h3 h4 h5 h6 h7
                  go_enter Tryz.func133, Tryz.ntmps133
                  go_wp2_with fail
                  go_ret
                  exact ⟨retb E.out.symm, HB.out⟩
                | true =>
                  have t7 : (y.toList == []) = true := (zS_nilList y).trans h7
                  have u7 : y.toList.isEmpty = true := by rw [← t7]; cases y.toList <;> rfl
                  cases h8 : zI z with
                  | false =>
                    have t8 : (z == 0) = false := (zI_is z).trans h8
                    have E : Hid (r = false) := Lib.hid (by rw [HZ.out, h0, h1, h2, h3, h4, h5, h6, h7, h8]; rfl)
                    clear h0 h1 h2 h3 h4 h5 h6 h7 h8
                    go_enter Tryz.func133, Tryz.ntmps133
                    go_wp2_with fail
                    go_ret
                    exact ⟨retb E.out.symm, HB.out⟩
                  | true =>
                    have t8 : (z == 0) = true := (zI_is z).trans h8
                    have E : Hid (r = true) := Lib.hid (by rw [HZ.out, h0, h1, h2, h3, h4, h5, h6, h7, h8]; rfl)
                    go_enter Tryz.func133, Tryz.ntmps133
                    go_wp2_with fail
                    go_ret
                    exact ⟨retb E.out.symm, HB.out⟩
theorem alloc2_new (w : World) (a b : Obj) : ((w.alloc a).alloc b).heap[w.heap.size + 1]? = some b := by
  have := heap_alloc_new (w.alloc a) b
  rwa [show (w.alloc a).heap.size = w.heap.size + 1 by simp] at this
/-- What bare tells. -/
def BareQ (w : World) (t : Tm) (e : Ending) (w' : World) : Prop := ∃ so' c', e = .returned (.agg #[.int .i64 0, .int .i64 (leftT t).int, .int .i64 (leftT t).gen, .string (leftT t).name, .string (leftT t).func, .int .i64 (leftT t).arity, .slice so' (leftT t).items.length c', .string (leftT t).bytes, .int .i64 (leftT t).bits]) ∧ Below w.heap.size w w'
set_option maxRecDepth 100000 in
set_option maxHeartbeats 8000000 in
theorem rbare_any (t : Tm) (so : Option Addr) (c : Nat) (w : World) : Calls Tryz.prog 134 #[.agg #[.int .i64 t.kind, .int .i64 t.int, .int .i64 t.gen, .string t.name, .string t.func, .int .i64 t.arity, .slice so t.items.length c, .string t.bytes, .int .i64 t.bits]] w (BareQ w t) := by
  obtain ⟨tk, ti, tg, tn, tf, ta, tl, ty, tz⟩ := t
  simp only [Tm.kind, Tm.int, Tm.gen, Tm.name, Tm.func, Tm.arity, Tm.items, Tm.bytes, Tm.bits]
  by_cases h : tk = 1 ∨ tk = 2 ∨ tk = 3 ∨ tk = 4 ∨ tk = 5 ∨ tk = 6 ∨ tk = 7 ∨ tk = 9 ∨ tk = 10
  · rcases h with rfl | rfl | rfl | rfl | rfl | rfl | rfl | rfl | rfl
    · have HN := Lib.hid (alloc2_new w (.cells #[.int .i64 0, .int .i64 0, .int .i64 tg, .string tn, .string tf, .int .i64 ta, .slice so tl.length c, .string ty, .int .i64 tz] 28) (.cells #[.int .i64 0, .int .i64 0, .int .i64 tg, .string tn, .string tf, .int .i64 ta, .slice so tl.length c, .string ty, .int .i64 tz] 28))
      have HB : Hid (Below w.heap.size w ((w.alloc (.cells #[.int .i64 0, .int .i64 0, .int .i64 tg, .string tn, .string tf, .int .i64 ta, .slice so tl.length c, .string ty, .int .i64 tz] 28)).alloc (.cells #[.int .i64 0, .int .i64 0, .int .i64 tg, .string tn, .string tf, .int .i64 ta, .slice so tl.length c, .string ty, .int .i64 tz] 28))) := Lib.hid (((Below.refl _ _).alloc (Nat.le_refl _) _).alloc (by simp) _)
      go_enter Tryz.func134, Tryz.ntmps134
      go_wp2_with fail
      refine bodyPost_ret (results_cell_row rfl _ _ (w.heap.size + 1) _ _ _ _ rfl HN.out Tryz.underlying28 rfl (by kernel_rfl)) rfl ?_
      exact ⟨so, c, rfl, HB.out⟩
    · have HN := Lib.hid (alloc2_new w (.cells #[.int .i64 0, .int .i64 ti, .int .i64 tg, .string ⟨#[]⟩, .string tf, .int .i64 ta, .slice so tl.length c, .string ty, .int .i64 tz] 28) (.cells #[.int .i64 0, .int .i64 ti, .int .i64 tg, .string ⟨#[]⟩, .string tf, .int .i64 ta, .slice so tl.length c, .string ty, .int .i64 tz] 28))
      have HB : Hid (Below w.heap.size w ((w.alloc (.cells #[.int .i64 0, .int .i64 ti, .int .i64 tg, .string ⟨#[]⟩, .string tf, .int .i64 ta, .slice so tl.length c, .string ty, .int .i64 tz] 28)).alloc (.cells #[.int .i64 0, .int .i64 ti, .int .i64 tg, .string ⟨#[]⟩, .string tf, .int .i64 ta, .slice so tl.length c, .string ty, .int .i64 tz] 28))) := Lib.hid (((Below.refl _ _).alloc (Nat.le_refl _) _).alloc (by simp) _)
      go_enter Tryz.func134, Tryz.ntmps134
      go_wp2_with fail
      refine bodyPost_ret (results_cell_row rfl _ _ (w.heap.size + 1) _ _ _ _ rfl HN.out Tryz.underlying28 rfl (by kernel_rfl)) rfl ?_
      exact ⟨so, c, rfl, HB.out⟩
    · have HN := Lib.hid (alloc2_new w (.cells #[.int .i64 0, .int .i64 0, .int .i64 0, .string ⟨#[]⟩, .string tf, .int .i64 ta, .slice so tl.length c, .string ty, .int .i64 tz] 28) (.cells #[.int .i64 0, .int .i64 0, .int .i64 0, .string ⟨#[]⟩, .string tf, .int .i64 ta, .slice so tl.length c, .string ty, .int .i64 tz] 28))
      have HB : Hid (Below w.heap.size w ((w.alloc (.cells #[.int .i64 0, .int .i64 0, .int .i64 0, .string ⟨#[]⟩, .string tf, .int .i64 ta, .slice so tl.length c, .string ty, .int .i64 tz] 28)).alloc (.cells #[.int .i64 0, .int .i64 0, .int .i64 0, .string ⟨#[]⟩, .string tf, .int .i64 ta, .slice so tl.length c, .string ty, .int .i64 tz] 28))) := Lib.hid (((Below.refl _ _).alloc (Nat.le_refl _) _).alloc (by simp) _)
      go_enter Tryz.func134, Tryz.ntmps134
      go_wp2_with fail
      refine bodyPost_ret (results_cell_row rfl _ _ (w.heap.size + 1) _ _ _ _ rfl HN.out Tryz.underlying28 rfl (by kernel_rfl)) rfl ?_
      exact ⟨so, c, rfl, HB.out⟩
    · have HN := Lib.hid (alloc2_new w (.cells #[.int .i64 0, .int .i64 0, .int .i64 0, .string ⟨#[]⟩, .string tf, .int .i64 0, .slice none 0 0, .string ty, .int .i64 tz] 28) (.cells #[.int .i64 0, .int .i64 0, .int .i64 0, .string ⟨#[]⟩, .string tf, .int .i64 0, .slice none 0 0, .string ty, .int .i64 tz] 28))
      have HB : Hid (Below w.heap.size w ((w.alloc (.cells #[.int .i64 0, .int .i64 0, .int .i64 0, .string ⟨#[]⟩, .string tf, .int .i64 0, .slice none 0 0, .string ty, .int .i64 tz] 28)).alloc (.cells #[.int .i64 0, .int .i64 0, .int .i64 0, .string ⟨#[]⟩, .string tf, .int .i64 0, .slice none 0 0, .string ty, .int .i64 tz] 28))) := Lib.hid (((Below.refl _ _).alloc (Nat.le_refl _) _).alloc (by simp) _)
      go_enter Tryz.func134, Tryz.ntmps134
      go_wp2_with fail
      refine bodyPost_ret (results_cell_row rfl _ _ (w.heap.size + 1) _ _ _ _ rfl HN.out Tryz.underlying28 rfl (by kernel_rfl)) rfl ?_
      exact ⟨none, 0, rfl, HB.out⟩
    · have HN := Lib.hid (alloc2_new w (.cells #[.int .i64 0, .int .i64 ti, .int .i64 tg, .string ⟨#[]⟩, .string ⟨#[]⟩, .int .i64 0, .slice so tl.length c, .string ty, .int .i64 tz] 28) (.cells #[.int .i64 0, .int .i64 ti, .int .i64 tg, .string ⟨#[]⟩, .string ⟨#[]⟩, .int .i64 0, .slice so tl.length c, .string ty, .int .i64 tz] 28))
      have HB : Hid (Below w.heap.size w ((w.alloc (.cells #[.int .i64 0, .int .i64 ti, .int .i64 tg, .string ⟨#[]⟩, .string ⟨#[]⟩, .int .i64 0, .slice so tl.length c, .string ty, .int .i64 tz] 28)).alloc (.cells #[.int .i64 0, .int .i64 ti, .int .i64 tg, .string ⟨#[]⟩, .string ⟨#[]⟩, .int .i64 0, .slice so tl.length c, .string ty, .int .i64 tz] 28))) := Lib.hid (((Below.refl _ _).alloc (Nat.le_refl _) _).alloc (by simp) _)
      go_enter Tryz.func134, Tryz.ntmps134
      go_wp2_with fail
      refine bodyPost_ret (results_cell_row rfl _ _ (w.heap.size + 1) _ _ _ _ rfl HN.out Tryz.underlying28 rfl (by kernel_rfl)) rfl ?_
      exact ⟨so, c, rfl, HB.out⟩
    · have HN := Lib.hid (alloc2_new w (.cells #[.int .i64 0, .int .i64 0, .int .i64 0, .string ⟨#[]⟩, .string tf, .int .i64 ta, .slice so tl.length c, .string ty, .int .i64 tz] 28) (.cells #[.int .i64 0, .int .i64 0, .int .i64 0, .string ⟨#[]⟩, .string tf, .int .i64 ta, .slice so tl.length c, .string ty, .int .i64 tz] 28))
      have HB : Hid (Below w.heap.size w ((w.alloc (.cells #[.int .i64 0, .int .i64 0, .int .i64 0, .string ⟨#[]⟩, .string tf, .int .i64 ta, .slice so tl.length c, .string ty, .int .i64 tz] 28)).alloc (.cells #[.int .i64 0, .int .i64 0, .int .i64 0, .string ⟨#[]⟩, .string tf, .int .i64 ta, .slice so tl.length c, .string ty, .int .i64 tz] 28))) := Lib.hid (((Below.refl _ _).alloc (Nat.le_refl _) _).alloc (by simp) _)
      go_enter Tryz.func134, Tryz.ntmps134
      go_wp2_with fail
      refine bodyPost_ret (results_cell_row rfl _ _ (w.heap.size + 1) _ _ _ _ rfl HN.out Tryz.underlying28 rfl (by kernel_rfl)) rfl ?_
      exact ⟨so, c, rfl, HB.out⟩
    · have HN := Lib.hid (alloc2_new w (.cells #[.int .i64 0, .int .i64 ti, .int .i64 tg, .string tn, .string tf, .int .i64 ta, .slice none 0 0, .string ty, .int .i64 tz] 28) (.cells #[.int .i64 0, .int .i64 ti, .int .i64 tg, .string tn, .string tf, .int .i64 ta, .slice none 0 0, .string ty, .int .i64 tz] 28))
      have HB : Hid (Below w.heap.size w ((w.alloc (.cells #[.int .i64 0, .int .i64 ti, .int .i64 tg, .string tn, .string tf, .int .i64 ta, .slice none 0 0, .string ty, .int .i64 tz] 28)).alloc (.cells #[.int .i64 0, .int .i64 ti, .int .i64 tg, .string tn, .string tf, .int .i64 ta, .slice none 0 0, .string ty, .int .i64 tz] 28))) := Lib.hid (((Below.refl _ _).alloc (Nat.le_refl _) _).alloc (by simp) _)
      go_enter Tryz.func134, Tryz.ntmps134
      go_wp2_with fail
      refine bodyPost_ret (results_cell_row rfl _ _ (w.heap.size + 1) _ _ _ _ rfl HN.out Tryz.underlying28 rfl (by kernel_rfl)) rfl ?_
      exact ⟨none, 0, rfl, HB.out⟩
    · have HN := Lib.hid (alloc2_new w (.cells #[.int .i64 0, .int .i64 ti, .int .i64 tg, .string tn, .string tf, .int .i64 ta, .slice none 0 0, .string ty, .int .i64 tz] 28) (.cells #[.int .i64 0, .int .i64 ti, .int .i64 tg, .string tn, .string tf, .int .i64 ta, .slice none 0 0, .string ty, .int .i64 tz] 28))
      have HB : Hid (Below w.heap.size w ((w.alloc (.cells #[.int .i64 0, .int .i64 ti, .int .i64 tg, .string tn, .string tf, .int .i64 ta, .slice none 0 0, .string ty, .int .i64 tz] 28)).alloc (.cells #[.int .i64 0, .int .i64 ti, .int .i64 tg, .string tn, .string tf, .int .i64 ta, .slice none 0 0, .string ty, .int .i64 tz] 28))) := Lib.hid (((Below.refl _ _).alloc (Nat.le_refl _) _).alloc (by simp) _)
      go_enter Tryz.func134, Tryz.ntmps134
      go_wp2_with fail
      refine bodyPost_ret (results_cell_row rfl _ _ (w.heap.size + 1) _ _ _ _ rfl HN.out Tryz.underlying28 rfl (by kernel_rfl)) rfl ?_
      exact ⟨none, 0, rfl, HB.out⟩
    · have HN := Lib.hid (alloc2_new w (.cells #[.int .i64 0, .int .i64 ti, .int .i64 tg, .string tn, .string tf, .int .i64 ta, .slice so tl.length c, .string ⟨#[]⟩, .int .i64 0] 28) (.cells #[.int .i64 0, .int .i64 ti, .int .i64 tg, .string tn, .string tf, .int .i64 ta, .slice so tl.length c, .string ⟨#[]⟩, .int .i64 0] 28))
      have HB : Hid (Below w.heap.size w ((w.alloc (.cells #[.int .i64 0, .int .i64 ti, .int .i64 tg, .string tn, .string tf, .int .i64 ta, .slice so tl.length c, .string ⟨#[]⟩, .int .i64 0] 28)).alloc (.cells #[.int .i64 0, .int .i64 ti, .int .i64 tg, .string tn, .string tf, .int .i64 ta, .slice so tl.length c, .string ⟨#[]⟩, .int .i64 0] 28))) := Lib.hid (((Below.refl _ _).alloc (Nat.le_refl _) _).alloc (by simp) _)
      go_enter Tryz.func134, Tryz.ntmps134
      go_wp2_with fail
      refine bodyPost_ret (results_cell_row rfl _ _ (w.heap.size + 1) _ _ _ _ rfl HN.out Tryz.underlying28 rfl (by kernel_rfl)) rfl ?_
      exact ⟨so, c, rfl, HB.out⟩
  · have b1 : (tk == 1) = false := beq_eq_false_iff_ne.2 (fun e => h (by omega))
    have b2 : (tk == 2) = false := beq_eq_false_iff_ne.2 (fun e => h (by omega))
    have b3 : (tk == 3) = false := beq_eq_false_iff_ne.2 (fun e => h (by omega))
    have b4 : (tk == 4) = false := beq_eq_false_iff_ne.2 (fun e => h (by omega))
    have b5 : (tk == 5) = false := beq_eq_false_iff_ne.2 (fun e => h (by omega))
    have b6 : (tk == 6) = false := beq_eq_false_iff_ne.2 (fun e => h (by omega))
    have b7 : (tk == 7) = false := beq_eq_false_iff_ne.2 (fun e => h (by omega))
    have b9 : (tk == 9) = false := beq_eq_false_iff_ne.2 (fun e => h (by omega))
    have b10 : (tk == 10) = false := beq_eq_false_iff_ne.2 (fun e => h (by omega))
    have HQ : Hid (leftT (Tm.mk tk ti tg tn tf ta tl ty tz) = Tm.mk tk ti tg tn tf ta tl ty tz) := Lib.hid (by
      simp only [not_or] at h
      obtain ⟨h1, h2, h3, h4, h5, h6, h7, h9, h10⟩ := h
      unfold leftT
      simp only [Tm.kind]
      simp only [h1, h2, h3, h4, h5, h6, h7, h9, h10, if_false, or_self]
      try (split <;> rfl))
    clear h
    have HN := Lib.hid (alloc2_new w (.cells #[.int .i64 0, .int .i64 ti, .int .i64 tg, .string tn, .string tf, .int .i64 ta, .slice so tl.length c, .string ty, .int .i64 tz] 28) (.cells #[.int .i64 0, .int .i64 ti, .int .i64 tg, .string tn, .string tf, .int .i64 ta, .slice so tl.length c, .string ty, .int .i64 tz] 28))
    have HB : Hid (Below w.heap.size w ((w.alloc (.cells #[.int .i64 0, .int .i64 ti, .int .i64 tg, .string tn, .string tf, .int .i64 ta, .slice so tl.length c, .string ty, .int .i64 tz] 28)).alloc (.cells #[.int .i64 0, .int .i64 ti, .int .i64 tg, .string tn, .string tf, .int .i64 ta, .slice so tl.length c, .string ty, .int .i64 tz] 28))) := Lib.hid (((Below.refl _ _).alloc (Nat.le_refl _) _).alloc (by simp) _)
    go_enter Tryz.func134, Tryz.ntmps134
    go_wp2_with fail
    refine bodyPost_ret (results_cell_row rfl _ _ (w.heap.size + 1) _ _ _ _ rfl HN.out Tryz.underlying28 rfl (by kernel_rfl)) rfl ?_
    exact ⟨so, c, by rw [HQ.out]; rfl, HB.out⟩
end Go.Proofs.YthmpobimmbmddaaGreatDoor
