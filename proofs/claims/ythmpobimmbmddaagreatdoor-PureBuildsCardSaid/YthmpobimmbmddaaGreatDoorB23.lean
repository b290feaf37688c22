/-
  The program's field of a bit string: the walks (printed by gen_pfli.py). The program's field of any segment gives what fieldV says.
-/
import Derived.Test.YthmpobimmbmddaaGreatDoorB21
import Derived.Test.YthmpobimmbmddaaGreatDoorB22
namespace Go.Proofs.YthmpobimmbmddaaGreatDoor
open Go.RowKit
set_option linter.unusedVariables false
set_option linter.unusedSimpArgs false

set_option maxRecDepth 100000 in
set_option maxHeartbeats 8000000 in
theorem fld_bits (f : Nat) (tx : ByteArray) (m : List Bool) (sz : Tm) (lt sg : Bool) (hm : m.length ≤ 16384) : FdIs f ⟨2, tx, bitsT m, sz, false, sg, lt⟩ (some m) := by
  intro vo so vc sc w _ _
  have HB := Lib.hid (two_below w (.cells (fdRow ⟨2, tx, bitsT m, sz, false, sg, lt⟩ vo vc so sc) 30) (.cells #[.string ⟨#[]⟩, .int .i64 0] 56))
  have HR := Lib.hid (two1 w (.cells (fdRow ⟨2, tx, bitsT m, sz, false, sg, lt⟩ vo vc so sc) 30) (.cells #[.string ⟨#[]⟩, .int .i64 0] 56))
  have HR0 := Lib.hid (two0 w (.cells (fdRow ⟨2, tx, bitsT m, sz, false, sg, lt⟩ vo vc so sc) 30) (.cells #[.string ⟨#[]⟩, .int .i64 0] 56))
  have HVn := Lib.hid (fun wx => bits_valid m hm vo vc wx)
  have HT := Lib.hid (fun wx => fromterm_any m vo vc hm wx)
  go_enter Tryz.func28, Tryz.ntmps28
  generalize hW : (w.alloc (.cells (fdRow ⟨2, tx, bitsT m, sz, false, sg, lt⟩ vo vc so sc) 30)).alloc (.cells #[.string ⟨#[]⟩, .int .i64 0] 56) = W at *
  have KC : Hid (∀ wx : World, Below W.heap.size W wx → ∀ j, wx.cell? ⟨w.heap.size, j, none⟩ = (fdRow ⟨2, tx, bitsT m, sz, false, sg, lt⟩ vo vc so sc)[j]?) := Lib.hid (fun wx hx j => by rw [cell_of_row _ _ _ _ _ _ ((hx.block _ (lt_of_row HR0.out)).trans HR0.out)])
  have k0 := KC.out W (Below.refl _ _)
  have c0 : W.cell? ⟨w.heap.size, 0, none⟩ = some (.int .i64 2) := k0 0
  have c2 : W.cell? ⟨w.heap.size, 2, none⟩ = some (.int .i64 10) := k0 2
  have c3 : W.cell? ⟨w.heap.size, 3, none⟩ = some (.int .i64 0) := k0 3
  have c4 : W.cell? ⟨w.heap.size, 4, none⟩ = some (.int .i64 0) := k0 4
  have c5 : W.cell? ⟨w.heap.size, 5, none⟩ = some (.string ⟨#[]⟩) := k0 5
  have c6 : W.cell? ⟨w.heap.size, 6, none⟩ = some (.string ⟨#[]⟩) := k0 6
  have c7 : W.cell? ⟨w.heap.size, 7, none⟩ = some (.int .i64 0) := k0 7
  have c8 : W.cell? ⟨w.heap.size, 8, none⟩ = some (.slice vo 0 vc) := k0 8
  have c9 : W.cell? ⟨w.heap.size, 9, none⟩ = some (.string (bstr m)) := k0 9
  have c10 : W.cell? ⟨w.heap.size, 10, none⟩ = some (.int .i64 m.length) := k0 10
  clear k0
  generalize hY : bstr m = y at *
  go_upto_region 12 with (first | (go_at_call 43; (refine (HVn.out _).mono ?_; rintro e w1 ⟨rfl, hb1⟩; have k1 := KC.out w1 hb1; have e0 : w1.cell? ⟨w.heap.size, 0, none⟩ = some (.int .i64 2) := k1 0; have e2 : w1.cell? ⟨w.heap.size, 2, none⟩ = some (.int .i64 10) := k1 2; have e12 : w1.cell? ⟨w.heap.size, 12, none⟩ = some (.int .i64 sz.int) := k1 12; have e20 : w1.cell? ⟨w.heap.size, 20, none⟩ = some (.bool false) := k1 20; clear k1)) | fail)
  clear c0 c2 c3 c4 c5 c6 c7 c8 c9 c10 e0 e2 e12 e20
  have k9 := KC.out w1 hb1
  have c2 : w1.cell? ⟨w.heap.size, 2, none⟩ = some (.int .i64 10) := k9 2
  have c3 : w1.cell? ⟨w.heap.size, 3, none⟩ = some (.int .i64 0) := k9 3
  have c4 : w1.cell? ⟨w.heap.size, 4, none⟩ = some (.int .i64 0) := k9 4
  have c5 : w1.cell? ⟨w.heap.size, 5, none⟩ = some (.string ⟨#[]⟩) := k9 5
  have c6 : w1.cell? ⟨w.heap.size, 6, none⟩ = some (.string ⟨#[]⟩) := k9 6
  have c7 : w1.cell? ⟨w.heap.size, 7, none⟩ = some (.int .i64 0) := k9 7
  have c8 : w1.cell? ⟨w.heap.size, 8, none⟩ = some (.slice vo 0 vc) := k9 8
  have c9 : w1.cell? ⟨w.heap.size, 9, none⟩ = some (.string y) := by rw [k9 9, ← hY]; rfl
  have c10 : w1.cell? ⟨w.heap.size, 10, none⟩ = some (.int .i64 m.length) := k9 10
  clear k9
  go_upto_region 13 with (first | (go_at_call 51; refine (HT.out _).mono ?_; rintro e w4 ⟨rfl, hb4⟩) | fail)
  clear c2 c3 c4 c5 c6 c7 c8 c9 c10
  have hb14 := below_next hb1 hb4
  have hb3 : Below W.heap.size W (w4.alloc (.cells #[.string y, .int .i64 m.length] 56)) := below_next hb14 ((Below.refl _ _).alloc (Nat.le_refl _) _)
  have hr7 := heap_alloc_new w4 (.cells #[.string y, .int .i64 m.length] 56)
  have hns : w.heap.size + 1 ≠ w4.heap.size := by have := hb14.size; have := lt_of_row HR.out; omega
  have hWp : W.heap.size ≤ w4.heap.size := hb14.size
  generalize w4.alloc (.cells #[.string y, .int .i64 m.length] 56) = V at *
  generalize w4.heap.size = p at *
  have K3 := KC.out V hb3
  have d0 : V.cell? ⟨w.heap.size, 0, none⟩ = some (.int .i64 2) := K3 0
  have d20 : V.cell? ⟨w.heap.size, 20, none⟩ = some (.bool false) := K3 20
  clear K3
  have x0 := cell_of_row _ _ 0 _ _ _ hr7
  have x1 := cell_of_row _ _ 1 _ _ _ hr7
  have hr := (hb3.block _ (lt_of_row HR.out)).trans HR.out
  have q0 := cell_of_row _ _ 0 _ _ _ hr
  have q1 := cell_of_row _ _ 1 _ _ _ hr
  have q2 := frozen_of_row _ _ 0 _ _ hr
  have q3 := frozen_of_row _ _ 1 _ _ hr
  have HRV := Lib.hid hr
  have HB3 := Lib.hid hb3
  go_upto_region 17 with fail
  go_region
  go_wp2_with fail
  have HBE : Below w.heap.size w V := HB.out.trans (HB3.out.mono HB.out.size)
  have g1 := heap_setCell_same V (w.heap.size + 1) 0 _ _ (.string y) HRV.out
  have g2 := heap_setCell_same _ (w.heap.size + 1) 1 _ _ (.int .i64 m.length) g1
  refine bodyPost_ret (results_row_tmp rfl _ _ _ (w.heap.size + 1) _ _ _ _ rfl g2 Tryz.underlying56 (by kernel_rfl)) rfl ?_
  exact ⟨by rw [← hY]; rfl, ((HBE.setCell (by show w.heap.size ≤ w.heap.size + 1; omega) _).setCell (by show w.heap.size ≤ w.heap.size + 1; omega) _).drew⟩
set_option maxRecDepth 100000 in
set_option maxHeartbeats 8000000 in
theorem fld_bytes (f : Nat) (tx : ByteArray) (m : List Bool) (sz : Tm) (lt sg : Bool) (hm : m.length ≤ 16384) (h8 : m.length % 8 = 0) : FdIs f ⟨3, tx, bitsT m, sz, false, sg, lt⟩ (some m) := by
  intro vo so vc sc w _ _
  have HB := Lib.hid (two_below w (.cells (fdRow ⟨3, tx, bitsT m, sz, false, sg, lt⟩ vo vc so sc) 30) (.cells #[.string ⟨#[]⟩, .int .i64 0] 56))
  have HR := Lib.hid (two1 w (.cells (fdRow ⟨3, tx, bitsT m, sz, false, sg, lt⟩ vo vc so sc) 30) (.cells #[.string ⟨#[]⟩, .int .i64 0] 56))
  have HR0 := Lib.hid (two0 w (.cells (fdRow ⟨3, tx, bitsT m, sz, false, sg, lt⟩ vo vc so sc) 30) (.cells #[.string ⟨#[]⟩, .int .i64 0] 56))
  have HVn := Lib.hid (fun wx => bits_valid m hm vo vc wx)
  have HT := Lib.hid (fun wx => fromterm_any m vo vc hm wx)
  have t8 : (((m.length : Int)).tmod 8 == 0) = true := beq_iff_eq.2 (by rw [Int.tmod_eq_emod_of_nonneg (by omega)]; omega)
  have t9 : ((m.length : Int) % 8 == 0) = true := beq_iff_eq.2 (by omega)
  clear h8
  go_enter Tryz.func28, Tryz.ntmps28
  generalize hW : (w.alloc (.cells (fdRow ⟨3, tx, bitsT m, sz, false, sg, lt⟩ vo vc so sc) 30)).alloc (.cells #[.string ⟨#[]⟩, .int .i64 0] 56) = W at *
  have KC : Hid (∀ wx : World, Below W.heap.size W wx → ∀ j, wx.cell? ⟨w.heap.size, j, none⟩ = (fdRow ⟨3, tx, bitsT m, sz, false, sg, lt⟩ vo vc so sc)[j]?) := Lib.hid (fun wx hx j => by rw [cell_of_row _ _ _ _ _ _ ((hx.block _ (lt_of_row HR0.out)).trans HR0.out)])
  have k0 := KC.out W (Below.refl _ _)
  have c0 : W.cell? ⟨w.heap.size, 0, none⟩ = some (.int .i64 3) := k0 0
  have c2 : W.cell? ⟨w.heap.size, 2, none⟩ = some (.int .i64 10) := k0 2
  have c3 : W.cell? ⟨w.heap.size, 3, none⟩ = some (.int .i64 0) := k0 3
  have c4 : W.cell? ⟨w.heap.size, 4, none⟩ = some (.int .i64 0) := k0 4
  have c5 : W.cell? ⟨w.heap.size, 5, none⟩ = some (.string ⟨#[]⟩) := k0 5
  have c6 : W.cell? ⟨w.heap.size, 6, none⟩ = some (.string ⟨#[]⟩) := k0 6
  have c7 : W.cell? ⟨w.heap.size, 7, none⟩ = some (.int .i64 0) := k0 7
  have c8 : W.cell? ⟨w.heap.size, 8, none⟩ = some (.slice vo 0 vc) := k0 8
  have c9 : W.cell? ⟨w.heap.size, 9, none⟩ = some (.string (bstr m)) := k0 9
  have c10 : W.cell? ⟨w.heap.size, 10, none⟩ = some (.int .i64 m.length) := k0 10
  clear k0
  generalize hY : bstr m = y at *
  go_upto_region 12 with (first | (go_at_call 43; (refine (HVn.out _).mono ?_; rintro e w1 ⟨rfl, hb1⟩; have k1 := KC.out w1 hb1; have e0 : w1.cell? ⟨w.heap.size, 0, none⟩ = some (.int .i64 3) := k1 0; have e2 : w1.cell? ⟨w.heap.size, 2, none⟩ = some (.int .i64 10) := k1 2; have e12 : w1.cell? ⟨w.heap.size, 12, none⟩ = some (.int .i64 sz.int) := k1 12; have e20 : w1.cell? ⟨w.heap.size, 20, none⟩ = some (.bool false) := k1 20; clear k1)) | fail)
  clear c0 c2 c3 c4 c5 c6 c7 c8 c9 c10 e0 e2 e12 e20
  have k9 := KC.out w1 hb1
  have c2 : w1.cell? ⟨w.heap.size, 2, none⟩ = some (.int .i64 10) := k9 2
  have c3 : w1.cell? ⟨w.heap.size, 3, none⟩ = some (.int .i64 0) := k9 3
  have c4 : w1.cell? ⟨w.heap.size, 4, none⟩ = some (.int .i64 0) := k9 4
  have c5 : w1.cell? ⟨w.heap.size, 5, none⟩ = some (.string ⟨#[]⟩) := k9 5
  have c6 : w1.cell? ⟨w.heap.size, 6, none⟩ = some (.string ⟨#[]⟩) := k9 6
  have c7 : w1.cell? ⟨w.heap.size, 7, none⟩ = some (.int .i64 0) := k9 7
  have c8 : w1.cell? ⟨w.heap.size, 8, none⟩ = some (.slice vo 0 vc) := k9 8
  have c9 : w1.cell? ⟨w.heap.size, 9, none⟩ = some (.string y) := by rw [k9 9, ← hY]; rfl
  have c10 : w1.cell? ⟨w.heap.size, 10, none⟩ = some (.int .i64 m.length) := k9 10
  clear k9
  go_upto_region 13 with (first | (go_at_call 51; refine (HT.out _).mono ?_; rintro e w4 ⟨rfl, hb4⟩) | fail)
  clear c2 c3 c4 c5 c6 c7 c8 c9 c10
  have hb14 := below_next hb1 hb4
  have hb3 : Below W.heap.size W (w4.alloc (.cells #[.string y, .int .i64 m.length] 56)) := below_next hb14 ((Below.refl _ _).alloc (Nat.le_refl _) _)
  have hr7 := heap_alloc_new w4 (.cells #[.string y, .int .i64 m.length] 56)
  have hns : w.heap.size + 1 ≠ w4.heap.size := by have := hb14.size; have := lt_of_row HR.out; omega
  have hWp : W.heap.size ≤ w4.heap.size := hb14.size
  generalize w4.alloc (.cells #[.string y, .int .i64 m.length] 56) = V at *
  generalize w4.heap.size = p at *
  have K3 := KC.out V hb3
  have d0 : V.cell? ⟨w.heap.size, 0, none⟩ = some (.int .i64 3) := K3 0
  have d20 : V.cell? ⟨w.heap.size, 20, none⟩ = some (.bool false) := K3 20
  clear K3
  have x0 := cell_of_row _ _ 0 _ _ _ hr7
  have x1 := cell_of_row _ _ 1 _ _ _ hr7
  have hr := (hb3.block _ (lt_of_row HR.out)).trans HR.out
  have q0 := cell_of_row _ _ 0 _ _ _ hr
  have q1 := cell_of_row _ _ 1 _ _ _ hr
  have q2 := frozen_of_row _ _ 0 _ _ hr
  have q3 := frozen_of_row _ _ 1 _ _ hr
  have HRV := Lib.hid hr
  have HB3 := Lib.hid hb3
  go_upto_region 17 with fail
  go_region
  go_wp2_with fail
  have HBE : Below w.heap.size w V := HB.out.trans (HB3.out.mono HB.out.size)
  have g1 := heap_setCell_same V (w.heap.size + 1) 0 _ _ (.string y) HRV.out
  have g2 := heap_setCell_same _ (w.heap.size + 1) 1 _ _ (.int .i64 m.length) g1
  refine bodyPost_ret (results_row_tmp rfl _ _ _ (w.heap.size + 1) _ _ _ _ rfl g2 Tryz.underlying56 (by kernel_rfl)) rfl ?_
  exact ⟨by rw [← hY]; rfl, ((HBE.setCell (by show w.heap.size ≤ w.heap.size + 1; omega) _).setCell (by show w.heap.size ≤ w.heap.size + 1; omega) _).drew⟩
set_option maxRecDepth 100000 in
set_option maxHeartbeats 8000000 in
theorem fld_bytes_odd (f : Nat) (tx : ByteArray) (m : List Bool) (sz : Tm) (lt sg : Bool) (hm : m.length ≤ 16384) (h8 : m.length % 8 ≠ 0) : FdIs f ⟨3, tx, bitsT m, sz, false, sg, lt⟩ none := by
  intro vo so vc sc w _ _
  have HB := Lib.hid (two_below w (.cells (fdRow ⟨3, tx, bitsT m, sz, false, sg, lt⟩ vo vc so sc) 30) (.cells #[.string ⟨#[]⟩, .int .i64 0] 56))
  have HR := Lib.hid (two1 w (.cells (fdRow ⟨3, tx, bitsT m, sz, false, sg, lt⟩ vo vc so sc) 30) (.cells #[.string ⟨#[]⟩, .int .i64 0] 56))
  have HR0 := Lib.hid (two0 w (.cells (fdRow ⟨3, tx, bitsT m, sz, false, sg, lt⟩ vo vc so sc) 30) (.cells #[.string ⟨#[]⟩, .int .i64 0] 56))
  have HVn := Lib.hid (fun wx => bits_valid m hm vo vc wx)
  have HT := Lib.hid (fun wx => fromterm_any m vo vc hm wx)
  have t8 : (((m.length : Int)).tmod 8 == 0) = false := beq_eq_false_iff_ne.2 (by rw [Int.tmod_eq_emod_of_nonneg (by omega)]; omega)
  have t9 : ((m.length : Int) % 8 == 0) = false := beq_eq_false_iff_ne.2 (by omega)
  clear h8
  go_enter Tryz.func28, Tryz.ntmps28
  generalize hW : (w.alloc (.cells (fdRow ⟨3, tx, bitsT m, sz, false, sg, lt⟩ vo vc so sc) 30)).alloc (.cells #[.string ⟨#[]⟩, .int .i64 0] 56) = W at *
  have KC : Hid (∀ wx : World, Below W.heap.size W wx → ∀ j, wx.cell? ⟨w.heap.size, j, none⟩ = (fdRow ⟨3, tx, bitsT m, sz, false, sg, lt⟩ vo vc so sc)[j]?) := Lib.hid (fun wx hx j => by rw [cell_of_row _ _ _ _ _ _ ((hx.block _ (lt_of_row HR0.out)).trans HR0.out)])
  have k0 := KC.out W (Below.refl _ _)
  have c0 : W.cell? ⟨w.heap.size, 0, none⟩ = some (.int .i64 3) := k0 0
  have c2 : W.cell? ⟨w.heap.size, 2, none⟩ = some (.int .i64 10) := k0 2
  have c3 : W.cell? ⟨w.heap.size, 3, none⟩ = some (.int .i64 0) := k0 3
  have c4 : W.cell? ⟨w.heap.size, 4, none⟩ = some (.int .i64 0) := k0 4
  have c5 : W.cell? ⟨w.heap.size, 5, none⟩ = some (.string ⟨#[]⟩) := k0 5
  have c6 : W.cell? ⟨w.heap.size, 6, none⟩ = some (.string ⟨#[]⟩) := k0 6
  have c7 : W.cell? ⟨w.heap.size, 7, none⟩ = some (.int .i64 0) := k0 7
  have c8 : W.cell? ⟨w.heap.size, 8, none⟩ = some (.slice vo 0 vc) := k0 8
  have c9 : W.cell? ⟨w.heap.size, 9, none⟩ = some (.string (bstr m)) := k0 9
  have c10 : W.cell? ⟨w.heap.size, 10, none⟩ = some (.int .i64 m.length) := k0 10
  clear k0
  generalize hY : bstr m = y at *
  go_upto_region 12 with (first | (go_at_call 43; (refine (HVn.out _).mono ?_; rintro e w1 ⟨rfl, hb1⟩; have k1 := KC.out w1 hb1; have e0 : w1.cell? ⟨w.heap.size, 0, none⟩ = some (.int .i64 3) := k1 0; have e2 : w1.cell? ⟨w.heap.size, 2, none⟩ = some (.int .i64 10) := k1 2; have e12 : w1.cell? ⟨w.heap.size, 12, none⟩ = some (.int .i64 sz.int) := k1 12; have e20 : w1.cell? ⟨w.heap.size, 20, none⟩ = some (.bool false) := k1 20; clear k1)) | fail)
  clear c0 c2 c3 c4 c5 c6 c7 c8 c9 c10 e0 e2 e12 e20
  have k9 := KC.out w1 hb1
  have c2 : w1.cell? ⟨w.heap.size, 2, none⟩ = some (.int .i64 10) := k9 2
  have c3 : w1.cell? ⟨w.heap.size, 3, none⟩ = some (.int .i64 0) := k9 3
  have c4 : w1.cell? ⟨w.heap.size, 4, none⟩ = some (.int .i64 0) := k9 4
  have c5 : w1.cell? ⟨w.heap.size, 5, none⟩ = some (.string ⟨#[]⟩) := k9 5
  have c6 : w1.cell? ⟨w.heap.size, 6, none⟩ = some (.string ⟨#[]⟩) := k9 6
  have c7 : w1.cell? ⟨w.heap.size, 7, none⟩ = some (.int .i64 0) := k9 7
  have c8 : w1.cell? ⟨w.heap.size, 8, none⟩ = some (.slice vo 0 vc) := k9 8
  have c9 : w1.cell? ⟨w.heap.size, 9, none⟩ = some (.string y) := by rw [k9 9, ← hY]; rfl
  have c10 : w1.cell? ⟨w.heap.size, 10, none⟩ = some (.int .i64 m.length) := k9 10
  clear k9
  go_upto_region 13 with (first | (go_at_call 51; refine (HT.out _).mono ?_; rintro e w4 ⟨rfl, hb4⟩) | fail)
  clear c2 c3 c4 c5 c6 c7 c8 c9 c10
  have hb14 := below_next hb1 hb4
  have hb3 : Below W.heap.size W (w4.alloc (.cells #[.string y, .int .i64 m.length] 56)) := below_next hb14 ((Below.refl _ _).alloc (Nat.le_refl _) _)
  have hr7 := heap_alloc_new w4 (.cells #[.string y, .int .i64 m.length] 56)
  have hns : w.heap.size + 1 ≠ w4.heap.size := by have := hb14.size; have := lt_of_row HR.out; omega
  have hWp : W.heap.size ≤ w4.heap.size := hb14.size
  generalize w4.alloc (.cells #[.string y, .int .i64 m.length] 56) = V at *
  generalize w4.heap.size = p at *
  have K3 := KC.out V hb3
  have d0 : V.cell? ⟨w.heap.size, 0, none⟩ = some (.int .i64 3) := K3 0
  have d20 : V.cell? ⟨w.heap.size, 20, none⟩ = some (.bool false) := K3 20
  clear K3
  have x0 := cell_of_row _ _ 0 _ _ _ hr7
  have x1 := cell_of_row _ _ 1 _ _ _ hr7
  have hr := (hb3.block _ (lt_of_row HR.out)).trans HR.out
  have q0 := cell_of_row _ _ 0 _ _ _ hr
  have q1 := cell_of_row _ _ 1 _ _ _ hr
  have q2 := frozen_of_row _ _ 0 _ _ hr
  have q3 := frozen_of_row _ _ 1 _ _ hr
  have HRV := Lib.hid hr
  have HB3 := Lib.hid hb3
  go_upto_region 17 with fail
  go_region
  go_wp2_with fail
  have HBE : Below w.heap.size w V := HB.out.trans (HB3.out.mono HB.out.size)
  have g1 := heap_setCell_same V (w.heap.size + 1) 0 _ _ (.string y) HRV.out
  have g2 := heap_setCell_same _ (w.heap.size + 1) 1 _ _ (.int .i64 m.length) g1
  refine bodyPost_ret (results_row_tmp rfl _ _ _ (w.heap.size + 1) _ _ _ _ rfl g2 Tryz.underlying56 (by kernel_rfl)) rfl ?_
  exact ⟨⟨_, _, rfl⟩, ((HBE.setCell (by show w.heap.size ≤ w.heap.size + 1; omega) _).setCell (by show w.heap.size ≤ w.heap.size + 1; omega) _).drew⟩
set_option maxRecDepth 100000 in
set_option maxHeartbeats 8000000 in
theorem fld_cut2 (f : Nat) (tx : ByteArray) (m : List Bool) (k : Nat) (lt sg : Bool) (hm : m.length ≤ 16384) (hk : k ≤ 16384) (hkm : k ≤ m.length) : FdIs f ⟨2, tx, bitsT m, intT k, true, sg, lt⟩ (some (sub (bitsL (bstr m).data.toList) 0 k)) := by
  intro vo so vc sc w _ _
  have HB := Lib.hid (two_below w (.cells (fdRow ⟨2, tx, bitsT m, intT k, true, sg, lt⟩ vo vc so sc) 30) (.cells #[.string ⟨#[]⟩, .int .i64 0] 56))
  have HR := Lib.hid (two1 w (.cells (fdRow ⟨2, tx, bitsT m, intT k, true, sg, lt⟩ vo vc so sc) 30) (.cells #[.string ⟨#[]⟩, .int .i64 0] 56))
  have HR0 := Lib.hid (two0 w (.cells (fdRow ⟨2, tx, bitsT m, intT k, true, sg, lt⟩ vo vc so sc) 30) (.cells #[.string ⟨#[]⟩, .int .i64 0] 56))
  have HVn := Lib.hid (fun wx => bits_valid m hm vo vc wx)
  have HT := Lib.hid (fun wx => fromterm_any m vo vc hm wx)
  have HVk := Lib.hid (fun wx => int_valid k so sc wx (by unfold I64; omega))
  have HC : Hid (∀ wx, Calls Tryz.prog 52 #[.agg #[.string (bstr m), .int .i64 m.length], .int .i64 0, .int .i64 ((k : Int))] wx fun e w' => e = .returned (.tuple #[.agg #[.string (bstr (sub (bitsL (bstr m).data.toList) 0 k)), .int .i64 ((k : Int))], .int .i64 0]) ∧ Below wx.heap.size wx w') := Lib.hid (fun wx => cut_any m hm k hkm wx)
  have hk2 : (k : Int) ≤ 16384 := by omega
  have HSL := Lib.hid (sub_len (bitsL (bstr m).data.toList) 0 k (by rw [bits_size, bstr_size]; omega))
  have HX := Lib.hid (show sub (bitsL (bstr m).data.toList) 0 k = sub (bitsL (bstr m).data.toList) 0 k from rfl)
  obtain ⟨X, hX⟩ : ∃ X, X = sub (bitsL (bstr m).data.toList) 0 k := ⟨_, rfl⟩
  rw [← hX] at HC HSL ⊢
  clear HX hX
  clear hkm
  go_enter Tryz.func28, Tryz.ntmps28
  generalize hW : (w.alloc (.cells (fdRow ⟨2, tx, bitsT m, intT k, true, sg, lt⟩ vo vc so sc) 30)).alloc (.cells #[.string ⟨#[]⟩, .int .i64 0] 56) = W at *
  have KC : Hid (∀ wx : World, Below W.heap.size W wx → ∀ j, wx.cell? ⟨w.heap.size, j, none⟩ = (fdRow ⟨2, tx, bitsT m, intT k, true, sg, lt⟩ vo vc so sc)[j]?) := Lib.hid (fun wx hx j => by rw [cell_of_row _ _ _ _ _ _ ((hx.block _ (lt_of_row HR0.out)).trans HR0.out)])
  have k0 := KC.out W (Below.refl _ _)
  have c0 : W.cell? ⟨w.heap.size, 0, none⟩ = some (.int .i64 2) := k0 0
  have c2 : W.cell? ⟨w.heap.size, 2, none⟩ = some (.int .i64 10) := k0 2
  have c3 : W.cell? ⟨w.heap.size, 3, none⟩ = some (.int .i64 0) := k0 3
  have c4 : W.cell? ⟨w.heap.size, 4, none⟩ = some (.int .i64 0) := k0 4
  have c5 : W.cell? ⟨w.heap.size, 5, none⟩ = some (.string ⟨#[]⟩) := k0 5
  have c6 : W.cell? ⟨w.heap.size, 6, none⟩ = some (.string ⟨#[]⟩) := k0 6
  have c7 : W.cell? ⟨w.heap.size, 7, none⟩ = some (.int .i64 0) := k0 7
  have c8 : W.cell? ⟨w.heap.size, 8, none⟩ = some (.slice vo 0 vc) := k0 8
  have c9 : W.cell? ⟨w.heap.size, 9, none⟩ = some (.string (bstr m)) := k0 9
  have c10 : W.cell? ⟨w.heap.size, 10, none⟩ = some (.int .i64 m.length) := k0 10
  clear k0
  generalize hY : bstr m = y at *
  go_upto_region 12 with (first | (go_at_call 43; (first | (refine (HVn.out _).mono ?_; rintro e w1 ⟨rfl, hb1⟩; have k1 := KC.out w1 hb1; have d20 : w1.cell? ⟨w.heap.size, 20, none⟩ = some (.bool true) := k1 20; have d11 : w1.cell? ⟨w.heap.size, 11, none⟩ = some (.int .i64 1) := k1 11; have d12 : w1.cell? ⟨w.heap.size, 12, none⟩ = some (.int .i64 k) := k1 12; have d13 : w1.cell? ⟨w.heap.size, 13, none⟩ = some (.int .i64 0) := k1 13; have d14 : w1.cell? ⟨w.heap.size, 14, none⟩ = some (.string ⟨#[]⟩) := k1 14; have d15 : w1.cell? ⟨w.heap.size, 15, none⟩ = some (.string ⟨#[]⟩) := k1 15; have d16 : w1.cell? ⟨w.heap.size, 16, none⟩ = some (.int .i64 0) := k1 16; have d17 : w1.cell? ⟨w.heap.size, 17, none⟩ = some (.slice so 0 sc) := k1 17; have d18 : w1.cell? ⟨w.heap.size, 18, none⟩ = some (.string ⟨#[]⟩) := k1 18; have d19 : w1.cell? ⟨w.heap.size, 19, none⟩ = some (.int .i64 0) := k1 19; clear k1) | (refine (HVk.out _).mono ?_; rintro e w2 ⟨rfl, hb2⟩; have hb12 := below_next hb1 hb2; have k2 := KC.out w2 hb12; have e0 : w2.cell? ⟨w.heap.size, 0, none⟩ = some (.int .i64 2) := k2 0; have e2 : w2.cell? ⟨w.heap.size, 2, none⟩ = some (.int .i64 10) := k2 2; have e12 : w2.cell? ⟨w.heap.size, 12, none⟩ = some (.int .i64 k) := k2 12; have e20 : w2.cell? ⟨w.heap.size, 20, none⟩ = some (.bool true) := k2 20; clear k2))) | fail)
  clear c0 c2 c3 c4 c5 c6 c7 c8 c9 c10 e0 e2 e12 e20 d11 d12 d13 d14 d15 d16 d17 d18 d19 d20
  have k9 := KC.out w2 hb12
  have c2 : w2.cell? ⟨w.heap.size, 2, none⟩ = some (.int .i64 10) := k9 2
  have c3 : w2.cell? ⟨w.heap.size, 3, none⟩ = some (.int .i64 0) := k9 3
  have c4 : w2.cell? ⟨w.heap.size, 4, none⟩ = some (.int .i64 0) := k9 4
  have c5 : w2.cell? ⟨w.heap.size, 5, none⟩ = some (.string ⟨#[]⟩) := k9 5
  have c6 : w2.cell? ⟨w.heap.size, 6, none⟩ = some (.string ⟨#[]⟩) := k9 6
  have c7 : w2.cell? ⟨w.heap.size, 7, none⟩ = some (.int .i64 0) := k9 7
  have c8 : w2.cell? ⟨w.heap.size, 8, none⟩ = some (.slice vo 0 vc) := k9 8
  have c9 : w2.cell? ⟨w.heap.size, 9, none⟩ = some (.string y) := by rw [k9 9, ← hY]; rfl
  have c10 : w2.cell? ⟨w.heap.size, 10, none⟩ = some (.int .i64 m.length) := k9 10
  clear k9
  go_upto_region 13 with (first | (go_at_call 51; refine (HT.out _).mono ?_; rintro e w4 ⟨rfl, hb4⟩) | fail)
  clear c2 c3 c4 c5 c6 c7 c8 c9 c10
  have hb14 := below_next hb12 hb4
  have hb3 : Below W.heap.size W (w4.alloc (.cells #[.string y, .int .i64 m.length] 56)) := below_next hb14 ((Below.refl _ _).alloc (Nat.le_refl _) _)
  have hr7 := heap_alloc_new w4 (.cells #[.string y, .int .i64 m.length] 56)
  have hns : w.heap.size + 1 ≠ w4.heap.size := by have := hb14.size; have := lt_of_row HR.out; omega
  have hWp : W.heap.size ≤ w4.heap.size := hb14.size
  generalize w4.alloc (.cells #[.string y, .int .i64 m.length] 56) = V at *
  generalize w4.heap.size = p at *
  have K3 := KC.out V hb3
  have d0 : V.cell? ⟨w.heap.size, 0, none⟩ = some (.int .i64 2) := K3 0
  have d20 : V.cell? ⟨w.heap.size, 20, none⟩ = some (.bool true) := K3 20
  clear K3
  have H7 := Lib.hid hr7
  have HBV := Lib.hid hb3
  clear hb3 hr7 hb4 hb14
  go_upto_region 19 with (first | (refine wpList_load_row rfl 56 _ rfl p rfl 56 #[.string y, .int .i64 m.length] _ _ H7.out Tryz.underlying56 rfl (by kernel_rfl) ?_) | (go_at_call 52; refine (HC.out _).mono ?_; rintro e w5 ⟨rfl, hb5⟩; have hr5 := (hb5.block _ (lt_of_row H7.out)).trans H7.out) | (refine wpList_store_row rfl 56 _ _ rfl p _ rfl rfl 56 _ hr5 (by kernel_rfl) rfl (by simp [Value.oneCell']) ?_) | fail)
  have hr7 := setRow_heap w5 p _ #[.string (bstr X), .int .i64 ((k : Int))] _ _ hr5
  have hb3 : Below W.heap.size W (w5.setRow p #[.string (bstr X), .int .i64 ((k : Int))]) := below_setRow (below_next HBV.out hb5) hWp _
  clear d0 d20 hb5 hr5
  generalize w5.setRow p #[.string (bstr X), .int .i64 ((k : Int))] = V at *
  have hr := (hb3.block _ (lt_of_row HR.out)).trans HR.out
  have H8 := Lib.hid hr7
  have HBE : Hid (Below w.heap.size w V) := Lib.hid (HB.out.trans (hb3.mono HB.out.size))
  clear hr7 hb3
  go_wp2_with (first | (refine wpList_load_row rfl 56 _ rfl p rfl 56 #[.string (bstr X), .int .i64 ((k : Int))] _ _ H8.out Tryz.underlying56 rfl (by kernel_rfl) ?_) | (refine wpList_store_row rfl 56 _ _ rfl (w.heap.size + 1) _ rfl rfl 56 _ hr (by kernel_rfl) rfl (by simp [Value.oneCell']) ?_) | fail)
  refine bodyPost_ret (results_row_tmp rfl _ _ _ (w.heap.size + 1) _ _ _ _ rfl (setRow_heap _ _ _ #[.string (bstr X), .int .i64 ((k : Int))] _ _ hr) Tryz.underlying56 (by kernel_rfl)) rfl ?_
  exact ⟨by show _ = Ending.returned (.tuple #[.agg #[.string (bstr X), .int .i64 X.length], .bool true]); rw [HSL.out]; rfl, below_setRow HBE.out (by omega) _⟩
set_option maxRecDepth 100000 in
set_option maxHeartbeats 8000000 in
theorem fld_cut2_no (f : Nat) (tx : ByteArray) (m : List Bool) (k : Nat) (lt sg : Bool) (hm : m.length ≤ 16384) (hk : k ≤ 16384) (hkm : m.length < k) : FdIs f ⟨2, tx, bitsT m, intT k, true, sg, lt⟩ none := by
  intro vo so vc sc w _ _
  have HB := Lib.hid (two_below w (.cells (fdRow ⟨2, tx, bitsT m, intT k, true, sg, lt⟩ vo vc so sc) 30) (.cells #[.string ⟨#[]⟩, .int .i64 0] 56))
  have HR := Lib.hid (two1 w (.cells (fdRow ⟨2, tx, bitsT m, intT k, true, sg, lt⟩ vo vc so sc) 30) (.cells #[.string ⟨#[]⟩, .int .i64 0] 56))
  have HR0 := Lib.hid (two0 w (.cells (fdRow ⟨2, tx, bitsT m, intT k, true, sg, lt⟩ vo vc so sc) 30) (.cells #[.string ⟨#[]⟩, .int .i64 0] 56))
  have HVn := Lib.hid (fun wx => bits_valid m hm vo vc wx)
  have HT := Lib.hid (fun wx => fromterm_any m vo vc hm wx)
  have HVk := Lib.hid (fun wx => int_valid k so sc wx (by unfold I64; omega))
  have HC : Hid (∀ wx, Calls Tryz.prog 52 #[.agg #[.string (bstr m), .int .i64 m.length], .int .i64 0, .int .i64 ((k : Int))] wx fun e w' => e = .returned (.tuple #[.agg #[.string ⟨#[]⟩, .int .i64 0], .int .i64 2]) ∧ Below wx.heap.size wx w') := Lib.hid (fun wx => cut_no m hm ((k : Int)) (by omega) (by omega) wx)
  have hk2 : (k : Int) ≤ 16384 := by omega
  clear hkm
  go_enter Tryz.func28, Tryz.ntmps28
  generalize hW : (w.alloc (.cells (fdRow ⟨2, tx, bitsT m, intT k, true, sg, lt⟩ vo vc so sc) 30)).alloc (.cells #[.string ⟨#[]⟩, .int .i64 0] 56) = W at *
  have KC : Hid (∀ wx : World, Below W.heap.size W wx → ∀ j, wx.cell? ⟨w.heap.size, j, none⟩ = (fdRow ⟨2, tx, bitsT m, intT k, true, sg, lt⟩ vo vc so sc)[j]?) := Lib.hid (fun wx hx j => by rw [cell_of_row _ _ _ _ _ _ ((hx.block _ (lt_of_row HR0.out)).trans HR0.out)])
  have k0 := KC.out W (Below.refl _ _)
  have c0 : W.cell? ⟨w.heap.size, 0, none⟩ = some (.int .i64 2) := k0 0
  have c2 : W.cell? ⟨w.heap.size, 2, none⟩ = some (.int .i64 10) := k0 2
  have c3 : W.cell? ⟨w.heap.size, 3, none⟩ = some (.int .i64 0) := k0 3
  have c4 : W.cell? ⟨w.heap.size, 4, none⟩ = some (.int .i64 0) := k0 4
  have c5 : W.cell? ⟨w.heap.size, 5, none⟩ = some (.string ⟨#[]⟩) := k0 5
  have c6 : W.cell? ⟨w.heap.size, 6, none⟩ = some (.string ⟨#[]⟩) := k0 6
  have c7 : W.cell? ⟨w.heap.size, 7, none⟩ = some (.int .i64 0) := k0 7
  have c8 : W.cell? ⟨w.heap.size, 8, none⟩ = some (.slice vo 0 vc) := k0 8
  have c9 : W.cell? ⟨w.heap.size, 9, none⟩ = some (.string (bstr m)) := k0 9
  have c10 : W.cell? ⟨w.heap.size, 10, none⟩ = some (.int .i64 m.length) := k0 10
  clear k0
  generalize hY : bstr m = y at *
  go_upto_region 12 with (first | (go_at_call 43; (first | (refine (HVn.out _).mono ?_; rintro e w1 ⟨rfl, hb1⟩; have k1 := KC.out w1 hb1; have d20 : w1.cell? ⟨w.heap.size, 20, none⟩ = some (.bool true) := k1 20; have d11 : w1.cell? ⟨w.heap.size, 11, none⟩ = some (.int .i64 1) := k1 11; have d12 : w1.cell? ⟨w.heap.size, 12, none⟩ = some (.int .i64 k) := k1 12; have d13 : w1.cell? ⟨w.heap.size, 13, none⟩ = some (.int .i64 0) := k1 13; have d14 : w1.cell? ⟨w.heap.size, 14, none⟩ = some (.string ⟨#[]⟩) := k1 14; have d15 : w1.cell? ⟨w.heap.size, 15, none⟩ = some (.string ⟨#[]⟩) := k1 15; have d16 : w1.cell? ⟨w.heap.size, 16, none⟩ = some (.int .i64 0) := k1 16; have d17 : w1.cell? ⟨w.heap.size, 17, none⟩ = some (.slice so 0 sc) := k1 17; have d18 : w1.cell? ⟨w.heap.size, 18, none⟩ = some (.string ⟨#[]⟩) := k1 18; have d19 : w1.cell? ⟨w.heap.size, 19, none⟩ = some (.int .i64 0) := k1 19; clear k1) | (refine (HVk.out _).mono ?_; rintro e w2 ⟨rfl, hb2⟩; have hb12 := below_next hb1 hb2; have k2 := KC.out w2 hb12; have e0 : w2.cell? ⟨w.heap.size, 0, none⟩ = some (.int .i64 2) := k2 0; have e2 : w2.cell? ⟨w.heap.size, 2, none⟩ = some (.int .i64 10) := k2 2; have e12 : w2.cell? ⟨w.heap.size, 12, none⟩ = some (.int .i64 k) := k2 12; have e20 : w2.cell? ⟨w.heap.size, 20, none⟩ = some (.bool true) := k2 20; clear k2))) | fail)
  clear c0 c2 c3 c4 c5 c6 c7 c8 c9 c10 e0 e2 e12 e20 d11 d12 d13 d14 d15 d16 d17 d18 d19 d20
  have k9 := KC.out w2 hb12
  have c2 : w2.cell? ⟨w.heap.size, 2, none⟩ = some (.int .i64 10) := k9 2
  have c3 : w2.cell? ⟨w.heap.size, 3, none⟩ = some (.int .i64 0) := k9 3
  have c4 : w2.cell? ⟨w.heap.size, 4, none⟩ = some (.int .i64 0) := k9 4
  have c5 : w2.cell? ⟨w.heap.size, 5, none⟩ = some (.string ⟨#[]⟩) := k9 5
  have c6 : w2.cell? ⟨w.heap.size, 6, none⟩ = some (.string ⟨#[]⟩) := k9 6
  have c7 : w2.cell? ⟨w.heap.size, 7, none⟩ = some (.int .i64 0) := k9 7
  have c8 : w2.cell? ⟨w.heap.size, 8, none⟩ = some (.slice vo 0 vc) := k9 8
  have c9 : w2.cell? ⟨w.heap.size, 9, none⟩ = some (.string y) := by rw [k9 9, ← hY]; rfl
  have c10 : w2.cell? ⟨w.heap.size, 10, none⟩ = some (.int .i64 m.length) := k9 10
  clear k9
  go_upto_region 13 with (first | (go_at_call 51; refine (HT.out _).mono ?_; rintro e w4 ⟨rfl, hb4⟩) | fail)
  clear c2 c3 c4 c5 c6 c7 c8 c9 c10
  have hb14 := below_next hb12 hb4
  have hb3 : Below W.heap.size W (w4.alloc (.cells #[.string y, .int .i64 m.length] 56)) := below_next hb14 ((Below.refl _ _).alloc (Nat.le_refl _) _)
  have hr7 := heap_alloc_new w4 (.cells #[.string y, .int .i64 m.length] 56)
  have hns : w.heap.size + 1 ≠ w4.heap.size := by have := hb14.size; have := lt_of_row HR.out; omega
  have hWp : W.heap.size ≤ w4.heap.size := hb14.size
  generalize w4.alloc (.cells #[.string y, .int .i64 m.length] 56) = V at *
  generalize w4.heap.size = p at *
  have K3 := KC.out V hb3
  have d0 : V.cell? ⟨w.heap.size, 0, none⟩ = some (.int .i64 2) := K3 0
  have d20 : V.cell? ⟨w.heap.size, 20, none⟩ = some (.bool true) := K3 20
  clear K3
  have H7 := Lib.hid hr7
  have HBV := Lib.hid hb3
  clear hb3 hr7 hb4 hb14
  go_upto_region 19 with (first | (refine wpList_load_row rfl 56 _ rfl p rfl 56 #[.string y, .int .i64 m.length] _ _ H7.out Tryz.underlying56 rfl (by kernel_rfl) ?_) | (go_at_call 52; refine (HC.out _).mono ?_; rintro e w5 ⟨rfl, hb5⟩; have hr5 := (hb5.block _ (lt_of_row H7.out)).trans H7.out) | (refine wpList_store_row rfl 56 _ _ rfl p _ rfl rfl 56 _ hr5 (by kernel_rfl) rfl (by simp [Value.oneCell']) ?_) | fail)
  have hr7 := setRow_heap w5 p _ #[.string ⟨#[]⟩, .int .i64 (0)] _ _ hr5
  have hb3 : Below W.heap.size W (w5.setRow p #[.string ⟨#[]⟩, .int .i64 (0)]) := below_setRow (below_next HBV.out hb5) hWp _
  clear d0 d20 hb5 hr5
  generalize w5.setRow p #[.string ⟨#[]⟩, .int .i64 (0)] = V at *
  have hr := (hb3.block _ (lt_of_row HR.out)).trans HR.out
  have H8 := Lib.hid hr7
  have HBE : Hid (Below w.heap.size w V) := Lib.hid (HB.out.trans (hb3.mono HB.out.size))
  clear hr7 hb3
  go_wp2_with (first | (refine wpList_load_row rfl 56 _ rfl p rfl 56 #[.string ⟨#[]⟩, .int .i64 (0)] _ _ H8.out Tryz.underlying56 rfl (by kernel_rfl) ?_) | (refine wpList_store_row rfl 56 _ _ rfl (w.heap.size + 1) _ rfl rfl 56 _ hr (by kernel_rfl) rfl (by simp [Value.oneCell']) ?_) | fail)
  refine bodyPost_ret (results_row_tmp rfl _ _ _ (w.heap.size + 1) _ _ _ _ rfl (setRow_heap _ _ _ #[.string ⟨#[]⟩, .int .i64 (0)] _ _ hr) Tryz.underlying56 (by kernel_rfl)) rfl ?_
  exact ⟨⟨_, _, rfl⟩, below_setRow HBE.out (by omega) _⟩
set_option maxRecDepth 100000 in
set_option maxHeartbeats 8000000 in
theorem fld_cut3 (f : Nat) (tx : ByteArray) (m : List Bool) (k : Nat) (lt sg : Bool) (hm : m.length ≤ 16384) (hk : k ≤ 16384) (hkm : (k * 8) ≤ m.length) : FdIs f ⟨3, tx, bitsT m, intT k, true, sg, lt⟩ (some (sub (bitsL (bstr m).data.toList) 0 (k * 8))) := by
  intro vo so vc sc w _ _
  have HB := Lib.hid (two_below w (.cells (fdRow ⟨3, tx, bitsT m, intT k, true, sg, lt⟩ vo vc so sc) 30) (.cells #[.string ⟨#[]⟩, .int .i64 0] 56))
  have HR := Lib.hid (two1 w (.cells (fdRow ⟨3, tx, bitsT m, intT k, true, sg, lt⟩ vo vc so sc) 30) (.cells #[.string ⟨#[]⟩, .int .i64 0] 56))
  have HR0 := Lib.hid (two0 w (.cells (fdRow ⟨3, tx, bitsT m, intT k, true, sg, lt⟩ vo vc so sc) 30) (.cells #[.string ⟨#[]⟩, .int .i64 0] 56))
  have HVn := Lib.hid (fun wx => bits_valid m hm vo vc wx)
  have HT := Lib.hid (fun wx => fromterm_any m vo vc hm wx)
  have HVk := Lib.hid (fun wx => int_valid k so sc wx (by unfold I64; omega))
  have HC : Hid (∀ wx, Calls Tryz.prog 52 #[.agg #[.string (bstr m), .int .i64 m.length], .int .i64 0, .int .i64 ((k : Int) * 8)] wx fun e w' => e = .returned (.tuple #[.agg #[.string (bstr (sub (bitsL (bstr m).data.toList) 0 (k * 8))), .int .i64 ((k : Int) * 8)], .int .i64 0]) ∧ Below wx.heap.size wx w') := Lib.hid (fun wx => cut_any m hm (k * 8) hkm wx)
  have hk2 : (k : Int) ≤ 16384 := by omega
  have HSL := Lib.hid (sub_len (bitsL (bstr m).data.toList) 0 (k * 8) (by rw [bits_size, bstr_size]; omega))
  have HX := Lib.hid (show sub (bitsL (bstr m).data.toList) 0 (k * 8) = sub (bitsL (bstr m).data.toList) 0 (k * 8) from rfl)
  obtain ⟨X, hX⟩ : ∃ X, X = sub (bitsL (bstr m).data.toList) 0 (k * 8) := ⟨_, rfl⟩
  rw [← hX] at HC HSL ⊢
  clear HX hX
  clear hkm
  go_enter Tryz.func28, Tryz.ntmps28
  generalize hW : (w.alloc (.cells (fdRow ⟨3, tx, bitsT m, intT k, true, sg, lt⟩ vo vc so sc) 30)).alloc (.cells #[.string ⟨#[]⟩, .int .i64 0] 56) = W at *
  have KC : Hid (∀ wx : World, Below W.heap.size W wx → ∀ j, wx.cell? ⟨w.heap.size, j, none⟩ = (fdRow ⟨3, tx, bitsT m, intT k, true, sg, lt⟩ vo vc so sc)[j]?) := Lib.hid (fun wx hx j => by rw [cell_of_row _ _ _ _ _ _ ((hx.block _ (lt_of_row HR0.out)).trans HR0.out)])
  have k0 := KC.out W (Below.refl _ _)
  have c0 : W.cell? ⟨w.heap.size, 0, none⟩ = some (.int .i64 3) := k0 0
  have c2 : W.cell? ⟨w.heap.size, 2, none⟩ = some (.int .i64 10) := k0 2
  have c3 : W.cell? ⟨w.heap.size, 3, none⟩ = some (.int .i64 0) := k0 3
  have c4 : W.cell? ⟨w.heap.size, 4, none⟩ = some (.int .i64 0) := k0 4
  have c5 : W.cell? ⟨w.heap.size, 5, none⟩ = some (.string ⟨#[]⟩) := k0 5
  have c6 : W.cell? ⟨w.heap.size, 6, none⟩ = some (.string ⟨#[]⟩) := k0 6
  have c7 : W.cell? ⟨w.heap.size, 7, none⟩ = some (.int .i64 0) := k0 7
  have c8 : W.cell? ⟨w.heap.size, 8, none⟩ = some (.slice vo 0 vc) := k0 8
  have c9 : W.cell? ⟨w.heap.size, 9, none⟩ = some (.string (bstr m)) := k0 9
  have c10 : W.cell? ⟨w.heap.size, 10, none⟩ = some (.int .i64 m.length) := k0 10
  clear k0
  generalize hY : bstr m = y at *
  go_upto_region 12 with (first | (go_at_call 43; (first | (refine (HVn.out _).mono ?_; rintro e w1 ⟨rfl, hb1⟩; have k1 := KC.out w1 hb1; have d20 : w1.cell? ⟨w.heap.size, 20, none⟩ = some (.bool true) := k1 20; have d11 : w1.cell? ⟨w.heap.size, 11, none⟩ = some (.int .i64 1) := k1 11; have d12 : w1.cell? ⟨w.heap.size, 12, none⟩ = some (.int .i64 k) := k1 12; have d13 : w1.cell? ⟨w.heap.size, 13, none⟩ = some (.int .i64 0) := k1 13; have d14 : w1.cell? ⟨w.heap.size, 14, none⟩ = some (.string ⟨#[]⟩) := k1 14; have d15 : w1.cell? ⟨w.heap.size, 15, none⟩ = some (.string ⟨#[]⟩) := k1 15; have d16 : w1.cell? ⟨w.heap.size, 16, none⟩ = some (.int .i64 0) := k1 16; have d17 : w1.cell? ⟨w.heap.size, 17, none⟩ = some (.slice so 0 sc) := k1 17; have d18 : w1.cell? ⟨w.heap.size, 18, none⟩ = some (.string ⟨#[]⟩) := k1 18; have d19 : w1.cell? ⟨w.heap.size, 19, none⟩ = some (.int .i64 0) := k1 19; clear k1) | (refine (HVk.out _).mono ?_; rintro e w2 ⟨rfl, hb2⟩; have hb12 := below_next hb1 hb2; have k2 := KC.out w2 hb12; have e0 : w2.cell? ⟨w.heap.size, 0, none⟩ = some (.int .i64 3) := k2 0; have e2 : w2.cell? ⟨w.heap.size, 2, none⟩ = some (.int .i64 10) := k2 2; have e12 : w2.cell? ⟨w.heap.size, 12, none⟩ = some (.int .i64 k) := k2 12; have e20 : w2.cell? ⟨w.heap.size, 20, none⟩ = some (.bool true) := k2 20; clear k2))) | fail)
  clear c0 c2 c3 c4 c5 c6 c7 c8 c9 c10 e0 e2 e12 e20 d11 d12 d13 d14 d15 d16 d17 d18 d19 d20
  have k9 := KC.out w2 hb12
  have c2 : w2.cell? ⟨w.heap.size, 2, none⟩ = some (.int .i64 10) := k9 2
  have c3 : w2.cell? ⟨w.heap.size, 3, none⟩ = some (.int .i64 0) := k9 3
  have c4 : w2.cell? ⟨w.heap.size, 4, none⟩ = some (.int .i64 0) := k9 4
  have c5 : w2.cell? ⟨w.heap.size, 5, none⟩ = some (.string ⟨#[]⟩) := k9 5
  have c6 : w2.cell? ⟨w.heap.size, 6, none⟩ = some (.string ⟨#[]⟩) := k9 6
  have c7 : w2.cell? ⟨w.heap.size, 7, none⟩ = some (.int .i64 0) := k9 7
  have c8 : w2.cell? ⟨w.heap.size, 8, none⟩ = some (.slice vo 0 vc) := k9 8
  have c9 : w2.cell? ⟨w.heap.size, 9, none⟩ = some (.string y) := by rw [k9 9, ← hY]; rfl
  have c10 : w2.cell? ⟨w.heap.size, 10, none⟩ = some (.int .i64 m.length) := k9 10
  clear k9
  go_upto_region 13 with (first | (go_at_call 51; refine (HT.out _).mono ?_; rintro e w4 ⟨rfl, hb4⟩) | fail)
  clear c2 c3 c4 c5 c6 c7 c8 c9 c10
  have hb14 := below_next hb12 hb4
  have hb3 : Below W.heap.size W (w4.alloc (.cells #[.string y, .int .i64 m.length] 56)) := below_next hb14 ((Below.refl _ _).alloc (Nat.le_refl _) _)
  have hr7 := heap_alloc_new w4 (.cells #[.string y, .int .i64 m.length] 56)
  have hns : w.heap.size + 1 ≠ w4.heap.size := by have := hb14.size; have := lt_of_row HR.out; omega
  have hWp : W.heap.size ≤ w4.heap.size := hb14.size
  generalize w4.alloc (.cells #[.string y, .int .i64 m.length] 56) = V at *
  generalize w4.heap.size = p at *
  have K3 := KC.out V hb3
  have d0 : V.cell? ⟨w.heap.size, 0, none⟩ = some (.int .i64 3) := K3 0
  have d20 : V.cell? ⟨w.heap.size, 20, none⟩ = some (.bool true) := K3 20
  clear K3
  have H7 := Lib.hid hr7
  have HBV := Lib.hid hb3
  clear hb3 hr7 hb4 hb14
  go_upto_region 19 with (first | (refine wpList_load_row rfl 56 _ rfl p rfl 56 #[.string y, .int .i64 m.length] _ _ H7.out Tryz.underlying56 rfl (by kernel_rfl) ?_) | (go_at_call 52; refine (HC.out _).mono ?_; rintro e w5 ⟨rfl, hb5⟩; have hr5 := (hb5.block _ (lt_of_row H7.out)).trans H7.out) | (refine wpList_store_row rfl 56 _ _ rfl p _ rfl rfl 56 _ hr5 (by kernel_rfl) rfl (by simp [Value.oneCell']) ?_) | fail)
  have hr7 := setRow_heap w5 p _ #[.string (bstr X), .int .i64 ((k : Int) * 8)] _ _ hr5
  have hb3 : Below W.heap.size W (w5.setRow p #[.string (bstr X), .int .i64 ((k : Int) * 8)]) := below_setRow (below_next HBV.out hb5) hWp _
  clear d0 d20 hb5 hr5
  generalize w5.setRow p #[.string (bstr X), .int .i64 ((k : Int) * 8)] = V at *
  have hr := (hb3.block _ (lt_of_row HR.out)).trans HR.out
  have H8 := Lib.hid hr7
  have HBE : Hid (Below w.heap.size w V) := Lib.hid (HB.out.trans (hb3.mono HB.out.size))
  clear hr7 hb3
  go_wp2_with (first | (refine wpList_load_row rfl 56 _ rfl p rfl 56 #[.string (bstr X), .int .i64 ((k : Int) * 8)] _ _ H8.out Tryz.underlying56 rfl (by kernel_rfl) ?_) | (refine wpList_store_row rfl 56 _ _ rfl (w.heap.size + 1) _ rfl rfl 56 _ hr (by kernel_rfl) rfl (by simp [Value.oneCell']) ?_) | fail)
  refine bodyPost_ret (results_row_tmp rfl _ _ _ (w.heap.size + 1) _ _ _ _ rfl (setRow_heap _ _ _ #[.string (bstr X), .int .i64 ((k : Int) * 8)] _ _ hr) Tryz.underlying56 (by kernel_rfl)) rfl ?_
  exact ⟨by show _ = Ending.returned (.tuple #[.agg #[.string (bstr X), .int .i64 X.length], .bool true]); rw [HSL.out]; rfl, below_setRow HBE.out (by omega) _⟩
set_option maxRecDepth 100000 in
set_option maxHeartbeats 8000000 in
theorem fld_cut3_no (f : Nat) (tx : ByteArray) (m : List Bool) (k : Nat) (lt sg : Bool) (hm : m.length ≤ 16384) (hk : k ≤ 16384) (hkm : m.length < (k * 8)) : FdIs f ⟨3, tx, bitsT m, intT k, true, sg, lt⟩ none := by
  intro vo so vc sc w _ _
  have HB := Lib.hid (two_below w (.cells (fdRow ⟨3, tx, bitsT m, intT k, true, sg, lt⟩ vo vc so sc) 30) (.cells #[.string ⟨#[]⟩, .int .i64 0] 56))
  have HR := Lib.hid (two1 w (.cells (fdRow ⟨3, tx, bitsT m, intT k, true, sg, lt⟩ vo vc so sc) 30) (.cells #[.string ⟨#[]⟩, .int .i64 0] 56))
  have HR0 := Lib.hid (two0 w (.cells (fdRow ⟨3, tx, bitsT m, intT k, true, sg, lt⟩ vo vc so sc) 30) (.cells #[.string ⟨#[]⟩, .int .i64 0] 56))
  have HVn := Lib.hid (fun wx => bits_valid m hm vo vc wx)
  have HT := Lib.hid (fun wx => fromterm_any m vo vc hm wx)
  have HVk := Lib.hid (fun wx => int_valid k so sc wx (by unfold I64; omega))
  have HC : Hid (∀ wx, Calls Tryz.prog 52 #[.agg #[.string (bstr m), .int .i64 m.length], .int .i64 0, .int .i64 ((k : Int) * 8)] wx fun e w' => e = .returned (.tuple #[.agg #[.string ⟨#[]⟩, .int .i64 0], .int .i64 2]) ∧ Below wx.heap.size wx w') := Lib.hid (fun wx => cut_no m hm ((k : Int) * 8) (by omega) (by omega) wx)
  have hk2 : (k : Int) ≤ 16384 := by omega
  clear hkm
  go_enter Tryz.func28, Tryz.ntmps28
  generalize hW : (w.alloc (.cells (fdRow ⟨3, tx, bitsT m, intT k, true, sg, lt⟩ vo vc so sc) 30)).alloc (.cells #[.string ⟨#[]⟩, .int .i64 0] 56) = W at *
  have KC : Hid (∀ wx : World, Below W.heap.size W wx → ∀ j, wx.cell? ⟨w.heap.size, j, none⟩ = (fdRow ⟨3, tx, bitsT m, intT k, true, sg, lt⟩ vo vc so sc)[j]?) := Lib.hid (fun wx hx j => by rw [cell_of_row _ _ _ _ _ _ ((hx.block _ (lt_of_row HR0.out)).trans HR0.out)])
  have k0 := KC.out W (Below.refl _ _)
  have c0 : W.cell? ⟨w.heap.size, 0, none⟩ = some (.int .i64 3) := k0 0
  have c2 : W.cell? ⟨w.heap.size, 2, none⟩ = some (.int .i64 10) := k0 2
  have c3 : W.cell? ⟨w.heap.size, 3, none⟩ = some (.int .i64 0) := k0 3
  have c4 : W.cell? ⟨w.heap.size, 4, none⟩ = some (.int .i64 0) := k0 4
  have c5 : W.cell? ⟨w.heap.size, 5, none⟩ = some (.string ⟨#[]⟩) := k0 5
  have c6 : W.cell? ⟨w.heap.size, 6, none⟩ = some (.string ⟨#[]⟩) := k0 6
  have c7 : W.cell? ⟨w.heap.size, 7, none⟩ = some (.int .i64 0) := k0 7
  have c8 : W.cell? ⟨w.heap.size, 8, none⟩ = some (.slice vo 0 vc) := k0 8
  have c9 : W.cell? ⟨w.heap.size, 9, none⟩ = some (.string (bstr m)) := k0 9
  have c10 : W.cell? ⟨w.heap.size, 10, none⟩ = some (.int .i64 m.length) := k0 10
  clear k0
  generalize hY : bstr m = y at *
  go_upto_region 12 with (first | (go_at_call 43; (first | (refine (HVn.out _).mono ?_; rintro e w1 ⟨rfl, hb1⟩; have k1 := KC.out w1 hb1; have d20 : w1.cell? ⟨w.heap.size, 20, none⟩ = some (.bool true) := k1 20; have d11 : w1.cell? ⟨w.heap.size, 11, none⟩ = some (.int .i64 1) := k1 11; have d12 : w1.cell? ⟨w.heap.size, 12, none⟩ = some (.int .i64 k) := k1 12; have d13 : w1.cell? ⟨w.heap.size, 13, none⟩ = some (.int .i64 0) := k1 13; have d14 : w1.cell? ⟨w.heap.size, 14, none⟩ = some (.string ⟨#[]⟩) := k1 14; have d15 : w1.cell? ⟨w.heap.size, 15, none⟩ = some (.string ⟨#[]⟩) := k1 15; have d16 : w1.cell? ⟨w.heap.size, 16, none⟩ = some (.int .i64 0) := k1 16; have d17 : w1.cell? ⟨w.heap.size, 17, none⟩ = some (.slice so 0 sc) := k1 17; have d18 : w1.cell? ⟨w.heap.size, 18, none⟩ = some (.string ⟨#[]⟩) := k1 18; have d19 : w1.cell? ⟨w.heap.size, 19, none⟩ = some (.int .i64 0) := k1 19; clear k1) | (refine (HVk.out _).mono ?_; rintro e w2 ⟨rfl, hb2⟩; have hb12 := below_next hb1 hb2; have k2 := KC.out w2 hb12; have e0 : w2.cell? ⟨w.heap.size, 0, none⟩ = some (.int .i64 3) := k2 0; have e2 : w2.cell? ⟨w.heap.size, 2, none⟩ = some (.int .i64 10) := k2 2; have e12 : w2.cell? ⟨w.heap.size, 12, none⟩ = some (.int .i64 k) := k2 12; have e20 : w2.cell? ⟨w.heap.size, 20, none⟩ = some (.bool true) := k2 20; clear k2))) | fail)
  clear c0 c2 c3 c4 c5 c6 c7 c8 c9 c10 e0 e2 e12 e20 d11 d12 d13 d14 d15 d16 d17 d18 d19 d20
  have k9 := KC.out w2 hb12
  have c2 : w2.cell? ⟨w.heap.size, 2, none⟩ = some (.int .i64 10) := k9 2
  have c3 : w2.cell? ⟨w.heap.size, 3, none⟩ = some (.int .i64 0) := k9 3
  have c4 : w2.cell? ⟨w.heap.size, 4, none⟩ = some (.int .i64 0) := k9 4
  have c5 : w2.cell? ⟨w.heap.size, 5, none⟩ = some (.string ⟨#[]⟩) := k9 5
  have c6 : w2.cell? ⟨w.heap.size, 6, none⟩ = some (.string ⟨#[]⟩) := k9 6
  have c7 : w2.cell? ⟨w.heap.size, 7, none⟩ = some (.int .i64 0) := k9 7
  have c8 : w2.cell? ⟨w.heap.size, 8, none⟩ = some (.slice vo 0 vc) := k9 8
  have c9 : w2.cell? ⟨w.heap.size, 9, none⟩ = some (.string y) := by rw [k9 9, ← hY]; rfl
  have c10 : w2.cell? ⟨w.heap.size, 10, none⟩ = some (.int .i64 m.length) := k9 10
  clear k9
  go_upto_region 13 with (first | (go_at_call 51; refine (HT.out _).mono ?_; rintro e w4 ⟨rfl, hb4⟩) | fail)
  clear c2 c3 c4 c5 c6 c7 c8 c9 c10
  have hb14 := below_next hb12 hb4
  have hb3 : Below W.heap.size W (w4.alloc (.cells #[.string y, .int .i64 m.length] 56)) := below_next hb14 ((Below.refl _ _).alloc (Nat.le_refl _) _)
  have hr7 := heap_alloc_new w4 (.cells #[.string y, .int .i64 m.length] 56)
  have hns : w.heap.size + 1 ≠ w4.heap.size := by have := hb14.size; have := lt_of_row HR.out; omega
  have hWp : W.heap.size ≤ w4.heap.size := hb14.size
  generalize w4.alloc (.cells #[.string y, .int .i64 m.length] 56) = V at *
  generalize w4.heap.size = p at *
  have K3 := KC.out V hb3
  have d0 : V.cell? ⟨w.heap.size, 0, none⟩ = some (.int .i64 3) := K3 0
  have d20 : V.cell? ⟨w.heap.size, 20, none⟩ = some (.bool true) := K3 20
  clear K3
  have H7 := Lib.hid hr7
  have HBV := Lib.hid hb3
  clear hb3 hr7 hb4 hb14
  go_upto_region 19 with (first | (refine wpList_load_row rfl 56 _ rfl p rfl 56 #[.string y, .int .i64 m.length] _ _ H7.out Tryz.underlying56 rfl (by kernel_rfl) ?_) | (go_at_call 52; refine (HC.out _).mono ?_; rintro e w5 ⟨rfl, hb5⟩; have hr5 := (hb5.block _ (lt_of_row H7.out)).trans H7.out) | (refine wpList_store_row rfl 56 _ _ rfl p _ rfl rfl 56 _ hr5 (by kernel_rfl) rfl (by simp [Value.oneCell']) ?_) | fail)
  have hr7 := setRow_heap w5 p _ #[.string ⟨#[]⟩, .int .i64 (0)] _ _ hr5
  have hb3 : Below W.heap.size W (w5.setRow p #[.string ⟨#[]⟩, .int .i64 (0)]) := below_setRow (below_next HBV.out hb5) hWp _
  clear d0 d20 hb5 hr5
  generalize w5.setRow p #[.string ⟨#[]⟩, .int .i64 (0)] = V at *
  have hr := (hb3.block _ (lt_of_row HR.out)).trans HR.out
  have H8 := Lib.hid hr7
  have HBE : Hid (Below w.heap.size w V) := Lib.hid (HB.out.trans (hb3.mono HB.out.size))
  clear hr7 hb3
  go_wp2_with (first | (refine wpList_load_row rfl 56 _ rfl p rfl 56 #[.string ⟨#[]⟩, .int .i64 (0)] _ _ H8.out Tryz.underlying56 rfl (by kernel_rfl) ?_) | (refine wpList_store_row rfl 56 _ _ rfl (w.heap.size + 1) _ rfl rfl 56 _ hr (by kernel_rfl) rfl (by simp [Value.oneCell']) ?_) | fail)
  refine bodyPost_ret (results_row_tmp rfl _ _ _ (w.heap.size + 1) _ _ _ _ rfl (setRow_heap _ _ _ #[.string ⟨#[]⟩, .int .i64 (0)] _ _ hr) Tryz.underlying56 (by kernel_rfl)) rfl ?_
  exact ⟨⟨_, _, rfl⟩, below_setRow HBE.out (by omega) _⟩
end Go.Proofs.YthmpobimmbmddaaGreatDoor
namespace Go.Proofs.YthmpobimmbmddaaGreatDoor
open Go.RowKit
set_option linter.unusedVariables false
set_option linter.unusedSimpArgs false

theorem fd_ext {x : Fd} {t : Int} {v s : Tm} {b : Bool} (h1 : x.type = t) (h2 : x.val = v) (h3 : x.size = s) (h4 : x.sized = b) : x = ⟨t, x.text, v, s, b, x.signed, x.little⟩ := by
  subst h1 h2 h3 h4; rfl
theorem fd_at {f : Nat} {x y : Fd} {r r2 : Option (List Bool)} (h : FdIs f y r) (hx : x = y) (hr : r2 = r) : FdIs f x r2 := by rw [hx, hr]; exact h
theorem pfield_any (f : Nat) (x : Fd) (hy : x.text.size ≤ 70368744177664) (hok1 : x.val.Ok) (hok2 : x.size.Ok) (hc1 : (capF (f + 1) x.val : Int) ≤ 1152921504606846976) (hc2 : (capF (f + 1) x.size : Int) ≤ 1152921504606846976) : FdIs f x (fieldV f x) := by
  by_cases h4 : x.type = 4
  · exact fd_at (field_text f x h4 hy) rfl (by unfold fieldV; rw [if_pos h4])
  cases hvv : validF (f + 1) x.val with
  | false => exact fd_at (fun vo so vc sc w hv hs => fld_invalid f x vo vc so sc w hvv h4 hv hs hok1 hok2 hc1 hc2) rfl (by unfold fieldV; rw [if_neg h4, if_pos hvv])
  | true =>
    have hnf : ¬ (validF (f + 1) x.val = false) := by rw [hvv]; decide
    have hbad : x.sized = true → (∀ o mo : Int, mo ≤ 16384 → sizeV f x o mo = -1) → fieldV f x = none := by
      intro hz hB
      unfold fieldV
      rw [if_neg h4, if_neg hnf]
      by_cases a : x.type = 1 ∧ x.val.kind = 1
      · rw [if_pos a, hB 8 64 (by decide), if_pos (.inl (by decide))]
      · by_cases b : x.type = 2 ∧ x.val.kind = 10
        · have hb := bits_facts hvv b.2
          rw [if_neg a, if_pos b, hB _ _ hb.2.1, if_pos (by decide)]
        · by_cases c : x.type = 3 ∧ x.val.kind = 10
          · have hb := bits_facts hvv c.2
            rw [if_neg a, if_neg b, if_pos c, if_neg (by rintro ⟨h, _⟩; rw [hz] at h; cases h), hB _ _ (by omega), if_pos (by decide)]
          · rw [if_neg a, if_neg b, if_neg c]
    have hmis : ¬ (x.type = 1 ∧ x.val.kind = 1) → ¬ (x.type = 2 ∧ x.val.kind = 10) → ¬ (x.type = 3 ∧ x.val.kind = 10) → fieldV f x = none := by
      intro a b c
      unfold fieldV
      rw [if_neg h4, if_neg hnf, if_neg a, if_neg b, if_neg c]
    rcases Bool.eq_false_or_eq_true x.sized with hsz | hsz
    · by_cases hk : x.size.kind = 1
      · cases hsv : validF (f + 1) x.size with
        | false => exact fd_at (fun vo so vc sc w hv hs => fld_size_valid f x vo vc so sc w hvv hsz hk hsv h4 hv hs hok1 hok2 hc1 hc2) rfl (hbad hsz (fun o mo _ => by unfold sizeV; rw [if_neg (by rw [hsz]; decide), if_neg (fun h => by rw [hsv] at h; exact absurd h.2.1 (by decide))]))
        | true =>
          by_cases hr : x.size.int < 0 ∨ 16384 < x.size.int
          · exact fd_at (fun vo so vc sc w hv hs => fld_size_range f x vo vc so sc w hvv hsz hk hsv hr h4 hv hs hok1 hok2 hc1 hc2) rfl (hbad hsz (fun o mo _ => by unfold sizeV; rw [if_neg (by rw [hsz]; decide), if_neg (fun h => by omega)]))
          · obtain ⟨k, hki⟩ : ∃ k : Nat, x.size.int = k := ⟨x.size.int.toNat, by omega⟩
            have hk2 : k ≤ 16384 := by omega
            have hsi := int_is hsv hk
            rw [hki] at hsi
            have hS : ∀ o mo : Int, sizeV f x o mo = if (k : Int) ≤ mo then (k : Int) else -1 := by
              intro o mo
              unfold sizeV
              rw [if_neg (by rw [hsz]; decide), hki]
              by_cases h : (k : Int) ≤ mo
              · rw [if_pos ⟨hk, hsv, by omega, h⟩, if_pos h]
              · rw [if_neg (fun h2 => h h2.2.2.2), if_neg h]
            have hSk : ∀ o mo : Int, (k : Int) ≤ mo → sizeV f x o mo = (k : Int) := fun o mo h => by rw [hS, if_pos h]
            have hSn : ∀ o mo : Int, ¬ (k : Int) ≤ mo → sizeV f x o mo = -1 := fun o mo h => by rw [hS, if_neg h]
            by_cases a : x.type = 1 ∧ x.val.kind = 1
            · have hvi := int_is hvv a.2
              by_cases hb : 64 < (k : Int) ∨ (x.little = true ∧ (k : Int) % 8 ≠ 0)
              · refine fd_at (fld_int_no f x.text x.val.int k x.little x.signed hok1.2.1 hk2 hb) (fd_ext a.1 hvi hsi hsz) ?_
                unfold fieldV
                rw [if_neg h4, if_neg hnf, if_pos a]
                by_cases h64 : (k : Int) ≤ 64
                · rw [hSk _ _ h64, if_pos (.inr (hb.resolve_left (by omega)))]
                · rw [hSn _ _ h64, if_pos (.inl (by decide))]
              · refine fd_at (fld_int f x.text x.val.int k x.little x.signed hok1.2.1 (by omega) (fun e => Classical.byContradiction fun h => hb (.inr ⟨e, by omega⟩))) (fd_ext a.1 hvi hsi hsz) ?_
                unfold fieldV
                rw [if_neg h4, if_neg hnf, if_pos a, hSk 8 64 (by omega), if_neg (fun h => by rcases h with h | h; omega; exact hb (.inr h))]
                rfl
            · by_cases b : x.type = 2 ∧ x.val.kind = 10
              · obtain ⟨m, hm, hvi, hm2⟩ := bits_is hvv b.2
                have hbl : x.val.bits = (m.length : Int) := by rw [hvi]; rfl
                have hby : x.val.bytes = bstr m := by rw [hvi]; rfl
                by_cases hle : k ≤ m.length
                · refine fd_at (fld_cut2 f x.text m k x.little x.signed hm hk2 hle) (fd_ext b.1 hvi hsi hsz) ?_
                  unfold fieldV
                  rw [if_neg h4, if_neg hnf, if_neg a, if_pos b, hSk _ _ (by omega), if_neg (by omega), hby]
                  rfl
                · refine fd_at (fld_cut2_no f x.text m k x.little x.signed hm hk2 (by omega)) (fd_ext b.1 hvi hsi hsz) ?_
                  unfold fieldV
                  rw [if_neg h4, if_neg hnf, if_neg a, if_pos b, hSn _ _ (by omega), if_pos (by decide)]
              · by_cases c : x.type = 3 ∧ x.val.kind = 10
                · obtain ⟨m, hm, hvi, hm2⟩ := bits_is hvv c.2
                  have hbl : x.val.bits = (m.length : Int) := by rw [hvi]; rfl
                  have hby : x.val.bytes = bstr m := by rw [hvi]; rfl
                  have hns : ¬ (x.sized = false ∧ x.val.bits % 8 ≠ 0) := by rintro ⟨h, _⟩; rw [hsz] at h; cases h
                  by_cases hle : k * 8 ≤ m.length
                  · refine fd_at (fld_cut3 f x.text m k x.little x.signed hm hk2 hle) (fd_ext c.1 hvi hsi hsz) ?_
                    unfold fieldV
                    rw [if_neg h4, if_neg hnf, if_neg a, if_neg b, if_pos c, if_neg hns, hSk _ _ (by omega), if_neg (by omega), hby, show 8 * (k : Int).toNat = k * 8 by omega]
                  · refine fd_at (fld_cut3_no f x.text m k x.little x.signed hm hk2 (by omega)) (fd_ext c.1 hvi hsi hsz) ?_
                    unfold fieldV
                    rw [if_neg h4, if_neg hnf, if_neg a, if_neg b, if_pos c, if_neg hns, hSn _ _ (by omega), if_pos (by decide)]
                · refine fd_at (r := none) ?_ rfl (hmis a b c)
                  intro vo so vc sc w hv hs
                  by_cases t1 : x.type = 1
                  · exact fld_misfit1S f x vo vc so sc w t1 hvv k hsz hk hsv (by omega) (by omega) hki (fun h => a ⟨t1, h⟩) hv hs hok1 hok2 hc1 hc2
                  by_cases t2 : x.type = 2
                  · exact fld_misfit2S f x vo vc so sc w t2 hvv k hsz hk hsv (by omega) (by omega) hki (fun h => b ⟨t2, h⟩) hv hs hok1 hok2 hc1 hc2
                  by_cases t3 : x.type = 3
                  · exact fld_misfit3S f x vo vc so sc w t3 hvv k hsz hk hsv (by omega) (by omega) hki (fun h => c ⟨t3, h⟩) hv hs hok1 hok2 hc1 hc2
                  exact fld_misfit0S f x vo vc so sc w hvv k hsz hk hsv (by omega) (by omega) hki h4 t1 t2 t3 hv hs hok1 hok2 hc1 hc2
      · exact fd_at (fun vo so vc sc w hv hs => fld_size_kind f x vo vc so sc w hvv hsz hk h4 hv hs hok1 hok2 hc1 hc2) rfl (hbad hsz (fun o mo _ => by unfold sizeV; rw [if_neg (by rw [hsz]; decide), if_neg (fun h => hk h.1)]))
    · have hS : ∀ o mo : Int, sizeV f x o mo = o := fun o mo => by unfold sizeV; rw [if_pos hsz]
      by_cases a : x.type = 1 ∧ x.val.kind = 1
      · have hvi := int_is hvv a.2
        refine fd_at (fld_int8 f x.text x.val.int x.size x.little x.signed hok1.2.1) (fd_ext a.1 hvi rfl hsz) ?_
        unfold fieldV
        rw [if_neg h4, if_neg hnf, if_pos a, hS, if_neg (fun h => by rcases h with h | h; exact absurd h (by decide); exact absurd h.2 (by decide))]
        rfl
      · by_cases b : x.type = 2 ∧ x.val.kind = 10
        · obtain ⟨m, hm, hvi, hm2⟩ := bits_is hvv b.2
          have hbl : x.val.bits = (m.length : Int) := by rw [hvi]; rfl
          refine fd_at (fld_bits f x.text m x.size x.little x.signed hm) (fd_ext b.1 hvi rfl hsz) ?_
          unfold fieldV
          rw [if_neg h4, if_neg hnf, if_neg a, if_pos b, hS, if_neg (by omega), ← hm2]
        · by_cases c : x.type = 3 ∧ x.val.kind = 10
          · obtain ⟨m, hm, hvi, hm2⟩ := bits_is hvv c.2
            have hbl : x.val.bits = (m.length : Int) := by rw [hvi]; rfl
            by_cases h8 : m.length % 8 = 0
            · refine fd_at (fld_bytes f x.text m x.size x.little x.signed hm h8) (fd_ext c.1 hvi rfl hsz) ?_
              unfold fieldV
              rw [if_neg h4, if_neg hnf, if_neg a, if_neg b, if_pos c, if_neg (fun h => by omega), hS, if_neg (by omega), show 8 * (x.val.bits / 8).toNat = x.val.bits.toNat by omega, ← hm2]
            · refine fd_at (fld_bytes_odd f x.text m x.size x.little x.signed hm h8) (fd_ext c.1 hvi rfl hsz) ?_
              unfold fieldV
              rw [if_neg h4, if_neg hnf, if_neg a, if_neg b, if_pos c, if_pos ⟨hsz, by omega⟩]
          · refine fd_at (r := none) ?_ rfl (hmis a b c)
            intro vo so vc sc w hv hs
            by_cases t1 : x.type = 1
            · exact fld_misfit1U f x vo vc so sc w t1 hvv hsz (fun h => a ⟨t1, h⟩) hv hs hok1 hok2 hc1 hc2
            by_cases t2 : x.type = 2
            · exact fld_misfit2U f x vo vc so sc w t2 hvv hsz (fun h => b ⟨t2, h⟩) hv hs hok1 hok2 hc1 hc2
            by_cases t3 : x.type = 3
            · exact fld_misfit3U f x vo vc so sc w t3 hvv hsz (fun h => c ⟨t3, h⟩) hv hs hok1 hok2 hc1 hc2
            exact fld_misfit0U f x vo vc so sc w hvv hsz h4 t1 t2 t3 hv hs hok1 hok2 hc1 hc2
end Go.Proofs.YthmpobimmbmddaaGreatDoor
