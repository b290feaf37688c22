/-
  The program's field of an integer: the walks (printed by gen_pfli.py).
-/
import Derived.Test.YthmpobimmbmddaaGreatDoorB20
namespace Go.Proofs.YthmpobimmbmddaaGreatDoor
open Go.RowKit
set_option linter.unusedVariables false
set_option linter.unusedSimpArgs false

set_option maxRecDepth 100000 in
set_option maxHeartbeats 8000000 in
theorem fld_int (f : Nat) (tx : ByteArray) (n : Int) (k : Nat) (lt sg : Bool) (hn : I64 n) (hk : k ≤ 64) (hlt : lt = true → k % 8 = 0) : FdIs f ⟨1, tx, intT n, intT k, true, sg, lt⟩ (some (intBits n k lt)) := by
  intro vo so vc sc w _ _
  have HB := Lib.hid (two_below w (.cells (fdRow ⟨1, tx, intT n, intT k, true, sg, lt⟩ vo vc so sc) 30) (.cells #[.string ⟨#[]⟩, .int .i64 0] 56))
  have HR := Lib.hid (two1 w (.cells (fdRow ⟨1, tx, intT n, intT k, true, sg, lt⟩ vo vc so sc) 30) (.cells #[.string ⟨#[]⟩, .int .i64 0] 56))
  have HR0 := Lib.hid (two0 w (.cells (fdRow ⟨1, tx, intT n, intT k, true, sg, lt⟩ vo vc so sc) 30) (.cells #[.string ⟨#[]⟩, .int .i64 0] 56))
  have E1 := Lib.hid (intBits_pack n k lt hk)
  have E2 := Lib.hid (intBits_len n k lt hlt)
  have HP := Lib.hid (fun wx => putint_any n k lt wx hn hk hlt)
  have HVn := Lib.hid (fun wx => int_valid n vo vc wx hn)
  have HVk := Lib.hid (fun wx => int_valid k so sc wx (by unfold I64; omega))
  have hk2 : (k : Int) ≤ 64 := by omega
  obtain ⟨n1, n2⟩ := hn
  clear hlt
  go_enter Tryz.func28, Tryz.ntmps28
  generalize hW : (w.alloc (.cells (fdRow ⟨1, tx, intT n, intT k, true, sg, lt⟩ vo vc so sc) 30)).alloc (.cells #[.string ⟨#[]⟩, .int .i64 0] 56) = W at *
  have KC : Hid (∀ wx : World, Below W.heap.size W wx → ∀ j, wx.cell? ⟨w.heap.size, j, none⟩ = (fdRow ⟨1, tx, intT n, intT k, true, sg, lt⟩ vo vc so sc)[j]?) := Lib.hid (fun wx hx j => by rw [cell_of_row _ _ _ _ _ _ ((hx.block _ (lt_of_row HR0.out)).trans HR0.out)])
  have k0 := KC.out W (Below.refl _ _)
  have c0 : W.cell? ⟨w.heap.size, 0, none⟩ = some (.int .i64 1) := k0 0
  have c2 : W.cell? ⟨w.heap.size, 2, none⟩ = some (.int .i64 1) := k0 2
  have c3 : W.cell? ⟨w.heap.size, 3, none⟩ = some (.int .i64 n) := k0 3
  have c4 : W.cell? ⟨w.heap.size, 4, none⟩ = some (.int .i64 0) := k0 4
  have c5 : W.cell? ⟨w.heap.size, 5, none⟩ = some (.string ⟨#[]⟩) := k0 5
  have c6 : W.cell? ⟨w.heap.size, 6, none⟩ = some (.string ⟨#[]⟩) := k0 6
  have c7 : W.cell? ⟨w.heap.size, 7, none⟩ = some (.int .i64 0) := k0 7
  have c8 : W.cell? ⟨w.heap.size, 8, none⟩ = some (.slice vo 0 vc) := k0 8
  have c9 : W.cell? ⟨w.heap.size, 9, none⟩ = some (.string ⟨#[]⟩) := k0 9
  have c10 : W.cell? ⟨w.heap.size, 10, none⟩ = some (.int .i64 0) := k0 10
  clear k0
  go_upto_region 9 with (first | (go_at_call 43; (first | (refine (HVn.out _).mono ?_; rintro e w1 ⟨rfl, hb1⟩; have k1 := KC.out w1 hb1; have d20 : w1.cell? ⟨w.heap.size, 20, none⟩ = some (.bool true) := k1 20; have d11 : w1.cell? ⟨w.heap.size, 11, none⟩ = some (.int .i64 1) := k1 11; have d12 : w1.cell? ⟨w.heap.size, 12, none⟩ = some (.int .i64 k) := k1 12; have d13 : w1.cell? ⟨w.heap.size, 13, none⟩ = some (.int .i64 0) := k1 13; have d14 : w1.cell? ⟨w.heap.size, 14, none⟩ = some (.string ⟨#[]⟩) := k1 14; have d15 : w1.cell? ⟨w.heap.size, 15, none⟩ = some (.string ⟨#[]⟩) := k1 15; have d16 : w1.cell? ⟨w.heap.size, 16, none⟩ = some (.int .i64 0) := k1 16; have d17 : w1.cell? ⟨w.heap.size, 17, none⟩ = some (.slice so 0 sc) := k1 17; have d18 : w1.cell? ⟨w.heap.size, 18, none⟩ = some (.string ⟨#[]⟩) := k1 18; have d19 : w1.cell? ⟨w.heap.size, 19, none⟩ = some (.int .i64 0) := k1 19; clear k1) | (refine (HVk.out _).mono ?_; rintro e w2 ⟨rfl, hb2⟩; have hb12 := below_next hb1 hb2; have k2 := KC.out w2 hb12; have e0 : w2.cell? ⟨w.heap.size, 0, none⟩ = some (.int .i64 1) := k2 0; have e2 : w2.cell? ⟨w.heap.size, 2, none⟩ = some (.int .i64 1) := k2 2; have e12 : w2.cell? ⟨w.heap.size, 12, none⟩ = some (.int .i64 k) := k2 12; have e20 : w2.cell? ⟨w.heap.size, 20, none⟩ = some (.bool true) := k2 20; clear k2))) | fail)
  clear c0 c2 c3 c4 c5 c6 c7 c8 c9 c10 e0 e2 e12 e20 d11 d12 d13 d14 d15 d16 d17 d18 d19 d20
  have k9 := KC.out w2 hb12
  have g3 : w2.cell? ⟨w.heap.size, 3, none⟩ = some (.int .i64 n) := k9 3
  have g22 : w2.cell? ⟨w.heap.size, 22, none⟩ = some (.bool lt) := k9 22
  clear k9
  go_wp2_with (first | (go_at_call 50; refine (HP.out _).mono ?_; rintro e w3 ⟨rfl, hb3⟩; have hr3 := ((below_next hb12 hb3).block _ (lt_of_row HR.out)).trans HR.out; have hr := fun o => (Below.heap_alloc w3 o _ (lt_of_row hr3)).trans hr3) | (refine wpList_store_row rfl 56 _ _ rfl (w.heap.size + 1) _ rfl rfl 56 _ (hr _) (by kernel_rfl) rfl (by simp [Value.oneCell']) ?_) | fail)
  refine bodyPost_ret (results_row_tmp rfl _ _ _ (w.heap.size + 1) _ _ _ _ rfl (setRow_heap _ _ _ _ _ _ (hr _)) Tryz.underlying56 (by kernel_rfl)) rfl ?_
  refine ⟨?_, below_setRow (HB.out.trans ((below_next (below_next hb12 hb3) ((Below.refl _ _).alloc (Nat.le_refl _) _)).mono HB.out.size)) (by omega) _⟩
  show _ = Ending.returned (.tuple #[.agg #[.string (bstr (intBits n k lt)), .int .i64 (intBits n k lt).length], .bool true])
  unfold bstr
  rw [E1.out, E2.out]
  rfl
set_option maxRecDepth 100000 in
set_option maxHeartbeats 8000000 in
theorem fld_int8 (f : Nat) (tx : ByteArray) (n : Int) (sz : Tm) (lt sg : Bool) (hn : I64 n) : FdIs f ⟨1, tx, intT n, sz, false, sg, lt⟩ (some (intBits n 8 lt)) := by
  intro vo so vc sc w _ _
  have HB := Lib.hid (two_below w (.cells (fdRow ⟨1, tx, intT n, sz, false, sg, lt⟩ vo vc so sc) 30) (.cells #[.string ⟨#[]⟩, .int .i64 0] 56))
  have HR := Lib.hid (two1 w (.cells (fdRow ⟨1, tx, intT n, sz, false, sg, lt⟩ vo vc so sc) 30) (.cells #[.string ⟨#[]⟩, .int .i64 0] 56))
  have HR0 := Lib.hid (two0 w (.cells (fdRow ⟨1, tx, intT n, sz, false, sg, lt⟩ vo vc so sc) 30) (.cells #[.string ⟨#[]⟩, .int .i64 0] 56))
  have E1 := Lib.hid (intBits_pack n 8 lt (by decide))
  have E2 := Lib.hid (intBits_len n 8 lt (fun _ => rfl))
  have HP : Hid (∀ wx, Calls Tryz.prog 50 #[.int .i64 n, .int .i64 8, .bool lt] wx fun e w' => e = .returned (.tuple #[.agg #[.string ⟨(intBytes n 8 lt).toArray⟩, .int .i64 8], .int .i64 0]) ∧ Below wx.heap.size wx w') := Lib.hid (fun wx => putint_any n 8 lt wx hn (by decide) (fun _ => rfl))
  have HVn := Lib.hid (fun wx => int_valid n vo vc wx hn)
  obtain ⟨n1, n2⟩ := hn
  go_enter Tryz.func28, Tryz.ntmps28
  generalize hW : (w.alloc (.cells (fdRow ⟨1, tx, intT n, sz, false, sg, lt⟩ vo vc so sc) 30)).alloc (.cells #[.string ⟨#[]⟩, .int .i64 0] 56) = W at *
  have KC : Hid (∀ wx : World, Below W.heap.size W wx → ∀ j, wx.cell? ⟨w.heap.size, j, none⟩ = (fdRow ⟨1, tx, intT n, sz, false, sg, lt⟩ vo vc so sc)[j]?) := Lib.hid (fun wx hx j => by rw [cell_of_row _ _ _ _ _ _ ((hx.block _ (lt_of_row HR0.out)).trans HR0.out)])
  have k0 := KC.out W (Below.refl _ _)
  have c0 : W.cell? ⟨w.heap.size, 0, none⟩ = some (.int .i64 1) := k0 0
  have c2 : W.cell? ⟨w.heap.size, 2, none⟩ = some (.int .i64 1) := k0 2
  have c3 : W.cell? ⟨w.heap.size, 3, none⟩ = some (.int .i64 n) := k0 3
  have c4 : W.cell? ⟨w.heap.size, 4, none⟩ = some (.int .i64 0) := k0 4
  have c5 : W.cell? ⟨w.heap.size, 5, none⟩ = some (.string ⟨#[]⟩) := k0 5
  have c6 : W.cell? ⟨w.heap.size, 6, none⟩ = some (.string ⟨#[]⟩) := k0 6
  have c7 : W.cell? ⟨w.heap.size, 7, none⟩ = some (.int .i64 0) := k0 7
  have c8 : W.cell? ⟨w.heap.size, 8, none⟩ = some (.slice vo 0 vc) := k0 8
  have c9 : W.cell? ⟨w.heap.size, 9, none⟩ = some (.string ⟨#[]⟩) := k0 9
  have c10 : W.cell? ⟨w.heap.size, 10, none⟩ = some (.int .i64 0) := k0 10
  clear k0
  go_upto_region 9 with (first | (go_at_call 43; (refine (HVn.out _).mono ?_; rintro e w1 ⟨rfl, hb1⟩; have k1 := KC.out w1 hb1; have e0 : w1.cell? ⟨w.heap.size, 0, none⟩ = some (.int .i64 1) := k1 0; have e2 : w1.cell? ⟨w.heap.size, 2, none⟩ = some (.int .i64 1) := k1 2; have e12 : w1.cell? ⟨w.heap.size, 12, none⟩ = some (.int .i64 sz.int) := k1 12; have e20 : w1.cell? ⟨w.heap.size, 20, none⟩ = some (.bool false) := k1 20; clear k1)) | fail)
  clear c0 c2 c3 c4 c5 c6 c7 c8 c9 c10 e0 e2 e12 e20
  have k9 := KC.out w1 hb1
  have g3 : w1.cell? ⟨w.heap.size, 3, none⟩ = some (.int .i64 n) := k9 3
  have g22 : w1.cell? ⟨w.heap.size, 22, none⟩ = some (.bool lt) := k9 22
  clear k9
  go_wp2_with (first | (go_at_call 50; refine (HP.out _).mono ?_; rintro e w3 ⟨rfl, hb3⟩; have hr3 := ((below_next hb1 hb3).block _ (lt_of_row HR.out)).trans HR.out; have hr := fun o => (Below.heap_alloc w3 o _ (lt_of_row hr3)).trans hr3) | (refine wpList_store_row rfl 56 _ _ rfl (w.heap.size + 1) _ rfl rfl 56 _ (hr _) (by kernel_rfl) rfl (by simp [Value.oneCell']) ?_) | fail)
  refine bodyPost_ret (results_row_tmp rfl _ _ _ (w.heap.size + 1) _ _ _ _ rfl (setRow_heap _ _ _ _ _ _ (hr _)) Tryz.underlying56 (by kernel_rfl)) rfl ?_
  refine ⟨?_, below_setRow (HB.out.trans ((below_next (below_next hb1 hb3) ((Below.refl _ _).alloc (Nat.le_refl _) _)).mono HB.out.size)) (by omega) _⟩
  show _ = Ending.returned (.tuple #[.agg #[.string (bstr (intBits n 8 lt)), .int .i64 (intBits n 8 lt).length], .bool true])
  unfold bstr
  rw [E1.out, E2.out]
  rfl
set_option maxRecDepth 100000 in
set_option maxHeartbeats 8000000 in
theorem fld_int_no (f : Nat) (tx : ByteArray) (n : Int) (k : Nat) (lt sg : Bool) (hn : I64 n) (hk : k ≤ 16384) (hbad : 64 < (k : Int) ∨ (lt = true ∧ (k : Int) % 8 ≠ 0)) : FdIs f ⟨1, tx, intT n, intT k, true, sg, lt⟩ none := by
  intro vo so vc sc w _ _
  have HB := Lib.hid (two_below w (.cells (fdRow ⟨1, tx, intT n, intT k, true, sg, lt⟩ vo vc so sc) 30) (.cells #[.string ⟨#[]⟩, .int .i64 0] 56))
  have HR := Lib.hid (two1 w (.cells (fdRow ⟨1, tx, intT n, intT k, true, sg, lt⟩ vo vc so sc) 30) (.cells #[.string ⟨#[]⟩, .int .i64 0] 56))
  have HR0 := Lib.hid (two0 w (.cells (fdRow ⟨1, tx, intT n, intT k, true, sg, lt⟩ vo vc so sc) 30) (.cells #[.string ⟨#[]⟩, .int .i64 0] 56))
  have HP := Lib.hid (fun wx => putint_no n k lt wx (by omega) (by omega) hbad)
  have HVn := Lib.hid (fun wx => int_valid n vo vc wx hn)
  have HVk := Lib.hid (fun wx => int_valid k so sc wx (by unfold I64; omega))
  have hk2 : (k : Int) ≤ 16384 := by omega
  obtain ⟨n1, n2⟩ := hn
  clear hbad
  go_enter Tryz.func28, Tryz.ntmps28
  generalize hW : (w.alloc (.cells (fdRow ⟨1, tx, intT n, intT k, true, sg, lt⟩ vo vc so sc) 30)).alloc (.cells #[.string ⟨#[]⟩, .int .i64 0] 56) = W at *
  have KC : Hid (∀ wx : World, Below W.heap.size W wx → ∀ j, wx.cell? ⟨w.heap.size, j, none⟩ = (fdRow ⟨1, tx, intT n, intT k, true, sg, lt⟩ vo vc so sc)[j]?) := Lib.hid (fun wx hx j => by rw [cell_of_row _ _ _ _ _ _ ((hx.block _ (lt_of_row HR0.out)).trans HR0.out)])
  have k0 := KC.out W (Below.refl _ _)
  have c0 : W.cell? ⟨w.heap.size, 0, none⟩ = some (.int .i64 1) := k0 0
  have c2 : W.cell? ⟨w.heap.size, 2, none⟩ = some (.int .i64 1) := k0 2
  have c3 : W.cell? ⟨w.heap.size, 3, none⟩ = some (.int .i64 n) := k0 3
  have c4 : W.cell? ⟨w.heap.size, 4, none⟩ = some (.int .i64 0) := k0 4
  have c5 : W.cell? ⟨w.heap.size, 5, none⟩ = some (.string ⟨#[]⟩) := k0 5
  have c6 : W.cell? ⟨w.heap.size, 6, none⟩ = some (.string ⟨#[]⟩) := k0 6
  have c7 : W.cell? ⟨w.heap.size, 7, none⟩ = some (.int .i64 0) := k0 7
  have c8 : W.cell? ⟨w.heap.size, 8, none⟩ = some (.slice vo 0 vc) := k0 8
  have c9 : W.cell? ⟨w.heap.size, 9, none⟩ = some (.string ⟨#[]⟩) := k0 9
  have c10 : W.cell? ⟨w.heap.size, 10, none⟩ = some (.int .i64 0) := k0 10
  clear k0
  go_upto_region 9 with (first | (go_at_call 43; (first | (refine (HVn.out _).mono ?_; rintro e w1 ⟨rfl, hb1⟩; have k1 := KC.out w1 hb1; have d20 : w1.cell? ⟨w.heap.size, 20, none⟩ = some (.bool true) := k1 20; have d11 : w1.cell? ⟨w.heap.size, 11, none⟩ = some (.int .i64 1) := k1 11; have d12 : w1.cell? ⟨w.heap.size, 12, none⟩ = some (.int .i64 k) := k1 12; have d13 : w1.cell? ⟨w.heap.size, 13, none⟩ = some (.int .i64 0) := k1 13; have d14 : w1.cell? ⟨w.heap.size, 14, none⟩ = some (.string ⟨#[]⟩) := k1 14; have d15 : w1.cell? ⟨w.heap.size, 15, none⟩ = some (.string ⟨#[]⟩) := k1 15; have d16 : w1.cell? ⟨w.heap.size, 16, none⟩ = some (.int .i64 0) := k1 16; have d17 : w1.cell? ⟨w.heap.size, 17, none⟩ = some (.slice so 0 sc) := k1 17; have d18 : w1.cell? ⟨w.heap.size, 18, none⟩ = some (.string ⟨#[]⟩) := k1 18; have d19 : w1.cell? ⟨w.heap.size, 19, none⟩ = some (.int .i64 0) := k1 19; clear k1) | (refine (HVk.out _).mono ?_; rintro e w2 ⟨rfl, hb2⟩; have hb12 := below_next hb1 hb2; have k2 := KC.out w2 hb12; have e0 : w2.cell? ⟨w.heap.size, 0, none⟩ = some (.int .i64 1) := k2 0; have e2 : w2.cell? ⟨w.heap.size, 2, none⟩ = some (.int .i64 1) := k2 2; have e12 : w2.cell? ⟨w.heap.size, 12, none⟩ = some (.int .i64 k) := k2 12; have e20 : w2.cell? ⟨w.heap.size, 20, none⟩ = some (.bool true) := k2 20; clear k2))) | fail)
  clear c0 c2 c3 c4 c5 c6 c7 c8 c9 c10 e0 e2 e12 e20 d11 d12 d13 d14 d15 d16 d17 d18 d19 d20
  have k9 := KC.out w2 hb12
  have g3 : w2.cell? ⟨w.heap.size, 3, none⟩ = some (.int .i64 n) := k9 3
  have g22 : w2.cell? ⟨w.heap.size, 22, none⟩ = some (.bool lt) := k9 22
  clear k9
  go_wp2_with (first | (go_at_call 50; refine (HP.out _).mono ?_; rintro e w3 ⟨rfl, hb3⟩; have hr3 := ((below_next hb12 hb3).block _ (lt_of_row HR.out)).trans HR.out; have hr := fun o => (Below.heap_alloc w3 o _ (lt_of_row hr3)).trans hr3) | (refine wpList_store_row rfl 56 _ _ rfl (w.heap.size + 1) _ rfl rfl 56 _ (hr _) (by kernel_rfl) rfl (by simp [Value.oneCell']) ?_) | fail)
  refine bodyPost_ret (results_row_tmp rfl _ _ _ (w.heap.size + 1) _ _ _ _ rfl (setRow_heap _ _ _ #[.string ⟨#[]⟩, .int .i64 0] _ _ (hr _)) Tryz.underlying56 (by kernel_rfl)) rfl ?_
  refine ⟨?_, below_setRow (HB.out.trans ((below_next (below_next hb12 hb3) ((Below.refl _ _).alloc (Nat.le_refl _) _)).mono HB.out.size)) (by omega) _⟩
  exact ⟨⟨#[]⟩, 0, rfl⟩
end Go.Proofs.YthmpobimmbmddaaGreatDoor
