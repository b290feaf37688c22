/-
  The program's field of a segment that is wrong: the walks (printed by gen_pfld.py).
-/
import Derived.Test.YthmpobimmbmddaaGreatDoorB20
namespace Go.Proofs.YthmpobimmbmddaaGreatDoor
open Go.RowKit
set_option linter.unusedVariables false
set_option linter.unusedSimpArgs false

set_option maxRecDepth 100000 in
set_option maxHeartbeats 8000000 in
theorem fld_invalid (f : Nat) (x : Fd) (vo : Option Addr) (vc : Nat) (so : Option Addr) (sc : Nat) (w : World) (hvv : validF (f + 1) x.val = false) (h4 : x.type ≠ 4)
    (hv : SlAt w 9 (TmAt w f) vo x.val.items) (hs : SlAt w 9 (TmAt w f) so x.size.items) (hok1 : x.val.Ok) (hok2 : x.size.Ok) (hc1 : (capF (f + 1) x.val : Int) ≤ 1152921504606846976) (hc2 : (capF (f + 1) x.size : Int) ≤ 1152921504606846976) :
    Calls Tryz.prog 28 #[.agg (fdRow x vo vc so sc)] w (FdPost none w) := by
  have HB := Lib.hid (two_below w (.cells (fdRow x vo vc so sc) 30) (.cells #[.string ⟨#[]⟩, .int .i64 0] 56))
  have HR := Lib.hid (two1 w (.cells (fdRow x vo vc so sc) 30) (.cells #[.string ⟨#[]⟩, .int .i64 0] 56))
  have HR0 := Lib.hid (two0 w (.cells (fdRow x vo vc so sc) 30) (.cells #[.string ⟨#[]⟩, .int .i64 0] 56))
  have HV := Lib.hid (tvalid_any f x.val vo vc _ (hv.tms HB.out) hok1 hc1)
  rw [hvv] at HV
  have HS := Lib.hid (fun wx (hx : Below w.heap.size w wx) => tvalid_any f x.size so sc wx (hs.tms hx) hok2 hc2)
  have t4 : (x.type == 4) = false := by simpa using h4
  clear h4
  clear hv hs hok1 hok2 hc1 hc2 hvv
  go_enter Tryz.func28, Tryz.ntmps28
  generalize hW : (w.alloc (.cells (fdRow x vo vc so sc) 30)).alloc (.cells #[.string ⟨#[]⟩, .int .i64 0] 56) = W at *
  have KC : Hid (∀ wx : World, Below W.heap.size W wx → ∀ j, wx.cell? ⟨w.heap.size, j, none⟩ = (fdRow x vo vc so sc)[j]?) := Lib.hid (fun wx hx j => by rw [cell_of_row _ _ _ _ _ _ ((hx.block _ (lt_of_row HR0.out)).trans HR0.out)])
  have k0 := KC.out W (Below.refl _ _)
  have c0 : W.cell? ⟨w.heap.size, 0, none⟩ = some (.int .i64 x.type) := k0 0
  have c2 : W.cell? ⟨w.heap.size, 2, none⟩ = some (.int .i64 x.val.kind) := k0 2
  have c3 : W.cell? ⟨w.heap.size, 3, none⟩ = some (.int .i64 x.val.int) := k0 3
  have c4 : W.cell? ⟨w.heap.size, 4, none⟩ = some (.int .i64 x.val.gen) := k0 4
  have c5 : W.cell? ⟨w.heap.size, 5, none⟩ = some (.string x.val.name) := k0 5
  have c6 : W.cell? ⟨w.heap.size, 6, none⟩ = some (.string x.val.func) := k0 6
  have c7 : W.cell? ⟨w.heap.size, 7, none⟩ = some (.int .i64 x.val.arity) := k0 7
  have c8 : W.cell? ⟨w.heap.size, 8, none⟩ = some (.slice vo x.val.items.length vc) := k0 8
  have c9 : W.cell? ⟨w.heap.size, 9, none⟩ = some (.string x.val.bytes) := k0 9
  have c10 : W.cell? ⟨w.heap.size, 10, none⟩ = some (.int .i64 x.val.bits) := k0 10
  clear k0
  go_upto_region 4 with (first | (go_at_call 43; (refine HV.out.mono ?_; rintro e w1 ⟨rfl, hb1⟩; have k1 := KC.out w1 hb1; have d20 : w1.cell? ⟨w.heap.size, 20, none⟩ = some (.bool x.sized) := k1 20; clear k1; have hr := (hb1.block _ (lt_of_row HR.out)).trans HR.out)) | fail)
  clear c0 c2 c3 c4 c5 c6 c7 c8 c9 c10 d20 t4
  go_wp2_with (first | (refine wpList_store_row rfl 56 _ _ rfl (w.heap.size + 1) _ rfl rfl 56 _ hr (by kernel_rfl) rfl (by simp [Value.oneCell']) ?_) | fail)
  refine bodyPost_ret (results_row_tmp rfl _ _ _ (w.heap.size + 1) _ _ _ _ rfl (setRow_heap _ _ _ #[.string ⟨#[]⟩, .int .i64 0] _ _ hr) Tryz.underlying56 (by kernel_rfl)) rfl ?_
  exact ⟨⟨⟨#[]⟩, 0, rfl⟩, below_setRow (HB.out.trans (hb1.mono HB.out.size)) (by omega) _⟩
set_option maxRecDepth 100000 in
set_option maxHeartbeats 8000000 in
theorem fld_size_kind (f : Nat) (x : Fd) (vo : Option Addr) (vc : Nat) (so : Option Addr) (sc : Nat) (w : World) (hvv : validF (f + 1) x.val = true) (hsz : x.sized = true) (hsk : x.size.kind ≠ 1) (h4 : x.type ≠ 4)
    (hv : SlAt w 9 (TmAt w f) vo x.val.items) (hs : SlAt w 9 (TmAt w f) so x.size.items) (hok1 : x.val.Ok) (hok2 : x.size.Ok) (hc1 : (capF (f + 1) x.val : Int) ≤ 1152921504606846976) (hc2 : (capF (f + 1) x.size : Int) ≤ 1152921504606846976) :
    Calls Tryz.prog 28 #[.agg (fdRow x vo vc so sc)] w (FdPost none w) := by
  have HB := Lib.hid (two_below w (.cells (fdRow x vo vc so sc) 30) (.cells #[.string ⟨#[]⟩, .int .i64 0] 56))
  have HR := Lib.hid (two1 w (.cells (fdRow x vo vc so sc) 30) (.cells #[.string ⟨#[]⟩, .int .i64 0] 56))
  have HR0 := Lib.hid (two0 w (.cells (fdRow x vo vc so sc) 30) (.cells #[.string ⟨#[]⟩, .int .i64 0] 56))
  have HV := Lib.hid (tvalid_any f x.val vo vc _ (hv.tms HB.out) hok1 hc1)
  rw [hvv] at HV
  have HS := Lib.hid (fun wx (hx : Below w.heap.size w wx) => tvalid_any f x.size so sc wx (hs.tms hx) hok2 hc2)
  have HSZ := Lib.hid hsz
  have tk : (x.size.kind != 1) = true := by simpa using hsk
  have t4 : (x.type == 4) = false := by simpa using h4
  clear h4
  clear hv hs hok1 hok2 hc1 hc2 hvv hsz hsk
  go_enter Tryz.func28, Tryz.ntmps28
  generalize hW : (w.alloc (.cells (fdRow x vo vc so sc) 30)).alloc (.cells #[.string ⟨#[]⟩, .int .i64 0] 56) = W at *
  have KC : Hid (∀ wx : World, Below W.heap.size W wx → ∀ j, wx.cell? ⟨w.heap.size, j, none⟩ = (fdRow x vo vc so sc)[j]?) := Lib.hid (fun wx hx j => by rw [cell_of_row _ _ _ _ _ _ ((hx.block _ (lt_of_row HR0.out)).trans HR0.out)])
  have k0 := KC.out W (Below.refl _ _)
  have c0 : W.cell? ⟨w.heap.size, 0, none⟩ = some (.int .i64 x.type) := k0 0
  have c2 : W.cell? ⟨w.heap.size, 2, none⟩ = some (.int .i64 x.val.kind) := k0 2
  have c3 : W.cell? ⟨w.heap.size, 3, none⟩ = some (.int .i64 x.val.int) := k0 3
  have c4 : W.cell? ⟨w.heap.size, 4, none⟩ = some (.int .i64 x.val.gen) := k0 4
  have c5 : W.cell? ⟨w.heap.size, 5, none⟩ = some (.string x.val.name) := k0 5
  have c6 : W.cell? ⟨w.heap.size, 6, none⟩ = some (.string x.val.func) := k0 6
  have c7 : W.cell? ⟨w.heap.size, 7, none⟩ = some (.int .i64 x.val.arity) := k0 7
  have c8 : W.cell? ⟨w.heap.size, 8, none⟩ = some (.slice vo x.val.items.length vc) := k0 8
  have c9 : W.cell? ⟨w.heap.size, 9, none⟩ = some (.string x.val.bytes) := k0 9
  have c10 : W.cell? ⟨w.heap.size, 10, none⟩ = some (.int .i64 x.val.bits) := k0 10
  clear k0
  go_upto_region 4 with (first | (go_at_call 43; (refine HV.out.mono ?_; rintro e w1 ⟨rfl, hb1⟩; have k1 := KC.out w1 hb1; have d20 : w1.cell? ⟨w.heap.size, 20, none⟩ = some (.bool true) := (k1 20).trans (show some (Value.bool x.sized) = some (.bool true) by rw [HSZ.out]); have d11 : w1.cell? ⟨w.heap.size, 11, none⟩ = some (.int .i64 x.size.kind) := k1 11; have d12 : w1.cell? ⟨w.heap.size, 12, none⟩ = some (.int .i64 x.size.int) := k1 12; have d13 : w1.cell? ⟨w.heap.size, 13, none⟩ = some (.int .i64 x.size.gen) := k1 13; have d14 : w1.cell? ⟨w.heap.size, 14, none⟩ = some (.string x.size.name) := k1 14; have d15 : w1.cell? ⟨w.heap.size, 15, none⟩ = some (.string x.size.func) := k1 15; have d16 : w1.cell? ⟨w.heap.size, 16, none⟩ = some (.int .i64 x.size.arity) := k1 16; have d17 : w1.cell? ⟨w.heap.size, 17, none⟩ = some (.slice so x.size.items.length sc) := k1 17; have d18 : w1.cell? ⟨w.heap.size, 18, none⟩ = some (.string x.size.bytes) := k1 18; have d19 : w1.cell? ⟨w.heap.size, 19, none⟩ = some (.int .i64 x.size.bits) := k1 19; clear k1; have hr := (hb1.block _ (lt_of_row HR.out)).trans HR.out)) | fail)
  clear c0 c2 c3 c4 c5 c6 c7 c8 c9 c10
  go_wp2_with (first | (refine wpList_store_row rfl 56 _ _ rfl (w.heap.size + 1) _ rfl rfl 56 _ hr (by kernel_rfl) rfl (by simp [Value.oneCell']) ?_) | fail)
  refine bodyPost_ret (results_row_tmp rfl _ _ _ (w.heap.size + 1) _ _ _ _ rfl (setRow_heap _ _ _ #[.string ⟨#[]⟩, .int .i64 0] _ _ hr) Tryz.underlying56 (by kernel_rfl)) rfl ?_
  exact ⟨⟨⟨#[]⟩, 0, rfl⟩, below_setRow (HB.out.trans (hb1.mono HB.out.size)) (by omega) _⟩
set_option maxRecDepth 100000 in
set_option maxHeartbeats 8000000 in
theorem fld_size_valid (f : Nat) (x : Fd) (vo : Option Addr) (vc : Nat) (so : Option Addr) (sc : Nat) (w : World) (hvv : validF (f + 1) x.val = true) (hsz : x.sized = true) (hsk : x.size.kind = 1) (hsv : validF (f + 1) x.size = false) (h4 : x.type ≠ 4)
    (hv : SlAt w 9 (TmAt w f) vo x.val.items) (hs : SlAt w 9 (TmAt w f) so x.size.items) (hok1 : x.val.Ok) (hok2 : x.size.Ok) (hc1 : (capF (f + 1) x.val : Int) ≤ 1152921504606846976) (hc2 : (capF (f + 1) x.size : Int) ≤ 1152921504606846976) :
    Calls Tryz.prog 28 #[.agg (fdRow x vo vc so sc)] w (FdPost none w) := by
  have HB := Lib.hid (two_below w (.cells (fdRow x vo vc so sc) 30) (.cells #[.string ⟨#[]⟩, .int .i64 0] 56))
  have HR := Lib.hid (two1 w (.cells (fdRow x vo vc so sc) 30) (.cells #[.string ⟨#[]⟩, .int .i64 0] 56))
  have HR0 := Lib.hid (two0 w (.cells (fdRow x vo vc so sc) 30) (.cells #[.string ⟨#[]⟩, .int .i64 0] 56))
  have HV := Lib.hid (tvalid_any f x.val vo vc _ (hv.tms HB.out) hok1 hc1)
  rw [hvv] at HV
  have HS := Lib.hid (fun wx (hx : Below w.heap.size w wx) => tvalid_any f x.size so sc wx (hs.tms hx) hok2 hc2)
  rw [hsv] at HS
  have HSZ := Lib.hid hsz
  have HSK := Lib.hid hsk
  have t4 : (x.type == 4) = false := by simpa using h4
  clear h4
  clear hv hs hok1 hok2 hc1 hc2 hvv hsz hsk hsv
  go_enter Tryz.func28, Tryz.ntmps28
  generalize hW : (w.alloc (.cells (fdRow x vo vc so sc) 30)).alloc (.cells #[.string ⟨#[]⟩, .int .i64 0] 56) = W at *
  have KC : Hid (∀ wx : World, Below W.heap.size W wx → ∀ j, wx.cell? ⟨w.heap.size, j, none⟩ = (fdRow x vo vc so sc)[j]?) := Lib.hid (fun wx hx j => by rw [cell_of_row _ _ _ _ _ _ ((hx.block _ (lt_of_row HR0.out)).trans HR0.out)])
  have k0 := KC.out W (Below.refl _ _)
  have c0 : W.cell? ⟨w.heap.size, 0, none⟩ = some (.int .i64 x.type) := k0 0
  have c2 : W.cell? ⟨w.heap.size, 2, none⟩ = some (.int .i64 x.val.kind) := k0 2
  have c3 : W.cell? ⟨w.heap.size, 3, none⟩ = some (.int .i64 x.val.int) := k0 3
  have c4 : W.cell? ⟨w.heap.size, 4, none⟩ = some (.int .i64 x.val.gen) := k0 4
  have c5 : W.cell? ⟨w.heap.size, 5, none⟩ = some (.string x.val.name) := k0 5
  have c6 : W.cell? ⟨w.heap.size, 6, none⟩ = some (.string x.val.func) := k0 6
  have c7 : W.cell? ⟨w.heap.size, 7, none⟩ = some (.int .i64 x.val.arity) := k0 7
  have c8 : W.cell? ⟨w.heap.size, 8, none⟩ = some (.slice vo x.val.items.length vc) := k0 8
  have c9 : W.cell? ⟨w.heap.size, 9, none⟩ = some (.string x.val.bytes) := k0 9
  have c10 : W.cell? ⟨w.heap.size, 10, none⟩ = some (.int .i64 x.val.bits) := k0 10
  clear k0
  rw [HSK.out] at HS
  go_upto_region 4 with (first | (go_at_call 43; (first | (refine HV.out.mono ?_; rintro e w1 ⟨rfl, hb1⟩; have k1 := KC.out w1 hb1; have d20 : w1.cell? ⟨w.heap.size, 20, none⟩ = some (.bool true) := (k1 20).trans (show some (Value.bool x.sized) = some (.bool true) by rw [HSZ.out]); have d11 : w1.cell? ⟨w.heap.size, 11, none⟩ = some (.int .i64 1) := (k1 11).trans (show some (Value.int .i64 x.size.kind) = some (.int .i64 1) by rw [HSK.out]); have d12 : w1.cell? ⟨w.heap.size, 12, none⟩ = some (.int .i64 x.size.int) := k1 12; have d13 : w1.cell? ⟨w.heap.size, 13, none⟩ = some (.int .i64 x.size.gen) := k1 13; have d14 : w1.cell? ⟨w.heap.size, 14, none⟩ = some (.string x.size.name) := k1 14; have d15 : w1.cell? ⟨w.heap.size, 15, none⟩ = some (.string x.size.func) := k1 15; have d16 : w1.cell? ⟨w.heap.size, 16, none⟩ = some (.int .i64 x.size.arity) := k1 16; have d17 : w1.cell? ⟨w.heap.size, 17, none⟩ = some (.slice so x.size.items.length sc) := k1 17; have d18 : w1.cell? ⟨w.heap.size, 18, none⟩ = some (.string x.size.bytes) := k1 18; have d19 : w1.cell? ⟨w.heap.size, 19, none⟩ = some (.int .i64 x.size.bits) := k1 19; clear k1; have hr := (hb1.block _ (lt_of_row HR.out)).trans HR.out) | (refine (HS.out w1 (HB.out.trans (hb1.mono HB.out.size))).mono ?_; rintro e w2 ⟨rfl, hb2⟩; have hb12 := below_next hb1 hb2; have k2 := KC.out w2 hb12; have e0 : w2.cell? ⟨w.heap.size, 0, none⟩ = some (.int .i64 x.type) := k2 0; have e2 : w2.cell? ⟨w.heap.size, 2, none⟩ = some (.int .i64 x.val.kind) := k2 2; have e12 : w2.cell? ⟨w.heap.size, 12, none⟩ = some (.int .i64 x.size.int) := k2 12; have e20 : w2.cell? ⟨w.heap.size, 20, none⟩ = some (.bool true) := (k2 20).trans (show some (Value.bool x.sized) = some (.bool true) by rw [HSZ.out]); clear k2; have hr := (hb12.block _ (lt_of_row HR.out)).trans HR.out))) | fail)
  clear c0 c2 c3 c4 c5 c6 c7 c8 c9 c10
  go_wp2_with (first | (refine wpList_store_row rfl 56 _ _ rfl (w.heap.size + 1) _ rfl rfl 56 _ hr (by kernel_rfl) rfl (by simp [Value.oneCell']) ?_) | fail)
  refine bodyPost_ret (results_row_tmp rfl _ _ _ (w.heap.size + 1) _ _ _ _ rfl (setRow_heap _ _ _ #[.string ⟨#[]⟩, .int .i64 0] _ _ hr) Tryz.underlying56 (by kernel_rfl)) rfl ?_
  exact ⟨⟨⟨#[]⟩, 0, rfl⟩, below_setRow (HB.out.trans (hb12.mono HB.out.size)) (by omega) _⟩
set_option maxRecDepth 100000 in
set_option maxHeartbeats 8000000 in
theorem fld_size_range (f : Nat) (x : Fd) (vo : Option Addr) (vc : Nat) (so : Option Addr) (sc : Nat) (w : World) (hvv : validF (f + 1) x.val = true) (hsz : x.sized = true) (hsk : x.size.kind = 1) (hsv : validF (f + 1) x.size = true) (hr : x.size.int < 0 ∨ 16384 < x.size.int) (h4 : x.type ≠ 4)
    (hv : SlAt w 9 (TmAt w f) vo x.val.items) (hs : SlAt w 9 (TmAt w f) so x.size.items) (hok1 : x.val.Ok) (hok2 : x.size.Ok) (hc1 : (capF (f + 1) x.val : Int) ≤ 1152921504606846976) (hc2 : (capF (f + 1) x.size : Int) ≤ 1152921504606846976) :
    Calls Tryz.prog 28 #[.agg (fdRow x vo vc so sc)] w (FdPost none w) := by
  have HB := Lib.hid (two_below w (.cells (fdRow x vo vc so sc) 30) (.cells #[.string ⟨#[]⟩, .int .i64 0] 56))
  have HR := Lib.hid (two1 w (.cells (fdRow x vo vc so sc) 30) (.cells #[.string ⟨#[]⟩, .int .i64 0] 56))
  have HR0 := Lib.hid (two0 w (.cells (fdRow x vo vc so sc) 30) (.cells #[.string ⟨#[]⟩, .int .i64 0] 56))
  have HV := Lib.hid (tvalid_any f x.val vo vc _ (hv.tms HB.out) hok1 hc1)
  rw [hvv] at HV
  have HS := Lib.hid (fun wx (hx : Below w.heap.size w wx) => tvalid_any f x.size so sc wx (hs.tms hx) hok2 hc2)
  rw [hsv] at HS
  have HSZ := Lib.hid hsz
  have HSK := Lib.hid hsk
  have HRG := Lib.hid hr
  have t4 : (x.type == 4) = false := by simpa using h4
  clear h4
  clear hv hs hok1 hok2 hc1 hc2 hvv hsz hsk hsv hr
  go_enter Tryz.func28, Tryz.ntmps28
  generalize hW : (w.alloc (.cells (fdRow x vo vc so sc) 30)).alloc (.cells #[.string ⟨#[]⟩, .int .i64 0] 56) = W at *
  have KC : Hid (∀ wx : World, Below W.heap.size W wx → ∀ j, wx.cell? ⟨w.heap.size, j, none⟩ = (fdRow x vo vc so sc)[j]?) := Lib.hid (fun wx hx j => by rw [cell_of_row _ _ _ _ _ _ ((hx.block _ (lt_of_row HR0.out)).trans HR0.out)])
  have k0 := KC.out W (Below.refl _ _)
  have c0 : W.cell? ⟨w.heap.size, 0, none⟩ = some (.int .i64 x.type) := k0 0
  have c2 : W.cell? ⟨w.heap.size, 2, none⟩ = some (.int .i64 x.val.kind) := k0 2
  have c3 : W.cell? ⟨w.heap.size, 3, none⟩ = some (.int .i64 x.val.int) := k0 3
  have c4 : W.cell? ⟨w.heap.size, 4, none⟩ = some (.int .i64 x.val.gen) := k0 4
  have c5 : W.cell? ⟨w.heap.size, 5, none⟩ = some (.string x.val.name) := k0 5
  have c6 : W.cell? ⟨w.heap.size, 6, none⟩ = some (.string x.val.func) := k0 6
  have c7 : W.cell? ⟨w.heap.size, 7, none⟩ = some (.int .i64 x.val.arity) := k0 7
  have c8 : W.cell? ⟨w.heap.size, 8, none⟩ = some (.slice vo x.val.items.length vc) := k0 8
  have c9 : W.cell? ⟨w.heap.size, 9, none⟩ = some (.string x.val.bytes) := k0 9
  have c10 : W.cell? ⟨w.heap.size, 10, none⟩ = some (.int .i64 x.val.bits) := k0 10
  clear k0
  rw [HSK.out] at HS
  rcases HRG.out with h | h
  · have r1 : decide (x.size.int < 0) = true := decide_eq_true h
    clear h
    go_upto_region 4 with (first | (go_at_call 43; (first | (refine HV.out.mono ?_; rintro e w1 ⟨rfl, hb1⟩; have k1 := KC.out w1 hb1; have d20 : w1.cell? ⟨w.heap.size, 20, none⟩ = some (.bool true) := (k1 20).trans (show some (Value.bool x.sized) = some (.bool true) by rw [HSZ.out]); have d11 : w1.cell? ⟨w.heap.size, 11, none⟩ = some (.int .i64 1) := (k1 11).trans (show some (Value.int .i64 x.size.kind) = some (.int .i64 1) by rw [HSK.out]); have d12 : w1.cell? ⟨w.heap.size, 12, none⟩ = some (.int .i64 x.size.int) := k1 12; have d13 : w1.cell? ⟨w.heap.size, 13, none⟩ = some (.int .i64 x.size.gen) := k1 13; have d14 : w1.cell? ⟨w.heap.size, 14, none⟩ = some (.string x.size.name) := k1 14; have d15 : w1.cell? ⟨w.heap.size, 15, none⟩ = some (.string x.size.func) := k1 15; have d16 : w1.cell? ⟨w.heap.size, 16, none⟩ = some (.int .i64 x.size.arity) := k1 16; have d17 : w1.cell? ⟨w.heap.size, 17, none⟩ = some (.slice so x.size.items.length sc) := k1 17; have d18 : w1.cell? ⟨w.heap.size, 18, none⟩ = some (.string x.size.bytes) := k1 18; have d19 : w1.cell? ⟨w.heap.size, 19, none⟩ = some (.int .i64 x.size.bits) := k1 19; clear k1; have hr := (hb1.block _ (lt_of_row HR.out)).trans HR.out) | (refine (HS.out w1 (HB.out.trans (hb1.mono HB.out.size))).mono ?_; rintro e w2 ⟨rfl, hb2⟩; have hb12 := below_next hb1 hb2; have k2 := KC.out w2 hb12; have e0 : w2.cell? ⟨w.heap.size, 0, none⟩ = some (.int .i64 x.type) := k2 0; have e2 : w2.cell? ⟨w.heap.size, 2, none⟩ = some (.int .i64 x.val.kind) := k2 2; have e12 : w2.cell? ⟨w.heap.size, 12, none⟩ = some (.int .i64 x.size.int) := k2 12; have e20 : w2.cell? ⟨w.heap.size, 20, none⟩ = some (.bool true) := (k2 20).trans (show some (Value.bool x.sized) = some (.bool true) by rw [HSZ.out]); clear k2; have hr := (hb12.block _ (lt_of_row HR.out)).trans HR.out))) | fail)
    clear c0 c2 c3 c4 c5 c6 c7 c8 c9 c10
    go_wp2_with (first | (refine wpList_store_row rfl 56 _ _ rfl (w.heap.size + 1) _ rfl rfl 56 _ hr (by kernel_rfl) rfl (by simp [Value.oneCell']) ?_) | fail)
    refine bodyPost_ret (results_row_tmp rfl _ _ _ (w.heap.size + 1) _ _ _ _ rfl (setRow_heap _ _ _ #[.string ⟨#[]⟩, .int .i64 0] _ _ hr) Tryz.underlying56 (by kernel_rfl)) rfl ?_
    exact ⟨⟨⟨#[]⟩, 0, rfl⟩, below_setRow (HB.out.trans (hb12.mono HB.out.size)) (by omega) _⟩
  · have r1 : decide (x.size.int < 0) = false := decide_eq_false (by omega)
    have r2 : decide (16384 < x.size.int) = true := decide_eq_true h
    clear h
    go_upto_region 4 with (first | (go_at_call 43; (first | (refine HV.out.mono ?_; rintro e w1 ⟨rfl, hb1⟩; have k1 := KC.out w1 hb1; have d20 : w1.cell? ⟨w.heap.size, 20, none⟩ = some (.bool true) := (k1 20).trans (show some (Value.bool x.sized) = some (.bool true) by rw [HSZ.out]); have d11 : w1.cell? ⟨w.heap.size, 11, none⟩ = some (.int .i64 1) := (k1 11).trans (show some (Value.int .i64 x.size.kind) = some (.int .i64 1) by rw [HSK.out]); have d12 : w1.cell? ⟨w.heap.size, 12, none⟩ = some (.int .i64 x.size.int) := k1 12; have d13 : w1.cell? ⟨w.heap.size, 13, none⟩ = some (.int .i64 x.size.gen) := k1 13; have d14 : w1.cell? ⟨w.heap.size, 14, none⟩ = some (.string x.size.name) := k1 14; have d15 : w1.cell? ⟨w.heap.size, 15, none⟩ = some (.string x.size.func) := k1 15; have d16 : w1.cell? ⟨w.heap.size, 16, none⟩ = some (.int .i64 x.size.arity) := k1 16; have d17 : w1.cell? ⟨w.heap.size, 17, none⟩ = some (.slice so x.size.items.length sc) := k1 17; have d18 : w1.cell? ⟨w.heap.size, 18, none⟩ = some (.string x.size.bytes) := k1 18; have d19 : w1.cell? ⟨w.heap.size, 19, none⟩ = some (.int .i64 x.size.bits) := k1 19; clear k1; have hr := (hb1.block _ (lt_of_row HR.out)).trans HR.out) | (refine (HS.out w1 (HB.out.trans (hb1.mono HB.out.size))).mono ?_; rintro e w2 ⟨rfl, hb2⟩; have hb12 := below_next hb1 hb2; have k2 := KC.out w2 hb12; have e0 : w2.cell? ⟨w.heap.size, 0, none⟩ = some (.int .i64 x.type) := k2 0; have e2 : w2.cell? ⟨w.heap.size, 2, none⟩ = some (.int .i64 x.val.kind) := k2 2; have e12 : w2.cell? ⟨w.heap.size, 12, none⟩ = some (.int .i64 x.size.int) := k2 12; have e20 : w2.cell? ⟨w.heap.size, 20, none⟩ = some (.bool true) := (k2 20).trans (show some (Value.bool x.sized) = some (.bool true) by rw [HSZ.out]); clear k2; have hr := (hb12.block _ (lt_of_row HR.out)).trans HR.out))) | fail)
    clear c0 c2 c3 c4 c5 c6 c7 c8 c9 c10
    go_wp2_with (first | (refine wpList_store_row rfl 56 _ _ rfl (w.heap.size + 1) _ rfl rfl 56 _ hr (by kernel_rfl) rfl (by simp [Value.oneCell']) ?_) | fail)
    refine bodyPost_ret (results_row_tmp rfl _ _ _ (w.heap.size + 1) _ _ _ _ rfl (setRow_heap _ _ _ #[.string ⟨#[]⟩, .int .i64 0] _ _ hr) Tryz.underlying56 (by kernel_rfl)) rfl ?_
    exact ⟨⟨⟨#[]⟩, 0, rfl⟩, below_setRow (HB.out.trans (hb12.mono HB.out.size)) (by omega) _⟩
set_option maxRecDepth 100000 in
set_option maxHeartbeats 8000000 in
theorem fld_misfit1U (f : Nat) (x : Fd) (vo : Option Addr) (vc : Nat) (so : Option Addr) (sc : Nat) (w : World) (ht : x.type = 1) (hvv : validF (f + 1) x.val = true) (hsz : x.sized = false) (h1 : x.val.kind ≠ 1)
    (hv : SlAt w 9 (TmAt w f) vo x.val.items) (hs : SlAt w 9 (TmAt w f) so x.size.items) (hok1 : x.val.Ok) (hok2 : x.size.Ok) (hc1 : (capF (f + 1) x.val : Int) ≤ 1152921504606846976) (hc2 : (capF (f + 1) x.size : Int) ≤ 1152921504606846976) :
    Calls Tryz.prog 28 #[.agg (fdRow x vo vc so sc)] w (FdPost none w) := by
  have HB := Lib.hid (two_below w (.cells (fdRow x vo vc so sc) 30) (.cells #[.string ⟨#[]⟩, .int .i64 0] 56))
  have HR := Lib.hid (two1 w (.cells (fdRow x vo vc so sc) 30) (.cells #[.string ⟨#[]⟩, .int .i64 0] 56))
  have HR0 := Lib.hid (two0 w (.cells (fdRow x vo vc so sc) 30) (.cells #[.string ⟨#[]⟩, .int .i64 0] 56))
  have HV := Lib.hid (tvalid_any f x.val vo vc _ (hv.tms HB.out) hok1 hc1)
  rw [hvv] at HV
  have HS := Lib.hid (fun wx (hx : Below w.heap.size w wx) => tvalid_any f x.size so sc wx (hs.tms hx) hok2 hc2)
  have HSZ := Lib.hid hsz
  have HTY := Lib.hid ht
  have v1 : (x.val.kind == 1) = false := by simpa using h1
  clear h1
  clear hv hs hok1 hok2 hc1 hc2 hvv hsz ht
  go_enter Tryz.func28, Tryz.ntmps28
  generalize hW : (w.alloc (.cells (fdRow x vo vc so sc) 30)).alloc (.cells #[.string ⟨#[]⟩, .int .i64 0] 56) = W at *
  have KC : Hid (∀ wx : World, Below W.heap.size W wx → ∀ j, wx.cell? ⟨w.heap.size, j, none⟩ = (fdRow x vo vc so sc)[j]?) := Lib.hid (fun wx hx j => by rw [cell_of_row _ _ _ _ _ _ ((hx.block _ (lt_of_row HR0.out)).trans HR0.out)])
  have k0 := KC.out W (Below.refl _ _)
  have c0 : W.cell? ⟨w.heap.size, 0, none⟩ = some (.int .i64 1) := (k0 0).trans (show some (Value.int .i64 x.type) = some (.int .i64 1) by rw [HTY.out])
  have c2 : W.cell? ⟨w.heap.size, 2, none⟩ = some (.int .i64 x.val.kind) := k0 2
  have c3 : W.cell? ⟨w.heap.size, 3, none⟩ = some (.int .i64 x.val.int) := k0 3
  have c4 : W.cell? ⟨w.heap.size, 4, none⟩ = some (.int .i64 x.val.gen) := k0 4
  have c5 : W.cell? ⟨w.heap.size, 5, none⟩ = some (.string x.val.name) := k0 5
  have c6 : W.cell? ⟨w.heap.size, 6, none⟩ = some (.string x.val.func) := k0 6
  have c7 : W.cell? ⟨w.heap.size, 7, none⟩ = some (.int .i64 x.val.arity) := k0 7
  have c8 : W.cell? ⟨w.heap.size, 8, none⟩ = some (.slice vo x.val.items.length vc) := k0 8
  have c9 : W.cell? ⟨w.heap.size, 9, none⟩ = some (.string x.val.bytes) := k0 9
  have c10 : W.cell? ⟨w.heap.size, 10, none⟩ = some (.int .i64 x.val.bits) := k0 10
  clear k0
  go_upto_region 20 with (first | (go_at_call 43; (refine HV.out.mono ?_; rintro e w1 ⟨rfl, hb1⟩; have k1 := KC.out w1 hb1; have d20 : w1.cell? ⟨w.heap.size, 20, none⟩ = some (.bool false) := (k1 20).trans (show some (Value.bool x.sized) = some (.bool false) by rw [HSZ.out]); have d0 : w1.cell? ⟨w.heap.size, 0, none⟩ = some (.int .i64 1) := (k1 0).trans (show some (Value.int .i64 x.type) = some (.int .i64 1) by rw [HTY.out]); have d2 : w1.cell? ⟨w.heap.size, 2, none⟩ = some (.int .i64 x.val.kind) := k1 2; have d12 : w1.cell? ⟨w.heap.size, 12, none⟩ = some (.int .i64 x.size.int) := k1 12; clear k1; have hr := (hb1.block _ (lt_of_row HR.out)).trans HR.out)) | fail)
  clear c0 c2 c3 c4 c5 c6 c7 c8 c9 c10 d0 d2 d12 d20 v1
  go_wp2_with (first | (refine wpList_store_row rfl 56 _ _ rfl (w.heap.size + 1) _ rfl rfl 56 _ hr (by kernel_rfl) rfl (by simp [Value.oneCell']) ?_) | fail)
  refine bodyPost_ret (results_row_tmp rfl _ _ _ (w.heap.size + 1) _ _ _ _ rfl (setRow_heap _ _ _ #[.string ⟨#[]⟩, .int .i64 0] _ _ hr) Tryz.underlying56 (by kernel_rfl)) rfl ?_
  exact ⟨⟨⟨#[]⟩, 0, rfl⟩, below_setRow (HB.out.trans (hb1.mono HB.out.size)) (by omega) _⟩
set_option maxRecDepth 100000 in
set_option maxHeartbeats 8000000 in
theorem fld_misfit2U (f : Nat) (x : Fd) (vo : Option Addr) (vc : Nat) (so : Option Addr) (sc : Nat) (w : World) (ht : x.type = 2) (hvv : validF (f + 1) x.val = true) (hsz : x.sized = false) (h1 : x.val.kind ≠ 10)
    (hv : SlAt w 9 (TmAt w f) vo x.val.items) (hs : SlAt w 9 (TmAt w f) so x.size.items) (hok1 : x.val.Ok) (hok2 : x.size.Ok) (hc1 : (capF (f + 1) x.val : Int) ≤ 1152921504606846976) (hc2 : (capF (f + 1) x.size : Int) ≤ 1152921504606846976) :
    Calls Tryz.prog 28 #[.agg (fdRow x vo vc so sc)] w (FdPost none w) := by
  have HB := Lib.hid (two_below w (.cells (fdRow x vo vc so sc) 30) (.cells #[.string ⟨#[]⟩, .int .i64 0] 56))
  have HR := Lib.hid (two1 w (.cells (fdRow x vo vc so sc) 30) (.cells #[.string ⟨#[]⟩, .int .i64 0] 56))
  have HR0 := Lib.hid (two0 w (.cells (fdRow x vo vc so sc) 30) (.cells #[.string ⟨#[]⟩, .int .i64 0] 56))
  have HV := Lib.hid (tvalid_any f x.val vo vc _ (hv.tms HB.out) hok1 hc1)
  rw [hvv] at HV
  have HS := Lib.hid (fun wx (hx : Below w.heap.size w wx) => tvalid_any f x.size so sc wx (hs.tms hx) hok2 hc2)
  have HSZ := Lib.hid hsz
  have HTY := Lib.hid ht
  have v1 : (x.val.kind == 10) = false := by simpa using h1
  clear h1
  clear hv hs hok1 hok2 hc1 hc2 hvv hsz ht
  go_enter Tryz.func28, Tryz.ntmps28
  generalize hW : (w.alloc (.cells (fdRow x vo vc so sc) 30)).alloc (.cells #[.string ⟨#[]⟩, .int .i64 0] 56) = W at *
  have KC : Hid (∀ wx : World, Below W.heap.size W wx → ∀ j, wx.cell? ⟨w.heap.size, j, none⟩ = (fdRow x vo vc so sc)[j]?) := Lib.hid (fun wx hx j => by rw [cell_of_row _ _ _ _ _ _ ((hx.block _ (lt_of_row HR0.out)).trans HR0.out)])
  have k0 := KC.out W (Below.refl _ _)
  have c0 : W.cell? ⟨w.heap.size, 0, none⟩ = some (.int .i64 2) := (k0 0).trans (show some (Value.int .i64 x.type) = some (.int .i64 2) by rw [HTY.out])
  have c2 : W.cell? ⟨w.heap.size, 2, none⟩ = some (.int .i64 x.val.kind) := k0 2
  have c3 : W.cell? ⟨w.heap.size, 3, none⟩ = some (.int .i64 x.val.int) := k0 3
  have c4 : W.cell? ⟨w.heap.size, 4, none⟩ = some (.int .i64 x.val.gen) := k0 4
  have c5 : W.cell? ⟨w.heap.size, 5, none⟩ = some (.string x.val.name) := k0 5
  have c6 : W.cell? ⟨w.heap.size, 6, none⟩ = some (.string x.val.func) := k0 6
  have c7 : W.cell? ⟨w.heap.size, 7, none⟩ = some (.int .i64 x.val.arity) := k0 7
  have c8 : W.cell? ⟨w.heap.size, 8, none⟩ = some (.slice vo x.val.items.length vc) := k0 8
  have c9 : W.cell? ⟨w.heap.size, 9, none⟩ = some (.string x.val.bytes) := k0 9
  have c10 : W.cell? ⟨w.heap.size, 10, none⟩ = some (.int .i64 x.val.bits) := k0 10
  clear k0
  go_upto_region 20 with (first | (go_at_call 43; (refine HV.out.mono ?_; rintro e w1 ⟨rfl, hb1⟩; have k1 := KC.out w1 hb1; have d20 : w1.cell? ⟨w.heap.size, 20, none⟩ = some (.bool false) := (k1 20).trans (show some (Value.bool x.sized) = some (.bool false) by rw [HSZ.out]); have d0 : w1.cell? ⟨w.heap.size, 0, none⟩ = some (.int .i64 2) := (k1 0).trans (show some (Value.int .i64 x.type) = some (.int .i64 2) by rw [HTY.out]); have d2 : w1.cell? ⟨w.heap.size, 2, none⟩ = some (.int .i64 x.val.kind) := k1 2; have d12 : w1.cell? ⟨w.heap.size, 12, none⟩ = some (.int .i64 x.size.int) := k1 12; clear k1; have hr := (hb1.block _ (lt_of_row HR.out)).trans HR.out)) | fail)
  clear c0 c2 c3 c4 c5 c6 c7 c8 c9 c10 d0 d2 d12 d20 v1
  go_wp2_with (first | (refine wpList_store_row rfl 56 _ _ rfl (w.heap.size + 1) _ rfl rfl 56 _ hr (by kernel_rfl) rfl (by simp [Value.oneCell']) ?_) | fail)
  refine bodyPost_ret (results_row_tmp rfl _ _ _ (w.heap.size + 1) _ _ _ _ rfl (setRow_heap _ _ _ #[.string ⟨#[]⟩, .int .i64 0] _ _ hr) Tryz.underlying56 (by kernel_rfl)) rfl ?_
  exact ⟨⟨⟨#[]⟩, 0, rfl⟩, below_setRow (HB.out.trans (hb1.mono HB.out.size)) (by omega) _⟩
set_option maxRecDepth 100000 in
set_option maxHeartbeats 8000000 in
theorem fld_misfit3U (f : Nat) (x : Fd) (vo : Option Addr) (vc : Nat) (so : Option Addr) (sc : Nat) (w : World) (ht : x.type = 3) (hvv : validF (f + 1) x.val = true) (hsz : x.sized = false) (h1 : x.val.kind ≠ 10)
    (hv : SlAt w 9 (TmAt w f) vo x.val.items) (hs : SlAt w 9 (TmAt w f) so x.size.items) (hok1 : x.val.Ok) (hok2 : x.size.Ok) (hc1 : (capF (f + 1) x.val : Int) ≤ 1152921504606846976) (hc2 : (capF (f + 1) x.size : Int) ≤ 1152921504606846976) :
    Calls Tryz.prog 28 #[.agg (fdRow x vo vc so sc)] w (FdPost none w) := by
  have HB := Lib.hid (two_below w (.cells (fdRow x vo vc so sc) 30) (.cells #[.string ⟨#[]⟩, .int .i64 0] 56))
  have HR := Lib.hid (two1 w (.cells (fdRow x vo vc so sc) 30) (.cells #[.string ⟨#[]⟩, .int .i64 0] 56))
  have HR0 := Lib.hid (two0 w (.cells (fdRow x vo vc so sc) 30) (.cells #[.string ⟨#[]⟩, .int .i64 0] 56))
  have HV := Lib.hid (tvalid_any f x.val vo vc _ (hv.tms HB.out) hok1 hc1)
  rw [hvv] at HV
  have HS := Lib.hid (fun wx (hx : Below w.heap.size w wx) => tvalid_any f x.size so sc wx (hs.tms hx) hok2 hc2)
  have HSZ := Lib.hid hsz
  have HTY := Lib.hid ht
  have v1 : (x.val.kind == 10) = false := by simpa using h1
  clear h1
  clear hv hs hok1 hok2 hc1 hc2 hvv hsz ht
  go_enter Tryz.func28, Tryz.ntmps28
  generalize hW : (w.alloc (.cells (fdRow x vo vc so sc) 30)).alloc (.cells #[.string ⟨#[]⟩, .int .i64 0] 56) = W at *
  have KC : Hid (∀ wx : World, Below W.heap.size W wx → ∀ j, wx.cell? ⟨w.heap.size, j, none⟩ = (fdRow x vo vc so sc)[j]?) := Lib.hid (fun wx hx j => by rw [cell_of_row _ _ _ _ _ _ ((hx.block _ (lt_of_row HR0.out)).trans HR0.out)])
  have k0 := KC.out W (Below.refl _ _)
  have c0 : W.cell? ⟨w.heap.size, 0, none⟩ = some (.int .i64 3) := (k0 0).trans (show some (Value.int .i64 x.type) = some (.int .i64 3) by rw [HTY.out])
  have c2 : W.cell? ⟨w.heap.size, 2, none⟩ = some (.int .i64 x.val.kind) := k0 2
  have c3 : W.cell? ⟨w.heap.size, 3, none⟩ = some (.int .i64 x.val.int) := k0 3
  have c4 : W.cell? ⟨w.heap.size, 4, none⟩ = some (.int .i64 x.val.gen) := k0 4
  have c5 : W.cell? ⟨w.heap.size, 5, none⟩ = some (.string x.val.name) := k0 5
  have c6 : W.cell? ⟨w.heap.size, 6, none⟩ = some (.string x.val.func) := k0 6
  have c7 : W.cell? ⟨w.heap.size, 7, none⟩ = some (.int .i64 x.val.arity) := k0 7
  have c8 : W.cell? ⟨w.heap.size, 8, none⟩ = some (.slice vo x.val.items.length vc) := k0 8
  have c9 : W.cell? ⟨w.heap.size, 9, none⟩ = some (.string x.val.bytes) := k0 9
  have c10 : W.cell? ⟨w.heap.size, 10, none⟩ = some (.int .i64 x.val.bits) := k0 10
  clear k0
  go_upto_region 20 with (first | (go_at_call 43; (refine HV.out.mono ?_; rintro e w1 ⟨rfl, hb1⟩; have k1 := KC.out w1 hb1; have d20 : w1.cell? ⟨w.heap.size, 20, none⟩ = some (.bool false) := (k1 20).trans (show some (Value.bool x.sized) = some (.bool false) by rw [HSZ.out]); have d0 : w1.cell? ⟨w.heap.size, 0, none⟩ = some (.int .i64 3) := (k1 0).trans (show some (Value.int .i64 x.type) = some (.int .i64 3) by rw [HTY.out]); have d2 : w1.cell? ⟨w.heap.size, 2, none⟩ = some (.int .i64 x.val.kind) := k1 2; have d12 : w1.cell? ⟨w.heap.size, 12, none⟩ = some (.int .i64 x.size.int) := k1 12; clear k1; have hr := (hb1.block _ (lt_of_row HR.out)).trans HR.out)) | fail)
  clear c0 c2 c3 c4 c5 c6 c7 c8 c9 c10 d0 d2 d12 d20 v1
  go_wp2_with (first | (refine wpList_store_row rfl 56 _ _ rfl (w.heap.size + 1) _ rfl rfl 56 _ hr (by kernel_rfl) rfl (by simp [Value.oneCell']) ?_) | fail)
  refine bodyPost_ret (results_row_tmp rfl _ _ _ (w.heap.size + 1) _ _ _ _ rfl (setRow_heap _ _ _ #[.string ⟨#[]⟩, .int .i64 0] _ _ hr) Tryz.underlying56 (by kernel_rfl)) rfl ?_
  exact ⟨⟨⟨#[]⟩, 0, rfl⟩, below_setRow (HB.out.trans (hb1.mono HB.out.size)) (by omega) _⟩
set_option maxRecDepth 100000 in
set_option maxHeartbeats 8000000 in
theorem fld_misfit0U (f : Nat) (x : Fd) (vo : Option Addr) (vc : Nat) (so : Option Addr) (sc : Nat) (w : World) (hvv : validF (f + 1) x.val = true) (hsz : x.sized = false) (h4 : x.type ≠ 4) (h1 : x.type ≠ 1) (h2 : x.type ≠ 2) (h3 : x.type ≠ 3)
    (hv : SlAt w 9 (TmAt w f) vo x.val.items) (hs : SlAt w 9 (TmAt w f) so x.size.items) (hok1 : x.val.Ok) (hok2 : x.size.Ok) (hc1 : (capF (f + 1) x.val : Int) ≤ 1152921504606846976) (hc2 : (capF (f + 1) x.size : Int) ≤ 1152921504606846976) :
    Calls Tryz.prog 28 #[.agg (fdRow x vo vc so sc)] w (FdPost none w) := by
  have HB := Lib.hid (two_below w (.cells (fdRow x vo vc so sc) 30) (.cells #[.string ⟨#[]⟩, .int .i64 0] 56))
  have HR := Lib.hid (two1 w (.cells (fdRow x vo vc so sc) 30) (.cells #[.string ⟨#[]⟩, .int .i64 0] 56))
  have HR0 := Lib.hid (two0 w (.cells (fdRow x vo vc so sc) 30) (.cells #[.string ⟨#[]⟩, .int .i64 0] 56))
  have HV := Lib.hid (tvalid_any f x.val vo vc _ (hv.tms HB.out) hok1 hc1)
  rw [hvv] at HV
  have HS := Lib.hid (fun wx (hx : Below w.heap.size w wx) => tvalid_any f x.size so sc wx (hs.tms hx) hok2 hc2)
  have HSZ := Lib.hid hsz
  have u4 : (x.type == 4) = false := by simpa using h4
  clear h4
  have u1 : (x.type == 1) = false := by simpa using h1
  clear h1
  have u2 : (x.type == 2) = false := by simpa using h2
  clear h2
  have u3 : (x.type == 3) = false := by simpa using h3
  clear h3
  clear hv hs hok1 hok2 hc1 hc2 hvv hsz
  go_enter Tryz.func28, Tryz.ntmps28
  generalize hW : (w.alloc (.cells (fdRow x vo vc so sc) 30)).alloc (.cells #[.string ⟨#[]⟩, .int .i64 0] 56) = W at *
  have KC : Hid (∀ wx : World, Below W.heap.size W wx → ∀ j, wx.cell? ⟨w.heap.size, j, none⟩ = (fdRow x vo vc so sc)[j]?) := Lib.hid (fun wx hx j => by rw [cell_of_row _ _ _ _ _ _ ((hx.block _ (lt_of_row HR0.out)).trans HR0.out)])
  have k0 := KC.out W (Below.refl _ _)
  have c0 : W.cell? ⟨w.heap.size, 0, none⟩ = some (.int .i64 x.type) := k0 0
  have c2 : W.cell? ⟨w.heap.size, 2, none⟩ = some (.int .i64 x.val.kind) := k0 2
  have c3 : W.cell? ⟨w.heap.size, 3, none⟩ = some (.int .i64 x.val.int) := k0 3
  have c4 : W.cell? ⟨w.heap.size, 4, none⟩ = some (.int .i64 x.val.gen) := k0 4
  have c5 : W.cell? ⟨w.heap.size, 5, none⟩ = some (.string x.val.name) := k0 5
  have c6 : W.cell? ⟨w.heap.size, 6, none⟩ = some (.string x.val.func) := k0 6
  have c7 : W.cell? ⟨w.heap.size, 7, none⟩ = some (.int .i64 x.val.arity) := k0 7
  have c8 : W.cell? ⟨w.heap.size, 8, none⟩ = some (.slice vo x.val.items.length vc) := k0 8
  have c9 : W.cell? ⟨w.heap.size, 9, none⟩ = some (.string x.val.bytes) := k0 9
  have c10 : W.cell? ⟨w.heap.size, 10, none⟩ = some (.int .i64 x.val.bits) := k0 10
  clear k0
  go_upto_region 20 with (first | (go_at_call 43; (refine HV.out.mono ?_; rintro e w1 ⟨rfl, hb1⟩; have k1 := KC.out w1 hb1; have d20 : w1.cell? ⟨w.heap.size, 20, none⟩ = some (.bool false) := (k1 20).trans (show some (Value.bool x.sized) = some (.bool false) by rw [HSZ.out]); have d0 : w1.cell? ⟨w.heap.size, 0, none⟩ = some (.int .i64 x.type) := k1 0; have d2 : w1.cell? ⟨w.heap.size, 2, none⟩ = some (.int .i64 x.val.kind) := k1 2; have d12 : w1.cell? ⟨w.heap.size, 12, none⟩ = some (.int .i64 x.size.int) := k1 12; clear k1; have hr := (hb1.block _ (lt_of_row HR.out)).trans HR.out)) | fail)
  clear c0 c2 c3 c4 c5 c6 c7 c8 c9 c10 d0 d2 d12 d20 u1 u2 u3 u4
  go_wp2_with (first | (refine wpList_store_row rfl 56 _ _ rfl (w.heap.size + 1) _ rfl rfl 56 _ hr (by kernel_rfl) rfl (by simp [Value.oneCell']) ?_) | fail)
  refine bodyPost_ret (results_row_tmp rfl _ _ _ (w.heap.size + 1) _ _ _ _ rfl (setRow_heap _ _ _ #[.string ⟨#[]⟩, .int .i64 0] _ _ hr) Tryz.underlying56 (by kernel_rfl)) rfl ?_
  exact ⟨⟨⟨#[]⟩, 0, rfl⟩, below_setRow (HB.out.trans (hb1.mono HB.out.size)) (by omega) _⟩
set_option maxRecDepth 100000 in
set_option maxHeartbeats 8000000 in
theorem fld_misfit1S (f : Nat) (x : Fd) (vo : Option Addr) (vc : Nat) (so : Option Addr) (sc : Nat) (w : World) (ht : x.type = 1) (hvv : validF (f + 1) x.val = true) (n : Int) (hsz : x.sized = true) (hsk : x.size.kind = 1) (hsv : validF (f + 1) x.size = true) (hn0 : 0 ≤ n) (hn1 : n ≤ 16384) (hni : x.size.int = n) (h1 : x.val.kind ≠ 1)
    (hv : SlAt w 9 (TmAt w f) vo x.val.items) (hs : SlAt w 9 (TmAt w f) so x.size.items) (hok1 : x.val.Ok) (hok2 : x.size.Ok) (hc1 : (capF (f + 1) x.val : Int) ≤ 1152921504606846976) (hc2 : (capF (f + 1) x.size : Int) ≤ 1152921504606846976) :
    Calls Tryz.prog 28 #[.agg (fdRow x vo vc so sc)] w (FdPost none w) := by
  have HB := Lib.hid (two_below w (.cells (fdRow x vo vc so sc) 30) (.cells #[.string ⟨#[]⟩, .int .i64 0] 56))
  have HR := Lib.hid (two1 w (.cells (fdRow x vo vc so sc) 30) (.cells #[.string ⟨#[]⟩, .int .i64 0] 56))
  have HR0 := Lib.hid (two0 w (.cells (fdRow x vo vc so sc) 30) (.cells #[.string ⟨#[]⟩, .int .i64 0] 56))
  have HV := Lib.hid (tvalid_any f x.val vo vc _ (hv.tms HB.out) hok1 hc1)
  rw [hvv] at HV
  have HS := Lib.hid (fun wx (hx : Below w.heap.size w wx) => tvalid_any f x.size so sc wx (hs.tms hx) hok2 hc2)
  rw [hsv] at HS
  have HSZ := Lib.hid hsz
  have HSK := Lib.hid hsk
  have HNI := Lib.hid hni
  have HTY := Lib.hid ht
  have v1 : (x.val.kind == 1) = false := by simpa using h1
  clear h1
  clear hv hs hok1 hok2 hc1 hc2 hvv hsz hsk hsv hni ht
  go_enter Tryz.func28, Tryz.ntmps28
  generalize hW : (w.alloc (.cells (fdRow x vo vc so sc) 30)).alloc (.cells #[.string ⟨#[]⟩, .int .i64 0] 56) = W at *
  have KC : Hid (∀ wx : World, Below W.heap.size W wx → ∀ j, wx.cell? ⟨w.heap.size, j, none⟩ = (fdRow x vo vc so sc)[j]?) := Lib.hid (fun wx hx j => by rw [cell_of_row _ _ _ _ _ _ ((hx.block _ (lt_of_row HR0.out)).trans HR0.out)])
  have k0 := KC.out W (Below.refl _ _)
  have c0 : W.cell? ⟨w.heap.size, 0, none⟩ = some (.int .i64 1) := (k0 0).trans (show some (Value.int .i64 x.type) = some (.int .i64 1) by rw [HTY.out])
  have c2 : W.cell? ⟨w.heap.size, 2, none⟩ = some (.int .i64 x.val.kind) := k0 2
  have c3 : W.cell? ⟨w.heap.size, 3, none⟩ = some (.int .i64 x.val.int) := k0 3
  have c4 : W.cell? ⟨w.heap.size, 4, none⟩ = some (.int .i64 x.val.gen) := k0 4
  have c5 : W.cell? ⟨w.heap.size, 5, none⟩ = some (.string x.val.name) := k0 5
  have c6 : W.cell? ⟨w.heap.size, 6, none⟩ = some (.string x.val.func) := k0 6
  have c7 : W.cell? ⟨w.heap.size, 7, none⟩ = some (.int .i64 x.val.arity) := k0 7
  have c8 : W.cell? ⟨w.heap.size, 8, none⟩ = some (.slice vo x.val.items.length vc) := k0 8
  have c9 : W.cell? ⟨w.heap.size, 9, none⟩ = some (.string x.val.bytes) := k0 9
  have c10 : W.cell? ⟨w.heap.size, 10, none⟩ = some (.int .i64 x.val.bits) := k0 10
  clear k0
  rw [HSK.out] at HS
  rw [HNI.out] at HS
  have r1 : decide (n < 0) = false := decide_eq_false (by omega)
  have r2 : decide (16384 < n) = false := decide_eq_false (by omega)
  go_upto_region 20 with (first | (go_at_call 43; (first | (refine HV.out.mono ?_; rintro e w1 ⟨rfl, hb1⟩; have k1 := KC.out w1 hb1; have d20 : w1.cell? ⟨w.heap.size, 20, none⟩ = some (.bool true) := (k1 20).trans (show some (Value.bool x.sized) = some (.bool true) by rw [HSZ.out]); have d11 : w1.cell? ⟨w.heap.size, 11, none⟩ = some (.int .i64 1) := (k1 11).trans (show some (Value.int .i64 x.size.kind) = some (.int .i64 1) by rw [HSK.out]); have d12 : w1.cell? ⟨w.heap.size, 12, none⟩ = some (.int .i64 n) := (k1 12).trans (show some (Value.int .i64 x.size.int) = some (.int .i64 n) by rw [HNI.out]); have d13 : w1.cell? ⟨w.heap.size, 13, none⟩ = some (.int .i64 x.size.gen) := k1 13; have d14 : w1.cell? ⟨w.heap.size, 14, none⟩ = some (.string x.size.name) := k1 14; have d15 : w1.cell? ⟨w.heap.size, 15, none⟩ = some (.string x.size.func) := k1 15; have d16 : w1.cell? ⟨w.heap.size, 16, none⟩ = some (.int .i64 x.size.arity) := k1 16; have d17 : w1.cell? ⟨w.heap.size, 17, none⟩ = some (.slice so x.size.items.length sc) := k1 17; have d18 : w1.cell? ⟨w.heap.size, 18, none⟩ = some (.string x.size.bytes) := k1 18; have d19 : w1.cell? ⟨w.heap.size, 19, none⟩ = some (.int .i64 x.size.bits) := k1 19; clear k1; have hr := (hb1.block _ (lt_of_row HR.out)).trans HR.out) | (refine (HS.out w1 (HB.out.trans (hb1.mono HB.out.size))).mono ?_; rintro e w2 ⟨rfl, hb2⟩; have hb12 := below_next hb1 hb2; have k2 := KC.out w2 hb12; have e0 : w2.cell? ⟨w.heap.size, 0, none⟩ = some (.int .i64 1) := (k2 0).trans (show some (Value.int .i64 x.type) = some (.int .i64 1) by rw [HTY.out]); have e2 : w2.cell? ⟨w.heap.size, 2, none⟩ = some (.int .i64 x.val.kind) := k2 2; have e12 : w2.cell? ⟨w.heap.size, 12, none⟩ = some (.int .i64 n) := (k2 12).trans (show some (Value.int .i64 x.size.int) = some (.int .i64 n) by rw [HNI.out]); have e20 : w2.cell? ⟨w.heap.size, 20, none⟩ = some (.bool true) := (k2 20).trans (show some (Value.bool x.sized) = some (.bool true) by rw [HSZ.out]); clear k2; have hr := (hb12.block _ (lt_of_row HR.out)).trans HR.out))) | fail)
  clear c0 c2 c3 c4 c5 c6 c7 c8 c9 c10 d11 d12 d13 d14 d15 d16 d17 d18 d19 d20 e0 e2 e12 e20 v1 r1 r2
  go_wp2_with (first | (refine wpList_store_row rfl 56 _ _ rfl (w.heap.size + 1) _ rfl rfl 56 _ hr (by kernel_rfl) rfl (by simp [Value.oneCell']) ?_) | fail)
  refine bodyPost_ret (results_row_tmp rfl _ _ _ (w.heap.size + 1) _ _ _ _ rfl (setRow_heap _ _ _ #[.string ⟨#[]⟩, .int .i64 0] _ _ hr) Tryz.underlying56 (by kernel_rfl)) rfl ?_
  exact ⟨⟨⟨#[]⟩, 0, rfl⟩, below_setRow (HB.out.trans (hb12.mono HB.out.size)) (by omega) _⟩
set_option maxRecDepth 100000 in
set_option maxHeartbeats 8000000 in
theorem fld_misfit2S (f : Nat) (x : Fd) (vo : Option Addr) (vc : Nat) (so : Option Addr) (sc : Nat) (w : World) (ht : x.type = 2) (hvv : validF (f + 1) x.val = true) (n : Int) (hsz : x.sized = true) (hsk : x.size.kind = 1) (hsv : validF (f + 1) x.size = true) (hn0 : 0 ≤ n) (hn1 : n ≤ 16384) (hni : x.size.int = n) (h1 : x.val.kind ≠ 10)
    (hv : SlAt w 9 (TmAt w f) vo x.val.items) (hs : SlAt w 9 (TmAt w f) so x.size.items) (hok1 : x.val.Ok) (hok2 : x.size.Ok) (hc1 : (capF (f + 1) x.val : Int) ≤ 1152921504606846976) (hc2 : (capF (f + 1) x.size : Int) ≤ 1152921504606846976) :
    Calls Tryz.prog 28 #[.agg (fdRow x vo vc so sc)] w (FdPost none w) := by
  have HB := Lib.hid (two_below w (.cells (fdRow x vo vc so sc) 30) (.cells #[.string ⟨#[]⟩, .int .i64 0] 56))
  have HR := Lib.hid (two1 w (.cells (fdRow x vo vc so sc) 30) (.cells #[.string ⟨#[]⟩, .int .i64 0] 56))
  have HR0 := Lib.hid (two0 w (.cells (fdRow x vo vc so sc) 30) (.cells #[.string ⟨#[]⟩, .int .i64 0] 56))
  have HV := Lib.hid (tvalid_any f x.val vo vc _ (hv.tms HB.out) hok1 hc1)
  rw [hvv] at HV
  have HS := Lib.hid (fun wx (hx : Below w.heap.size w wx) => tvalid_any f x.size so sc wx (hs.tms hx) hok2 hc2)
  rw [hsv] at HS
  have HSZ := Lib.hid hsz
  have HSK := Lib.hid hsk
  have HNI := Lib.hid hni
  have HTY := Lib.hid ht
  have v1 : (x.val.kind == 10) = false := by simpa using h1
  clear h1
  clear hv hs hok1 hok2 hc1 hc2 hvv hsz hsk hsv hni ht
  go_enter Tryz.func28, Tryz.ntmps28
  generalize hW : (w.alloc (.cells (fdRow x vo vc so sc) 30)).alloc (.cells #[.string ⟨#[]⟩, .int .i64 0] 56) = W at *
  have KC : Hid (∀ wx : World, Below W.heap.size W wx → ∀ j, wx.cell? ⟨w.heap.size, j, none⟩ = (fdRow x vo vc so sc)[j]?) := Lib.hid (fun wx hx j => by rw [cell_of_row _ _ _ _ _ _ ((hx.block _ (lt_of_row HR0.out)).trans HR0.out)])
  have k0 := KC.out W (Below.refl _ _)
  have c0 : W.cell? ⟨w.heap.size, 0, none⟩ = some (.int .i64 2) := (k0 0).trans (show some (Value.int .i64 x.type) = some (.int .i64 2) by rw [HTY.out])
  have c2 : W.cell? ⟨w.heap.size, 2, none⟩ = some (.int .i64 x.val.kind) := k0 2
  have c3 : W.cell? ⟨w.heap.size, 3, none⟩ = some (.int .i64 x.val.int) := k0 3
  have c4 : W.cell? ⟨w.heap.size, 4, none⟩ = some (.int .i64 x.val.gen) := k0 4
  have c5 : W.cell? ⟨w.heap.size, 5, none⟩ = some (.string x.val.name) := k0 5
  have c6 : W.cell? ⟨w.heap.size, 6, none⟩ = some (.string x.val.func) := k0 6
  have c7 : W.cell? ⟨w.heap.size, 7, none⟩ = some (.int .i64 x.val.arity) := k0 7
  have c8 : W.cell? ⟨w.heap.size, 8, none⟩ = some (.slice vo x.val.items.length vc) := k0 8
  have c9 : W.cell? ⟨w.heap.size, 9, none⟩ = some (.string x.val.bytes) := k0 9
  have c10 : W.cell? ⟨w.heap.size, 10, none⟩ = some (.int .i64 x.val.bits) := k0 10
  clear k0
  rw [HSK.out] at HS
  rw [HNI.out] at HS
  have r1 : decide (n < 0) = false := decide_eq_false (by omega)
  have r2 : decide (16384 < n) = false := decide_eq_false (by omega)
  go_upto_region 20 with (first | (go_at_call 43; (first | (refine HV.out.mono ?_; rintro e w1 ⟨rfl, hb1⟩; have k1 := KC.out w1 hb1; have d20 : w1.cell? ⟨w.heap.size, 20, none⟩ = some (.bool true) := (k1 20).trans (show some (Value.bool x.sized) = some (.bool true) by rw [HSZ.out]); have d11 : w1.cell? ⟨w.heap.size, 11, none⟩ = some (.int .i64 1) := (k1 11).trans (show some (Value.int .i64 x.size.kind) = some (.int .i64 1) by rw [HSK.out]); have d12 : w1.cell? ⟨w.heap.size, 12, none⟩ = some (.int .i64 n) := (k1 12).trans (show some (Value.int .i64 x.size.int) = some (.int .i64 n) by rw [HNI.out]); have d13 : w1.cell? ⟨w.heap.size, 13, none⟩ = some (.int .i64 x.size.gen) := k1 13; have d14 : w1.cell? ⟨w.heap.size, 14, none⟩ = some (.string x.size.name) := k1 14; have d15 : w1.cell? ⟨w.heap.size, 15, none⟩ = some (.string x.size.func) := k1 15; have d16 : w1.cell? ⟨w.heap.size, 16, none⟩ = some (.int .i64 x.size.arity) := k1 16; have d17 : w1.cell? ⟨w.heap.size, 17, none⟩ = some (.slice so x.size.items.length sc) := k1 17; have d18 : w1.cell? ⟨w.heap.size, 18, none⟩ = some (.string x.size.bytes) := k1 18; have d19 : w1.cell? ⟨w.heap.size, 19, none⟩ = some (.int .i64 x.size.bits) := k1 19; clear k1; have hr := (hb1.block _ (lt_of_row HR.out)).trans HR.out) | (refine (HS.out w1 (HB.out.trans (hb1.mono HB.out.size))).mono ?_; rintro e w2 ⟨rfl, hb2⟩; have hb12 := below_next hb1 hb2; have k2 := KC.out w2 hb12; have e0 : w2.cell? ⟨w.heap.size, 0, none⟩ = some (.int .i64 2) := (k2 0).trans (show some (Value.int .i64 x.type) = some (.int .i64 2) by rw [HTY.out]); have e2 : w2.cell? ⟨w.heap.size, 2, none⟩ = some (.int .i64 x.val.kind) := k2 2; have e12 : w2.cell? ⟨w.heap.size, 12, none⟩ = some (.int .i64 n) := (k2 12).trans (show some (Value.int .i64 x.size.int) = some (.int .i64 n) by rw [HNI.out]); have e20 : w2.cell? ⟨w.heap.size, 20, none⟩ = some (.bool true) := (k2 20).trans (show some (Value.bool x.sized) = some (.bool true) by rw [HSZ.out]); clear k2; have hr := (hb12.block _ (lt_of_row HR.out)).trans HR.out))) | fail)
  clear c0 c2 c3 c4 c5 c6 c7 c8 c9 c10 d11 d12 d13 d14 d15 d16 d17 d18 d19 d20 e0 e2 e12 e20 v1 r1 r2
  go_wp2_with (first | (refine wpList_store_row rfl 56 _ _ rfl (w.heap.size + 1) _ rfl rfl 56 _ hr (by kernel_rfl) rfl (by simp [Value.oneCell']) ?_) | fail)
  refine bodyPost_ret (results_row_tmp rfl _ _ _ (w.heap.size + 1) _ _ _ _ rfl (setRow_heap _ _ _ #[.string ⟨#[]⟩, .int .i64 0] _ _ hr) Tryz.underlying56 (by kernel_rfl)) rfl ?_
  exact ⟨⟨⟨#[]⟩, 0, rfl⟩, below_setRow (HB.out.trans (hb12.mono HB.out.size)) (by omega) _⟩
set_option maxRecDepth 100000 in
set_option maxHeartbeats 8000000 in
theorem fld_misfit3S (f : Nat) (x : Fd) (vo : Option Addr) (vc : Nat) (so : Option Addr) (sc : Nat) (w : World) (ht : x.type = 3) (hvv : validF (f + 1) x.val = true) (n : Int) (hsz : x.sized = true) (hsk : x.size.kind = 1) (hsv : validF (f + 1) x.size = true) (hn0 : 0 ≤ n) (hn1 : n ≤ 16384) (hni : x.size.int = n) (h1 : x.val.kind ≠ 10)
    (hv : SlAt w 9 (TmAt w f) vo x.val.items) (hs : SlAt w 9 (TmAt w f) so x.size.items) (hok1 : x.val.Ok) (hok2 : x.size.Ok) (hc1 : (capF (f + 1) x.val : Int) ≤ 1152921504606846976) (hc2 : (capF (f + 1) x.size : Int) ≤ 1152921504606846976) :
    Calls Tryz.prog 28 #[.agg (fdRow x vo vc so sc)] w (FdPost none w) := by
  have HB := Lib.hid (two_below w (.cells (fdRow x vo vc so sc) 30) (.cells #[.string ⟨#[]⟩, .int .i64 0] 56))
  have HR := Lib.hid (two1 w (.cells (fdRow x vo vc so sc) 30) (.cells #[.string ⟨#[]⟩, .int .i64 0] 56))
  have HR0 := Lib.hid (two0 w (.cells (fdRow x vo vc so sc) 30) (.cells #[.string ⟨#[]⟩, .int .i64 0] 56))
  have HV := Lib.hid (tvalid_any f x.val vo vc _ (hv.tms HB.out) hok1 hc1)
  rw [hvv] at HV
  have HS := Lib.hid (fun wx (hx : Below w.heap.size w wx) => tvalid_any f x.size so sc wx (hs.tms hx) hok2 hc2)
  rw [hsv] at HS
  have HSZ := Lib.hid hsz
  have HSK := Lib.hid hsk
  have HNI := Lib.hid hni
  have HTY := Lib.hid ht
  have v1 : (x.val.kind == 10) = false := by simpa using h1
  clear h1
  clear hv hs hok1 hok2 hc1 hc2 hvv hsz hsk hsv hni ht
  go_enter Tryz.func28, Tryz.ntmps28
  generalize hW : (w.alloc (.cells (fdRow x vo vc so sc) 30)).alloc (.cells #[.string ⟨#[]⟩, .int .i64 0] 56) = W at *
  have KC : Hid (∀ wx : World, Below W.heap.size W wx → ∀ j, wx.cell? ⟨w.heap.size, j, none⟩ = (fdRow x vo vc so sc)[j]?) := Lib.hid (fun wx hx j => by rw [cell_of_row _ _ _ _ _ _ ((hx.block _ (lt_of_row HR0.out)).trans HR0.out)])
  have k0 := KC.out W (Below.refl _ _)
  have c0 : W.cell? ⟨w.heap.size, 0, none⟩ = some (.int .i64 3) := (k0 0).trans (show some (Value.int .i64 x.type) = some (.int .i64 3) by rw [HTY.out])
  have c2 : W.cell? ⟨w.heap.size, 2, none⟩ = some (.int .i64 x.val.kind) := k0 2
  have c3 : W.cell? ⟨w.heap.size, 3, none⟩ = some (.int .i64 x.val.int) := k0 3
  have c4 : W.cell? ⟨w.heap.size, 4, none⟩ = some (.int .i64 x.val.gen) := k0 4
  have c5 : W.cell? ⟨w.heap.size, 5, none⟩ = some (.string x.val.name) := k0 5
  have c6 : W.cell? ⟨w.heap.size, 6, none⟩ = some (.string x.val.func) := k0 6
  have c7 : W.cell? ⟨w.heap.size, 7, none⟩ = some (.int .i64 x.val.arity) := k0 7
  have c8 : W.cell? ⟨w.heap.size, 8, none⟩ = some (.slice vo x.val.items.length vc) := k0 8
  have c9 : W.cell? ⟨w.heap.size, 9, none⟩ = some (.string x.val.bytes) := k0 9
  have c10 : W.cell? ⟨w.heap.size, 10, none⟩ = some (.int .i64 x.val.bits) := k0 10
  clear k0
  rw [HSK.out] at HS
  rw [HNI.out] at HS
  have r1 : decide (n < 0) = false := decide_eq_false (by omega)
  have r2 : decide (16384 < n) = false := decide_eq_false (by omega)
  go_upto_region 20 with (first | (go_at_call 43; (first | (refine HV.out.mono ?_; rintro e w1 ⟨rfl, hb1⟩; have k1 := KC.out w1 hb1; have d20 : w1.cell? ⟨w.heap.size, 20, none⟩ = some (.bool true) := (k1 20).trans (show some (Value.bool x.sized) = some (.bool true) by rw [HSZ.out]); have d11 : w1.cell? ⟨w.heap.size, 11, none⟩ = some (.int .i64 1) := (k1 11).trans (show some (Value.int .i64 x.size.kind) = some (.int .i64 1) by rw [HSK.out]); have d12 : w1.cell? ⟨w.heap.size, 12, none⟩ = some (.int .i64 n) := (k1 12).trans (show some (Value.int .i64 x.size.int) = some (.int .i64 n) by rw [HNI.out]); have d13 : w1.cell? ⟨w.heap.size, 13, none⟩ = some (.int .i64 x.size.gen) := k1 13; have d14 : w1.cell? ⟨w.heap.size, 14, none⟩ = some (.string x.size.name) := k1 14; have d15 : w1.cell? ⟨w.heap.size, 15, none⟩ = some (.string x.size.func) := k1 15; have d16 : w1.cell? ⟨w.heap.size, 16, none⟩ = some (.int .i64 x.size.arity) := k1 16; have d17 : w1.cell? ⟨w.heap.size, 17, none⟩ = some (.slice so x.size.items.length sc) := k1 17; have d18 : w1.cell? ⟨w.heap.size, 18, none⟩ = some (.string x.size.bytes) := k1 18; have d19 : w1.cell? ⟨w.heap.size, 19, none⟩ = some (.int .i64 x.size.bits) := k1 19; clear k1; have hr := (hb1.block _ (lt_of_row HR.out)).trans HR.out) | (refine (HS.out w1 (HB.out.trans (hb1.mono HB.out.size))).mono ?_; rintro e w2 ⟨rfl, hb2⟩; have hb12 := below_next hb1 hb2; have k2 := KC.out w2 hb12; have e0 : w2.cell? ⟨w.heap.size, 0, none⟩ = some (.int .i64 3) := (k2 0).trans (show some (Value.int .i64 x.type) = some (.int .i64 3) by rw [HTY.out]); have e2 : w2.cell? ⟨w.heap.size, 2, none⟩ = some (.int .i64 x.val.kind) := k2 2; have e12 : w2.cell? ⟨w.heap.size, 12, none⟩ = some (.int .i64 n) := (k2 12).trans (show some (Value.int .i64 x.size.int) = some (.int .i64 n) by rw [HNI.out]); have e20 : w2.cell? ⟨w.heap.size, 20, none⟩ = some (.bool true) := (k2 20).trans (show some (Value.bool x.sized) = some (.bool true) by rw [HSZ.out]); clear k2; have hr := (hb12.block _ (lt_of_row HR.out)).trans HR.out))) | fail)
  clear c0 c2 c3 c4 c5 c6 c7 c8 c9 c10 d11 d12 d13 d14 d15 d16 d17 d18 d19 d20 e0 e2 e12 e20 v1 r1 r2
  go_wp2_with (first | (refine wpList_store_row rfl 56 _ _ rfl (w.heap.size + 1) _ rfl rfl 56 _ hr (by kernel_rfl) rfl (by simp [Value.oneCell']) ?_) | fail)
  refine bodyPost_ret (results_row_tmp rfl _ _ _ (w.heap.size + 1) _ _ _ _ rfl (setRow_heap _ _ _ #[.string ⟨#[]⟩, .int .i64 0] _ _ hr) Tryz.underlying56 (by kernel_rfl)) rfl ?_
  exact ⟨⟨⟨#[]⟩, 0, rfl⟩, below_setRow (HB.out.trans (hb12.mono HB.out.size)) (by omega) _⟩
set_option maxRecDepth 100000 in
set_option maxHeartbeats 8000000 in
theorem fld_misfit0S (f : Nat) (x : Fd) (vo : Option Addr) (vc : Nat) (so : Option Addr) (sc : Nat) (w : World) (hvv : validF (f + 1) x.val = true) (n : Int) (hsz : x.sized = true) (hsk : x.size.kind = 1) (hsv : validF (f + 1) x.size = true) (hn0 : 0 ≤ n) (hn1 : n ≤ 16384) (hni : x.size.int = n) (h4 : x.type ≠ 4) (h1 : x.type ≠ 1) (h2 : x.type ≠ 2) (h3 : x.type ≠ 3)
    (hv : SlAt w 9 (TmAt w f) vo x.val.items) (hs : SlAt w 9 (TmAt w f) so x.size.items) (hok1 : x.val.Ok) (hok2 : x.size.Ok) (hc1 : (capF (f + 1) x.val : Int) ≤ 1152921504606846976) (hc2 : (capF (f + 1) x.size : Int) ≤ 1152921504606846976) :
    Calls Tryz.prog 28 #[.agg (fdRow x vo vc so sc)] w (FdPost none w) := by
  have HB := Lib.hid (two_below w (.cells (fdRow x vo vc so sc) 30) (.cells #[.string ⟨#[]⟩, .int .i64 0] 56))
  have HR := Lib.hid (two1 w (.cells (fdRow x vo vc so sc) 30) (.cells #[.string ⟨#[]⟩, .int .i64 0] 56))
  have HR0 := Lib.hid (two0 w (.cells (fdRow x vo vc so sc) 30) (.cells #[.string ⟨#[]⟩, .int .i64 0] 56))
  have HV := Lib.hid (tvalid_any f x.val vo vc _ (hv.tms HB.out) hok1 hc1)
  rw [hvv] at HV
  have HS := Lib.hid (fun wx (hx : Below w.heap.size w wx) => tvalid_any f x.size so sc wx (hs.tms hx) hok2 hc2)
  rw [hsv] at HS
  have HSZ := Lib.hid hsz
  have HSK := Lib.hid hsk
  have HNI := Lib.hid hni
  have u4 : (x.type == 4) = false := by simpa using h4
  clear h4
  have u1 : (x.type == 1) = false := by simpa using h1
  clear h1
  have u2 : (x.type == 2) = false := by simpa using h2
  clear h2
  have u3 : (x.type == 3) = false := by simpa using h3
  clear h3
  clear hv hs hok1 hok2 hc1 hc2 hvv hsz hsk hsv hni
  go_enter Tryz.func28, Tryz.ntmps28
  generalize hW : (w.alloc (.cells (fdRow x vo vc so sc) 30)).alloc (.cells #[.string ⟨#[]⟩, .int .i64 0] 56) = W at *
  have KC : Hid (∀ wx : World, Below W.heap.size W wx → ∀ j, wx.cell? ⟨w.heap.size, j, none⟩ = (fdRow x vo vc so sc)[j]?) := Lib.hid (fun wx hx j => by rw [cell_of_row _ _ _ _ _ _ ((hx.block _ (lt_of_row HR0.out)).trans HR0.out)])
  have k0 := KC.out W (Below.refl _ _)
  have c0 : W.cell? ⟨w.heap.size, 0, none⟩ = some (.int .i64 x.type) := k0 0
  have c2 : W.cell? ⟨w.heap.size, 2, none⟩ = some (.int .i64 x.val.kind) := k0 2
  have c3 : W.cell? ⟨w.heap.size, 3, none⟩ = some (.int .i64 x.val.int) := k0 3
  have c4 : W.cell? ⟨w.heap.size, 4, none⟩ = some (.int .i64 x.val.gen) := k0 4
  have c5 : W.cell? ⟨w.heap.size, 5, none⟩ = some (.string x.val.name) := k0 5
  have c6 : W.cell? ⟨w.heap.size, 6, none⟩ = some (.string x.val.func) := k0 6
  have c7 : W.cell? ⟨w.heap.size, 7, none⟩ = some (.int .i64 x.val.arity) := k0 7
  have c8 : W.cell? ⟨w.heap.size, 8, none⟩ = some (.slice vo x.val.items.length vc) := k0 8
  have c9 : W.cell? ⟨w.heap.size, 9, none⟩ = some (.string x.val.bytes) := k0 9
  have c10 : W.cell? ⟨w.heap.size, 10, none⟩ = some (.int .i64 x.val.bits) := k0 10
  clear k0
  rw [HSK.out] at HS
  rw [HNI.out] at HS
  have r1 : decide (n < 0) = false := decide_eq_false (by omega)
  have r2 : decide (16384 < n) = false := decide_eq_false (by omega)
  go_upto_region 20 with (first | (go_at_call 43; (first | (refine HV.out.mono ?_; rintro e w1 ⟨rfl, hb1⟩; have k1 := KC.out w1 hb1; have d20 : w1.cell? ⟨w.heap.size, 20, none⟩ = some (.bool true) := (k1 20).trans (show some (Value.bool x.sized) = some (.bool true) by rw [HSZ.out]); have d11 : w1.cell? ⟨w.heap.size, 11, none⟩ = some (.int .i64 1) := (k1 11).trans (show some (Value.int .i64 x.size.kind) = some (.int .i64 1) by rw [HSK.out]); have d12 : w1.cell? ⟨w.heap.size, 12, none⟩ = some (.int .i64 n) := (k1 12).trans (show some (Value.int .i64 x.size.int) = some (.int .i64 n) by rw [HNI.out]); have d13 : w1.cell? ⟨w.heap.size, 13, none⟩ = some (.int .i64 x.size.gen) := k1 13; have d14 : w1.cell? ⟨w.heap.size, 14, none⟩ = some (.string x.size.name) := k1 14; have d15 : w1.cell? ⟨w.heap.size, 15, none⟩ = some (.string x.size.func) := k1 15; have d16 : w1.cell? ⟨w.heap.size, 16, none⟩ = some (.int .i64 x.size.arity) := k1 16; have d17 : w1.cell? ⟨w.heap.size, 17, none⟩ = some (.slice so x.size.items.length sc) := k1 17; have d18 : w1.cell? ⟨w.heap.size, 18, none⟩ = some (.string x.size.bytes) := k1 18; have d19 : w1.cell? ⟨w.heap.size, 19, none⟩ = some (.int .i64 x.size.bits) := k1 19; clear k1; have hr := (hb1.block _ (lt_of_row HR.out)).trans HR.out) | (refine (HS.out w1 (HB.out.trans (hb1.mono HB.out.size))).mono ?_; rintro e w2 ⟨rfl, hb2⟩; have hb12 := below_next hb1 hb2; have k2 := KC.out w2 hb12; have e0 : w2.cell? ⟨w.heap.size, 0, none⟩ = some (.int .i64 x.type) := k2 0; have e2 : w2.cell? ⟨w.heap.size, 2, none⟩ = some (.int .i64 x.val.kind) := k2 2; have e12 : w2.cell? ⟨w.heap.size, 12, none⟩ = some (.int .i64 n) := (k2 12).trans (show some (Value.int .i64 x.size.int) = some (.int .i64 n) by rw [HNI.out]); have e20 : w2.cell? ⟨w.heap.size, 20, none⟩ = some (.bool true) := (k2 20).trans (show some (Value.bool x.sized) = some (.bool true) by rw [HSZ.out]); clear k2; have hr := (hb12.block _ (lt_of_row HR.out)).trans HR.out))) | fail)
  clear c0 c2 c3 c4 c5 c6 c7 c8 c9 c10 d11 d12 d13 d14 d15 d16 d17 d18 d19 d20 e0 e2 e12 e20 u1 u2 u3 u4 r1 r2
  go_wp2_with (first | (refine wpList_store_row rfl 56 _ _ rfl (w.heap.size + 1) _ rfl rfl 56 _ hr (by kernel_rfl) rfl (by simp [Value.oneCell']) ?_) | fail)
  refine bodyPost_ret (results_row_tmp rfl _ _ _ (w.heap.size + 1) _ _ _ _ rfl (setRow_heap _ _ _ #[.string ⟨#[]⟩, .int .i64 0] _ _ hr) Tryz.underlying56 (by kernel_rfl)) rfl ?_
  exact ⟨⟨⟨#[]⟩, 0, rfl⟩, below_setRow (HB.out.trans (hb12.mono HB.out.size)) (by omega) _⟩
end Go.Proofs.YthmpobimmbmddaaGreatDoor
