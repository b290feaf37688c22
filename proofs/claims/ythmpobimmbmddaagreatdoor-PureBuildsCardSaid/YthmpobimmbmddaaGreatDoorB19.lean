/-
  The reference's field of a bit string, of an integer whose size is wrong, of a kind that does not fit: the walks (printed by gen_prf.py). The reference's field of any segment gives what fieldV says. The reference's Bits: the walk (printed by gen_prbits.py).
-/
import Derived.Deep.Cut
import Derived.Test.YthmpobimmbmddaaGreatDoorB18
namespace Go.Proofs.YthmpobimmbmddaaGreatDoor
open Go.RowKit
set_option linter.unusedVariables false
set_option linter.unusedSimpArgs false

set_option maxRecDepth 100000 in
set_option maxHeartbeats 8000000 in
theorem rfield_bits (f : Nat) (x : Fd) (vo : Option Addr) (vc : Nat) (so : Option Addr) (sc : Nat) (m : Nat) (w : World) (ht : x.type = 2) (hvk : x.val.kind = 10) (hvv : validF (f + 1) x.val = true) (hk : sizeV f x x.val.bits x.val.bits = (m : Int)) (hm : m ≤ 8 * x.val.bytes.size) (hy : x.val.bytes.size ≤ 1000000)
    (hv : SlAt w 9 (TmAt w f) vo x.val.items) (hs : SlAt w 9 (TmAt w f) so x.size.items) (hok1 : x.val.Ok) (hok2 : x.size.Ok) (hc1 : (capF (f + 1) x.val : Int) ≤ 1152921504606846976) (hc2 : (capF (f + 1) x.size : Int) ≤ 1152921504606846976) :
    Calls Tryz.prog 33 #[.agg (fdRow x vo vc so sc)] w fun e w' => e = .returned (.tuple #[.string (dstr (sub (bitsL x.val.bytes.data.toList) 0 (m))), .bool true]) ∧ Below w.heap.size w w' := by
  have HB := Lib.hid ((Below.refl w.heap.size w).alloc (Nat.le_refl _) (.cells (fdRow x vo vc so sc) 30))
  have HR0 := Lib.hid (heap_alloc_new w (.cells (fdRow x vo vc so sc) 30))
  have HV := Lib.hid (rvalid_term f x.val vo vc _ (hv.tms HB.out) hok1 hc1)
  rw [hvv] at HV
  have HSz := Lib.hid (fun wx (hx : Below w.heap.size w wx) => by have h := rsize_any f x vo vc so sc x.val.bits x.val.bits wx (hs.tms hx) hok2 hc2; rw [hk] at h; exact h)
  have HD := Lib.hid (fun wx => rdig_any x.val.bytes (m) wx hm hy)
  clear hv hs hc1 hc2 hok2 hk hok1 hvv hy hm
  obtain ⟨Z, hZ⟩ : ∃ Z, Z = dstr (sub (bitsL x.val.bytes.data.toList) 0 (m)) := ⟨_, rfl⟩
  rw [← hZ]
  rw [show (⟨(digL (sub (bitsL x.val.bytes.data.toList) 0 (m))).toArray⟩ : ByteArray) = Z from hZ.symm] at HD
  clear hZ
  have HI23 : Hid ((Tryz.prog.info? 30).map (·.size) = some (fdRow x vo vc so sc).size) := Lib.hid (by kernel_rfl)
  go_enter Tryz.func33, Tryz.ntmps33
  generalize hW : w.alloc (.cells (fdRow x vo vc so sc) 30) = W at *
  have KC : Hid (∀ wx : World, Below W.heap.size W wx → ∀ j, wx.cell? ⟨w.heap.size, j, none⟩ = (fdRow x vo vc so sc)[j]?) := Lib.hid (fun wx hx j => by rw [cell_of_row _ _ _ _ _ _ ((hx.block _ (lt_of_row HR0.out)).trans HR0.out)])
  have k0 := KC.out W (Below.refl _ _)
  have c0 : W.cell? ⟨w.heap.size, 0, none⟩ = some (.int .i64 2) := by rw [k0 0, ← ht]; rfl
  have c2 : W.cell? ⟨w.heap.size, 2, none⟩ = some (.int .i64 10) := by rw [k0 2, ← hvk]; rfl
  have c3 : W.cell? ⟨w.heap.size, 3, none⟩ = some (.int .i64 x.val.int) := k0 3
  have c4 : W.cell? ⟨w.heap.size, 4, none⟩ = some (.int .i64 x.val.gen) := k0 4
  have c5 : W.cell? ⟨w.heap.size, 5, none⟩ = some (.string x.val.name) := k0 5
  have c6 : W.cell? ⟨w.heap.size, 6, none⟩ = some (.string x.val.func) := k0 6
  have c7 : W.cell? ⟨w.heap.size, 7, none⟩ = some (.int .i64 x.val.arity) := k0 7
  have c8 : W.cell? ⟨w.heap.size, 8, none⟩ = some (.slice vo x.val.items.length vc) := k0 8
  have c9 : W.cell? ⟨w.heap.size, 9, none⟩ = some (.string x.val.bytes) := k0 9
  have c10 : W.cell? ⟨w.heap.size, 10, none⟩ = some (.int .i64 x.val.bits) := k0 10
  clear k0
  rw [hvk] at HV
  go_upto_region 22 with (first | (go_at_call 18; refine HV.out.mono ?_; rintro e w1 ⟨rfl, hb1⟩; have d0 : w1.cell? ⟨w.heap.size, 0, none⟩ = some (.int .i64 2) := (KC.out w1 hb1 0).trans ((KC.out W (Below.refl _ _) 0).symm.trans c0); have d2 : w1.cell? ⟨w.heap.size, 2, none⟩ = some (.int .i64 10) := (KC.out w1 hb1 2).trans ((KC.out W (Below.refl _ _) 2).symm.trans c2)) | fail)
  clear c0 c2 c3 c4 c5 c6 c7 c8 c9 c10 d0 d2
  have HR1 := Lib.hid ((hb1.block _ (lt_of_row HR0.out)).trans HR0.out)
  have HSz1 := Lib.hid (HSz.out w1 (HB.out.trans (hb1.mono HB.out.size)))
  have d10 : w1.cell? ⟨w.heap.size, 10, none⟩ = some (.int .i64 x.val.bits) := KC.out w1 hb1 10
  go_upto_region 23 with (first | (refine wpList_load_row rfl 30 _ rfl w.heap.size rfl 30 (fdRow x vo vc so sc) _ _ HR1.out Tryz.underlying30 rfl HI23.out ?_) | (go_at_call 58; refine HSz1.out.mono ?_; rintro e w2 ⟨rfl, hb2⟩) | fail)
  have hb12 := below_next hb1 hb2
  have e9 : w2.cell? ⟨w.heap.size, 9, none⟩ = some (.string x.val.bytes) := KC.out w2 hb12 9
  clear d10
  have HBE := Lib.hid (HB.out.trans (hb12.mono HB.out.size))
  clear HV HSz HSz1 HR1 hb1 hb2 hb12
  have hm0 : ¬ ((m : Int) < 0) := by omega
  go_wp2_with fail
  refine (HD.out _).mono ?_
  rintro e w3 ⟨rfl, hb3⟩
  go_wp2_with fail
  go_ret2
  exact ⟨rfl, HBE.out.trans (hb3.mono HBE.out.size)⟩
set_option maxRecDepth 100000 in
set_option maxHeartbeats 8000000 in
theorem rfield_bits_no (f : Nat) (x : Fd) (vo : Option Addr) (vc : Nat) (so : Option Addr) (sc : Nat) (w : World) (ht : x.type = 2) (hvk : x.val.kind = 10) (hvv : validF (f + 1) x.val = true) (hk : sizeV f x x.val.bits x.val.bits = -1) (hy : x.val.bytes.size ≤ 1000000)
    (hv : SlAt w 9 (TmAt w f) vo x.val.items) (hs : SlAt w 9 (TmAt w f) so x.size.items) (hok1 : x.val.Ok) (hok2 : x.size.Ok) (hc1 : (capF (f + 1) x.val : Int) ≤ 1152921504606846976) (hc2 : (capF (f + 1) x.size : Int) ≤ 1152921504606846976) :
    Calls Tryz.prog 33 #[.agg (fdRow x vo vc so sc)] w fun e w' => e = .returned (.tuple #[.string ⟨#[]⟩, .bool false]) ∧ Below w.heap.size w w' := by
  have HB := Lib.hid ((Below.refl w.heap.size w).alloc (Nat.le_refl _) (.cells (fdRow x vo vc so sc) 30))
  have HR0 := Lib.hid (heap_alloc_new w (.cells (fdRow x vo vc so sc) 30))
  have HV := Lib.hid (rvalid_term f x.val vo vc _ (hv.tms HB.out) hok1 hc1)
  rw [hvv] at HV
  have HSz := Lib.hid (fun wx (hx : Below w.heap.size w wx) => by have h := rsize_any f x vo vc so sc x.val.bits x.val.bits wx (hs.tms hx) hok2 hc2; rw [hk] at h; exact h)
  have HD := Lib.hid (fun wx => rdig_any x.val.bytes 0 wx (Nat.zero_le _) hy)
  clear hv hs hc1 hc2 hok2 hk hok1 hvv hy
  have HI23 : Hid ((Tryz.prog.info? 30).map (·.size) = some (fdRow x vo vc so sc).size) := Lib.hid (by kernel_rfl)
  go_enter Tryz.func33, Tryz.ntmps33
  generalize hW : w.alloc (.cells (fdRow x vo vc so sc) 30) = W at *
  have KC : Hid (∀ wx : World, Below W.heap.size W wx → ∀ j, wx.cell? ⟨w.heap.size, j, none⟩ = (fdRow x vo vc so sc)[j]?) := Lib.hid (fun wx hx j => by rw [cell_of_row _ _ _ _ _ _ ((hx.block _ (lt_of_row HR0.out)).trans HR0.out)])
  have k0 := KC.out W (Below.refl _ _)
  have c0 : W.cell? ⟨w.heap.size, 0, none⟩ = some (.int .i64 2) := by rw [k0 0, ← ht]; rfl
  have c2 : W.cell? ⟨w.heap.size, 2, none⟩ = some (.int .i64 10) := by rw [k0 2, ← hvk]; rfl
  have c3 : W.cell? ⟨w.heap.size, 3, none⟩ = some (.int .i64 x.val.int) := k0 3
  have c4 : W.cell? ⟨w.heap.size, 4, none⟩ = some (.int .i64 x.val.gen) := k0 4
  have c5 : W.cell? ⟨w.heap.size, 5, none⟩ = some (.string x.val.name) := k0 5
  have c6 : W.cell? ⟨w.heap.size, 6, none⟩ = some (.string x.val.func) := k0 6
  have c7 : W.cell? ⟨w.heap.size, 7, none⟩ = some (.int .i64 x.val.arity) := k0 7
  have c8 : W.cell? ⟨w.heap.size, 8, none⟩ = some (.slice vo x.val.items.length vc) := k0 8
  have c9 : W.cell? ⟨w.heap.size, 9, none⟩ = some (.string x.val.bytes) := k0 9
  have c10 : W.cell? ⟨w.heap.size, 10, none⟩ = some (.int .i64 x.val.bits) := k0 10
  clear k0
  rw [hvk] at HV
  go_upto_region 22 with (first | (go_at_call 18; refine HV.out.mono ?_; rintro e w1 ⟨rfl, hb1⟩; have d0 : w1.cell? ⟨w.heap.size, 0, none⟩ = some (.int .i64 2) := (KC.out w1 hb1 0).trans ((KC.out W (Below.refl _ _) 0).symm.trans c0); have d2 : w1.cell? ⟨w.heap.size, 2, none⟩ = some (.int .i64 10) := (KC.out w1 hb1 2).trans ((KC.out W (Below.refl _ _) 2).symm.trans c2)) | fail)
  clear c0 c2 c3 c4 c5 c6 c7 c8 c9 c10 d0 d2
  have HR1 := Lib.hid ((hb1.block _ (lt_of_row HR0.out)).trans HR0.out)
  have HSz1 := Lib.hid (HSz.out w1 (HB.out.trans (hb1.mono HB.out.size)))
  have d10 : w1.cell? ⟨w.heap.size, 10, none⟩ = some (.int .i64 x.val.bits) := KC.out w1 hb1 10
  go_upto_region 23 with (first | (refine wpList_load_row rfl 30 _ rfl w.heap.size rfl 30 (fdRow x vo vc so sc) _ _ HR1.out Tryz.underlying30 rfl HI23.out ?_) | (go_at_call 58; refine HSz1.out.mono ?_; rintro e w2 ⟨rfl, hb2⟩) | fail)
  have hb12 := below_next hb1 hb2
  have e9 : w2.cell? ⟨w.heap.size, 9, none⟩ = some (.string x.val.bytes) := KC.out w2 hb12 9
  clear d10
  have HBE := Lib.hid (HB.out.trans (hb12.mono HB.out.size))
  clear HV HSz HSz1 HR1 hb1 hb2 hb12
  go_wp2_with fail
  refine (HD.out _).mono ?_
  rintro e w3 ⟨rfl, hb3⟩
  go_wp2_with fail
  go_ret2
  exact ⟨rfl, HBE.out.trans (hb3.mono HBE.out.size)⟩
set_option maxRecDepth 100000 in
set_option maxHeartbeats 8000000 in
theorem rfield_bytes (f : Nat) (x : Fd) (vo : Option Addr) (vc : Nat) (so : Option Addr) (sc : Nat) (q : Int) (m : Nat) (w : World) (ht : x.type = 3) (hvk : x.val.kind = 10) (hvv : validF (f + 1) x.val = true) (hq : x.val.bits.tdiv 8 = q) (hq1 : 0 ≤ q ∧ q ≤ 16384) (hun : x.sized = true ∨ x.val.bits.tmod 8 = 0) (hk : sizeV f x q q = (m : Int)) (hy : x.val.bytes.size ≤ 1000000) (hm : 8 * m ≤ 8 * x.val.bytes.size)
    (hv : SlAt w 9 (TmAt w f) vo x.val.items) (hs : SlAt w 9 (TmAt w f) so x.size.items) (hok1 : x.val.Ok) (hok2 : x.size.Ok) (hc1 : (capF (f + 1) x.val : Int) ≤ 1152921504606846976) (hc2 : (capF (f + 1) x.size : Int) ≤ 1152921504606846976) :
    Calls Tryz.prog 33 #[.agg (fdRow x vo vc so sc)] w fun e w' => e = .returned (.tuple #[.string (dstr (sub (bitsL x.val.bytes.data.toList) 0 (8 * m))), .bool true]) ∧ Below w.heap.size w w' := by
  have HB := Lib.hid ((Below.refl w.heap.size w).alloc (Nat.le_refl _) (.cells (fdRow x vo vc so sc) 30))
  have HR0 := Lib.hid (heap_alloc_new w (.cells (fdRow x vo vc so sc) 30))
  have HV := Lib.hid (rvalid_term f x.val vo vc _ (hv.tms HB.out) hok1 hc1)
  rw [hvv] at HV
  have HSz := Lib.hid (fun wx (hx : Below w.heap.size w wx) => by have h := rsize_any f x vo vc so sc q q wx (hs.tms hx) hok2 hc2; rw [hk] at h; exact h)
  have HD := Lib.hid (fun wx => rdig_any x.val.bytes (8 * m) wx hm hy)
  have HUN := Lib.hid hun; have HQ := Lib.hid hq; have HQW := Lib.hid (show wrap64 q = q by unfold wrap64; omega)
  have hm64 : m ≤ 1000000 := by omega
  clear hv hs hc1 hc2 hok2 hk hok1 hvv hy hun hq hq1 hm
  obtain ⟨Z, hZ⟩ : ∃ Z, Z = dstr (sub (bitsL x.val.bytes.data.toList) 0 (8 * m)) := ⟨_, rfl⟩
  rw [← hZ]
  rw [show (⟨(digL (sub (bitsL x.val.bytes.data.toList) 0 (8 * m))).toArray⟩ : ByteArray) = Z from hZ.symm, show (((8 * m : Nat)) : Int) = 8 * (m : Int) by omega] at HD
  clear hZ
  have HI23 : Hid ((Tryz.prog.info? 30).map (·.size) = some (fdRow x vo vc so sc).size) := Lib.hid (by kernel_rfl)
  go_enter Tryz.func33, Tryz.ntmps33
  generalize hW : w.alloc (.cells (fdRow x vo vc so sc) 30) = W at *
  have KC : Hid (∀ wx : World, Below W.heap.size W wx → ∀ j, wx.cell? ⟨w.heap.size, j, none⟩ = (fdRow x vo vc so sc)[j]?) := Lib.hid (fun wx hx j => by rw [cell_of_row _ _ _ _ _ _ ((hx.block _ (lt_of_row HR0.out)).trans HR0.out)])
  have k0 := KC.out W (Below.refl _ _)
  have c0 : W.cell? ⟨w.heap.size, 0, none⟩ = some (.int .i64 3) := by rw [k0 0, ← ht]; rfl
  have c2 : W.cell? ⟨w.heap.size, 2, none⟩ = some (.int .i64 10) := by rw [k0 2, ← hvk]; rfl
  have c3 : W.cell? ⟨w.heap.size, 3, none⟩ = some (.int .i64 x.val.int) := k0 3
  have c4 : W.cell? ⟨w.heap.size, 4, none⟩ = some (.int .i64 x.val.gen) := k0 4
  have c5 : W.cell? ⟨w.heap.size, 5, none⟩ = some (.string x.val.name) := k0 5
  have c6 : W.cell? ⟨w.heap.size, 6, none⟩ = some (.string x.val.func) := k0 6
  have c7 : W.cell? ⟨w.heap.size, 7, none⟩ = some (.int .i64 x.val.arity) := k0 7
  have c8 : W.cell? ⟨w.heap.size, 8, none⟩ = some (.slice vo x.val.items.length vc) := k0 8
  have c9 : W.cell? ⟨w.heap.size, 9, none⟩ = some (.string x.val.bytes) := k0 9
  have c10 : W.cell? ⟨w.heap.size, 10, none⟩ = some (.int .i64 x.val.bits) := k0 10
  clear k0
  rw [hvk] at HV
  go_upto_region 25 with (first | (go_at_call 18; refine HV.out.mono ?_; rintro e w1 ⟨rfl, hb1⟩; have d0 : w1.cell? ⟨w.heap.size, 0, none⟩ = some (.int .i64 3) := (KC.out w1 hb1 0).trans ((KC.out W (Below.refl _ _) 0).symm.trans c0); have d2 : w1.cell? ⟨w.heap.size, 2, none⟩ = some (.int .i64 10) := (KC.out w1 hb1 2).trans ((KC.out W (Below.refl _ _) 2).symm.trans c2)) | fail)
  clear c0 c2 c3 c4 c5 c6 c7 c8 c9 c10 d0 d2
  have HR1 := Lib.hid ((hb1.block _ (lt_of_row HR0.out)).trans HR0.out)
  have HSz1 := Lib.hid (HSz.out w1 (HB.out.trans (hb1.mono HB.out.size)))
  have d10 : w1.cell? ⟨w.heap.size, 10, none⟩ = some (.int .i64 x.val.bits) := KC.out w1 hb1 10
  rcases Bool.eq_false_or_eq_true x.sized with hsz | hsz
  · have d20 : w1.cell? ⟨w.heap.size, 20, none⟩ = some (.bool true) := by rw [KC.out w1 hb1 20, ← hsz]; rfl
    clear hsz
    go_upto_region 27 with fail
    have hq := HQ.out; have hqw := HQW.out
    go_upto_region 28 with (first | (refine wpList_load_row rfl 30 _ rfl w.heap.size rfl 30 (fdRow x vo vc so sc) _ _ HR1.out Tryz.underlying30 rfl HI23.out ?_) | (go_at_call 58; refine HSz1.out.mono ?_; rintro e w2 ⟨rfl, hb2⟩) | fail)
    have hb12 := below_next hb1 hb2
    have e9 : w2.cell? ⟨w.heap.size, 9, none⟩ = some (.string x.val.bytes) := KC.out w2 hb12 9
    clear d10 d20 hq hqw
    have HBE := Lib.hid (HB.out.trans (hb12.mono HB.out.size))
    clear HV HSz HSz1 HR1 hb1 hb2 hb12
    have hm0 : ¬ ((m : Int) < 0) := by omega
    go_wp2_with fail
    refine (HD.out _).mono ?_
    rintro e w3 ⟨rfl, hb3⟩
    go_wp2_with fail
    go_ret2
    exact ⟨rfl, HBE.out.trans (hb3.mono HBE.out.size)⟩
  · have h8 : (x.val.bits.tmod 8 != 0) = false := by rcases HUN.out with h | h; (rw [h] at hsz; cases hsz); rw [h]; rfl
    have d20 : w1.cell? ⟨w.heap.size, 20, none⟩ = some (.bool false) := by rw [KC.out w1 hb1 20, ← hsz]; rfl
    clear hsz
    go_upto_region 27 with fail
    clear h8
    have hq := HQ.out; have hqw := HQW.out
    go_upto_region 28 with (first | (refine wpList_load_row rfl 30 _ rfl w.heap.size rfl 30 (fdRow x vo vc so sc) _ _ HR1.out Tryz.underlying30 rfl HI23.out ?_) | (go_at_call 58; refine HSz1.out.mono ?_; rintro e w2 ⟨rfl, hb2⟩) | fail)
    have hb12 := below_next hb1 hb2
    have e9 : w2.cell? ⟨w.heap.size, 9, none⟩ = some (.string x.val.bytes) := KC.out w2 hb12 9
    clear d10 d20 hq hqw
    have HBE := Lib.hid (HB.out.trans (hb12.mono HB.out.size))
    clear HV HSz HSz1 HR1 hb1 hb2 hb12
    have hm0 : ¬ ((m : Int) < 0) := by omega
    go_wp2_with fail
    refine (HD.out _).mono ?_
    rintro e w3 ⟨rfl, hb3⟩
    go_wp2_with fail
    go_ret2
    exact ⟨rfl, HBE.out.trans (hb3.mono HBE.out.size)⟩
set_option maxRecDepth 100000 in
set_option maxHeartbeats 8000000 in
theorem rfield_bytes_no (f : Nat) (x : Fd) (vo : Option Addr) (vc : Nat) (so : Option Addr) (sc : Nat) (q : Int) (w : World) (ht : x.type = 3) (hvk : x.val.kind = 10) (hvv : validF (f + 1) x.val = true) (hq : x.val.bits.tdiv 8 = q) (hq1 : 0 ≤ q ∧ q ≤ 16384) (hun : x.sized = true ∨ x.val.bits.tmod 8 = 0) (hk : sizeV f x q q = -1) (hy : x.val.bytes.size ≤ 1000000)
    (hv : SlAt w 9 (TmAt w f) vo x.val.items) (hs : SlAt w 9 (TmAt w f) so x.size.items) (hok1 : x.val.Ok) (hok2 : x.size.Ok) (hc1 : (capF (f + 1) x.val : Int) ≤ 1152921504606846976) (hc2 : (capF (f + 1) x.size : Int) ≤ 1152921504606846976) :
    Calls Tryz.prog 33 #[.agg (fdRow x vo vc so sc)] w fun e w' => e = .returned (.tuple #[.string ⟨#[]⟩, .bool false]) ∧ Below w.heap.size w w' := by
  have HB := Lib.hid ((Below.refl w.heap.size w).alloc (Nat.le_refl _) (.cells (fdRow x vo vc so sc) 30))
  have HR0 := Lib.hid (heap_alloc_new w (.cells (fdRow x vo vc so sc) 30))
  have HV := Lib.hid (rvalid_term f x.val vo vc _ (hv.tms HB.out) hok1 hc1)
  rw [hvv] at HV
  have HSz := Lib.hid (fun wx (hx : Below w.heap.size w wx) => by have h := rsize_any f x vo vc so sc q q wx (hs.tms hx) hok2 hc2; rw [hk] at h; exact h)
  have HD := Lib.hid (fun wx => rdig_any x.val.bytes 0 wx (Nat.zero_le _) hy)
  have HUN := Lib.hid hun; have HQ := Lib.hid hq; have HQW := Lib.hid (show wrap64 q = q by unfold wrap64; omega)
  clear hv hs hc1 hc2 hok2 hk hok1 hvv hy hun hq hq1
  have HI23 : Hid ((Tryz.prog.info? 30).map (·.size) = some (fdRow x vo vc so sc).size) := Lib.hid (by kernel_rfl)
  go_enter Tryz.func33, Tryz.ntmps33
  generalize hW : w.alloc (.cells (fdRow x vo vc so sc) 30) = W at *
  have KC : Hid (∀ wx : World, Below W.heap.size W wx → ∀ j, wx.cell? ⟨w.heap.size, j, none⟩ = (fdRow x vo vc so sc)[j]?) := Lib.hid (fun wx hx j => by rw [cell_of_row _ _ _ _ _ _ ((hx.block _ (lt_of_row HR0.out)).trans HR0.out)])
  have k0 := KC.out W (Below.refl _ _)
  have c0 : W.cell? ⟨w.heap.size, 0, none⟩ = some (.int .i64 3) := by rw [k0 0, ← ht]; rfl
  have c2 : W.cell? ⟨w.heap.size, 2, none⟩ = some (.int .i64 10) := by rw [k0 2, ← hvk]; rfl
  have c3 : W.cell? ⟨w.heap.size, 3, none⟩ = some (.int .i64 x.val.int) := k0 3
  have c4 : W.cell? ⟨w.heap.size, 4, none⟩ = some (.int .i64 x.val.gen) := k0 4
  have c5 : W.cell? ⟨w.heap.size, 5, none⟩ = some (.string x.val.name) := k0 5
  have c6 : W.cell? ⟨w.heap.size, 6, none⟩ = some (.string x.val.func) := k0 6
  have c7 : W.cell? ⟨w.heap.size, 7, none⟩ = some (.int .i64 x.val.arity) := k0 7
  have c8 : W.cell? ⟨w.heap.size, 8, none⟩ = some (.slice vo x.val.items.length vc) := k0 8
  have c9 : W.cell? ⟨w.heap.size, 9, none⟩ = some (.string x.val.bytes) := k0 9
  have c10 : W.cell? ⟨w.heap.size, 10, none⟩ = some (.int .i64 x.val.bits) := k0 10
  clear k0
  rw [hvk] at HV
  go_upto_region 25 with (first | (go_at_call 18; refine HV.out.mono ?_; rintro e w1 ⟨rfl, hb1⟩; have d0 : w1.cell? ⟨w.heap.size, 0, none⟩ = some (.int .i64 3) := (KC.out w1 hb1 0).trans ((KC.out W (Below.refl _ _) 0).symm.trans c0); have d2 : w1.cell? ⟨w.heap.size, 2, none⟩ = some (.int .i64 10) := (KC.out w1 hb1 2).trans ((KC.out W (Below.refl _ _) 2).symm.trans c2)) | fail)
  clear c0 c2 c3 c4 c5 c6 c7 c8 c9 c10 d0 d2
  have HR1 := Lib.hid ((hb1.block _ (lt_of_row HR0.out)).trans HR0.out)
  have HSz1 := Lib.hid (HSz.out w1 (HB.out.trans (hb1.mono HB.out.size)))
  have d10 : w1.cell? ⟨w.heap.size, 10, none⟩ = some (.int .i64 x.val.bits) := KC.out w1 hb1 10
  rcases Bool.eq_false_or_eq_true x.sized with hsz | hsz
  · have d20 : w1.cell? ⟨w.heap.size, 20, none⟩ = some (.bool true) := by rw [KC.out w1 hb1 20, ← hsz]; rfl
    clear hsz
    go_upto_region 27 with fail
    have hq := HQ.out; have hqw := HQW.out
    go_upto_region 28 with (first | (refine wpList_load_row rfl 30 _ rfl w.heap.size rfl 30 (fdRow x vo vc so sc) _ _ HR1.out Tryz.underlying30 rfl HI23.out ?_) | (go_at_call 58; refine HSz1.out.mono ?_; rintro e w2 ⟨rfl, hb2⟩) | fail)
    have hb12 := below_next hb1 hb2
    have e9 : w2.cell? ⟨w.heap.size, 9, none⟩ = some (.string x.val.bytes) := KC.out w2 hb12 9
    clear d10 d20 hq hqw
    have HBE := Lib.hid (HB.out.trans (hb12.mono HB.out.size))
    clear HV HSz HSz1 HR1 hb1 hb2 hb12
    go_wp2_with fail
    refine (HD.out _).mono ?_
    rintro e w3 ⟨rfl, hb3⟩
    go_wp2_with fail
    go_ret2
    exact ⟨rfl, HBE.out.trans (hb3.mono HBE.out.size)⟩
  · have h8 : (x.val.bits.tmod 8 != 0) = false := by rcases HUN.out with h | h; (rw [h] at hsz; cases hsz); rw [h]; rfl
    have d20 : w1.cell? ⟨w.heap.size, 20, none⟩ = some (.bool false) := by rw [KC.out w1 hb1 20, ← hsz]; rfl
    clear hsz
    go_upto_region 27 with fail
    clear h8
    have hq := HQ.out; have hqw := HQW.out
    go_upto_region 28 with (first | (refine wpList_load_row rfl 30 _ rfl w.heap.size rfl 30 (fdRow x vo vc so sc) _ _ HR1.out Tryz.underlying30 rfl HI23.out ?_) | (go_at_call 58; refine HSz1.out.mono ?_; rintro e w2 ⟨rfl, hb2⟩) | fail)
    have hb12 := below_next hb1 hb2
    have e9 : w2.cell? ⟨w.heap.size, 9, none⟩ = some (.string x.val.bytes) := KC.out w2 hb12 9
    clear d10 d20 hq hqw
    have HBE := Lib.hid (HB.out.trans (hb12.mono HB.out.size))
    clear HV HSz HSz1 HR1 hb1 hb2 hb12
    go_wp2_with fail
    refine (HD.out _).mono ?_
    rintro e w3 ⟨rfl, hb3⟩
    go_wp2_with fail
    go_ret2
    exact ⟨rfl, HBE.out.trans (hb3.mono HBE.out.size)⟩
set_option maxRecDepth 100000 in
set_option maxHeartbeats 8000000 in
theorem rfield_bytes_odd (f : Nat) (x : Fd) (vo : Option Addr) (vc : Nat) (so : Option Addr) (sc : Nat) (w : World) (ht : x.type = 3) (hvk : x.val.kind = 10) (hvv : validF (f + 1) x.val = true) (hsz : x.sized = false) (hun : x.val.bits.tmod 8 ≠ 0)
    (hv : SlAt w 9 (TmAt w f) vo x.val.items) (hs : SlAt w 9 (TmAt w f) so x.size.items) (hok1 : x.val.Ok) (hok2 : x.size.Ok) (hc1 : (capF (f + 1) x.val : Int) ≤ 1152921504606846976) (hc2 : (capF (f + 1) x.size : Int) ≤ 1152921504606846976) :
    Calls Tryz.prog 33 #[.agg (fdRow x vo vc so sc)] w fun e w' => e = .returned (.tuple #[.string ⟨#[]⟩, .bool false]) ∧ Below w.heap.size w w' := by
  have HB := Lib.hid ((Below.refl w.heap.size w).alloc (Nat.le_refl _) (.cells (fdRow x vo vc so sc) 30))
  have HR0 := Lib.hid (heap_alloc_new w (.cells (fdRow x vo vc so sc) 30))
  have HV := Lib.hid (rvalid_term f x.val vo vc _ (hv.tms HB.out) hok1 hc1)
  rw [hvv] at HV
  have h8 : (x.val.bits.tmod 8 != 0) = true := by simpa using hun
  have HS0 := Lib.hid hsz
  clear hv hs hc1 hc2 hok2 hok1 hvv hun hsz
  have HI23 : Hid ((Tryz.prog.info? 30).map (·.size) = some (fdRow x vo vc so sc).size) := Lib.hid (by kernel_rfl)
  go_enter Tryz.func33, Tryz.ntmps33
  generalize hW : w.alloc (.cells (fdRow x vo vc so sc) 30) = W at *
  have KC : Hid (∀ wx : World, Below W.heap.size W wx → ∀ j, wx.cell? ⟨w.heap.size, j, none⟩ = (fdRow x vo vc so sc)[j]?) := Lib.hid (fun wx hx j => by rw [cell_of_row _ _ _ _ _ _ ((hx.block _ (lt_of_row HR0.out)).trans HR0.out)])
  have k0 := KC.out W (Below.refl _ _)
  have c0 : W.cell? ⟨w.heap.size, 0, none⟩ = some (.int .i64 3) := by rw [k0 0, ← ht]; rfl
  have c2 : W.cell? ⟨w.heap.size, 2, none⟩ = some (.int .i64 10) := by rw [k0 2, ← hvk]; rfl
  have c3 : W.cell? ⟨w.heap.size, 3, none⟩ = some (.int .i64 x.val.int) := k0 3
  have c4 : W.cell? ⟨w.heap.size, 4, none⟩ = some (.int .i64 x.val.gen) := k0 4
  have c5 : W.cell? ⟨w.heap.size, 5, none⟩ = some (.string x.val.name) := k0 5
  have c6 : W.cell? ⟨w.heap.size, 6, none⟩ = some (.string x.val.func) := k0 6
  have c7 : W.cell? ⟨w.heap.size, 7, none⟩ = some (.int .i64 x.val.arity) := k0 7
  have c8 : W.cell? ⟨w.heap.size, 8, none⟩ = some (.slice vo x.val.items.length vc) := k0 8
  have c9 : W.cell? ⟨w.heap.size, 9, none⟩ = some (.string x.val.bytes) := k0 9
  have c10 : W.cell? ⟨w.heap.size, 10, none⟩ = some (.int .i64 x.val.bits) := k0 10
  clear k0
  rw [hvk] at HV
  go_upto_region 25 with (first | (go_at_call 18; refine HV.out.mono ?_; rintro e w1 ⟨rfl, hb1⟩; have d0 : w1.cell? ⟨w.heap.size, 0, none⟩ = some (.int .i64 3) := (KC.out w1 hb1 0).trans ((KC.out W (Below.refl _ _) 0).symm.trans c0); have d2 : w1.cell? ⟨w.heap.size, 2, none⟩ = some (.int .i64 10) := (KC.out w1 hb1 2).trans ((KC.out W (Below.refl _ _) 2).symm.trans c2)) | fail)
  clear c0 c2 c3 c4 c5 c6 c7 c8 c9 c10 d0 d2
  have d10 : w1.cell? ⟨w.heap.size, 10, none⟩ = some (.int .i64 x.val.bits) := KC.out w1 hb1 10
  have d20 : w1.cell? ⟨w.heap.size, 20, none⟩ = some (.bool false) := by rw [KC.out w1 hb1 20, ← HS0.out]; rfl
  go_wp2_with fail
  go_ret2
  exact ⟨rfl, HB.out.trans (hb1.mono HB.out.size)⟩
set_option maxRecDepth 100000 in
set_option maxHeartbeats 8000000 in
theorem rfield_int_no (f : Nat) (x : Fd) (vo : Option Addr) (vc : Nat) (so : Option Addr) (sc : Nat) (z : Int) (w : World) (ht : x.type = 1) (hvk : x.val.kind = 1) (hvv : validF (f + 1) x.val = true) (hk : sizeV f x 8 64 = z) (hz : z < 0 ∨ (0 ≤ z ∧ x.little = true ∧ z % 8 ≠ 0))
    (hv : SlAt w 9 (TmAt w f) vo x.val.items) (hs : SlAt w 9 (TmAt w f) so x.size.items) (hok1 : x.val.Ok) (hok2 : x.size.Ok) (hc1 : (capF (f + 1) x.val : Int) ≤ 1152921504606846976) (hc2 : (capF (f + 1) x.size : Int) ≤ 1152921504606846976) :
    Calls Tryz.prog 33 #[.agg (fdRow x vo vc so sc)] w fun e w' => e = .returned (.tuple #[.string ⟨#[]⟩, .bool false]) ∧ Below w.heap.size w w' := by
  have HB := Lib.hid ((Below.refl w.heap.size w).alloc (Nat.le_refl _) (.cells (fdRow x vo vc so sc) 30))
  have HR0 := Lib.hid (heap_alloc_new w (.cells (fdRow x vo vc so sc) 30))
  have HV := Lib.hid (rvalid_term f x.val vo vc _ (hv.tms HB.out) hok1 hc1)
  rw [hvv] at HV
  have HSz := Lib.hid (fun wx (hx : Below w.heap.size w wx) => by have h := rsize_any f x vo vc so sc 8 64 wx (hs.tms hx) hok2 hc2; rw [hk] at h; exact h)
  have HZ := Lib.hid hz
  clear hv hs hc1 hc2 hok2 hk hok1 hvv hz
  have HI23 : Hid ((Tryz.prog.info? 30).map (·.size) = some (fdRow x vo vc so sc).size) := Lib.hid (by kernel_rfl)
  go_enter Tryz.func33, Tryz.ntmps33
  generalize hW : w.alloc (.cells (fdRow x vo vc so sc) 30) = W at *
  have KC : Hid (∀ wx : World, Below W.heap.size W wx → ∀ j, wx.cell? ⟨w.heap.size, j, none⟩ = (fdRow x vo vc so sc)[j]?) := Lib.hid (fun wx hx j => by rw [cell_of_row _ _ _ _ _ _ ((hx.block _ (lt_of_row HR0.out)).trans HR0.out)])
  have k0 := KC.out W (Below.refl _ _)
  have c0 : W.cell? ⟨w.heap.size, 0, none⟩ = some (.int .i64 1) := by rw [k0 0, ← ht]; rfl
  have c2 : W.cell? ⟨w.heap.size, 2, none⟩ = some (.int .i64 1) := by rw [k0 2, ← hvk]; rfl
  have c3 : W.cell? ⟨w.heap.size, 3, none⟩ = some (.int .i64 x.val.int) := k0 3
  have c4 : W.cell? ⟨w.heap.size, 4, none⟩ = some (.int .i64 x.val.gen) := k0 4
  have c5 : W.cell? ⟨w.heap.size, 5, none⟩ = some (.string x.val.name) := k0 5
  have c6 : W.cell? ⟨w.heap.size, 6, none⟩ = some (.string x.val.func) := k0 6
  have c7 : W.cell? ⟨w.heap.size, 7, none⟩ = some (.int .i64 x.val.arity) := k0 7
  have c8 : W.cell? ⟨w.heap.size, 8, none⟩ = some (.slice vo x.val.items.length vc) := k0 8
  have c9 : W.cell? ⟨w.heap.size, 9, none⟩ = some (.string x.val.bytes) := k0 9
  have c10 : W.cell? ⟨w.heap.size, 10, none⟩ = some (.int .i64 x.val.bits) := k0 10
  clear k0
  rw [hvk] at HV
  go_upto_region 6 with (first | (go_at_call 18; refine HV.out.mono ?_; rintro e w1 ⟨rfl, hb1⟩; have d0 : w1.cell? ⟨w.heap.size, 0, none⟩ = some (.int .i64 1) := (KC.out w1 hb1 0).trans ((KC.out W (Below.refl _ _) 0).symm.trans c0); have d2 : w1.cell? ⟨w.heap.size, 2, none⟩ = some (.int .i64 1) := (KC.out w1 hb1 2).trans ((KC.out W (Below.refl _ _) 2).symm.trans c2)) | fail)
  clear c0 c2 c3 c4 c5 c6 c7 c8 c9 c10 d0 d2
  have HR1 := Lib.hid ((hb1.block _ (lt_of_row HR0.out)).trans HR0.out)
  have HSz1 := Lib.hid (HSz.out w1 (HB.out.trans (hb1.mono HB.out.size)))
  go_upto_region 7 with (first | (refine wpList_load_row rfl 30 _ rfl w.heap.size rfl 30 (fdRow x vo vc so sc) _ _ HR1.out Tryz.underlying30 rfl HI23.out ?_) | (go_at_call 58; refine HSz1.out.mono ?_; rintro e w2 ⟨rfl, hb2⟩) | fail)
  have hb12 := below_next hb1 hb2
  have e22 : w2.cell? ⟨w.heap.size, 22, none⟩ = some (.bool x.little) := KC.out w2 hb12 22
  have HBE := Lib.hid (HB.out.trans (hb12.mono HB.out.size))
  clear HV HSz HSz1 HR1 hb1 hb2 hb12
  rcases HZ.out with h | ⟨h, h2, h3⟩
  · have t1 : decide (z < 0) = true := decide_eq_true h
    clear h
    go_wp2_with fail
    go_ret2
    exact ⟨rfl, HBE.out⟩
  · have t1 : decide (z < 0) = false := decide_eq_false (by omega)
    have t2 : (z.tmod 8 != 0) = true := by rw [Int.tmod_eq_emod_of_nonneg h]; simpa using h3
    rw [h2] at e22
    clear h h2 h3
    go_wp2_with fail
    go_ret2
    exact ⟨rfl, HBE.out⟩
set_option maxRecDepth 100000 in
set_option maxHeartbeats 8000000 in
theorem rfield_misfit (f : Nat) (x : Fd) (vo : Option Addr) (vc : Nat) (so : Option Addr) (sc : Nat) (w : World) (hvv : validF (f + 1) x.val = true) (h4 : x.type ≠ 4) (h1 : x.type = 1 → x.val.kind ≠ 1) (h2 : x.type = 2 → x.val.kind ≠ 10) (h3 : x.type = 3 → x.val.kind ≠ 10)
    (hv : SlAt w 9 (TmAt w f) vo x.val.items) (hs : SlAt w 9 (TmAt w f) so x.size.items) (hok1 : x.val.Ok) (hok2 : x.size.Ok) (hc1 : (capF (f + 1) x.val : Int) ≤ 1152921504606846976) (hc2 : (capF (f + 1) x.size : Int) ≤ 1152921504606846976) :
    Calls Tryz.prog 33 #[.agg (fdRow x vo vc so sc)] w fun e w' => e = .returned (.tuple #[.string ⟨#[]⟩, .bool false]) ∧ Below w.heap.size w w' := by
  have HB := Lib.hid ((Below.refl w.heap.size w).alloc (Nat.le_refl _) (.cells (fdRow x vo vc so sc) 30))
  have HR0 := Lib.hid (heap_alloc_new w (.cells (fdRow x vo vc so sc) 30))
  have HV := Lib.hid (rvalid_term f x.val vo vc _ (hv.tms HB.out) hok1 hc1)
  rw [hvv] at HV
  have t4 : (x.type == 4) = false := by simpa using h4
  have HN := Lib.hid (And.intro h1 (And.intro h2 h3))
  clear hv hs hc1 hc2 hok2 hok1 hvv h1 h2 h3 h4
  have HI23 : Hid ((Tryz.prog.info? 30).map (·.size) = some (fdRow x vo vc so sc).size) := Lib.hid (by kernel_rfl)
  go_enter Tryz.func33, Tryz.ntmps33
  generalize hW : w.alloc (.cells (fdRow x vo vc so sc) 30) = W at *
  have KC : Hid (∀ wx : World, Below W.heap.size W wx → ∀ j, wx.cell? ⟨w.heap.size, j, none⟩ = (fdRow x vo vc so sc)[j]?) := Lib.hid (fun wx hx j => by rw [cell_of_row _ _ _ _ _ _ ((hx.block _ (lt_of_row HR0.out)).trans HR0.out)])
  have k0 := KC.out W (Below.refl _ _)
  have c0 : W.cell? ⟨w.heap.size, 0, none⟩ = some (.int .i64 x.type) := k0 0
  have c2 : W.cell? ⟨w.heap.size, 2, none⟩ = some (.int .i64 x.val.kind) := k0 2
  have c3 : W.cell? ⟨w.heap.size, 3, none⟩ = some (.int .i64 x.val.int) := k0 3
  have c4 : W.cell? ⟨w.heap.size, 4, none⟩ = some (.int .i64 x.val.gen) := k0 4
  have c5 : W.cell? ⟨w.heap.size, 5, none⟩ = some (.string x.val.name) := k0 5
  have c6 : W.cell? ⟨w.heap.size, 6, none⟩ = some (.string x.val.func) := k0 6
  have c7 : W.cell? ⟨w.heap.size, 7, none⟩ = some (.int .i64 x.val.arity) := k0 7
  have c8 : W.cell? ⟨w.heap.size, 8, none⟩ = some (.slice vo x.val.items.length vc) := k0 8
  have c9 : W.cell? ⟨w.heap.size, 9, none⟩ = some (.string x.val.bytes) := k0 9
  have c10 : W.cell? ⟨w.heap.size, 10, none⟩ = some (.int .i64 x.val.bits) := k0 10
  clear k0
  by_cases hty : x.type = 1
  · have u1 : (x.type == 1) = true := by rw [hty]; rfl
    have u2 : (x.type == 2) = false := by rw [hty]; rfl
    have u3 : (x.type == 3) = false := by rw [hty]; rfl
    have v1 : (x.val.kind == 1) = false := by simpa using (HN.out.1 hty)
    clear hty
    go_wp2_with (first | (go_at_call 18; refine HV.out.mono ?_; rintro e w1 ⟨rfl, hb1⟩; have d0 : w1.cell? ⟨w.heap.size, 0, none⟩ = some (.int .i64 x.type) := (KC.out w1 hb1 0).trans ((KC.out W (Below.refl _ _) 0).symm.trans c0); have d2 : w1.cell? ⟨w.heap.size, 2, none⟩ = some (.int .i64 x.val.kind) := (KC.out w1 hb1 2).trans ((KC.out W (Below.refl _ _) 2).symm.trans c2)) | fail)
    go_ret2
    exact ⟨rfl, HB.out.trans (hb1.mono HB.out.size)⟩
  by_cases hty2 : x.type = 2
  · have hty := hty2
    clear hty2
    have u1 : (x.type == 1) = false := by rw [hty]; rfl
    have u2 : (x.type == 2) = true := by rw [hty]; rfl
    have u3 : (x.type == 3) = false := by rw [hty]; rfl
    have v1 : (x.val.kind == 10) = false := by simpa using (HN.out.2.1 hty)
    clear hty
    go_wp2_with (first | (go_at_call 18; refine HV.out.mono ?_; rintro e w1 ⟨rfl, hb1⟩; have d0 : w1.cell? ⟨w.heap.size, 0, none⟩ = some (.int .i64 x.type) := (KC.out w1 hb1 0).trans ((KC.out W (Below.refl _ _) 0).symm.trans c0); have d2 : w1.cell? ⟨w.heap.size, 2, none⟩ = some (.int .i64 x.val.kind) := (KC.out w1 hb1 2).trans ((KC.out W (Below.refl _ _) 2).symm.trans c2)) | fail)
    go_ret2
    exact ⟨rfl, HB.out.trans (hb1.mono HB.out.size)⟩
  by_cases hty3 : x.type = 3
  · have hty := hty3
    clear hty3
    have u1 : (x.type == 1) = false := by rw [hty]; rfl
    have u2 : (x.type == 2) = false := by rw [hty]; rfl
    have u3 : (x.type == 3) = true := by rw [hty]; rfl
    have v1 : (x.val.kind == 10) = false := by simpa using (HN.out.2.2 hty)
    clear hty
    go_wp2_with (first | (go_at_call 18; refine HV.out.mono ?_; rintro e w1 ⟨rfl, hb1⟩; have d0 : w1.cell? ⟨w.heap.size, 0, none⟩ = some (.int .i64 x.type) := (KC.out w1 hb1 0).trans ((KC.out W (Below.refl _ _) 0).symm.trans c0); have d2 : w1.cell? ⟨w.heap.size, 2, none⟩ = some (.int .i64 x.val.kind) := (KC.out w1 hb1 2).trans ((KC.out W (Below.refl _ _) 2).symm.trans c2)) | fail)
    go_ret2
    exact ⟨rfl, HB.out.trans (hb1.mono HB.out.size)⟩
  have u1 : (x.type == 1) = false := by simpa using hty
  have u2 : (x.type == 2) = false := by simpa using hty2
  have u3 : (x.type == 3) = false := by simpa using hty3
  clear hty hty2 hty3
  go_wp2_with (first | (go_at_call 18; refine HV.out.mono ?_; rintro e w1 ⟨rfl, hb1⟩; have d0 : w1.cell? ⟨w.heap.size, 0, none⟩ = some (.int .i64 x.type) := (KC.out w1 hb1 0).trans ((KC.out W (Below.refl _ _) 0).symm.trans c0); have d2 : w1.cell? ⟨w.heap.size, 2, none⟩ = some (.int .i64 x.val.kind) := (KC.out w1 hb1 2).trans ((KC.out W (Below.refl _ _) 2).symm.trans c2)) | fail)
  go_ret2
  exact ⟨rfl, HB.out.trans (hb1.mono HB.out.size)⟩
end Go.Proofs.YthmpobimmbmddaaGreatDoor
namespace Go.Proofs.YthmpobimmbmddaaGreatDoor
open Go.RowKit
set_option linter.unusedVariables false
set_option linter.unusedSimpArgs false

def RfPost (r : Option (List Bool)) (w : World) (e : Ending) (w' : World) : Prop :=
  (match r with
  | some m => e = .returned (.tuple #[.string (dstr m), .bool true])
  | none => e = .returned (.tuple #[.string ⟨#[]⟩, .bool false])) ∧ Below w.heap.size w w'
theorem sizeV_cases (f : Nat) (x : Fd) (o mo : Int) (h0 : 0 ≤ o) (h1 : o ≤ mo) : sizeV f x o mo = -1 ∨ ∃ m : Nat, sizeV f x o mo = (m : Int) ∧ (m : Int) ≤ mo := by
  unfold sizeV
  split
  · exact .inr ⟨o.toNat, by omega, by omega⟩
  · split
    · rename_i h
      exact .inr ⟨x.size.int.toNat, by omega, by omega⟩
    · exact .inl rfl
/-- A valid bit string: its bytes and how many bits. -/
theorem bits_facts {f : Nat} {t : Tm} (h : validF (f + 1) t = true) (hk : t.kind = 10) : 0 ≤ t.bits ∧ t.bits ≤ 16384 ∧ t.bits ≤ 8 * (t.bytes.size : Int) ∧ t.bytes.size ≤ 2048 := by
  obtain ⟨m, hm, rfl, _⟩ := bits_is h hk
  have hs := bstr_size m
  show 0 ≤ (m.length : Int) ∧ (m.length : Int) ≤ 16384 ∧ (m.length : Int) ≤ 8 * ((bstr m).size : Int) ∧ (bstr m).size ≤ 2048
  omega
theorem rfield_any (f : Nat) (x : Fd) (vo : Option Addr) (vc : Nat) (so : Option Addr) (sc : Nat) (w : World) (hy : x.text.size ≤ 1000000)
    (hv : SlAt w 9 (TmAt w f) vo x.val.items) (hs : SlAt w 9 (TmAt w f) so x.size.items) (hok1 : x.val.Ok) (hok2 : x.size.Ok) (hc1 : (capF (f + 1) x.val : Int) ≤ 1152921504606846976) (hc2 : (capF (f + 1) x.size : Int) ≤ 1152921504606846976) :
    Calls Tryz.prog 33 #[.agg (fdRow x vo vc so sc)] w (RfPost (fieldV f x) w) := by
  have mkN : fieldV f x = none → Calls Tryz.prog 33 #[.agg (fdRow x vo vc so sc)] w (fun e w' => e = .returned (.tuple #[.string ⟨#[]⟩, .bool false]) ∧ Below w.heap.size w w') → Calls Tryz.prog 33 #[.agg (fdRow x vo vc so sc)] w (RfPost (fieldV f x) w) := fun h c => by rw [h]; exact c
  have mkS : ∀ (m : List Bool), fieldV f x = some m → Calls Tryz.prog 33 #[.agg (fdRow x vo vc so sc)] w (fun e w' => e = .returned (.tuple #[.string (dstr m), .bool true]) ∧ Below w.heap.size w w') → Calls Tryz.prog 33 #[.agg (fdRow x vo vc so sc)] w (RfPost (fieldV f x) w) := fun m h c => by rw [h]; exact c
  by_cases h4 : x.type = 4
  · exact mkS _ (by unfold fieldV; rw [if_pos h4]) (rfield_text x vo vc so sc w h4 hy)
  cases hvv : validF (f + 1) x.val with
  | false => exact mkN (by unfold fieldV; rw [if_neg h4, if_pos hvv]) (rfield_no f x vo vc so sc w h4 hvv hv hok1 hc1)
  | true =>
    have hf : ¬ (validF (f + 1) x.val = false) := by rw [hvv]; decide
    by_cases h1 : x.type = 1 ∧ x.val.kind = 1
    · rcases sizeV_cases f x 8 64 (by decide) (by decide) with hz | ⟨m, hz, hm⟩
      · exact mkN (by unfold fieldV; rw [if_neg h4, if_neg hf, if_pos h1, if_pos (.inl (by rw [hz]; decide))]) (rfield_int_no f x vo vc so sc (-1) w h1.1 h1.2 hvv hz (.inl (by decide)) hv hs hok1 hok2 hc1 hc2)
      · by_cases hl : x.little = true ∧ (m : Int) % 8 ≠ 0
        · exact mkN (by unfold fieldV; rw [if_neg h4, if_neg hf, if_pos h1, if_pos (.inr (by rw [hz]; exact hl))]) (rfield_int_no f x vo vc so sc m w h1.1 h1.2 hvv hz (.inr ⟨by omega, hl.1, hl.2⟩) hv hs hok1 hok2 hc1 hc2)
        · refine mkS (intBits x.val.int m x.little) (by unfold fieldV; rw [if_neg h4, if_neg hf, if_pos h1, hz, if_neg (by intro h; rcases h with h | h; omega; exact hl h)]; rfl) (rfield_int f x vo vc so sc m w h1.1 h1.2 hvv hz (by omega) (fun e => ?_) hv hs hok1 hok2 hc1 hc2)
          have : ¬ ((m : Int) % 8 ≠ 0) := fun h => hl ⟨e, h⟩
          omega
    · by_cases h2 : x.type = 2 ∧ x.val.kind = 10
      · obtain ⟨b0, b1, b2, b3⟩ := bits_facts hvv h2.2
        rcases sizeV_cases f x x.val.bits x.val.bits b0 (Int.le_refl _) with hz | ⟨m, hz, hm⟩
        · exact mkN (by unfold fieldV; rw [if_neg h4, if_neg hf, if_neg h1, if_pos h2, if_pos (by rw [hz]; decide)]) (rfield_bits_no f x vo vc so sc w h2.1 h2.2 hvv hz (by omega) hv hs hok1 hok2 hc1 hc2)
        · exact mkS (sub (bitsL x.val.bytes.data.toList) 0 m) (by unfold fieldV; rw [if_neg h4, if_neg hf, if_neg h1, if_pos h2, hz, if_neg (by omega)]; rfl) (rfield_bits f x vo vc so sc m w h2.1 h2.2 hvv hz (by omega) (by omega) hv hs hok1 hok2 hc1 hc2)
      · by_cases h3 : x.type = 3 ∧ x.val.kind = 10
        · obtain ⟨b0, b1, b2, b3⟩ := bits_facts hvv h3.2
          have ht : x.val.bits.tmod 8 = x.val.bits % 8 := Int.tmod_eq_emod_of_nonneg b0
          have hq : x.val.bits.tdiv 8 = x.val.bits / 8 := Int.tdiv_eq_ediv_of_nonneg b0
          by_cases ho : x.sized = false ∧ x.val.bits % 8 ≠ 0
          · exact mkN (by unfold fieldV; rw [if_neg h4, if_neg hf, if_neg h1, if_neg h2, if_pos h3, if_pos ho]) (rfield_bytes_odd f x vo vc so sc w h3.1 h3.2 hvv ho.1 (by rw [ht]; exact ho.2) hv hs hok1 hok2 hc1 hc2)
          · have hun : x.sized = true ∨ x.val.bits.tmod 8 = 0 := by
              rw [ht]
              cases hsz : x.sized with
              | true => exact .inl rfl
              | false => right; exact Classical.byContradiction fun h => ho ⟨hsz, h⟩
            rcases sizeV_cases f x (x.val.bits / 8) (x.val.bits / 8) (by omega) (Int.le_refl _) with hz | ⟨m, hz, hm⟩
            · exact mkN (by unfold fieldV; rw [if_neg h4, if_neg hf, if_neg h1, if_neg h2, if_pos h3, if_neg ho, if_pos (by rw [hz]; decide)]) (rfield_bytes_no f x vo vc so sc (x.val.bits / 8) w h3.1 h3.2 hvv hq ⟨by omega, by omega⟩ hun hz (by omega) hv hs hok1 hok2 hc1 hc2)
            · exact mkS (sub (bitsL x.val.bytes.data.toList) 0 (8 * m)) (by unfold fieldV; rw [if_neg h4, if_neg hf, if_neg h1, if_neg h2, if_pos h3, if_neg ho, hz, if_neg (by omega)]; rfl) (rfield_bytes f x vo vc so sc (x.val.bits / 8) m w h3.1 h3.2 hvv hq ⟨by omega, by omega⟩ hun hz (by omega) (by omega) hv hs hok1 hok2 hc1 hc2)
        · exact mkN (by unfold fieldV; rw [if_neg h4, if_neg hf, if_neg h1, if_neg h2, if_neg h3]) (rfield_misfit f x vo vc so sc w hvv h4 (fun a b => h1 ⟨a, b⟩) (fun a b => h2 ⟨a, b⟩) (fun a b => h3 ⟨a, b⟩) hv hs hok1 hok2 hc1 hc2)
end Go.Proofs.YthmpobimmbmddaaGreatDoor
namespace Go.Proofs.YthmpobimmbmddaaGreatDoor
open Go.RowKit
set_option linter.unusedVariables false
set_option linter.unusedSimpArgs false

set_option maxRecDepth 100000 in
set_option maxHeartbeats 4000000 in
theorem ratom_any (s : ByteArray) (w : World) : Calls Tryz.prog 132 #[.string s] w fun e w' => e = .returned (atomV s) ∧ Below w.heap.size w w' := by
  go_enter Tryz.func132, Tryz.ntmps132
  go_wp2_with fail
  refine bodyPost_ret (results_cell_row rfl _ _ w.heap.size _ _ _ _ rfl (heap_alloc_new _ _) Tryz.underlying28 rfl (by kernel_rfl)) rfl ?_
  exact ⟨rfl, (Below.refl _ _).alloc (Nat.le_refl _) _⟩
theorem one_exc (w : World) : (w.alloc (.cells zRow10 34)).heap[w.heap.size]? = some (.cells zRow10 34 (0, 0)) := heap_alloc_new _ _
set_option maxRecDepth 100000 in
set_option maxHeartbeats 4000000 in
theorem rfails_any (s : ByteArray) (w : World) : Calls Tryz.prog 61 #[.string s] w fun e w' => e = .returned (failV s) ∧ Below w.heap.size w w' := by
  have HO := Lib.hid (one_exc w); have HB := Lib.hid ((Below.refl w.heap.size w).alloc (Nat.le_refl _) (.cells zRow10 34))
  go_enter Tryz.func61, Tryz.ntmps61
  generalize hW : w.alloc (.cells zRow10 34) = W at *
  have HWs : Hid (w.heap.size < W.heap.size) := Lib.hid (lt_of_row HO.out)
  go_wp2_with (first | (go_at_call 132; refine (ratom_any _ _).mono ?_; rintro e w1 ⟨rfl, hb1⟩; have hT := (hb1.block _ HWs.out).trans HO.out) | (refine wpList_store_row rfl 34 _ _ rfl w.heap.size _ rfl rfl 34 _ hT (by kernel_rfl) rfl (by simp [Value.oneCell']) ?_) | fail)
  refine bodyPost_ret (results_cell_row rfl _ _ w.heap.size _ _ _ _ rfl (setRow_heap _ _ _ #[.string ⟨#[101, 114, 114, 111, 114]⟩, .int .i64 2, .int .i64 0, .int .i64 0, .string s, .string ⟨#[]⟩, .int .i64 0, .slice none 0 0, .string ⟨#[]⟩, .int .i64 0] _ _ hT) Tryz.underlying34 rfl (by kernel_rfl)) rfl ?_
  exact ⟨rfl, below_setRow (HB.out.trans (hb1.mono HB.out.size)) (Nat.le_refl _) _⟩
set_option maxRecDepth 100000 in
set_option maxHeartbeats 4000000 in
theorem rfail_any (s : ByteArray) (w : World) : Calls Tryz.prog 34 #[.string s] w fun e w' => e = .returned (.tuple #[zeroV, failV s]) ∧ Below w.heap.size w w' := by
  have HT := Lib.hid (two_new w); have HB := Lib.hid (two_belowE w)
  go_enter Tryz.func34, Tryz.ntmps34
  generalize hW : (w.alloc (.cells zRow9 28)).alloc (.cells zRow10 34) = W at *
  go_wp2_with (first | (go_at_call 61; refine (rfails_any _ _).mono ?_; rintro e w1 ⟨rfl, hb1⟩; have hT := HT.out.below hb1) | (refine wpList_store_row rfl 28 _ _ rfl w.heap.size _ rfl rfl 28 _ hT.1 (by kernel_rfl) rfl (by simp [Value.oneCell']) ?_) | (refine wpList_store_row rfl 34 _ _ rfl (w.heap.size + 1) _ rfl rfl 34 _ (two_other hT (by omega) _) (by kernel_rfl) rfl (by simp [Value.oneCell']) ?_) | fail)
  obtain ⟨z1, z2, z3⟩ := two_set hT (by omega) (HB.out.trans (hb1.mono HB.out.size)) (Nat.le_refl _) (Nat.le_succ _) zRow9 #[.string ⟨#[101, 114, 114, 111, 114]⟩, .int .i64 2, .int .i64 0, .int .i64 0, .string s, .string ⟨#[]⟩, .int .i64 0, .slice none 0 0, .string ⟨#[]⟩, .int .i64 0]
  refine bodyPost_ret (results_two_rows rfl _ _ _ w.heap.size (w.heap.size + 1) _ _ _ _ _ _ _ _ rfl z1 rfl z2 Tryz.underlying28 (by kernel_rfl) Tryz.underlying34 (by kernel_rfl)) rfl ?_
  exact ⟨rfl, z3⟩
set_option maxRecDepth 100000 in
set_option maxHeartbeats 4000000 in
theorem ris_any (k i g a z : Int) (n f y : ByteArray) (so : Option Addr) (l c : Nat) (w : World) :
    Calls Tryz.prog 35 #[.agg #[.int .i64 k, .int .i64 i, .int .i64 g, .string n, .string f, .int .i64 a, .slice so l c, .string y, .int .i64 z]] w fun e w' => e = .returned (.tuple #[.agg #[.int .i64 k, .int .i64 i, .int .i64 g, .string n, .string f, .int .i64 a, .slice so l c, .string y, .int .i64 z], noneV]) ∧ Below w.heap.size w w' := by
  have HT := Lib.hid (two_newP w (.cells #[.int .i64 k, .int .i64 i, .int .i64 g, .string n, .string f, .int .i64 a, .slice so l c, .string y, .int .i64 z] 28))
  have HB := Lib.hid (two_belowP w (.cells #[.int .i64 k, .int .i64 i, .int .i64 g, .string n, .string f, .int .i64 a, .slice so l c, .string y, .int .i64 z] 28))
  go_enter Tryz.func35, Tryz.ntmps35
  go_wp2_with (first | (refine wpList_store_row rfl 28 _ _ rfl (w.heap.size + 1) _ rfl rfl 28 _ HT.out.1 (by kernel_rfl) rfl (by simp [Value.oneCell']) ?_) | (refine wpList_store_row rfl 34 _ _ rfl (w.heap.size + 2) _ rfl rfl 34 _ (two_other HT.out (by omega) _) (by kernel_rfl) rfl (by simp [Value.oneCell']) ?_) | fail)
  obtain ⟨q1, q2, q3⟩ := two_set HT.out (by omega) HB.out (by omega) (by omega) #[.int .i64 k, .int .i64 i, .int .i64 g, .string n, .string f, .int .i64 a, .slice so l c, .string y, .int .i64 z] zRow10
  refine bodyPost_ret (results_two_rows rfl _ _ _ (w.heap.size + 1) (w.heap.size + 2) _ _ _ _ _ _ _ _ rfl q1 rfl q2 Tryz.underlying28 (by kernel_rfl) Tryz.underlying34 (by kernel_rfl)) rfl ?_
  exact ⟨rfl, q3⟩
/-- What the reference's field gives of a segment, wherever it lies. -/
def RdIs (f : Nat) (x : Fd) (r : Option (List Bool)) : Prop :=
  ∀ (vo so : Option Addr) (vc sc : Nat) (w : World), SlAt w 9 (TmAt w f) vo x.val.items → SlAt w 9 (TmAt w f) so x.size.items → Calls Tryz.prog 33 #[.agg (fdRow x vo vc so sc)] w (RfPost r w)
theorem dstr_snoc (ms : List (List Bool)) (m : List Bool) : dstr ms.flatten ++ dstr m = dstr (ms ++ [m]).flatten := by
  apply ByteArray.ext
  show (dstr ms.flatten ++ dstr m).data = (digL (ms ++ [m]).flatten).toArray
  rw [ByteArray.data_append, List.flatten_append]
  show (digL ms.flatten).toArray ++ (digL m).toArray = _
  rw [List.append_toArray, ← digL_app]; simp

set_option maxRecDepth 100000 in
set_option maxHeartbeats 16000000 in
theorem refbits_any (f : Nat) (fs : List Fd) (rs : List (Option (List Bool))) (ao : Option Addr) (c : Nat) (w : World) (hs : SlAt w 23 (FdR w f) ao fs) (hn : fs.length ≤ 1000) (hr : rs.length = fs.length)
    (hf : ∀ k (h : k < fs.length) (h2 : k < rs.length), RdIs f fs[k] rs[k]) (hm : ∀ (k : Nat) (m : List Bool), rs[k]? = some (some m) → m.length ≤ 1099511627776) :
    Calls Tryz.prog 12 #[.slice ao fs.length c] w (BitsQ (allB rs) w) := by
  have HT := Lib.hid (two_new w); have HB := Lib.hid (two_belowE w)
  have HS := Lib.hid (show SlAt ((w.alloc (.cells zRow9 28)).alloc (.cells zRow10 34)) 23 (FdR ((w.alloc (.cells zRow9 28)).alloc (.cells zRow10 34)) f) ao fs from hs.mono HB.out (fun _ _ h => h.below HB.out))
  have HR := Lib.hid hr; have HF := Lib.hid hf; have HM := Lib.hid hm
  obtain ⟨Q, hQ⟩ : ∃ Q, Q = BitsQ (allB rs) w := ⟨_, rfl⟩
  rw [← hQ]
  have HQ := Lib.hid hQ
  clear hs hr hf hm hQ
  go_enter Tryz.func12, Tryz.ntmps12
  generalize hW : (w.alloc (.cells zRow9 28)).alloc (.cells zRow10 34) = W at *
  go_wp2_with fail
  go_loopw [4, 5, 6] (fun nv pv kv wr => ∃ (k F : Nat) (ms ps : List (List Bool)) (S : ByteArray), k ≤ fs.length ∧ kv = .int .i64 k ∧ nv = .int .i64 F ∧ pv = .string S ∧ Hid (S = dstr ps.flatten) ∧ Hid (F = ms.flatten.length) ∧ Hid (rs.take k = ms.map some) ∧ F ≤ k * 1099511627776 ∧ Hid (ms.flatten.length ≤ 16384 → ps = ms) ∧ Hid (ps.flatten.length ≤ 16384) ∧ Hid (Below W.heap.size W wr)) (fun _ _ kv _ => fs.length - (intOf kv).toNat)
  case atStart => exact ⟨0, 0, [], [], _, Nat.zero_le _, rfl, rfl, rfl, Lib.hid rfl, Lib.hid rfl, Lib.hid rfl, by simp, Lib.hid (fun _ => rfl), Lib.hid (by simp), Lib.hid (Below.refl _ _)⟩
  case round =>
    obtain ⟨k, F, ms, ps, S, hk, rfl, rfl, rfl, HSS, HFE, HTK, hsum, HPS, HPL, HBr⟩ := hrel
    rename World => wr
    by_cases hlt : k < fs.length
    · have hkr : k < rs.length := by rw [HR.out]; exact hlt
      obtain ⟨b, off, vo, vc, so, sc, R, hao, hb, hRe, hRs, hR1, hRc, it1, it2⟩ := (HS.out.mono HBr.out (fun _ _ h => h.below HBr.out)).fdr hlt
      subst hao
      have hfk := HF.out k hlt hkr
      have hmk := HM.out k
      rw [List.getElem?_eq_getElem hkr] at hmk
      have HRK : Hid (rs[k]? = some rs[k]) := Lib.hid (List.getElem?_eq_getElem hkr)
      generalize rs[k] = o at *
      generalize fs[k] = x at *
      have hi23 : (Tryz.prog.info? 30).map (·.size) = some R.size := by rw [hRs]; kernel_rfl
      have HRC := Lib.hid hRc; have HI := Lib.hid hi23
      have hfc := hfk vo so vc sc _ it1 it2
      rw [← hRe] at hfc
      have HFC := Lib.hid hfc
      clear hfk it1 it2 hfc hRe hRs hR1 hRc hi23
      cases o with
      | none =>
        as_aux_lemma =>
        have HAN := Lib.hid (allB_none HRK.out)
        go_wp2_with (first | (refine wpList_load_at rfl 30 _ rfl b (off + k * 23) rfl R HRC.out _ Tryz.underlying30 HI.out ?_) | (go_at_call 33; refine HFC.out.mono ?_; rintro e w1 ⟨rfl, hb1⟩; have hbA := HBr.out.trans (hb1.mono HBr.out.size)) | (go_at_call 34; refine (rfail_any _ _).mono ?_; rintro e w2 ⟨rfl, hb2⟩; have hbB := hbA.trans (hb2.mono hbA.size); have hT := HT.out.below hbB) | (refine wpList_store_row rfl 28 _ _ rfl w.heap.size _ rfl rfl 28 _ hT.1 (by kernel_rfl) rfl (by simp [Value.oneCell']) ?_) | (refine wpList_store_row rfl 34 _ _ rfl (w.heap.size + 1) _ rfl rfl 34 _ (two_other hT (by omega) _) (by kernel_rfl) rfl (by simp [Value.oneCell']) ?_) | fail)
        obtain ⟨z1, z2, z3⟩ := two_set hT (by omega) (HB.out.trans (hbB.mono HB.out.size)) (Nat.le_refl _) (Nat.le_succ _) zRow9 #[.string ⟨#[101, 114, 114, 111, 114]⟩, .int .i64 2, .int .i64 0, .int .i64 0, .string ⟨#[98, 97, 100, 97, 114, 103]⟩, .string ⟨#[]⟩, .int .i64 0, .slice none 0 0, .string ⟨#[]⟩, .int .i64 0]
        refine bodyPost_ret (results_two_rows rfl _ _ _ w.heap.size (w.heap.size + 1) _ _ _ _ _ _ _ _ rfl z1 rfl z2 Tryz.underlying28 (by kernel_rfl) Tryz.underlying34 (by kernel_rfl)) rfl ?_
        rw [HQ.out, HAN.out]
        exact ⟨rfl, z3⟩
      | some m =>
        as_aux_lemma =>
        have hml := hmk m rfl
        have HTK2 : Hid (rs.take (k + 1) = (ms ++ [m]).map some) := Lib.hid (by rw [List.take_add_one, HRK.out, HTK.out, List.map_append]; rfl)
        have HFL := Lib.hid (flat_snoc ms m)
        have HPF := Lib.hid (flat_snoc ps m)
        have HSD := Lib.hid (dstr_snoc ps m)
        rw [← HFE.out] at HFL
        rw [← HSS.out] at HSD
        have hds := dstr_size m
        have HSZ : Hid (S.size ≤ 16384) := Lib.hid (by rw [HSS.out, dstr_size]; exact HPL.out)
        have hfc : Calls Tryz.prog 33 #[.agg R] wr fun e w' => e = .returned (.tuple #[.string (dstr m), .bool true]) ∧ Below wr.heap.size wr w' := HFC.out.mono fun e w' h => h
        have HFC2 := Lib.hid hfc
        clear hfc HFC hmk HRK
        generalize hy : dstr m = y at *
        obtain ⟨ml, hmL⟩ : ∃ ml, ml = m.length := ⟨_, rfl⟩
        rw [← hmL] at HFL HPF hml hds
        clear hy hmL
        by_cases h16 : F + ml ≤ 16384
        · have hps := HPS.out (by have := HFE.out; omega)
          subst hps
          have t1 : decide ((F : Int) + (ml : Int) ≤ 16384) = true := decide_eq_true (by omega)
          have hsz := HSZ.out
          go_wp2_with (first | (refine wpList_load_at rfl 30 _ rfl b (off + k * 23) rfl R HRC.out _ Tryz.underlying30 HI.out ?_) | (go_at_call 33; refine HFC2.out.mono ?_; rintro e w1 ⟨rfl, hb1⟩; have hbA := HBr.out.trans (hb1.mono HBr.out.size)) | fail)
          go_roundw
          case rel => exact ⟨k + 1, F + ml, ps ++ [m], ps ++ [m], S ++ y, by omega, by go_num, by simp, rfl, HSD, Lib.hid HFL.out.symm, HTK2, by omega, Lib.hid (fun _ => rfl), Lib.hid (by have := HFL.out; omega), Lib.hid hbA⟩
          case measure => simp [intOf]; omega
        · have t1 : decide ((F : Int) + (ml : Int) ≤ 16384) = false := decide_eq_false (by omega)
          go_wp2_with (first | (refine wpList_load_at rfl 30 _ rfl b (off + k * 23) rfl R HRC.out _ Tryz.underlying30 HI.out ?_) | (go_at_call 33; refine HFC2.out.mono ?_; rintro e w1 ⟨rfl, hb1⟩; have hbA := HBr.out.trans (hb1.mono HBr.out.size)) | fail)
          go_roundw
          case rel => exact ⟨k + 1, F + ml, ms ++ [m], ps, S, by omega, by go_num, by simp, rfl, HSS, Lib.hid HFL.out.symm, HTK2, by omega, Lib.hid (fun h => by have := HFL.out; omega), HPL, Lib.hid hbA⟩
          case measure => simp [intOf]; omega
    · obtain rfl : k = fs.length := by omega
      as_aux_lemma =>
      have HAS : Hid (allB rs = some ms) := Lib.hid (allB_some (by rw [← HTK.out, ← HR.out, List.take_length]))
      have HQ2 : Hid (∀ e w', (if F ≤ 16384 then e = .returned (.tuple #[bitsV' ms.flatten, noneV]) else e = .returned (.tuple #[zeroV, failV ⟨#[115, 121, 115, 116, 101, 109, 95, 108, 105, 109, 105, 116]⟩])) → Below w.heap.size w w' → Q e w') := Lib.hid (fun e w' h1 h2 => by
        rw [HQ.out, HAS.out]; rw [HFE.out] at h1; exact ⟨h1, h2⟩)
      by_cases h16 : F ≤ 16384
      · have hps := HPS.out (by have := HFE.out; omega)
        subst hps
        obtain ⟨M, hM⟩ : ∃ M, M = ps.flatten := ⟨_, rfl⟩
        rw [← hM] at HQ2 HFE HSS
        have hml : M.length ≤ 16384 := by have := HFE.out; omega
        have HOD := Lib.hid (fun wx => rofd_any M wx (by omega))
        rw [← HSS.out] at HOD
        have t1 : decide ((16384 : Int) < (F : Int)) = false := decide_eq_false (by omega)
        clear hM HTK HPS HAS HSS
        go_wp2_with (first | (go_at_call 36; refine (HOD.out _).mono ?_; rintro e w4 ⟨rfl, hb4⟩) | (go_at_call 35; refine (ris_any _ _ _ _ _ _ _ _ _ _ _ _).mono ?_; rintro e w5 ⟨rfl, hb5⟩; have hbB := below_next (below_next HBr.out hb4) hb5; have hT := HT.out.below hbB) | (refine wpList_store_row rfl 28 _ _ rfl w.heap.size _ rfl rfl 28 _ hT.1 (by kernel_rfl) rfl (by simp [Value.oneCell']) ?_) | (refine wpList_store_row rfl 34 _ _ rfl (w.heap.size + 1) _ rfl rfl 34 _ (two_other hT (by omega) _) (by kernel_rfl) rfl (by simp [Value.oneCell']) ?_) | fail)
        obtain ⟨z1, z2, z3⟩ := two_set hT (by omega) (HB.out.trans (hbB.mono HB.out.size)) (Nat.le_refl _) (Nat.le_succ _) #[.int .i64 10, .int .i64 0, .int .i64 0, .string ⟨#[]⟩, .string ⟨#[]⟩, .int .i64 0, .slice none 0 0, .string (bstr M), .int .i64 M.length] zRow10
        refine bodyPost_ret (results_two_rows rfl _ _ _ w.heap.size (w.heap.size + 1) _ _ _ _ _ _ _ _ rfl z1 rfl z2 Tryz.underlying28 (by kernel_rfl) Tryz.underlying34 (by kernel_rfl)) rfl ?_
        exact HQ2.out _ _ (by rw [if_pos h16]) z3
      · have t1 : decide ((16384 : Int) < (F : Int)) = true := decide_eq_true (by omega)
        go_wp2_with (first | (go_at_call 34; refine (rfail_any _ _).mono ?_; rintro e w5 ⟨rfl, hb5⟩; have hbB := below_next HBr.out hb5; have hT := HT.out.below hbB) | (refine wpList_store_row rfl 28 _ _ rfl w.heap.size _ rfl rfl 28 _ hT.1 (by kernel_rfl) rfl (by simp [Value.oneCell']) ?_) | (refine wpList_store_row rfl 34 _ _ rfl (w.heap.size + 1) _ rfl rfl 34 _ (two_other hT (by omega) _) (by kernel_rfl) rfl (by simp [Value.oneCell']) ?_) | fail)
        obtain ⟨z1, z2, z3⟩ := two_set hT (by omega) (HB.out.trans (hbB.mono HB.out.size)) (Nat.le_refl _) (Nat.le_succ _) zRow9 #[.string ⟨#[101, 114, 114, 111, 114]⟩, .int .i64 2, .int .i64 0, .int .i64 0, .string ⟨#[115, 121, 115, 116, 101, 109, 95, 108, 105, 109, 105, 116]⟩, .string ⟨#[]⟩, .int .i64 0, .slice none 0 0, .string ⟨#[]⟩, .int .i64 0]
        refine bodyPost_ret (results_two_rows rfl _ _ _ w.heap.size (w.heap.size + 1) _ _ _ _ _ _ _ _ rfl z1 rfl z2 Tryz.underlying28 (by kernel_rfl) Tryz.underlying34 (by kernel_rfl)) rfl ?_
        exact HQ2.out _ _ (by rw [if_neg h16]) z3
end Go.Proofs.YthmpobimmbmddaaGreatDoor
