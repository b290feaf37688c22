/-
  pure.field of a sized integer: the walk.   bits.FromTerm of a bit string; pure.field of one without a size: the walks.   PureFields: Pick; the bits of a number where they lie; pure.Bits of the two lists of segments.   PureFields: the walk. The reference's Digits: the walk.
-/
import Derived.Test.YthmpobimmbmddaaGreatDoorB05
import Derived.Test.YthmpobimmbmddaaGreatDoorB06
import Derived.Test.YthmpobimmbmddaaGreatDoorB12
import Derived.Test.YthmpobimmbmddaaGreatDoorB16
namespace Go.Proofs.YthmpobimmbmddaaGreatDoor
open Go.RowKit
set_option linter.unusedVariables false
set_option linter.unusedSimpArgs false

/-- The bits of an integer, its bytes in either order. -/
def intBits (n : Int) (k : Nat) (lt : Bool) : List Bool := if lt = true then bitsL (bytesN n k).reverse else bitsN n k
theorem intBits_len (n : Int) (k : Nat) (lt : Bool) (h : lt = true → k % 8 = 0) : (intBits n k lt).length = k := by
  unfold intBits
  split
  · rename_i hl
    rw [bitsL_len, List.length_reverse, bytesN_len]
    have := h hl; omega
  · exact bitsN_len n k
theorem intBits_pack (n : Int) (k : Nat) (lt : Bool) (hk : k ≤ 64) : packB (intBits n k lt) = intBytes n k lt := by
  unfold intBits intBytes
  split
  · exact pack_bits _
  · exact bytesN_pack n k hk
theorem int_valid (n : Int) (vo : Option Addr) (c : Nat) (w : World) (h : I64 n) : Calls Tryz.prog 43 #[.agg #[.int .i64 1, .int .i64 n, .int .i64 0, .string ⟨#[]⟩, .string ⟨#[]⟩, .int .i64 0, .slice vo 0 c, .string ⟨#[]⟩, .int .i64 0]] w fun e w' => e = .returned (.bool true) ∧ Below w.heap.size w w' :=
  tvalid_any 0 (intT n) vo c w (.nil _ _ _ _) (intT_ok n h) (by show ((300 + 0 + sumN [] : Nat) : Int) ≤ _; decide)
set_option maxRecDepth 100000 in
set_option maxHeartbeats 8000000 in
theorem field_int (f : Nat) (n : Int) (k : Nat) (lt sg : Bool) (hn : I64 n) (hk : k ≤ 64) (hlt : lt = true → k % 8 = 0) : FdIs f ⟨1, ⟨#[]⟩, intT n, intT k, true, sg, lt⟩ (some (intBits n k lt)) := by
  intro vo so vc sc w _ _
  have E1 := Lib.hid (intBits_pack n k lt hk)
  have E2 := Lib.hid (intBits_len n k lt hlt)
  have HB := Lib.hid (two_below w (.cells (fdRow ⟨1, ⟨#[]⟩, intT n, intT k, true, sg, lt⟩ vo vc so sc) 30) (.cells #[.string ⟨#[]⟩, .int .i64 0] 56))
  have HR := Lib.hid (two1 w (.cells (fdRow ⟨1, ⟨#[]⟩, intT n, intT k, true, sg, lt⟩ vo vc so sc) 30) (.cells #[.string ⟨#[]⟩, .int .i64 0] 56))
  have HR0 := Lib.hid (two0 w (.cells (fdRow ⟨1, ⟨#[]⟩, intT n, intT k, true, sg, lt⟩ vo vc so sc) 30) (.cells #[.string ⟨#[]⟩, .int .i64 0] 56))
  have HP := Lib.hid (fun wx => putint_any n k lt wx hn hk hlt)
  have HVn := Lib.hid (fun wx => int_valid n vo vc wx hn)
  have HVk := Lib.hid (fun wx => int_valid k so sc wx (by unfold I64; omega))
  have hk2 : (k : Int) ≤ 64 := by omega
  obtain ⟨n1, n2⟩ := hn
  clear hlt
  go_enter Tryz.func28, Tryz.ntmps28
  generalize hW : (w.alloc (.cells (fdRow ⟨1, ⟨#[]⟩, intT n, intT k, true, sg, lt⟩ vo vc so sc) 30)).alloc (.cells #[.string ⟨#[]⟩, .int .i64 0] 56) = W at *
  have KC : Hid (∀ wx : World, Below W.heap.size W wx → ∀ j, wx.cell? ⟨w.heap.size, j, none⟩ = (fdRow ⟨1, ⟨#[]⟩, intT n, intT k, true, sg, lt⟩ vo vc so sc)[j]?) := Lib.hid (fun wx hx j => by rw [cell_of_row _ _ _ _ _ _ ((hx.block _ (lt_of_row HR0.out)).trans HR0.out)])
  have k0 := KC.out W (Below.refl _ _)
  have c0 : W.cell? ⟨w.heap.size, 0, none⟩ = some (.int .i64 1) := k0 0
  have c2 : W.cell? ⟨w.heap.size, 2, none⟩ = some (.int .i64 1) := k0 2
  have c3 : W.cell? ⟨w.heap.size, 3, none⟩ = some (.int .i64 n) := k0 3
  have c4 : W.cell? ⟨w.heap.size, 4, none⟩ = some (.int .i64 0) := k0 4
  have c5 : W.cell? ⟨w.heap.size, 5, none⟩ = some (.string ⟨#[]⟩) := k0 5
  have c6 : W.cell? ⟨w.heap.size, 6, none⟩ = some (.string ⟨#[]⟩) := k0 6
  have c7 : W.cell? ⟨w.heap.size, 7, none⟩ = some (.int .i64 0) := k0 7
  have c8 : W.cell? ⟨w.heap.size, 8, none⟩ = some (.slice vo 0 vc) := k0 8
  have c9 : W.cell? ⟨w.heap.size, 9, none⟩ = some (.string ⟨#[]⟩) := k0 9
  have c10 : W.cell? ⟨w.heap.size, 10, none⟩ = some (.int .i64 0) := k0 10
  clear k0
  go_wp2_with (first | (go_at_call 43; (first | (refine (HVn.out _).mono ?_; rintro e w1 ⟨rfl, hb1⟩; have k1 := KC.out w1 hb1; have d20 : w1.cell? ⟨w.heap.size, 20, none⟩ = some (.bool true) := k1 20; have d11 : w1.cell? ⟨w.heap.size, 11, none⟩ = some (.int .i64 1) := k1 11; have d12 : w1.cell? ⟨w.heap.size, 12, none⟩ = some (.int .i64 k) := k1 12; have d13 : w1.cell? ⟨w.heap.size, 13, none⟩ = some (.int .i64 0) := k1 13; have d14 : w1.cell? ⟨w.heap.size, 14, none⟩ = some (.string ⟨#[]⟩) := k1 14; have d15 : w1.cell? ⟨w.heap.size, 15, none⟩ = some (.string ⟨#[]⟩) := k1 15; have d16 : w1.cell? ⟨w.heap.size, 16, none⟩ = some (.int .i64 0) := k1 16; have d17 : w1.cell? ⟨w.heap.size, 17, none⟩ = some (.slice so 0 sc) := k1 17; have d18 : w1.cell? ⟨w.heap.size, 18, none⟩ = some (.string ⟨#[]⟩) := k1 18; have d19 : w1.cell? ⟨w.heap.size, 19, none⟩ = some (.int .i64 0) := k1 19; clear k1) | (refine (HVk.out _).mono ?_; rintro e w2 ⟨rfl, hb2⟩; have hb12 := below_next hb1 hb2; have k2 := KC.out w2 hb12; have e0 : w2.cell? ⟨w.heap.size, 0, none⟩ = some (.int .i64 1) := k2 0; have e2 : w2.cell? ⟨w.heap.size, 2, none⟩ = some (.int .i64 1) := k2 2; have e3 : w2.cell? ⟨w.heap.size, 3, none⟩ = some (.int .i64 n) := k2 3; have e12 : w2.cell? ⟨w.heap.size, 12, none⟩ = some (.int .i64 k) := k2 12; have e20 : w2.cell? ⟨w.heap.size, 20, none⟩ = some (.bool true) := k2 20; have e22 : w2.cell? ⟨w.heap.size, 22, none⟩ = some (.bool lt) := k2 22; clear k2))) | (go_at_call 50; refine (HP.out _).mono ?_; rintro e w3 ⟨rfl, hb3⟩; have hr3 := ((below_next hb12 hb3).block _ (lt_of_row HR.out)).trans HR.out; have hr := fun o => (Below.heap_alloc w3 o _ (lt_of_row hr3)).trans hr3) | (refine wpList_store_row rfl 56 _ _ rfl (w.heap.size + 1) _ rfl rfl 56 _ (hr _) (by kernel_rfl) rfl (by simp [Value.oneCell']) ?_) | fail)
  refine bodyPost_ret (results_row_tmp rfl _ _ _ (w.heap.size + 1) _ _ _ _ rfl (setRow_heap _ _ _ _ _ _ (hr _)) Tryz.underlying56 (by kernel_rfl)) rfl ?_
  refine ⟨?_, below_setRow (HB.out.trans ((below_next (below_next hb12 hb3) ((Below.refl _ _).alloc (Nat.le_refl _) _)).mono HB.out.size)) (by omega) _⟩
  show _ = Ending.returned (.tuple #[.agg #[.string (bstr (intBits n k lt)), .int .i64 (intBits n k lt).length], .bool true])
  unfold bstr
  rw [E1.out, E2.out]
  rfl
end Go.Proofs.YthmpobimmbmddaaGreatDoor
namespace Go.Proofs.YthmpobimmbmddaaGreatDoor
open Go.RowKit
set_option linter.unusedVariables false
set_option linter.unusedSimpArgs false

/-- The term of some bits. -/
def bitsT (m : List Bool) : Tm := .mk 10 0 0 ⟨#[]⟩ ⟨#[]⟩ 0 [] (bstr m) m.length
set_option maxRecDepth 100000 in
set_option maxHeartbeats 8000000 in
theorem fromterm_any (m : List Bool) (so : Option Addr) (c : Nat) (hm : m.length ≤ 16384) (w : World) : Calls Tryz.prog 51 #[.agg #[.int .i64 10, .int .i64 0, .int .i64 0, .string ⟨#[]⟩, .string ⟨#[]⟩, .int .i64 0, .slice so 0 c, .string (bstr m), .int .i64 m.length]] w fun e w' => e = .returned (.tuple #[.agg #[.string (bstr m), .int .i64 m.length], .bool true]) ∧ Below w.heap.size w w' := by
  have HV := fun wx => bvalid_any m (by omega) wx
  generalize bstr m = y at *
  generalize m.length = n at *
  have HB := Lib.hid (two_below w (.cells #[.int .i64 10, .int .i64 0, .int .i64 0, .string ⟨#[]⟩, .string ⟨#[]⟩, .int .i64 0, .slice so 0 c, .string y, .int .i64 n] 28) (.cells #[.string ⟨#[]⟩, .int .i64 0] 56))
  have HR := Lib.hid (two1 w (.cells #[.int .i64 10, .int .i64 0, .int .i64 0, .string ⟨#[]⟩, .string ⟨#[]⟩, .int .i64 0, .slice so 0 c, .string y, .int .i64 n] 28) (.cells #[.string ⟨#[]⟩, .int .i64 0] 56))
  have h0 := two0 w (.cells #[.int .i64 10, .int .i64 0, .int .i64 0, .string ⟨#[]⟩, .string ⟨#[]⟩, .int .i64 0, .slice so 0 c, .string y, .int .i64 n] 28) (.cells #[.string ⟨#[]⟩, .int .i64 0] 56)
  go_enter Tryz.func51, Tryz.ntmps51
  generalize hW : (w.alloc (.cells #[.int .i64 10, .int .i64 0, .int .i64 0, .string ⟨#[]⟩, .string ⟨#[]⟩, .int .i64 0, .slice so 0 c, .string y, .int .i64 n] 28)).alloc (.cells #[.string ⟨#[]⟩, .int .i64 0] 56) = W at *
  have H0 := Lib.hid h0
  obtain ⟨a0, a1, a2, a3, a4, a5, a6, a7, a8, _⟩ := term_cells h0
  clear h0
  go_upto_region 2 with fail
  clear a0 a1 a2 a3 a4 a5 a6 a7 a8
  have hba : Below W.heap.size W (W.alloc (.cells #[.string y, .int .i64 n] 56)) := (Below.refl _ _).alloc (Nat.le_refl _) _
  have h4 := heap_alloc_new W (.cells #[.string y, .int .i64 n] 56)
  generalize W.alloc (.cells #[.string y, .int .i64 n] 56) = V at *
  have hr := ((hba.block _ (lt_of_row HR.out)).trans HR.out)
  have HBA := Lib.hid hba
  have hv0 := (hba.block _ (lt_of_row H0.out)).trans H0.out
  obtain ⟨a0, a1, a2, a3, a4, a5, a6, a7, a8, _⟩ := term_cells hv0
  have x0 := cell_of_row _ _ 0 _ _ _ h4
  have x1 := cell_of_row _ _ 1 _ _ _ h4
  have H4 := Lib.hid h4
  have HRV := Lib.hid hr
  clear hba hr h4 hv0
  go_wp2_with (first | (go_at_call 54; refine (HV _).mono ?_; rintro e w1 ⟨rfl, hb1⟩; have hr4 := (hb1.block _ (lt_of_row H4.out)).trans H4.out; have x0 := cell_of_row _ _ 0 _ _ _ hr4; have x1 := cell_of_row _ _ 1 _ _ _ hr4; have hr := (hb1.block _ (lt_of_row HRV.out)).trans HRV.out) | (refine wpList_store_row rfl 56 _ _ rfl (w.heap.size + 1) _ rfl rfl 56 _ hr (by kernel_rfl) rfl (by simp [Value.oneCell']) ?_) | fail)
  refine bodyPost_ret (results_row_tmp rfl _ _ _ (w.heap.size + 1) _ _ _ _ rfl (setRow_heap _ _ _ _ _ _ hr) Tryz.underlying56 (by kernel_rfl)) rfl ?_
  exact ⟨rfl, below_setRow (HB.out.trans ((below_next HBA.out hb1).mono HB.out.size)) (by omega) _⟩
theorem tail_zero (x r : Nat) (hr : r < 8) (h : x &&& 255 >>> r = 0) : x % 2 ^ (8 - r) = 0 := by
  have e : 255 >>> r = 2 ^ (8 - r) - 1 := by
    have : r = 0 ∨ r = 1 ∨ r = 2 ∨ r = 3 ∨ r = 4 ∨ r = 5 ∨ r = 6 ∨ r = 7 := by omega
    rcases this with rfl | rfl | rfl | rfl | rfl | rfl | rfl | rfl <;> rfl
  rw [e, Nat.and_two_pow_sub_one_eq_mod] at h
  exact h
theorem bitsV_ok (m : List Bool) (hm : m.length ≤ 16384) : bitsV (bstr m) m.length = true := by
  have hsz := bstr_size m
  unfold bitsV wi
  have e1 : decide ((0 : Int) ≤ (m.length : Int)) = true := decide_eq_true (by omega)
  have e2 : decide ((m.length : Int) ≤ 16384) = true := decide_eq_true (by omega)
  have e3 : decide (((bstr m).size : Int) = ((m.length : Int) + 7) / 8) = true := decide_eq_true (by omega)
  rw [e1, e2, e3]
  by_cases h : m.length % 8 = 0
  · have e4 : decide ((m.length : Int) % 8 = 0) = true := decide_eq_true (by omega)
    rw [e4]; rfl
  · have hz := last_zero m (by omega) (by omega)
    have hl := lastByte_at (y := bstr m) (m := (bstr m).size - 1) (by omega)
    have e5 : ((8 : Int) - (m.length : Int) % 8).toNat = 8 - m.length % 8 := by omega
    have e4 : decide (lastByte (bstr m) % 2 ^ ((8 : Int) - (m.length : Int) % 8).toNat = 0) = true := decide_eq_true (by
      rw [e5, hl]
      exact tail_zero _ _ (by omega) hz)
    rw [e4]; simp
theorem bitsT_ok (m : List Bool) (hm : m.length ≤ 16384) : (bitsT m).Ok := by
  have z : I64 0 := by unfold I64; omega
  have o : I64 10 := by unfold I64; omega
  have e : (ByteArray.mk #[]).size ≤ maxLen := by decide
  have hsz := bstr_size m
  exact ⟨o, z, z, e, e, z, (by show 0 ≤ maxLen; decide), (by show (bstr m).size ≤ maxLen; unfold maxLen; omega), (by show I64 (m.length : Int); unfold I64; omega)⟩
theorem bitsT_valid (m : List Bool) (hm : m.length ≤ 16384) : validF 1 (bitsT m) = true := by
  have hb := bitsV_ok m hm
  have h1 : formF 1 (bitsT m) = true := by
    show (locB (bitsT m) && true) = true
    rw [Bool.and_true]
    show (bitsV (bstr m) m.length && _) = true
    rw [hb]; rfl
  have h2 : wholeF 1 (bitsT m) ≤ 2000 := by
    show 1 + ((m.length : Int) + 63) / 64 + 0 ≤ 2000
    omega
  unfold validF
  rw [h1, decide_eq_true h2]; rfl
theorem bits_valid (m : List Bool) (hm : m.length ≤ 16384) (vo : Option Addr) (c : Nat) (w : World) : Calls Tryz.prog 43 #[.agg #[.int .i64 10, .int .i64 0, .int .i64 0, .string ⟨#[]⟩, .string ⟨#[]⟩, .int .i64 0, .slice vo 0 c, .string (bstr m), .int .i64 m.length]] w fun e w' => e = .returned (.bool true) ∧ Below w.heap.size w w' :=
  (tvalid_any 0 (bitsT m) vo c w (.nil _ _ _ _) (bitsT_ok m hm) (by show ((300 + 0 + sumN [] : Nat) : Int) ≤ _; decide)).mono fun e w' h => ⟨h.1.trans (by rw [bitsT_valid m hm]), h.2⟩
def fdBits (m : List Bool) : Fd := ⟨2, ⟨#[]⟩, bitsT m, tm0, false, false, false⟩
set_option maxRecDepth 100000 in
set_option maxHeartbeats 8000000 in
theorem field_bits (f : Nat) (m : List Bool) (hm : m.length ≤ 16384) : FdIs f (fdBits m) (some m) := by
  intro vo so vc sc w _ _
  have HB := Lib.hid (two_below w (.cells (fdRow (fdBits m) vo vc so sc) 30) (.cells #[.string ⟨#[]⟩, .int .i64 0] 56))
  have HR := Lib.hid (two1 w (.cells (fdRow (fdBits m) vo vc so sc) 30) (.cells #[.string ⟨#[]⟩, .int .i64 0] 56))
  have HR0 := Lib.hid (two0 w (.cells (fdRow (fdBits m) vo vc so sc) 30) (.cells #[.string ⟨#[]⟩, .int .i64 0] 56))
  have HV := Lib.hid (fun wx => bits_valid m hm vo vc wx)
  have HT := Lib.hid (fun wx => fromterm_any m vo vc hm wx)
  go_enter Tryz.func28, Tryz.ntmps28
  generalize hW : (w.alloc (.cells (fdRow (fdBits m) vo vc so sc) 30)).alloc (.cells #[.string ⟨#[]⟩, .int .i64 0] 56) = W at *
  have KC : Hid (∀ wx : World, Below W.heap.size W wx → ∀ j, wx.cell? ⟨w.heap.size, j, none⟩ = (fdRow (fdBits m) vo vc so sc)[j]?) := Lib.hid (fun wx hx j => by rw [cell_of_row _ _ _ _ _ _ ((hx.block _ (lt_of_row HR0.out)).trans HR0.out)])
  have k0 := KC.out W (Below.refl _ _)
  have c0 : W.cell? ⟨w.heap.size, 0, none⟩ = some (.int .i64 2) := k0 0
  have c2 : W.cell? ⟨w.heap.size, 2, none⟩ = some (.int .i64 10) := k0 2
  have c3 : W.cell? ⟨w.heap.size, 3, none⟩ = some (.int .i64 0) := k0 3
  have c4 : W.cell? ⟨w.heap.size, 4, none⟩ = some (.int .i64 0) := k0 4
  have c5 : W.cell? ⟨w.heap.size, 5, none⟩ = some (.string ⟨#[]⟩) := k0 5
  have c6 : W.cell? ⟨w.heap.size, 6, none⟩ = some (.string ⟨#[]⟩) := k0 6
  have c7 : W.cell? ⟨w.heap.size, 7, none⟩ = some (.int .i64 0) := k0 7
  have c8 : W.cell? ⟨w.heap.size, 8, none⟩ = some (.slice vo 0 vc) := k0 8
  have c9 : W.cell? ⟨w.heap.size, 9, none⟩ = some (.string (bstr m)) := k0 9
  have c10 : W.cell? ⟨w.heap.size, 10, none⟩ = some (.int .i64 m.length) := k0 10
  clear k0
  generalize hY : bstr m = y at *
  go_upto_region 12 with (first | (go_at_call 43; refine (HV.out _).mono ?_; rintro e w1 ⟨rfl, hb1⟩; have k1 := KC.out w1 hb1; have d0 : w1.cell? ⟨w.heap.size, 0, none⟩ = some (.int .i64 2) := k1 0; have d2 : w1.cell? ⟨w.heap.size, 2, none⟩ = some (.int .i64 10) := k1 2; have d12 : w1.cell? ⟨w.heap.size, 12, none⟩ = some (.int .i64 0) := k1 12; have d20 : w1.cell? ⟨w.heap.size, 20, none⟩ = some (.bool false) := k1 20; have K1 := Lib.hid k1; clear k1) | fail)
  clear d0 d2 d12 d20 c0 c2 c3 c4 c5 c6 c7 c8 c9 c10
  have c2 : w1.cell? ⟨w.heap.size, 2, none⟩ = some (.int .i64 10) := K1.out 2
  have c3 : w1.cell? ⟨w.heap.size, 3, none⟩ = some (.int .i64 0) := K1.out 3
  have c4 : w1.cell? ⟨w.heap.size, 4, none⟩ = some (.int .i64 0) := K1.out 4
  have c5 : w1.cell? ⟨w.heap.size, 5, none⟩ = some (.string ⟨#[]⟩) := K1.out 5
  have c6 : w1.cell? ⟨w.heap.size, 6, none⟩ = some (.string ⟨#[]⟩) := K1.out 6
  have c7 : w1.cell? ⟨w.heap.size, 7, none⟩ = some (.int .i64 0) := K1.out 7
  have c8 : w1.cell? ⟨w.heap.size, 8, none⟩ = some (.slice vo 0 vc) := K1.out 8
  have c9 : w1.cell? ⟨w.heap.size, 9, none⟩ = some (.string y) := by rw [K1.out 9, ← hY]; rfl
  have c10 : w1.cell? ⟨w.heap.size, 10, none⟩ = some (.int .i64 m.length) := K1.out 10
  go_upto_region 13 with (first | (go_at_call 51; refine (HT.out _).mono ?_; rintro e w2 ⟨rfl, hb2⟩) | fail)
  clear c2 c3 c4 c5 c6 c7 c8 c9 c10
  have hb12 := below_next hb1 hb2
  have hb3 : Below W.heap.size W (w2.alloc (.cells #[.string y, .int .i64 m.length] 56)) := below_next hb12 ((Below.refl _ _).alloc (Nat.le_refl _) _)
  have hr7 := heap_alloc_new w2 (.cells #[.string y, .int .i64 m.length] 56)
  have hns : w.heap.size + 1 ≠ w2.heap.size := by have := hb12.size; have := lt_of_row HR.out; omega
  generalize w2.alloc (.cells #[.string y, .int .i64 m.length] 56) = V at *
  generalize w2.heap.size = p at *
  have K3 := KC.out V hb3
  have d0 : V.cell? ⟨w.heap.size, 0, none⟩ = some (.int .i64 2) := K3 0
  have d20 : V.cell? ⟨w.heap.size, 20, none⟩ = some (.bool false) := K3 20
  clear K3
  have x0 := cell_of_row _ _ 0 _ _ _ hr7
  have x1 := cell_of_row _ _ 1 _ _ _ hr7
  have hr := (hb3.block _ (lt_of_row HR.out)).trans HR.out
  have q0 := cell_of_row _ _ 0 _ _ _ hr
  have q1 := cell_of_row _ _ 1 _ _ _ hr
  have q2 := frozen_of_row _ _ 0 _ _ hr
  have q3 := frozen_of_row _ _ 1 _ _ hr
  have HRV := Lib.hid hr
  have HB3 := Lib.hid hb3
  go_upto_region 17 with fail
  go_region
  go_wp2_with fail
  have HBE : Below w.heap.size w V := HB.out.trans (HB3.out.mono HB.out.size)
  have g1 := heap_setCell_same V (w.heap.size + 1) 0 _ _ (.string y) HRV.out
  have g2 := heap_setCell_same _ (w.heap.size + 1) 1 _ _ (.int .i64 m.length) g1
  refine bodyPost_ret (results_row_tmp rfl _ _ _ (w.heap.size + 1) _ _ _ _ rfl g2 Tryz.underlying56 (by kernel_rfl)) rfl ?_
  exact ⟨by rw [← hY]; rfl, ((HBE.setCell (by show w.heap.size ≤ w.heap.size + 1; omega) _).setCell (by show w.heap.size ≤ w.heap.size + 1; omega) _).drew⟩
end Go.Proofs.YthmpobimmbmddaaGreatDoor
namespace Go.Proofs.YthmpobimmbmddaaGreatDoor
open Go.RowKit
set_option linter.unusedVariables false
set_option linter.unusedSimpArgs false

def PickP (m : Int) (w : World) (e : Ending) (w' : World) : Prop := ∃ k : Nat, (k : Int) < m ∧ e = .returned (.int .i64 k) ∧ w = w'
set_option maxRecDepth 100000 in
set_option maxHeartbeats 2000000 in
theorem pick_any (n m : Int) (w : World) (h0 : 0 < m) (h1 : m ≤ 9223372036854775807) (h2 : -9223372036854775808 ≤ n) (h3 : n ≤ 9223372036854775807) :
    Calls Tryz.prog 16 #[.int .i64 n, .int .i64 m] w (PickP m w) := by
  by_cases hn : 0 ≤ n
  · have a1 := Int.emod_nonneg n (Int.ne_of_gt h0)
    have a2 := Int.emod_lt_of_pos n h0
    go_enter Tryz.func16, Tryz.ntmps16
    go_wp2
    go_ret
    exact ⟨(n % m).toNat, by omega, ret1 (Int.toNat_of_nonneg a1).symm, rfl⟩
  · have a1 : n.tmod m ≤ 0 := by
      have := Int.tmod_nonneg (a := -n) m (by omega)
      rw [Int.neg_tmod] at this; omega
    have a2 : -m < n.tmod m := by
      have := Int.tmod_lt_of_pos (-n) h0
      rw [Int.neg_tmod] at this; omega
    have hw : IntKind.i64.wrap (n.tmod m) = n.tmod m := by rw [IntKind.wrap_i64]; omega
    go_enter Tryz.func16, Tryz.ntmps16
    go_wp2
    all_goals go_ret
    · exact ⟨(n.tmod m + m).toNat, by omega, ret1 (by omega), rfl⟩
    · exact ⟨(n.tmod m).toNat, by omega, ret1 (by omega), rfl⟩
/-- Where bit i, the highest first, lies. -/
def fplace (k i : Nat) (lt : Bool) : Nat := if lt = true then (k / 8 - 1 - i / 8) * 8 + i % 8 else i
theorem fplace_lt (k i : Nat) (lt : Bool) (hi : i < k) (hlt : lt = true → k % 8 = 0) : fplace k i lt < k := by
  unfold fplace
  split
  · rename_i h
    have := hlt h
    omega
  · exact hi
theorem fbit (n : Int) (k i : Nat) (lt : Bool) (hk : k ≤ 64) (hi : i < k) (hlt : lt = true → k % 8 = 0) : (byteAt (bstr (intBits n k lt)) (fplace k i lt / 8)).toNat.testBit (7 - fplace k i lt % 8) = decide (n / 2 ^ (k - 1 - i) % 2 = 1) := by
  have e : byteAt (bstr (intBits n k lt)) (fplace k i lt / 8) = (((intBytes n k lt)[fplace k i lt / 8]?).getD 0) := by
    unfold byteAt
    show ((packB (intBits n k lt)).toArray.toList[fplace k i lt / 8]?).getD 0 = _
    rw [List.toList_toArray, intBits_pack n k lt hk]
  rw [e, ← u64_bit n (k - 1 - i) (by omega), ← bytesN_bit n k i hk hi]
  cases lt with
  | false => rfl
  | true =>
    have h8 := hlt rfl
    have e1 : fplace k i true / 8 = k / 8 - 1 - i / 8 := by unfold fplace; rw [if_pos rfl]; omega
    have e2 : fplace k i true % 8 = i % 8 := by unfold fplace; rw [if_pos rfl]; omega
    have e3 : intBytes n k true = (bytesN n k).reverse := by unfold intBytes; rw [if_pos rfl]
    have hl := bytesN_len n k
    rw [e1, e2, e3, List.getElem?_reverse (by omega), hl, show (k + 7) / 8 - 1 - (k / 8 - 1 - i / 8) = i / 8 by omega]
def fdInt (n : Int) (k : Nat) (lt : Bool) : Fd := ⟨1, ⟨#[]⟩, intT n, intT k, true, false, lt⟩
def fdText (y : ByteArray) : Fd := ⟨4, y, tm0, tm0, false, false, false⟩
abbrev intR (n : Int) (k : Nat) (lt : Bool) : Array Value := #[.int .i64 1, .string ⟨#[]⟩, .int .i64 1, .int .i64 n, .int .i64 0, .string ⟨#[]⟩, .string ⟨#[]⟩, .int .i64 0, .slice none 0 0, .string ⟨#[]⟩, .int .i64 0, .int .i64 1, .int .i64 k, .int .i64 0, .string ⟨#[]⟩, .string ⟨#[]⟩, .int .i64 0, .slice none 0 0, .string ⟨#[]⟩, .int .i64 0, .bool true, .bool false, .bool lt]
abbrev txtR (y b : ByteArray) (k : Nat) : Array Value := #[.int .i64 4, .string y, .int .i64 0, .int .i64 0, .int .i64 0, .string ⟨#[]⟩, .string ⟨#[]⟩, .int .i64 0, .slice none 0 0, .string ⟨#[]⟩, .int .i64 0, .int .i64 0, .int .i64 0, .int .i64 0, .string ⟨#[]⟩, .string ⟨#[]⟩, .int .i64 0, .slice none 0 0, .string ⟨#[]⟩, .int .i64 0, .bool false, .bool false, .bool false,
  .int .i64 2, .string ⟨#[]⟩, .int .i64 10, .int .i64 0, .int .i64 0, .string ⟨#[]⟩, .string ⟨#[]⟩, .int .i64 0, .slice none 0 0, .string b, .int .i64 k, .int .i64 0, .int .i64 0, .int .i64 0, .string ⟨#[]⟩, .string ⟨#[]⟩, .int .i64 0, .slice none 0 0, .string ⟨#[]⟩, .int .i64 0, .bool false, .bool false, .bool false]
theorem bits_int (n : Int) (k : Nat) (lt : Bool) (hn : I64 n) (hk : k ≤ 64) (hlt : lt = true → k % 8 = 0) {w : World} {g : Nat} (h : w.heap[g]? = some (.cells (intR n k lt) 30 (0, 0))) : Calls Tryz.prog 11 #[.slice (some ⟨g, 0, none⟩) 1 1] w fun e w' => e = .returned (.tuple #[bitsV' (intBits n k lt), noneV]) ∧ Below w.heap.size w w' := by
  have hl := intBits_len n k lt hlt
  have hs : SlAt w 23 (FdR w 1) (some ⟨g, 0, none⟩) [fdInt n k lt] := .inr ⟨g, 0, rfl, lt_of_row h, fun j hj => by
    obtain rfl : j = 0 := by simpa using hj
    refine ⟨(intR n k lt).toList, rfl, fun i hi => ?_, ⟨none, 0, none, 0, rfl, .nil _ _ _ _, .nil _ _ _ _⟩, by unfold I64 fdInt; simp, by show (0 : Nat) ≤ maxLen; decide, intT_ok n hn, intT_ok k (by unfold I64; omega)⟩
    rw [cell_of_row _ _ _ _ _ _ h, show 0 + 0 * 23 + i = i by omega, Array.getElem?_toList]⟩
  refine (pbits_any 1 [fdInt n k lt] [some (intBits n k lt)] (some ⟨g, 0, none⟩) 1 w hs (by simp) rfl (fun j hj h2 => ?_) (fun j m hm => ?_)).mono ?_
  · obtain rfl : j = 0 := by simpa using hj
    exact field_int 1 n k lt false hn hk hlt
  · match j, hm with
    | 0, hm => simp at hm; subst hm; omega
    | j + 1, hm => simp at hm
  · rintro e w' ⟨h1, h2⟩
    have e1 : [intBits n k lt].flatten = intBits n k lt := by simp
    have h1 : if [intBits n k lt].flatten.length ≤ 16384 then e = .returned (.tuple #[bitsV' [intBits n k lt].flatten, noneV]) else e = _ := h1
    rw [e1, if_pos (by omega)] at h1
    exact ⟨h1, h2⟩
theorem bits_two (y : ByteArray) (m : List Bool) (hy : y.size ≤ 1000) (hm : m.length ≤ 64) {w : World} {g : Nat} (h : w.heap[g]? = some (.cells (txtR y (bstr m) m.length) 30 (0, 0))) : Calls Tryz.prog 11 #[.slice (some ⟨g, 0, none⟩) 2 2] w fun e w' => e = .returned (.tuple #[bitsV' (bitsL y.data.toList ++ m), noneV]) ∧ Below w.heap.size w w' := by
  have hl := bits_size y
  have hms := bstr_size m
  have hs : SlAt w 23 (FdR w 1) (some ⟨g, 0, none⟩) [fdText y, fdBits m] := .inr ⟨g, 0, rfl, lt_of_row h, fun j hj => by
    have hj2 : j = 0 ∨ j = 1 := by simp at hj; omega
    rcases hj2 with rfl | rfl
    · refine ⟨(fdRow (fdText y) none 0 none 0).toList, rfl, fun i hi => ?_, ⟨none, 0, none, 0, rfl, .nil _ _ _ _, .nil _ _ _ _⟩, by unfold I64 fdText; simp, by show y.size ≤ maxLen; unfold maxLen; omega, tm0_ok, tm0_ok⟩
      rw [cell_of_row _ _ _ _ _ _ h, show 0 + 0 * 23 + i = i by omega]
      match i, hi with
      | 0, _ | 1, _ | 2, _ | 3, _ | 4, _ | 5, _ | 6, _ | 7, _ | 8, _ | 9, _ | 10, _ | 11, _ | 12, _ | 13, _ | 14, _ | 15, _ | 16, _ | 17, _ | 18, _ | 19, _ | 20, _ | 21, _ | 22, _ => rfl
      | n + 23, hi => exact absurd hi (by omega)
    · refine ⟨(fdRow (fdBits m) none 0 none 0).toList, rfl, fun i hi => ?_, ⟨none, 0, none, 0, rfl, .nil _ _ _ _, .nil _ _ _ _⟩, by unfold I64 fdBits; simp, by show (0 : Nat) ≤ maxLen; decide, bitsT_ok m (by omega), tm0_ok⟩
      rw [cell_of_row _ _ _ _ _ _ h, show 0 + 1 * 23 + i = 23 + i by omega]
      match i, hi with
      | 0, _ | 1, _ | 2, _ | 3, _ | 4, _ | 5, _ | 6, _ | 7, _ | 8, _ | 9, _ | 10, _ | 11, _ | 12, _ | 13, _ | 14, _ | 15, _ | 16, _ | 17, _ | 18, _ | 19, _ | 20, _ | 21, _ | 22, _ => rfl
      | n + 23, hi => exact absurd hi (by omega)⟩
  refine (pbits_any 1 [fdText y, fdBits m] [some (bitsL y.data.toList), some m] (some ⟨g, 0, none⟩) 2 w hs (by simp) rfl (fun j hj h2 => ?_) (fun j q hm2 => ?_)).mono ?_
  · have hj2 : j = 0 ∨ j = 1 := by simp at hj; omega
    rcases hj2 with rfl | rfl
    · exact field_text 1 (fdText y) rfl (by show y.size ≤ _; omega)
    · exact field_bits 1 m (by omega)
  · match j, hm2 with
    | 0, hm2 => simp at hm2; subst hm2; omega
    | 1, hm2 => simp at hm2; subst hm2; omega
    | j + 2, hm2 => simp at hm2
  · rintro e w' ⟨h1, h2⟩
    have e1 : [bitsL y.data.toList, m].flatten = bitsL y.data.toList ++ m := by simp
    have h1 : if [bitsL y.data.toList, m].flatten.length ≤ 16384 then e = .returned (.tuple #[bitsV' [bitsL y.data.toList, m].flatten, noneV]) else e = _ := h1
    rw [e1, if_pos (by rw [List.length_append]; omega)] at h1
    exact ⟨h1, h2⟩
theorem two_str (y : ByteArray) (m : List Bool) : bstr (bitsL y.data.toList ++ m) = y ++ bstr m := by
  apply ByteArray.ext
  have e := packB_app y.size (bitsL y.data.toList) m (bits_size y)
  rw [pack_bits] at e
  show (packB (bitsL y.data.toList ++ m)).toArray = _
  rw [e]
  simp [ByteArray.data_append]
end Go.Proofs.YthmpobimmbmddaaGreatDoor
namespace Go.Proofs.YthmpobimmbmddaaGreatDoor
open Go.RowKit
set_option linter.unusedVariables false
set_option linter.unusedSimpArgs false

theorem i64_and1 (n : Int) : bits .and .i64 n 1 = n % 2 := by
  have h1 : (BitVec.ofInt 64 1).toNat = 2 ^ 1 - 1 := by decide
  have key : (BitVec.ofInt 64 n &&& BitVec.ofInt 64 1).toNat = (n % ((2 ^ 64 : Nat) : Int)).toNat % 2 ^ 1 := by
    rw [BitVec.toNat_and, BitVec.toNat_ofInt, h1, Nat.and_two_pow_sub_one_eq_mod]
  show IntKind.i64.wrap ((BitVec.ofInt 64 n &&& BitVec.ofInt 64 1).toNat : Nat) = n % 2
  rw [key, IntKind.wrap_i64]
  omega
theorem same_bit (c : UInt8) (j : Nat) (x : Int) (h : c.toNat.testBit j = decide (x % 2 = 1)) : (bits .and .u8 ((c.toNat : Int) / 2 ^ j) 1 == 1) = (bits .and .i64 x 1 == 1) := by
  have e := and_u8 (c.toNat >>> j) 1 (shr_lt c j) (by decide)
  rw [Nat.and_one_is_mod] at e
  rw [shr_u8, i64_and1, show (1 : Int) = ((1 : Nat) : Int) from rfl, e]
  rw [Nat.testBit_eq_decide_div_mod_eq] at h
  rw [Nat.shiftRight_eq_div_pow]
  generalize c.toNat / 2 ^ j = z at *
  by_cases hx : x % 2 = 1
  · rw [decide_eq_true hx, decide_eq_true_eq] at h
    rw [beq_iff_eq.2 (by omega : ((z % 2 : Nat) : Int) = ((1 : Nat) : Int)), beq_iff_eq.2 (by omega : x % 2 = ((1 : Nat) : Int))]
  · rw [decide_eq_false hx, decide_eq_false_iff_not] at h
    rw [beq_eq_false_iff_ne.2 (by omega : ((z % 2 : Nat) : Int) ≠ ((1 : Nat) : Int)), beq_eq_false_iff_ne.2 (by omega : x % 2 ≠ ((1 : Nat) : Int))]
theorem wpList_build_is {P : Program} {ops : Array Oper} {rest : List Oper} {o : Oper} {a : Act} {w : World} {Q : Exit → Act → World → Prop} (hg : o.guard = none) (t : TypeId) (parts : Array (Nat × Operand)) (ho : o.op = .build t parts)
    (R : Array Value) (hf : P.built t (parts.map fun (i, x) => (i, a.eval x)).toList = some R)
    (h : wpList P ops Q rest (a.put o.dst (.agg R)) w) : wpList P ops Q (o :: rest) a w :=
  wpList_build hg t parts ho (by rw [hf]; rfl) (by rw [hf]; exact h)
set_option maxRecDepth 100000 in
set_option maxHeartbeats 16000000 in
theorem fields_core (n : Int) (k : Nat) (lt : Bool) (y : ByteArray) (w : World) (hn : I64 n) (hk : k ≤ 64) (hlt : lt = true → k % 8 = 0) (hy : y.size ≤ 1000) (N : Int) (hN : I64 N)
    (hsh : Calls Tryz.prog 6 #[] w fun e w' => e = .returned (.bool true) ∧ Below w.heap.size w w')
    (kk : Nat) (hkk : kk < 74) (hpk : ∀ wx, Calls Tryz.prog 16 #[.int .i64 N, .int .i64 74] wx fun e w' => e = .returned (.int .i64 kk) ∧ w' = wx)
    (hl : lt = decide (64 < kk)) (hkv : k = if 64 < kk then (kk - 65) * 8 else kk) :
    Calls Tryz.prog 5 #[.int .i64 n, .int .i64 N, .string y] w fun e w' => e = .returned (.bool true) ∧ Below w.heap.size w w' := by
  have HSh := Lib.hid hsh; have HPk := Lib.hid hpk
  have HI := Lib.hid (fun (x : Int) wx => rint_is x wx)
  have HLT := Lib.hid hlt
  have HN := Lib.hid hn
  have t1 : decide ((1000 : Int) < (y.size : Int)) = false := decide_eq_false (by omega)
  have t2 : decide ((64 : Int) < (kk : Int)) = lt := by rw [hl]; exact decide_eq_decide.2 (by omega)
  have HKV := Lib.hid hkv; have HL := Lib.hid hl
  clear hsh hpk hlt hn hkv
  go_enter Tryz.func5, Tryz.ntmps5
  go_upto_if 26 with (first | (go_at_call 6; refine HSh.out.mono ?_; rintro e w1 ⟨rfl, hb1⟩) | (go_at_call 16; refine (HPk.out _).mono ?_; rintro e w2 ⟨rfl, rfl⟩) | fail)
  rw [← hl]
  clear hl t2
  have HI23 : Hid ((Tryz.prog.info? 30).map (·.size) = some (intR n k lt).size) := Lib.hid (by kernel_rfl)
  clear hkk
  go_cut [7] from 27 to 29 (fun v wx => v = .int .i64 k ∧ wx = w2)
  case first =>
    cases lt
    · have ek : k = kk := by rw [HKV.out, if_neg (by simpa using HL.out.symm)]
      go_wp2_with fail
      go_meet
      exact ⟨by rw [ek], rfl⟩
    · have hkk : 64 < kk := by simpa using HL.out.symm
      have ek : ((kk : Int) - 65) * 8 = (k : Int) := by rw [HKV.out, if_pos hkk]; omega
      go_wp2_with fail
      go_meet
      exact ⟨by first | rw [ek] | rfl, rfl⟩
  case rest =>
    obtain ⟨rfl, rfl⟩ := hcut
    clear HKV HL
    go_upto_region 10 with (first | (go_at_call 17; refine (HI.out _ _).mono ?_; (first | (rintro e w4 ⟨rfl, hb4⟩; have hb14 := below_next hb3 hb4; have hnew := heap_alloc_new w4 (.cells zRow23 30)) | (rintro e w3 ⟨rfl, hb3⟩))) | (refine wpList_build_is rfl 30 _ rfl (intR n k lt) (by kernel_rfl) ?_) | (refine wpList_store_row rfl 30 _ _ rfl w4.heap.size (intR n k lt) rfl rfl 30 _ hnew HI23.out rfl (by simp [Value.oneCell']) ?_) | fail)
    have HBOX := Lib.hid (setRow_heap (w4.alloc (.cells zRow23 30)) w4.heap.size zRow23 (intR n k lt) _ _ hnew)
    have hb15 := below_next hb14 (below_setRow ((Below.refl w4.heap.size w4).alloc (Nat.le_refl _) (.cells zRow23 30)) (Nat.le_refl _) (intR n k lt))
    clear hnew
    generalize (w4.alloc (.cells zRow23 30)).setRow w4.heap.size (intR n k lt) = w5 at *
    generalize w4.heap.size = p5 at *
    clear hb14 hb3 hb4
    have HBI := Lib.hid (fun (wx : World) (g : Nat) (h : wx.heap[g]? = some (.cells (intR n k lt) 30 (0, 0))) => bits_int n k lt HN.out hk HLT.out h)
    go_upto_region 11 with (first | (refine wpList_load_row rfl 30 _ rfl p5 rfl 30 (intR n k lt) _ _ HBOX.out Tryz.underlying30 rfl HI23.out ?_) | (go_at_call 11; refine (HBI.out _ w5.heap.size (heap_alloc_new _ _)).mono ?_; rintro e w6 ⟨rfl, hb6⟩) | fail)
    have HLEN := Lib.hid (intBits_len n k lt HLT.out)
    have HFB := Lib.hid (fun i hi => fbit n k i lt hk hi HLT.out)
    have HFP := Lib.hid (fun i hi => fplace_lt k i lt hi HLT.out)
    have HVM := Lib.hid (fun wx => (rvalid_term 0 (bitsT (intBits n k lt)) none 0 wx (.nil _ _ _ _) (bitsT_ok _ (by have := HLEN.out; omega)) (by show ((300 + 0 + sumN [] : Nat) : Int) ≤ _; decide)))
    have HVT := Lib.hid (bitsT_valid (intBits n k lt) (by have := HLEN.out; omega))
    have HBS := Lib.hid (bstr_size (intBits n k lt))
    have HTS := Lib.hid (two_str y (intBits n k lt))
    have HBT := Lib.hid (fun (wx : World) (g : Nat) (h : wx.heap[g]? = some (.cells (txtR y (bstr (intBits n k lt)) (intBits n k lt).length) 30 (0, 0))) => bits_two y (intBits n k lt) hy (by have := HLEN.out; omega) h)
    have HTL : Hid ((bitsL y.data.toList ++ intBits n k lt).length = 8 * y.size + (intBits n k lt).length) := Lib.hid (by rw [List.length_append, bits_size])
    unfold bitsV' at *
    generalize hm : intBits n k lt = m at *
    clear hm HBI
    have hlen : m.length = k := HLEN.out
    have HV2 : Hid (∀ wx, Calls Tryz.prog 18 #[.agg #[.int .i64 10, .int .i64 0, .int .i64 0, .string ⟨#[]⟩, .string ⟨#[]⟩, .int .i64 0, .slice none 0 0, .string (bstr m), .int .i64 k]] wx (fun e w' => e = .returned (.bool true) ∧ Below wx.heap.size wx w')) := Lib.hid (fun wx => by
      have h := HVM.out wx
      rw [show validF (0 + 1) (bitsT m) = true from HVT.out] at h
      rw [← hlen]; exact h)
    have HB2 : Hid (∀ (wx : World) (g : Nat), wx.heap[g]? = some (.cells (txtR y (bstr m) k) 30 (0, 0)) → Calls Tryz.prog 11 #[.slice (some ⟨g, 0, none⟩) 2 2] wx fun e w' => e = .returned (.tuple #[.agg #[.int .i64 10, .int .i64 0, .int .i64 0, .string ⟨#[]⟩, .string ⟨#[]⟩, .int .i64 0, .slice none 0 0, .string (y ++ bstr m), .int .i64 (8 * (y.size : Int) + (k : Int))], noneV]) ∧ Below wx.heap.size wx w') := Lib.hid (fun wx g h => by
      have h1 := HBT.out wx g (by rw [hlen]; exact h)
      rw [HTS.out, HTL.out, hlen, show ((8 * y.size + k : Nat) : Int) = 8 * (y.size : Int) + (k : Int) by simp] at h1; exact h1)
    have HBS2 : Hid ((bstr m).size = (k + 7) / 8) := Lib.hid (by rw [HBS.out, hlen])
    clear HVM HVT HBT HTS HTL HBS
    rw [hlen]
    clear hlen HLEN
    generalize hbm : bstr m = b at *
    clear hbm m
    have HT := Lib.hid (two0 w6 (.cells #[.int .i64 10, .int .i64 0, .int .i64 0, .string ⟨#[]⟩, .string ⟨#[]⟩, .int .i64 0, .slice none 0 0, .string b, .int .i64 k] 28) (.cells zRow10 34))
    have HX := Lib.hid (two1 w6 (.cells #[.int .i64 10, .int .i64 0, .int .i64 0, .string ⟨#[]⟩, .string ⟨#[]⟩, .int .i64 0, .slice none 0 0, .string b, .int .i64 k] 28) (.cells zRow10 34))
    have hb17 := below_next hb15 (below_next (below_next ((Below.refl _ _).alloc (Nat.le_refl _) _) hb6) (two_below w6 (.cells #[.int .i64 10, .int .i64 0, .int .i64 0, .string ⟨#[]⟩, .string ⟨#[]⟩, .int .i64 0, .slice none 0 0, .string b, .int .i64 k] 28) (.cells zRow10 34)))
    generalize (w6.alloc (.cells #[.int .i64 10, .int .i64 0, .int .i64 0, .string ⟨#[]⟩, .string ⟨#[]⟩, .int .i64 0, .slice none 0 0, .string b, .int .i64 k] 28)).alloc (.cells zRow10 34) = w7 at *
    have hp7 : Hid (w.heap.size ≤ w6.heap.size) := Lib.hid (Nat.le_trans hb1.size (below_next hb15 (below_next ((Below.refl _ _).alloc (Nat.le_refl _) _) hb6)).size)
    generalize w6.heap.size = p7 at *
    obtain ⟨c0, c1, c2, c3, c4, c5, c6, c7, c8, _⟩ := term_cells HT.out
    have x0 : w7.cell? ⟨p7 + 1, 0, none⟩ = some (.string ⟨#[]⟩) := cell_of_row _ _ 0 _ _ _ HX.out
    go_wp2_with (first | (go_at_call 18; refine (HV2.out _).mono ?_; rintro e w8 ⟨rfl, hb8⟩; have hb18 := below_next hb17 hb8) | fail)
    clear c0 c1 c2 c3 c4 c5 c6 c7 c8 x0
    have HT8 := Lib.hid ((hb8.block _ (lt_of_row HT.out)).trans HT.out)
    have HX8 := Lib.hid ((hb8.block _ (lt_of_row HX.out)).trans HX.out)
    clear HT HX HV2 hb17 hb8 HI HPk HSh hb6 hb15 HBOX
    have c7 : w8.cell? ⟨p7, 7, none⟩ = some (.string b) := by rw [cell_of_row _ _ _ _ _ _ HT8.out]; rfl
    go_loopw [12] (fun iv wr => ∃ i : Nat, i ≤ k ∧ iv = .int .i64 i ∧ wr = w8) (fun iv _ => k - (intOf iv).toNat)
    case atStart => exact ⟨0, by omega, rfl, rfl⟩
    case round =>
      obtain ⟨i, hi, rfl, rfl⟩ := hrel
      by_cases hik : i < k
      · have t3 : decide ((i : Int) < (k : Int)) = true := decide_eq_true (by omega)
        cases lt
        · have hi8 : i / 8 < b.size := by have := HBS2.out; omega
          have E := same_bit (byteAt b (i / 8)) (7 - i % 8) (n / 2 ^ (k - 1 - i)) (HFB.out i hik)
          rw [byteAt_in hi8] at E
          have HE := Lib.hid E
          clear E
          go_upto_region 21 with fail
          rw [HE.out]
          generalize (bits BinOp.and IntKind.i64 (n / 2 ^ (k - 1 - i)) 1 == 1) = r at *
          go_wp2_with fail
          exact ⟨⟨i + 1, by omega, by go_num, trivial⟩, by simp [intOf]; omega⟩
        · obtain ⟨p, hp⟩ : ∃ p, p = fplace k i true := ⟨_, rfl⟩
          have h8 := HLT.out rfl
          have hpk := HFP.out i hik
          have hf := HFB.out i hik
          have hpe : p = (k / 8 - 1 - i / 8) * 8 + i % 8 := by rw [hp]; unfold fplace; rw [if_pos rfl]
          rw [← hp] at hpk hf
          have hi8 : p / 8 < b.size := by have := HBS2.out; omega
          have E := same_bit (byteAt b (p / 8)) (7 - p % 8) (n / 2 ^ (k - 1 - i)) hf
          rw [byteAt_in hi8] at E
          have HE := Lib.hid E
          have HPE := Lib.hid hpe
          clear E hf hp hpe
          have e13 : (((k : Int) / 8 - 1 - (i : Int) / 8) * 8 + (i : Int) % 8) = (p : Int) := by have := HPE.out; omega
          have H13 := Lib.hid e13
          clear e13
          go_upto_region 19 with fail
          rw [H13.out]
          go_upto_region 21 with fail
          rw [HE.out]
          generalize (bits BinOp.and IntKind.i64 (n / 2 ^ (k - 1 - i)) 1 == 1) = r at *
          go_wp2_with fail
          exact ⟨⟨i + 1, by omega, by go_num, trivial⟩, by simp [intOf]; omega⟩
      · have t3 : decide ((i : Int) < (k : Int)) = false := decide_eq_false (by omega)
        clear c7
        obtain ⟨c0, c1, c2, c3, c4, c5, c6, c7, c8, _⟩ := term_cells HT8.out
        go_upto_region 24 with (first | (go_at_call 11; refine (HB2.out _ wr.heap.size (heap_alloc_new _ _)).mono ?_; rintro e w9 ⟨rfl, hb9⟩; have hb10 := below_next ((Below.refl _ _).alloc (Nat.le_refl _) _) hb9; have hx9 := (hb10.block _ (lt_of_row HX8.out)).trans HX8.out; have hx10 := fun o => (Below.heap_alloc w9 o _ (lt_of_row hx9)).trans hx9) | (refine wpList_store_row rfl 34 _ _ rfl (p7 + 1) _ rfl rfl 34 _ (hx10 _) (by kernel_rfl) rfl (by simp [Value.oneCell']) ?_) | fail)
        clear c0 c1 c2 c3 c4 c5 c6 c7 c8
        have hn1 : p7 ≠ w9.heap.size := by have := lt_of_row hx9; omega
        have hn2 : w9.heap.size ≠ p7 + 1 := by have := lt_of_row hx9; omega
        have hv0 := setRow_heap (w9.alloc (.cells #[.int .i64 10, .int .i64 0, .int .i64 0, .string ⟨#[]⟩, .string ⟨#[]⟩, .int .i64 0, .slice none 0 0, .string (y ++ b), .int .i64 (8 * (y.size : Int) + (k : Int))] 28)) (p7 + 1) zRow10 zRow10 _ _ (hx10 _)
        have hv1 := (setRow_other (w9.alloc (.cells #[.int .i64 10, .int .i64 0, .int .i64 0, .string ⟨#[]⟩, .string ⟨#[]⟩, .int .i64 0, .slice none 0 0, .string (y ++ b), .int .i64 (8 * (y.size : Int) + (k : Int))] 28)) (p7 + 1) w9.heap.size zRow10 hn2).trans (heap_alloc_new w9 _)
        have ht9 := (hb10.block _ (lt_of_row HT8.out)).trans HT8.out
        have hv2 := (setRow_other (w9.alloc (.cells #[.int .i64 10, .int .i64 0, .int .i64 0, .string ⟨#[]⟩, .string ⟨#[]⟩, .int .i64 0, .slice none 0 0, .string (y ++ b), .int .i64 (8 * (y.size : Int) + (k : Int))] 28)) (p7 + 1) p7 zRow10 (by omega)).trans ((Below.heap_alloc w9 (.cells #[.int .i64 10, .int .i64 0, .int .i64 0, .string ⟨#[]⟩, .string ⟨#[]⟩, .int .i64 0, .slice none 0 0, .string (y ++ b), .int .i64 (8 * (y.size : Int) + (k : Int))] 28) _ (lt_of_row ht9)).trans ht9)
        have hvb : Below w.heap.size w ((w9.alloc (.cells #[.int .i64 10, .int .i64 0, .int .i64 0, .string ⟨#[]⟩, .string ⟨#[]⟩, .int .i64 0, .slice none 0 0, .string (y ++ b), .int .i64 (8 * (y.size : Int) + (k : Int))] 28)).setRow (p7 + 1) zRow10) := below_setRow ((hb1.trans ((hb18.trans (hb10.mono hb18.size)).mono hb1.size)).alloc (Nat.le_trans hb1.size (Nat.le_trans hb18.size hb10.size)) _) (by have := hp7.out; omega) _
        have HVB := Lib.hid hvb
        generalize (w9.alloc (.cells #[.int .i64 10, .int .i64 0, .int .i64 0, .string ⟨#[]⟩, .string ⟨#[]⟩, .int .i64 0, .slice none 0 0, .string (y ++ b), .int .i64 (8 * (y.size : Int) + (k : Int))] 28)).setRow (p7 + 1) zRow10 = V at *
        generalize w9.heap.size = q at *
        have d0 : V.cell? ⟨p7 + 1, 0, none⟩ = some (.string ⟨#[]⟩) := cell_of_row _ _ 0 _ _ _ hv0
        have d1 : V.cell? ⟨q, 7, none⟩ = some (.string (y ++ b)) := cell_of_row _ _ 7 _ _ _ hv1
        have d2 : V.cell? ⟨q, 8, none⟩ = some (.int .i64 (8 * (y.size : Int) + (k : Int))) := cell_of_row _ _ 8 _ _ _ hv1
        have d3 : V.cell? ⟨p7, 7, none⟩ = some (.string b) := cell_of_row _ _ 7 _ _ _ hv2
        have z1 : (y ++ b).size = y.size + b.size := ByteArray.size_append
        have z2 : (y ++ b).extract 0 y.size = y := by
          apply ByteArray.ext
          simp [ByteArray.data_extract, ByteArray.data_append]
        have z3 : (y ++ b).extract y.size (y.size + b.size) = b := by
          apply ByteArray.ext
          have e0 : y.data.extract y.size (y.size + b.size) = #[] := Array.extract_eq_empty_of_le (by show min _ y.size ≤ _; omega)
          have e1 : b.data.extract 0 b.size = b.data := Array.extract_size
          simp [ByteArray.data_extract, ByteArray.data_append, e0, e1]
        rw [← z1] at z3
        have z4 : y.size ≤ (y ++ b).size := by omega
        have z6 : (y ++ b).size ≤ 1008 := by have := HBS2.out; omega
        have z5 : decide ((y.size : Int) ≤ ((y ++ b).size : Int)) = true := decide_eq_true (by omega)
        clear z1
        generalize y ++ b = Y at *
        clear hv0 hv1 hv2 hvb hx9 hx10 ht9 hb9 hb10 hn1 hn2 HT8 HX8
        dsimp only [Act.put]
        go_big_region
        go_wp2_with fail
        go_ret
        exact ⟨rfl, HVB.out.drew⟩
set_option maxRecDepth 100000 in
set_option maxHeartbeats 2000000 in
theorem pick_74 (n : Int) (w : World) (hn : I64 n) : Calls Tryz.prog 16 #[.int .i64 n, .int .i64 74] w fun e w' => e = .returned (.int .i64 ((n % 74).toNat : Nat)) ∧ w' = w := by
  obtain ⟨h2, h3⟩ := hn
  by_cases hn : 0 ≤ n
  · have a1 := Int.emod_nonneg n (show (74 : Int) ≠ 0 by decide)
    have a2 := Int.emod_lt_of_pos n (show (0 : Int) < 74 by decide)
    go_enter Tryz.func16, Tryz.ntmps16
    go_wp2
    go_ret
    exact ⟨ret1 (Int.toNat_of_nonneg a1).symm, rfl⟩
  · have a1 : n.tmod 74 ≤ 0 := by
      have := Int.tmod_nonneg (a := -n) 74 (by omega)
      rw [Int.neg_tmod] at this; omega
    have a2 : -74 < n.tmod 74 := by
      have := Int.tmod_lt_of_pos (-n) (show (0 : Int) < 74 by decide)
      rw [Int.neg_tmod] at this; omega
    have a3 : 74 * n.tdiv 74 + n.tmod 74 = n := Int.mul_tdiv_add_tmod n 74
    have A3 := Lib.hid a3
    clear a3
    have hw : IntKind.i64.wrap (n.tmod 74) = n.tmod 74 := by rw [IntKind.wrap_i64]; omega
    go_enter Tryz.func16, Tryz.ntmps16
    go_wp2
    all_goals go_ret
    · exact ⟨ret1 (by have := A3.out; omega), rfl⟩
    · exact ⟨ret1 (by have := A3.out; omega), rfl⟩
theorem fields_walk (n N : Int) (y : ByteArray) (w : World) (hn : I64 n) (hN : I64 N) (hy : y.size ≤ maxLen) (hsp : SpaceAt w) :
    Calls Tryz.prog 5 #[.int .i64 n, .int .i64 N, .string y] w fun e w' => e = .returned (.bool true) ∧ Below w.heap.size w w' := by
  by_cases hbig : 1000 < y.size
  · have HSh := Lib.hid (shown_any w hsp)
    unfold maxLen at hy
    clear hsp
    have t1 : decide ((1000 : Int) < (y.size : Int)) = true := decide_eq_true (by omega)
    go_enter Tryz.func5, Tryz.ntmps5
    go_wp2_with (first | (go_at_call 6; refine HSh.out.mono ?_; rintro e w1 ⟨rfl, hb1⟩) | fail)
    go_ret
    exact ⟨rfl, hb1⟩
  · exact fields_core n (if 64 < (N % 74).toNat then ((N % 74).toNat - 65) * 8 else (N % 74).toNat) (decide (64 < (N % 74).toNat)) y w hn (by split <;> omega) (by intro h; rw [if_pos (of_decide_eq_true h)]; omega) (by omega) N hN (shown_any w hsp) (N % 74).toNat (by omega) (fun wx => pick_74 N wx hN) rfl rfl
end Go.Proofs.YthmpobimmbmddaaGreatDoor
namespace Go.Proofs.YthmpobimmbmddaaGreatDoor
open Go.RowKit
set_option linter.unusedVariables false
set_option linter.unusedSimpArgs false

/-- A bit as a digit. -/
def bdig (b : Bool) : UInt8 := if b = true then 49 else 48
def digL (m : List Bool) : List UInt8 := m.map bdig
theorem digL_len (m : List Bool) : (digL m).length = m.length := by unfold digL; simp
theorem conv_own {w : World} {B : Nat} {bv : Value} {l : List UInt8} (h : w.ownsRow B 5 1 bv l.length (byteC l)) : (convert 50 9 bv).run Tryz.prog w = .ok (.string ⟨l.toArray⟩) w := by
  rcases h.2 with ⟨hv, h0⟩ | ⟨g, cap, cur, rfl, _, hg, hc, _, hsz, htk⟩
  · obtain rfl := List.eq_nil_of_length_eq_zero h0
    rw [hv]
    rw [run_convert_bytes_string w 50 9 5 none 0 0 Tryz.underlying50 Tryz.underlying5 Tryz.underlying9]
    rfl
  · refine run_convert_bytes_back (P := Tryz.prog) w 50 9 5 ⟨g, 0, none⟩ cap l Tryz.underlying50 Tryz.underlying5 Tryz.underlying9 (fun j hj => ?_)
    have ha : (⟨g, 0, none⟩ : Addr).add j = ⟨g, j, none⟩ := by unfold Addr.add; split <;> simp_all
    rw [ha, cell_of_row _ _ _ _ _ _ hg]
    have : (cur.toList.take (l.length * 1))[j]? = (byteC l)[j]? := by rw [htk]
    rw [List.getElem?_take_of_lt (by omega)] at this
    simp [byteC, List.getElem?_eq_getElem hj] at this
    simpa using this
theorem bdig_is (c : UInt8) (j : Nat) (hj : j < 8) : 48 + (c.toNat : Int) / ((2 ^ j : Nat) : Int) % 2 = ((bdig (c.toNat.testBit j)).toNat : Int) := by
  rw [Nat.testBit_eq_decide_div_mod_eq]
  have e : (c.toNat : Int) / ((2 ^ j : Nat) : Int) = ((c.toNat / 2 ^ j : Nat) : Int) := by simp
  rw [e]
  generalize c.toNat / 2 ^ j = z
  unfold bdig
  by_cases h : z % 2 = 1
  · rw [decide_eq_true h, if_pos rfl]; show _ = (49 : Int); omega
  · rw [decide_eq_false h, if_neg (by decide)]; show _ = (48 : Int); omega
set_option maxRecDepth 100000 in
set_option maxHeartbeats 8000000 in
theorem rdig_any (y : ByteArray) (n : Nat) (w : World) (hn : n ≤ 8 * y.size) (hy : y.size ≤ 1000000) :
    Calls Tryz.prog 57 #[.string y, .int .i64 n] w fun e w' => e = .returned (.string ⟨(digL (sub (bitsL y.data.toList) 0 n)).toArray⟩) ∧ Below w.heap.size w w' := by
  obtain ⟨i0, hi, hz0, hz1, hz2⟩ := info_parts infoByte
  have hbl : (bitsL y.data.toList).length = 8 * y.size := bits_size y
  have HL := Lib.hid (fun (i : Nat) (h : i ≤ n) => show (digL (sub (bitsL y.data.toList) 0 i)).length = i by rw [digL_len, sub_len _ _ _ (by omega)])
  have HS := Lib.hid (fun (i : Nat) (h : i < n) => show digL (sub (bitsL y.data.toList) 0 (i + 1)) = digL (sub (bitsL y.data.toList) 0 i) ++ [bdig ((byteAt y (i / 8)).toNat.testBit (7 - i % 8))] by
    have e4 : y.data.toList[i / 8]? = some (byteAt y (i / 8)) := by
      rw [byteAt_in (by omega), Array.getElem?_toList]; exact Array.getElem?_eq_getElem (by show i / 8 < y.size; omega)
    have e5 : sub (bitsL y.data.toList) (0 + i) 1 = [(byteAt y (i / 8)).toNat.testBit (7 - i % 8)] := by
      apply List.ext_getElem?
      intro j
      rw [sub_at]
      by_cases hj : j = 0
      · subst hj
        rw [if_pos (by omega), bitsL_at, show 0 + i + 0 = i by omega, e4]; rfl
      · rw [if_neg (by omega), List.getElem?_eq_none (by simp; omega)]
    rw [sub_add, e5]; unfold digL; rw [List.map_append]; rfl)
  have HC := Lib.hid (fun (wx : World) (bv : Value) (h : wx.ownsRow w.heap.size 5 1 bv n (byteC (digL (sub (bitsL y.data.toList) 0 n)))) => conv_own (l := digL (sub (bitsL y.data.toList) 0 n)) (bv := bv) (by rw [HL.out n (Nat.le_refl _)]; exact h))
  have H0 : Hid (digL (sub (bitsL y.data.toList) 0 0) = []) := Lib.hid (List.eq_nil_of_length_eq_zero (HL.out 0 (Nat.zero_le _)))
  generalize hG : (fun i => digL (sub (bitsL y.data.toList) 0 i)) = G at *
  have hGi : ∀ i, digL (sub (bitsL y.data.toList) 0 i) = G i := fun i => by rw [← hG]
  simp only [hGi] at *
  clear hG hGi hbl
  go_enter Tryz.func57, Tryz.ntmps57
  go_wp2_with fail
  go_loopw [5, 6] (fun ov iv wr => ∃ (i : Nat) (ao : Option Addr) (c : Nat), i ≤ n ∧ iv = .int .i64 i ∧ ov = .slice ao i c ∧ Hid (wr.ownsRow w.heap.size 5 1 (.slice ao i c) i (byteC (G i))) ∧ Hid (Below w.heap.size w wr)) (fun _ iv _ => n - (intOf iv).toNat)
  case atStart => exact ⟨0, none, 0, by omega, rfl, rfl, Lib.hid ⟨by rw [H0.out]; rfl, .inl ⟨rfl, rfl⟩⟩, Lib.hid (Below.refl _ _)⟩
  case round =>
    obtain ⟨i, ao, c, hin, rfl, rfl, HO, HB⟩ := hrel
    rename World => wr
    by_cases hlt : i < n
    · have t1 : decide ((i : Int) < (n : Int)) = true := decide_eq_true (by omega)
      have hm : ((i : Int)).tmod 8 = ((i % 8 : Nat) : Int) := by rw [Int.tmod_eq_emod_of_nonneg (by omega)]; omega
      have hi8 : i / 8 < y.size := by omega
      have HX := Lib.hid (byteAt_in hi8)
      have HNX := HS.out i hlt
      have HD := Lib.hid (fun j hj => bdig_is (byteAt y (i / 8)) j hj)
      go_wp2_with fail
      go_loopw [7, 8] (fun pv kv wx => ∃ k p : Nat, k ≤ i % 8 ∧ p ≤ 128 ∧ 0 < p ∧ Hid (p = 2 ^ (7 - k)) ∧ pv = .int .i64 p ∧ kv = .int .i64 k ∧ wx = wr) (fun _ kv _ => i % 8 - (intOf kv).toNat)
      case atStart => exact ⟨0, 128, by omega, by omega, by omega, Lib.hid rfl, rfl, rfl, rfl⟩
      case round =>
        obtain ⟨k, p, hk, hp1, hp2, HP, rfl, rfl, rfl⟩ := hrel
        by_cases hk8 : k < i % 8
        · have t2 : decide ((k : Int) < ((i % 8 : Nat) : Int)) = true := decide_eq_true (by omega)
          have HP2 : Hid (p / 2 = 2 ^ (7 - (k + 1))) := Lib.hid (by
            have e := HP.out
            rw [show 7 - k = (7 - (k + 1)) + 1 by omega, Nat.pow_succ] at e
            omega)
          have hp3 : 2 ≤ p := by
            have e := HP.out
            rw [show 7 - k = (7 - (k + 1)) + 1 by omega, Nat.pow_succ] at e
            have := Nat.two_pow_pos (7 - (k + 1))
            omega
          go_wp2_with fail
          exact ⟨⟨k + 1, p / 2, by omega, by omega, by omega, HP2, by go_num, by go_num, trivial⟩, by simp [intOf]; omega⟩
        · have t2 : decide ((k : Int) < ((i % 8 : Nat) : Int)) = false := decide_eq_false (by omega)
          have hk7 : k = i % 8 := by omega
          have HE := HD.out (7 - k) (by omega)
          rw [← HP.out, HX.out, hk7] at HE
          have hz : y[i / 8].toNat < 256 := UInt8.toNat_lt _
          obtain ⟨q, hq⟩ : ∃ q, q = y[i / 8].toNat / p := ⟨_, rfl⟩
          have hq2 : q ≤ 255 := by rw [hq]; exact Nat.le_trans (Nat.div_le_self _ _) (by omega)
          have hqi : ((y[i / 8].toNat : Nat) : Int).tdiv (p : Int) = (q : Int) := by rw [Int.tdiv_eq_ediv_of_nonneg (by omega), hq]; simp
          have hqj : ((y[i / 8].toNat : Nat) : Int) / (p : Int) = (q : Int) := by rw [hq]; simp
          rw [hqj] at HE
          have HEE := Lib.hid HE
          have HO2 := HO.out
          have hMw : w.heap.size ≤ wr.heap.size := HB.out.size
          clear HE hq hk7
          go_wp2_with (at_builtin; refine wpList_append_own_at _ rfl (.tmp 22) (.tmp 33) 50 rfl w.heap.size 5 i0 (.int .u8 0) 1 1 Tryz.underlying50 hi hz0 hz1 hz2 rfl (by decide) (.slice ao i c) i (byteC (G i)) rfl (HO2.alloc _) ⟨wr.heap.size, 0, none⟩ 1 1 [.int .u8 (48 + (q : Int) % 2)] rfl rfl (cell_one_new _ _ _) (ints_oneCell .u8 [48 + (q : Int) % 2]) (by unfold maxLen; omega) (by omega) (by simp; omega) ?_)
          intro v' w1 hown' hgrow hnil hloc
          have hB1 : Hid (Below w.heap.size w w1) := Lib.hid ((HB.out.alloc hMw _).grown hgrow (by simp; omega) (fun k hk => (HO2.lt k hk).1))
          have hown2 : Hid (w1.ownsRow w.heap.size 5 1 v' (i + 1) (byteC (G (i + 1)))) := Lib.hid (by
            have e : byteC (G (i + 1)) = byteC (G i) ++ [.int .u8 (48 + (q : Int) % 2)] := by
              rw [HNX, HEE.out, HX.out]; simp [byteC]
            rw [e]; exact hown')
          obtain ⟨ao', cap', rfl⟩ := slice_of_owns hown2.out
          clear hown' hgrow hnil hloc HO2
          go_wp2_with fail
          exact ⟨⟨i + 1, ao', cap', by omega, by go_num, rfl, hown2, hB1⟩, by simp [intOf]; omega⟩
    · have t1 : decide ((i : Int) < (n : Int)) = false := decide_eq_false (by omega)
      obtain rfl : i = n := by omega
      have hcv := HC.out wr _ HO.out
      go_wp2_with fail
      go_ret
      exact ⟨rfl, HB.out⟩
end Go.Proofs.YthmpobimmbmddaaGreatDoor
