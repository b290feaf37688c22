/-
  The reference's Whole, Formed, Check, Valid: the walks (printed by gen_rterm3.py). The external format's writer of terms, wire.Put: the walks (printed by gen_eterm.py).
-/
import Derived.Deep.CutBlock
import Derived.Test.YtghgbikmlbildaaGreatDoorRoundsAll07
import Derived.Test.YtghgbikmlbildaaGreatDoorRoundsAll16
import Derived.Test.YtghgbikmlbildaaGreatDoorRoundsAll17
namespace Go.Proofs.YtghgbikmlbildaaGreatDoor
open Go.RowKit
set_option linter.unusedVariables false
set_option linter.unusedSimpArgs false

theorem own_cap {t : Tm} (h : okK t = true) : 0 ≤ ownSize t ∧ ownSize t ≤ 300 + t.items.length := by
 unfold ownSize
 by_cases h9 : t.kind = 9
 ·rw [if_pos h9]
  unfold okK at h
  rw [if_neg (by omega), if_neg (by omega), if_neg (by omega), if_neg (by omega), if_neg (by omega), if_neg (by omega), if_neg (by omega), if_pos h9, Bool.and_eq_true, decide_eq_true_eq] at h
  omega
 ·rw [if_neg h9]
  by_cases h10 : t.kind = 10
  ·rw [if_pos h10]
   unfold okK at h
   rw [if_neg (by omega), if_neg (by omega), if_neg (by omega), if_neg (by omega), if_neg (by omega), if_neg (by omega), if_neg (by omega), if_neg h9, if_pos h10] at h
   unfold bitsB bitsV at h
   rw [Bool.and_eq_true, Bool.and_eq_true] at h
   have := h.1.1
   unfold wi at this
   rw [Bool.and_eq_true, decide_eq_true_eq, decide_eq_true_eq] at this
   omega
  ·rw [if_neg h10]; omega
theorem whole_list {f : Nat} (ih : ∀ t, formF f t = true → 0 ≤ wholeF f t ∧ wholeF f t ≤ (capF f t : Int)) : ∀ (l : List Tm), l.all (formF f) = true → 0 ≤ sumI (l.map (wholeF f)) ∧ sumI (l.map (wholeF f)) ≤ (sumN (l.map (capF f)) : Int)
 | [], _ => ⟨Int.le_refl _, Int.le_refl _⟩
 | t :: l, h => by
  rw [List.all_cons, Bool.and_eq_true] at h
  have h1 := ih t h.1
  have h2 := whole_list ih l h.2
  show 0 ≤ wholeF f t + sumI (l.map (wholeF f)) ∧ wholeF f t + sumI (l.map (wholeF f)) ≤ ((capF f t + sumN (l.map (capF f)) : Nat) : Int)
  omega
theorem whole_cap : ∀ (f : Nat) (t : Tm), formF f t = true → 0 ≤ wholeF f t ∧ wholeF f t ≤ (capF f t : Int)
 | 0, _, h => by cases h
 | f + 1, t, h => by
  unfold formF at h
  rw [Bool.and_eq_true] at h
  have hl := h.1
  unfold locB at hl
  rw [Bool.and_eq_true] at hl
  have h1 := own_cap hl.1
  have h2 := whole_list (whole_cap f) t.items h.2
  show 0 ≤ ownSize t + sumI (t.items.map (wholeF f)) ∧ ownSize t + sumI (t.items.map (wholeF f)) ≤ ((300 + t.items.length + sumN (t.items.map (capF f)) : Nat) : Int)
  omega
theorem all_drop3 {f : Nat} {l : List Tm} (h : l.all (formF f) = true) (k : Nat) : (l.drop k).all (formF f) = true := by
 rw [List.all_eq_true] at h ⊢
 exact fun x hx => h x (List.mem_of_mem_drop hx)
theorem tbox_new (w : World) (t : Tm) (so : Option Addr) (c : Nat) : (w.alloc (.cells #[.int .i64 t.kind, .int .i64 t.int, .int .i64 t.gen, .string t.name, .string t.func, .int .i64 t.arity, .slice so t.items.length c, .string t.bytes, .int .i64 t.bits] 78)).heap[w.heap.size]? = some (.cells #[.int .i64 t.kind, .int .i64 t.int, .int .i64 t.gen, .string t.name, .string t.func, .int .i64 t.arity, .slice so t.items.length c, .string t.bytes, .int .i64 t.bits] 78 (0, 0)) := heap_alloc_new _ _
theorem sumN_mem' : ∀ (l : List Nat) (x : Nat), x ∈ l → x ≤ sumN l
 | [], _, h => by cases h
 | y :: l, x, h => by
  show x ≤ y + sumN l
  rcases List.mem_cons.1 h with rfl | h
  ·omega
  ·have := sumN_mem' l x h; omega
/-- Whole on terms whose items are of a depth. -/
def WholeP (f : Nat) : Prop := ∀ (t : Tm) (so : Option Addr) (c : Nat) (w : World), SlAt w 9 (TmAt w f) so t.items → t.Ok → formF (f + 1) t = true → (capF (f + 1) t : Int) ≤ 1152921504606846976 →
 Calls Tryz.prog 162 #[.agg #[.int .i64 t.kind, .int .i64 t.int, .int .i64 t.gen, .string t.name, .string t.func, .int .i64 t.arity, .slice so t.items.length c, .string t.bytes, .int .i64 t.bits]] w fun e w' => e = .returned (.int .i64 (wholeF (f + 1) t)) ∧ Below w.heap.size w w'
/-- What a round of Whole wants of the items. -/
def RecAt (f : Nat) (t : Tm) (so : Option Addr) (Wa : World) (TV : Int) : Prop := ∀ (k : Nat) (s : Int) (wr : World) (hlt : k < t.items.length), Below Wa.heap.size Wa wr → TV = s + sumI ((t.items.drop k).map (wholeF f)) →
 ∃ b2 off ai ci, so = some ⟨b2, off, none⟩ ∧ b2 < wr.heap.size ∧ wr.cell? ⟨b2, off + k * 9, none⟩ = some (.int .i64 t.items[k].kind) ∧ wr.cell? ⟨b2, off + k * 9 + 1, none⟩ = some (.int .i64 t.items[k].int) ∧
   wr.cell? ⟨b2, off + k * 9 + 2, none⟩ = some (.int .i64 t.items[k].gen) ∧ wr.cell? ⟨b2, off + k * 9 + 3, none⟩ = some (.string t.items[k].name) ∧ wr.cell? ⟨b2, off + k * 9 + 4, none⟩ = some (.string t.items[k].func) ∧
   wr.cell? ⟨b2, off + k * 9 + 5, none⟩ = some (.int .i64 t.items[k].arity) ∧ wr.cell? ⟨b2, off + k * 9 + 6, none⟩ = some (.slice ai t.items[k].items.length ci) ∧ wr.cell? ⟨b2, off + k * 9 + 7, none⟩ = some (.string t.items[k].bytes) ∧
   wr.cell? ⟨b2, off + k * 9 + 8, none⟩ = some (.int .i64 t.items[k].bits) ∧
   (Calls Tryz.prog 162 #[.agg #[.int .i64 t.items[k].kind, .int .i64 t.items[k].int, .int .i64 t.items[k].gen, .string t.items[k].name, .string t.items[k].func, .int .i64 t.items[k].arity, .slice ai t.items[k].items.length ci, .string t.items[k].bytes, .int .i64 t.items[k].bits]] wr fun e w' => e = .returned (.int .i64 (wholeF f t.items[k])) ∧ Below wr.heap.size wr w') ∧ TV = (s + wholeF f t.items[k]) + sumI ((t.items.drop (k + 1)).map (wholeF f)) ∧ 0 ≤ wholeF f t.items[k] ∧ (s + wholeF f t.items[k] ≤ 1152921504606846976)
def RecP (f : Nat) (t : Tm) (so : Option Addr) (w : World) : Prop := ∀ (Wa : World), Below w.heap.size w Wa → RecAt f t so Wa (wholeF (f + 1) t)
set_option maxRecDepth 100000 in
set_option maxHeartbeats 8000000 in
theorem whole_list' (f : Nat) (t : Tm) (so : Option Addr) (c : Nat) (w : World) (hsl : SlAt w 9 (TmAt w f) so t.items) (hok : t.Ok) (hform : formF (f + 1) t = true) (hcap : (capF (f + 1) t : Int) ≤ 1152921504606846976) (hrec : RecP f t so w) (hk : t.kind = 9) :
  Calls Tryz.prog 162 #[.agg #[.int .i64 t.kind, .int .i64 t.int, .int .i64 t.gen, .string t.name, .string t.func, .int .i64 t.arity, .slice so t.items.length c, .string t.bytes, .int .i64 t.bits]] w fun e w' => e = .returned (.int .i64 (wholeF (f + 1) t)) ∧ Below w.heap.size w w' := by
 have hwc := whole_cap (f + 1) t hform
 have HTV0 : Hid (wholeF (f + 1) t = ownSize t + sumI ((t.items.drop 0).map (wholeF f))) := Lib.hid rfl
 have hown : 0 ≤ ownSize t ∧ ownSize t ≤ 300 + t.items.length := by
  unfold formF at hform
  rw [Bool.and_eq_true] at hform
  have := hform.1
  unfold locB at this
  rw [Bool.and_eq_true] at this
  exact own_cap this.1
 have hil : t.items.length ≤ 1152921504606846976 := by
  have : 300 + t.items.length ≤ capF (f + 1) t := by show 300 + t.items.length ≤ 300 + t.items.length + sumN (t.items.map (capF f)); omega
  omega
 have hownc : ownSize t ≤ 1152921504606846976 := by
  have : ((300 + t.items.length + sumN (t.items.map (capF f)) : Nat) : Int) ≤ 1152921504606846976 := hcap
  omega
 have HOWN : Hid (ownSize t = (t.items.length : Int) - 1) := Lib.hid (by unfold ownSize; rw [if_pos hk])
 have HKD := Lib.hid hk
 clear hk
 have HTV : Hid (wholeF (f + 1) t = ((t.items.length : Int) - 1) + sumI ((t.items.drop 0).map (wholeF f))) := Lib.hid (by rw [HTV0.out, HOWN.out])
 have HSL := Lib.hid hsl
 have HREC0 := Lib.hid hrec
 rw [HOWN.out] at hown hownc
 obtain ⟨hown0, hown1⟩ := hown
 clear hsl hrec hform hcap hwc HTV0
 unfold RecP at HREC0
 generalize wholeF (f + 1) t = TV at *
 go_enter Tryz.func162, Tryz.ntmps162
 go_upto_region 2 with fail
 have hbx := tbox_new w t so c
 have hba : Below w.heap.size w (w.alloc (.cells #[.int .i64 t.kind, .int .i64 t.int, .int .i64 t.gen, .string t.name, .string t.func, .int .i64 t.arity, .slice so t.items.length c, .string t.bytes, .int .i64 t.bits] 78)) := (Below.refl _ _).alloc (Nat.le_refl _) _
 generalize w.alloc (.cells #[.int .i64 t.kind, .int .i64 t.int, .int .i64 t.gen, .string t.name, .string t.func, .int .i64 t.arity, .slice so t.items.length c, .string t.bytes, .int .i64 t.bits] 78) = Wa at *
 have HS : Hid (SlAt Wa 9 (TmAt Wa f) so t.items) := Lib.hid (SlAt.tms HSL.out hba)
 generalize hBz : w.heap.size = B at *
 have HBZ := Lib.hid hBz; have HBA := Lib.hid hba; have HBX := Lib.hid hbx
 clear hBz hba
 have hlb := lt_of_row hbx
 have c0 : Wa.cell? ⟨B, 0, none⟩ = some (.int .i64 t.kind) := by rw [cell_of_row _ _ _ _ _ _ hbx]; rfl
 rw [HKD.out] at c0
 have c6 : Wa.cell? ⟨B, 6, none⟩ = some (.slice so t.items.length c) := by rw [cell_of_row _ _ _ _ _ _ hbx]; rfl
 have c8 : Wa.cell? ⟨B, 8, none⟩ = some (.int .i64 t.bits) := by rw [cell_of_row _ _ _ _ _ _ hbx]; rfl
 clear hbx
 have HFIN : Hid (∀ wx, Below Wa.heap.size Wa wx → Below B w wx) := Lib.hid (fun wx hh => HBA.out.trans (hh.mono (by have := HBA.out.size; have := HBZ.out; omega)))
 have HREC : Hid (RecAt f t so Wa TV) := Lib.hid (HREC0.out Wa HBA.out)
 go_wp2_with fail
 go_loopw [3, 4] (fun nv iv wr => ∃ (k : Nat) (s : Int), k ≤ t.items.length ∧ iv = .int .i64 k ∧ nv = .int .i64 s ∧ Hid (TV = s + sumI ((t.items.drop k).map (wholeF f))) ∧ 0 ≤ s ∧ s ≤ 1152921504606846976 ∧ Hid (Below Wa.heap.size Wa wr)) (fun _ iv _ => t.items.length - (intOf iv).toNat)
 case atStart => exact ⟨0, ((t.items.length : Int) - 1), Nat.zero_le _, rfl, by go_num, HTV, by omega, by omega, Lib.hid (Below.refl _ _)⟩
 case round =>
  obtain ⟨k, s, hk, rfl, rfl, HK, hs0, hs1, HBk⟩ := hrel
  rename World => wr
  clear c0 c6 c8
  have hb1 := (HBk.out.block B (lt_of_row HBX.out)).trans HBX.out
  have hlb1 := lt_of_row hb1
  have c6 : wr.cell? ⟨B, 6, none⟩ = some (.slice so t.items.length c) := by rw [cell_of_row _ _ _ _ _ _ hb1]; rfl
  clear hb1
  by_cases hlt : k < t.items.length
  ·obtain ⟨b2, off, ai, ci, hao, hb2, q0, q1, q2, q3, q4, q5, q6, q7, q8, hcall, hsd, hw0, hws⟩ := HREC.out k s wr hlt HBk.out HK.out
   subst hao
   have HCL := Lib.hid hcall; have HSD := Lib.hid hsd
   clear hcall hsd
   generalize t.items[k] = u at *
   generalize wholeF f u = wu at *
   go_wp2_with fail
   refine HCL.out.mono ?_
   rintro e9 w5 ⟨rfl, hb5⟩
   go_wp2_with fail
   go_roundw
   case rel => exact ⟨k + 1, s + wu, by omega, by go_num, rfl, HSD, by omega, by omega, Lib.hid (below_next HBk.out hb5)⟩
   case measure => simp [intOf]; omega
  ·have E : Hid (TV = s) := Lib.hid (by rw [HK.out, List.drop_eq_nil_of_le (by omega)]; show s + 0 = s; omega)
   go_wp2_with fail
   go_ret
   exact ⟨ret1 E.out.symm, by rw [HBZ.out]; exact HFIN.out _ HBk.out⟩
set_option maxRecDepth 100000 in
set_option maxHeartbeats 8000000 in
theorem whole_bits (f : Nat) (t : Tm) (so : Option Addr) (c : Nat) (w : World) (hsl : SlAt w 9 (TmAt w f) so t.items) (hok : t.Ok) (hform : formF (f + 1) t = true) (hcap : (capF (f + 1) t : Int) ≤ 1152921504606846976) (hrec : RecP f t so w) (hk : t.kind = 10) :
  Calls Tryz.prog 162 #[.agg #[.int .i64 t.kind, .int .i64 t.int, .int .i64 t.gen, .string t.name, .string t.func, .int .i64 t.arity, .slice so t.items.length c, .string t.bytes, .int .i64 t.bits]] w fun e w' => e = .returned (.int .i64 (wholeF (f + 1) t)) ∧ Below w.heap.size w w' := by
 have hwc := whole_cap (f + 1) t hform
 have HTV0 : Hid (wholeF (f + 1) t = ownSize t + sumI ((t.items.drop 0).map (wholeF f))) := Lib.hid rfl
 have hown : 0 ≤ ownSize t ∧ ownSize t ≤ 300 + t.items.length := by
  unfold formF at hform
  rw [Bool.and_eq_true] at hform
  have := hform.1
  unfold locB at this
  rw [Bool.and_eq_true] at this
  exact own_cap this.1
 have hil : t.items.length ≤ 1152921504606846976 := by
  have : 300 + t.items.length ≤ capF (f + 1) t := by show 300 + t.items.length ≤ 300 + t.items.length + sumN (t.items.map (capF f)); omega
  omega
 have hownc : ownSize t ≤ 1152921504606846976 := by
  have : ((300 + t.items.length + sumN (t.items.map (capF f)) : Nat) : Int) ≤ 1152921504606846976 := hcap
  omega
 have HOWN : Hid (ownSize t = 1 + (t.bits + 63) / 64) := Lib.hid (by unfold ownSize; rw [if_neg (by omega), if_pos hk])
 have hbt : 0 ≤ t.bits ∧ t.bits ≤ 16384 := by
  unfold formF at hform
  rw [Bool.and_eq_true] at hform
  have h := hform.1
  unfold locB at h
  rw [Bool.and_eq_true] at h
  have h := h.1
  unfold okK at h
  rw [if_neg (by omega), if_neg (by omega), if_neg (by omega), if_neg (by omega), if_neg (by omega), if_neg (by omega), if_neg (by omega), if_neg (by omega), if_pos hk] at h
  unfold bitsB bitsV at h
  rw [Bool.and_eq_true, Bool.and_eq_true] at h
  have := h.1.1
  unfold wi at this
  rw [Bool.and_eq_true, decide_eq_true_eq, decide_eq_true_eq] at this
  exact this
 obtain ⟨hbt0, hbt1⟩ := hbt
 have HKD := Lib.hid hk
 clear hk
 have HTV : Hid (wholeF (f + 1) t = (1 + (t.bits + 63) / 64) + sumI ((t.items.drop 0).map (wholeF f))) := Lib.hid (by rw [HTV0.out, HOWN.out])
 have HSL := Lib.hid hsl
 have HREC0 := Lib.hid hrec
 rw [HOWN.out] at hown hownc
 obtain ⟨hown0, hown1⟩ := hown
 clear hsl hrec hform hcap hwc HTV0
 unfold RecP at HREC0
 generalize wholeF (f + 1) t = TV at *
 go_enter Tryz.func162, Tryz.ntmps162
 go_upto_region 2 with fail
 have hbx := tbox_new w t so c
 have hba : Below w.heap.size w (w.alloc (.cells #[.int .i64 t.kind, .int .i64 t.int, .int .i64 t.gen, .string t.name, .string t.func, .int .i64 t.arity, .slice so t.items.length c, .string t.bytes, .int .i64 t.bits] 78)) := (Below.refl _ _).alloc (Nat.le_refl _) _
 generalize w.alloc (.cells #[.int .i64 t.kind, .int .i64 t.int, .int .i64 t.gen, .string t.name, .string t.func, .int .i64 t.arity, .slice so t.items.length c, .string t.bytes, .int .i64 t.bits] 78) = Wa at *
 have HS : Hid (SlAt Wa 9 (TmAt Wa f) so t.items) := Lib.hid (SlAt.tms HSL.out hba)
 generalize hBz : w.heap.size = B at *
 have HBZ := Lib.hid hBz; have HBA := Lib.hid hba; have HBX := Lib.hid hbx
 clear hBz hba
 have hlb := lt_of_row hbx
 have c0 : Wa.cell? ⟨B, 0, none⟩ = some (.int .i64 t.kind) := by rw [cell_of_row _ _ _ _ _ _ hbx]; rfl
 rw [HKD.out] at c0
 have c6 : Wa.cell? ⟨B, 6, none⟩ = some (.slice so t.items.length c) := by rw [cell_of_row _ _ _ _ _ _ hbx]; rfl
 have c8 : Wa.cell? ⟨B, 8, none⟩ = some (.int .i64 t.bits) := by rw [cell_of_row _ _ _ _ _ _ hbx]; rfl
 clear hbx
 have HFIN : Hid (∀ wx, Below Wa.heap.size Wa wx → Below B w wx) := Lib.hid (fun wx hh => HBA.out.trans (hh.mono (by have := HBA.out.size; have := HBZ.out; omega)))
 have HREC : Hid (RecAt f t so Wa TV) := Lib.hid (HREC0.out Wa HBA.out)
 go_wp2_with fail
 go_loopw [3, 4] (fun nv iv wr => ∃ (k : Nat) (s : Int), k ≤ t.items.length ∧ iv = .int .i64 k ∧ nv = .int .i64 s ∧ Hid (TV = s + sumI ((t.items.drop k).map (wholeF f))) ∧ 0 ≤ s ∧ s ≤ 1152921504606846976 ∧ Hid (Below Wa.heap.size Wa wr)) (fun _ iv _ => t.items.length - (intOf iv).toNat)
 case atStart => exact ⟨0, (1 + (t.bits + 63) / 64), Nat.zero_le _, rfl, by go_num, HTV, by omega, by omega, Lib.hid (Below.refl _ _)⟩
 case round =>
  obtain ⟨k, s, hk, rfl, rfl, HK, hs0, hs1, HBk⟩ := hrel
  rename World => wr
  clear c0 c6 c8
  have hb1 := (HBk.out.block B (lt_of_row HBX.out)).trans HBX.out
  have hlb1 := lt_of_row hb1
  have c6 : wr.cell? ⟨B, 6, none⟩ = some (.slice so t.items.length c) := by rw [cell_of_row _ _ _ _ _ _ hb1]; rfl
  clear hb1
  by_cases hlt : k < t.items.length
  ·obtain ⟨b2, off, ai, ci, hao, hb2, q0, q1, q2, q3, q4, q5, q6, q7, q8, hcall, hsd, hw0, hws⟩ := HREC.out k s wr hlt HBk.out HK.out
   subst hao
   have HCL := Lib.hid hcall; have HSD := Lib.hid hsd
   clear hcall hsd
   generalize t.items[k] = u at *
   generalize wholeF f u = wu at *
   go_wp2_with fail
   refine HCL.out.mono ?_
   rintro e9 w5 ⟨rfl, hb5⟩
   go_wp2_with fail
   go_roundw
   case rel => exact ⟨k + 1, s + wu, by omega, by go_num, rfl, HSD, by omega, by omega, Lib.hid (below_next HBk.out hb5)⟩
   case measure => simp [intOf]; omega
  ·have E : Hid (TV = s) := Lib.hid (by rw [HK.out, List.drop_eq_nil_of_le (by omega)]; show s + 0 = s; omega)
   go_wp2_with fail
   go_ret
   exact ⟨ret1 E.out.symm, by rw [HBZ.out]; exact HFIN.out _ HBk.out⟩
set_option maxRecDepth 100000 in
set_option maxHeartbeats 8000000 in
theorem whole_one (f : Nat) (t : Tm) (so : Option Addr) (c : Nat) (w : World) (hsl : SlAt w 9 (TmAt w f) so t.items) (hok : t.Ok) (hform : formF (f + 1) t = true) (hcap : (capF (f + 1) t : Int) ≤ 1152921504606846976) (hrec : RecP f t so w) (hk9 : ¬ t.kind = 9) (hk10 : ¬ t.kind = 10) :
  Calls Tryz.prog 162 #[.agg #[.int .i64 t.kind, .int .i64 t.int, .int .i64 t.gen, .string t.name, .string t.func, .int .i64 t.arity, .slice so t.items.length c, .string t.bytes, .int .i64 t.bits]] w fun e w' => e = .returned (.int .i64 (wholeF (f + 1) t)) ∧ Below w.heap.size w w' := by
 have hwc := whole_cap (f + 1) t hform
 have HTV0 : Hid (wholeF (f + 1) t = ownSize t + sumI ((t.items.drop 0).map (wholeF f))) := Lib.hid rfl
 have hown : 0 ≤ ownSize t ∧ ownSize t ≤ 300 + t.items.length := by
  unfold formF at hform
  rw [Bool.and_eq_true] at hform
  have := hform.1
  unfold locB at this
  rw [Bool.and_eq_true] at this
  exact own_cap this.1
 have hil : t.items.length ≤ 1152921504606846976 := by
  have : 300 + t.items.length ≤ capF (f + 1) t := by show 300 + t.items.length ≤ 300 + t.items.length + sumN (t.items.map (capF f)); omega
  omega
 have hownc : ownSize t ≤ 1152921504606846976 := by
  have : ((300 + t.items.length + sumN (t.items.map (capF f)) : Nat) : Int) ≤ 1152921504606846976 := hcap
  omega
 have HOWN : Hid (ownSize t = 1) := Lib.hid (by unfold ownSize; rw [if_neg hk9, if_neg hk10])
 have t9 : (t.kind == 9) = false := beq_eq_false_iff_ne.2 hk9
 have t10 : (t.kind == 10) = false := beq_eq_false_iff_ne.2 hk10
 clear hk9 hk10
 have HTV : Hid (wholeF (f + 1) t = (1 : Int) + sumI ((t.items.drop 0).map (wholeF f))) := Lib.hid (by rw [HTV0.out, HOWN.out])
 have HSL := Lib.hid hsl
 have HREC0 := Lib.hid hrec
 rw [HOWN.out] at hown hownc
 obtain ⟨hown0, hown1⟩ := hown
 clear hsl hrec hform hcap hwc HTV0
 unfold RecP at HREC0
 generalize wholeF (f + 1) t = TV at *
 go_enter Tryz.func162, Tryz.ntmps162
 go_upto_region 2 with fail
 have hbx := tbox_new w t so c
 have hba : Below w.heap.size w (w.alloc (.cells #[.int .i64 t.kind, .int .i64 t.int, .int .i64 t.gen, .string t.name, .string t.func, .int .i64 t.arity, .slice so t.items.length c, .string t.bytes, .int .i64 t.bits] 78)) := (Below.refl _ _).alloc (Nat.le_refl _) _
 generalize w.alloc (.cells #[.int .i64 t.kind, .int .i64 t.int, .int .i64 t.gen, .string t.name, .string t.func, .int .i64 t.arity, .slice so t.items.length c, .string t.bytes, .int .i64 t.bits] 78) = Wa at *
 have HS : Hid (SlAt Wa 9 (TmAt Wa f) so t.items) := Lib.hid (SlAt.tms HSL.out hba)
 generalize hBz : w.heap.size = B at *
 have HBZ := Lib.hid hBz; have HBA := Lib.hid hba; have HBX := Lib.hid hbx
 clear hBz hba
 have hlb := lt_of_row hbx
 have c0 : Wa.cell? ⟨B, 0, none⟩ = some (.int .i64 t.kind) := by rw [cell_of_row _ _ _ _ _ _ hbx]; rfl
 have c6 : Wa.cell? ⟨B, 6, none⟩ = some (.slice so t.items.length c) := by rw [cell_of_row _ _ _ _ _ _ hbx]; rfl
 have c8 : Wa.cell? ⟨B, 8, none⟩ = some (.int .i64 t.bits) := by rw [cell_of_row _ _ _ _ _ _ hbx]; rfl
 clear hbx
 have HFIN : Hid (∀ wx, Below Wa.heap.size Wa wx → Below B w wx) := Lib.hid (fun wx hh => HBA.out.trans (hh.mono (by have := HBA.out.size; have := HBZ.out; omega)))
 have HREC : Hid (RecAt f t so Wa TV) := Lib.hid (HREC0.out Wa HBA.out)
 go_wp2_with fail
 go_loopw [3, 4] (fun nv iv wr => ∃ (k : Nat) (s : Int), k ≤ t.items.length ∧ iv = .int .i64 k ∧ nv = .int .i64 s ∧ Hid (TV = s + sumI ((t.items.drop k).map (wholeF f))) ∧ 0 ≤ s ∧ s ≤ 1152921504606846976 ∧ Hid (Below Wa.heap.size Wa wr)) (fun _ iv _ => t.items.length - (intOf iv).toNat)
 case atStart => exact ⟨0, (1 : Int), Nat.zero_le _, rfl, by go_num, HTV, by omega, by omega, Lib.hid (Below.refl _ _)⟩
 case round =>
  obtain ⟨k, s, hk, rfl, rfl, HK, hs0, hs1, HBk⟩ := hrel
  rename World => wr
  clear c0 c6 c8
  have hb1 := (HBk.out.block B (lt_of_row HBX.out)).trans HBX.out
  have hlb1 := lt_of_row hb1
  have c6 : wr.cell? ⟨B, 6, none⟩ = some (.slice so t.items.length c) := by rw [cell_of_row _ _ _ _ _ _ hb1]; rfl
  clear hb1
  by_cases hlt : k < t.items.length
  ·obtain ⟨b2, off, ai, ci, hao, hb2, q0, q1, q2, q3, q4, q5, q6, q7, q8, hcall, hsd, hw0, hws⟩ := HREC.out k s wr hlt HBk.out HK.out
   subst hao
   have HCL := Lib.hid hcall; have HSD := Lib.hid hsd
   clear hcall hsd
   generalize t.items[k] = u at *
   generalize wholeF f u = wu at *
   go_wp2_with fail
   refine HCL.out.mono ?_
   rintro e9 w5 ⟨rfl, hb5⟩
   go_wp2_with fail
   go_roundw
   case rel => exact ⟨k + 1, s + wu, by omega, by go_num, rfl, HSD, by omega, by omega, Lib.hid (below_next HBk.out hb5)⟩
   case measure => simp [intOf]; omega
  ·have E : Hid (TV = s) := Lib.hid (by rw [HK.out, List.drop_eq_nil_of_le (by omega)]; show s + 0 = s; omega)
   go_wp2_with fail
   go_ret
   exact ⟨ret1 E.out.symm, by rw [HBZ.out]; exact HFIN.out _ HBk.out⟩
theorem whole_step (f : Nat) (IH : ∀ f', f = f' + 1 → WholeP f') : WholeP f := by
 intro t so c w hsl hok hform hcap
 have hall : t.items.all (formF f) = true := by
  unfold formF at hform; rw [Bool.and_eq_true] at hform; exact hform.2
 have hwc := whole_cap (f + 1) t hform
 have hrec : RecP f t so w := by
  intro Wa hba k s wr hlt hb hs
  cases f with
  | zero => rw [hsl.zero] at hlt; exact absurd hlt (Nat.not_lt_zero _)
  | succ f =>
   obtain ⟨b2, off, ai, ci, hao, hb2, q0, q1, q2, q3, q4, q5, q6, q7, q8, hit, hok2⟩ := (SlAt.tms (SlAt.tms hsl hba) hb).tm hlt
   have hf2 : formF (f + 1) t.items[k] = true := List.all_eq_true.1 hall _ (List.getElem_mem hlt)
   have hc2 : (capF (f + 1) t.items[k] : Int) ≤ 1152921504606846976 := by
    have h1 : capF (f + 1) t.items[k] ≤ sumN (t.items.map (capF (f + 1))) := sumN_mem' _ _ (List.mem_map.2 ⟨_, List.getElem_mem hlt, rfl⟩)
    have h2 : capF (f + 1 + 1) t = 300 + t.items.length + sumN (t.items.map (capF (f + 1))) := rfl
    rw [h2] at hcap
    omega
   have hd := sumI_drop (f := f + 1) hlt
   have hw := whole_cap (f + 1) _ hf2
   have hrest := whole_list (whole_cap (f + 1)) (t.items.drop (k + 1)) (all_drop3 hall (k + 1))
   rw [hd] at hs
   exact ⟨b2, off, ai, ci, hao, hb2, q0, q1, q2, q3, q4, q5, q6, q7, q8, IH f rfl _ ai ci wr hit hok2 hf2 hc2, by rw [hs]; omega, hw.1, by omega⟩
 by_cases h9 : t.kind = 9
 ·exact whole_list' f t so c w hsl hok hform hcap hrec h9
 by_cases h10 : t.kind = 10
 ·exact whole_bits f t so c w hsl hok hform hcap hrec h10
 exact whole_one f t so c w hsl hok hform hcap hrec h9 h10
theorem whole_rec (f : Nat) : WholeP f := by
 induction f with
 | zero => exact whole_step 0 (fun f' h => absurd h (by omega))
 | succ f ih => exact whole_step (f + 1) (fun f' h => by have : f' = f := by omega
                                                         subst this; exact ih)
end Go.Proofs.YtghgbikmlbildaaGreatDoor
namespace Go.Proofs.YtghgbikmlbildaaGreatDoor
open Go.RowKit
set_option linter.unusedVariables false
set_option linter.unusedSimpArgs false

/-- While a term is written: the writer's bytes, the term's box. -/
structure Wst (B b X : Nat) (t : Tm) (so : Option Addr) (c : Nat) (w : World) (l : List UInt8) (wx : World) : Prop where
 at' : WtAt B b l wx
 box : wx.heap[X]? = some (.cells #[.int .i64 t.kind, .int .i64 t.int, .int .i64 t.gen, .string t.name, .string t.func, .int .i64 t.arity, .slice so t.items.length c, .string t.bytes, .int .i64 t.bits] 78 (0, 0))
 bel : Below B w wx
 st : StaysE w wx
theorem Wst.next {B b X : Nat} {t : Tm} {so : Option Addr} {c : Nat} {w : World} {l l' : List UInt8} {wx wy : World} (h : Wst B b X t so c w l wx) (h1 : WtAt B b l' wy) (h2 : Below B wx wy) (h3 : StaysE wx wy) : Wst B b X t so c w l' wy :=
 ⟨h1, h3 X _ _ _ h.box (by decide) (by decide), h.bel.trans h2, h.st.trans h3⟩
theorem Wst.below {B b X : Nat} {t : Tm} {so : Option Addr} {c : Nat} {w : World} {l : List UInt8} {wx wy : World} (h : Wst B b X t so c w l wx) (hb : Below wx.heap.size wx wy) : Wst B b X t so c w l wy :=
 h.next (h.at'.below hb) (hb.mono h.at'.2.1) ((StaysE.refl _).below hb)
def WTermP (f : Nat) : Prop := ∀ (t : Tm) (so : Option Addr) (c b : Nat) (l : List UInt8) (w0 w : World), SlAt w0 9 (TmAt w0 f) so t.items → t.Ok → formF (f + 1) t = true → Below w0.heap.size w0 w → WtAt w0.heap.size b l w → l.length + (codeE (f + 1) t).length ≤ 17592186044416 →
 Calls Tryz.prog 96 #[.pointer (some ⟨b, 0, none⟩), .agg #[.int .i64 t.kind, .int .i64 t.int, .int .i64 t.gen, .string t.name, .string t.func, .int .i64 t.arity, .slice so t.items.length c, .string t.bytes, .int .i64 t.bits]] w (WtQ w0.heap.size b (l ++ codeE (f + 1) t) w)
set_option maxRecDepth 100000 in
set_option maxHeartbeats 40000000 in
theorem wterm_step (f : Nat) (IH : ∀ f', f = f' + 1 → WTermP f') : WTermP f := by
 intro t so c b l w0 w hsl hok hform hb0 hwt hlen
 have hfa : locB t = true ∧ t.items.all (formF f) = true := by unfold formF at hform; rwa [Bool.and_eq_true] at hform
 have hokK : okK t = true := by have := hfa.1; unfold locB at this; rw [Bool.and_eq_true] at this; exact this.1
 have hhl := (headE_len hokK).1
 have HT : Hid (l ++ codeE (f + 1) t = (l ++ headE t) ++ (t.items.drop 0).flatMap (codeE f)) := Lib.hid (by rw [List.append_assoc]; rfl)
 have HTL : Hid ((l ++ codeE (f + 1) t).length ≤ 17592186044416) := Lib.hid (by rw [List.length_append]; exact hlen)
 have hll : l.length ≤ 17592186044416 := by omega
 obtain ⟨ok0, ok1, ok2, ok3, ok4, ok5, ok6, ok7, ok8⟩ := hok
 unfold maxLen at ok3 ok4 ok6 ok7
 unfold WtQ
 have HREC : Hid (∀ (k : Nat) (wr : World) (hlt : k < t.items.length), Below w0.heap.size w0 wr → ∃ b2 off ai ci, so = some ⟨b2, off, none⟩ ∧ b2 < wr.heap.size ∧ wr.cell? ⟨b2, off + k * 9, none⟩ = some (.int .i64 t.items[k].kind) ∧wr.cell? ⟨b2, off + k * 9 + 1, none⟩ = some (.int .i64 t.items[k].int) ∧wr.cell? ⟨b2, off + k * 9 + 2, none⟩ = some (.int .i64 t.items[k].gen) ∧wr.cell? ⟨b2, off + k * 9 + 3, none⟩ = some (.string t.items[k].name) ∧wr.cell? ⟨b2, off + k * 9 + 4, none⟩ = some (.string t.items[k].func) ∧wr.cell? ⟨b2, off + k * 9 + 5, none⟩ = some (.int .i64 t.items[k].arity) ∧wr.cell? ⟨b2, off + k * 9 + 6, none⟩ = some (.slice ai t.items[k].items.length ci) ∧wr.cell? ⟨b2, off + k * 9 + 7, none⟩ = some (.string t.items[k].bytes) ∧wr.cell? ⟨b2, off + k * 9 + 8, none⟩ = some (.int .i64 t.items[k].bits) ∧ (∀ (l' : List UInt8) (wy : World), Below w0.heap.size w0 wy → WtAt w0.heap.size b l' wy → l'.length + (codeE f t.items[k]).length ≤ 17592186044416 → Calls Tryz.prog 96 #[.pointer (some ⟨b, 0, none⟩), .agg #[.int .i64 t.items[k].kind, .int .i64 t.items[k].int, .int .i64 t.items[k].gen, .string t.items[k].name, .string t.items[k].func, .int .i64 t.items[k].arity, .slice ai t.items[k].items.length ci, .string t.items[k].bytes, .int .i64 t.items[k].bits]] wy (WtQ w0.heap.size b (l' ++ codeE f t.items[k]) wy))) := Lib.hid (fun k wr hlt hb => by
  cases f with
  | zero => rw [hsl.zero] at hlt; exact absurd hlt (Nat.not_lt_zero _)
  | succ f =>
   obtain ⟨b2, off, ai, ci, hao, hb2, q0, q1, q2, q3, q4, q5, q6, q7, q8, hit, hok2⟩ := hsl.tm hlt
   have hc := fun i => hb.cell (p := ⟨b2, off + k * 9 + i, none⟩) hb2
   exact ⟨b2, off, ai, ci, hao, Nat.lt_of_lt_of_le hb2 hb.size, (hc 0).trans q0, (hc 1).trans q1, (hc 2).trans q2, (hc 3).trans q3, (hc 4).trans q4, (hc 5).trans q5, (hc 6).trans q6, (hc 7).trans q7, (hc 8).trans q8, fun l' wy h1 h2 h3 => IH f rfl _ ai ci b l' w0 wy hit hok2 (List.all_eq_true.1 hfa.2 _ (List.getElem_mem hlt)) h1 h2 h3⟩)
 have hbx := tbox_new w t so c
 have hba : Below w.heap.size w (w.alloc (.cells #[.int .i64 t.kind, .int .i64 t.int, .int .i64 t.gen, .string t.name, .string t.func, .int .i64 t.arity, .slice so t.items.length c, .string t.bytes, .int .i64 t.bits] 78)) := (Below.refl _ _).alloc (Nat.le_refl _) _
 have HS : Hid (Wst w0.heap.size b w.heap.size t so c w l (w.alloc (.cells #[.int .i64 t.kind, .int .i64 t.int, .int .i64 t.gen, .string t.name, .string t.func, .int .i64 t.arity, .slice so t.items.length c, .string t.bytes, .int .i64 t.bits] 78))) := Lib.hid ⟨hwt.below hba, hbx, hba.mono hwt.2.1, (StaysE.refl _).below hba⟩
 have HB0 := Lib.hid hb0
 clear hsl hform hb0 hwt hlen hbx hba hfa IH
 generalize l ++ codeE (f + 1) t = T at *
 go_enter Tryz.func96, Tryz.ntmps96
 go_upto_region 1 with fail
 generalize w.alloc (.cells #[.int .i64 t.kind, .int .i64 t.int, .int .i64 t.gen, .string t.name, .string t.func, .int .i64 t.arity, .slice so t.items.length c, .string t.bytes, .int .i64 t.bits] 78) = W at *
 generalize w.heap.size = X at *
 obtain ⟨c0, c1, c2, c3, c4, c5, c6, c7, c8, cz⟩ := term_cells HS.out.box
 have hlx := lt_of_row HS.out.box
 clear cz
 go_upto_block 0 with fail
 go_cut [6] (fun s wx => Hid (Wst w0.heap.size b X t so c w (l ++ headE t) wx))
 case first =>
  clear HREC HT HTL HB0
  by_cases hk : t.kind = 1
  ·have hn := hokK
   clear hokK
   have HE : Hid (headE t = intE t.int) := Lib.hid (by unfold headE; simp [hk])
   have t1 : (t.kind == 1) = true := by rw [beq_iff_eq]; exact hk
   clear hk
   go_wp2_with fail
   refine (winteger_wt _ b _ t.int _ HS.out.at' ok1 (by first | omega | (simp [beN_len, atomE_len]; done) | (simp [beN_len, atomE_len]; omega))).mono ?_
   rintro e w10 ⟨rfl, g1, g2, g3⟩
   have HS := Lib.hid (HS.out.next g1 g2 g3)
   clear g1 g2 g3 c0 c1 c2 c3 c4 c5 c6 c7 c8 hlx
   go_wp2_with fail
   go_meet
   case rel =>
    have HQ := HS.out
    try simp only [List.append_assoc] at HQ
    rw [HE.out]
    exact Lib.hid HQ
  by_cases hk : t.kind = 2
  ·have hn : nameB t.name = true := by unfold okK at hokK; simpa [hk] using hokK
   have := nameB_max hn
   have HE : Hid (headE t = atomE t.name) := Lib.hid (by unfold headE; simp [hk])
   have t1 : (t.kind == 1) = false := by rw [beq_eq_false_iff_ne]; omega
   have t2 : (t.kind == 2) = true := by rw [beq_iff_eq]; exact hk
   clear hk
   go_wp2_with fail
   refine (watom_wt _ b _ t.name _ HS.out.at' (nameB_max hn) (by first | omega | (simp [beN_len, atomE_len]; done) | (simp [beN_len, atomE_len]; omega))).mono ?_
   rintro e w10 ⟨rfl, g1, g2, g3⟩
   have HS := Lib.hid (HS.out.next g1 g2 g3)
   clear g1 g2 g3 c0 c1 c2 c3 c4 c5 c6 c7 c8 hlx
   go_wp2_with fail
   go_meet
   case rel =>
    have HQ := HS.out
    try simp only [List.append_assoc] at HQ
    rw [HE.out]
    exact Lib.hid HQ
  by_cases hk : t.kind = 7
  ·have hn : t.items.length ≤ 255 := by unfold okK at hokK; simpa [hk] using hokK
   have HE : Hid (headE t = [104, UInt8.ofNat t.items.length]) := Lib.hid (by unfold headE; simp [hk])
   have t1 : (t.kind == 1) = false := by rw [beq_eq_false_iff_ne]; omega
   have t2 : (t.kind == 2) = false := by rw [beq_eq_false_iff_ne]; omega
   have t7 : (t.kind == 7) = true := by rw [beq_iff_eq]; exact hk
   clear hk
   go_wp2_with fail
   refine (wlit2 _ b _ 104 (t.items.length : Int) 5 _ HS.out.at' (by omega) (by omega) (by first | omega | (simp [beN_len, atomE_len]; done) | (simp [beN_len, atomE_len]; omega))).mono ?_
   rintro e w10 ⟨rfl, g1, g2, g3⟩
   have HS := Lib.hid (HS.out.next g1 g2 g3)
   clear g1 g2 g3 c0 c1 c2 c3 c4 c5 c6 c7 c8 hlx
   go_wp2_with fail
   go_meet
   case rel =>
    have HQ := HS.out
    try simp only [List.append_assoc] at HQ
    rw [HE.out]
    exact Lib.hid HQ
  by_cases hk : t.kind = 8
  ·have hn := hokK
   have HE : Hid (headE t = [106]) := Lib.hid (by unfold headE; simp [hk])
   have t1 : (t.kind == 1) = false := by rw [beq_eq_false_iff_ne]; omega
   have t2 : (t.kind == 2) = false := by rw [beq_eq_false_iff_ne]; omega
   have t7 : (t.kind == 7) = false := by rw [beq_eq_false_iff_ne]; omega
   have t8 : (t.kind == 8) = true := by rw [beq_iff_eq]; exact hk
   clear hk
   go_wp2_with fail
   refine (wlit1 _ b _ 106 5 _ HS.out.at' (by omega) (by first | omega | (simp [beN_len, atomE_len]; done) | (simp [beN_len, atomE_len]; omega))).mono ?_
   rintro e w10 ⟨rfl, g1, g2, g3⟩
   have HS := Lib.hid (HS.out.next g1 g2 g3)
   clear g1 g2 g3 c0 c1 c2 c3 c4 c5 c6 c7 c8 hlx
   go_wp2_with fail
   go_meet
   case rel =>
    have HQ := HS.out
    try simp only [List.append_assoc] at HQ
    rw [HE.out]
    exact Lib.hid HQ
  by_cases hk : t.kind = 9
  ·have hn : 2 ≤ t.items.length := by unfold okK at hokK; simp [hk] at hokK; exact hokK.1
   have hw1 : IntKind.i64.wrap ((t.items.length : Int) - 1) = (t.items.length : Int) - 1 := by rw [IntKind.wrap_i64]; omega
   have HE : Hid (headE t = 108 :: beN 4 ((t.items.length : Int) - 1)) := Lib.hid (by unfold headE; simp [hk])
   have t1 : (t.kind == 1) = false := by rw [beq_eq_false_iff_ne]; omega
   have t2 : (t.kind == 2) = false := by rw [beq_eq_false_iff_ne]; omega
   have t7 : (t.kind == 7) = false := by rw [beq_eq_false_iff_ne]; omega
   have t8 : (t.kind == 8) = false := by rw [beq_eq_false_iff_ne]; omega
   have t9 : (t.kind == 9) = true := by rw [beq_iff_eq]; exact hk
   clear hk
   go_wp2_with fail
   refine (wlit1 _ b _ 108 5 _ HS.out.at' (by omega) (by first | omega | (simp [beN_len, atomE_len]; done) | (simp [beN_len, atomE_len]; omega))).mono ?_
   rintro e w10 ⟨rfl, g1, g2, g3⟩
   have HS := Lib.hid (HS.out.next g1 g2 g3)
   clear g1 g2 g3 c0 c1 c2 c3 c4 c5 c6 c7 c8 hlx
   obtain ⟨c0, c1, c2, c3, c4, c5, c6, c7, c8, cz⟩ := term_cells HS.out.box
   have hlx := lt_of_row HS.out.box
   clear cz
   go_wp2_with fail
   refine (wnumber_wt _ b _ ((t.items.length : Int) - 1) 4 _ HS.out.at' (by unfold I64; omega) (by omega) (by first | omega | (simp [beN_len, atomE_len]; done) | (simp [beN_len, atomE_len]; omega))).mono ?_
   rintro e w11 ⟨rfl, g1, g2, g3⟩
   have HS := Lib.hid (HS.out.next g1 g2 g3)
   clear g1 g2 g3 c0 c1 c2 c3 c4 c5 c6 c7 c8 hlx
   go_wp2_with fail
   go_meet
   case rel =>
    have HQ := HS.out
    try simp only [List.append_assoc] at HQ
    rw [HE.out]
    exact Lib.hid HQ
  by_cases hk : t.kind = 10
  ·have hn : bitsV t.bytes t.bits = true := by unfold okK at hokK; simp [hk] at hokK; exact hokK
   obtain ⟨hb0, hb1, hb2⟩ := bitsV_len hn
   have hy : t.bytes.size ≤ 3000 := by omega
   clear hb2 hn hokK
   by_cases hr : t.bits % 8 = 0
   ·have hrb : (t.bits % 8 == 0) = true := by rw [beq_iff_eq]; exact hr
    have HE : Hid (headE t = 109 :: (beN 4 t.bytes.size ++ t.bytes.data.toList)) := Lib.hid (by unfold headE; simp [hk, hr])
    have t1 : (t.kind == 1) = false := by rw [beq_eq_false_iff_ne]; omega
    have t2 : (t.kind == 2) = false := by rw [beq_eq_false_iff_ne]; omega
    have t7 : (t.kind == 7) = false := by rw [beq_eq_false_iff_ne]; omega
    have t8 : (t.kind == 8) = false := by rw [beq_eq_false_iff_ne]; omega
    have t9 : (t.kind == 9) = false := by rw [beq_eq_false_iff_ne]; omega
    have t10 : (t.kind == 10) = true := by rw [beq_iff_eq]; exact hk
    clear hk
    go_wp2_with fail
    refine (wlit1 _ b _ 109 5 _ HS.out.at' (by omega) (by first | omega | (simp [beN_len, atomE_len]; done) | (simp [beN_len, atomE_len]; omega))).mono ?_
    rintro e w10 ⟨rfl, g1, g2, g3⟩
    have HS := Lib.hid (HS.out.next g1 g2 g3)
    clear g1 g2 g3 c0 c1 c2 c3 c4 c5 c6 c7 c8 hlx
    obtain ⟨c0, c1, c2, c3, c4, c5, c6, c7, c8, cz⟩ := term_cells HS.out.box
    have hlx := lt_of_row HS.out.box
    clear cz
    go_wp2_with fail
    refine (wnumber_wt _ b _ (t.bytes.size : Int) 4 _ HS.out.at' (by unfold I64; omega) (by omega) (by first | omega | (simp [beN_len, atomE_len]; done) | (simp [beN_len, atomE_len]; omega))).mono ?_
    rintro e w11 ⟨rfl, g1, g2, g3⟩
    have HS := Lib.hid (HS.out.next g1 g2 g3)
    clear g1 g2 g3 c0 c1 c2 c3 c4 c5 c6 c7 c8 hlx
    obtain ⟨c0, c1, c2, c3, c4, c5, c6, c7, c8, cz⟩ := term_cells HS.out.box
    have hlx := lt_of_row HS.out.box
    clear cz
    go_wp2_with fail
    first | go_region_held3 (fun w' => w'.cell? ⟨X, 7, none⟩ = some (.string t.bytes)) (first | exact c79 | exact c7)
     ((go_at_call 116; refine (writeS_wt _ b _ t.bytes _ (HS.out.at'.below (Below.refl _ _).drew) (by first | omega | (simp [beN_len]; omega))).mono ?_; rintro e w9 ⟨rfl, g1, g2, g3⟩; have HS9 := Lib.hid ((HS.out.below (Below.refl _ _).drew).next g1 g2 g3); have c79 := (term_cells HS9.out.box).2.2.2.2.2.2.2.1)) | fail
    clear g1 g2 g3 c0 c1 c2 c3 c4 c5 c6 c7 c8 hlx c79
    go_wp2_with fail
    go_meet
    case rel =>
     have HQ := HS9.out
     try simp only [List.append_assoc] at HQ
     rw [HE.out]
     exact Lib.hid HQ
   ·have hrb : (t.bits % 8 == 0) = false := beq_eq_false_iff_ne.2 hr
    have HE : Hid (headE t = 77 :: (beN 4 t.bytes.size ++ (UInt8.ofNat (t.bits % 8).toNat :: t.bytes.data.toList))) := Lib.hid (by unfold headE; simp [hk, hr])
    have t1 : (t.kind == 1) = false := by rw [beq_eq_false_iff_ne]; omega
    have t2 : (t.kind == 2) = false := by rw [beq_eq_false_iff_ne]; omega
    have t7 : (t.kind == 7) = false := by rw [beq_eq_false_iff_ne]; omega
    have t8 : (t.kind == 8) = false := by rw [beq_eq_false_iff_ne]; omega
    have t9 : (t.kind == 9) = false := by rw [beq_eq_false_iff_ne]; omega
    have t10 : (t.kind == 10) = true := by rw [beq_iff_eq]; exact hk
    clear hk
    go_wp2_with fail
    refine (wlit1 _ b _ 77 5 _ HS.out.at' (by omega) (by first | omega | (simp [beN_len, atomE_len]; done) | (simp [beN_len, atomE_len]; omega))).mono ?_
    rintro e w10 ⟨rfl, g1, g2, g3⟩
    have HS := Lib.hid (HS.out.next g1 g2 g3)
    clear g1 g2 g3 c0 c1 c2 c3 c4 c5 c6 c7 c8 hlx
    obtain ⟨c0, c1, c2, c3, c4, c5, c6, c7, c8, cz⟩ := term_cells HS.out.box
    have hlx := lt_of_row HS.out.box
    clear cz
    go_wp2_with fail
    refine (wnumber_wt _ b _ (t.bytes.size : Int) 4 _ HS.out.at' (by unfold I64; omega) (by omega) (by first | omega | (simp [beN_len, atomE_len]; done) | (simp [beN_len, atomE_len]; omega))).mono ?_
    rintro e w11 ⟨rfl, g1, g2, g3⟩
    have HS := Lib.hid (HS.out.next g1 g2 g3)
    clear g1 g2 g3 c0 c1 c2 c3 c4 c5 c6 c7 c8 hlx
    obtain ⟨c0, c1, c2, c3, c4, c5, c6, c7, c8, cz⟩ := term_cells HS.out.box
    have hlx := lt_of_row HS.out.box
    clear cz
    go_wp2_with fail
    refine (wlit1 _ b _ (t.bits % 8) 5 _ HS.out.at' (by omega) (by first | omega | (simp [beN_len, atomE_len]; done) | (simp [beN_len, atomE_len]; omega))).mono ?_
    rintro e w12 ⟨rfl, g1, g2, g3⟩
    have HS := Lib.hid (HS.out.next g1 g2 g3)
    clear g1 g2 g3 c0 c1 c2 c3 c4 c5 c6 c7 c8 hlx
    obtain ⟨c0, c1, c2, c3, c4, c5, c6, c7, c8, cz⟩ := term_cells HS.out.box
    have hlx := lt_of_row HS.out.box
    clear cz
    go_wp2_with fail
    first | go_region_held3 (fun w' => w'.cell? ⟨X, 7, none⟩ = some (.string t.bytes)) (first | exact c79 | exact c7)
     ((go_at_call 116; refine (writeS_wt _ b _ t.bytes _ (HS.out.at'.below (Below.refl _ _).drew) (by first | omega | (simp [beN_len]; omega))).mono ?_; rintro e w9 ⟨rfl, g1, g2, g3⟩; have HS9 := Lib.hid ((HS.out.below (Below.refl _ _).drew).next g1 g2 g3); have c79 := (term_cells HS9.out.box).2.2.2.2.2.2.2.1)) | fail
    clear g1 g2 g3 c0 c1 c2 c3 c4 c5 c6 c7 c8 hlx c79
    go_wp2_with fail
    go_meet
    case rel =>
     have HQ := HS9.out
     try simp only [List.append_assoc] at HQ
     rw [HE.out]
     exact Lib.hid HQ
  by_cases hk : t.kind = 6
  ·have hn : nameB t.name = true := by unfold okK at hokK; simp [hk] at hokK; exact hokK.2
   have := nameB_max hn
   have HE : Hid (headE t = 88 :: (atomE t.name ++ (beN 4 t.int ++ (beN 4 0 ++ beN 4 t.gen)))) := Lib.hid (by unfold headE; simp [hk])
   have t1 : (t.kind == 1) = false := by rw [beq_eq_false_iff_ne]; omega
   have t2 : (t.kind == 2) = false := by rw [beq_eq_false_iff_ne]; omega
   have t7 : (t.kind == 7) = false := by rw [beq_eq_false_iff_ne]; omega
   have t8 : (t.kind == 8) = false := by rw [beq_eq_false_iff_ne]; omega
   have t9 : (t.kind == 9) = false := by rw [beq_eq_false_iff_ne]; omega
   have t10 : (t.kind == 10) = false := by rw [beq_eq_false_iff_ne]; omega
   have t6 : (t.kind == 6) = true := by rw [beq_iff_eq]; exact hk
   clear hk
   go_wp2_with fail
   refine (wlit1 _ b _ 88 5 _ HS.out.at' (by omega) (by first | omega | (simp [beN_len, atomE_len]; done) | (simp [beN_len, atomE_len]; omega))).mono ?_
   rintro e w10 ⟨rfl, g1, g2, g3⟩
   have HS := Lib.hid (HS.out.next g1 g2 g3)
   clear g1 g2 g3 c0 c1 c2 c3 c4 c5 c6 c7 c8 hlx
   obtain ⟨c0, c1, c2, c3, c4, c5, c6, c7, c8, cz⟩ := term_cells HS.out.box
   have hlx := lt_of_row HS.out.box
   clear cz
   go_wp2_with fail
   refine (watom_wt _ b _ t.name _ HS.out.at' (nameB_max hn) (by first | omega | (simp [beN_len, atomE_len]; done) | (simp [beN_len, atomE_len]; omega))).mono ?_
   rintro e w11 ⟨rfl, g1, g2, g3⟩
   have HS := Lib.hid (HS.out.next g1 g2 g3)
   clear g1 g2 g3 c0 c1 c2 c3 c4 c5 c6 c7 c8 hlx
   obtain ⟨c0, c1, c2, c3, c4, c5, c6, c7, c8, cz⟩ := term_cells HS.out.box
   have hlx := lt_of_row HS.out.box
   clear cz
   go_wp2_with fail
   refine (wnumber_wt _ b _ t.int 4 _ HS.out.at' ok1 (by omega) (by first | omega | (simp [beN_len, atomE_len]; done) | (simp [beN_len, atomE_len]; omega))).mono ?_
   rintro e w12 ⟨rfl, g1, g2, g3⟩
   have HS := Lib.hid (HS.out.next g1 g2 g3)
   clear g1 g2 g3 c0 c1 c2 c3 c4 c5 c6 c7 c8 hlx
   obtain ⟨c0, c1, c2, c3, c4, c5, c6, c7, c8, cz⟩ := term_cells HS.out.box
   have hlx := lt_of_row HS.out.box
   clear cz
   go_wp2_with fail
   refine (wnumber_wt _ b _ 0 4 _ HS.out.at' (by unfold I64; omega) (by omega) (by first | omega | (simp [beN_len, atomE_len]; done) | (simp [beN_len, atomE_len]; omega))).mono ?_
   rintro e w13 ⟨rfl, g1, g2, g3⟩
   have HS := Lib.hid (HS.out.next g1 g2 g3)
   clear g1 g2 g3 c0 c1 c2 c3 c4 c5 c6 c7 c8 hlx
   obtain ⟨c0, c1, c2, c3, c4, c5, c6, c7, c8, cz⟩ := term_cells HS.out.box
   have hlx := lt_of_row HS.out.box
   clear cz
   go_wp2_with fail
   refine (wnumber_wt _ b _ t.gen 4 _ HS.out.at' ok2 (by omega) (by first | omega | (simp [beN_len, atomE_len]; done) | (simp [beN_len, atomE_len]; omega))).mono ?_
   rintro e w14 ⟨rfl, g1, g2, g3⟩
   have HS := Lib.hid (HS.out.next g1 g2 g3)
   clear g1 g2 g3 c0 c1 c2 c3 c4 c5 c6 c7 c8 hlx
   go_wp2_with fail
   go_meet
   case rel =>
    have HQ := HS.out
    try simp only [List.append_assoc] at HQ
    rw [HE.out]
    exact Lib.hid HQ
  by_cases hk : t.kind = 3
  ·have hn : nameB t.name = true := by unfold okK at hokK; simp [hk] at hokK; exact hokK.2
   have := nameB_max hn
   have HE : Hid (headE t = 90 :: 0 :: 1 :: (atomE t.name ++ (beN 4 t.gen ++ beN 4 t.int))) := Lib.hid (by unfold headE; simp [hk])
   have t1 : (t.kind == 1) = false := by rw [beq_eq_false_iff_ne]; omega
   have t2 : (t.kind == 2) = false := by rw [beq_eq_false_iff_ne]; omega
   have t7 : (t.kind == 7) = false := by rw [beq_eq_false_iff_ne]; omega
   have t8 : (t.kind == 8) = false := by rw [beq_eq_false_iff_ne]; omega
   have t9 : (t.kind == 9) = false := by rw [beq_eq_false_iff_ne]; omega
   have t10 : (t.kind == 10) = false := by rw [beq_eq_false_iff_ne]; omega
   have t6 : (t.kind == 6) = false := by rw [beq_eq_false_iff_ne]; omega
   have t3 : (t.kind == 3) = true := by rw [beq_iff_eq]; exact hk
   clear hk
   go_wp2_with fail
   refine (wlit3 _ b _ 90 0 1 5 _ HS.out.at' (by omega) (by omega) (by omega) (by first | omega | (simp [beN_len, atomE_len]; done) | (simp [beN_len, atomE_len]; omega))).mono ?_
   rintro e w10 ⟨rfl, g1, g2, g3⟩
   have HS := Lib.hid (HS.out.next g1 g2 g3)
   clear g1 g2 g3 c0 c1 c2 c3 c4 c5 c6 c7 c8 hlx
   obtain ⟨c0, c1, c2, c3, c4, c5, c6, c7, c8, cz⟩ := term_cells HS.out.box
   have hlx := lt_of_row HS.out.box
   clear cz
   go_wp2_with fail
   refine (watom_wt _ b _ t.name _ HS.out.at' (nameB_max hn) (by first | omega | (simp [beN_len, atomE_len]; done) | (simp [beN_len, atomE_len]; omega))).mono ?_
   rintro e w11 ⟨rfl, g1, g2, g3⟩
   have HS := Lib.hid (HS.out.next g1 g2 g3)
   clear g1 g2 g3 c0 c1 c2 c3 c4 c5 c6 c7 c8 hlx
   obtain ⟨c0, c1, c2, c3, c4, c5, c6, c7, c8, cz⟩ := term_cells HS.out.box
   have hlx := lt_of_row HS.out.box
   clear cz
   go_wp2_with fail
   refine (wnumber_wt _ b _ t.gen 4 _ HS.out.at' ok2 (by omega) (by first | omega | (simp [beN_len, atomE_len]; done) | (simp [beN_len, atomE_len]; omega))).mono ?_
   rintro e w12 ⟨rfl, g1, g2, g3⟩
   have HS := Lib.hid (HS.out.next g1 g2 g3)
   clear g1 g2 g3 c0 c1 c2 c3 c4 c5 c6 c7 c8 hlx
   obtain ⟨c0, c1, c2, c3, c4, c5, c6, c7, c8, cz⟩ := term_cells HS.out.box
   have hlx := lt_of_row HS.out.box
   clear cz
   go_wp2_with fail
   refine (wnumber_wt _ b _ t.int 4 _ HS.out.at' ok1 (by omega) (by first | omega | (simp [beN_len, atomE_len]; done) | (simp [beN_len, atomE_len]; omega))).mono ?_
   rintro e w13 ⟨rfl, g1, g2, g3⟩
   have HS := Lib.hid (HS.out.next g1 g2 g3)
   clear g1 g2 g3 c0 c1 c2 c3 c4 c5 c6 c7 c8 hlx
   go_wp2_with fail
   go_meet
   case rel =>
    have HQ := HS.out
    try simp only [List.append_assoc] at HQ
    rw [HE.out]
    exact Lib.hid HQ
  by_cases hk : t.kind = 5
  ·have hn : nameB t.name = true ∧ nameB t.func = true := by unfold okK at hokK; simp [hk] at hokK; exact hokK.1
   have := nameB_max hn.1; have := nameB_max hn.2
   have HE : Hid (headE t = 113 :: (atomE t.name ++ (atomE t.func ++ intE t.arity))) := Lib.hid (by unfold headE; simp [hk])
   have t1 : (t.kind == 1) = false := by rw [beq_eq_false_iff_ne]; omega
   have t2 : (t.kind == 2) = false := by rw [beq_eq_false_iff_ne]; omega
   have t7 : (t.kind == 7) = false := by rw [beq_eq_false_iff_ne]; omega
   have t8 : (t.kind == 8) = false := by rw [beq_eq_false_iff_ne]; omega
   have t9 : (t.kind == 9) = false := by rw [beq_eq_false_iff_ne]; omega
   have t10 : (t.kind == 10) = false := by rw [beq_eq_false_iff_ne]; omega
   have t6 : (t.kind == 6) = false := by rw [beq_eq_false_iff_ne]; omega
   have t3 : (t.kind == 3) = false := by rw [beq_eq_false_iff_ne]; omega
   have t5 : (t.kind == 5) = true := by rw [beq_iff_eq]; exact hk
   clear hk
   go_wp2_with fail
   refine (wlit1 _ b _ 113 5 _ HS.out.at' (by omega) (by first | omega | (simp [beN_len, atomE_len]; done) | (simp [beN_len, atomE_len]; omega))).mono ?_
   rintro e w10 ⟨rfl, g1, g2, g3⟩
   have HS := Lib.hid (HS.out.next g1 g2 g3)
   clear g1 g2 g3 c0 c1 c2 c3 c4 c5 c6 c7 c8 hlx
   obtain ⟨c0, c1, c2, c3, c4, c5, c6, c7, c8, cz⟩ := term_cells HS.out.box
   have hlx := lt_of_row HS.out.box
   clear cz
   go_wp2_with fail
   refine (watom_wt _ b _ t.name _ HS.out.at' (nameB_max hn.1) (by first | omega | (simp [beN_len, atomE_len]; done) | (simp [beN_len, atomE_len]; omega))).mono ?_
   rintro e w11 ⟨rfl, g1, g2, g3⟩
   have HS := Lib.hid (HS.out.next g1 g2 g3)
   clear g1 g2 g3 c0 c1 c2 c3 c4 c5 c6 c7 c8 hlx
   obtain ⟨c0, c1, c2, c3, c4, c5, c6, c7, c8, cz⟩ := term_cells HS.out.box
   have hlx := lt_of_row HS.out.box
   clear cz
   go_wp2_with fail
   refine (watom_wt _ b _ t.func _ HS.out.at' (nameB_max hn.2) (by first | omega | (simp [beN_len, atomE_len]; done) | (simp [beN_len, atomE_len]; omega))).mono ?_
   rintro e w12 ⟨rfl, g1, g2, g3⟩
   have HS := Lib.hid (HS.out.next g1 g2 g3)
   clear g1 g2 g3 c0 c1 c2 c3 c4 c5 c6 c7 c8 hlx
   obtain ⟨c0, c1, c2, c3, c4, c5, c6, c7, c8, cz⟩ := term_cells HS.out.box
   have hlx := lt_of_row HS.out.box
   clear cz
   go_wp2_with fail
   refine (winteger_wt _ b _ t.arity _ HS.out.at' ok5 (by first | omega | (simp [beN_len, atomE_len]; done) | (simp [beN_len, atomE_len]; omega))).mono ?_
   rintro e w13 ⟨rfl, g1, g2, g3⟩
   have HS := Lib.hid (HS.out.next g1 g2 g3)
   clear g1 g2 g3 c0 c1 c2 c3 c4 c5 c6 c7 c8 hlx
   go_wp2_with fail
   go_meet
   case rel =>
    have HQ := HS.out
    try simp only [List.append_assoc] at HQ
    rw [HE.out]
    exact Lib.hid HQ
  by_cases hk : t.kind = 4
  ·have hn : wi t.arity 0 16 = true ∧ nameB t.name = true ∧ t.items.length ≤ 200 := by unfold okK at hokK; simp [hk] at hokK; exact ⟨hokK.1.2, hokK.1.1.2, hokK.2⟩
   have := nameB_max hn.2.1
   have ha := wi_of hn.1
   obtain ⟨ha1, ha2⟩ := ha
   have hi2 := hn.2.2
   have HE : Hid (headE t = 112 :: UInt8.ofNat t.arity.toNat :: (beN 2 t.int ++ (UInt8.ofNat t.items.length :: (atomE t.name ++ beN 4 t.gen)))) := Lib.hid (by unfold headE; simp [hk])
   have t1 : (t.kind == 1) = false := by rw [beq_eq_false_iff_ne]; omega
   have t2 : (t.kind == 2) = false := by rw [beq_eq_false_iff_ne]; omega
   have t7 : (t.kind == 7) = false := by rw [beq_eq_false_iff_ne]; omega
   have t8 : (t.kind == 8) = false := by rw [beq_eq_false_iff_ne]; omega
   have t9 : (t.kind == 9) = false := by rw [beq_eq_false_iff_ne]; omega
   have t10 : (t.kind == 10) = false := by rw [beq_eq_false_iff_ne]; omega
   have t6 : (t.kind == 6) = false := by rw [beq_eq_false_iff_ne]; omega
   have t3 : (t.kind == 3) = false := by rw [beq_eq_false_iff_ne]; omega
   have t5 : (t.kind == 5) = false := by rw [beq_eq_false_iff_ne]; omega
   have t4 : (t.kind == 4) = true := by rw [beq_iff_eq]; exact hk
   clear hk
   go_wp2_with fail
   refine (wlit2 _ b _ 112 t.arity 5 _ HS.out.at' (by omega) (by omega) (by first | omega | (simp [beN_len, atomE_len]; done) | (simp [beN_len, atomE_len]; omega))).mono ?_
   rintro e w10 ⟨rfl, g1, g2, g3⟩
   have HS := Lib.hid (HS.out.next g1 g2 g3)
   clear g1 g2 g3 c0 c1 c2 c3 c4 c5 c6 c7 c8 hlx
   obtain ⟨c0, c1, c2, c3, c4, c5, c6, c7, c8, cz⟩ := term_cells HS.out.box
   have hlx := lt_of_row HS.out.box
   clear cz
   go_wp2_with fail
   refine (wnumber_wt _ b _ t.int 2 _ HS.out.at' ok1 (by omega) (by first | omega | (simp [beN_len, atomE_len]; done) | (simp [beN_len, atomE_len]; omega))).mono ?_
   rintro e w11 ⟨rfl, g1, g2, g3⟩
   have HS := Lib.hid (HS.out.next g1 g2 g3)
   clear g1 g2 g3 c0 c1 c2 c3 c4 c5 c6 c7 c8 hlx
   obtain ⟨c0, c1, c2, c3, c4, c5, c6, c7, c8, cz⟩ := term_cells HS.out.box
   have hlx := lt_of_row HS.out.box
   clear cz
   go_wp2_with fail
   refine (wlit1 _ b _ (t.items.length : Int) 5 _ HS.out.at' (by omega) (by first | omega | (simp [beN_len, atomE_len]; done) | (simp [beN_len, atomE_len]; omega))).mono ?_
   rintro e w12 ⟨rfl, g1, g2, g3⟩
   have HS := Lib.hid (HS.out.next g1 g2 g3)
   clear g1 g2 g3 c0 c1 c2 c3 c4 c5 c6 c7 c8 hlx
   obtain ⟨c0, c1, c2, c3, c4, c5, c6, c7, c8, cz⟩ := term_cells HS.out.box
   have hlx := lt_of_row HS.out.box
   clear cz
   go_wp2_with fail
   refine (watom_wt _ b _ t.name _ HS.out.at' (nameB_max hn.2.1) (by first | omega | (simp [beN_len, atomE_len]; done) | (simp [beN_len, atomE_len]; omega))).mono ?_
   rintro e w13 ⟨rfl, g1, g2, g3⟩
   have HS := Lib.hid (HS.out.next g1 g2 g3)
   clear g1 g2 g3 c0 c1 c2 c3 c4 c5 c6 c7 c8 hlx
   obtain ⟨c0, c1, c2, c3, c4, c5, c6, c7, c8, cz⟩ := term_cells HS.out.box
   have hlx := lt_of_row HS.out.box
   clear cz
   go_wp2_with fail
   refine (wnumber_wt _ b _ t.gen 4 _ HS.out.at' ok2 (by omega) (by first | omega | (simp [beN_len, atomE_len]; done) | (simp [beN_len, atomE_len]; omega))).mono ?_
   rintro e w14 ⟨rfl, g1, g2, g3⟩
   have HS := Lib.hid (HS.out.next g1 g2 g3)
   clear g1 g2 g3 c0 c1 c2 c3 c4 c5 c6 c7 c8 hlx
   go_wp2_with fail
   go_meet
   case rel =>
    have HQ := HS.out
    try simp only [List.append_assoc] at HQ
    rw [HE.out]
    exact Lib.hid HQ
  exact absurd hokK (by rw [okK_none (by omega)]; decide)
 case rest =>
  rename_i wx
  have HS := hcut
  clear hcut
  clear c0 c1 c2 c3 c4 c5 c6 c7 c8 hlx
  obtain ⟨c0, c1, c2, c3, c4, c5, c6, c7, c8, cz⟩ := term_cells HS.out.box
  have hlx := lt_of_row HS.out.box
  clear cz hokK hhl
  go_wp2_with fail
  go_loopw [5, 163] (fun _ iv wr => ∃ (k : Nat) (l' : List UInt8), k ≤ t.items.length ∧ iv = .int .i64 k ∧ Hid (T = l' ++ (t.items.drop k).flatMap (codeE f)) ∧ Hid (Wst w0.heap.size b X t so c w l' wr)) (fun _ iv _ => t.items.length - (intOf iv).toNat)
  case atStart => exact ⟨0, _, Nat.zero_le _, rfl, HT, HS⟩
  case round =>
   obtain ⟨k, l', hk, rfl, HV, HW⟩ := hrel
   rename World => wr
   by_cases hlt : k < t.items.length
   ·obtain ⟨b2, off, ai, ci, hao, hb2, q0, q1, q2, q3, q4, q5, q6, q7, q8, hcall⟩ := HREC.out k wr hlt (HB0.out.trans (HW.out.bel.mono (Nat.le_refl _)))
    subst hao
    have HV2 : Hid (T = (l' ++ codeE f t.items[k]) ++ (t.items.drop (k + 1)).flatMap (codeE f)) := Lib.hid (by rw [HV.out, List.drop_eq_getElem_cons hlt, List.flatMap_cons, List.append_assoc])
    have hlen2 : l'.length + (codeE f t.items[k]).length ≤ 17592186044416 := by
     have h1 := HTL.out
     rw [HV2.out, List.length_append, List.length_append] at h1
     omega
    have hbw : Below wr.heap.size wr (wr.alloc (.cells #[.int .i64 t.items[k].kind, .int .i64 t.items[k].int, .int .i64 t.items[k].gen, .string t.items[k].name, .string t.items[k].func, .int .i64 t.items[k].arity, .slice ai t.items[k].items.length ci, .string t.items[k].bytes, .int .i64 t.items[k].bits] 78)) := (Below.refl _ _).alloc (Nat.le_refl _) _
    have HW1 := Lib.hid (HW.out.below hbw)
    have hcl := hcall l' _ (HB0.out.trans (HW1.out.bel.mono (Nat.le_refl _))) HW1.out.at' hlen2
    have HCL := Lib.hid hcl
    clear hcl hcall hbw hlen2
    generalize codeE f t.items[k] = cx at *
    generalize t.items[k] = u at *
    go_wp2_with fail
    refine HCL.out.mono ?_
    rintro e w5 ⟨rfl, g1, g2, g3⟩
    have HW2 := Lib.hid (HW1.out.next g1 g2 g3)
    clear g1 g2 g3
    go_wp2_with fail
    go_roundw
    case rel => exact ⟨k + 1, _, by omega, by go_num, HV2, HW2⟩
    case measure => simp [intOf]; omega
   ·have HV2 : Hid (T = l') := Lib.hid (by rw [HV.out, List.drop_eq_nil_of_le (by omega)]; simp)
    go_wp2_with fail
    go_end0
    exact ⟨rfl, by rw [HV2.out]; exact HW.out.at', HW.out.bel, HW.out.st⟩
theorem wterm_rec (f : Nat) : WTermP f := by
 induction f with
 | zero => exact wterm_step 0 (fun f' h => absurd h (by omega))
 | succ f ih => exact wterm_step (f + 1) (fun f' h => by have : f' = f := by omega
                                                         subst this; exact ih)
end Go.Proofs.YtghgbikmlbildaaGreatDoor
