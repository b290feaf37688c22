/-
  The reference's Whole, Formed, Check, Valid: the walks (printed by gen_rterm3.py).
-/
import Derived.Test.YthmpobimmbmddaaGreatDoorB11
import Derived.Test.YthmpobimmbmddaaGreatDoorB13
namespace Go.Proofs.YthmpobimmbmddaaGreatDoor
open Go.RowKit
set_option linter.unusedVariables false
set_option linter.unusedSimpArgs false

theorem own_cap {t : Tm} (h : okK t = true) : 0 ≤ ownSize t ∧ ownSize t ≤ 300 + t.items.length := by
  unfold ownSize
  by_cases h9 : t.kind = 9
  · rw [if_pos h9]
    unfold okK at h
    rw [if_neg (by omega), if_neg (by omega), if_neg (by omega), if_neg (by omega), if_neg (by omega), if_neg (by omega), if_neg (by omega), if_pos h9, Bool.and_eq_true, decide_eq_true_eq] at h
    omega
  · rw [if_neg h9]
    by_cases h10 : t.kind = 10
    · rw [if_pos h10]
      unfold okK at h
      rw [if_neg (by omega), if_neg (by omega), if_neg (by omega), if_neg (by omega), if_neg (by omega), if_neg (by omega), if_neg (by omega), if_neg h9, if_pos h10] at h
      unfold bitsB bitsV at h
      rw [Bool.and_eq_true, Bool.and_eq_true] at h
      have := h.1.1
      unfold wi at this
      rw [Bool.and_eq_true, decide_eq_true_eq, decide_eq_true_eq] at this
      omega
    · rw [if_neg h10]; omega
theorem whole_list {f : Nat} (ih : ∀ t, formF f t = true → 0 ≤ wholeF f t ∧ wholeF f t ≤ (capF f t : Int)) : ∀ (l : List Tm), l.all (formF f) = true → 0 ≤ sumI (l.map (wholeF f)) ∧ sumI (l.map (wholeF f)) ≤ (sumN (l.map (capF f)) : Int)
  | [], _ => ⟨Int.le_refl _, Int.le_refl _⟩
  | t :: l, h => by
    rw [List.all_cons, Bool.and_eq_true] at h
    have h1 := ih t h.1
    have h2 := whole_list ih l h.2
    show 0 ≤ wholeF f t + sumI (l.map (wholeF f)) ∧ wholeF f t + sumI (l.map (wholeF f)) ≤ ((capF f t + sumN (l.map (capF f)) : Nat) : Int)
    omega
theorem whole_cap : ∀ (f : Nat) (t : Tm), formF f t = true → 0 ≤ wholeF f t ∧ wholeF f t ≤ (capF f t : Int)
  | 0, _, h => by cases h
  | f + 1, t, h => by
    unfold formF at h
    rw [Bool.and_eq_true] at h
    have hl := h.1
    unfold locB at hl
    rw [Bool.and_eq_true] at hl
    have h1 := own_cap hl.1
    have h2 := whole_list (whole_cap f) t.items h.2
    show 0 ≤ ownSize t + sumI (t.items.map (wholeF f)) ∧ ownSize t + sumI (t.items.map (wholeF f)) ≤ ((300 + t.items.length + sumN (t.items.map (capF f)) : Nat) : Int)
    omega
theorem all_drop3 {f : Nat} {l : List Tm} (h : l.all (formF f) = true) (k : Nat) : (l.drop k).all (formF f) = true := by
  rw [List.all_eq_true] at h ⊢
  exact fun x hx => h x (List.mem_of_mem_drop hx)
theorem tbox_new (w : World) (t : Tm) (so : Option Addr) (c : Nat) : (w.alloc (.cells #[.int .i64 t.kind, .int .i64 t.int, .int .i64 t.gen, .string t.name, .string t.func, .int .i64 t.arity, .slice so t.items.length c, .string t.bytes, .int .i64 t.bits] 28)).heap[w.heap.size]? = some (.cells #[.int .i64 t.kind, .int .i64 t.int, .int .i64 t.gen, .string t.name, .string t.func, .int .i64 t.arity, .slice so t.items.length c, .string t.bytes, .int .i64 t.bits] 28 (0, 0)) := heap_alloc_new _ _
theorem sumN_mem' : ∀ (l : List Nat) (x : Nat), x ∈ l → x ≤ sumN l
  | [], _, h => by cases h
  | y :: l, x, h => by
    show x ≤ y + sumN l
    rcases List.mem_cons.1 h with rfl | h
    · omega
    · have := sumN_mem' l x h; omega
/-- Whole on terms whose items are of a depth. -/
def WholeP (f : Nat) : Prop := ∀ (t : Tm) (so : Option Addr) (c : Nat) (w : World), SlAt w 9 (TmAt w f) so t.items → t.Ok → formF (f + 1) t = true → (capF (f + 1) t : Int) ≤ 1152921504606846976 →
  Calls Tryz.prog 63 #[.agg #[.int .i64 t.kind, .int .i64 t.int, .int .i64 t.gen, .string t.name, .string t.func, .int .i64 t.arity, .slice so t.items.length c, .string t.bytes, .int .i64 t.bits]] w fun e w' => e = .returned (.int .i64 (wholeF (f + 1) t)) ∧ Below w.heap.size w w'
/-- What a round of Whole wants of the items. -/
def RecAt (f : Nat) (t : Tm) (so : Option Addr) (Wa : World) (TV : Int) : Prop := ∀ (k : Nat) (s : Int) (wr : World) (hlt : k < t.items.length), Below Wa.heap.size Wa wr → TV = s + sumI ((t.items.drop k).map (wholeF f)) →
  ∃ b2 off ai ci, so = some ⟨b2, off, none⟩ ∧ b2 < wr.heap.size ∧ wr.cell? ⟨b2, off + k * 9, none⟩ = some (.int .i64 t.items[k].kind) ∧ wr.cell? ⟨b2, off + k * 9 + 1, none⟩ = some (.int .i64 t.items[k].int) ∧
      wr.cell? ⟨b2, off + k * 9 + 2, none⟩ = some (.int .i64 t.items[k].gen) ∧ wr.cell? ⟨b2, off + k * 9 + 3, none⟩ = some (.string t.items[k].name) ∧ wr.cell? ⟨b2, off + k * 9 + 4, none⟩ = some (.string t.items[k].func) ∧
      wr.cell? ⟨b2, off + k * 9 + 5, none⟩ = some (.int .i64 t.items[k].arity) ∧ wr.cell? ⟨b2, off + k * 9 + 6, none⟩ = some (.slice ai t.items[k].items.length ci) ∧ wr.cell? ⟨b2, off + k * 9 + 7, none⟩ = some (.string t.items[k].bytes) ∧
      wr.cell? ⟨b2, off + k * 9 + 8, none⟩ = some (.int .i64 t.items[k].bits) ∧
      (Calls Tryz.prog 63 #[.agg #[.int .i64 t.items[k].kind, .int .i64 t.items[k].int, .int .i64 t.items[k].gen, .string t.items[k].name, .string t.items[k].func, .int .i64 t.items[k].arity, .slice ai t.items[k].items.length ci, .string t.items[k].bytes, .int .i64 t.items[k].bits]] wr fun e w' => e = .returned (.int .i64 (wholeF f t.items[k])) ∧ Below wr.heap.size wr w') ∧ TV = (s + wholeF f t.items[k]) + sumI ((t.items.drop (k + 1)).map (wholeF f)) ∧ 0 ≤ wholeF f t.items[k] ∧ (s + wholeF f t.items[k] ≤ 1152921504606846976)
def RecP (f : Nat) (t : Tm) (so : Option Addr) (w : World) : Prop := ∀ (Wa : World), Below w.heap.size w Wa → RecAt f t so Wa (wholeF (f + 1) t)
set_option maxRecDepth 100000 in
set_option maxHeartbeats 8000000 in
theorem whole_list' (f : Nat) (t : Tm) (so : Option Addr) (c : Nat) (w : World) (hsl : SlAt w 9 (TmAt w f) so t.items) (hok : t.Ok) (hform : formF (f + 1) t = true) (hcap : (capF (f + 1) t : Int) ≤ 1152921504606846976) (hrec : RecP f t so w) (hk : t.kind = 9) :
    Calls Tryz.prog 63 #[.agg #[.int .i64 t.kind, .int .i64 t.int, .int .i64 t.gen, .string t.name, .string t.func, .int .i64 t.arity, .slice so t.items.length c, .string t.bytes, .int .i64 t.bits]] w fun e w' => e = .returned (.int .i64 (wholeF (f + 1) t)) ∧ Below w.heap.size w w' := by
  have hwc := whole_cap (f + 1) t hform
  have HTV0 : Hid (wholeF (f + 1) t = ownSize t + sumI ((t.items.drop 0).map (wholeF f))) := Lib.hid rfl
  have hown : 0 ≤ ownSize t ∧ ownSize t ≤ 300 + t.items.length := by
    unfold formF at hform
    rw [Bool.and_eq_true] at hform
    have := hform.1
    unfold locB at this
    rw [Bool.and_eq_true] at this
    exact own_cap this.1
  have hil : t.items.length ≤ 1152921504606846976 := by
    have : 300 + t.items.length ≤ capF (f + 1) t := by show 300 + t.items.length ≤ 300 + t.items.length + sumN (t.items.map (capF f)); omega
    omega
  have hownc : ownSize t ≤ 1152921504606846976 := by
    have : ((300 + t.items.length + sumN (t.items.map (capF f)) : Nat) : Int) ≤ 1152921504606846976 := hcap
    omega
  have HOWN : Hid (ownSize t = (t.items.length : Int) - 1) := Lib.hid (by unfold ownSize; rw [if_pos hk])
  have HKD := Lib.hid hk
  clear hk
  have HTV : Hid (wholeF (f + 1) t = ((t.items.length : Int) - 1) + sumI ((t.items.drop 0).map (wholeF f))) := Lib.hid (by rw [HTV0.out, HOWN.out])
  have HSL := Lib.hid hsl
  have HREC0 := Lib.hid hrec
  rw [HOWN.out] at hown hownc
  obtain ⟨hown0, hown1⟩ := hown
  clear hsl hrec hform hcap hwc HTV0
  unfold RecP at HREC0
  generalize wholeF (f + 1) t = TV at *
  go_enter Tryz.func63, Tryz.ntmps63
  go_upto_region 2 with fail
  have hbx := tbox_new w t so c
  have hba : Below w.heap.size w (w.alloc (.cells #[.int .i64 t.kind, .int .i64 t.int, .int .i64 t.gen, .string t.name, .string t.func, .int .i64 t.arity, .slice so t.items.length c, .string t.bytes, .int .i64 t.bits] 28)) := (Below.refl _ _).alloc (Nat.le_refl _) _
  generalize w.alloc (.cells #[.int .i64 t.kind, .int .i64 t.int, .int .i64 t.gen, .string t.name, .string t.func, .int .i64 t.arity, .slice so t.items.length c, .string t.bytes, .int .i64 t.bits] 28) = Wa at *
  have HS : Hid (SlAt Wa 9 (TmAt Wa f) so t.items) := Lib.hid (SlAt.tms HSL.out hba)
  generalize hBz : w.heap.size = B at *
  have HBZ := Lib.hid hBz; have HBA := Lib.hid hba; have HBX := Lib.hid hbx
  clear hBz hba
  have hlb := lt_of_row hbx
  have c0 : Wa.cell? ⟨B, 0, none⟩ = some (.int .i64 t.kind) := by rw [cell_of_row _ _ _ _ _ _ hbx]; rfl
  rw [HKD.out] at c0
  have c6 : Wa.cell? ⟨B, 6, none⟩ = some (.slice so t.items.length c) := by rw [cell_of_row _ _ _ _ _ _ hbx]; rfl
  have c8 : Wa.cell? ⟨B, 8, none⟩ = some (.int .i64 t.bits) := by rw [cell_of_row _ _ _ _ _ _ hbx]; rfl
  clear hbx
  have HFIN : Hid (∀ wx, Below Wa.heap.size Wa wx → Below B w wx) := Lib.hid (fun wx hh => HBA.out.trans (hh.mono (by have := HBA.out.size; have := HBZ.out; omega)))
  have HREC : Hid (RecAt f t so Wa TV) := Lib.hid (HREC0.out Wa HBA.out)
  go_wp2_with fail
  go_loopw [3, 4] (fun nv iv wr => ∃ (k : Nat) (s : Int), k ≤ t.items.length ∧ iv = .int .i64 k ∧ nv = .int .i64 s ∧ Hid (TV = s + sumI ((t.items.drop k).map (wholeF f))) ∧ 0 ≤ s ∧ s ≤ 1152921504606846976 ∧ Hid (Below Wa.heap.size Wa wr)) (fun _ iv _ => t.items.length - (intOf iv).toNat)
  case atStart => exact ⟨0, ((t.items.length : Int) - 1), Nat.zero_le _, rfl, by go_num, HTV, by omega, by omega, Lib.hid (Below.refl _ _)⟩
  case round =>
    obtain ⟨k, s, hk, rfl, rfl, HK, hs0, hs1, HBk⟩ := hrel
    rename World => wr
    clear c0 c6 c8
    have hb1 := (HBk.out.block B (lt_of_row HBX.out)).trans HBX.out
    have hlb1 := lt_of_row hb1
    have c6 : wr.cell? ⟨B, 6, none⟩ = some (.slice so t.items.length c) := by rw [cell_of_row _ _ _ _ _ _ hb1]; rfl
    clear hb1
    by_cases hlt : k < t.items.length
    · obtain ⟨b2, off, ai, ci, hao, hb2, q0, q1, q2, q3, q4, q5, q6, q7, q8, hcall, hsd, hw0, hws⟩ := HREC.out k s wr hlt HBk.out HK.out
      subst hao
      have HCL := Lib.hid hcall; have HSD := Lib.hid hsd
      clear hcall hsd
      generalize t.items[k] = u at *
      generalize wholeF f u = wu at *
      go_wp2_with fail
      refine HCL.out.mono ?_
      rintro e9 w5 ⟨rfl, hb5⟩
      go_wp2_with fail
      go_roundw
      case rel => exact ⟨k + 1, s + wu, by omega, by go_num, rfl, HSD, by omega, by omega, Lib.hid (below_next HBk.out hb5)⟩
      case measure => simp [intOf]; omega
    · have E : Hid (TV = s) := Lib.hid (by rw [HK.out, List.drop_eq_nil_of_le (by omega)]; show s + 0 = s; omega)
      go_wp2_with fail
      go_ret
      exact ⟨ret1 E.out.symm, by rw [HBZ.out]; exact HFIN.out _ HBk.out⟩
set_option maxRecDepth 100000 in
set_option maxHeartbeats 8000000 in
theorem whole_bits (f : Nat) (t : Tm) (so : Option Addr) (c : Nat) (w : World) (hsl : SlAt w 9 (TmAt w f) so t.items) (hok : t.Ok) (hform : formF (f + 1) t = true) (hcap : (capF (f + 1) t : Int) ≤ 1152921504606846976) (hrec : RecP f t so w) (hk : t.kind = 10) :
    Calls Tryz.prog 63 #[.agg #[.int .i64 t.kind, .int .i64 t.int, .int .i64 t.gen, .string t.name, .string t.func, .int .i64 t.arity, .slice so t.items.length c, .string t.bytes, .int .i64 t.bits]] w fun e w' => e = .returned (.int .i64 (wholeF (f + 1) t)) ∧ Below w.heap.size w w' := by
  have hwc := whole_cap (f + 1) t hform
  have HTV0 : Hid (wholeF (f + 1) t = ownSize t + sumI ((t.items.drop 0).map (wholeF f))) := Lib.hid rfl
  have hown : 0 ≤ ownSize t ∧ ownSize t ≤ 300 + t.items.length := by
    unfold formF at hform
    rw [Bool.and_eq_true] at hform
    have := hform.1
    unfold locB at this
    rw [Bool.and_eq_true] at this
    exact own_cap this.1
  have hil : t.items.length ≤ 1152921504606846976 := by
    have : 300 + t.items.length ≤ capF (f + 1) t := by show 300 + t.items.length ≤ 300 + t.items.length + sumN (t.items.map (capF f)); omega
    omega
  have hownc : ownSize t ≤ 1152921504606846976 := by
    have : ((300 + t.items.length + sumN (t.items.map (capF f)) : Nat) : Int) ≤ 1152921504606846976 := hcap
    omega
  have HOWN : Hid (ownSize t = 1 + (t.bits + 63) / 64) := Lib.hid (by unfold ownSize; rw [if_neg (by omega), if_pos hk])
  have hbt : 0 ≤ t.bits ∧ t.bits ≤ 16384 := by
    unfold formF at hform
    rw [Bool.and_eq_true] at hform
    have h := hform.1
    unfold locB at h
    rw [Bool.and_eq_true] at h
    have h := h.1
    unfold okK at h
    rw [if_neg (by omega), if_neg (by omega), if_neg (by omega), if_neg (by omega), if_neg (by omega), if_neg (by omega), if_neg (by omega), if_neg (by omega), if_pos hk] at h
    unfold bitsB bitsV at h
    rw [Bool.and_eq_true, Bool.and_eq_true] at h
    have := h.1.1
    unfold wi at this
    rw [Bool.and_eq_true, decide_eq_true_eq, decide_eq_true_eq] at this
    exact this
  obtain ⟨hbt0, hbt1⟩ := hbt
  have HKD := Lib.hid hk
  clear hk
  have HTV : Hid (wholeF (f + 1) t = (1 + (t.bits + 63) / 64) + sumI ((t.items.drop 0).map (wholeF f))) := Lib.hid (by rw [HTV0.out, HOWN.out])
  have HSL := Lib.hid hsl
  have HREC0 := Lib.hid hrec
  rw [HOWN.out] at hown hownc
  obtain ⟨hown0, hown1⟩ := hown
  clear hsl hrec hform hcap hwc HTV0
  unfold RecP at HREC0
  generalize wholeF (f + 1) t = TV at *
  go_enter Tryz.func63, Tryz.ntmps63
  go_upto_region 2 with fail
  have hbx := tbox_new w t so c
  have hba : Below w.heap.size w (w.alloc (.cells #[.int .i64 t.kind, .int .i64 t.int, .int .i64 t.gen, .string t.name, .string t.func, .int .i64 t.arity, .slice so t.items.length c, .string t.bytes, .int .i64 t.bits] 28)) := (Below.refl _ _).alloc (Nat.le_refl _) _
  generalize w.alloc (.cells #[.int .i64 t.kind, .int .i64 t.int, .int .i64 t.gen, .string t.name, .string t.func, .int .i64 t.arity, .slice so t.items.length c, .string t.bytes, .int .i64 t.bits] 28) = Wa at *
  have HS : Hid (SlAt Wa 9 (TmAt Wa f) so t.items) := Lib.hid (SlAt.tms HSL.out hba)
  generalize hBz : w.heap.size = B at *
  have HBZ := Lib.hid hBz; have HBA := Lib.hid hba; have HBX := Lib.hid hbx
  clear hBz hba
  have hlb := lt_of_row hbx
  have c0 : Wa.cell? ⟨B, 0, none⟩ = some (.int .i64 t.kind) := by rw [cell_of_row _ _ _ _ _ _ hbx]; rfl
  rw [HKD.out] at c0
  have c6 : Wa.cell? ⟨B, 6, none⟩ = some (.slice so t.items.length c) := by rw [cell_of_row _ _ _ _ _ _ hbx]; rfl
  have c8 : Wa.cell? ⟨B, 8, none⟩ = some (.int .i64 t.bits) := by rw [cell_of_row _ _ _ _ _ _ hbx]; rfl
  clear hbx
  have HFIN : Hid (∀ wx, Below Wa.heap.size Wa wx → Below B w wx) := Lib.hid (fun wx hh => HBA.out.trans (hh.mono (by have := HBA.out.size; have := HBZ.out; omega)))
  have HREC : Hid (RecAt f t so Wa TV) := Lib.hid (HREC0.out Wa HBA.out)
  go_wp2_with fail
  go_loopw [3, 4] (fun nv iv wr => ∃ (k : Nat) (s : Int), k ≤ t.items.length ∧ iv = .int .i64 k ∧ nv = .int .i64 s ∧ Hid (TV = s + sumI ((t.items.drop k).map (wholeF f))) ∧ 0 ≤ s ∧ s ≤ 1152921504606846976 ∧ Hid (Below Wa.heap.size Wa wr)) (fun _ iv _ => t.items.length - (intOf iv).toNat)
  case atStart => exact ⟨0, (1 + (t.bits + 63) / 64), Nat.zero_le _, rfl, by go_num, HTV, by omega, by omega, Lib.hid (Below.refl _ _)⟩
  case round =>
    obtain ⟨k, s, hk, rfl, rfl, HK, hs0, hs1, HBk⟩ := hrel
    rename World => wr
    clear c0 c6 c8
    have hb1 := (HBk.out.block B (lt_of_row HBX.out)).trans HBX.out
    have hlb1 := lt_of_row hb1
    have c6 : wr.cell? ⟨B, 6, none⟩ = some (.slice so t.items.length c) := by rw [cell_of_row _ _ _ _ _ _ hb1]; rfl
    clear hb1
    by_cases hlt : k < t.items.length
    · obtain ⟨b2, off, ai, ci, hao, hb2, q0, q1, q2, q3, q4, q5, q6, q7, q8, hcall, hsd, hw0, hws⟩ := HREC.out k s wr hlt HBk.out HK.out
      subst hao
      have HCL := Lib.hid hcall; have HSD := Lib.hid hsd
      clear hcall hsd
      generalize t.items[k] = u at *
      generalize wholeF f u = wu at *
      go_wp2_with fail
      refine HCL.out.mono ?_
      rintro e9 w5 ⟨rfl, hb5⟩
      go_wp2_with fail
      go_roundw
      case rel => exact ⟨k + 1, s + wu, by omega, by go_num, rfl, HSD, by omega, by omega, Lib.hid (below_next HBk.out hb5)⟩
      case measure => simp [intOf]; omega
    · have E : Hid (TV = s) := Lib.hid (by rw [HK.out, List.drop_eq_nil_of_le (by omega)]; show s + 0 = s; omega)
      go_wp2_with fail
      go_ret
      exact ⟨ret1 E.out.symm, by rw [HBZ.out]; exact HFIN.out _ HBk.out⟩
set_option maxRecDepth 100000 in
set_option maxHeartbeats 8000000 in
theorem whole_one (f : Nat) (t : Tm) (so : Option Addr) (c : Nat) (w : World) (hsl : SlAt w 9 (TmAt w f) so t.items) (hok : t.Ok) (hform : formF (f + 1) t = true) (hcap : (capF (f + 1) t : Int) ≤ 1152921504606846976) (hrec : RecP f t so w) (hk9 : ¬ t.kind = 9) (hk10 : ¬ t.kind = 10) :
    Calls Tryz.prog 63 #[.agg #[.int .i64 t.kind, .int .i64 t.int, .int .i64 t.gen, .string t.name, .string t.func, .int .i64 t.arity, .slice so t.items.length c, .string t.bytes, .int .i64 t.bits]] w fun e w' => e = .returned (.int .i64 (wholeF (f + 1) t)) ∧ Below w.heap.size w w' := by
  have hwc := whole_cap (f + 1) t hform
  have HTV0 : Hid (wholeF (f + 1) t = ownSize t + sumI ((t.items.drop 0).map (wholeF f))) := Lib.hid rfl
  have hown : 0 ≤ ownSize t ∧ ownSize t ≤ 300 + t.items.length := by
    unfold formF at hform
    rw [Bool.and_eq_true] at hform
    have := hform.1
    unfold locB at this
    rw [Bool.and_eq_true] at this
    exact own_cap this.1
  have hil : t.items.length ≤ 1152921504606846976 := by
    have : 300 + t.items.length ≤ capF (f + 1) t := by show 300 + t.items.length ≤ 300 + t.items.length + sumN (t.items.map (capF f)); omega
    omega
  have hownc : ownSize t ≤ 1152921504606846976 := by
    have : ((300 + t.items.length + sumN (t.items.map (capF f)) : Nat) : Int) ≤ 1152921504606846976 := hcap
    omega
  have HOWN : Hid (ownSize t = 1) := Lib.hid (by unfold ownSize; rw [if_neg hk9, if_neg hk10])
  have t9 : (t.kind == 9) = false := beq_eq_false_iff_ne.2 hk9
  have t10 : (t.kind == 10) = false := beq_eq_false_iff_ne.2 hk10
  clear hk9 hk10
  have HTV : Hid (wholeF (f + 1) t = (1 : Int) + sumI ((t.items.drop 0).map (wholeF f))) := Lib.hid (by rw [HTV0.out, HOWN.out])
  have HSL := Lib.hid hsl
  have HREC0 := Lib.hid hrec
  rw [HOWN.out] at hown hownc
  obtain ⟨hown0, hown1⟩ := hown
  clear hsl hrec hform hcap hwc HTV0
  unfold RecP at HREC0
  generalize wholeF (f + 1) t = TV at *
  go_enter Tryz.func63, Tryz.ntmps63
  go_upto_region 2 with fail
  have hbx := tbox_new w t so c
  have hba : Below w.heap.size w (w.alloc (.cells #[.int .i64 t.kind, .int .i64 t.int, .int .i64 t.gen, .string t.name, .string t.func, .int .i64 t.arity, .slice so t.items.length c, .string t.bytes, .int .i64 t.bits] 28)) := (Below.refl _ _).alloc (Nat.le_refl _) _
  generalize w.alloc (.cells #[.int .i64 t.kind, .int .i64 t.int, .int .i64 t.gen, .string t.name, .string t.func, .int .i64 t.arity, .slice so t.items.length c, .string t.bytes, .int .i64 t.bits] 28) = Wa at *
  have HS : Hid (SlAt Wa 9 (TmAt Wa f) so t.items) := Lib.hid (SlAt.tms HSL.out hba)
  generalize hBz : w.heap.size = B at *
  have HBZ := Lib.hid hBz; have HBA := Lib.hid hba; have HBX := Lib.hid hbx
  clear hBz hba
  have hlb := lt_of_row hbx
  have c0 : Wa.cell? ⟨B, 0, none⟩ = some (.int .i64 t.kind) := by rw [cell_of_row _ _ _ _ _ _ hbx]; rfl
  have c6 : Wa.cell? ⟨B, 6, none⟩ = some (.slice so t.items.length c) := by rw [cell_of_row _ _ _ _ _ _ hbx]; rfl
  have c8 : Wa.cell? ⟨B, 8, none⟩ = some (.int .i64 t.bits) := by rw [cell_of_row _ _ _ _ _ _ hbx]; rfl
  clear hbx
  have HFIN : Hid (∀ wx, Below Wa.heap.size Wa wx → Below B w wx) := Lib.hid (fun wx hh => HBA.out.trans (hh.mono (by have := HBA.out.size; have := HBZ.out; omega)))
  have HREC : Hid (RecAt f t so Wa TV) := Lib.hid (HREC0.out Wa HBA.out)
  go_wp2_with fail
  go_loopw [3, 4] (fun nv iv wr => ∃ (k : Nat) (s : Int), k ≤ t.items.length ∧ iv = .int .i64 k ∧ nv = .int .i64 s ∧ Hid (TV = s + sumI ((t.items.drop k).map (wholeF f))) ∧ 0 ≤ s ∧ s ≤ 1152921504606846976 ∧ Hid (Below Wa.heap.size Wa wr)) (fun _ iv _ => t.items.length - (intOf iv).toNat)
  case atStart => exact ⟨0, (1 : Int), Nat.zero_le _, rfl, by go_num, HTV, by omega, by omega, Lib.hid (Below.refl _ _)⟩
  case round =>
    obtain ⟨k, s, hk, rfl, rfl, HK, hs0, hs1, HBk⟩ := hrel
    rename World => wr
    clear c0 c6 c8
    have hb1 := (HBk.out.block B (lt_of_row HBX.out)).trans HBX.out
    have hlb1 := lt_of_row hb1
    have c6 : wr.cell? ⟨B, 6, none⟩ = some (.slice so t.items.length c) := by rw [cell_of_row _ _ _ _ _ _ hb1]; rfl
    clear hb1
    by_cases hlt : k < t.items.length
    · obtain ⟨b2, off, ai, ci, hao, hb2, q0, q1, q2, q3, q4, q5, q6, q7, q8, hcall, hsd, hw0, hws⟩ := HREC.out k s wr hlt HBk.out HK.out
      subst hao
      have HCL := Lib.hid hcall; have HSD := Lib.hid hsd
      clear hcall hsd
      generalize t.items[k] = u at *
      generalize wholeF f u = wu at *
      go_wp2_with fail
      refine HCL.out.mono ?_
      rintro e9 w5 ⟨rfl, hb5⟩
      go_wp2_with fail
      go_roundw
      case rel => exact ⟨k + 1, s + wu, by omega, by go_num, rfl, HSD, by omega, by omega, Lib.hid (below_next HBk.out hb5)⟩
      case measure => simp [intOf]; omega
    · have E : Hid (TV = s) := Lib.hid (by rw [HK.out, List.drop_eq_nil_of_le (by omega)]; show s + 0 = s; omega)
      go_wp2_with fail
      go_ret
      exact ⟨ret1 E.out.symm, by rw [HBZ.out]; exact HFIN.out _ HBk.out⟩
theorem whole_step (f : Nat) (IH : ∀ f', f = f' + 1 → WholeP f') : WholeP f := by
  intro t so c w hsl hok hform hcap
  have hall : t.items.all (formF f) = true := by
    unfold formF at hform; rw [Bool.and_eq_true] at hform; exact hform.2
  have hwc := whole_cap (f + 1) t hform
  have hrec : RecP f t so w := by
    intro Wa hba k s wr hlt hb hs
    cases f with
    | zero => rw [hsl.zero] at hlt; exact absurd hlt (Nat.not_lt_zero _)
    | succ f =>
      obtain ⟨b2, off, ai, ci, hao, hb2, q0, q1, q2, q3, q4, q5, q6, q7, q8, hit, hok2⟩ := (SlAt.tms (SlAt.tms hsl hba) hb).tm hlt
      have hf2 : formF (f + 1) t.items[k] = true := List.all_eq_true.1 hall _ (List.getElem_mem hlt)
      have hc2 : (capF (f + 1) t.items[k] : Int) ≤ 1152921504606846976 := by
        have h1 : capF (f + 1) t.items[k] ≤ sumN (t.items.map (capF (f + 1))) := sumN_mem' _ _ (List.mem_map.2 ⟨_, List.getElem_mem hlt, rfl⟩)
        have h2 : capF (f + 1 + 1) t = 300 + t.items.length + sumN (t.items.map (capF (f + 1))) := rfl
        rw [h2] at hcap
        omega
      have hd := sumI_drop (f := f + 1) hlt
      have hw := whole_cap (f + 1) _ hf2
      have hrest := whole_list (whole_cap (f + 1)) (t.items.drop (k + 1)) (all_drop3 hall (k + 1))
      rw [hd] at hs
      exact ⟨b2, off, ai, ci, hao, hb2, q0, q1, q2, q3, q4, q5, q6, q7, q8, IH f rfl _ ai ci wr hit hok2 hf2 hc2, by rw [hs]; omega, hw.1, by omega⟩
  by_cases h9 : t.kind = 9
  · exact whole_list' f t so c w hsl hok hform hcap hrec h9
  by_cases h10 : t.kind = 10
  · exact whole_bits f t so c w hsl hok hform hcap hrec h10
  exact whole_one f t so c w hsl hok hform hcap hrec h9 h10
theorem whole_rec (f : Nat) : WholeP f := by
  induction f with
  | zero => exact whole_step 0 (fun f' h => absurd h (by omega))
  | succ f ih => exact whole_step (f + 1) (fun f' h => by
      have : f' = f := by omega
      subst this; exact ih)
end Go.Proofs.YthmpobimmbmddaaGreatDoor
