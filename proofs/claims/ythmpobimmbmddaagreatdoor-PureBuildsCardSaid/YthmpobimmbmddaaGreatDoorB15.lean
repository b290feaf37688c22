/-
  The reference's Formed: the walk (printed by gen_rterm4.py).
-/
import Derived.Test.YthmpobimmbmddaaGreatDoorB13
import Derived.Test.YthmpobimmbmddaaGreatDoorB14
namespace Go.Proofs.YthmpobimmbmddaaGreatDoor
open Go.RowKit
set_option linter.unusedVariables false
set_option linter.unusedSimpArgs false

theorem lastK_at {l : List Tm} (h : l.length - 1 < l.length) : lastK l = l[l.length - 1].kind := by
  unfold lastK
  rw [List.getLast?_eq_getElem?, List.getElem?_eq_getElem h]
/-- Formed on terms whose items are of a depth. -/
def FormP (f : Nat) : Prop := ∀ (t : Tm) (so : Option Addr) (c : Nat) (w : World), SlAt w 9 (TmAt w f) so t.items → t.Ok →
  Calls Tryz.prog 62 #[.agg #[.int .i64 t.kind, .int .i64 t.int, .int .i64 t.gen, .string t.name, .string t.func, .int .i64 t.arity, .slice so t.items.length c, .string t.bytes, .int .i64 t.bits]] w fun e w' => e = .returned (.bool (formF (f + 1) t)) ∧ Below w.heap.size w w'
/-- What a round of Formed wants of the items. -/
def FormAt (f : Nat) (t : Tm) (so : Option Addr) (Wa : World) (A : Bool) : Prop := ∀ (k : Nat) (wr : World) (hlt : k < t.items.length), Below Wa.heap.size Wa wr → A = (t.items.drop k).all (formF f) →
  ∃ b2 off ai ci, so = some ⟨b2, off, none⟩ ∧ b2 < wr.heap.size ∧ wr.cell? ⟨b2, off + k * 9, none⟩ = some (.int .i64 t.items[k].kind) ∧ wr.cell? ⟨b2, off + k * 9 + 1, none⟩ = some (.int .i64 t.items[k].int) ∧ wr.cell? ⟨b2, off + k * 9 + 2, none⟩ = some (.int .i64 t.items[k].gen) ∧ wr.cell? ⟨b2, off + k * 9 + 3, none⟩ = some (.string t.items[k].name) ∧ wr.cell? ⟨b2, off + k * 9 + 4, none⟩ = some (.string t.items[k].func) ∧ wr.cell? ⟨b2, off + k * 9 + 5, none⟩ = some (.int .i64 t.items[k].arity) ∧ wr.cell? ⟨b2, off + k * 9 + 6, none⟩ = some (.slice ai t.items[k].items.length ci) ∧ wr.cell? ⟨b2, off + k * 9 + 7, none⟩ = some (.string t.items[k].bytes) ∧ wr.cell? ⟨b2, off + k * 9 + 8, none⟩ = some (.int .i64 t.items[k].bits) ∧  ∃ r, (Calls Tryz.prog 62 #[.agg #[.int .i64 t.items[k].kind, .int .i64 t.items[k].int, .int .i64 t.items[k].gen, .string t.items[k].name, .string t.items[k].func, .int .i64 t.items[k].arity, .slice ai t.items[k].items.length ci, .string t.items[k].bytes, .int .i64 t.items[k].bits]] wr fun e w' => e = .returned (.bool r) ∧ Below wr.heap.size wr w') ∧ A = (r && (t.items.drop (k + 1)).all (formF f))
def FormRec (f : Nat) (t : Tm) (so : Option Addr) (w : World) : Prop := ∀ (Wa : World), Below w.heap.size w Wa → FormAt f t so Wa (t.items.all (formF f))
set_option maxRecDepth 100000 in
set_option maxHeartbeats 16000000 in
theorem form_zero (f : Nat) (t : Tm) (so : Option Addr) (c : Nat) (w : World) (hok : t.Ok) (hrec : FormRec f t so w) (hz : allZ 0 (leftT t).int (leftT t).gen (leftT t).name (leftT t).func (leftT t).arity (leftT t).items.length (leftT t).bytes (leftT t).bits = false) :
    Calls Tryz.prog 62 #[.agg #[.int .i64 t.kind, .int .i64 t.int, .int .i64 t.gen, .string t.name, .string t.func, .int .i64 t.arity, .slice so t.items.length c, .string t.bytes, .int .i64 t.bits]] w fun e w' => e = .returned (.bool (formF (f + 1) t)) ∧ Below w.heap.size w w' := by
  obtain ⟨ok0, ok1, ok2, ok3, ok4, ok5, ok6, ok7, ok8⟩ := hok
  unfold maxLen at ok3 ok4 ok6 ok7
  have HE : Hid (formF (f + 1) t = ((okK t && allZ 0 (leftT t).int (leftT t).gen (leftT t).name (leftT t).func (leftT t).arity (leftT t).items.length (leftT t).bytes (leftT t).bits) && t.items.all (formF f))) := Lib.hid (by rw [loc_all]; rfl)
  have hZ := fun so' c' wx => rzero_any 0 (leftT t).int (leftT t).gen (leftT t).name (leftT t).func (leftT t).arity so' (leftT t).items.length c' (leftT t).bytes (leftT t).bits wx (Nat.le_trans (leftT_len t) (by omega))
  have hB := fun wx => rbare_any t so c wx
  unfold BareQ at hB
  generalize allZ 0 (leftT t).int (leftT t).gen (leftT t).name (leftT t).func (leftT t).arity (leftT t).items.length (leftT t).bytes (leftT t).bits = Z at *
  generalize leftT t = q at *
  have HREC0 := Lib.hid hrec
  clear hrec
  generalize formF (f + 1) t = R at *
  subst hz
  go_enter Tryz.func62, Tryz.ntmps62
  go_upto_region 1 with fail
  have hbx := tbox_new w t so c
  have hba : Below w.heap.size w (w.alloc (.cells #[.int .i64 t.kind, .int .i64 t.int, .int .i64 t.gen, .string t.name, .string t.func, .int .i64 t.arity, .slice so t.items.length c, .string t.bytes, .int .i64 t.bits] 28)) := (Below.refl _ _).alloc (Nat.le_refl _) _
  generalize w.alloc (.cells #[.int .i64 t.kind, .int .i64 t.int, .int .i64 t.gen, .string t.name, .string t.func, .int .i64 t.arity, .slice so t.items.length c, .string t.bytes, .int .i64 t.bits] 28) = Wa at *
  have HREC : Hid (FormAt f t so Wa (t.items.all (formF f))) := Lib.hid (HREC0.out Wa hba)
  clear HREC0
  generalize hBz : w.heap.size = B at *
  have HBZ := Lib.hid hBz; have HBA := Lib.hid hba; have HBX := Lib.hid hbx
  clear hBz hba
  have hlb := lt_of_row hbx
  have c0 : Wa.cell? ⟨B, 0, none⟩ = some (.int .i64 t.kind) := by rw [cell_of_row _ _ _ _ _ _ hbx]; rfl
  have c1 : Wa.cell? ⟨B, 1, none⟩ = some (.int .i64 t.int) := by rw [cell_of_row _ _ _ _ _ _ hbx]; rfl
  have c2 : Wa.cell? ⟨B, 2, none⟩ = some (.int .i64 t.gen) := by rw [cell_of_row _ _ _ _ _ _ hbx]; rfl
  have c3 : Wa.cell? ⟨B, 3, none⟩ = some (.string t.name) := by rw [cell_of_row _ _ _ _ _ _ hbx]; rfl
  have c4 : Wa.cell? ⟨B, 4, none⟩ = some (.string t.func) := by rw [cell_of_row _ _ _ _ _ _ hbx]; rfl
  have c5 : Wa.cell? ⟨B, 5, none⟩ = some (.int .i64 t.arity) := by rw [cell_of_row _ _ _ _ _ _ hbx]; rfl
  have c6 : Wa.cell? ⟨B, 6, none⟩ = some (.slice so t.items.length c) := by rw [cell_of_row _ _ _ _ _ _ hbx]; rfl
  have c7 : Wa.cell? ⟨B, 7, none⟩ = some (.string t.bytes) := by rw [cell_of_row _ _ _ _ _ _ hbx]; rfl
  have c8 : Wa.cell? ⟨B, 8, none⟩ = some (.int .i64 t.bits) := by rw [cell_of_row _ _ _ _ _ _ hbx]; rfl
  clear hbx
  have HFIN : Hid (∀ wx, Below Wa.heap.size Wa wx → Below B w wx) := Lib.hid (fun wx hh => HBA.out.trans (hh.mono (by have := HBA.out.size; have := HBZ.out; omega)))
  go_wp2_with fail
  refine (hB _).mono ?_
  rintro e w1 ⟨so', c', rfl, hb1⟩
  go_wp2_with fail
  refine (hZ so' c' _).mono ?_
  rintro e w2 ⟨rfl, hb2⟩
  clear hZ hB
  have HB2 : Hid (Below Wa.heap.size Wa w2) := Lib.hid (below_next hb1 hb2)
  clear hb1 hb2
  go_wp2_with fail
  go_ret
  exact ⟨retb (by rw [HE.out]; cases okK t <;> rfl), by rw [HBZ.out]; exact HFIN.out _ HB2.out⟩
set_option maxRecDepth 100000 in
set_option maxHeartbeats 16000000 in
theorem form_one (f : Nat) (t : Tm) (so : Option Addr) (c : Nat) (w : World) (hok : t.Ok) (hrec : FormRec f t so w) (hz : allZ 0 (leftT t).int (leftT t).gen (leftT t).name (leftT t).func (leftT t).arity (leftT t).items.length (leftT t).bytes (leftT t).bits = true) (hkd : t.kind = 1) :
    Calls Tryz.prog 62 #[.agg #[.int .i64 t.kind, .int .i64 t.int, .int .i64 t.gen, .string t.name, .string t.func, .int .i64 t.arity, .slice so t.items.length c, .string t.bytes, .int .i64 t.bits]] w fun e w' => e = .returned (.bool (formF (f + 1) t)) ∧ Below w.heap.size w w' := by
  have HKD := Lib.hid hkd
  clear hkd
  obtain ⟨ok0, ok1, ok2, ok3, ok4, ok5, ok6, ok7, ok8⟩ := hok
  unfold maxLen at ok3 ok4 ok6 ok7
  have HE : Hid (formF (f + 1) t = ((okK t && allZ 0 (leftT t).int (leftT t).gen (leftT t).name (leftT t).func (leftT t).arity (leftT t).items.length (leftT t).bytes (leftT t).bits) && t.items.all (formF f))) := Lib.hid (by rw [loc_all]; rfl)
  have hZ := fun so' c' wx => rzero_any 0 (leftT t).int (leftT t).gen (leftT t).name (leftT t).func (leftT t).arity so' (leftT t).items.length c' (leftT t).bytes (leftT t).bits wx (Nat.le_trans (leftT_len t) (by omega))
  have hB := fun wx => rbare_any t so c wx
  unfold BareQ at hB
  generalize allZ 0 (leftT t).int (leftT t).gen (leftT t).name (leftT t).func (leftT t).arity (leftT t).items.length (leftT t).bytes (leftT t).bits = Z at *
  generalize leftT t = q at *
  have HREC0 := Lib.hid hrec
  clear hrec
  generalize formF (f + 1) t = R at *
  subst hz
  go_enter Tryz.func62, Tryz.ntmps62
  go_upto_region 1 with fail
  have hbx := tbox_new w t so c
  have hba : Below w.heap.size w (w.alloc (.cells #[.int .i64 t.kind, .int .i64 t.int, .int .i64 t.gen, .string t.name, .string t.func, .int .i64 t.arity, .slice so t.items.length c, .string t.bytes, .int .i64 t.bits] 28)) := (Below.refl _ _).alloc (Nat.le_refl _) _
  generalize w.alloc (.cells #[.int .i64 t.kind, .int .i64 t.int, .int .i64 t.gen, .string t.name, .string t.func, .int .i64 t.arity, .slice so t.items.length c, .string t.bytes, .int .i64 t.bits] 28) = Wa at *
  have HREC : Hid (FormAt f t so Wa (t.items.all (formF f))) := Lib.hid (HREC0.out Wa hba)
  clear HREC0
  generalize hBz : w.heap.size = B at *
  have HBZ := Lib.hid hBz; have HBA := Lib.hid hba; have HBX := Lib.hid hbx
  clear hBz hba
  have hlb := lt_of_row hbx
  have c0 : Wa.cell? ⟨B, 0, none⟩ = some (.int .i64 t.kind) := by rw [cell_of_row _ _ _ _ _ _ hbx]; rfl
  have c1 : Wa.cell? ⟨B, 1, none⟩ = some (.int .i64 t.int) := by rw [cell_of_row _ _ _ _ _ _ hbx]; rfl
  have c2 : Wa.cell? ⟨B, 2, none⟩ = some (.int .i64 t.gen) := by rw [cell_of_row _ _ _ _ _ _ hbx]; rfl
  have c3 : Wa.cell? ⟨B, 3, none⟩ = some (.string t.name) := by rw [cell_of_row _ _ _ _ _ _ hbx]; rfl
  have c4 : Wa.cell? ⟨B, 4, none⟩ = some (.string t.func) := by rw [cell_of_row _ _ _ _ _ _ hbx]; rfl
  have c5 : Wa.cell? ⟨B, 5, none⟩ = some (.int .i64 t.arity) := by rw [cell_of_row _ _ _ _ _ _ hbx]; rfl
  have c6 : Wa.cell? ⟨B, 6, none⟩ = some (.slice so t.items.length c) := by rw [cell_of_row _ _ _ _ _ _ hbx]; rfl
  have c7 : Wa.cell? ⟨B, 7, none⟩ = some (.string t.bytes) := by rw [cell_of_row _ _ _ _ _ _ hbx]; rfl
  have c8 : Wa.cell? ⟨B, 8, none⟩ = some (.int .i64 t.bits) := by rw [cell_of_row _ _ _ _ _ _ hbx]; rfl
  clear hbx
  have HFIN : Hid (∀ wx, Below Wa.heap.size Wa wx → Below B w wx) := Lib.hid (fun wx hh => HBA.out.trans (hh.mono (by have := HBA.out.size; have := HBZ.out; omega)))
  go_wp2_with fail
  refine (hB _).mono ?_
  rintro e w1 ⟨so', c', rfl, hb1⟩
  go_wp2_with fail
  refine (hZ so' c' _).mono ?_
  rintro e w2 ⟨rfl, hb2⟩
  clear hZ hB
  have HB2 : Hid (Below Wa.heap.size Wa w2) := Lib.hid (below_next hb1 hb2)
  clear hb1 hb2
  have HET : Hid (∀ A, t.items.all (formF f) = A → R = (okK t && A)) := Lib.hid (fun A h => by rw [HE.out, h, Bool.and_true])
  clear HE
  have HAK : Hid (t.items.all (formF f) = (t.items.drop 0).all (formF f)) := Lib.hid rfl
  generalize t.items.all (formF f) = A at HREC HET HAK
  go_wp2_with fail
  go_loopw [3] (fun iv wr => ∃ (k : Nat), k ≤ t.items.length ∧ iv = .int .i64 k ∧ Hid (A = (t.items.drop k).all (formF f)) ∧ Hid (Below Wa.heap.size Wa wr)) (fun iv _ => t.items.length - (intOf iv).toNat)
  case atStart => exact ⟨0, Nat.zero_le _, rfl, HAK, HB2⟩
  case round =>
    obtain ⟨k, hk, rfl, HK, HBk⟩ := hrel
    rename World => wr
    clear c0 c1 c2 c3 c4 c5 c6 c7 c8
    have hb1 := (HBk.out.block B (lt_of_row HBX.out)).trans HBX.out
    have hlb1 := lt_of_row hb1
    have c0 : wr.cell? ⟨B, 0, none⟩ = some (.int .i64 t.kind) := by rw [cell_of_row _ _ _ _ _ _ hb1]; rfl
    have c1 : wr.cell? ⟨B, 1, none⟩ = some (.int .i64 t.int) := by rw [cell_of_row _ _ _ _ _ _ hb1]; rfl
    have c2 : wr.cell? ⟨B, 2, none⟩ = some (.int .i64 t.gen) := by rw [cell_of_row _ _ _ _ _ _ hb1]; rfl
    have c3 : wr.cell? ⟨B, 3, none⟩ = some (.string t.name) := by rw [cell_of_row _ _ _ _ _ _ hb1]; rfl
    have c4 : wr.cell? ⟨B, 4, none⟩ = some (.string t.func) := by rw [cell_of_row _ _ _ _ _ _ hb1]; rfl
    have c5 : wr.cell? ⟨B, 5, none⟩ = some (.int .i64 t.arity) := by rw [cell_of_row _ _ _ _ _ _ hb1]; rfl
    have c6 : wr.cell? ⟨B, 6, none⟩ = some (.slice so t.items.length c) := by rw [cell_of_row _ _ _ _ _ _ hb1]; rfl
    have c7 : wr.cell? ⟨B, 7, none⟩ = some (.string t.bytes) := by rw [cell_of_row _ _ _ _ _ _ hb1]; rfl
    have c8 : wr.cell? ⟨B, 8, none⟩ = some (.int .i64 t.bits) := by rw [cell_of_row _ _ _ _ _ _ hb1]; rfl
    clear hb1
    by_cases hlt : k < t.items.length
    · obtain ⟨b2, off, ai, ci, hao, hb2, q0, q1, q2, q3, q4, q5, q6, q7, q8, r, hcall, hsd⟩ := HREC.out k wr hlt HBk.out HK.out
      subst hao
      have HCL := Lib.hid hcall; have HSD := Lib.hid hsd
      clear hcall hsd
      generalize t.items[k] = u at *
      cases r with
      | true =>
        go_wp2_with fail
        refine HCL.out.mono ?_
        rintro e9 w5 ⟨rfl, hb5⟩
        go_wp2_with fail
        go_roundw
        case rel => exact ⟨k + 1, by omega, by go_num, Lib.hid (by rw [HSD.out, Bool.true_and]), Lib.hid (below_next HBk.out hb5)⟩
        case measure => simp [intOf]; omega
      | false =>
        go_wp2_with fail
        refine HCL.out.mono ?_
        rintro e9 w5 ⟨rfl, hb5⟩
        go_wp2_with fail
        go_ret
        exact ⟨retb (by rw [HET.out A rfl, HSD.out]; cases okK t <;> rfl), by rw [HBZ.out]; exact HFIN.out _ (below_next HBk.out hb5)⟩
    · have E : Hid (R = okK t) := Lib.hid (by rw [HET.out A rfl, HK.out, List.drop_eq_nil_of_le (by omega)]; simp)
      have hkd := HKD.out
      have hE := E.out
      have e2 : okK t = (true) := by unfold okK; simp [hkd, Bool.and_assoc]
      rw [e2] at hE
      rw [hkd] at c0
      clear e2 E HKD hkd
      have E := Lib.hid hE
      clear hE
      go_wp2_with fail
      go_ret
      exact ⟨retb (by rw [E.out]; try simp), by rw [HBZ.out]; exact HFIN.out _ HBk.out⟩
set_option maxRecDepth 100000 in
set_option maxHeartbeats 16000000 in
theorem form_nil (f : Nat) (t : Tm) (so : Option Addr) (c : Nat) (w : World) (hok : t.Ok) (hrec : FormRec f t so w) (hz : allZ 0 (leftT t).int (leftT t).gen (leftT t).name (leftT t).func (leftT t).arity (leftT t).items.length (leftT t).bytes (leftT t).bits = true) (hkd : t.kind = 8) :
    Calls Tryz.prog 62 #[.agg #[.int .i64 t.kind, .int .i64 t.int, .int .i64 t.gen, .string t.name, .string t.func, .int .i64 t.arity, .slice so t.items.length c, .string t.bytes, .int .i64 t.bits]] w fun e w' => e = .returned (.bool (formF (f + 1) t)) ∧ Below w.heap.size w w' := by
  have HKD := Lib.hid hkd
  clear hkd
  obtain ⟨ok0, ok1, ok2, ok3, ok4, ok5, ok6, ok7, ok8⟩ := hok
  unfold maxLen at ok3 ok4 ok6 ok7
  have HE : Hid (formF (f + 1) t = ((okK t && allZ 0 (leftT t).int (leftT t).gen (leftT t).name (leftT t).func (leftT t).arity (leftT t).items.length (leftT t).bytes (leftT t).bits) && t.items.all (formF f))) := Lib.hid (by rw [loc_all]; rfl)
  have hZ := fun so' c' wx => rzero_any 0 (leftT t).int (leftT t).gen (leftT t).name (leftT t).func (leftT t).arity so' (leftT t).items.length c' (leftT t).bytes (leftT t).bits wx (Nat.le_trans (leftT_len t) (by omega))
  have hB := fun wx => rbare_any t so c wx
  unfold BareQ at hB
  generalize allZ 0 (leftT t).int (leftT t).gen (leftT t).name (leftT t).func (leftT t).arity (leftT t).items.length (leftT t).bytes (leftT t).bits = Z at *
  generalize leftT t = q at *
  have HREC0 := Lib.hid hrec
  clear hrec
  generalize formF (f + 1) t = R at *
  subst hz
  go_enter Tryz.func62, Tryz.ntmps62
  go_upto_region 1 with fail
  have hbx := tbox_new w t so c
  have hba : Below w.heap.size w (w.alloc (.cells #[.int .i64 t.kind, .int .i64 t.int, .int .i64 t.gen, .string t.name, .string t.func, .int .i64 t.arity, .slice so t.items.length c, .string t.bytes, .int .i64 t.bits] 28)) := (Below.refl _ _).alloc (Nat.le_refl _) _
  generalize w.alloc (.cells #[.int .i64 t.kind, .int .i64 t.int, .int .i64 t.gen, .string t.name, .string t.func, .int .i64 t.arity, .slice so t.items.length c, .string t.bytes, .int .i64 t.bits] 28) = Wa at *
  have HREC : Hid (FormAt f t so Wa (t.items.all (formF f))) := Lib.hid (HREC0.out Wa hba)
  clear HREC0
  generalize hBz : w.heap.size = B at *
  have HBZ := Lib.hid hBz; have HBA := Lib.hid hba; have HBX := Lib.hid hbx
  clear hBz hba
  have hlb := lt_of_row hbx
  have c0 : Wa.cell? ⟨B, 0, none⟩ = some (.int .i64 t.kind) := by rw [cell_of_row _ _ _ _ _ _ hbx]; rfl
  have c1 : Wa.cell? ⟨B, 1, none⟩ = some (.int .i64 t.int) := by rw [cell_of_row _ _ _ _ _ _ hbx]; rfl
  have c2 : Wa.cell? ⟨B, 2, none⟩ = some (.int .i64 t.gen) := by rw [cell_of_row _ _ _ _ _ _ hbx]; rfl
  have c3 : Wa.cell? ⟨B, 3, none⟩ = some (.string t.name) := by rw [cell_of_row _ _ _ _ _ _ hbx]; rfl
  have c4 : Wa.cell? ⟨B, 4, none⟩ = some (.string t.func) := by rw [cell_of_row _ _ _ _ _ _ hbx]; rfl
  have c5 : Wa.cell? ⟨B, 5, none⟩ = some (.int .i64 t.arity) := by rw [cell_of_row _ _ _ _ _ _ hbx]; rfl
  have c6 : Wa.cell? ⟨B, 6, none⟩ = some (.slice so t.items.length c) := by rw [cell_of_row _ _ _ _ _ _ hbx]; rfl
  have c7 : Wa.cell? ⟨B, 7, none⟩ = some (.string t.bytes) := by rw [cell_of_row _ _ _ _ _ _ hbx]; rfl
  have c8 : Wa.cell? ⟨B, 8, none⟩ = some (.int .i64 t.bits) := by rw [cell_of_row _ _ _ _ _ _ hbx]; rfl
  clear hbx
  have HFIN : Hid (∀ wx, Below Wa.heap.size Wa wx → Below B w wx) := Lib.hid (fun wx hh => HBA.out.trans (hh.mono (by have := HBA.out.size; have := HBZ.out; omega)))
  go_wp2_with fail
  refine (hB _).mono ?_
  rintro e w1 ⟨so', c', rfl, hb1⟩
  go_wp2_with fail
  refine (hZ so' c' _).mono ?_
  rintro e w2 ⟨rfl, hb2⟩
  clear hZ hB
  have HB2 : Hid (Below Wa.heap.size Wa w2) := Lib.hid (below_next hb1 hb2)
  clear hb1 hb2
  have HET : Hid (∀ A, t.items.all (formF f) = A → R = (okK t && A)) := Lib.hid (fun A h => by rw [HE.out, h, Bool.and_true])
  clear HE
  have HAK : Hid (t.items.all (formF f) = (t.items.drop 0).all (formF f)) := Lib.hid rfl
  generalize t.items.all (formF f) = A at HREC HET HAK
  go_wp2_with fail
  go_loopw [3] (fun iv wr => ∃ (k : Nat), k ≤ t.items.length ∧ iv = .int .i64 k ∧ Hid (A = (t.items.drop k).all (formF f)) ∧ Hid (Below Wa.heap.size Wa wr)) (fun iv _ => t.items.length - (intOf iv).toNat)
  case atStart => exact ⟨0, Nat.zero_le _, rfl, HAK, HB2⟩
  case round =>
    obtain ⟨k, hk, rfl, HK, HBk⟩ := hrel
    rename World => wr
    clear c0 c1 c2 c3 c4 c5 c6 c7 c8
    have hb1 := (HBk.out.block B (lt_of_row HBX.out)).trans HBX.out
    have hlb1 := lt_of_row hb1
    have c0 : wr.cell? ⟨B, 0, none⟩ = some (.int .i64 t.kind) := by rw [cell_of_row _ _ _ _ _ _ hb1]; rfl
    have c1 : wr.cell? ⟨B, 1, none⟩ = some (.int .i64 t.int) := by rw [cell_of_row _ _ _ _ _ _ hb1]; rfl
    have c2 : wr.cell? ⟨B, 2, none⟩ = some (.int .i64 t.gen) := by rw [cell_of_row _ _ _ _ _ _ hb1]; rfl
    have c3 : wr.cell? ⟨B, 3, none⟩ = some (.string t.name) := by rw [cell_of_row _ _ _ _ _ _ hb1]; rfl
    have c4 : wr.cell? ⟨B, 4, none⟩ = some (.string t.func) := by rw [cell_of_row _ _ _ _ _ _ hb1]; rfl
    have c5 : wr.cell? ⟨B, 5, none⟩ = some (.int .i64 t.arity) := by rw [cell_of_row _ _ _ _ _ _ hb1]; rfl
    have c6 : wr.cell? ⟨B, 6, none⟩ = some (.slice so t.items.length c) := by rw [cell_of_row _ _ _ _ _ _ hb1]; rfl
    have c7 : wr.cell? ⟨B, 7, none⟩ = some (.string t.bytes) := by rw [cell_of_row _ _ _ _ _ _ hb1]; rfl
    have c8 : wr.cell? ⟨B, 8, none⟩ = some (.int .i64 t.bits) := by rw [cell_of_row _ _ _ _ _ _ hb1]; rfl
    clear hb1
    by_cases hlt : k < t.items.length
    · obtain ⟨b2, off, ai, ci, hao, hb2, q0, q1, q2, q3, q4, q5, q6, q7, q8, r, hcall, hsd⟩ := HREC.out k wr hlt HBk.out HK.out
      subst hao
      have HCL := Lib.hid hcall; have HSD := Lib.hid hsd
      clear hcall hsd
      generalize t.items[k] = u at *
      cases r with
      | true =>
        go_wp2_with fail
        refine HCL.out.mono ?_
        rintro e9 w5 ⟨rfl, hb5⟩
        go_wp2_with fail
        go_roundw
        case rel => exact ⟨k + 1, by omega, by go_num, Lib.hid (by rw [HSD.out, Bool.true_and]), Lib.hid (below_next HBk.out hb5)⟩
        case measure => simp [intOf]; omega
      | false =>
        go_wp2_with fail
        refine HCL.out.mono ?_
        rintro e9 w5 ⟨rfl, hb5⟩
        go_wp2_with fail
        go_ret
        exact ⟨retb (by rw [HET.out A rfl, HSD.out]; cases okK t <;> rfl), by rw [HBZ.out]; exact HFIN.out _ (below_next HBk.out hb5)⟩
    · have E : Hid (R = okK t) := Lib.hid (by rw [HET.out A rfl, HK.out, List.drop_eq_nil_of_le (by omega)]; simp)
      have hkd := HKD.out
      have hE := E.out
      have e2 : okK t = (true) := by unfold okK; simp [hkd, Bool.and_assoc]
      rw [e2] at hE
      rw [hkd] at c0
      clear e2 E HKD hkd
      have E := Lib.hid hE
      clear hE
      go_wp2_with fail
      go_ret
      exact ⟨retb (by rw [E.out]; try simp), by rw [HBZ.out]; exact HFIN.out _ HBk.out⟩
set_option maxRecDepth 100000 in
set_option maxHeartbeats 16000000 in
theorem form_atom (f : Nat) (t : Tm) (so : Option Addr) (c : Nat) (w : World) (hok : t.Ok) (hrec : FormRec f t so w) (hz : allZ 0 (leftT t).int (leftT t).gen (leftT t).name (leftT t).func (leftT t).arity (leftT t).items.length (leftT t).bytes (leftT t).bits = true) (hkd : t.kind = 2) :
    Calls Tryz.prog 62 #[.agg #[.int .i64 t.kind, .int .i64 t.int, .int .i64 t.gen, .string t.name, .string t.func, .int .i64 t.arity, .slice so t.items.length c, .string t.bytes, .int .i64 t.bits]] w fun e w' => e = .returned (.bool (formF (f + 1) t)) ∧ Below w.heap.size w w' := by
  have HKD := Lib.hid hkd
  clear hkd
  obtain ⟨ok0, ok1, ok2, ok3, ok4, ok5, ok6, ok7, ok8⟩ := hok
  unfold maxLen at ok3 ok4 ok6 ok7
  have HE : Hid (formF (f + 1) t = ((okK t && allZ 0 (leftT t).int (leftT t).gen (leftT t).name (leftT t).func (leftT t).arity (leftT t).items.length (leftT t).bytes (leftT t).bits) && t.items.all (formF f))) := Lib.hid (by rw [loc_all]; rfl)
  have hZ := fun so' c' wx => rzero_any 0 (leftT t).int (leftT t).gen (leftT t).name (leftT t).func (leftT t).arity so' (leftT t).items.length c' (leftT t).bytes (leftT t).bits wx (Nat.le_trans (leftT_len t) (by omega))
  have hB := fun wx => rbare_any t so c wx
  unfold BareQ at hB
  generalize allZ 0 (leftT t).int (leftT t).gen (leftT t).name (leftT t).func (leftT t).arity (leftT t).items.length (leftT t).bytes (leftT t).bits = Z at *
  generalize leftT t = q at *
  have HREC0 := Lib.hid hrec
  clear hrec
  generalize formF (f + 1) t = R at *
  subst hz
  go_enter Tryz.func62, Tryz.ntmps62
  go_upto_region 1 with fail
  have hbx := tbox_new w t so c
  have hba : Below w.heap.size w (w.alloc (.cells #[.int .i64 t.kind, .int .i64 t.int, .int .i64 t.gen, .string t.name, .string t.func, .int .i64 t.arity, .slice so t.items.length c, .string t.bytes, .int .i64 t.bits] 28)) := (Below.refl _ _).alloc (Nat.le_refl _) _
  generalize w.alloc (.cells #[.int .i64 t.kind, .int .i64 t.int, .int .i64 t.gen, .string t.name, .string t.func, .int .i64 t.arity, .slice so t.items.length c, .string t.bytes, .int .i64 t.bits] 28) = Wa at *
  have HREC : Hid (FormAt f t so Wa (t.items.all (formF f))) := Lib.hid (HREC0.out Wa hba)
  clear HREC0
  generalize hBz : w.heap.size = B at *
  have HBZ := Lib.hid hBz; have HBA := Lib.hid hba; have HBX := Lib.hid hbx
  clear hBz hba
  have hlb := lt_of_row hbx
  have c0 : Wa.cell? ⟨B, 0, none⟩ = some (.int .i64 t.kind) := by rw [cell_of_row _ _ _ _ _ _ hbx]; rfl
  have c1 : Wa.cell? ⟨B, 1, none⟩ = some (.int .i64 t.int) := by rw [cell_of_row _ _ _ _ _ _ hbx]; rfl
  have c2 : Wa.cell? ⟨B, 2, none⟩ = some (.int .i64 t.gen) := by rw [cell_of_row _ _ _ _ _ _ hbx]; rfl
  have c3 : Wa.cell? ⟨B, 3, none⟩ = some (.string t.name) := by rw [cell_of_row _ _ _ _ _ _ hbx]; rfl
  have c4 : Wa.cell? ⟨B, 4, none⟩ = some (.string t.func) := by rw [cell_of_row _ _ _ _ _ _ hbx]; rfl
  have c5 : Wa.cell? ⟨B, 5, none⟩ = some (.int .i64 t.arity) := by rw [cell_of_row _ _ _ _ _ _ hbx]; rfl
  have c6 : Wa.cell? ⟨B, 6, none⟩ = some (.slice so t.items.length c) := by rw [cell_of_row _ _ _ _ _ _ hbx]; rfl
  have c7 : Wa.cell? ⟨B, 7, none⟩ = some (.string t.bytes) := by rw [cell_of_row _ _ _ _ _ _ hbx]; rfl
  have c8 : Wa.cell? ⟨B, 8, none⟩ = some (.int .i64 t.bits) := by rw [cell_of_row _ _ _ _ _ _ hbx]; rfl
  clear hbx
  have HFIN : Hid (∀ wx, Below Wa.heap.size Wa wx → Below B w wx) := Lib.hid (fun wx hh => HBA.out.trans (hh.mono (by have := HBA.out.size; have := HBZ.out; omega)))
  go_wp2_with fail
  refine (hB _).mono ?_
  rintro e w1 ⟨so', c', rfl, hb1⟩
  go_wp2_with fail
  refine (hZ so' c' _).mono ?_
  rintro e w2 ⟨rfl, hb2⟩
  clear hZ hB
  have HB2 : Hid (Below Wa.heap.size Wa w2) := Lib.hid (below_next hb1 hb2)
  clear hb1 hb2
  have HET : Hid (∀ A, t.items.all (formF f) = A → R = (okK t && A)) := Lib.hid (fun A h => by rw [HE.out, h, Bool.and_true])
  clear HE
  have HAK : Hid (t.items.all (formF f) = (t.items.drop 0).all (formF f)) := Lib.hid rfl
  generalize t.items.all (formF f) = A at HREC HET HAK
  go_wp2_with fail
  go_loopw [3] (fun iv wr => ∃ (k : Nat), k ≤ t.items.length ∧ iv = .int .i64 k ∧ Hid (A = (t.items.drop k).all (formF f)) ∧ Hid (Below Wa.heap.size Wa wr)) (fun iv _ => t.items.length - (intOf iv).toNat)
  case atStart => exact ⟨0, Nat.zero_le _, rfl, HAK, HB2⟩
  case round =>
    obtain ⟨k, hk, rfl, HK, HBk⟩ := hrel
    rename World => wr
    clear c0 c1 c2 c3 c4 c5 c6 c7 c8
    have hb1 := (HBk.out.block B (lt_of_row HBX.out)).trans HBX.out
    have hlb1 := lt_of_row hb1
    have c0 : wr.cell? ⟨B, 0, none⟩ = some (.int .i64 t.kind) := by rw [cell_of_row _ _ _ _ _ _ hb1]; rfl
    have c1 : wr.cell? ⟨B, 1, none⟩ = some (.int .i64 t.int) := by rw [cell_of_row _ _ _ _ _ _ hb1]; rfl
    have c2 : wr.cell? ⟨B, 2, none⟩ = some (.int .i64 t.gen) := by rw [cell_of_row _ _ _ _ _ _ hb1]; rfl
    have c3 : wr.cell? ⟨B, 3, none⟩ = some (.string t.name) := by rw [cell_of_row _ _ _ _ _ _ hb1]; rfl
    have c4 : wr.cell? ⟨B, 4, none⟩ = some (.string t.func) := by rw [cell_of_row _ _ _ _ _ _ hb1]; rfl
    have c5 : wr.cell? ⟨B, 5, none⟩ = some (.int .i64 t.arity) := by rw [cell_of_row _ _ _ _ _ _ hb1]; rfl
    have c6 : wr.cell? ⟨B, 6, none⟩ = some (.slice so t.items.length c) := by rw [cell_of_row _ _ _ _ _ _ hb1]; rfl
    have c7 : wr.cell? ⟨B, 7, none⟩ = some (.string t.bytes) := by rw [cell_of_row _ _ _ _ _ _ hb1]; rfl
    have c8 : wr.cell? ⟨B, 8, none⟩ = some (.int .i64 t.bits) := by rw [cell_of_row _ _ _ _ _ _ hb1]; rfl
    clear hb1
    by_cases hlt : k < t.items.length
    · obtain ⟨b2, off, ai, ci, hao, hb2, q0, q1, q2, q3, q4, q5, q6, q7, q8, r, hcall, hsd⟩ := HREC.out k wr hlt HBk.out HK.out
      subst hao
      have HCL := Lib.hid hcall; have HSD := Lib.hid hsd
      clear hcall hsd
      generalize t.items[k] = u at *
      cases r with
      | true =>
        go_wp2_with fail
        refine HCL.out.mono ?_
        rintro e9 w5 ⟨rfl, hb5⟩
        go_wp2_with fail
        go_roundw
        case rel => exact ⟨k + 1, by omega, by go_num, Lib.hid (by rw [HSD.out, Bool.true_and]), Lib.hid (below_next HBk.out hb5)⟩
        case measure => simp [intOf]; omega
      | false =>
        go_wp2_with fail
        refine HCL.out.mono ?_
        rintro e9 w5 ⟨rfl, hb5⟩
        go_wp2_with fail
        go_ret
        exact ⟨retb (by rw [HET.out A rfl, HSD.out]; cases okK t <;> rfl), by rw [HBZ.out]; exact HFIN.out _ (below_next HBk.out hb5)⟩
    · have E : Hid (R = okK t) := Lib.hid (by rw [HET.out A rfl, HK.out, List.drop_eq_nil_of_le (by omega)]; simp)
      have hkd := HKD.out
      have hE := E.out
      have e2 : okK t = (nameB t.name) := by unfold okK; simp [hkd, Bool.and_assoc]
      rw [e2] at hE
      rw [hkd] at c0
      clear e2 E HKD hkd
      have h0 := fun wx => rname_any t.name wx (by unfold maxLen; omega)
      generalize nameB t.name = b0 at *
      have E := Lib.hid hE
      clear hE
      go_wp2_with (first | (go_at_call 23; first | ((with_reducible refine (h0 _).mono ?_); rintro e w9 ⟨rfl, rfl⟩)))
      go_ret
      exact ⟨retb (by rw [E.out]; try simp), by rw [HBZ.out]; exact HFIN.out _ HBk.out⟩
set_option maxRecDepth 100000 in
set_option maxHeartbeats 16000000 in
theorem form_ref (f : Nat) (t : Tm) (so : Option Addr) (c : Nat) (w : World) (hok : t.Ok) (hrec : FormRec f t so w) (hz : allZ 0 (leftT t).int (leftT t).gen (leftT t).name (leftT t).func (leftT t).arity (leftT t).items.length (leftT t).bytes (leftT t).bits = true) (hkd : t.kind = 3) :
    Calls Tryz.prog 62 #[.agg #[.int .i64 t.kind, .int .i64 t.int, .int .i64 t.gen, .string t.name, .string t.func, .int .i64 t.arity, .slice so t.items.length c, .string t.bytes, .int .i64 t.bits]] w fun e w' => e = .returned (.bool (formF (f + 1) t)) ∧ Below w.heap.size w w' := by
  have HKD := Lib.hid hkd
  clear hkd
  obtain ⟨ok0, ok1, ok2, ok3, ok4, ok5, ok6, ok7, ok8⟩ := hok
  unfold maxLen at ok3 ok4 ok6 ok7
  have HE : Hid (formF (f + 1) t = ((okK t && allZ 0 (leftT t).int (leftT t).gen (leftT t).name (leftT t).func (leftT t).arity (leftT t).items.length (leftT t).bytes (leftT t).bits) && t.items.all (formF f))) := Lib.hid (by rw [loc_all]; rfl)
  have hZ := fun so' c' wx => rzero_any 0 (leftT t).int (leftT t).gen (leftT t).name (leftT t).func (leftT t).arity so' (leftT t).items.length c' (leftT t).bytes (leftT t).bits wx (Nat.le_trans (leftT_len t) (by omega))
  have hB := fun wx => rbare_any t so c wx
  unfold BareQ at hB
  generalize allZ 0 (leftT t).int (leftT t).gen (leftT t).name (leftT t).func (leftT t).arity (leftT t).items.length (leftT t).bytes (leftT t).bits = Z at *
  generalize leftT t = q at *
  have HREC0 := Lib.hid hrec
  clear hrec
  generalize formF (f + 1) t = R at *
  subst hz
  go_enter Tryz.func62, Tryz.ntmps62
  go_upto_region 1 with fail
  have hbx := tbox_new w t so c
  have hba : Below w.heap.size w (w.alloc (.cells #[.int .i64 t.kind, .int .i64 t.int, .int .i64 t.gen, .string t.name, .string t.func, .int .i64 t.arity, .slice so t.items.length c, .string t.bytes, .int .i64 t.bits] 28)) := (Below.refl _ _).alloc (Nat.le_refl _) _
  generalize w.alloc (.cells #[.int .i64 t.kind, .int .i64 t.int, .int .i64 t.gen, .string t.name, .string t.func, .int .i64 t.arity, .slice so t.items.length c, .string t.bytes, .int .i64 t.bits] 28) = Wa at *
  have HREC : Hid (FormAt f t so Wa (t.items.all (formF f))) := Lib.hid (HREC0.out Wa hba)
  clear HREC0
  generalize hBz : w.heap.size = B at *
  have HBZ := Lib.hid hBz; have HBA := Lib.hid hba; have HBX := Lib.hid hbx
  clear hBz hba
  have hlb := lt_of_row hbx
  have c0 : Wa.cell? ⟨B, 0, none⟩ = some (.int .i64 t.kind) := by rw [cell_of_row _ _ _ _ _ _ hbx]; rfl
  have c1 : Wa.cell? ⟨B, 1, none⟩ = some (.int .i64 t.int) := by rw [cell_of_row _ _ _ _ _ _ hbx]; rfl
  have c2 : Wa.cell? ⟨B, 2, none⟩ = some (.int .i64 t.gen) := by rw [cell_of_row _ _ _ _ _ _ hbx]; rfl
  have c3 : Wa.cell? ⟨B, 3, none⟩ = some (.string t.name) := by rw [cell_of_row _ _ _ _ _ _ hbx]; rfl
  have c4 : Wa.cell? ⟨B, 4, none⟩ = some (.string t.func) := by rw [cell_of_row _ _ _ _ _ _ hbx]; rfl
  have c5 : Wa.cell? ⟨B, 5, none⟩ = some (.int .i64 t.arity) := by rw [cell_of_row _ _ _ _ _ _ hbx]; rfl
  have c6 : Wa.cell? ⟨B, 6, none⟩ = some (.slice so t.items.length c) := by rw [cell_of_row _ _ _ _ _ _ hbx]; rfl
  have c7 : Wa.cell? ⟨B, 7, none⟩ = some (.string t.bytes) := by rw [cell_of_row _ _ _ _ _ _ hbx]; rfl
  have c8 : Wa.cell? ⟨B, 8, none⟩ = some (.int .i64 t.bits) := by rw [cell_of_row _ _ _ _ _ _ hbx]; rfl
  clear hbx
  have HFIN : Hid (∀ wx, Below Wa.heap.size Wa wx → Below B w wx) := Lib.hid (fun wx hh => HBA.out.trans (hh.mono (by have := HBA.out.size; have := HBZ.out; omega)))
  go_wp2_with fail
  refine (hB _).mono ?_
  rintro e w1 ⟨so', c', rfl, hb1⟩
  go_wp2_with fail
  refine (hZ so' c' _).mono ?_
  rintro e w2 ⟨rfl, hb2⟩
  clear hZ hB
  have HB2 : Hid (Below Wa.heap.size Wa w2) := Lib.hid (below_next hb1 hb2)
  clear hb1 hb2
  have HET : Hid (∀ A, t.items.all (formF f) = A → R = (okK t && A)) := Lib.hid (fun A h => by rw [HE.out, h, Bool.and_true])
  clear HE
  have HAK : Hid (t.items.all (formF f) = (t.items.drop 0).all (formF f)) := Lib.hid rfl
  generalize t.items.all (formF f) = A at HREC HET HAK
  go_wp2_with fail
  go_loopw [3] (fun iv wr => ∃ (k : Nat), k ≤ t.items.length ∧ iv = .int .i64 k ∧ Hid (A = (t.items.drop k).all (formF f)) ∧ Hid (Below Wa.heap.size Wa wr)) (fun iv _ => t.items.length - (intOf iv).toNat)
  case atStart => exact ⟨0, Nat.zero_le _, rfl, HAK, HB2⟩
  case round =>
    obtain ⟨k, hk, rfl, HK, HBk⟩ := hrel
    rename World => wr
    clear c0 c1 c2 c3 c4 c5 c6 c7 c8
    have hb1 := (HBk.out.block B (lt_of_row HBX.out)).trans HBX.out
    have hlb1 := lt_of_row hb1
    have c0 : wr.cell? ⟨B, 0, none⟩ = some (.int .i64 t.kind) := by rw [cell_of_row _ _ _ _ _ _ hb1]; rfl
    have c1 : wr.cell? ⟨B, 1, none⟩ = some (.int .i64 t.int) := by rw [cell_of_row _ _ _ _ _ _ hb1]; rfl
    have c2 : wr.cell? ⟨B, 2, none⟩ = some (.int .i64 t.gen) := by rw [cell_of_row _ _ _ _ _ _ hb1]; rfl
    have c3 : wr.cell? ⟨B, 3, none⟩ = some (.string t.name) := by rw [cell_of_row _ _ _ _ _ _ hb1]; rfl
    have c4 : wr.cell? ⟨B, 4, none⟩ = some (.string t.func) := by rw [cell_of_row _ _ _ _ _ _ hb1]; rfl
    have c5 : wr.cell? ⟨B, 5, none⟩ = some (.int .i64 t.arity) := by rw [cell_of_row _ _ _ _ _ _ hb1]; rfl
    have c6 : wr.cell? ⟨B, 6, none⟩ = some (.slice so t.items.length c) := by rw [cell_of_row _ _ _ _ _ _ hb1]; rfl
    have c7 : wr.cell? ⟨B, 7, none⟩ = some (.string t.bytes) := by rw [cell_of_row _ _ _ _ _ _ hb1]; rfl
    have c8 : wr.cell? ⟨B, 8, none⟩ = some (.int .i64 t.bits) := by rw [cell_of_row _ _ _ _ _ _ hb1]; rfl
    clear hb1
    by_cases hlt : k < t.items.length
    · obtain ⟨b2, off, ai, ci, hao, hb2, q0, q1, q2, q3, q4, q5, q6, q7, q8, r, hcall, hsd⟩ := HREC.out k wr hlt HBk.out HK.out
      subst hao
      have HCL := Lib.hid hcall; have HSD := Lib.hid hsd
      clear hcall hsd
      generalize t.items[k] = u at *
      cases r with
      | true =>
        go_wp2_with fail
        refine HCL.out.mono ?_
        rintro e9 w5 ⟨rfl, hb5⟩
        go_wp2_with fail
        go_roundw
        case rel => exact ⟨k + 1, by omega, by go_num, Lib.hid (by rw [HSD.out, Bool.true_and]), Lib.hid (below_next HBk.out hb5)⟩
        case measure => simp [intOf]; omega
      | false =>
        go_wp2_with fail
        refine HCL.out.mono ?_
        rintro e9 w5 ⟨rfl, hb5⟩
        go_wp2_with fail
        go_ret
        exact ⟨retb (by rw [HET.out A rfl, HSD.out]; cases okK t <;> rfl), by rw [HBZ.out]; exact HFIN.out _ (below_next HBk.out hb5)⟩
    · have E : Hid (R = okK t) := Lib.hid (by rw [HET.out A rfl, HK.out, List.drop_eq_nil_of_le (by omega)]; simp)
      have hkd := HKD.out
      have hE := E.out
      have e2 : okK t = (wi t.int 1 2147483647 && wi t.gen 1 2147483647 && nameB t.name) := by unfold okK; simp [hkd, Bool.and_assoc]
      rw [e2] at hE
      rw [hkd] at c0
      clear e2 E HKD hkd
      have h0 := fun wx => rbetween_any t.int 1 2147483647 wx
      have h1 := fun wx => rbetween_any t.gen 1 2147483647 wx
      have h2 := fun wx => rname_any t.name wx (by unfold maxLen; omega)
      generalize wi t.int 1 2147483647 = b0 at *
      generalize wi t.gen 1 2147483647 = b1 at *
      generalize nameB t.name = b2 at *
      have E := Lib.hid hE
      clear hE
      cases b0 with
      | false =>
        go_wp2_with (first | (go_at_call 135; first | ((with_reducible refine (h0 _).mono ?_); rintro e w9 ⟨rfl, rfl⟩) | ((with_reducible refine (h1 _).mono ?_); rintro e w9 ⟨rfl, rfl⟩)) | (go_at_call 23; first | ((with_reducible refine (h2 _).mono ?_); rintro e w9 ⟨rfl, rfl⟩)))
        go_ret
        exact ⟨retb (by rw [E.out]; try simp), by rw [HBZ.out]; exact HFIN.out _ HBk.out⟩
      | true =>
        cases b1 with
        | false =>
          go_wp2_with (first | (go_at_call 135; first | ((with_reducible refine (h0 _).mono ?_); rintro e w9 ⟨rfl, rfl⟩) | ((with_reducible refine (h1 _).mono ?_); rintro e w9 ⟨rfl, rfl⟩)) | (go_at_call 23; first | ((with_reducible refine (h2 _).mono ?_); rintro e w9 ⟨rfl, rfl⟩)))
          go_ret
          exact ⟨retb (by rw [E.out]; try simp), by rw [HBZ.out]; exact HFIN.out _ HBk.out⟩
        | true =>
          go_wp2_with (first | (go_at_call 135; first | ((with_reducible refine (h0 _).mono ?_); rintro e w9 ⟨rfl, rfl⟩) | ((with_reducible refine (h1 _).mono ?_); rintro e w9 ⟨rfl, rfl⟩)) | (go_at_call 23; first | ((with_reducible refine (h2 _).mono ?_); rintro e w9 ⟨rfl, rfl⟩)))
          go_ret
          exact ⟨retb (by rw [E.out]; try simp), by rw [HBZ.out]; exact HFIN.out _ HBk.out⟩
set_option maxRecDepth 100000 in
set_option maxHeartbeats 16000000 in
theorem form_pid (f : Nat) (t : Tm) (so : Option Addr) (c : Nat) (w : World) (hok : t.Ok) (hrec : FormRec f t so w) (hz : allZ 0 (leftT t).int (leftT t).gen (leftT t).name (leftT t).func (leftT t).arity (leftT t).items.length (leftT t).bytes (leftT t).bits = true) (hkd : t.kind = 6) :
    Calls Tryz.prog 62 #[.agg #[.int .i64 t.kind, .int .i64 t.int, .int .i64 t.gen, .string t.name, .string t.func, .int .i64 t.arity, .slice so t.items.length c, .string t.bytes, .int .i64 t.bits]] w fun e w' => e = .returned (.bool (formF (f + 1) t)) ∧ Below w.heap.size w w' := by
  have HKD := Lib.hid hkd
  clear hkd
  obtain ⟨ok0, ok1, ok2, ok3, ok4, ok5, ok6, ok7, ok8⟩ := hok
  unfold maxLen at ok3 ok4 ok6 ok7
  have HE : Hid (formF (f + 1) t = ((okK t && allZ 0 (leftT t).int (leftT t).gen (leftT t).name (leftT t).func (leftT t).arity (leftT t).items.length (leftT t).bytes (leftT t).bits) && t.items.all (formF f))) := Lib.hid (by rw [loc_all]; rfl)
  have hZ := fun so' c' wx => rzero_any 0 (leftT t).int (leftT t).gen (leftT t).name (leftT t).func (leftT t).arity so' (leftT t).items.length c' (leftT t).bytes (leftT t).bits wx (Nat.le_trans (leftT_len t) (by omega))
  have hB := fun wx => rbare_any t so c wx
  unfold BareQ at hB
  generalize allZ 0 (leftT t).int (leftT t).gen (leftT t).name (leftT t).func (leftT t).arity (leftT t).items.length (leftT t).bytes (leftT t).bits = Z at *
  generalize leftT t = q at *
  have HREC0 := Lib.hid hrec
  clear hrec
  generalize formF (f + 1) t = R at *
  subst hz
  go_enter Tryz.func62, Tryz.ntmps62
  go_upto_region 1 with fail
  have hbx := tbox_new w t so c
  have hba : Below w.heap.size w (w.alloc (.cells #[.int .i64 t.kind, .int .i64 t.int, .int .i64 t.gen, .string t.name, .string t.func, .int .i64 t.arity, .slice so t.items.length c, .string t.bytes, .int .i64 t.bits] 28)) := (Below.refl _ _).alloc (Nat.le_refl _) _
  generalize w.alloc (.cells #[.int .i64 t.kind, .int .i64 t.int, .int .i64 t.gen, .string t.name, .string t.func, .int .i64 t.arity, .slice so t.items.length c, .string t.bytes, .int .i64 t.bits] 28) = Wa at *
  have HREC : Hid (FormAt f t so Wa (t.items.all (formF f))) := Lib.hid (HREC0.out Wa hba)
  clear HREC0
  generalize hBz : w.heap.size = B at *
  have HBZ := Lib.hid hBz; have HBA := Lib.hid hba; have HBX := Lib.hid hbx
  clear hBz hba
  have hlb := lt_of_row hbx
  have c0 : Wa.cell? ⟨B, 0, none⟩ = some (.int .i64 t.kind) := by rw [cell_of_row _ _ _ _ _ _ hbx]; rfl
  have c1 : Wa.cell? ⟨B, 1, none⟩ = some (.int .i64 t.int) := by rw [cell_of_row _ _ _ _ _ _ hbx]; rfl
  have c2 : Wa.cell? ⟨B, 2, none⟩ = some (.int .i64 t.gen) := by rw [cell_of_row _ _ _ _ _ _ hbx]; rfl
  have c3 : Wa.cell? ⟨B, 3, none⟩ = some (.string t.name) := by rw [cell_of_row _ _ _ _ _ _ hbx]; rfl
  have c4 : Wa.cell? ⟨B, 4, none⟩ = some (.string t.func) := by rw [cell_of_row _ _ _ _ _ _ hbx]; rfl
  have c5 : Wa.cell? ⟨B, 5, none⟩ = some (.int .i64 t.arity) := by rw [cell_of_row _ _ _ _ _ _ hbx]; rfl
  have c6 : Wa.cell? ⟨B, 6, none⟩ = some (.slice so t.items.length c) := by rw [cell_of_row _ _ _ _ _ _ hbx]; rfl
  have c7 : Wa.cell? ⟨B, 7, none⟩ = some (.string t.bytes) := by rw [cell_of_row _ _ _ _ _ _ hbx]; rfl
  have c8 : Wa.cell? ⟨B, 8, none⟩ = some (.int .i64 t.bits) := by rw [cell_of_row _ _ _ _ _ _ hbx]; rfl
  clear hbx
  have HFIN : Hid (∀ wx, Below Wa.heap.size Wa wx → Below B w wx) := Lib.hid (fun wx hh => HBA.out.trans (hh.mono (by have := HBA.out.size; have := HBZ.out; omega)))
  go_wp2_with fail
  refine (hB _).mono ?_
  rintro e w1 ⟨so', c', rfl, hb1⟩
  go_wp2_with fail
  refine (hZ so' c' _).mono ?_
  rintro e w2 ⟨rfl, hb2⟩
  clear hZ hB
  have HB2 : Hid (Below Wa.heap.size Wa w2) := Lib.hid (below_next hb1 hb2)
  clear hb1 hb2
  have HET : Hid (∀ A, t.items.all (formF f) = A → R = (okK t && A)) := Lib.hid (fun A h => by rw [HE.out, h, Bool.and_true])
  clear HE
  have HAK : Hid (t.items.all (formF f) = (t.items.drop 0).all (formF f)) := Lib.hid rfl
  generalize t.items.all (formF f) = A at HREC HET HAK
  go_wp2_with fail
  go_loopw [3] (fun iv wr => ∃ (k : Nat), k ≤ t.items.length ∧ iv = .int .i64 k ∧ Hid (A = (t.items.drop k).all (formF f)) ∧ Hid (Below Wa.heap.size Wa wr)) (fun iv _ => t.items.length - (intOf iv).toNat)
  case atStart => exact ⟨0, Nat.zero_le _, rfl, HAK, HB2⟩
  case round =>
    obtain ⟨k, hk, rfl, HK, HBk⟩ := hrel
    rename World => wr
    clear c0 c1 c2 c3 c4 c5 c6 c7 c8
    have hb1 := (HBk.out.block B (lt_of_row HBX.out)).trans HBX.out
    have hlb1 := lt_of_row hb1
    have c0 : wr.cell? ⟨B, 0, none⟩ = some (.int .i64 t.kind) := by rw [cell_of_row _ _ _ _ _ _ hb1]; rfl
    have c1 : wr.cell? ⟨B, 1, none⟩ = some (.int .i64 t.int) := by rw [cell_of_row _ _ _ _ _ _ hb1]; rfl
    have c2 : wr.cell? ⟨B, 2, none⟩ = some (.int .i64 t.gen) := by rw [cell_of_row _ _ _ _ _ _ hb1]; rfl
    have c3 : wr.cell? ⟨B, 3, none⟩ = some (.string t.name) := by rw [cell_of_row _ _ _ _ _ _ hb1]; rfl
    have c4 : wr.cell? ⟨B, 4, none⟩ = some (.string t.func) := by rw [cell_of_row _ _ _ _ _ _ hb1]; rfl
    have c5 : wr.cell? ⟨B, 5, none⟩ = some (.int .i64 t.arity) := by rw [cell_of_row _ _ _ _ _ _ hb1]; rfl
    have c6 : wr.cell? ⟨B, 6, none⟩ = some (.slice so t.items.length c) := by rw [cell_of_row _ _ _ _ _ _ hb1]; rfl
    have c7 : wr.cell? ⟨B, 7, none⟩ = some (.string t.bytes) := by rw [cell_of_row _ _ _ _ _ _ hb1]; rfl
    have c8 : wr.cell? ⟨B, 8, none⟩ = some (.int .i64 t.bits) := by rw [cell_of_row _ _ _ _ _ _ hb1]; rfl
    clear hb1
    by_cases hlt : k < t.items.length
    · obtain ⟨b2, off, ai, ci, hao, hb2, q0, q1, q2, q3, q4, q5, q6, q7, q8, r, hcall, hsd⟩ := HREC.out k wr hlt HBk.out HK.out
      subst hao
      have HCL := Lib.hid hcall; have HSD := Lib.hid hsd
      clear hcall hsd
      generalize t.items[k] = u at *
      cases r with
      | true =>
        go_wp2_with fail
        refine HCL.out.mono ?_
        rintro e9 w5 ⟨rfl, hb5⟩
        go_wp2_with fail
        go_roundw
        case rel => exact ⟨k + 1, by omega, by go_num, Lib.hid (by rw [HSD.out, Bool.true_and]), Lib.hid (below_next HBk.out hb5)⟩
        case measure => simp [intOf]; omega
      | false =>
        go_wp2_with fail
        refine HCL.out.mono ?_
        rintro e9 w5 ⟨rfl, hb5⟩
        go_wp2_with fail
        go_ret
        exact ⟨retb (by rw [HET.out A rfl, HSD.out]; cases okK t <;> rfl), by rw [HBZ.out]; exact HFIN.out _ (below_next HBk.out hb5)⟩
    · have E : Hid (R = okK t) := Lib.hid (by rw [HET.out A rfl, HK.out, List.drop_eq_nil_of_le (by omega)]; simp)
      have hkd := HKD.out
      have hE := E.out
      have e2 : okK t = (wi t.int 1 2147483647 && wi t.gen 1 2147483647 && nameB t.name) := by unfold okK; simp [hkd, Bool.and_assoc]
      rw [e2] at hE
      rw [hkd] at c0
      clear e2 E HKD hkd
      have h0 := fun wx => rbetween_any t.int 1 2147483647 wx
      have h1 := fun wx => rbetween_any t.gen 1 2147483647 wx
      have h2 := fun wx => rname_any t.name wx (by unfold maxLen; omega)
      generalize wi t.int 1 2147483647 = b0 at *
      generalize wi t.gen 1 2147483647 = b1 at *
      generalize nameB t.name = b2 at *
      have E := Lib.hid hE
      clear hE
      cases b0 with
      | false =>
        go_wp2_with (first | (go_at_call 135; first | ((with_reducible refine (h0 _).mono ?_); rintro e w9 ⟨rfl, rfl⟩) | ((with_reducible refine (h1 _).mono ?_); rintro e w9 ⟨rfl, rfl⟩)) | (go_at_call 23; first | ((with_reducible refine (h2 _).mono ?_); rintro e w9 ⟨rfl, rfl⟩)))
        go_ret
        exact ⟨retb (by rw [E.out]; try simp), by rw [HBZ.out]; exact HFIN.out _ HBk.out⟩
      | true =>
        cases b1 with
        | false =>
          go_wp2_with (first | (go_at_call 135; first | ((with_reducible refine (h0 _).mono ?_); rintro e w9 ⟨rfl, rfl⟩) | ((with_reducible refine (h1 _).mono ?_); rintro e w9 ⟨rfl, rfl⟩)) | (go_at_call 23; first | ((with_reducible refine (h2 _).mono ?_); rintro e w9 ⟨rfl, rfl⟩)))
          go_ret
          exact ⟨retb (by rw [E.out]; try simp), by rw [HBZ.out]; exact HFIN.out _ HBk.out⟩
        | true =>
          go_wp2_with (first | (go_at_call 135; first | ((with_reducible refine (h0 _).mono ?_); rintro e w9 ⟨rfl, rfl⟩) | ((with_reducible refine (h1 _).mono ?_); rintro e w9 ⟨rfl, rfl⟩)) | (go_at_call 23; first | ((with_reducible refine (h2 _).mono ?_); rintro e w9 ⟨rfl, rfl⟩)))
          go_ret
          exact ⟨retb (by rw [E.out]; try simp), by rw [HBZ.out]; exact HFIN.out _ HBk.out⟩
set_option maxRecDepth 100000 in
set_option maxHeartbeats 16000000 in
theorem form_export (f : Nat) (t : Tm) (so : Option Addr) (c : Nat) (w : World) (hok : t.Ok) (hrec : FormRec f t so w) (hz : allZ 0 (leftT t).int (leftT t).gen (leftT t).name (leftT t).func (leftT t).arity (leftT t).items.length (leftT t).bytes (leftT t).bits = true) (hkd : t.kind = 5) :
    Calls Tryz.prog 62 #[.agg #[.int .i64 t.kind, .int .i64 t.int, .int .i64 t.gen, .string t.name, .string t.func, .int .i64 t.arity, .slice so t.items.length c, .string t.bytes, .int .i64 t.bits]] w fun e w' => e = .returned (.bool (formF (f + 1) t)) ∧ Below w.heap.size w w' := by
  have HKD := Lib.hid hkd
  clear hkd
  obtain ⟨ok0, ok1, ok2, ok3, ok4, ok5, ok6, ok7, ok8⟩ := hok
  unfold maxLen at ok3 ok4 ok6 ok7
  have HE : Hid (formF (f + 1) t = ((okK t && allZ 0 (leftT t).int (leftT t).gen (leftT t).name (leftT t).func (leftT t).arity (leftT t).items.length (leftT t).bytes (leftT t).bits) && t.items.all (formF f))) := Lib.hid (by rw [loc_all]; rfl)
  have hZ := fun so' c' wx => rzero_any 0 (leftT t).int (leftT t).gen (leftT t).name (leftT t).func (leftT t).arity so' (leftT t).items.length c' (leftT t).bytes (leftT t).bits wx (Nat.le_trans (leftT_len t) (by omega))
  have hB := fun wx => rbare_any t so c wx
  unfold BareQ at hB
  generalize allZ 0 (leftT t).int (leftT t).gen (leftT t).name (leftT t).func (leftT t).arity (leftT t).items.length (leftT t).bytes (leftT t).bits = Z at *
  generalize leftT t = q at *
  have HREC0 := Lib.hid hrec
  clear hrec
  generalize formF (f + 1) t = R at *
  subst hz
  go_enter Tryz.func62, Tryz.ntmps62
  go_upto_region 1 with fail
  have hbx := tbox_new w t so c
  have hba : Below w.heap.size w (w.alloc (.cells #[.int .i64 t.kind, .int .i64 t.int, .int .i64 t.gen, .string t.name, .string t.func, .int .i64 t.arity, .slice so t.items.length c, .string t.bytes, .int .i64 t.bits] 28)) := (Below.refl _ _).alloc (Nat.le_refl _) _
  generalize w.alloc (.cells #[.int .i64 t.kind, .int .i64 t.int, .int .i64 t.gen, .string t.name, .string t.func, .int .i64 t.arity, .slice so t.items.length c, .string t.bytes, .int .i64 t.bits] 28) = Wa at *
  have HREC : Hid (FormAt f t so Wa (t.items.all (formF f))) := Lib.hid (HREC0.out Wa hba)
  clear HREC0
  generalize hBz : w.heap.size = B at *
  have HBZ := Lib.hid hBz; have HBA := Lib.hid hba; have HBX := Lib.hid hbx
  clear hBz hba
  have hlb := lt_of_row hbx
  have c0 : Wa.cell? ⟨B, 0, none⟩ = some (.int .i64 t.kind) := by rw [cell_of_row _ _ _ _ _ _ hbx]; rfl
  have c1 : Wa.cell? ⟨B, 1, none⟩ = some (.int .i64 t.int) := by rw [cell_of_row _ _ _ _ _ _ hbx]; rfl
  have c2 : Wa.cell? ⟨B, 2, none⟩ = some (.int .i64 t.gen) := by rw [cell_of_row _ _ _ _ _ _ hbx]; rfl
  have c3 : Wa.cell? ⟨B, 3, none⟩ = some (.string t.name) := by rw [cell_of_row _ _ _ _ _ _ hbx]; rfl
  have c4 : Wa.cell? ⟨B, 4, none⟩ = some (.string t.func) := by rw [cell_of_row _ _ _ _ _ _ hbx]; rfl
  have c5 : Wa.cell? ⟨B, 5, none⟩ = some (.int .i64 t.arity) := by rw [cell_of_row _ _ _ _ _ _ hbx]; rfl
  have c6 : Wa.cell? ⟨B, 6, none⟩ = some (.slice so t.items.length c) := by rw [cell_of_row _ _ _ _ _ _ hbx]; rfl
  have c7 : Wa.cell? ⟨B, 7, none⟩ = some (.string t.bytes) := by rw [cell_of_row _ _ _ _ _ _ hbx]; rfl
  have c8 : Wa.cell? ⟨B, 8, none⟩ = some (.int .i64 t.bits) := by rw [cell_of_row _ _ _ _ _ _ hbx]; rfl
  clear hbx
  have HFIN : Hid (∀ wx, Below Wa.heap.size Wa wx → Below B w wx) := Lib.hid (fun wx hh => HBA.out.trans (hh.mono (by have := HBA.out.size; have := HBZ.out; omega)))
  go_wp2_with fail
  refine (hB _).mono ?_
  rintro e w1 ⟨so', c', rfl, hb1⟩
  go_wp2_with fail
  refine (hZ so' c' _).mono ?_
  rintro e w2 ⟨rfl, hb2⟩
  clear hZ hB
  have HB2 : Hid (Below Wa.heap.size Wa w2) := Lib.hid (below_next hb1 hb2)
  clear hb1 hb2
  have HET : Hid (∀ A, t.items.all (formF f) = A → R = (okK t && A)) := Lib.hid (fun A h => by rw [HE.out, h, Bool.and_true])
  clear HE
  have HAK : Hid (t.items.all (formF f) = (t.items.drop 0).all (formF f)) := Lib.hid rfl
  generalize t.items.all (formF f) = A at HREC HET HAK
  go_wp2_with fail
  go_loopw [3] (fun iv wr => ∃ (k : Nat), k ≤ t.items.length ∧ iv = .int .i64 k ∧ Hid (A = (t.items.drop k).all (formF f)) ∧ Hid (Below Wa.heap.size Wa wr)) (fun iv _ => t.items.length - (intOf iv).toNat)
  case atStart => exact ⟨0, Nat.zero_le _, rfl, HAK, HB2⟩
  case round =>
    obtain ⟨k, hk, rfl, HK, HBk⟩ := hrel
    rename World => wr
    clear c0 c1 c2 c3 c4 c5 c6 c7 c8
    have hb1 := (HBk.out.block B (lt_of_row HBX.out)).trans HBX.out
    have hlb1 := lt_of_row hb1
    have c0 : wr.cell? ⟨B, 0, none⟩ = some (.int .i64 t.kind) := by rw [cell_of_row _ _ _ _ _ _ hb1]; rfl
    have c1 : wr.cell? ⟨B, 1, none⟩ = some (.int .i64 t.int) := by rw [cell_of_row _ _ _ _ _ _ hb1]; rfl
    have c2 : wr.cell? ⟨B, 2, none⟩ = some (.int .i64 t.gen) := by rw [cell_of_row _ _ _ _ _ _ hb1]; rfl
    have c3 : wr.cell? ⟨B, 3, none⟩ = some (.string t.name) := by rw [cell_of_row _ _ _ _ _ _ hb1]; rfl
    have c4 : wr.cell? ⟨B, 4, none⟩ = some (.string t.func) := by rw [cell_of_row _ _ _ _ _ _ hb1]; rfl
    have c5 : wr.cell? ⟨B, 5, none⟩ = some (.int .i64 t.arity) := by rw [cell_of_row _ _ _ _ _ _ hb1]; rfl
    have c6 : wr.cell? ⟨B, 6, none⟩ = some (.slice so t.items.length c) := by rw [cell_of_row _ _ _ _ _ _ hb1]; rfl
    have c7 : wr.cell? ⟨B, 7, none⟩ = some (.string t.bytes) := by rw [cell_of_row _ _ _ _ _ _ hb1]; rfl
    have c8 : wr.cell? ⟨B, 8, none⟩ = some (.int .i64 t.bits) := by rw [cell_of_row _ _ _ _ _ _ hb1]; rfl
    clear hb1
    by_cases hlt : k < t.items.length
    · obtain ⟨b2, off, ai, ci, hao, hb2, q0, q1, q2, q3, q4, q5, q6, q7, q8, r, hcall, hsd⟩ := HREC.out k wr hlt HBk.out HK.out
      subst hao
      have HCL := Lib.hid hcall; have HSD := Lib.hid hsd
      clear hcall hsd
      generalize t.items[k] = u at *
      cases r with
      | true =>
        go_wp2_with fail
        refine HCL.out.mono ?_
        rintro e9 w5 ⟨rfl, hb5⟩
        go_wp2_with fail
        go_roundw
        case rel => exact ⟨k + 1, by omega, by go_num, Lib.hid (by rw [HSD.out, Bool.true_and]), Lib.hid (below_next HBk.out hb5)⟩
        case measure => simp [intOf]; omega
      | false =>
        go_wp2_with fail
        refine HCL.out.mono ?_
        rintro e9 w5 ⟨rfl, hb5⟩
        go_wp2_with fail
        go_ret
        exact ⟨retb (by rw [HET.out A rfl, HSD.out]; cases okK t <;> rfl), by rw [HBZ.out]; exact HFIN.out _ (below_next HBk.out hb5)⟩
    · have E : Hid (R = okK t) := Lib.hid (by rw [HET.out A rfl, HK.out, List.drop_eq_nil_of_le (by omega)]; simp)
      have hkd := HKD.out
      have hE := E.out
      have e2 : okK t = (nameB t.name && nameB t.func && wi t.arity 0 16) := by unfold okK; simp [hkd, Bool.and_assoc]
      rw [e2] at hE
      rw [hkd] at c0
      clear e2 E HKD hkd
      have h0 := fun wx => rname_any t.name wx (by unfold maxLen; omega)
      have h1 := fun wx => rname_any t.func wx (by unfold maxLen; omega)
      have h2 := fun wx => rbetween_any t.arity 0 16 wx
      generalize nameB t.name = b0 at *
      generalize nameB t.func = b1 at *
      generalize wi t.arity 0 16 = b2 at *
      have E := Lib.hid hE
      clear hE
      cases b0 with
      | false =>
        go_wp2_with (first | (go_at_call 135; first | ((with_reducible refine (h2 _).mono ?_); rintro e w9 ⟨rfl, rfl⟩)) | (go_at_call 23; first | ((with_reducible refine (h0 _).mono ?_); rintro e w9 ⟨rfl, rfl⟩) | ((with_reducible refine (h1 _).mono ?_); rintro e w9 ⟨rfl, rfl⟩)))
        go_ret
        exact ⟨retb (by rw [E.out]; try simp), by rw [HBZ.out]; exact HFIN.out _ HBk.out⟩
      | true =>
        cases b1 with
        | false =>
          go_wp2_with (first | (go_at_call 135; first | ((with_reducible refine (h2 _).mono ?_); rintro e w9 ⟨rfl, rfl⟩)) | (go_at_call 23; first | ((with_reducible refine (h0 _).mono ?_); rintro e w9 ⟨rfl, rfl⟩) | ((with_reducible refine (h1 _).mono ?_); rintro e w9 ⟨rfl, rfl⟩)))
          go_ret
          exact ⟨retb (by rw [E.out]; try simp), by rw [HBZ.out]; exact HFIN.out _ HBk.out⟩
        | true =>
          go_wp2_with (first | (go_at_call 135; first | ((with_reducible refine (h2 _).mono ?_); rintro e w9 ⟨rfl, rfl⟩)) | (go_at_call 23; first | ((with_reducible refine (h0 _).mono ?_); rintro e w9 ⟨rfl, rfl⟩) | ((with_reducible refine (h1 _).mono ?_); rintro e w9 ⟨rfl, rfl⟩)))
          go_ret
          exact ⟨retb (by rw [E.out]; try simp), by rw [HBZ.out]; exact HFIN.out _ HBk.out⟩
set_option maxRecDepth 100000 in
set_option maxHeartbeats 16000000 in
theorem form_bits (f : Nat) (t : Tm) (so : Option Addr) (c : Nat) (w : World) (hok : t.Ok) (hrec : FormRec f t so w) (hz : allZ 0 (leftT t).int (leftT t).gen (leftT t).name (leftT t).func (leftT t).arity (leftT t).items.length (leftT t).bytes (leftT t).bits = true) (hkd : t.kind = 10) :
    Calls Tryz.prog 62 #[.agg #[.int .i64 t.kind, .int .i64 t.int, .int .i64 t.gen, .string t.name, .string t.func, .int .i64 t.arity, .slice so t.items.length c, .string t.bytes, .int .i64 t.bits]] w fun e w' => e = .returned (.bool (formF (f + 1) t)) ∧ Below w.heap.size w w' := by
  have HKD := Lib.hid hkd
  clear hkd
  obtain ⟨ok0, ok1, ok2, ok3, ok4, ok5, ok6, ok7, ok8⟩ := hok
  unfold maxLen at ok3 ok4 ok6 ok7
  have HE : Hid (formF (f + 1) t = ((okK t && allZ 0 (leftT t).int (leftT t).gen (leftT t).name (leftT t).func (leftT t).arity (leftT t).items.length (leftT t).bytes (leftT t).bits) && t.items.all (formF f))) := Lib.hid (by rw [loc_all]; rfl)
  have hZ := fun so' c' wx => rzero_any 0 (leftT t).int (leftT t).gen (leftT t).name (leftT t).func (leftT t).arity so' (leftT t).items.length c' (leftT t).bytes (leftT t).bits wx (Nat.le_trans (leftT_len t) (by omega))
  have hB := fun wx => rbare_any t so c wx
  unfold BareQ at hB
  generalize allZ 0 (leftT t).int (leftT t).gen (leftT t).name (leftT t).func (leftT t).arity (leftT t).items.length (leftT t).bytes (leftT t).bits = Z at *
  generalize leftT t = q at *
  have HREC0 := Lib.hid hrec
  clear hrec
  generalize formF (f + 1) t = R at *
  subst hz
  go_enter Tryz.func62, Tryz.ntmps62
  go_upto_region 1 with fail
  have hbx := tbox_new w t so c
  have hba : Below w.heap.size w (w.alloc (.cells #[.int .i64 t.kind, .int .i64 t.int, .int .i64 t.gen, .string t.name, .string t.func, .int .i64 t.arity, .slice so t.items.length c, .string t.bytes, .int .i64 t.bits] 28)) := (Below.refl _ _).alloc (Nat.le_refl _) _
  generalize w.alloc (.cells #[.int .i64 t.kind, .int .i64 t.int, .int .i64 t.gen, .string t.name, .string t.func, .int .i64 t.arity, .slice so t.items.length c, .string t.bytes, .int .i64 t.bits] 28) = Wa at *
  have HREC : Hid (FormAt f t so Wa (t.items.all (formF f))) := Lib.hid (HREC0.out Wa hba)
  clear HREC0
  generalize hBz : w.heap.size = B at *
  have HBZ := Lib.hid hBz; have HBA := Lib.hid hba; have HBX := Lib.hid hbx
  clear hBz hba
  have hlb := lt_of_row hbx
  have c0 : Wa.cell? ⟨B, 0, none⟩ = some (.int .i64 t.kind) := by rw [cell_of_row _ _ _ _ _ _ hbx]; rfl
  have c1 : Wa.cell? ⟨B, 1, none⟩ = some (.int .i64 t.int) := by rw [cell_of_row _ _ _ _ _ _ hbx]; rfl
  have c2 : Wa.cell? ⟨B, 2, none⟩ = some (.int .i64 t.gen) := by rw [cell_of_row _ _ _ _ _ _ hbx]; rfl
  have c3 : Wa.cell? ⟨B, 3, none⟩ = some (.string t.name) := by rw [cell_of_row _ _ _ _ _ _ hbx]; rfl
  have c4 : Wa.cell? ⟨B, 4, none⟩ = some (.string t.func) := by rw [cell_of_row _ _ _ _ _ _ hbx]; rfl
  have c5 : Wa.cell? ⟨B, 5, none⟩ = some (.int .i64 t.arity) := by rw [cell_of_row _ _ _ _ _ _ hbx]; rfl
  have c6 : Wa.cell? ⟨B, 6, none⟩ = some (.slice so t.items.length c) := by rw [cell_of_row _ _ _ _ _ _ hbx]; rfl
  have c7 : Wa.cell? ⟨B, 7, none⟩ = some (.string t.bytes) := by rw [cell_of_row _ _ _ _ _ _ hbx]; rfl
  have c8 : Wa.cell? ⟨B, 8, none⟩ = some (.int .i64 t.bits) := by rw [cell_of_row _ _ _ _ _ _ hbx]; rfl
  clear hbx
  have HFIN : Hid (∀ wx, Below Wa.heap.size Wa wx → Below B w wx) := Lib.hid (fun wx hh => HBA.out.trans (hh.mono (by have := HBA.out.size; have := HBZ.out; omega)))
  go_wp2_with fail
  refine (hB _).mono ?_
  rintro e w1 ⟨so', c', rfl, hb1⟩
  go_wp2_with fail
  refine (hZ so' c' _).mono ?_
  rintro e w2 ⟨rfl, hb2⟩
  clear hZ hB
  have HB2 : Hid (Below Wa.heap.size Wa w2) := Lib.hid (below_next hb1 hb2)
  clear hb1 hb2
  have HET : Hid (∀ A, t.items.all (formF f) = A → R = (okK t && A)) := Lib.hid (fun A h => by rw [HE.out, h, Bool.and_true])
  clear HE
  have HAK : Hid (t.items.all (formF f) = (t.items.drop 0).all (formF f)) := Lib.hid rfl
  generalize t.items.all (formF f) = A at HREC HET HAK
  go_wp2_with fail
  go_loopw [3] (fun iv wr => ∃ (k : Nat), k ≤ t.items.length ∧ iv = .int .i64 k ∧ Hid (A = (t.items.drop k).all (formF f)) ∧ Hid (Below Wa.heap.size Wa wr)) (fun iv _ => t.items.length - (intOf iv).toNat)
  case atStart => exact ⟨0, Nat.zero_le _, rfl, HAK, HB2⟩
  case round =>
    obtain ⟨k, hk, rfl, HK, HBk⟩ := hrel
    rename World => wr
    clear c0 c1 c2 c3 c4 c5 c6 c7 c8
    have hb1 := (HBk.out.block B (lt_of_row HBX.out)).trans HBX.out
    have hlb1 := lt_of_row hb1
    have c0 : wr.cell? ⟨B, 0, none⟩ = some (.int .i64 t.kind) := by rw [cell_of_row _ _ _ _ _ _ hb1]; rfl
    have c1 : wr.cell? ⟨B, 1, none⟩ = some (.int .i64 t.int) := by rw [cell_of_row _ _ _ _ _ _ hb1]; rfl
    have c2 : wr.cell? ⟨B, 2, none⟩ = some (.int .i64 t.gen) := by rw [cell_of_row _ _ _ _ _ _ hb1]; rfl
    have c3 : wr.cell? ⟨B, 3, none⟩ = some (.string t.name) := by rw [cell_of_row _ _ _ _ _ _ hb1]; rfl
    have c4 : wr.cell? ⟨B, 4, none⟩ = some (.string t.func) := by rw [cell_of_row _ _ _ _ _ _ hb1]; rfl
    have c5 : wr.cell? ⟨B, 5, none⟩ = some (.int .i64 t.arity) := by rw [cell_of_row _ _ _ _ _ _ hb1]; rfl
    have c6 : wr.cell? ⟨B, 6, none⟩ = some (.slice so t.items.length c) := by rw [cell_of_row _ _ _ _ _ _ hb1]; rfl
    have c7 : wr.cell? ⟨B, 7, none⟩ = some (.string t.bytes) := by rw [cell_of_row _ _ _ _ _ _ hb1]; rfl
    have c8 : wr.cell? ⟨B, 8, none⟩ = some (.int .i64 t.bits) := by rw [cell_of_row _ _ _ _ _ _ hb1]; rfl
    clear hb1
    by_cases hlt : k < t.items.length
    · obtain ⟨b2, off, ai, ci, hao, hb2, q0, q1, q2, q3, q4, q5, q6, q7, q8, r, hcall, hsd⟩ := HREC.out k wr hlt HBk.out HK.out
      subst hao
      have HCL := Lib.hid hcall; have HSD := Lib.hid hsd
      clear hcall hsd
      generalize t.items[k] = u at *
      cases r with
      | true =>
        go_wp2_with fail
        refine HCL.out.mono ?_
        rintro e9 w5 ⟨rfl, hb5⟩
        go_wp2_with fail
        go_roundw
        case rel => exact ⟨k + 1, by omega, by go_num, Lib.hid (by rw [HSD.out, Bool.true_and]), Lib.hid (below_next HBk.out hb5)⟩
        case measure => simp [intOf]; omega
      | false =>
        go_wp2_with fail
        refine HCL.out.mono ?_
        rintro e9 w5 ⟨rfl, hb5⟩
        go_wp2_with fail
        go_ret
        exact ⟨retb (by rw [HET.out A rfl, HSD.out]; cases okK t <;> rfl), by rw [HBZ.out]; exact HFIN.out _ (below_next HBk.out hb5)⟩
    · have E : Hid (R = okK t) := Lib.hid (by rw [HET.out A rfl, HK.out, List.drop_eq_nil_of_le (by omega)]; simp)
      have hkd := HKD.out
      have e2 : okK t = bitsV t.bytes t.bits := by unfold okK bitsB; simp [hkd]
      rw [hkd] at c0
      have E2 := Lib.hid (E.out.trans e2)
      clear E HKD hkd e2
      go_wp2_with fail
      refine (rbits_any _ _ _ _ _ _ _ _ _ _ _ _ ok7 ok8).mono ?_
      rintro e9 w7 ⟨rfl, hb7⟩
      go_wp2_with fail
      go_ret
      exact ⟨retb E2.out.symm, by rw [HBZ.out]; exact HFIN.out _ (below_next HBk.out hb7)⟩
set_option maxRecDepth 100000 in
set_option maxHeartbeats 16000000 in
theorem form_other (f : Nat) (t : Tm) (so : Option Addr) (c : Nat) (w : World) (hok : t.Ok) (hrec : FormRec f t so w) (hz : allZ 0 (leftT t).int (leftT t).gen (leftT t).name (leftT t).func (leftT t).arity (leftT t).items.length (leftT t).bytes (leftT t).bits = true) (hkd : ¬ (t.kind = 1 ∨ t.kind = 2 ∨ t.kind = 3 ∨ t.kind = 4 ∨ t.kind = 5 ∨ t.kind = 6 ∨ t.kind = 7 ∨ t.kind = 8 ∨ t.kind = 9 ∨ t.kind = 10)) :
    Calls Tryz.prog 62 #[.agg #[.int .i64 t.kind, .int .i64 t.int, .int .i64 t.gen, .string t.name, .string t.func, .int .i64 t.arity, .slice so t.items.length c, .string t.bytes, .int .i64 t.bits]] w fun e w' => e = .returned (.bool (formF (f + 1) t)) ∧ Below w.heap.size w w' := by
  have HKD := Lib.hid hkd
  clear hkd
  obtain ⟨ok0, ok1, ok2, ok3, ok4, ok5, ok6, ok7, ok8⟩ := hok
  unfold maxLen at ok3 ok4 ok6 ok7
  have HE : Hid (formF (f + 1) t = ((okK t && allZ 0 (leftT t).int (leftT t).gen (leftT t).name (leftT t).func (leftT t).arity (leftT t).items.length (leftT t).bytes (leftT t).bits) && t.items.all (formF f))) := Lib.hid (by rw [loc_all]; rfl)
  have hZ := fun so' c' wx => rzero_any 0 (leftT t).int (leftT t).gen (leftT t).name (leftT t).func (leftT t).arity so' (leftT t).items.length c' (leftT t).bytes (leftT t).bits wx (Nat.le_trans (leftT_len t) (by omega))
  have hB := fun wx => rbare_any t so c wx
  unfold BareQ at hB
  generalize allZ 0 (leftT t).int (leftT t).gen (leftT t).name (leftT t).func (leftT t).arity (leftT t).items.length (leftT t).bytes (leftT t).bits = Z at *
  generalize leftT t = q at *
  have HREC0 := Lib.hid hrec
  clear hrec
  generalize formF (f + 1) t = R at *
  subst hz
  go_enter Tryz.func62, Tryz.ntmps62
  go_upto_region 1 with fail
  have hbx := tbox_new w t so c
  have hba : Below w.heap.size w (w.alloc (.cells #[.int .i64 t.kind, .int .i64 t.int, .int .i64 t.gen, .string t.name, .string t.func, .int .i64 t.arity, .slice so t.items.length c, .string t.bytes, .int .i64 t.bits] 28)) := (Below.refl _ _).alloc (Nat.le_refl _) _
  generalize w.alloc (.cells #[.int .i64 t.kind, .int .i64 t.int, .int .i64 t.gen, .string t.name, .string t.func, .int .i64 t.arity, .slice so t.items.length c, .string t.bytes, .int .i64 t.bits] 28) = Wa at *
  have HREC : Hid (FormAt f t so Wa (t.items.all (formF f))) := Lib.hid (HREC0.out Wa hba)
  clear HREC0
  generalize hBz : w.heap.size = B at *
  have HBZ := Lib.hid hBz; have HBA := Lib.hid hba; have HBX := Lib.hid hbx
  clear hBz hba
  have hlb := lt_of_row hbx
  have c0 : Wa.cell? ⟨B, 0, none⟩ = some (.int .i64 t.kind) := by rw [cell_of_row _ _ _ _ _ _ hbx]; rfl
  have c1 : Wa.cell? ⟨B, 1, none⟩ = some (.int .i64 t.int) := by rw [cell_of_row _ _ _ _ _ _ hbx]; rfl
  have c2 : Wa.cell? ⟨B, 2, none⟩ = some (.int .i64 t.gen) := by rw [cell_of_row _ _ _ _ _ _ hbx]; rfl
  have c3 : Wa.cell? ⟨B, 3, none⟩ = some (.string t.name) := by rw [cell_of_row _ _ _ _ _ _ hbx]; rfl
  have c4 : Wa.cell? ⟨B, 4, none⟩ = some (.string t.func) := by rw [cell_of_row _ _ _ _ _ _ hbx]; rfl
  have c5 : Wa.cell? ⟨B, 5, none⟩ = some (.int .i64 t.arity) := by rw [cell_of_row _ _ _ _ _ _ hbx]; rfl
  have c6 : Wa.cell? ⟨B, 6, none⟩ = some (.slice so t.items.length c) := by rw [cell_of_row _ _ _ _ _ _ hbx]; rfl
  have c7 : Wa.cell? ⟨B, 7, none⟩ = some (.string t.bytes) := by rw [cell_of_row _ _ _ _ _ _ hbx]; rfl
  have c8 : Wa.cell? ⟨B, 8, none⟩ = some (.int .i64 t.bits) := by rw [cell_of_row _ _ _ _ _ _ hbx]; rfl
  clear hbx
  have HFIN : Hid (∀ wx, Below Wa.heap.size Wa wx → Below B w wx) := Lib.hid (fun wx hh => HBA.out.trans (hh.mono (by have := HBA.out.size; have := HBZ.out; omega)))
  go_wp2_with fail
  refine (hB _).mono ?_
  rintro e w1 ⟨so', c', rfl, hb1⟩
  go_wp2_with fail
  refine (hZ so' c' _).mono ?_
  rintro e w2 ⟨rfl, hb2⟩
  clear hZ hB
  have HB2 : Hid (Below Wa.heap.size Wa w2) := Lib.hid (below_next hb1 hb2)
  clear hb1 hb2
  have HET : Hid (∀ A, t.items.all (formF f) = A → R = (okK t && A)) := Lib.hid (fun A h => by rw [HE.out, h, Bool.and_true])
  clear HE
  have HAK : Hid (t.items.all (formF f) = (t.items.drop 0).all (formF f)) := Lib.hid rfl
  generalize t.items.all (formF f) = A at HREC HET HAK
  go_wp2_with fail
  go_loopw [3] (fun iv wr => ∃ (k : Nat), k ≤ t.items.length ∧ iv = .int .i64 k ∧ Hid (A = (t.items.drop k).all (formF f)) ∧ Hid (Below Wa.heap.size Wa wr)) (fun iv _ => t.items.length - (intOf iv).toNat)
  case atStart => exact ⟨0, Nat.zero_le _, rfl, HAK, HB2⟩
  case round =>
    obtain ⟨k, hk, rfl, HK, HBk⟩ := hrel
    rename World => wr
    clear c0 c1 c2 c3 c4 c5 c6 c7 c8
    have hb1 := (HBk.out.block B (lt_of_row HBX.out)).trans HBX.out
    have hlb1 := lt_of_row hb1
    have c0 : wr.cell? ⟨B, 0, none⟩ = some (.int .i64 t.kind) := by rw [cell_of_row _ _ _ _ _ _ hb1]; rfl
    have c1 : wr.cell? ⟨B, 1, none⟩ = some (.int .i64 t.int) := by rw [cell_of_row _ _ _ _ _ _ hb1]; rfl
    have c2 : wr.cell? ⟨B, 2, none⟩ = some (.int .i64 t.gen) := by rw [cell_of_row _ _ _ _ _ _ hb1]; rfl
    have c3 : wr.cell? ⟨B, 3, none⟩ = some (.string t.name) := by rw [cell_of_row _ _ _ _ _ _ hb1]; rfl
    have c4 : wr.cell? ⟨B, 4, none⟩ = some (.string t.func) := by rw [cell_of_row _ _ _ _ _ _ hb1]; rfl
    have c5 : wr.cell? ⟨B, 5, none⟩ = some (.int .i64 t.arity) := by rw [cell_of_row _ _ _ _ _ _ hb1]; rfl
    have c6 : wr.cell? ⟨B, 6, none⟩ = some (.slice so t.items.length c) := by rw [cell_of_row _ _ _ _ _ _ hb1]; rfl
    have c7 : wr.cell? ⟨B, 7, none⟩ = some (.string t.bytes) := by rw [cell_of_row _ _ _ _ _ _ hb1]; rfl
    have c8 : wr.cell? ⟨B, 8, none⟩ = some (.int .i64 t.bits) := by rw [cell_of_row _ _ _ _ _ _ hb1]; rfl
    clear hb1
    by_cases hlt : k < t.items.length
    · obtain ⟨b2, off, ai, ci, hao, hb2, q0, q1, q2, q3, q4, q5, q6, q7, q8, r, hcall, hsd⟩ := HREC.out k wr hlt HBk.out HK.out
      subst hao
      have HCL := Lib.hid hcall; have HSD := Lib.hid hsd
      clear hcall hsd
      generalize t.items[k] = u at *
      cases r with
      | true =>
        go_wp2_with fail
        refine HCL.out.mono ?_
        rintro e9 w5 ⟨rfl, hb5⟩
        go_wp2_with fail
        go_roundw
        case rel => exact ⟨k + 1, by omega, by go_num, Lib.hid (by rw [HSD.out, Bool.true_and]), Lib.hid (below_next HBk.out hb5)⟩
        case measure => simp [intOf]; omega
      | false =>
        go_wp2_with fail
        refine HCL.out.mono ?_
        rintro e9 w5 ⟨rfl, hb5⟩
        go_wp2_with fail
        go_ret
        exact ⟨retb (by rw [HET.out A rfl, HSD.out]; cases okK t <;> rfl), by rw [HBZ.out]; exact HFIN.out _ (below_next HBk.out hb5)⟩
    · have E : Hid (R = okK t) := Lib.hid (by rw [HET.out A rfl, HK.out, List.drop_eq_nil_of_le (by omega)]; simp)
      have hkd := HKD.out
      have E2 := Lib.hid (E.out.trans (okK_none hkd))
      have t1 : (t.kind == 1) = false := beq_eq_false_iff_ne.2 (fun e => hkd (by omega))
      have t2 : (t.kind == 2) = false := beq_eq_false_iff_ne.2 (fun e => hkd (by omega))
      have t3 : (t.kind == 3) = false := beq_eq_false_iff_ne.2 (fun e => hkd (by omega))
      have t4 : (t.kind == 4) = false := beq_eq_false_iff_ne.2 (fun e => hkd (by omega))
      have t5 : (t.kind == 5) = false := beq_eq_false_iff_ne.2 (fun e => hkd (by omega))
      have t6 : (t.kind == 6) = false := beq_eq_false_iff_ne.2 (fun e => hkd (by omega))
      have t7 : (t.kind == 7) = false := beq_eq_false_iff_ne.2 (fun e => hkd (by omega))
      have t8 : (t.kind == 8) = false := beq_eq_false_iff_ne.2 (fun e => hkd (by omega))
      have t9 : (t.kind == 9) = false := beq_eq_false_iff_ne.2 (fun e => hkd (by omega))
      have t10 : (t.kind == 10) = false := beq_eq_false_iff_ne.2 (fun e => hkd (by omega))
      clear hkd HKD E
      go_wp2_with fail
      go_ret
      exact ⟨retb E2.out.symm, by rw [HBZ.out]; exact HFIN.out _ HBk.out⟩
set_option maxRecDepth 100000 in
set_option maxHeartbeats 16000000 in
theorem form_tuple (f : Nat) (t : Tm) (so : Option Addr) (c : Nat) (w : World) (hok : t.Ok) (hrec : FormRec f t so w) (hz : allZ 0 (leftT t).int (leftT t).gen (leftT t).name (leftT t).func (leftT t).arity (leftT t).items.length (leftT t).bytes (leftT t).bits = true) (hkd : t.kind = 7) :
    Calls Tryz.prog 62 #[.agg #[.int .i64 t.kind, .int .i64 t.int, .int .i64 t.gen, .string t.name, .string t.func, .int .i64 t.arity, .slice so t.items.length c, .string t.bytes, .int .i64 t.bits]] w fun e w' => e = .returned (.bool (formF (f + 1) t)) ∧ Below w.heap.size w w' := by
  have HKD := Lib.hid hkd
  clear hkd
  obtain ⟨ok0, ok1, ok2, ok3, ok4, ok5, ok6, ok7, ok8⟩ := hok
  unfold maxLen at ok3 ok4 ok6 ok7
  have HE : Hid (formF (f + 1) t = ((okK t && allZ 0 (leftT t).int (leftT t).gen (leftT t).name (leftT t).func (leftT t).arity (leftT t).items.length (leftT t).bytes (leftT t).bits) && t.items.all (formF f))) := Lib.hid (by rw [loc_all]; rfl)
  have hZ := fun so' c' wx => rzero_any 0 (leftT t).int (leftT t).gen (leftT t).name (leftT t).func (leftT t).arity so' (leftT t).items.length c' (leftT t).bytes (leftT t).bits wx (Nat.le_trans (leftT_len t) (by omega))
  have hB := fun wx => rbare_any t so c wx
  unfold BareQ at hB
  generalize allZ 0 (leftT t).int (leftT t).gen (leftT t).name (leftT t).func (leftT t).arity (leftT t).items.length (leftT t).bytes (leftT t).bits = Z at *
  generalize leftT t = q at *
  have HREC0 := Lib.hid hrec
  clear hrec
  generalize formF (f + 1) t = R at *
  subst hz
  go_enter Tryz.func62, Tryz.ntmps62
  go_upto_region 1 with fail
  have hbx := tbox_new w t so c
  have hba : Below w.heap.size w (w.alloc (.cells #[.int .i64 t.kind, .int .i64 t.int, .int .i64 t.gen, .string t.name, .string t.func, .int .i64 t.arity, .slice so t.items.length c, .string t.bytes, .int .i64 t.bits] 28)) := (Below.refl _ _).alloc (Nat.le_refl _) _
  generalize w.alloc (.cells #[.int .i64 t.kind, .int .i64 t.int, .int .i64 t.gen, .string t.name, .string t.func, .int .i64 t.arity, .slice so t.items.length c, .string t.bytes, .int .i64 t.bits] 28) = Wa at *
  have HREC : Hid (FormAt f t so Wa (t.items.all (formF f))) := Lib.hid (HREC0.out Wa hba)
  clear HREC0
  generalize hBz : w.heap.size = B at *
  have HBZ := Lib.hid hBz; have HBA := Lib.hid hba; have HBX := Lib.hid hbx
  clear hBz hba
  have hlb := lt_of_row hbx
  have c0 : Wa.cell? ⟨B, 0, none⟩ = some (.int .i64 t.kind) := by rw [cell_of_row _ _ _ _ _ _ hbx]; rfl
  have c1 : Wa.cell? ⟨B, 1, none⟩ = some (.int .i64 t.int) := by rw [cell_of_row _ _ _ _ _ _ hbx]; rfl
  have c2 : Wa.cell? ⟨B, 2, none⟩ = some (.int .i64 t.gen) := by rw [cell_of_row _ _ _ _ _ _ hbx]; rfl
  have c3 : Wa.cell? ⟨B, 3, none⟩ = some (.string t.name) := by rw [cell_of_row _ _ _ _ _ _ hbx]; rfl
  have c4 : Wa.cell? ⟨B, 4, none⟩ = some (.string t.func) := by rw [cell_of_row _ _ _ _ _ _ hbx]; rfl
  have c5 : Wa.cell? ⟨B, 5, none⟩ = some (.int .i64 t.arity) := by rw [cell_of_row _ _ _ _ _ _ hbx]; rfl
  have c6 : Wa.cell? ⟨B, 6, none⟩ = some (.slice so t.items.length c) := by rw [cell_of_row _ _ _ _ _ _ hbx]; rfl
  have c7 : Wa.cell? ⟨B, 7, none⟩ = some (.string t.bytes) := by rw [cell_of_row _ _ _ _ _ _ hbx]; rfl
  have c8 : Wa.cell? ⟨B, 8, none⟩ = some (.int .i64 t.bits) := by rw [cell_of_row _ _ _ _ _ _ hbx]; rfl
  clear hbx
  have HFIN : Hid (∀ wx, Below Wa.heap.size Wa wx → Below B w wx) := Lib.hid (fun wx hh => HBA.out.trans (hh.mono (by have := HBA.out.size; have := HBZ.out; omega)))
  go_wp2_with fail
  refine (hB _).mono ?_
  rintro e w1 ⟨so', c', rfl, hb1⟩
  go_wp2_with fail
  refine (hZ so' c' _).mono ?_
  rintro e w2 ⟨rfl, hb2⟩
  clear hZ hB
  have HB2 : Hid (Below Wa.heap.size Wa w2) := Lib.hid (below_next hb1 hb2)
  clear hb1 hb2
  have HET : Hid (∀ A, t.items.all (formF f) = A → R = (okK t && A)) := Lib.hid (fun A h => by rw [HE.out, h, Bool.and_true])
  clear HE
  have HAK : Hid (t.items.all (formF f) = (t.items.drop 0).all (formF f)) := Lib.hid rfl
  generalize t.items.all (formF f) = A at HREC HET HAK
  go_wp2_with fail
  go_loopw [3] (fun iv wr => ∃ (k : Nat), k ≤ t.items.length ∧ iv = .int .i64 k ∧ Hid (A = (t.items.drop k).all (formF f)) ∧ Hid (Below Wa.heap.size Wa wr)) (fun iv _ => t.items.length - (intOf iv).toNat)
  case atStart => exact ⟨0, Nat.zero_le _, rfl, HAK, HB2⟩
  case round =>
    obtain ⟨k, hk, rfl, HK, HBk⟩ := hrel
    rename World => wr
    clear c0 c1 c2 c3 c4 c5 c6 c7 c8
    have hb1 := (HBk.out.block B (lt_of_row HBX.out)).trans HBX.out
    have hlb1 := lt_of_row hb1
    have c0 : wr.cell? ⟨B, 0, none⟩ = some (.int .i64 t.kind) := by rw [cell_of_row _ _ _ _ _ _ hb1]; rfl
    have c1 : wr.cell? ⟨B, 1, none⟩ = some (.int .i64 t.int) := by rw [cell_of_row _ _ _ _ _ _ hb1]; rfl
    have c2 : wr.cell? ⟨B, 2, none⟩ = some (.int .i64 t.gen) := by rw [cell_of_row _ _ _ _ _ _ hb1]; rfl
    have c3 : wr.cell? ⟨B, 3, none⟩ = some (.string t.name) := by rw [cell_of_row _ _ _ _ _ _ hb1]; rfl
    have c4 : wr.cell? ⟨B, 4, none⟩ = some (.string t.func) := by rw [cell_of_row _ _ _ _ _ _ hb1]; rfl
    have c5 : wr.cell? ⟨B, 5, none⟩ = some (.int .i64 t.arity) := by rw [cell_of_row _ _ _ _ _ _ hb1]; rfl
    have c6 : wr.cell? ⟨B, 6, none⟩ = some (.slice so t.items.length c) := by rw [cell_of_row _ _ _ _ _ _ hb1]; rfl
    have c7 : wr.cell? ⟨B, 7, none⟩ = some (.string t.bytes) := by rw [cell_of_row _ _ _ _ _ _ hb1]; rfl
    have c8 : wr.cell? ⟨B, 8, none⟩ = some (.int .i64 t.bits) := by rw [cell_of_row _ _ _ _ _ _ hb1]; rfl
    clear hb1
    by_cases hlt : k < t.items.length
    · obtain ⟨b2, off, ai, ci, hao, hb2, q0, q1, q2, q3, q4, q5, q6, q7, q8, r, hcall, hsd⟩ := HREC.out k wr hlt HBk.out HK.out
      subst hao
      have HCL := Lib.hid hcall; have HSD := Lib.hid hsd
      clear hcall hsd
      generalize t.items[k] = u at *
      cases r with
      | true =>
        go_wp2_with fail
        refine HCL.out.mono ?_
        rintro e9 w5 ⟨rfl, hb5⟩
        go_wp2_with fail
        go_roundw
        case rel => exact ⟨k + 1, by omega, by go_num, Lib.hid (by rw [HSD.out, Bool.true_and]), Lib.hid (below_next HBk.out hb5)⟩
        case measure => simp [intOf]; omega
      | false =>
        go_wp2_with fail
        refine HCL.out.mono ?_
        rintro e9 w5 ⟨rfl, hb5⟩
        go_wp2_with fail
        go_ret
        exact ⟨retb (by rw [HET.out A rfl, HSD.out]; cases okK t <;> rfl), by rw [HBZ.out]; exact HFIN.out _ (below_next HBk.out hb5)⟩
    · have E : Hid (R = okK t) := Lib.hid (by rw [HET.out A rfl, HK.out, List.drop_eq_nil_of_le (by omega)]; simp)
      have hkd := HKD.out
      have e2 : okK t = decide ((t.items.length : Int) ≤ 255) := by unfold okK; simp [hkd]; omega
      rw [hkd] at c0
      have E2 := Lib.hid (E.out.trans e2)
      clear E HKD hkd e2
      go_wp2_with fail
      go_ret
      exact ⟨retb E2.out.symm, by rw [HBZ.out]; exact HFIN.out _ HBk.out⟩
end Go.Proofs.YthmpobimmbmddaaGreatDoor
