/-
  The reference's Formed on closures: the walk (printed by gen_rterm5.py). The reference's Formed on lists: the walk (printed by gen_rterm6.py). The reference's Formed of any term, Check, Valid (printed by gen_rterm7.py).
-/
import Derived.Test.YthmpobimmbmddaaGreatDoorB15
namespace Go.Proofs.YthmpobimmbmddaaGreatDoor
open Go.RowKit
set_option linter.unusedVariables false
set_option linter.unusedSimpArgs false

set_option maxRecDepth 100000 in
set_option maxHeartbeats 16000000 in
theorem form_closure (f : Nat) (t : Tm) (so : Option Addr) (c : Nat) (w : World) (hok : t.Ok) (hrec : FormRec f t so w) (hz : allZ 0 (leftT t).int (leftT t).gen (leftT t).name (leftT t).func (leftT t).arity (leftT t).items.length (leftT t).bytes (leftT t).bits = true) (hkd : t.kind = 4) :
    Calls Tryz.prog 62 #[.agg #[.int .i64 t.kind, .int .i64 t.int, .int .i64 t.gen, .string t.name, .string t.func, .int .i64 t.arity, .slice so t.items.length c, .string t.bytes, .int .i64 t.bits]] w fun e w' => e = .returned (.bool (formF (f + 1) t)) ∧ Below w.heap.size w w' := by
  have HKD := Lib.hid hkd
  clear hkd
  obtain ⟨ok0, ok1, ok2, ok3, ok4, ok5, ok6, ok7, ok8⟩ := hok
  unfold maxLen at ok3 ok4 ok6 ok7
  have HE : Hid (formF (f + 1) t = ((okK t && allZ 0 (leftT t).int (leftT t).gen (leftT t).name (leftT t).func (leftT t).arity (leftT t).items.length (leftT t).bytes (leftT t).bits) && t.items.all (formF f))) := Lib.hid (by rw [loc_all]; rfl)
  have hZ := fun so' c' wx => rzero_any 0 (leftT t).int (leftT t).gen (leftT t).name (leftT t).func (leftT t).arity so' (leftT t).items.length c' (leftT t).bytes (leftT t).bits wx (Nat.le_trans (leftT_len t) (by omega))
  have hB := fun wx => rbare_any t so c wx
  unfold BareQ at hB
  generalize allZ 0 (leftT t).int (leftT t).gen (leftT t).name (leftT t).func (leftT t).arity (leftT t).items.length (leftT t).bytes (leftT t).bits = Z at *
  generalize leftT t = q at *
  have HREC0 := Lib.hid hrec
  clear hrec
  generalize formF (f + 1) t = R at *
  subst hz
  go_enter Tryz.func62, Tryz.ntmps62
  go_upto_region 1 with fail
  have hbx := tbox_new w t so c
  have hba : Below w.heap.size w (w.alloc (.cells #[.int .i64 t.kind, .int .i64 t.int, .int .i64 t.gen, .string t.name, .string t.func, .int .i64 t.arity, .slice so t.items.length c, .string t.bytes, .int .i64 t.bits] 28)) := (Below.refl _ _).alloc (Nat.le_refl _) _
  generalize w.alloc (.cells #[.int .i64 t.kind, .int .i64 t.int, .int .i64 t.gen, .string t.name, .string t.func, .int .i64 t.arity, .slice so t.items.length c, .string t.bytes, .int .i64 t.bits] 28) = Wa at *
  have HREC : Hid (FormAt f t so Wa (t.items.all (formF f))) := Lib.hid (HREC0.out Wa hba)
  clear HREC0
  generalize hBz : w.heap.size = B at *
  have HBZ := Lib.hid hBz; have HBA := Lib.hid hba; have HBX := Lib.hid hbx
  clear hBz hba
  have hlb := lt_of_row hbx
  have c0 : Wa.cell? ⟨B, 0, none⟩ = some (.int .i64 t.kind) := by rw [cell_of_row _ _ _ _ _ _ hbx]; rfl
  have c1 : Wa.cell? ⟨B, 1, none⟩ = some (.int .i64 t.int) := by rw [cell_of_row _ _ _ _ _ _ hbx]; rfl
  have c2 : Wa.cell? ⟨B, 2, none⟩ = some (.int .i64 t.gen) := by rw [cell_of_row _ _ _ _ _ _ hbx]; rfl
  have c3 : Wa.cell? ⟨B, 3, none⟩ = some (.string t.name) := by rw [cell_of_row _ _ _ _ _ _ hbx]; rfl
  have c4 : Wa.cell? ⟨B, 4, none⟩ = some (.string t.func) := by rw [cell_of_row _ _ _ _ _ _ hbx]; rfl
  have c5 : Wa.cell? ⟨B, 5, none⟩ = some (.int .i64 t.arity) := by rw [cell_of_row _ _ _ _ _ _ hbx]; rfl
  have c6 : Wa.cell? ⟨B, 6, none⟩ = some (.slice so t.items.length c) := by rw [cell_of_row _ _ _ _ _ _ hbx]; rfl
  have c7 : Wa.cell? ⟨B, 7, none⟩ = some (.string t.bytes) := by rw [cell_of_row _ _ _ _ _ _ hbx]; rfl
  have c8 : Wa.cell? ⟨B, 8, none⟩ = some (.int .i64 t.bits) := by rw [cell_of_row _ _ _ _ _ _ hbx]; rfl
  clear hbx
  have HFIN : Hid (∀ wx, Below Wa.heap.size Wa wx → Below B w wx) := Lib.hid (fun wx hh => HBA.out.trans (hh.mono (by have := HBA.out.size; have := HBZ.out; omega)))
  go_wp2_with fail
  refine (hB _).mono ?_
  rintro e w1 ⟨so', c', rfl, hb1⟩
  go_wp2_with fail
  refine (hZ so' c' _).mono ?_
  rintro e w2 ⟨rfl, hb2⟩
  clear hZ hB
  have HB2 : Hid (Below Wa.heap.size Wa w2) := Lib.hid (below_next hb1 hb2)
  clear hb1 hb2
  have HET : Hid (∀ A, t.items.all (formF f) = A → R = (okK t && A)) := Lib.hid (fun A h => by rw [HE.out, h, Bool.and_true])
  clear HE
  have HAK : Hid (t.items.all (formF f) = (t.items.drop 0).all (formF f)) := Lib.hid rfl
  generalize t.items.all (formF f) = A at HREC HET HAK
  go_wp2_with fail
  go_loopw [3] (fun iv wr => ∃ (k : Nat), k ≤ t.items.length ∧ iv = .int .i64 k ∧ Hid (A = (t.items.drop k).all (formF f)) ∧ Hid (Below Wa.heap.size Wa wr)) (fun iv _ => t.items.length - (intOf iv).toNat)
  case atStart => exact ⟨0, Nat.zero_le _, rfl, HAK, HB2⟩
  case round =>
    obtain ⟨k, hk, rfl, HK, HBk⟩ := hrel
    rename World => wr
    clear c0 c1 c2 c3 c4 c5 c6 c7 c8
    have hb1 := (HBk.out.block B (lt_of_row HBX.out)).trans HBX.out
    have hlb1 := lt_of_row hb1
    have c0 : wr.cell? ⟨B, 0, none⟩ = some (.int .i64 t.kind) := by rw [cell_of_row _ _ _ _ _ _ hb1]; rfl
    have c1 : wr.cell? ⟨B, 1, none⟩ = some (.int .i64 t.int) := by rw [cell_of_row _ _ _ _ _ _ hb1]; rfl
    have c2 : wr.cell? ⟨B, 2, none⟩ = some (.int .i64 t.gen) := by rw [cell_of_row _ _ _ _ _ _ hb1]; rfl
    have c3 : wr.cell? ⟨B, 3, none⟩ = some (.string t.name) := by rw [cell_of_row _ _ _ _ _ _ hb1]; rfl
    have c4 : wr.cell? ⟨B, 4, none⟩ = some (.string t.func) := by rw [cell_of_row _ _ _ _ _ _ hb1]; rfl
    have c5 : wr.cell? ⟨B, 5, none⟩ = some (.int .i64 t.arity) := by rw [cell_of_row _ _ _ _ _ _ hb1]; rfl
    have c6 : wr.cell? ⟨B, 6, none⟩ = some (.slice so t.items.length c) := by rw [cell_of_row _ _ _ _ _ _ hb1]; rfl
    have c7 : wr.cell? ⟨B, 7, none⟩ = some (.string t.bytes) := by rw [cell_of_row _ _ _ _ _ _ hb1]; rfl
    have c8 : wr.cell? ⟨B, 8, none⟩ = some (.int .i64 t.bits) := by rw [cell_of_row _ _ _ _ _ _ hb1]; rfl
    clear hb1
    by_cases hlt : k < t.items.length
    · obtain ⟨b2, off, ai, ci, hao, hb2, q0, q1, q2, q3, q4, q5, q6, q7, q8, r, hcall, hsd⟩ := HREC.out k wr hlt HBk.out HK.out
      subst hao
      have HCL := Lib.hid hcall; have HSD := Lib.hid hsd
      clear hcall hsd
      generalize t.items[k] = u at *
      cases r with
      | true =>
        go_wp2_with fail
        refine HCL.out.mono ?_
        rintro e9 w5 ⟨rfl, hb5⟩
        go_wp2_with fail
        go_roundw
        case rel => exact ⟨k + 1, by omega, by go_num, Lib.hid (by rw [HSD.out, Bool.true_and]), Lib.hid (below_next HBk.out hb5)⟩
        case measure => simp [intOf]; omega
      | false =>
        go_wp2_with fail
        refine HCL.out.mono ?_
        rintro e9 w5 ⟨rfl, hb5⟩
        go_wp2_with fail
        go_ret
        exact ⟨retb (by rw [HET.out A rfl, HSD.out]; cases okK t <;> rfl), by rw [HBZ.out]; exact HFIN.out _ (below_next HBk.out hb5)⟩
    · have E : Hid (R = okK t) := Lib.hid (by rw [HET.out A rfl, HK.out, List.drop_eq_nil_of_le (by omega)]; simp)
      have hkd := HKD.out
      have hE := E.out
      have e2 : okK t = (wi t.int 0 999 && wi t.gen 1 2147483647 && nameB t.name && wi t.arity 0 16 && decide (t.items.length ≤ 200)) := by unfold okK; simp [hkd, Bool.and_assoc]
      rw [e2] at hE
      rw [hkd] at c0
      clear e2 E HKD hkd
      have h0 := fun wx => rbetween_any t.int 0 999 wx
      have h1 := fun wx => rbetween_any t.gen 1 2147483647 wx
      have h2 := fun wx => rname_any t.name wx (by unfold maxLen; omega)
      have h3 := fun wx => rbetween_any t.arity 0 16 wx
      generalize wi t.int 0 999 = b0 at *
      generalize wi t.gen 1 2147483647 = b1 at *
      generalize nameB t.name = b2 at *
      generalize wi t.arity 0 16 = b3 at *
      have E := Lib.hid hE
      clear hE
      cases b0 with
      | false =>
        go_wp2_with (first | (go_at_call 135; first | ((with_reducible refine (h0 _).mono ?_); rintro e w9 ⟨rfl, rfl⟩) | ((with_reducible refine (h1 _).mono ?_); rintro e w9 ⟨rfl, rfl⟩) | ((with_reducible refine (h3 _).mono ?_); rintro e w9 ⟨rfl, rfl⟩)) | (go_at_call 23; first | ((with_reducible refine (h2 _).mono ?_); rintro e w9 ⟨rfl, rfl⟩)))
        go_ret
        exact ⟨retb (by rw [E.out]; try simp <;> omega), by rw [HBZ.out]; exact HFIN.out _ HBk.out⟩
      | true =>
        cases b1 with
        | false =>
          go_wp2_with (first | (go_at_call 135; first | ((with_reducible refine (h0 _).mono ?_); rintro e w9 ⟨rfl, rfl⟩) | ((with_reducible refine (h1 _).mono ?_); rintro e w9 ⟨rfl, rfl⟩) | ((with_reducible refine (h3 _).mono ?_); rintro e w9 ⟨rfl, rfl⟩)) | (go_at_call 23; first | ((with_reducible refine (h2 _).mono ?_); rintro e w9 ⟨rfl, rfl⟩)))
          go_ret
          exact ⟨retb (by rw [E.out]; try simp <;> omega), by rw [HBZ.out]; exact HFIN.out _ HBk.out⟩
        | true =>
          cases b2 with
          | false =>
            go_wp2_with (first | (go_at_call 135; first | ((with_reducible refine (h0 _).mono ?_); rintro e w9 ⟨rfl, rfl⟩) | ((with_reducible refine (h1 _).mono ?_); rintro e w9 ⟨rfl, rfl⟩) | ((with_reducible refine (h3 _).mono ?_); rintro e w9 ⟨rfl, rfl⟩)) | (go_at_call 23; first | ((with_reducible refine (h2 _).mono ?_); rintro e w9 ⟨rfl, rfl⟩)))
            go_ret
            exact ⟨retb (by rw [E.out]; try simp <;> omega), by rw [HBZ.out]; exact HFIN.out _ HBk.out⟩
          | true =>
            cases b3 with
            | false =>
              go_wp2_with (first | (go_at_call 135; first | ((with_reducible refine (h0 _).mono ?_); rintro e w9 ⟨rfl, rfl⟩) | ((with_reducible refine (h1 _).mono ?_); rintro e w9 ⟨rfl, rfl⟩) | ((with_reducible refine (h3 _).mono ?_); rintro e w9 ⟨rfl, rfl⟩)) | (go_at_call 23; first | ((with_reducible refine (h2 _).mono ?_); rintro e w9 ⟨rfl, rfl⟩)))
              go_ret
              exact ⟨retb (by rw [E.out]; try simp <;> omega), by rw [HBZ.out]; exact HFIN.out _ HBk.out⟩
            | true =>
              go_wp2_with (first | (go_at_call 135; first | ((with_reducible refine (h0 _).mono ?_); rintro e w9 ⟨rfl, rfl⟩) | ((with_reducible refine (h1 _).mono ?_); rintro e w9 ⟨rfl, rfl⟩) | ((with_reducible refine (h3 _).mono ?_); rintro e w9 ⟨rfl, rfl⟩)) | (go_at_call 23; first | ((with_reducible refine (h2 _).mono ?_); rintro e w9 ⟨rfl, rfl⟩)))
              go_ret
              exact ⟨retb (by rw [E.out]; try simp <;> omega), by rw [HBZ.out]; exact HFIN.out _ HBk.out⟩
end Go.Proofs.YthmpobimmbmddaaGreatDoor
namespace Go.Proofs.YthmpobimmbmddaaGreatDoor
open Go.RowKit
set_option linter.unusedVariables false
set_option linter.unusedSimpArgs false

set_option maxRecDepth 100000 in
set_option maxHeartbeats 16000000 in
theorem form_list (f : Nat) (t : Tm) (so : Option Addr) (c : Nat) (w : World) (hok : t.Ok) (hrec : FormRec f t so w) (hz : allZ 0 (leftT t).int (leftT t).gen (leftT t).name (leftT t).func (leftT t).arity (leftT t).items.length (leftT t).bytes (leftT t).bits = true) (hkd : t.kind = 9) :
    Calls Tryz.prog 62 #[.agg #[.int .i64 t.kind, .int .i64 t.int, .int .i64 t.gen, .string t.name, .string t.func, .int .i64 t.arity, .slice so t.items.length c, .string t.bytes, .int .i64 t.bits]] w fun e w' => e = .returned (.bool (formF (f + 1) t)) ∧ Below w.heap.size w w' := by
  have HKD := Lib.hid hkd
  clear hkd
  obtain ⟨ok0, ok1, ok2, ok3, ok4, ok5, ok6, ok7, ok8⟩ := hok
  unfold maxLen at ok3 ok4 ok6 ok7
  have HE : Hid (formF (f + 1) t = ((okK t && allZ 0 (leftT t).int (leftT t).gen (leftT t).name (leftT t).func (leftT t).arity (leftT t).items.length (leftT t).bytes (leftT t).bits) && t.items.all (formF f))) := Lib.hid (by rw [loc_all]; rfl)
  have hZ := fun so' c' wx => rzero_any 0 (leftT t).int (leftT t).gen (leftT t).name (leftT t).func (leftT t).arity so' (leftT t).items.length c' (leftT t).bytes (leftT t).bits wx (Nat.le_trans (leftT_len t) (by omega))
  have hB := fun wx => rbare_any t so c wx
  unfold BareQ at hB
  generalize allZ 0 (leftT t).int (leftT t).gen (leftT t).name (leftT t).func (leftT t).arity (leftT t).items.length (leftT t).bytes (leftT t).bits = Z at *
  generalize leftT t = q at *
  have HREC0 := Lib.hid hrec
  clear hrec
  generalize formF (f + 1) t = R at *
  subst hz
  go_enter Tryz.func62, Tryz.ntmps62
  go_upto_region 1 with fail
  have hbx := tbox_new w t so c
  have hba : Below w.heap.size w (w.alloc (.cells #[.int .i64 t.kind, .int .i64 t.int, .int .i64 t.gen, .string t.name, .string t.func, .int .i64 t.arity, .slice so t.items.length c, .string t.bytes, .int .i64 t.bits] 28)) := (Below.refl _ _).alloc (Nat.le_refl _) _
  generalize w.alloc (.cells #[.int .i64 t.kind, .int .i64 t.int, .int .i64 t.gen, .string t.name, .string t.func, .int .i64 t.arity, .slice so t.items.length c, .string t.bytes, .int .i64 t.bits] 28) = Wa at *
  have HREC : Hid (FormAt f t so Wa (t.items.all (formF f))) := Lib.hid (HREC0.out Wa hba)
  clear HREC0
  generalize hBz : w.heap.size = B at *
  have HBZ := Lib.hid hBz; have HBA := Lib.hid hba; have HBX := Lib.hid hbx
  clear hBz hba
  have hlb := lt_of_row hbx
  have c0 : Wa.cell? ⟨B, 0, none⟩ = some (.int .i64 t.kind) := by rw [cell_of_row _ _ _ _ _ _ hbx]; rfl
  have c1 : Wa.cell? ⟨B, 1, none⟩ = some (.int .i64 t.int) := by rw [cell_of_row _ _ _ _ _ _ hbx]; rfl
  have c2 : Wa.cell? ⟨B, 2, none⟩ = some (.int .i64 t.gen) := by rw [cell_of_row _ _ _ _ _ _ hbx]; rfl
  have c3 : Wa.cell? ⟨B, 3, none⟩ = some (.string t.name) := by rw [cell_of_row _ _ _ _ _ _ hbx]; rfl
  have c4 : Wa.cell? ⟨B, 4, none⟩ = some (.string t.func) := by rw [cell_of_row _ _ _ _ _ _ hbx]; rfl
  have c5 : Wa.cell? ⟨B, 5, none⟩ = some (.int .i64 t.arity) := by rw [cell_of_row _ _ _ _ _ _ hbx]; rfl
  have c6 : Wa.cell? ⟨B, 6, none⟩ = some (.slice so t.items.length c) := by rw [cell_of_row _ _ _ _ _ _ hbx]; rfl
  have c7 : Wa.cell? ⟨B, 7, none⟩ = some (.string t.bytes) := by rw [cell_of_row _ _ _ _ _ _ hbx]; rfl
  have c8 : Wa.cell? ⟨B, 8, none⟩ = some (.int .i64 t.bits) := by rw [cell_of_row _ _ _ _ _ _ hbx]; rfl
  clear hbx
  have HFIN : Hid (∀ wx, Below Wa.heap.size Wa wx → Below B w wx) := Lib.hid (fun wx hh => HBA.out.trans (hh.mono (by have := HBA.out.size; have := HBZ.out; omega)))
  go_wp2_with fail
  refine (hB _).mono ?_
  rintro e w1 ⟨so', c', rfl, hb1⟩
  go_wp2_with fail
  refine (hZ so' c' _).mono ?_
  rintro e w2 ⟨rfl, hb2⟩
  clear hZ hB
  have HB2 : Hid (Below Wa.heap.size Wa w2) := Lib.hid (below_next hb1 hb2)
  clear hb1 hb2
  have HET : Hid (∀ A, t.items.all (formF f) = A → R = (okK t && A)) := Lib.hid (fun A h => by rw [HE.out, h, Bool.and_true])
  clear HE
  have HAK : Hid (t.items.all (formF f) = (t.items.drop 0).all (formF f)) := Lib.hid rfl
  generalize t.items.all (formF f) = A at HREC HET HAK
  go_wp2_with fail
  go_loopw [3] (fun iv wr => ∃ (k : Nat), k ≤ t.items.length ∧ iv = .int .i64 k ∧ Hid (A = (t.items.drop k).all (formF f)) ∧ Hid (Below Wa.heap.size Wa wr)) (fun iv _ => t.items.length - (intOf iv).toNat)
  case atStart => exact ⟨0, Nat.zero_le _, rfl, HAK, HB2⟩
  case round =>
    obtain ⟨k, hk, rfl, HK, HBk⟩ := hrel
    rename World => wr
    clear c0 c1 c2 c3 c4 c5 c6 c7 c8
    have hb1 := (HBk.out.block B (lt_of_row HBX.out)).trans HBX.out
    have hlb1 := lt_of_row hb1
    have c0 : wr.cell? ⟨B, 0, none⟩ = some (.int .i64 t.kind) := by rw [cell_of_row _ _ _ _ _ _ hb1]; rfl
    have c1 : wr.cell? ⟨B, 1, none⟩ = some (.int .i64 t.int) := by rw [cell_of_row _ _ _ _ _ _ hb1]; rfl
    have c2 : wr.cell? ⟨B, 2, none⟩ = some (.int .i64 t.gen) := by rw [cell_of_row _ _ _ _ _ _ hb1]; rfl
    have c3 : wr.cell? ⟨B, 3, none⟩ = some (.string t.name) := by rw [cell_of_row _ _ _ _ _ _ hb1]; rfl
    have c4 : wr.cell? ⟨B, 4, none⟩ = some (.string t.func) := by rw [cell_of_row _ _ _ _ _ _ hb1]; rfl
    have c5 : wr.cell? ⟨B, 5, none⟩ = some (.int .i64 t.arity) := by rw [cell_of_row _ _ _ _ _ _ hb1]; rfl
    have c6 : wr.cell? ⟨B, 6, none⟩ = some (.slice so t.items.length c) := by rw [cell_of_row _ _ _ _ _ _ hb1]; rfl
    have c7 : wr.cell? ⟨B, 7, none⟩ = some (.string t.bytes) := by rw [cell_of_row _ _ _ _ _ _ hb1]; rfl
    have c8 : wr.cell? ⟨B, 8, none⟩ = some (.int .i64 t.bits) := by rw [cell_of_row _ _ _ _ _ _ hb1]; rfl
    clear hb1
    by_cases hlt : k < t.items.length
    · obtain ⟨b2, off, ai, ci, hao, hb2, q0, q1, q2, q3, q4, q5, q6, q7, q8, r, hcall, hsd⟩ := HREC.out k wr hlt HBk.out HK.out
      subst hao
      have HCL := Lib.hid hcall; have HSD := Lib.hid hsd
      clear hcall hsd
      generalize t.items[k] = u at *
      cases r with
      | true =>
        go_wp2_with fail
        refine HCL.out.mono ?_
        rintro e9 w5 ⟨rfl, hb5⟩
        go_wp2_with fail
        go_roundw
        case rel => exact ⟨k + 1, by omega, by go_num, Lib.hid (by rw [HSD.out, Bool.true_and]), Lib.hid (below_next HBk.out hb5)⟩
        case measure => simp [intOf]; omega
      | false =>
        go_wp2_with fail
        refine HCL.out.mono ?_
        rintro e9 w5 ⟨rfl, hb5⟩
        go_wp2_with fail
        go_ret
        exact ⟨retb (by rw [HET.out A rfl, HSD.out]; cases okK t <;> rfl), by rw [HBZ.out]; exact HFIN.out _ (below_next HBk.out hb5)⟩
    · have E : Hid (R = okK t) := Lib.hid (by rw [HET.out A rfl, HK.out, List.drop_eq_nil_of_le (by omega)]; simp)
      have hkd := HKD.out
      have e2 : okK t = (decide (2 ≤ t.items.length) && decide (lastK t.items ≠ 9)) := by unfold okK; simp [hkd]
      rw [hkd] at c0
      have E2 := Lib.hid (E.out.trans e2)
      clear E HKD hkd e2
      by_cases h2 : t.items.length < 2
      · have E3 : Hid (R = false) := Lib.hid (by rw [E2.out, decide_eq_false (by omega)]; rfl)
        go_wp2_with fail
        go_ret
        exact ⟨retb E3.out.symm, by rw [HBZ.out]; exact HFIN.out _ HBk.out⟩
      · have hl1 : t.items.length - 1 < t.items.length := by omega
        have hA : t.items.all (formF f) = true := by
          have h := HAK.out.symm.trans HK.out
          rw [List.drop_eq_nil_of_le (Nat.le_of_not_lt hlt), List.drop_zero] at h
          exact h
        obtain ⟨b2, off, ai, ci, hao, hb2, q0, -⟩ := HREC.out (t.items.length - 1) wr hl1 HBk.out (by rw [HAK.out, List.drop_zero, hA]; exact (all_drop3 hA _).symm)
        subst hao
        have E3 : Hid (R = decide (t.items[t.items.length - 1].kind ≠ 9)) := Lib.hid (by rw [E2.out, lastK_at hl1, decide_eq_true (by omega), Bool.true_and])
        clear E2 hA HAK HET HREC
        generalize t.items[t.items.length - 1].kind = lk at *
        clear hl1
        obtain ⟨m, hm⟩ : ∃ m, t.items.length = m + 2 := ⟨t.items.length - 2, by omega⟩
        generalize t.items.length = n at *
        subst hm
        rw [show m + 2 - 1 = m + 1 by rfl] at q0
        go_wp2_with fail
        go_ret
        exact ⟨retb (by rw [E3.out]; by_cases hl : lk = 9 <;> simp [hl]), by rw [HBZ.out]; exact HFIN.out _ HBk.out⟩
end Go.Proofs.YthmpobimmbmddaaGreatDoor
namespace Go.Proofs.YthmpobimmbmddaaGreatDoor
open Go.RowKit
set_option linter.unusedVariables false
set_option linter.unusedSimpArgs false

theorem form_step (f : Nat) (IH : ∀ f', f = f' + 1 → FormP f') : FormP f := by
  intro t so c w hsl hok
  have hrec : FormRec f t so w := by
    intro Wa hba k wr hlt hb hs
    cases f with
    | zero => rw [hsl.zero] at hlt; exact absurd hlt (Nat.not_lt_zero _)
    | succ f =>
      obtain ⟨b2, off, ai, ci, hao, hb2, q0, q1, q2, q3, q4, q5, q6, q7, q8, hit, hok2⟩ := (SlAt.tms (SlAt.tms hsl hba) hb).tm hlt
      exact ⟨b2, off, ai, ci, hao, hb2, q0, q1, q2, q3, q4, q5, q6, q7, q8, formF (f + 1) t.items[k], IH f rfl _ ai ci wr hit hok2, by rw [hs]; exact all_drop hlt⟩
  cases hz : allZ 0 (leftT t).int (leftT t).gen (leftT t).name (leftT t).func (leftT t).arity (leftT t).items.length (leftT t).bytes (leftT t).bits with
  | false => exact form_zero f t so c w hok hrec hz
  | true =>
    by_cases h1 : t.kind = 1
    · exact form_one f t so c w hok hrec hz h1
    by_cases h2 : t.kind = 2
    · exact form_atom f t so c w hok hrec hz h2
    by_cases h3 : t.kind = 3
    · exact form_ref f t so c w hok hrec hz h3
    by_cases h4 : t.kind = 4
    · exact form_closure f t so c w hok hrec hz h4
    by_cases h5 : t.kind = 5
    · exact form_export f t so c w hok hrec hz h5
    by_cases h6 : t.kind = 6
    · exact form_pid f t so c w hok hrec hz h6
    by_cases h7 : t.kind = 7
    · exact form_tuple f t so c w hok hrec hz h7
    by_cases h8 : t.kind = 8
    · exact form_nil f t so c w hok hrec hz h8
    by_cases h9 : t.kind = 9
    · exact form_list f t so c w hok hrec hz h9
    by_cases h10 : t.kind = 10
    · exact form_bits f t so c w hok hrec hz h10
    exact form_other f t so c w hok hrec hz (by omega)
theorem form_rec (f : Nat) : FormP f := by
  induction f with
  | zero => exact form_step 0 (fun f' h => absurd h (by omega))
  | succ f ih => exact form_step (f + 1) (fun f' h => by
      have : f' = f := by omega
      subst this; exact ih)
set_option maxRecDepth 100000 in
set_option maxHeartbeats 4000000 in
theorem rcheck_term (f : Nat) (t : Tm) (so : Option Addr) (c : Nat) (w : World) (ht : SlAt w 9 (TmAt w f) so t.items) (hok : t.Ok) (hs1 : (capF (f + 1) t : Int) ≤ 1152921504606846976) :
    Calls Tryz.prog 39 #[.agg #[.int .i64 t.kind, .int .i64 t.int, .int .i64 t.gen, .string t.name, .string t.func, .int .i64 t.arity, .slice so t.items.length c, .string t.bytes, .int .i64 t.bits]] w fun e w' => e = .returned (.int .i64 (checkF (f + 1) t)) ∧ Below w.heap.size w w' := by
  have hbx := tbox_new w t so c
  have hB : Below w.heap.size w (w.alloc (.cells #[.int .i64 t.kind, .int .i64 t.int, .int .i64 t.gen, .string t.name, .string t.func, .int .i64 t.arity, .slice so t.items.length c, .string t.bytes, .int .i64 t.bits] 28)) := (Below.refl _ _).alloc (Nat.le_refl _) _
  have hF : ∀ wx, Below w.heap.size w wx → Calls Tryz.prog 62 #[.agg #[.int .i64 t.kind, .int .i64 t.int, .int .i64 t.gen, .string t.name, .string t.func, .int .i64 t.arity, .slice so t.items.length c, .string t.bytes, .int .i64 t.bits]] wx fun e w' => e = .returned (.bool (formF (f + 1) t)) ∧ Below wx.heap.size wx w' := fun wx hx => form_rec f t so c wx (ht.tms hx) hok
  have hW : formF (f + 1) t = true → ∀ wx, Below w.heap.size w wx → Calls Tryz.prog 63 #[.agg #[.int .i64 t.kind, .int .i64 t.int, .int .i64 t.gen, .string t.name, .string t.func, .int .i64 t.arity, .slice so t.items.length c, .string t.bytes, .int .i64 t.bits]] wx fun e w' => e = .returned (.int .i64 (wholeF (f + 1) t)) ∧ Below wx.heap.size wx w' := fun h wx hx => whole_rec f t so c wx (ht.tms hx) hok h hs1
  have E : Hid (checkF (f + 1) t = if formF (f + 1) t = true then (if 2000 < wholeF (f + 1) t then 3 else 0) else 2) := Lib.hid rfl
  have HB := Lib.hid hB; have HBX := Lib.hid hbx
  have HF := Lib.hid hF; have HW := Lib.hid hW
  clear ht hok hs1 hB hF hW hbx
  generalize checkF (f + 1) t = r at *
  generalize formF (f + 1) t = b at *
  generalize wholeF (f + 1) t = n at *
  go_enter Tryz.func39, Tryz.ntmps39
  go_upto_region 1 with fail
  generalize w.alloc (.cells #[.int .i64 t.kind, .int .i64 t.int, .int .i64 t.gen, .string t.name, .string t.func, .int .i64 t.arity, .slice so t.items.length c, .string t.bytes, .int .i64 t.bits] 28) = Wa at *
  generalize hBz : w.heap.size = B at *
  have HBZ := Lib.hid hBz
  clear hBz
  have hb1 := HBX.out
  have hlb1 := lt_of_row hb1
  have c0 : Wa.cell? ⟨B, 0, none⟩ = some (.int .i64 t.kind) := by rw [cell_of_row _ _ _ _ _ _ hb1]; rfl
  have c1 : Wa.cell? ⟨B, 1, none⟩ = some (.int .i64 t.int) := by rw [cell_of_row _ _ _ _ _ _ hb1]; rfl
  have c2 : Wa.cell? ⟨B, 2, none⟩ = some (.int .i64 t.gen) := by rw [cell_of_row _ _ _ _ _ _ hb1]; rfl
  have c3 : Wa.cell? ⟨B, 3, none⟩ = some (.string t.name) := by rw [cell_of_row _ _ _ _ _ _ hb1]; rfl
  have c4 : Wa.cell? ⟨B, 4, none⟩ = some (.string t.func) := by rw [cell_of_row _ _ _ _ _ _ hb1]; rfl
  have c5 : Wa.cell? ⟨B, 5, none⟩ = some (.int .i64 t.arity) := by rw [cell_of_row _ _ _ _ _ _ hb1]; rfl
  have c6 : Wa.cell? ⟨B, 6, none⟩ = some (.slice so t.items.length c) := by rw [cell_of_row _ _ _ _ _ _ hb1]; rfl
  have c7 : Wa.cell? ⟨B, 7, none⟩ = some (.string t.bytes) := by rw [cell_of_row _ _ _ _ _ _ hb1]; rfl
  have c8 : Wa.cell? ⟨B, 8, none⟩ = some (.int .i64 t.bits) := by rw [cell_of_row _ _ _ _ _ _ hb1]; rfl
  clear hb1
  cases b with
  | false =>
    rw [if_neg (by decide)] at E
    go_wp2_with fail
    refine (HF.out _ HB.out).mono ?_
    rintro e w5 ⟨rfl, hb5⟩
    go_wp2_with fail
    go_ret
    exact ⟨ret1 E.out.symm, below_next (by rw [HBZ.out]; exact HB.out) hb5⟩
  | true =>
    rw [if_pos rfl] at E
    go_wp2_with fail
    refine (HF.out _ HB.out).mono ?_
    rintro e w5 ⟨rfl, hb5⟩
    have hb1 := (hb5.block B hlb1).trans HBX.out
    have hlb5 := lt_of_row hb1
    clear c0 c1 c2 c3 c4 c5 c6 c7 c8 hlb1
    have c0 : w5.cell? ⟨B, 0, none⟩ = some (.int .i64 t.kind) := by rw [cell_of_row _ _ _ _ _ _ hb1]; rfl
    have c1 : w5.cell? ⟨B, 1, none⟩ = some (.int .i64 t.int) := by rw [cell_of_row _ _ _ _ _ _ hb1]; rfl
    have c2 : w5.cell? ⟨B, 2, none⟩ = some (.int .i64 t.gen) := by rw [cell_of_row _ _ _ _ _ _ hb1]; rfl
    have c3 : w5.cell? ⟨B, 3, none⟩ = some (.string t.name) := by rw [cell_of_row _ _ _ _ _ _ hb1]; rfl
    have c4 : w5.cell? ⟨B, 4, none⟩ = some (.string t.func) := by rw [cell_of_row _ _ _ _ _ _ hb1]; rfl
    have c5 : w5.cell? ⟨B, 5, none⟩ = some (.int .i64 t.arity) := by rw [cell_of_row _ _ _ _ _ _ hb1]; rfl
    have c6 : w5.cell? ⟨B, 6, none⟩ = some (.slice so t.items.length c) := by rw [cell_of_row _ _ _ _ _ _ hb1]; rfl
    have c7 : w5.cell? ⟨B, 7, none⟩ = some (.string t.bytes) := by rw [cell_of_row _ _ _ _ _ _ hb1]; rfl
    have c8 : w5.cell? ⟨B, 8, none⟩ = some (.int .i64 t.bits) := by rw [cell_of_row _ _ _ _ _ _ hb1]; rfl
    clear hb1
    have HB5 : Hid (Below B w w5) := Lib.hid (HB.out.trans (hb5.mono (by have := HB.out.size; have := HBZ.out; omega)))
    clear hb5
    by_cases hn : 2000 < n
    · rw [if_pos hn] at E
      go_wp2_with fail
      refine (HW.out (by trivial) _ HB5.out).mono ?_
      rintro e w6 ⟨rfl, hb6⟩
      go_wp2_with fail
      go_ret
      exact ⟨ret1 E.out.symm, by rw [HBZ.out]; exact HB5.out.trans (hb6.mono (by have := HB5.out.size; have := HBZ.out; omega))⟩
    · rw [if_neg hn] at E
      have hn' : n ≤ 2000 := by omega
      clear hn
      go_wp2_with fail
      refine (HW.out (by trivial) _ HB5.out).mono ?_
      rintro e w6 ⟨rfl, hb6⟩
      go_wp2_with fail
      go_ret
      exact ⟨ret1 E.out.symm, by rw [HBZ.out]; exact HB5.out.trans (hb6.mono (by have := HB5.out.size; have := HBZ.out; omega))⟩
set_option maxRecDepth 100000 in
set_option maxHeartbeats 4000000 in
theorem rvalid_term (f : Nat) (t : Tm) (so : Option Addr) (c : Nat) (w : World) (ht : SlAt w 9 (TmAt w f) so t.items) (hok : t.Ok) (hs1 : (capF (f + 1) t : Int) ≤ 1152921504606846976) :
    Calls Tryz.prog 18 #[.agg #[.int .i64 t.kind, .int .i64 t.int, .int .i64 t.gen, .string t.name, .string t.func, .int .i64 t.arity, .slice so t.items.length c, .string t.bytes, .int .i64 t.bits]] w fun e w' => e = .returned (.bool (validF (f + 1) t)) ∧ Below w.heap.size w w' := by
  have hB : Below w.heap.size w (w.alloc (.cells #[.int .i64 t.kind, .int .i64 t.int, .int .i64 t.gen, .string t.name, .string t.func, .int .i64 t.arity, .slice so t.items.length c, .string t.bytes, .int .i64 t.bits] 28)) := (Below.refl _ _).alloc (Nat.le_refl _) _
  have hC := rcheck_term f t so c (w.alloc (.cells #[.int .i64 t.kind, .int .i64 t.int, .int .i64 t.gen, .string t.name, .string t.func, .int .i64 t.arity, .slice so t.items.length c, .string t.bytes, .int .i64 t.bits] 28)) (ht.tms hB) hok hs1
  have E : Hid ((checkF (f + 1) t == 0) = validF (f + 1) t) := Lib.hid (by
    unfold checkF validF
    cases formF (f + 1) t
    · rfl
    · rw [if_pos rfl, Bool.true_and]
      by_cases h : 2000 < wholeF (f + 1) t
      · rw [if_pos h, decide_eq_false (by omega)]; rfl
      · rw [if_neg h, decide_eq_true (by omega)]; rfl)
  have HB := Lib.hid hB
  clear hB ht hok hs1
  generalize checkF (f + 1) t = n at *
  go_enter Tryz.func18, Tryz.ntmps18
  go_wp2_with fail
  refine hC.mono ?_
  rintro e w5 ⟨rfl, hb5⟩
  go_wp2_with fail
  go_ret
  exact ⟨retb E.out, below_next HB.out hb5⟩
end Go.Proofs.YthmpobimmbmddaaGreatDoor
