/-
  The reference's Formed on closures: the walk (printed by gen_rterm5.py). The reference's Formed on lists: the walk (printed by gen_rterm6.py). The reference's Formed of any term, Check, Valid (printed by gen_rterm7.py). The reference's external format: Put of a valid term: the walk (printed by gen_gput7.py). The reference's Compare on terms without parts (printed by gen_rcomp.py).
-/
import Derived.Test.YtghgbikmlbildaaGreatDoorPutsAll11
import Derived.Test.YtghgbikmlbildaaGreatDoorPutsAll17
import Derived.Test.YtghgbikmlbildaaGreatDoorPutsAll23
import Derived.Test.YtghgbikmlbildaaGreatDoorPutsAll24
namespace Go.Proofs.YtghgbikmlbildaaGreatDoor
open Go.RowKit
set_option linter.unusedVariables false
set_option linter.unusedSimpArgs false

set_option maxRecDepth 100000 in
set_option maxHeartbeats 16000000 in
theorem form_closure (f : Nat) (t : Tm) (so : Option Addr) (c : Nat) (w : World) (hok : t.Ok) (hrec : FormRec f t so w) (hz : allZ 0 (leftT t).int (leftT t).gen (leftT t).name (leftT t).func (leftT t).arity (leftT t).items.length (leftT t).bytes (leftT t).bits = true) (hkd : t.kind = 4) :
  Calls Tryz.prog 161 #[.agg #[.int .i64 t.kind, .int .i64 t.int, .int .i64 t.gen, .string t.name, .string t.func, .int .i64 t.arity, .slice so t.items.length c, .string t.bytes, .int .i64 t.bits]] w fun e w' => e = .returned (.bool (formF (f + 1) t)) ∧ Below w.heap.size w w' := by
 have HKD := Lib.hid hkd
 clear hkd
 obtain ⟨ok0, ok1, ok2, ok3, ok4, ok5, ok6, ok7, ok8⟩ := hok
 unfold maxLen at ok3 ok4 ok6 ok7
 have HE : Hid (formF (f + 1) t = ((okK t && allZ 0 (leftT t).int (leftT t).gen (leftT t).name (leftT t).func (leftT t).arity (leftT t).items.length (leftT t).bytes (leftT t).bits) && t.items.all (formF f))) := Lib.hid (by rw [loc_all]; rfl)
 have hZ := fun so' c' wx => rzero_any 0 (leftT t).int (leftT t).gen (leftT t).name (leftT t).func (leftT t).arity so' (leftT t).items.length c' (leftT t).bytes (leftT t).bits wx (Nat.le_trans (leftT_len t) (by omega))
 have hB := fun wx => rbare_any t so c wx
 unfold BareQ at hB
 generalize allZ 0 (leftT t).int (leftT t).gen (leftT t).name (leftT t).func (leftT t).arity (leftT t).items.length (leftT t).bytes (leftT t).bits = Z at *
 generalize leftT t = q at *
 have HREC0 := Lib.hid hrec
 clear hrec
 generalize formF (f + 1) t = R at *
 subst hz
 go_enter Tryz.func161, Tryz.ntmps161
 go_upto_region 1 with fail
 have hbx := tbox_new w t so c
 have hba : Below w.heap.size w (w.alloc (.cells #[.int .i64 t.kind, .int .i64 t.int, .int .i64 t.gen, .string t.name, .string t.func, .int .i64 t.arity, .slice so t.items.length c, .string t.bytes, .int .i64 t.bits] 78)) := (Below.refl _ _).alloc (Nat.le_refl _) _
 generalize w.alloc (.cells #[.int .i64 t.kind, .int .i64 t.int, .int .i64 t.gen, .string t.name, .string t.func, .int .i64 t.arity, .slice so t.items.length c, .string t.bytes, .int .i64 t.bits] 78) = Wa at *
 have HREC : Hid (FormAt f t so Wa (t.items.all (formF f))) := Lib.hid (HREC0.out Wa hba)
 clear HREC0
 generalize hBz : w.heap.size = B at *
 have HBZ := Lib.hid hBz; have HBA := Lib.hid hba; have HBX := Lib.hid hbx
 clear hBz hba
 have hlb := lt_of_row hbx
 have c0 : Wa.cell? ⟨B, 0, none⟩ = some (.int .i64 t.kind) := by rw [cell_of_row _ _ _ _ _ _ hbx]; rfl
 have c1 : Wa.cell? ⟨B, 1, none⟩ = some (.int .i64 t.int) := by rw [cell_of_row _ _ _ _ _ _ hbx]; rfl
 have c2 : Wa.cell? ⟨B, 2, none⟩ = some (.int .i64 t.gen) := by rw [cell_of_row _ _ _ _ _ _ hbx]; rfl
 have c3 : Wa.cell? ⟨B, 3, none⟩ = some (.string t.name) := by rw [cell_of_row _ _ _ _ _ _ hbx]; rfl
 have c4 : Wa.cell? ⟨B, 4, none⟩ = some (.string t.func) := by rw [cell_of_row _ _ _ _ _ _ hbx]; rfl
 have c5 : Wa.cell? ⟨B, 5, none⟩ = some (.int .i64 t.arity) := by rw [cell_of_row _ _ _ _ _ _ hbx]; rfl
 have c6 : Wa.cell? ⟨B, 6, none⟩ = some (.slice so t.items.length c) := by rw [cell_of_row _ _ _ _ _ _ hbx]; rfl
 have c7 : Wa.cell? ⟨B, 7, none⟩ = some (.string t.bytes) := by rw [cell_of_row _ _ _ _ _ _ hbx]; rfl
 have c8 : Wa.cell? ⟨B, 8, none⟩ = some (.int .i64 t.bits) := by rw [cell_of_row _ _ _ _ _ _ hbx]; rfl
 clear hbx
 have HFIN : Hid (∀ wx, Below Wa.heap.size Wa wx → Below B w wx) := Lib.hid (fun wx hh => HBA.out.trans (hh.mono (by have := HBA.out.size; have := HBZ.out; omega)))
 go_wp2_with fail
 refine (hB _).mono ?_
 rintro e w1 ⟨so', c', rfl, hb1⟩
 go_wp2_with fail
 refine (hZ so' c' _).mono ?_
 rintro e w2 ⟨rfl, hb2⟩
 clear hZ hB
 have HB2 : Hid (Below Wa.heap.size Wa w2) := Lib.hid (below_next hb1 hb2)
 clear hb1 hb2
 have HET : Hid (∀ A, t.items.all (formF f) = A → R = (okK t && A)) := Lib.hid (fun A h => by rw [HE.out, h, Bool.and_true])
 clear HE
 have HAK : Hid (t.items.all (formF f) = (t.items.drop 0).all (formF f)) := Lib.hid rfl
 generalize t.items.all (formF f) = A at HREC HET HAK
 go_wp2_with fail
 go_loopw [3] (fun iv wr => ∃ (k : Nat), k ≤ t.items.length ∧ iv = .int .i64 k ∧ Hid (A = (t.items.drop k).all (formF f)) ∧ Hid (Below Wa.heap.size Wa wr)) (fun iv _ => t.items.length - (intOf iv).toNat)
 case atStart => exact ⟨0, Nat.zero_le _, rfl, HAK, HB2⟩
 case round =>
  obtain ⟨k, hk, rfl, HK, HBk⟩ := hrel
  rename World => wr
  clear c0 c1 c2 c3 c4 c5 c6 c7 c8
  have hb1 := (HBk.out.block B (lt_of_row HBX.out)).trans HBX.out
  have hlb1 := lt_of_row hb1
  have c0 : wr.cell? ⟨B, 0, none⟩ = some (.int .i64 t.kind) := by rw [cell_of_row _ _ _ _ _ _ hb1]; rfl
  have c1 : wr.cell? ⟨B, 1, none⟩ = some (.int .i64 t.int) := by rw [cell_of_row _ _ _ _ _ _ hb1]; rfl
  have c2 : wr.cell? ⟨B, 2, none⟩ = some (.int .i64 t.gen) := by rw [cell_of_row _ _ _ _ _ _ hb1]; rfl
  have c3 : wr.cell? ⟨B, 3, none⟩ = some (.string t.name) := by rw [cell_of_row _ _ _ _ _ _ hb1]; rfl
  have c4 : wr.cell? ⟨B, 4, none⟩ = some (.string t.func) := by rw [cell_of_row _ _ _ _ _ _ hb1]; rfl
  have c5 : wr.cell? ⟨B, 5, none⟩ = some (.int .i64 t.arity) := by rw [cell_of_row _ _ _ _ _ _ hb1]; rfl
  have c6 : wr.cell? ⟨B, 6, none⟩ = some (.slice so t.items.length c) := by rw [cell_of_row _ _ _ _ _ _ hb1]; rfl
  have c7 : wr.cell? ⟨B, 7, none⟩ = some (.string t.bytes) := by rw [cell_of_row _ _ _ _ _ _ hb1]; rfl
  have c8 : wr.cell? ⟨B, 8, none⟩ = some (.int .i64 t.bits) := by rw [cell_of_row _ _ _ _ _ _ hb1]; rfl
  clear hb1
  by_cases hlt : k < t.items.length
  ·obtain ⟨b2, off, ai, ci, hao, hb2, q0, q1, q2, q3, q4, q5, q6, q7, q8, r, hcall, hsd⟩ := HREC.out k wr hlt HBk.out HK.out
   subst hao
   have HCL := Lib.hid hcall; have HSD := Lib.hid hsd
   clear hcall hsd
   generalize t.items[k] = u at *
   cases r with
   | true =>
    go_wp2_with fail
    refine HCL.out.mono ?_
    rintro e9 w5 ⟨rfl, hb5⟩
    go_wp2_with fail
    go_roundw
    case rel => exact ⟨k + 1, by omega, by go_num, Lib.hid (by rw [HSD.out, Bool.true_and]), Lib.hid (below_next HBk.out hb5)⟩
    case measure => simp [intOf]; omega
   | false =>
    go_wp2_with fail
    refine HCL.out.mono ?_
    rintro e9 w5 ⟨rfl, hb5⟩
    go_wp2_with fail
    go_ret
    exact ⟨retb (by rw [HET.out A rfl, HSD.out]; cases okK t <;> rfl), by rw [HBZ.out]; exact HFIN.out _ (below_next HBk.out hb5)⟩
  ·have E : Hid (R = okK t) := Lib.hid (by rw [HET.out A rfl, HK.out, List.drop_eq_nil_of_le (by omega)]; simp)
   have hkd := HKD.out
   have hE := E.out
   have e2 : okK t = (wi t.int 0 999 && wi t.gen 1 2147483647 && nameB t.name && wi t.arity 0 16 && decide (t.items.length ≤ 200)) := by unfold okK; simp [hkd, Bool.and_assoc]
   rw [e2] at hE
   rw [hkd] at c0
   clear e2 E HKD hkd
   have h0 := fun wx => rbetween_any t.int 0 999 wx
   have h1 := fun wx => rbetween_any t.gen 1 2147483647 wx
   have h2 := fun wx => rname_any t.name wx (by unfold maxLen; omega)
   have h3 := fun wx => rbetween_any t.arity 0 16 wx
   generalize wi t.int 0 999 = b0 at *
   generalize wi t.gen 1 2147483647 = b1 at *
   generalize nameB t.name = b2 at *
   generalize wi t.arity 0 16 = b3 at *
   have E := Lib.hid hE
   clear hE
   cases b0 with
   | false =>
    go_wp2_with (first | (go_at_call 197; first | ((with_reducible refine (h0 _).mono ?_); rintro e w9 ⟨rfl, rfl⟩) | ((with_reducible refine (h1 _).mono ?_); rintro e w9 ⟨rfl, rfl⟩) | ((with_reducible refine (h3 _).mono ?_); rintro e w9 ⟨rfl, rfl⟩)) | (go_at_call 84; first | ((with_reducible refine (h2 _).mono ?_); rintro e w9 ⟨rfl, rfl⟩)))
    go_ret
    exact ⟨retb (by rw [E.out]; try simp <;> omega), by rw [HBZ.out]; exact HFIN.out _ HBk.out⟩
   | true =>
    cases b1 with
    | false =>
     go_wp2_with (first | (go_at_call 197; first | ((with_reducible refine (h0 _).mono ?_); rintro e w9 ⟨rfl, rfl⟩) | ((with_reducible refine (h1 _).mono ?_); rintro e w9 ⟨rfl, rfl⟩) | ((with_reducible refine (h3 _).mono ?_); rintro e w9 ⟨rfl, rfl⟩)) | (go_at_call 84; first | ((with_reducible refine (h2 _).mono ?_); rintro e w9 ⟨rfl, rfl⟩)))
     go_ret
     exact ⟨retb (by rw [E.out]; try simp <;> omega), by rw [HBZ.out]; exact HFIN.out _ HBk.out⟩
    | true =>
     cases b2 with
     | false =>
      go_wp2_with (first | (go_at_call 197; first | ((with_reducible refine (h0 _).mono ?_); rintro e w9 ⟨rfl, rfl⟩) | ((with_reducible refine (h1 _).mono ?_); rintro e w9 ⟨rfl, rfl⟩) | ((with_reducible refine (h3 _).mono ?_); rintro e w9 ⟨rfl, rfl⟩)) | (go_at_call 84; first | ((with_reducible refine (h2 _).mono ?_); rintro e w9 ⟨rfl, rfl⟩)))
      go_ret
      exact ⟨retb (by rw [E.out]; try simp <;> omega), by rw [HBZ.out]; exact HFIN.out _ HBk.out⟩
     | true =>
      cases b3 with
      | false =>
       go_wp2_with (first | (go_at_call 197; first | ((with_reducible refine (h0 _).mono ?_); rintro e w9 ⟨rfl, rfl⟩) | ((with_reducible refine (h1 _).mono ?_); rintro e w9 ⟨rfl, rfl⟩) | ((with_reducible refine (h3 _).mono ?_); rintro e w9 ⟨rfl, rfl⟩)) | (go_at_call 84; first | ((with_reducible refine (h2 _).mono ?_); rintro e w9 ⟨rfl, rfl⟩)))
       go_ret
       exact ⟨retb (by rw [E.out]; try simp <;> omega), by rw [HBZ.out]; exact HFIN.out _ HBk.out⟩
      | true =>
       go_wp2_with (first | (go_at_call 197; first | ((with_reducible refine (h0 _).mono ?_); rintro e w9 ⟨rfl, rfl⟩) | ((with_reducible refine (h1 _).mono ?_); rintro e w9 ⟨rfl, rfl⟩) | ((with_reducible refine (h3 _).mono ?_); rintro e w9 ⟨rfl, rfl⟩)) | (go_at_call 84; first | ((with_reducible refine (h2 _).mono ?_); rintro e w9 ⟨rfl, rfl⟩)))
       go_ret
       exact ⟨retb (by rw [E.out]; try simp <;> omega), by rw [HBZ.out]; exact HFIN.out _ HBk.out⟩
end Go.Proofs.YtghgbikmlbildaaGreatDoor
namespace Go.Proofs.YtghgbikmlbildaaGreatDoor
open Go.RowKit
set_option linter.unusedVariables false
set_option linter.unusedSimpArgs false

set_option maxRecDepth 100000 in
set_option maxHeartbeats 16000000 in
theorem form_list (f : Nat) (t : Tm) (so : Option Addr) (c : Nat) (w : World) (hok : t.Ok) (hrec : FormRec f t so w) (hz : allZ 0 (leftT t).int (leftT t).gen (leftT t).name (leftT t).func (leftT t).arity (leftT t).items.length (leftT t).bytes (leftT t).bits = true) (hkd : t.kind = 9) :
  Calls Tryz.prog 161 #[.agg #[.int .i64 t.kind, .int .i64 t.int, .int .i64 t.gen, .string t.name, .string t.func, .int .i64 t.arity, .slice so t.items.length c, .string t.bytes, .int .i64 t.bits]] w fun e w' => e = .returned (.bool (formF (f + 1) t)) ∧ Below w.heap.size w w' := by
 have HKD := Lib.hid hkd
 clear hkd
 obtain ⟨ok0, ok1, ok2, ok3, ok4, ok5, ok6, ok7, ok8⟩ := hok
 unfold maxLen at ok3 ok4 ok6 ok7
 have HE : Hid (formF (f + 1) t = ((okK t && allZ 0 (leftT t).int (leftT t).gen (leftT t).name (leftT t).func (leftT t).arity (leftT t).items.length (leftT t).bytes (leftT t).bits) && t.items.all (formF f))) := Lib.hid (by rw [loc_all]; rfl)
 have hZ := fun so' c' wx => rzero_any 0 (leftT t).int (leftT t).gen (leftT t).name (leftT t).func (leftT t).arity so' (leftT t).items.length c' (leftT t).bytes (leftT t).bits wx (Nat.le_trans (leftT_len t) (by omega))
 have hB := fun wx => rbare_any t so c wx
 unfold BareQ at hB
 generalize allZ 0 (leftT t).int (leftT t).gen (leftT t).name (leftT t).func (leftT t).arity (leftT t).items.length (leftT t).bytes (leftT t).bits = Z at *
 generalize leftT t = q at *
 have HREC0 := Lib.hid hrec
 clear hrec
 generalize formF (f + 1) t = R at *
 subst hz
 go_enter Tryz.func161, Tryz.ntmps161
 go_upto_region 1 with fail
 have hbx := tbox_new w t so c
 have hba : Below w.heap.size w (w.alloc (.cells #[.int .i64 t.kind, .int .i64 t.int, .int .i64 t.gen, .string t.name, .string t.func, .int .i64 t.arity, .slice so t.items.length c, .string t.bytes, .int .i64 t.bits] 78)) := (Below.refl _ _).alloc (Nat.le_refl _) _
 generalize w.alloc (.cells #[.int .i64 t.kind, .int .i64 t.int, .int .i64 t.gen, .string t.name, .string t.func, .int .i64 t.arity, .slice so t.items.length c, .string t.bytes, .int .i64 t.bits] 78) = Wa at *
 have HREC : Hid (FormAt f t so Wa (t.items.all (formF f))) := Lib.hid (HREC0.out Wa hba)
 clear HREC0
 generalize hBz : w.heap.size = B at *
 have HBZ := Lib.hid hBz; have HBA := Lib.hid hba; have HBX := Lib.hid hbx
 clear hBz hba
 have hlb := lt_of_row hbx
 have c0 : Wa.cell? ⟨B, 0, none⟩ = some (.int .i64 t.kind) := by rw [cell_of_row _ _ _ _ _ _ hbx]; rfl
 have c1 : Wa.cell? ⟨B, 1, none⟩ = some (.int .i64 t.int) := by rw [cell_of_row _ _ _ _ _ _ hbx]; rfl
 have c2 : Wa.cell? ⟨B, 2, none⟩ = some (.int .i64 t.gen) := by rw [cell_of_row _ _ _ _ _ _ hbx]; rfl
 have c3 : Wa.cell? ⟨B, 3, none⟩ = some (.string t.name) := by rw [cell_of_row _ _ _ _ _ _ hbx]; rfl
 have c4 : Wa.cell? ⟨B, 4, none⟩ = some (.string t.func) := by rw [cell_of_row _ _ _ _ _ _ hbx]; rfl
 have c5 : Wa.cell? ⟨B, 5, none⟩ = some (.int .i64 t.arity) := by rw [cell_of_row _ _ _ _ _ _ hbx]; rfl
 have c6 : Wa.cell? ⟨B, 6, none⟩ = some (.slice so t.items.length c) := by rw [cell_of_row _ _ _ _ _ _ hbx]; rfl
 have c7 : Wa.cell? ⟨B, 7, none⟩ = some (.string t.bytes) := by rw [cell_of_row _ _ _ _ _ _ hbx]; rfl
 have c8 : Wa.cell? ⟨B, 8, none⟩ = some (.int .i64 t.bits) := by rw [cell_of_row _ _ _ _ _ _ hbx]; rfl
 clear hbx
 have HFIN : Hid (∀ wx, Below Wa.heap.size Wa wx → Below B w wx) := Lib.hid (fun wx hh => HBA.out.trans (hh.mono (by have := HBA.out.size; have := HBZ.out; omega)))
 go_wp2_with fail
 refine (hB _).mono ?_
 rintro e w1 ⟨so', c', rfl, hb1⟩
 go_wp2_with fail
 refine (hZ so' c' _).mono ?_
 rintro e w2 ⟨rfl, hb2⟩
 clear hZ hB
 have HB2 : Hid (Below Wa.heap.size Wa w2) := Lib.hid (below_next hb1 hb2)
 clear hb1 hb2
 have HET : Hid (∀ A, t.items.all (formF f) = A → R = (okK t && A)) := Lib.hid (fun A h => by rw [HE.out, h, Bool.and_true])
 clear HE
 have HAK : Hid (t.items.all (formF f) = (t.items.drop 0).all (formF f)) := Lib.hid rfl
 generalize t.items.all (formF f) = A at HREC HET HAK
 go_wp2_with fail
 go_loopw [3] (fun iv wr => ∃ (k : Nat), k ≤ t.items.length ∧ iv = .int .i64 k ∧ Hid (A = (t.items.drop k).all (formF f)) ∧ Hid (Below Wa.heap.size Wa wr)) (fun iv _ => t.items.length - (intOf iv).toNat)
 case atStart => exact ⟨0, Nat.zero_le _, rfl, HAK, HB2⟩
 case round =>
  obtain ⟨k, hk, rfl, HK, HBk⟩ := hrel
  rename World => wr
  clear c0 c1 c2 c3 c4 c5 c6 c7 c8
  have hb1 := (HBk.out.block B (lt_of_row HBX.out)).trans HBX.out
  have hlb1 := lt_of_row hb1
  have c0 : wr.cell? ⟨B, 0, none⟩ = some (.int .i64 t.kind) := by rw [cell_of_row _ _ _ _ _ _ hb1]; rfl
  have c1 : wr.cell? ⟨B, 1, none⟩ = some (.int .i64 t.int) := by rw [cell_of_row _ _ _ _ _ _ hb1]; rfl
  have c2 : wr.cell? ⟨B, 2, none⟩ = some (.int .i64 t.gen) := by rw [cell_of_row _ _ _ _ _ _ hb1]; rfl
  have c3 : wr.cell? ⟨B, 3, none⟩ = some (.string t.name) := by rw [cell_of_row _ _ _ _ _ _ hb1]; rfl
  have c4 : wr.cell? ⟨B, 4, none⟩ = some (.string t.func) := by rw [cell_of_row _ _ _ _ _ _ hb1]; rfl
  have c5 : wr.cell? ⟨B, 5, none⟩ = some (.int .i64 t.arity) := by rw [cell_of_row _ _ _ _ _ _ hb1]; rfl
  have c6 : wr.cell? ⟨B, 6, none⟩ = some (.slice so t.items.length c) := by rw [cell_of_row _ _ _ _ _ _ hb1]; rfl
  have c7 : wr.cell? ⟨B, 7, none⟩ = some (.string t.bytes) := by rw [cell_of_row _ _ _ _ _ _ hb1]; rfl
  have c8 : wr.cell? ⟨B, 8, none⟩ = some (.int .i64 t.bits) := by rw [cell_of_row _ _ _ _ _ _ hb1]; rfl
  clear hb1
  by_cases hlt : k < t.items.length
  ·obtain ⟨b2, off, ai, ci, hao, hb2, q0, q1, q2, q3, q4, q5, q6, q7, q8, r, hcall, hsd⟩ := HREC.out k wr hlt HBk.out HK.out
   subst hao
   have HCL := Lib.hid hcall; have HSD := Lib.hid hsd
   clear hcall hsd
   generalize t.items[k] = u at *
   cases r with
   | true =>
    go_wp2_with fail
    refine HCL.out.mono ?_
    rintro e9 w5 ⟨rfl, hb5⟩
    go_wp2_with fail
    go_roundw
    case rel => exact ⟨k + 1, by omega, by go_num, Lib.hid (by rw [HSD.out, Bool.true_and]), Lib.hid (below_next HBk.out hb5)⟩
    case measure => simp [intOf]; omega
   | false =>
    go_wp2_with fail
    refine HCL.out.mono ?_
    rintro e9 w5 ⟨rfl, hb5⟩
    go_wp2_with fail
    go_ret
    exact ⟨retb (by rw [HET.out A rfl, HSD.out]; cases okK t <;> rfl), by rw [HBZ.out]; exact HFIN.out _ (below_next HBk.out hb5)⟩
  ·have E : Hid (R = okK t) := Lib.hid (by rw [HET.out A rfl, HK.out, List.drop_eq_nil_of_le (by omega)]; simp)
   have hkd := HKD.out
   have e2 : okK t = (decide (2 ≤ t.items.length) && decide (lastK t.items ≠ 9)) := by unfold okK; simp [hkd]
   rw [hkd] at c0
   have E2 := Lib.hid (E.out.trans e2)
   clear E HKD hkd e2
   by_cases h2 : t.items.length < 2
   ·have E3 : Hid (R = false) := Lib.hid (by rw [E2.out, decide_eq_false (by omega)]; rfl)
    go_wp2_with fail
    go_ret
    exact ⟨retb E3.out.symm, by rw [HBZ.out]; exact HFIN.out _ HBk.out⟩
   ·have hl1 : t.items.length - 1 < t.items.length := by omega
    have hA : t.items.all (formF f) = true := by
     have h := HAK.out.symm.trans HK.out
     rw [List.drop_eq_nil_of_le (Nat.le_of_not_lt hlt), List.drop_zero] at h
     exact h
    obtain ⟨b2, off, ai, ci, hao, hb2, q0, -⟩ := HREC.out (t.items.length - 1) wr hl1 HBk.out (by rw [HAK.out, List.drop_zero, hA]; exact (all_drop3 hA _).symm)
    subst hao
    have E3 : Hid (R = decide (t.items[t.items.length - 1].kind ≠ 9)) := Lib.hid (by rw [E2.out, lastK_at hl1, decide_eq_true (by omega), Bool.true_and])
    clear E2 hA HAK HET HREC
    generalize t.items[t.items.length - 1].kind = lk at *
    clear hl1
    obtain ⟨m, hm⟩ : ∃ m, t.items.length = m + 2 := ⟨t.items.length - 2, by omega⟩
    generalize t.items.length = n at *
    subst hm
    rw [show m + 2 - 1 = m + 1 by rfl] at q0
    go_wp2_with fail
    go_ret
    exact ⟨retb (by rw [E3.out]; by_cases hl : lk = 9 <;> simp [hl]), by rw [HBZ.out]; exact HFIN.out _ HBk.out⟩
end Go.Proofs.YtghgbikmlbildaaGreatDoor
namespace Go.Proofs.YtghgbikmlbildaaGreatDoor
open Go.RowKit
set_option linter.unusedVariables false
set_option linter.unusedSimpArgs false

theorem form_step (f : Nat) (IH : ∀ f', f = f' + 1 → FormP f') : FormP f := by
 intro t so c w hsl hok
 have hrec : FormRec f t so w := by
  intro Wa hba k wr hlt hb hs
  cases f with
  | zero => rw [hsl.zero] at hlt; exact absurd hlt (Nat.not_lt_zero _)
  | succ f =>
   obtain ⟨b2, off, ai, ci, hao, hb2, q0, q1, q2, q3, q4, q5, q6, q7, q8, hit, hok2⟩ := (SlAt.tms (SlAt.tms hsl hba) hb).tm hlt
   exact ⟨b2, off, ai, ci, hao, hb2, q0, q1, q2, q3, q4, q5, q6, q7, q8, formF (f + 1) t.items[k], IH f rfl _ ai ci wr hit hok2, by rw [hs]; exact all_drop hlt⟩
 cases hz : allZ 0 (leftT t).int (leftT t).gen (leftT t).name (leftT t).func (leftT t).arity (leftT t).items.length (leftT t).bytes (leftT t).bits with
 | false => exact form_zero f t so c w hok hrec hz
 | true =>
  by_cases h1 : t.kind = 1
  ·exact form_one f t so c w hok hrec hz h1
  by_cases h2 : t.kind = 2
  ·exact form_atom f t so c w hok hrec hz h2
  by_cases h3 : t.kind = 3
  ·exact form_ref f t so c w hok hrec hz h3
  by_cases h4 : t.kind = 4
  ·exact form_closure f t so c w hok hrec hz h4
  by_cases h5 : t.kind = 5
  ·exact form_export f t so c w hok hrec hz h5
  by_cases h6 : t.kind = 6
  ·exact form_pid f t so c w hok hrec hz h6
  by_cases h7 : t.kind = 7
  ·exact form_tuple f t so c w hok hrec hz h7
  by_cases h8 : t.kind = 8
  ·exact form_nil f t so c w hok hrec hz h8
  by_cases h9 : t.kind = 9
  ·exact form_list f t so c w hok hrec hz h9
  by_cases h10 : t.kind = 10
  ·exact form_bits f t so c w hok hrec hz h10
  exact form_other f t so c w hok hrec hz (by omega)
theorem form_rec (f : Nat) : FormP f := by
 induction f with
 | zero => exact form_step 0 (fun f' h => absurd h (by omega))
 | succ f ih => exact form_step (f + 1) (fun f' h => by have : f' = f := by omega
                                                        subst this; exact ih)
set_option maxRecDepth 100000 in
set_option maxHeartbeats 4000000 in
theorem rcheck_term (f : Nat) (t : Tm) (so : Option Addr) (c : Nat) (w : World) (ht : SlAt w 9 (TmAt w f) so t.items) (hok : t.Ok) (hs1 : (capF (f + 1) t : Int) ≤ 1152921504606846976) :
  Calls Tryz.prog 134 #[.agg #[.int .i64 t.kind, .int .i64 t.int, .int .i64 t.gen, .string t.name, .string t.func, .int .i64 t.arity, .slice so t.items.length c, .string t.bytes, .int .i64 t.bits]] w fun e w' => e = .returned (.int .i64 (checkF (f + 1) t)) ∧ Below w.heap.size w w' := by
 have hbx := tbox_new w t so c
 have hB : Below w.heap.size w (w.alloc (.cells #[.int .i64 t.kind, .int .i64 t.int, .int .i64 t.gen, .string t.name, .string t.func, .int .i64 t.arity, .slice so t.items.length c, .string t.bytes, .int .i64 t.bits] 78)) := (Below.refl _ _).alloc (Nat.le_refl _) _
 have hF : ∀ wx, Below w.heap.size w wx → Calls Tryz.prog 161 #[.agg #[.int .i64 t.kind, .int .i64 t.int, .int .i64 t.gen, .string t.name, .string t.func, .int .i64 t.arity, .slice so t.items.length c, .string t.bytes, .int .i64 t.bits]] wx fun e w' => e = .returned (.bool (formF (f + 1) t)) ∧ Below wx.heap.size wx w' := fun wx hx => form_rec f t so c wx (ht.tms hx) hok
 have hW : formF (f + 1) t = true → ∀ wx, Below w.heap.size w wx → Calls Tryz.prog 162 #[.agg #[.int .i64 t.kind, .int .i64 t.int, .int .i64 t.gen, .string t.name, .string t.func, .int .i64 t.arity, .slice so t.items.length c, .string t.bytes, .int .i64 t.bits]] wx fun e w' => e = .returned (.int .i64 (wholeF (f + 1) t)) ∧ Below wx.heap.size wx w' := fun h wx hx => whole_rec f t so c wx (ht.tms hx) hok h hs1
 have E : Hid (checkF (f + 1) t = if formF (f + 1) t = true then (if 2000 < wholeF (f + 1) t then 3 else 0) else 2) := Lib.hid rfl
 have HB := Lib.hid hB; have HBX := Lib.hid hbx
 have HF := Lib.hid hF; have HW := Lib.hid hW
 clear ht hok hs1 hB hF hW hbx
 generalize checkF (f + 1) t = r at *
 generalize formF (f + 1) t = b at *
 generalize wholeF (f + 1) t = n at *
 go_enter Tryz.func134, Tryz.ntmps134
 go_upto_region 1 with fail
 generalize w.alloc (.cells #[.int .i64 t.kind, .int .i64 t.int, .int .i64 t.gen, .string t.name, .string t.func, .int .i64 t.arity, .slice so t.items.length c, .string t.bytes, .int .i64 t.bits] 78) = Wa at *
 generalize hBz : w.heap.size = B at *
 have HBZ := Lib.hid hBz
 clear hBz
 have hb1 := HBX.out
 have hlb1 := lt_of_row hb1
 have c0 : Wa.cell? ⟨B, 0, none⟩ = some (.int .i64 t.kind) := by rw [cell_of_row _ _ _ _ _ _ hb1]; rfl
 have c1 : Wa.cell? ⟨B, 1, none⟩ = some (.int .i64 t.int) := by rw [cell_of_row _ _ _ _ _ _ hb1]; rfl
 have c2 : Wa.cell? ⟨B, 2, none⟩ = some (.int .i64 t.gen) := by rw [cell_of_row _ _ _ _ _ _ hb1]; rfl
 have c3 : Wa.cell? ⟨B, 3, none⟩ = some (.string t.name) := by rw [cell_of_row _ _ _ _ _ _ hb1]; rfl
 have c4 : Wa.cell? ⟨B, 4, none⟩ = some (.string t.func) := by rw [cell_of_row _ _ _ _ _ _ hb1]; rfl
 have c5 : Wa.cell? ⟨B, 5, none⟩ = some (.int .i64 t.arity) := by rw [cell_of_row _ _ _ _ _ _ hb1]; rfl
 have c6 : Wa.cell? ⟨B, 6, none⟩ = some (.slice so t.items.length c) := by rw [cell_of_row _ _ _ _ _ _ hb1]; rfl
 have c7 : Wa.cell? ⟨B, 7, none⟩ = some (.string t.bytes) := by rw [cell_of_row _ _ _ _ _ _ hb1]; rfl
 have c8 : Wa.cell? ⟨B, 8, none⟩ = some (.int .i64 t.bits) := by rw [cell_of_row _ _ _ _ _ _ hb1]; rfl
 clear hb1
 cases b with
 | false =>
  rw [if_neg (by decide)] at E
  go_wp2_with fail
  refine (HF.out _ HB.out).mono ?_
  rintro e w5 ⟨rfl, hb5⟩
  go_wp2_with fail
  go_ret
  exact ⟨ret1 E.out.symm, below_next (by rw [HBZ.out]; exact HB.out) hb5⟩
 | true =>
  rw [if_pos rfl] at E
  go_wp2_with fail
  refine (HF.out _ HB.out).mono ?_
  rintro e w5 ⟨rfl, hb5⟩
  have hb1 := (hb5.block B hlb1).trans HBX.out
  have hlb5 := lt_of_row hb1
  clear c0 c1 c2 c3 c4 c5 c6 c7 c8 hlb1
  have c0 : w5.cell? ⟨B, 0, none⟩ = some (.int .i64 t.kind) := by rw [cell_of_row _ _ _ _ _ _ hb1]; rfl
  have c1 : w5.cell? ⟨B, 1, none⟩ = some (.int .i64 t.int) := by rw [cell_of_row _ _ _ _ _ _ hb1]; rfl
  have c2 : w5.cell? ⟨B, 2, none⟩ = some (.int .i64 t.gen) := by rw [cell_of_row _ _ _ _ _ _ hb1]; rfl
  have c3 : w5.cell? ⟨B, 3, none⟩ = some (.string t.name) := by rw [cell_of_row _ _ _ _ _ _ hb1]; rfl
  have c4 : w5.cell? ⟨B, 4, none⟩ = some (.string t.func) := by rw [cell_of_row _ _ _ _ _ _ hb1]; rfl
  have c5 : w5.cell? ⟨B, 5, none⟩ = some (.int .i64 t.arity) := by rw [cell_of_row _ _ _ _ _ _ hb1]; rfl
  have c6 : w5.cell? ⟨B, 6, none⟩ = some (.slice so t.items.length c) := by rw [cell_of_row _ _ _ _ _ _ hb1]; rfl
  have c7 : w5.cell? ⟨B, 7, none⟩ = some (.string t.bytes) := by rw [cell_of_row _ _ _ _ _ _ hb1]; rfl
  have c8 : w5.cell? ⟨B, 8, none⟩ = some (.int .i64 t.bits) := by rw [cell_of_row _ _ _ _ _ _ hb1]; rfl
  clear hb1
  have HB5 : Hid (Below B w w5) := Lib.hid (HB.out.trans (hb5.mono (by have := HB.out.size; have := HBZ.out; omega)))
  clear hb5
  by_cases hn : 2000 < n
  ·rw [if_pos hn] at E
   go_wp2_with fail
   refine (HW.out (by trivial) _ HB5.out).mono ?_
   rintro e w6 ⟨rfl, hb6⟩
   go_wp2_with fail
   go_ret
   exact ⟨ret1 E.out.symm, by rw [HBZ.out]; exact HB5.out.trans (hb6.mono (by have := HB5.out.size; have := HBZ.out; omega))⟩
  ·rw [if_neg hn] at E
   have hn' : n ≤ 2000 := by omega
   clear hn
   go_wp2_with fail
   refine (HW.out (by trivial) _ HB5.out).mono ?_
   rintro e w6 ⟨rfl, hb6⟩
   go_wp2_with fail
   go_ret
   exact ⟨ret1 E.out.symm, by rw [HBZ.out]; exact HB5.out.trans (hb6.mono (by have := HB5.out.size; have := HBZ.out; omega))⟩
set_option maxRecDepth 100000 in
set_option maxHeartbeats 4000000 in
theorem rvalid_term (f : Nat) (t : Tm) (so : Option Addr) (c : Nat) (w : World) (ht : SlAt w 9 (TmAt w f) so t.items) (hok : t.Ok) (hs1 : (capF (f + 1) t : Int) ≤ 1152921504606846976) :
  Calls Tryz.prog 86 #[.agg #[.int .i64 t.kind, .int .i64 t.int, .int .i64 t.gen, .string t.name, .string t.func, .int .i64 t.arity, .slice so t.items.length c, .string t.bytes, .int .i64 t.bits]] w fun e w' => e = .returned (.bool (validF (f + 1) t)) ∧ Below w.heap.size w w' := by
 have hB : Below w.heap.size w (w.alloc (.cells #[.int .i64 t.kind, .int .i64 t.int, .int .i64 t.gen, .string t.name, .string t.func, .int .i64 t.arity, .slice so t.items.length c, .string t.bytes, .int .i64 t.bits] 78)) := (Below.refl _ _).alloc (Nat.le_refl _) _
 have hC := rcheck_term f t so c (w.alloc (.cells #[.int .i64 t.kind, .int .i64 t.int, .int .i64 t.gen, .string t.name, .string t.func, .int .i64 t.arity, .slice so t.items.length c, .string t.bytes, .int .i64 t.bits] 78)) (ht.tms hB) hok hs1
 have E : Hid ((checkF (f + 1) t == 0) = validF (f + 1) t) := Lib.hid (by
  unfold checkF validF
  cases formF (f + 1) t
  ·rfl
  ·rw [if_pos rfl, Bool.true_and]
   by_cases h : 2000 < wholeF (f + 1) t
   ·rw [if_pos h, decide_eq_false (by omega)]; rfl
   ·rw [if_neg h, decide_eq_true (by omega)]; rfl)
 have HB := Lib.hid hB
 clear hB ht hok hs1
 generalize checkF (f + 1) t = n at *
 go_enter Tryz.func86, Tryz.ntmps86
 go_wp2_with fail
 refine hC.mono ?_
 rintro e w5 ⟨rfl, hb5⟩
 go_wp2_with fail
 go_ret
 exact ⟨retb E.out, below_next HB.out hb5⟩
end Go.Proofs.YtghgbikmlbildaaGreatDoor
namespace Go.Proofs.YtghgbikmlbildaaGreatDoor
open Go.RowKit
set_option linter.unusedVariables false
set_option linter.unusedSimpArgs false

set_option maxHeartbeats 4000000 in
set_option maxRecDepth 100000 in
theorem rput07_yes (f : Nat) (t : Tm) (so : Option Addr) (c : Nat) (w : World) (hsl : SlAt w 9 (TmAt w f) so t.items) (hok : t.Ok) (hcap : (capF (f + 1) t : Int) ≤ 1152921504606846976) (hv : validF (f + 1) t = true) :
  Calls Tryz.prog 51 #[.agg #[.int .i64 t.kind, .int .i64 t.int, .int .i64 t.gen, .string t.name, .string t.func, .int .i64 t.arity, .slice so t.items.length c, .string t.bytes, .int .i64 t.bits]] w fun e w' => e = .returned (.tuple #[.string ⟨(putE (f + 1) t).toArray⟩, .int .i64 0]) ∧ Below w.heap.size w w' := by
 have hbx := tbox_new w t so c
 have hba : Below w.heap.size w (w.alloc (.cells #[.int .i64 t.kind, .int .i64 t.int, .int .i64 t.gen, .string t.name, .string t.func, .int .i64 t.arity, .slice so t.items.length c, .string t.bytes, .int .i64 t.bits] 78)) := (Below.refl _ _).alloc (Nat.le_refl _) _
 have hva := rvalid_term f t so c (w.alloc (.cells #[.int .i64 t.kind, .int .i64 t.int, .int .i64 t.gen, .string t.name, .string t.func, .int .i64 t.arity, .slice so t.items.length c, .string t.bytes, .int .i64 t.bits] 78)) (hsl.tms hba) hok hcap
 rw [hv] at hva
 have hfm : formF (f + 1) t = true := by unfold validF at hv; rw [Bool.and_eq_true] at hv; exact hv.1
 have hlen := putE_len hv
 have hlen2 : (codeE (f + 1) t).length ≤ 4400001 := by have : (putE (f + 1) t).length = (codeE (f + 1) t).length + 1 := rfl; omega
 have HC : Hid (∀ (wx : World), Below w.heap.size w wx → Calls Tryz.prog 99 #[.agg #[.int .i64 t.kind, .int .i64 t.int, .int .i64 t.gen, .string t.name, .string t.func, .int .i64 t.arity, .slice so t.items.length c, .string t.bytes, .int .i64 t.bits]] wx (BytesQ wx (codeE (f + 1) t))) := Lib.hid (fun wx hx => rcode_rec f t so c wx (hsl.tms hx) hok hfm (by omega))
 have HNE := Lib.hid (codeE_ne f t hfm)
 have HVA := Lib.hid hva; have HBX := Lib.hid hbx; have HBA := Lib.hid hba
 have HL2 := Lib.hid hlen2
 have HP : Hid ((⟨#[131]⟩ : ByteArray) ++ ⟨(codeE (f + 1) t).toArray⟩ = ⟨(putE (f + 1) t).toArray⟩) := Lib.hid (cat_bytes [131] _)
 clear hsl hok hcap hv hbx hba hva hfm hlen hlen2
 generalize codeE (f + 1) t = C at *
 generalize putE (f + 1) t = PE at *
 have hadd := fun wx => run_string_add_sum (P := Tryz.prog) wx ⟨#[131]⟩ ⟨C.toArray⟩ (by rw [bsz C]; have := HL2.out; show 1 + _ ≤ _; omega)
 go_enter Tryz.func51, Tryz.ntmps51
 go_upto_region 1 with fail
 have hq := HBX.out
 generalize w.alloc (.cells #[.int .i64 t.kind, .int .i64 t.int, .int .i64 t.gen, .string t.name, .string t.func, .int .i64 t.arity, .slice so t.items.length c, .string t.bytes, .int .i64 t.bits] 78) = Wa at *
 generalize hBz : w.heap.size = B at *
 have HBZ := Lib.hid hBz
 clear hBz
 obtain ⟨c0, c1, c2, c3, c4, c5, c6, c7, c8, cz⟩ := term_cells hq
 have hlx := lt_of_row hq
 clear cz hq
 go_wp2_with fail
 refine HVA.out.mono ?_
 rintro e w1 ⟨rfl, hb1⟩
 have HB1 : Hid (Below B w w1) := Lib.hid (HBA.out.trans (hb1.mono (by have := HBA.out.size; have := HBZ.out; omega)))
 have hq1 := (hb1.block B hlx).trans HBX.out
 clear hb1 hlx c0 c1 c2 c3 c4 c5 c6 c7 c8
 obtain ⟨c0, c1, c2, c3, c4, c5, c6, c7, c8, cz⟩ := term_cells hq1
 have hlx := lt_of_row hq1
 clear cz hq1
 go_wp2_with fail
 refine (HC.out _ HB1.out).mono ?_
 rintro e w2 ⟨v, rfl, ho, hb⟩
 obtain ⟨g, cap, cur, rfl, hg1, hg2, hg3⟩ := owns_open ho HNE.out
 have hcv := conv_row (cap := cap) C (row_news hg2 hg3)
 have HF : Hid (Below B w w2) := Lib.hid (HB1.out.trans (hb.mono (by have := HB1.out.size; have := HBZ.out; omega)))
 clear ho hb hg1 hg2 hg3 c0 c1 c2 c3 c4 c5 c6 c7 c8 hlx
 go_wp2_with fail
 go_ret2
 exact ⟨congrArg (fun s => Ending.returned (.tuple #[.string s, .int .i64 0])) HP.out, by rw [HBZ.out]; exact HF.out⟩
end Go.Proofs.YtghgbikmlbildaaGreatDoor
namespace Go.Proofs.YtghgbikmlbildaaGreatDoor
open Go.RowKit
set_option linter.unusedVariables false
set_option linter.unusedSimpArgs false

theorem cmpB_three : ∀ (a b : List UInt8), Lib.compareBytes a b = -1 ∨ Lib.compareBytes a b = 0 ∨ Lib.compareBytes a b = 1
 | [], [] => .inr (.inl rfl)
 | [], _ :: _ => .inl rfl
 | _ :: _, [] => .inr (.inr rfl)
 | a :: x, b :: y => by
  unfold Lib.compareBytes
  split
  ·exact .inl rfl
  ·split
   ·exact .inr (.inr rfl)
   ·exact cmpB_three x y
theorem cmpB_less : ∀ (a b : List UInt8), Op.bytesLess a b = decide (Lib.compareBytes a b = -1)
 | [], [] => rfl
 | [], _ :: _ => rfl
 | _ :: _, [] => rfl
 | a :: x, b :: y => by
  unfold Op.bytesLess Lib.compareBytes
  by_cases h : a < b
  ·rw [if_pos h, decide_eq_true h]; rfl
  ·rw [if_neg h, decide_eq_false h, Bool.false_or]
   by_cases h2 : b < a
   ·rw [if_pos h2]
    have : (a == b) = false := by
     rw [beq_eq_false_iff_ne]; intro e; subst e; exact h h2
    rw [this]; rfl
   ·rw [if_neg h2]
    have : a = b := by
     rw [UInt8.lt_iff_toNat_lt] at h h2
     exact UInt8.toNat_inj.1 (by omega)
    subst this
    rw [beq_self_eq_true, Bool.true_and]
    exact cmpB_less x y
theorem cmpB_eq : ∀ (a b : List UInt8), (a == b) = decide (Lib.compareBytes a b = 0)
 | [], [] => rfl
 | [], _ :: _ => rfl
 | _ :: _, [] => rfl
 | a :: x, b :: y => by
  unfold Lib.compareBytes
  by_cases h : a < b
  ·rw [if_pos h]
   have : a ≠ b := by intro e; subst e; rw [UInt8.lt_iff_toNat_lt] at h; omega
   simp [this]
  ·rw [if_neg h]
   by_cases h2 : b < a
   ·rw [if_pos h2]
    have : a ≠ b := by intro e; subst e; exact h h2
    simp [this]
   ·rw [if_neg h2]
    have : a = b := by
     rw [UInt8.lt_iff_toNat_lt] at h h2
     exact UInt8.toNat_inj.1 (by omega)
    subst this
    rw [← cmpB_eq x y]
    simp
set_option maxRecDepth 100000 in
theorem rints_any (a b : Int) (w : World) : Calls Tryz.prog 163 #[.int .i64 a, .int .i64 b] w fun e w' => e = .returned (.int .i64 (Lib.compareInt a b)) ∧ w = w' := by
 by_cases h : a < b
 ·have E : Hid (Lib.compareInt a b = -1) := Lib.hid (by unfold Lib.compareInt; rw [if_pos h])
  go_enter Tryz.func163, Tryz.ntmps163
  go_wp2
  go_ret
  exact ⟨ret1 E.out.symm, rfl⟩
 ·by_cases h2 : b < a
  ·have E : Hid (Lib.compareInt a b = 1) := Lib.hid (by unfold Lib.compareInt; rw [if_neg h, if_pos h2])
   go_enter Tryz.func163, Tryz.ntmps163
   go_wp2
   go_ret
   exact ⟨ret1 E.out.symm, rfl⟩
  ·have E : Hid (Lib.compareInt a b = 0) := Lib.hid (by unfold Lib.compareInt; rw [if_neg h, if_neg (by omega)])
   go_enter Tryz.func163, Tryz.ntmps163
   go_wp2
   go_ret
   exact ⟨ret1 E.out.symm, rfl⟩
set_option maxRecDepth 100000 in
theorem rtexts_any (a b : ByteArray) (w : World) : Calls Tryz.prog 164 #[.string a, .string b] w fun e w' => e = .returned (.int .i64 (Lib.compareBytes a.toList b.toList)) ∧ w = w' := by
 have key : ∀ (x1 x2 : Bool) (n : Int), Op.bytesLess a.toList b.toList = x1 → (a.toList == b.toList) = x2 → n = (if x1 = true then -1 else if x2 = true then 0 else 1) → Calls Tryz.prog 164 #[.string a, .string b] w fun e w' => e = .returned (.int .i64 n) ∧ w = w' := by
  intro x1 x2 n h1 h2 h3
  have E := Lib.hid h3
  clear h3
  cases x1 with
  | true =>
   go_enter Tryz.func164, Tryz.ntmps164
   go_wp2
   go_ret
   exact ⟨ret1 E.out.symm, rfl⟩
  | false =>
   cases x2 with
   | true =>
    go_enter Tryz.func164, Tryz.ntmps164
    go_wp2
    go_ret
    exact ⟨ret1 E.out.symm, rfl⟩
   | false =>
    go_enter Tryz.func164, Tryz.ntmps164
    go_wp2
    go_ret
    exact ⟨ret1 E.out.symm, rfl⟩
 refine key _ _ _ rfl rfl ?_
 rw [cmpB_less, cmpB_eq]
 rcases cmpB_three a.toList b.toList with h | h | h <;> rw [h] <;> rfl
theorem zero_name {s : ByteArray} (h : zS s = true) : s.data.toList = [] := by
 unfold zS at h; rw [decide_eq_true_eq] at h
 exact List.eq_nil_of_length_eq_zero (by rw [Array.length_toList]; exact h)
theorem valid_zeros {f : Nat} {t : Tm} (h : validF (f + 1) t = true) : zeroK t = true := by
 unfold validF formF locB at h
 simp only [Bool.and_eq_true] at h
 exact h.1.1.2
theorem cmpI_self (a : Int) : Lib.compareInt a a = 0 := by unfold Lib.compareInt; rw [if_neg (Int.lt_irrefl _), if_neg (Int.lt_irrefl _)]
theorem orL_one (x : Int) : (if x = 0 then (0 : Int) else x) = x := by split <;> omega
theorem cmpS_one {f : Nat} {a b : Tm} (va : validF (f + 1) a = true) (vb : validF (f + 1) b = true) (ha : a.kind = 1) (hb : b.kind = 1) : cmpS a b = Lib.compareInt a.int b.int := by
 have za := valid_zeros va
 have zb := valid_zeros vb
 unfold zeroK at za zb
 simp only [ha, hb] at za zb
 simp at za zb
 unfold zI zL at za zb
 simp only [decide_eq_true_eq] at za zb
 have n1 := zero_name za.1.1.1.1.1.2; have n2 := zero_name zb.1.1.1.1.1.2
 have f1 := zero_name za.1.1.1.1.2; have f2 := zero_name zb.1.1.1.1.2
 have g1 := za.1.1.1.1.1.1; have g2 := zb.1.1.1.1.1.1
 have a1 := za.1.1.1.2; have a2 := zb.1.1.1.2
 unfold cmpS
 rw [ha, hb, cmpI_self, if_pos rfl, n1, n2, f1, f2, g1, g2, a1, a2]
 simp only [orL, Lib.compareBytes, cmpI_self, if_true]
 exact orL_one _
theorem cmpS_atom {f : Nat} {a b : Tm} (va : validF (f + 1) a = true) (vb : validF (f + 1) b = true) (ha : a.kind = 2) (hb : b.kind = 2) : cmpS a b = Lib.compareBytes a.name.data.toList b.name.data.toList := by
 have za := valid_zeros va
 have zb := valid_zeros vb
 unfold zeroK at za zb
 simp only [ha, hb] at za zb
 simp at za zb
 unfold zI zL at za zb
 simp only [decide_eq_true_eq] at za zb
 have i1 := za.1.1.1.1.1.1; have i2 := zb.1.1.1.1.1.1
 have f1 := zero_name za.1.1.1.1.2; have f2 := zero_name zb.1.1.1.1.2
 have g1 := za.1.1.1.1.1.2; have g2 := zb.1.1.1.1.1.2
 have a1 := za.1.1.1.2; have a2 := zb.1.1.1.2
 unfold cmpS
 rw [ha, hb, cmpI_self, if_pos rfl, i1, i2, f1, f2, g1, g2, a1, a2]
 simp only [orL, Lib.compareBytes, cmpI_self, if_true]
 exact orL_one _
theorem cmpS_nil {f : Nat} {a b : Tm} (va : validF (f + 1) a = true) (vb : validF (f + 1) b = true) (ha : a.kind = 8) (hb : b.kind = 8) : cmpS a b = 0 := by
 have za := valid_zeros va
 have zb := valid_zeros vb
 unfold zeroK at za zb
 simp only [ha, hb] at za zb
 simp at za zb
 unfold zI zL at za zb
 simp only [decide_eq_true_eq] at za zb
 have i1 := za.1.1.1.1.1.1.1; have i2 := zb.1.1.1.1.1.1.1
 have n1 := zero_name za.1.1.1.1.1.2; have n2 := zero_name zb.1.1.1.1.1.2
 have f1 := zero_name za.1.1.1.1.2; have f2 := zero_name zb.1.1.1.1.2
 have g1 := za.1.1.1.1.1.1.2; have g2 := zb.1.1.1.1.1.1.2
 have a1 := za.1.1.1.2; have a2 := zb.1.1.1.2
 unfold cmpS
 rw [ha, hb, cmpI_self, if_pos rfl, i1, i2, n1, n2, f1, f2, g1, g2, a1, a2]
 simp only [orL, Lib.compareBytes, cmpI_self, if_true]
theorem cmpS_kind {a b : Tm} (h : a.kind ≠ b.kind) : cmpS a b = Lib.compareInt a.kind b.kind := by
 unfold cmpS
 rw [if_neg]
 unfold Lib.compareInt
 split
 ·decide
 ·split
  ·decide
  ·omega
set_option maxRecDepth 100000 in
set_option maxHeartbeats 4000000 in
theorem rformed_simple (f : Nat) (a b : Tm) (ao bo : Option Addr) (c d : Nat) (w : World) (hta : SlAt w 9 (TmAt w f) ao a.items) (htb : SlAt w 9 (TmAt w f) bo b.items) (oa : a.Ok) (ob : b.Ok) (ca : (capF (f + 1) a : Int) ≤ 1152921504606846976) (cb : (capF (f + 1) b : Int) ≤ 1152921504606846976)
  (va : validF (f + 1) a = true) (vb : validF (f + 1) b = true) (ka : a.kind = 1 ∨ a.kind = 2 ∨ a.kind = 8) (kb : b.kind = 1 ∨ b.kind = 2 ∨ b.kind = 8) :
  Calls Tryz.prog 137 #[.agg #[.int .i64 a.kind, .int .i64 a.int, .int .i64 a.gen, .string a.name, .string a.func, .int .i64 a.arity, .slice ao a.items.length c, .string a.bytes, .int .i64 a.bits], .agg #[.int .i64 b.kind, .int .i64 b.int, .int .i64 b.gen, .string b.name, .string b.func, .int .i64 b.arity, .slice bo b.items.length d, .string b.bytes, .int .i64 b.bits]] w fun e w' => e = .returned (.int .i64 (cmpS a b)) ∧ Below w.heap.size w w' := by
 have HB := Lib.hid (fun (ka kb : Int) => two_below w (.cells #[.int .i64 ka, .int .i64 a.int, .int .i64 a.gen, .string a.name, .string a.func, .int .i64 a.arity, .slice ao a.items.length c, .string a.bytes, .int .i64 a.bits] 78) (.cells #[.int .i64 kb, .int .i64 b.int, .int .i64 b.gen, .string b.name, .string b.func, .int .i64 b.arity, .slice bo b.items.length d, .string b.bytes, .int .i64 b.bits] 78))
 by_cases hk : a.kind = b.kind
 ·have hnb : (a.kind != b.kind) = false := by rw [bne_eq_false_iff_eq]; exact hk
  have E1 : Hid (a.kind = 1 → cmpS a b = Lib.compareInt a.int b.int) := Lib.hid (fun h => cmpS_one va vb h (hk ▸ h))
  have E2 : Hid (a.kind = 2 → cmpS a b = Lib.compareBytes a.name.toList b.name.toList) := Lib.hid (fun h => by rw [ByteArray.toList_eq, ByteArray.toList_eq]; exact cmpS_atom va vb h (hk ▸ h))
  have E8 : Hid (a.kind = 8 → cmpS a b = 0) := Lib.hid (fun h => cmpS_nil va vb h (hk ▸ h))
  clear hta htb oa ob ca cb va vb
  have h1 := fun wx => rints_any a.int b.int wx
  have h2 := fun wx => rtexts_any a.name b.name wx
  generalize cmpS a b = r at *
  generalize Lib.compareInt a.int b.int = r1 at *
  generalize Lib.compareBytes a.name.toList b.name.toList = r2 at *
  clear kb
  rw [hk] at ka hnb E1 E2 E8
  rw [hk]
  generalize b.kind = k at *
  clear hk
  rcases ka with rfl | rfl | rfl
  ·have E := Lib.hid (E1.out rfl)
   clear E1 E2 E8
   go_enter Tryz.func137, Tryz.ntmps137
   go_wp2_with (go_at_call 163; refine (h1 _).mono ?_; rintro e w1 ⟨rfl, rfl⟩)
   go_ret
   exact ⟨ret1 E.out.symm, HB.out _ _⟩
  ·have E := Lib.hid (E2.out rfl)
   clear E1 E2 E8
   go_enter Tryz.func137, Tryz.ntmps137
   go_wp2_with (go_at_call 164; refine (h2 _).mono ?_; rintro e w1 ⟨rfl, rfl⟩)
   go_ret
   exact ⟨ret1 E.out.symm, HB.out _ _⟩
  ·have E := Lib.hid (E8.out rfl)
   clear E1 E2 E8
   go_enter Tryz.func137, Tryz.ntmps137
   go_wp2_with fail
   go_ret
   exact ⟨ret1 E.out.symm, HB.out _ _⟩
 ·have hnb : (a.kind != b.kind) = true := by rw [bne_iff_ne]; exact hk
  have E := Lib.hid (cmpS_kind hk)
  have h1 := fun wx => rints_any a.kind b.kind wx
  clear hta htb oa ob ca cb va vb hk ka kb
  generalize cmpS a b = r at *
  generalize Lib.compareInt a.kind b.kind = r1 at *
  go_enter Tryz.func137, Tryz.ntmps137
  go_wp2_with (go_at_call 163; refine (h1 _).mono ?_; rintro e w1 ⟨rfl, rfl⟩)
  go_ret
  exact ⟨ret1 E.out.symm, HB.out _ _⟩
set_option maxRecDepth 100000 in
set_option maxHeartbeats 8000000 in
theorem rcompare_simple (f : Nat) (a b : Tm) (ao bo : Option Addr) (c d : Nat) (w : World) (hta : SlAt w 9 (TmAt w f) ao a.items) (htb : SlAt w 9 (TmAt w f) bo b.items) (oa : a.Ok) (ob : b.Ok) (ca : (capF (f + 1) a : Int) ≤ 1152921504606846976) (cb : (capF (f + 1) b : Int) ≤ 1152921504606846976)
  (va : validF (f + 1) a = true) (vb : validF (f + 1) b = true) (ka : a.kind = 1 ∨ a.kind = 2 ∨ a.kind = 8) (kb : b.kind = 1 ∨ b.kind = 2 ∨ b.kind = 8) :
  Calls Tryz.prog 94 #[.agg #[.int .i64 a.kind, .int .i64 a.int, .int .i64 a.gen, .string a.name, .string a.func, .int .i64 a.arity, .slice ao a.items.length c, .string a.bytes, .int .i64 a.bits], .agg #[.int .i64 b.kind, .int .i64 b.int, .int .i64 b.gen, .string b.name, .string b.func, .int .i64 b.arity, .slice bo b.items.length d, .string b.bytes, .int .i64 b.bits]] w fun e w' => e = .returned (.int .i64 (cmpS a b)) ∧ Below w.heap.size w w' := by
 have hB := two_below w (.cells #[.int .i64 a.kind, .int .i64 a.int, .int .i64 a.gen, .string a.name, .string a.func, .int .i64 a.arity, .slice ao a.items.length c, .string a.bytes, .int .i64 a.bits] 78) (.cells #[.int .i64 b.kind, .int .i64 b.int, .int .i64 b.gen, .string b.name, .string b.func, .int .i64 b.arity, .slice bo b.items.length d, .string b.bytes, .int .i64 b.bits] 78)
 have r0 := two0 w (.cells #[.int .i64 a.kind, .int .i64 a.int, .int .i64 a.gen, .string a.name, .string a.func, .int .i64 a.arity, .slice ao a.items.length c, .string a.bytes, .int .i64 a.bits] 78) (.cells #[.int .i64 b.kind, .int .i64 b.int, .int .i64 b.gen, .string b.name, .string b.func, .int .i64 b.arity, .slice bo b.items.length d, .string b.bytes, .int .i64 b.bits] 78)
 have r1 := two1 w (.cells #[.int .i64 a.kind, .int .i64 a.int, .int .i64 a.gen, .string a.name, .string a.func, .int .i64 a.arity, .slice ao a.items.length c, .string a.bytes, .int .i64 a.bits] 78) (.cells #[.int .i64 b.kind, .int .i64 b.int, .int .i64 b.gen, .string b.name, .string b.func, .int .i64 b.arity, .slice bo b.items.length d, .string b.bytes, .int .i64 b.bits] 78)
 have hva : ∀ wx, Below w.heap.size w wx → Calls Tryz.prog 86 #[.agg #[.int .i64 a.kind, .int .i64 a.int, .int .i64 a.gen, .string a.name, .string a.func, .int .i64 a.arity, .slice ao a.items.length c, .string a.bytes, .int .i64 a.bits]] wx fun e w' => e = .returned (.bool true) ∧ Below wx.heap.size wx w' := fun wx hx => by have h := rvalid_term f a ao c wx (hta.tms hx) oa ca; rwa [va] at h
 have hvb : ∀ wx, Below w.heap.size w wx → Calls Tryz.prog 86 #[.agg #[.int .i64 b.kind, .int .i64 b.int, .int .i64 b.gen, .string b.name, .string b.func, .int .i64 b.arity, .slice bo b.items.length d, .string b.bytes, .int .i64 b.bits]] wx fun e w' => e = .returned (.bool true) ∧ Below wx.heap.size wx w' := fun wx hx => by have h := rvalid_term f b bo d wx (htb.tms hx) ob cb; rwa [vb] at h
 have hvs : ∀ wx, Below w.heap.size w wx → Calls Tryz.prog 137 #[.agg #[.int .i64 a.kind, .int .i64 a.int, .int .i64 a.gen, .string a.name, .string a.func, .int .i64 a.arity, .slice ao a.items.length c, .string a.bytes, .int .i64 a.bits], .agg #[.int .i64 b.kind, .int .i64 b.int, .int .i64 b.gen, .string b.name, .string b.func, .int .i64 b.arity, .slice bo b.items.length d, .string b.bytes, .int .i64 b.bits]] wx fun e w' => e = .returned (.int .i64 (cmpS a b)) ∧ Below wx.heap.size wx w' := fun wx hx => rformed_simple f a b ao bo c d wx (hta.tms hx) (htb.tms hx) oa ob ca cb va vb ka kb
 have HVA := Lib.hid hva; have HVB := Lib.hid hvb; have HVS := Lib.hid hvs; have HB := Lib.hid hB
 have R0 := Lib.hid r0; have R1 := Lib.hid r1
 clear hta htb oa ob ca cb va vb ka kb hB hva hvb hvs r0 r1
 generalize cmpS a b = r at *
 go_enter Tryz.func94, Tryz.ntmps94
 go_upto_region 1 with fail
 have hq0 := R0.out; have hq1 := R1.out
 generalize (w.alloc (.cells #[.int .i64 a.kind, .int .i64 a.int, .int .i64 a.gen, .string a.name, .string a.func, .int .i64 a.arity, .slice ao a.items.length c, .string a.bytes, .int .i64 a.bits] 78)).alloc (.cells #[.int .i64 b.kind, .int .i64 b.int, .int .i64 b.gen, .string b.name, .string b.func, .int .i64 b.arity, .slice bo b.items.length d, .string b.bytes, .int .i64 b.bits] 78) = W at *
 generalize hBz : w.heap.size = Z at *
 have HBZ := Lib.hid hBz
 clear hBz
 have HBW : Hid (Below w.heap.size w W) := Lib.hid (by rw [HBZ.out]; exact HB.out)
 have hva' : ∀ wx, Below W.heap.size W wx → Calls Tryz.prog 86 #[.agg #[.int .i64 a.kind, .int .i64 a.int, .int .i64 a.gen, .string a.name, .string a.func, .int .i64 a.arity, .slice ao a.items.length c, .string a.bytes, .int .i64 a.bits]] wx fun e w' => e = .returned (.bool true) ∧ Below W.heap.size W w' := fun wx hx => (HVA.out wx (by rw [← HBZ.out]; exact below_next HBW.out hx)).mono fun _ _ ⟨h, h'⟩ => ⟨h, below_next hx h'⟩
 have hvb' : ∀ wx, Below W.heap.size W wx → Calls Tryz.prog 86 #[.agg #[.int .i64 b.kind, .int .i64 b.int, .int .i64 b.gen, .string b.name, .string b.func, .int .i64 b.arity, .slice bo b.items.length d, .string b.bytes, .int .i64 b.bits]] wx fun e w' => e = .returned (.bool true) ∧ Below W.heap.size W w' := fun wx hx => (HVB.out wx (by rw [← HBZ.out]; exact below_next HBW.out hx)).mono fun _ _ ⟨h, h'⟩ => ⟨h, below_next hx h'⟩
 obtain ⟨q0, q1, q2, q3, q4, q5, q6, q7, q8, zq⟩ := term_cells hq0
 obtain ⟨p0, p1, p2, p3, p4, p5, p6, p7, p8, zp⟩ := term_cells hq1
 have hl0 := lt_of_row hq0
 have hl1 := lt_of_row hq1
 clear zq zp hq0 hq1
 have HDR := Lib.hid ((Below.refl W.heap.size W).drew)
 have SK0 := Lib.hid (sk_of HDR.out)
 first | go_region_held3 (fun w' => W.heap.size ≤ w'.heap.size ∧ ∀ b o, b < W.heap.size → w'.cell? ⟨b, o, none⟩ = W.cell? ⟨b, o, none⟩) (first | with_reducible exact SK0.out | with_reducible exact HK5.out | with_reducible exact HK6.out)
  (first
   | (go_at_call 86; (first | (with_reducible refine (hva' _ HDR.out).mono ?_) | (with_reducible refine (hvb' _ HDR.out).mono ?_)); rintro e w5 ⟨rfl, hb5⟩; have HK5 := Lib.hid (sk_of hb5))
   | (go_at_call 86; (first | (with_reducible refine (hva' _ hb5).mono ?_) | (with_reducible refine (hvb' _ hb5).mono ?_)); rintro e w6 ⟨rfl, hb6⟩; have HK6 := Lib.hid (sk_of hb6))) | fail
 all_goals
  obtain ⟨s0, s1, s2, s3, s4, s5, s6, s7, s8, zs⟩ := term_cells ((hb6.block _ hl0).trans R0.out)
  obtain ⟨u0, u1, u2, u3, u4, u5, u6, u7, u8, zu⟩ := term_cells ((hb6.block _ hl1).trans R1.out)
  go_wp2_with (go_at_call 137; refine (HVS.out _ (by rw [← HBZ.out]; exact below_next HBW.out hb6)).mono ?_; rintro e w8 ⟨rfl, hb8⟩)
  go_ret
  exact ⟨rfl, below_next HBW.out (below_next hb6 hb8)⟩
end Go.Proofs.YtghgbikmlbildaaGreatDoor
