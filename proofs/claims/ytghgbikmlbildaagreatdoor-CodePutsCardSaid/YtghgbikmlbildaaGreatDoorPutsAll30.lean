/-
  The reference's Check of any unit: the walk (printed by gen_rcheck.py). The external format: String of its writer, wire.Put: the walks (printed by gen_eput.py).
-/
import Derived.Test.YtghgbikmlbildaaGreatDoorPutsAll13
import Derived.Test.YtghgbikmlbildaaGreatDoorPutsAll15
import Derived.Test.YtghgbikmlbildaaGreatDoorPutsAll19
import Derived.Test.YtghgbikmlbildaaGreatDoorPutsAll22
import Derived.Test.YtghgbikmlbildaaGreatDoorPutsAll27
import Derived.Test.YtghgbikmlbildaaGreatDoorPutsAll28
import Derived.Test.YtghgbikmlbildaaGreatDoorPutsAll29
namespace Go.Proofs.YtghgbikmlbildaaGreatDoor
open Go.RowKit
set_option linter.unusedVariables false
set_option linter.unusedSimpArgs false

theorem rrow_fields (nl : Nat) (x : RIns) (h : 1 ≤ x.op ∧ x.op ≤ 40) : formedB nl x (rrow x.op) = fieldsB nl x (rowAt x.op).1.toNat (rowAt x.op).2.1.toNat (rowAt x.op).2.2.toNat := by
 rw [rrow_is h, ← formed_fields]
 have hk : x.op.toNat < 41 := by omega
 have hr : rowAt x.op = rowT[x.op.toNat]'hk := by unfold rowAt; rw [List.getElem?_eq_getElem (by exact hk)]; rfl
 have := rowT_nat x.op.toNat hk
 rw [hr, Int.toNat_of_nonneg this.2.2.1, Int.toNat_of_nonneg this.2.2.2.2.1]
theorem rrow_targets (code : List RIns) (i : Nat) (x : RIns) (h : 1 ≤ x.op ∧ x.op ≤ 40) : targetsG code i x (rrow x.op).g = targetsB code i x (rowAt x.op).1.toNat := by
 rw [rrow_is h]; exact targetsG_is code i x _
def RBx (w : World) (Z : Nat) (r : RRow) : Prop := w.heap[Z]? = some (.cells r.val 65 (0, 0))
set_option maxRecDepth 100000 in
set_option maxHeartbeats 40000000 in
theorem rcheck_any (f : Nat) (u : RUnit) (lo fo go co : Option Addr) (lc fc gc cc : Nat) (w : World) (hp : UP w u lo fo go co) (hlits : SlAt w 9 (TmAt w (f + 1)) lo u.lits) (hcap : ∀ t ∈ u.lits, (capF (f + 1) t : Int) ≤ 1152921504606846976) :
  Calls Tryz.prog 14 #[.agg #[.string u.mdl, .int .i64 u.vsn, .slice lo u.lits.length lc, .slice fo u.funcs.length fc, .slice go u.funs.length gc, .slice co u.code.length cc]] w fun e w' => e = .returned (.tuple #[.int .i64 (checkI (f + 1) u), .int .i64 (checkE (f + 1) u)]) ∧ Below w.heap.size w w' := by
 have HP0 := Lib.hid hp; have HLI0 := Lib.hid hlits; have HCAP := Lib.hid hcap
 have hcl := hp.codeLen
 clear hp hlits hcap
 have hbx := ubox_new w u lo fo go co lc fc gc cc
 have hba : Below w.heap.size w (w.alloc (.cells #[.string u.mdl, .int .i64 u.vsn, .slice lo u.lits.length lc, .slice fo u.funcs.length fc, .slice go u.funs.length gc, .slice co u.code.length cc] 27)) := (Below.refl _ _).alloc (Nat.le_refl _) _
 have HT := Lib.hid (rtables_any f u lo fo go co lc fc gc cc _ (HP0.out.below hba) (HLI0.out.tms hba) HCAP.out)
 have EI : Hid (checkI (f + 1) u = if tablesB (f + 1) u = true then (match badFrom u u.code 0 with | some i => (i : Int) | none => 0) else -1) := Lib.hid rfl
 have EE : Hid (checkE (f + 1) u = if tablesB (f + 1) u = true then (match badFrom u u.code 0 with | some _ => 6 | none => 0) else 6) := Lib.hid rfl
 have HLV : Hid (tablesB (f + 1) u = true → ∀ t ∈ u.lits, validF (f + 1) t = true) := Lib.hid lits_valid
 go_enter Tryz.func14, Tryz.ntmps14
 go_upto_region 1 with fail
 generalize w.alloc (.cells #[.string u.mdl, .int .i64 u.vsn, .slice lo u.lits.length lc, .slice fo u.funcs.length fc, .slice go u.funs.length gc, .slice co u.code.length cc] 27) = W at *
 have HBA := Lib.hid hba
 have HP := Lib.hid (HP0.out.below hba)
 have HLI := Lib.hid (HLI0.out.tms hba)
 clear hba HP0 HLI0
 generalize hBz : w.heap.size = B at *
 have HBZ := Lib.hid hBz
 clear hBz
 have HFIN : Hid (∀ wx, Below W.heap.size W wx → Below B w wx) := Lib.hid (fun wx hh => HBA.out.trans (hh.mono (by have := HBA.out.size; have := HBZ.out; omega)))
 have HU := Lib.hid hbx
 have z0 := hbx.c0; have z1 := hbx.c1; have z2 := hbx.c2; have z3 := hbx.c3; have z4 := hbx.c4; have z5 := hbx.c5
 have hlu := hbx.lt
 clear hbx
 generalize tablesB (f + 1) u = tb at *
 cases tb with
 | false =>
  rw [if_neg (by decide)] at EI EE
  go_wp2_with fail
  refine HT.out.mono ?_
  rintro e w5 ⟨rfl, hb5⟩
  go_wp2_with fail
  go_ret2
  exact ⟨ret_ii EI.out.symm EE.out.symm, by rw [HBZ.out]; exact HFIN.out _ hb5⟩
 | true =>
  rw [if_pos rfl] at EI EE
  have HI : Hid (badFrom u u.code 0 = badFrom u (u.code.drop 0) 0) := Lib.hid rfl
  go_wp2_with fail
  refine HT.out.mono ?_
  rintro e w5 ⟨rfl, hb5⟩
  have HB5 := Lib.hid hb5
  clear z0 z1 z2 z3 z4 z5 hlu
  have z5 := (HU.out.below hb5).c5
  clear hb5
  go_wp2_with fail
  go_loopw [4, 5, 6, 7] (fun i _ _ _ wr => ∃ k : Nat, k ≤ u.code.length ∧ i = .int .i64 k ∧ Hid (badFrom u u.code 0 = badFrom u (u.code.drop k) k) ∧ Below W.heap.size W wr) (fun i _ _ _ _ => u.code.length - (intOf i).toNat)
  case atStart => exact ⟨0, Nat.zero_le _, rfl, HI, HB5.out⟩
  case round =>
   obtain ⟨k, hk, rfl, HK, hBw⟩ := hrel
   rename World => wr
   clear z5 HI HB5
   have HBW := Lib.hid hBw
   have z5 := (HU.out.below hBw).c5
   have hlu := (HU.out.below hBw).lt
   clear hBw
   by_cases hlt : k < u.code.length
   ·obtain ⟨bc, oc, so, co', go', sc, cc', gc', hco, hxb⟩ := ibox_of (HP.out.below HBW.out).code hlt
    subst hco
    have HST := Lib.hid (bad_step u hlt)
    have k0 := hxb.c0; have k1 := hxb.c1; have k2 := hxb.c2; have k3 := hxb.c3; have k4 := hxb.c4; have k5 := hxb.c5; have k6 := hxb.c6; have k7 := hxb.c7; have k8 := hxb.c8; have k9 := hxb.c9
    have hkl := hxb.lt
    have HXB := Lib.hid hxb
    have HINS : Hid (insB u k u.code[k] = (opOk u.code[k].op && (fieldsB u.lits.length u.code[k] (rowAt u.code[k].op).1.toNat (rowAt u.code[k].op).2.1.toNat (rowAt u.code[k].op).2.2.toNat && (numberB u.funcs.length u.funs u.code[k] && (namedB u.code[k] && (listsB u.lits u.code[k] && targetsB u.code k u.code[k] (rowAt u.code[k].op).1.toNat)))))) := Lib.hid rfl
    have HRF : Hid (1 ≤ u.code[k].op ∧ u.code[k].op ≤ 40 → formedB u.lits.length u.code[k] (rrow u.code[k].op) = fieldsB u.lits.length u.code[k] (rowAt u.code[k].op).1.toNat (rowAt u.code[k].op).2.1.toNat (rowAt u.code[k].op).2.2.toNat) := Lib.hid (fun h => rrow_fields _ _ h)
    have HRT : Hid (1 ≤ u.code[k].op ∧ u.code[k].op ≤ 40 → targetsG u.code k u.code[k] (rrow u.code[k].op).g = targetsB u.code k u.code[k] (rowAt u.code[k].op).1.toNat) := Lib.hid (fun h => rrow_targets _ _ _ h)
    have hro := fun wx => rrowOf_any u.code[k].op wx
    have hbad : insB u k u.code[k] = false → badFrom u u.code 0 = some k := fun e => by rw [HK.out, HST.out, e]; rfl
    have hgood : insB u k u.code[k] = true → badFrom u u.code 0 = badFrom u (u.code.drop (k + 1)) (k + 1) := fun e => by rw [HK.out, HST.out, e]; rfl
    have hlx := hxb.rsrc; have hlcs := hxb.rcases; have hlsg := hxb.rsegs; have hnm := hxb.rname; have hnn := hxb.rn; have hdk := And.intro hxb.rdk hxb.rdn
    have CF := Lib.hid (fun wx (hx : Below W.heap.size W wx) (hb : Below wr.heap.size wr wx) => rformed_any u lo fo go (some ⟨bc, oc, none⟩) lc fc gc cc u.code[k] so co' go' sc cc' gc' (rrow u.code[k].op) wx HP.out.litsLen (hxb.src.mono hb fun _ _ h => h) hdk hlx hlcs hlsg)
    have CN := Lib.hid (fun wx (hx : Below W.heap.size W wx) (hb : Below wr.heap.size wr wx) => rnumber_any u lo fo go (some ⟨bc, oc, none⟩) lc fc gc cc u.code[k] so co' go' sc cc' gc' wx HP.out.funcsLen HP.out.funsLen (HP.out.below hx).funs hnn hlx)
    have CM := Lib.hid (fun wx (hx : Below W.heap.size W wx) (hb : Below wr.heap.size wr wx) => rnamed_any u.code[k] so co' go' sc cc' gc' wx hnm hlx hnn)
    have CL := Lib.hid (fun wx (hx : Below W.heap.size W wx) (hb : Below wr.heap.size wr wx) => rcases_any u lo fo go (some ⟨bc, oc, none⟩) lc fc gc cc u.code[k] so co' go' sc cc' gc' f wx HP.out.litsLen ⟨HLI.out.tms hx, fun t ht => ⟨HLV.out (by trivial) t ht, HCAP.out t ht⟩⟩ (hxb.cases.mono hb fun _ _ h => h) (hxb.segs.mono hb fun _ _ h => h) hlcs hlsg)
    have CT := Lib.hid (fun wx (hx : Below W.heap.size W wx) (hb : Below wr.heap.size wr wx) => rtargets_any u lo fo go (some ⟨bc, oc, none⟩) lc fc gc cc k (rrow u.code[k].op) wx (HP.out.below hx).code hcl hlt)
    have HBAD := Lib.hid hbad; have HGOOD := Lib.hid hgood
    clear hbad hgood hxb HST HXB hlx hlcs hlsg hnm hnn hdk
    have hXB := fun (wx : World) => heap_alloc_new wx (.cells #[.int .i64 u.code[k].op, .int .i64 u.code[k].dst.kind, .int .i64 u.code[k].dst.n, .slice so u.code[k].src.length sc, .int .i64 u.code[k].to, .int .i64 u.code[k].n, .int .i64 u.code[k].live, .string u.code[k].name, .slice co' u.code[k].cases.length cc', .slice go' u.code[k].segs.length gc'] 50)
    have HXN := Lib.hid hXB
    clear hXB
    generalize formedB u.lits.length u.code[k] (rrow u.code[k].op) = b1 at *
    generalize targetsG u.code k u.code[k] (rrow u.code[k].op).g = b5 at *
    generalize numberB u.funcs.length u.funs u.code[k] = b2 at *
    generalize namedB u.code[k] = b3 at *
    generalize listsB u.lits u.code[k] = b4 at *
    generalize insB u k u.code[k] = ib at *
    have hopk : opOk u.code[k].op = true → 1 ≤ u.code[k].op ∧ u.code[k].op ≤ 40 := fun h => of_decide_eq_true h
    have HOPK := Lib.hid hopk
    clear hopk
    generalize fieldsB u.lits.length u.code[k] (rowAt u.code[k].op).1.toNat (rowAt u.code[k].op).2.1.toNat (rowAt u.code[k].op).2.2.toNat = f1 at *
    generalize targetsB u.code k u.code[k] (rowAt u.code[k].op).1.toNat = f5 at *
    have HIB : Hid (ib = (opOk u.code[k].op && (b1 && (b2 && (b3 && (b4 && b5)))))) := Lib.hid (by
     rw [HINS.out]
     cases h : opOk u.code[k].op with
     | false => rfl
     | true => rw [HRF.out (HOPK.out h), HRT.out (HOPK.out h)])
    clear HINS HRF HRT HOPK
    generalize opOk u.code[k].op = b0 at *
    generalize hrw : rrow u.code[k].op = rw0 at *
    obtain ⟨ra, rb, rc, rd, re, rf, rg, rh, rlo, rhi⟩ := rw0
    clear hrw
    simp only [RRow.val] at hro CF CT
    generalize u.code[k] = x at *
    obtain ⟨op, ⟨dk, dn⟩, src, jt, nn, lv, nm, cases, segs⟩ := x
    simp only at *
    generalize src.length = sl at *
    generalize cases.length = cl at *
    generalize segs.length = gl at *
    go_upto_region 7 with fail
    have hx1 := HXN.out wr
    have hxb1 : Below wr.heap.size wr (wr.alloc (.cells #[.int .i64 op, .int .i64 dk, .int .i64 dn, .slice so sl sc, .int .i64 jt, .int .i64 nn, .int .i64 lv, .string nm, .slice co' cl cc', .slice go' gl gc'] 50)) := (Below.refl _ _).alloc (Nat.le_refl _) _
    generalize wr.alloc (.cells #[.int .i64 op, .int .i64 dk, .int .i64 dn, .slice so sl sc, .int .i64 jt, .int .i64 nn, .int .i64 lv, .string nm, .slice co' cl cc', .slice go' gl gc'] 50) = W1 at *
    clear HXN
    have HX1 := Lib.hid hx1
    have HB1 := Lib.hid hxb1
    have x0 : W1.cell? ⟨wr.heap.size, 0, none⟩ = some (.int .i64 op) := by rw [cell_of_row _ _ _ _ _ _ hx1]; rfl
    have hlx1 := lt_of_row hx1
    clear k0 k1 k2 k3 k4 k5 k6 k7 k8 k9 z5 hlu hkl hx1 hxb1
    generalize hXz : wr.heap.size = X at *
    have HXZ := Lib.hid hXz
    clear hXz
    go_wp2_with fail
    refine (hro _).mono ?_
    rintro e w2 ⟨rfl, hb2⟩
    go_upto_region 8 with fail
    have hr1 := heap_alloc_new w2 (.cells #[.bool ra, .bool rb, .bool rc, .bool rd, .bool re, .bool rf, .bool rg, .bool rh, .int .i64 rlo, .int .i64 rhi] 65)
    have hrb1 : Below w2.heap.size w2 (w2.alloc (.cells #[.bool ra, .bool rb, .bool rc, .bool rd, .bool re, .bool rf, .bool rg, .bool rh, .int .i64 rlo, .int .i64 rhi] 65)) := (Below.refl _ _).alloc (Nat.le_refl _) _
    generalize w2.alloc (.cells #[.bool ra, .bool rb, .bool rc, .bool rd, .bool re, .bool rf, .bool rg, .bool rh, .int .i64 rlo, .int .i64 rhi] 65) = W2 at *
    have HR1 := Lib.hid hr1
    have HB2 : Hid (Below wr.heap.size wr W2) := Lib.hid ((show Below wr.heap.size wr W1 by rw [HXZ.out]; exact HB1.out).trans ((hb2.trans (hrb1.mono hb2.size)).mono (by have := HB1.out.size; have := HXZ.out; omega)))
    have HX2 : Hid (W2.heap[X]? = some (.cells #[.int .i64 op, .int .i64 dk, .int .i64 dn, .slice so sl sc, .int .i64 jt, .int .i64 nn, .int .i64 lv, .string nm, .slice co' cl cc', .slice go' gl gc'] 50 (0, 0))) := Lib.hid (((hb2.trans (hrb1.mono hb2.size)).block X hlx1).trans HX1.out)
    have HBW2 : Hid (Below W.heap.size W W2) := Lib.hid (below_next HBW.out HB2.out)
    clear x0 hlx1 hb2 hrb1 hr1 HX1 HB1
    generalize hRz : w2.heap.size = Z at *
    have HRZ := Lib.hid hRz
    clear hRz
    cases b0 with
    | false =>
     have hb := HBAD.out HIB.out
     have E1 : Hid (checkI (f + 1) u = k) := Lib.hid (by rw [EI.out, hb])
     have E2 : Hid (checkE (f + 1) u = 6) := Lib.hid (by rw [EE.out, hb])
     clear hb
     go_wp2_with fail
     go_ret2
     exact ⟨ret_ii E1.out.symm E2.out.symm, by rw [HBZ.out]; exact HFIN.out _ (below_next HBW2.out (Below.refl _ _))⟩
    | true =>
     have z0 := (HU.out.below HBW2.out).c0; have z1 := (HU.out.below HBW2.out).c1; have z2 := (HU.out.below HBW2.out).c2; have z3 := (HU.out.below HBW2.out).c3; have z4 := (HU.out.below HBW2.out).c4; have z5 := (HU.out.below HBW2.out).c5; have hlua := (HU.out.below HBW2.out).lt
     have qx := HX2.out
     have x0 : W2.cell? ⟨X, 0, none⟩ = some (.int .i64 op) := by rw [cell_of_row _ _ _ _ _ _ qx]; rfl
     have x1 : W2.cell? ⟨X, 1, none⟩ = some (.int .i64 dk) := by rw [cell_of_row _ _ _ _ _ _ qx]; rfl
     have x2 : W2.cell? ⟨X, 2, none⟩ = some (.int .i64 dn) := by rw [cell_of_row _ _ _ _ _ _ qx]; rfl
     have x3 : W2.cell? ⟨X, 3, none⟩ = some (.slice so sl sc) := by rw [cell_of_row _ _ _ _ _ _ qx]; rfl
     have x4 : W2.cell? ⟨X, 4, none⟩ = some (.int .i64 jt) := by rw [cell_of_row _ _ _ _ _ _ qx]; rfl
     have x5 : W2.cell? ⟨X, 5, none⟩ = some (.int .i64 nn) := by rw [cell_of_row _ _ _ _ _ _ qx]; rfl
     have x6 : W2.cell? ⟨X, 6, none⟩ = some (.int .i64 lv) := by rw [cell_of_row _ _ _ _ _ _ qx]; rfl
     have x7 : W2.cell? ⟨X, 7, none⟩ = some (.string nm) := by rw [cell_of_row _ _ _ _ _ _ qx]; rfl
     have x8 : W2.cell? ⟨X, 8, none⟩ = some (.slice co' cl cc') := by rw [cell_of_row _ _ _ _ _ _ qx]; rfl
     have x9 : W2.cell? ⟨X, 9, none⟩ = some (.slice go' gl gc') := by rw [cell_of_row _ _ _ _ _ _ qx]; rfl
     have hlxa := lt_of_row qx
     clear qx
     have qr := HR1.out
     have r0 : W2.cell? ⟨Z, 0, none⟩ = some (.bool ra) := by rw [cell_of_row _ _ _ _ _ _ qr]; rfl
     have r1 : W2.cell? ⟨Z, 1, none⟩ = some (.bool rb) := by rw [cell_of_row _ _ _ _ _ _ qr]; rfl
     have r2 : W2.cell? ⟨Z, 2, none⟩ = some (.bool rc) := by rw [cell_of_row _ _ _ _ _ _ qr]; rfl
     have r3 : W2.cell? ⟨Z, 3, none⟩ = some (.bool rd) := by rw [cell_of_row _ _ _ _ _ _ qr]; rfl
     have r4 : W2.cell? ⟨Z, 4, none⟩ = some (.bool re) := by rw [cell_of_row _ _ _ _ _ _ qr]; rfl
     have r5 : W2.cell? ⟨Z, 5, none⟩ = some (.bool rf) := by rw [cell_of_row _ _ _ _ _ _ qr]; rfl
     have r6 : W2.cell? ⟨Z, 6, none⟩ = some (.bool rg) := by rw [cell_of_row _ _ _ _ _ _ qr]; rfl
     have r7 : W2.cell? ⟨Z, 7, none⟩ = some (.bool rh) := by rw [cell_of_row _ _ _ _ _ _ qr]; rfl
     have r8 : W2.cell? ⟨Z, 8, none⟩ = some (.int .i64 rlo) := by rw [cell_of_row _ _ _ _ _ _ qr]; rfl
     have r9 : W2.cell? ⟨Z, 9, none⟩ = some (.int .i64 rhi) := by rw [cell_of_row _ _ _ _ _ _ qr]; rfl
     have hlra := lt_of_row qr
     clear qr
     go_wp2_with fail
     refine (CF.out _ (below_next HBW2.out (Below.refl _ _)) (by rw [← HXZ.out]; exact below_next HB2.out (Below.refl _ _))).mono ?_
     rintro e w10 ⟨rfl, hb10⟩
     have HB10 := Lib.hid (below_next (Below.refl _ _) hb10)
     clear hb10 z0 z1 z2 z3 z4 z5 x0 x1 x2 x3 x4 x5 x6 x7 x8 x9 r0 r1 r2 r3 r4 r5 r6 r7 r8 r9
     cases b1 with
     | false =>
      have hb := HBAD.out HIB.out
      have E1 : Hid (checkI (f + 1) u = k) := Lib.hid (by rw [EI.out, hb])
      have E2 : Hid (checkE (f + 1) u = 6) := Lib.hid (by rw [EE.out, hb])
      clear hb
      go_wp2_with fail
      go_ret2
      exact ⟨ret_ii E1.out.symm E2.out.symm, by rw [HBZ.out]; exact HFIN.out _ (below_next HBW2.out HB10.out)⟩
     | true =>
      have z0 := (HU.out.below (below_next HBW2.out HB10.out)).c0; have z1 := (HU.out.below (below_next HBW2.out HB10.out)).c1; have z2 := (HU.out.below (below_next HBW2.out HB10.out)).c2; have z3 := (HU.out.below (below_next HBW2.out HB10.out)).c3; have z4 := (HU.out.below (below_next HBW2.out HB10.out)).c4; have z5 := (HU.out.below (below_next HBW2.out HB10.out)).c5; have hlub := (HU.out.below (below_next HBW2.out HB10.out)).lt
      have qx := (HB10.out.block X (lt_of_row HX2.out)).trans HX2.out
      have x0 : w10.cell? ⟨X, 0, none⟩ = some (.int .i64 op) := by rw [cell_of_row _ _ _ _ _ _ qx]; rfl
      have x1 : w10.cell? ⟨X, 1, none⟩ = some (.int .i64 dk) := by rw [cell_of_row _ _ _ _ _ _ qx]; rfl
      have x2 : w10.cell? ⟨X, 2, none⟩ = some (.int .i64 dn) := by rw [cell_of_row _ _ _ _ _ _ qx]; rfl
      have x3 : w10.cell? ⟨X, 3, none⟩ = some (.slice so sl sc) := by rw [cell_of_row _ _ _ _ _ _ qx]; rfl
      have x4 : w10.cell? ⟨X, 4, none⟩ = some (.int .i64 jt) := by rw [cell_of_row _ _ _ _ _ _ qx]; rfl
      have x5 : w10.cell? ⟨X, 5, none⟩ = some (.int .i64 nn) := by rw [cell_of_row _ _ _ _ _ _ qx]; rfl
      have x6 : w10.cell? ⟨X, 6, none⟩ = some (.int .i64 lv) := by rw [cell_of_row _ _ _ _ _ _ qx]; rfl
      have x7 : w10.cell? ⟨X, 7, none⟩ = some (.string nm) := by rw [cell_of_row _ _ _ _ _ _ qx]; rfl
      have x8 : w10.cell? ⟨X, 8, none⟩ = some (.slice co' cl cc') := by rw [cell_of_row _ _ _ _ _ _ qx]; rfl
      have x9 : w10.cell? ⟨X, 9, none⟩ = some (.slice go' gl gc') := by rw [cell_of_row _ _ _ _ _ _ qx]; rfl
      have hlxb := lt_of_row qx
      clear qx
      go_wp2_with fail
      refine (CN.out _ (below_next HBW2.out HB10.out) (by rw [← HXZ.out]; exact below_next HB2.out HB10.out)).mono ?_
      rintro e w11 ⟨rfl, hb11⟩
      have HB11 := Lib.hid (below_next HB10.out hb11)
      clear hb11 z0 z1 z2 z3 z4 z5 x0 x1 x2 x3 x4 x5 x6 x7 x8 x9
      cases b2 with
      | false =>
       have hb := HBAD.out HIB.out
       have E1 : Hid (checkI (f + 1) u = k) := Lib.hid (by rw [EI.out, hb])
       have E2 : Hid (checkE (f + 1) u = 6) := Lib.hid (by rw [EE.out, hb])
       clear hb
       go_wp2_with fail
       go_ret2
       exact ⟨ret_ii E1.out.symm E2.out.symm, by rw [HBZ.out]; exact HFIN.out _ (below_next HBW2.out HB11.out)⟩
      | true =>
       have qx := (HB11.out.block X (lt_of_row HX2.out)).trans HX2.out
       have x0 : w11.cell? ⟨X, 0, none⟩ = some (.int .i64 op) := by rw [cell_of_row _ _ _ _ _ _ qx]; rfl
       have x1 : w11.cell? ⟨X, 1, none⟩ = some (.int .i64 dk) := by rw [cell_of_row _ _ _ _ _ _ qx]; rfl
       have x2 : w11.cell? ⟨X, 2, none⟩ = some (.int .i64 dn) := by rw [cell_of_row _ _ _ _ _ _ qx]; rfl
       have x3 : w11.cell? ⟨X, 3, none⟩ = some (.slice so sl sc) := by rw [cell_of_row _ _ _ _ _ _ qx]; rfl
       have x4 : w11.cell? ⟨X, 4, none⟩ = some (.int .i64 jt) := by rw [cell_of_row _ _ _ _ _ _ qx]; rfl
       have x5 : w11.cell? ⟨X, 5, none⟩ = some (.int .i64 nn) := by rw [cell_of_row _ _ _ _ _ _ qx]; rfl
       have x6 : w11.cell? ⟨X, 6, none⟩ = some (.int .i64 lv) := by rw [cell_of_row _ _ _ _ _ _ qx]; rfl
       have x7 : w11.cell? ⟨X, 7, none⟩ = some (.string nm) := by rw [cell_of_row _ _ _ _ _ _ qx]; rfl
       have x8 : w11.cell? ⟨X, 8, none⟩ = some (.slice co' cl cc') := by rw [cell_of_row _ _ _ _ _ _ qx]; rfl
       have x9 : w11.cell? ⟨X, 9, none⟩ = some (.slice go' gl gc') := by rw [cell_of_row _ _ _ _ _ _ qx]; rfl
       have hlxc := lt_of_row qx
       clear qx
       go_wp2_with fail
       refine (CM.out _ (below_next HBW2.out HB11.out) (by rw [← HXZ.out]; exact below_next HB2.out HB11.out)).mono ?_
       rintro e w12 ⟨rfl, hb12⟩
       have HB12 := Lib.hid (below_next HB11.out hb12)
       clear hb12 x0 x1 x2 x3 x4 x5 x6 x7 x8 x9
       cases b3 with
       | false =>
        have hb := HBAD.out HIB.out
        have E1 : Hid (checkI (f + 1) u = k) := Lib.hid (by rw [EI.out, hb])
        have E2 : Hid (checkE (f + 1) u = 6) := Lib.hid (by rw [EE.out, hb])
        clear hb
        go_wp2_with fail
        go_ret2
        exact ⟨ret_ii E1.out.symm E2.out.symm, by rw [HBZ.out]; exact HFIN.out _ (below_next HBW2.out HB12.out)⟩
       | true =>
        have z0 := (HU.out.below (below_next HBW2.out HB12.out)).c0; have z1 := (HU.out.below (below_next HBW2.out HB12.out)).c1; have z2 := (HU.out.below (below_next HBW2.out HB12.out)).c2; have z3 := (HU.out.below (below_next HBW2.out HB12.out)).c3; have z4 := (HU.out.below (below_next HBW2.out HB12.out)).c4; have z5 := (HU.out.below (below_next HBW2.out HB12.out)).c5; have hlud := (HU.out.below (below_next HBW2.out HB12.out)).lt
        have qx := (HB12.out.block X (lt_of_row HX2.out)).trans HX2.out
        have x0 : w12.cell? ⟨X, 0, none⟩ = some (.int .i64 op) := by rw [cell_of_row _ _ _ _ _ _ qx]; rfl
        have x1 : w12.cell? ⟨X, 1, none⟩ = some (.int .i64 dk) := by rw [cell_of_row _ _ _ _ _ _ qx]; rfl
        have x2 : w12.cell? ⟨X, 2, none⟩ = some (.int .i64 dn) := by rw [cell_of_row _ _ _ _ _ _ qx]; rfl
        have x3 : w12.cell? ⟨X, 3, none⟩ = some (.slice so sl sc) := by rw [cell_of_row _ _ _ _ _ _ qx]; rfl
        have x4 : w12.cell? ⟨X, 4, none⟩ = some (.int .i64 jt) := by rw [cell_of_row _ _ _ _ _ _ qx]; rfl
        have x5 : w12.cell? ⟨X, 5, none⟩ = some (.int .i64 nn) := by rw [cell_of_row _ _ _ _ _ _ qx]; rfl
        have x6 : w12.cell? ⟨X, 6, none⟩ = some (.int .i64 lv) := by rw [cell_of_row _ _ _ _ _ _ qx]; rfl
        have x7 : w12.cell? ⟨X, 7, none⟩ = some (.string nm) := by rw [cell_of_row _ _ _ _ _ _ qx]; rfl
        have x8 : w12.cell? ⟨X, 8, none⟩ = some (.slice co' cl cc') := by rw [cell_of_row _ _ _ _ _ _ qx]; rfl
        have x9 : w12.cell? ⟨X, 9, none⟩ = some (.slice go' gl gc') := by rw [cell_of_row _ _ _ _ _ _ qx]; rfl
        have hlxd := lt_of_row qx
        clear qx
        go_wp2_with fail
        refine (CL.out _ (below_next HBW2.out HB12.out) (by rw [← HXZ.out]; exact below_next HB2.out HB12.out)).mono ?_
        rintro e w13 ⟨rfl, hb13⟩
        have HB13 := Lib.hid (below_next HB12.out hb13)
        clear hb13 z0 z1 z2 z3 z4 z5 x0 x1 x2 x3 x4 x5 x6 x7 x8 x9
        cases b4 with
        | false =>
         have hb := HBAD.out HIB.out
         have E1 : Hid (checkI (f + 1) u = k) := Lib.hid (by rw [EI.out, hb])
         have E2 : Hid (checkE (f + 1) u = 6) := Lib.hid (by rw [EE.out, hb])
         clear hb
         go_wp2_with fail
         go_ret2
         exact ⟨ret_ii E1.out.symm E2.out.symm, by rw [HBZ.out]; exact HFIN.out _ (below_next HBW2.out HB13.out)⟩
        | true =>
         have z0 := (HU.out.below (below_next HBW2.out HB13.out)).c0; have z1 := (HU.out.below (below_next HBW2.out HB13.out)).c1; have z2 := (HU.out.below (below_next HBW2.out HB13.out)).c2; have z3 := (HU.out.below (below_next HBW2.out HB13.out)).c3; have z4 := (HU.out.below (below_next HBW2.out HB13.out)).c4; have z5 := (HU.out.below (below_next HBW2.out HB13.out)).c5; have hlue := (HU.out.below (below_next HBW2.out HB13.out)).lt
         have qr := (HB13.out.block Z (lt_of_row HR1.out)).trans HR1.out
         have r0 : w13.cell? ⟨Z, 0, none⟩ = some (.bool ra) := by rw [cell_of_row _ _ _ _ _ _ qr]; rfl
         have r1 : w13.cell? ⟨Z, 1, none⟩ = some (.bool rb) := by rw [cell_of_row _ _ _ _ _ _ qr]; rfl
         have r2 : w13.cell? ⟨Z, 2, none⟩ = some (.bool rc) := by rw [cell_of_row _ _ _ _ _ _ qr]; rfl
         have r3 : w13.cell? ⟨Z, 3, none⟩ = some (.bool rd) := by rw [cell_of_row _ _ _ _ _ _ qr]; rfl
         have r4 : w13.cell? ⟨Z, 4, none⟩ = some (.bool re) := by rw [cell_of_row _ _ _ _ _ _ qr]; rfl
         have r5 : w13.cell? ⟨Z, 5, none⟩ = some (.bool rf) := by rw [cell_of_row _ _ _ _ _ _ qr]; rfl
         have r6 : w13.cell? ⟨Z, 6, none⟩ = some (.bool rg) := by rw [cell_of_row _ _ _ _ _ _ qr]; rfl
         have r7 : w13.cell? ⟨Z, 7, none⟩ = some (.bool rh) := by rw [cell_of_row _ _ _ _ _ _ qr]; rfl
         have r8 : w13.cell? ⟨Z, 8, none⟩ = some (.int .i64 rlo) := by rw [cell_of_row _ _ _ _ _ _ qr]; rfl
         have r9 : w13.cell? ⟨Z, 9, none⟩ = some (.int .i64 rhi) := by rw [cell_of_row _ _ _ _ _ _ qr]; rfl
         have hlre := lt_of_row qr
         clear qr
         go_wp2_with fail
         refine (CT.out _ (below_next HBW2.out HB13.out) (by rw [← HXZ.out]; exact below_next HB2.out HB13.out)).mono ?_
         rintro e w14 ⟨rfl, hb14⟩
         have HB14 := Lib.hid (below_next HB13.out hb14)
         clear hb14 z0 z1 z2 z3 z4 z5 r0 r1 r2 r3 r4 r5 r6 r7 r8 r9
         cases b5 with
         | false =>
          have hb := HBAD.out HIB.out
          have E1 : Hid (checkI (f + 1) u = k) := Lib.hid (by rw [EI.out, hb])
          have E2 : Hid (checkE (f + 1) u = 6) := Lib.hid (by rw [EE.out, hb])
          clear hb
          go_wp2_with fail
          go_ret2
          exact ⟨ret_ii E1.out.symm E2.out.symm, by rw [HBZ.out]; exact HFIN.out _ (below_next HBW2.out HB14.out)⟩
         | true =>
          have HK2 := Lib.hid (HGOOD.out HIB.out)
          go_wp2_with fail
          go_roundw
          case rel => exact ⟨k + 1, by omega, by go_num, HK2, below_next HBW2.out HB14.out⟩
          case measure => simp [intOf]; omega
   ·have hb : badFrom u u.code 0 = none := by rw [HK.out, List.drop_eq_nil_of_le (by omega)]; rfl
    have E1 : Hid (checkI (f + 1) u = 0) := Lib.hid (by rw [EI.out, hb])
    have E2 : Hid (checkE (f + 1) u = 0) := Lib.hid (by rw [EE.out, hb])
    clear hb
    go_wp2_with fail
    go_ret2
    exact ⟨ret_ii E1.out.symm E2.out.symm, by rw [HBZ.out]; exact HFIN.out _ HBW.out⟩
end Go.Proofs.YtghgbikmlbildaaGreatDoor
namespace Go.Proofs.YtghgbikmlbildaaGreatDoor
open Go.RowKit Go.Shelf
set_option linter.unusedVariables false
set_option linter.unusedSimpArgs false

theorem cellsByte : Tryz.prog.cellsOf 5 = 1 := by kernel_rfl
set_option maxHeartbeats 2000000 in
set_option maxRecDepth 100000 in
theorem string_wt (B b : Nat) (l : List UInt8) (w : World) (h : WtAt B b l w) (h0 : l ≠ []) (hl : l.length ≤ 70368744177664) :
  Calls Tryz.prog 97 #[.pointer (some ⟨b, 0, none⟩)] w fun e w' => e = .returned (.string ⟨l.toArray⟩) ∧ Below B w w' := by
 obtain ⟨hBb, hBw, p, bv, hp, hbk, hown, hne⟩ := h
 obtain ⟨g, cap, cur, rfl, hg1, hg2, hg3⟩ := owns_open hown h0
 have hl0 : 0 < l.length := List.length_pos_iff.2 h0
 have c1 : w.drew.cell? ⟨b, 1, none⟩ = some (.slice (some ⟨g, 0, none⟩) l.length cap) := by
  have : w.drew.heap[b]? = some (.cells #[p, .slice (some ⟨g, 0, none⟩) l.length cap] 144 (0, 0)) := hbk
  rw [Lib.cell_of_heap this]; rfl
 have hcap : cap ≠ 0 := by
  rcases hown.2 with ⟨hv, _⟩ | ⟨g', cap', cur', hv, _, _, hc, _⟩
  ·cases hv
  ·injection hv with _ _ e; omega
 have hSD : (Builtin.unsafeSliceData_ #[39] 186 #[.slice (some ⟨g, 0, none⟩) l.length cap]).run Tryz.prog w.drew = .ok (.pointer (some ⟨g, 0, none⟩)) w.drew :=
  Lib.run_unsafeSliceData_row _ _ _ _ _ _ (by omega)
 have hUS : (Builtin.unsafeString_ #[186, 3] 9 #[.pointer (some ⟨g, 0, none⟩), .int .i64 l.length]).run Tryz.prog w.drew = .ok (.string ⟨l.toArray⟩) (w.drew.freeze ⟨g, 0, none⟩ l.length) := by
  have hcs : l.length ≤ cur.size := by
   have := congrArg List.length hg3
   simp [byteC] at this
   omega
  refine Lib.run_unsafeString_row w.drew 186 3 9 5 Tryz.underlying186 cellsByte g cur.size (by have hg' : w.drew.heap[g]? = some (.cells cur 5 (0, 0)) := hg2; simp [World.shape?, hg']) l h0 (by omega) (by omega) ?_
  intro j x hx
  have := row_news hg2 hg3 j (.int .u8 x.toNat) (by simp [byteC, hx])
  have ha : (⟨g, 0, none⟩ : Addr).add j = ⟨g, j, none⟩ := by unfold Addr.add; split <;> simp_all
  rw [ha] at this ⊢
  exact this
 clear hown hp hg2 hg3
 go_enter Tryz.func97, Tryz.ntmps97
 go_wp2_with fail
 go_region
 all_goals (go_wp2; go_ret; exact ⟨rfl, Lib.below_freeze (Below.drew (Below.refl B w)) (p := ⟨g, 0, none⟩) hg1 _⟩)
set_option maxHeartbeats 4000000 in
set_option maxRecDepth 100000 in
/-- wire.Put of a valid term. -/
theorem wput_yes (f : Nat) (t : Tm) (so : Option Addr) (c : Nat) (w : World) (hsl : SlAt w 9 (TmAt w f) so t.items) (hok : t.Ok) (hcap : (capF (f + 1) t : Int) ≤ 1152921504606846976) (hv : validF (f + 1) t = true) :
  Calls Tryz.prog 46 #[.agg #[.int .i64 t.kind, .int .i64 t.int, .int .i64 t.gen, .string t.name, .string t.func, .int .i64 t.arity, .slice so t.items.length c, .string t.bytes, .int .i64 t.bits]] w fun e w' => e = .returned (.tuple #[.string ⟨(putE (f + 1) t).toArray⟩, .int .i64 0]) ∧ Below w.heap.size w w' := by
 have hbx := tbox_new w t so c
 have hba : Below w.heap.size w (w.alloc (.cells #[.int .i64 t.kind, .int .i64 t.int, .int .i64 t.gen, .string t.name, .string t.func, .int .i64 t.arity, .slice so t.items.length c, .string t.bytes, .int .i64 t.bits] 78)) := (Below.refl _ _).alloc (Nat.le_refl _) _
 have hva := tvalid_any f t so c (w.alloc (.cells #[.int .i64 t.kind, .int .i64 t.int, .int .i64 t.gen, .string t.name, .string t.func, .int .i64 t.arity, .slice so t.items.length c, .string t.bytes, .int .i64 t.bits] 78)) (hsl.tms hba) hok hcap
 rw [hv] at hva
 have hfm : formF (f + 1) t = true := by unfold validF at hv; rw [Bool.and_eq_true] at hv; exact hv.1
 have hlen := putE_len hv
 have hlen2 : (codeE (f + 1) t).length ≤ 4400001 := by have : (putE (f + 1) t).length = (codeE (f + 1) t).length + 1 := rfl; omega
 have HTW : Hid (∀ (b : Nat) (l : List UInt8) (wx : World), Below w.heap.size w wx → WtAt w.heap.size b l wx → l.length ≤ 10 → Calls Tryz.prog 96 #[.pointer (some ⟨b, 0, none⟩), .agg #[.int .i64 t.kind, .int .i64 t.int, .int .i64 t.gen, .string t.name, .string t.func, .int .i64 t.arity, .slice so t.items.length c, .string t.bytes, .int .i64 t.bits]] wx (WtQ w.heap.size b (l ++ codeE (f + 1) t) wx)) := Lib.hid (fun b l wx h1 h2 h3 => wterm_rec f t so c b l w wx hsl hok hfm h1 h2 (by omega))
 have HVA := Lib.hid hva; have HBX := Lib.hid hbx; have HBA := Lib.hid hba
 have HL : Hid ((putE (f + 1) t).length ≤ 4400001) := Lib.hid hlen
 have HP : Hid (putE (f + 1) t = [UInt8.ofNat (131 : Int).toNat] ++ codeE (f + 1) t) := Lib.hid rfl
 clear hsl hok hcap hv hbx hba hva hfm hlen hlen2
 generalize codeE (f + 1) t = C at *
 generalize putE (f + 1) t = PE at *
 go_enter Tryz.func46, Tryz.ntmps46
 go_upto_region 1 with fail
 have hq := HBX.out
 generalize w.alloc (.cells #[.int .i64 t.kind, .int .i64 t.int, .int .i64 t.gen, .string t.name, .string t.func, .int .i64 t.arity, .slice so t.items.length c, .string t.bytes, .int .i64 t.bits] 78) = Wa at *
 generalize hBz : w.heap.size = B at *
 have HBZ := Lib.hid hBz
 clear hBz
 obtain ⟨c0, c1, c2, c3, c4, c5, c6, c7, c8, cz⟩ := term_cells hq
 have hlx := lt_of_row hq
 clear cz hq
 go_wp2_with fail
 refine HVA.out.mono ?_
 rintro e w1 ⟨rfl, hb1⟩
 have HB1 : Hid (Below B w w1) := Lib.hid (HBA.out.trans (hb1.mono (by have := HBA.out.size; have := HBZ.out; omega)))
 have HX1 : Hid (w1.heap[B]? = some (.cells #[.int .i64 t.kind, .int .i64 t.int, .int .i64 t.gen, .string t.name, .string t.func, .int .i64 t.arity, .slice so t.items.length c, .string t.bytes, .int .i64 t.bits] 78 (0, 0))) := Lib.hid ((hb1.block B hlx).trans HBX.out)
 clear hb1 hlx c0 c1 c2 c3 c4 c5 c6 c7 c8
 have hB1s : B ≤ w1.heap.size := by have := HB1.out.size; have := HBZ.out; omega
 have hwt := wt_new w1 hB1s
 have hbn : Below w1.heap.size w1 (w1.alloc (.cells #[.pointer none, .slice none 0 0] 144)) := (Below.refl _ _).alloc (Nat.le_refl _) _
 have HX2 : Hid ((w1.alloc (.cells #[.pointer none, .slice none 0 0] 144)).heap[B]? = some (.cells #[.int .i64 t.kind, .int .i64 t.int, .int .i64 t.gen, .string t.name, .string t.func, .int .i64 t.arity, .slice so t.items.length c, .string t.bytes, .int .i64 t.bits] 78 (0, 0))) := Lib.hid ((hbn.block B (lt_of_row HX1.out)).trans HX1.out)
 have HB2 : Hid (Below B w (w1.alloc (.cells #[.pointer none, .slice none 0 0] 144))) := Lib.hid (HB1.out.trans (hbn.mono hB1s))
 go_upto_region 4 with fail
 generalize w1.alloc (.cells #[.pointer none, .slice none 0 0] 144) = W2 at *
 clear hbn
 generalize w1.heap.size = b at *
 have h1 := wlit1 B b [] 131 5 W2 hwt (by omega) (by simp)
 have H1 := Lib.hid h1
 have hbl := hwt.lt
 clear h1 hwt
 go_wp2_with fail
 refine H1.out.mono ?_
 rintro e w3 ⟨rfl, g1, g2, g3⟩
 have HX3 : Hid (w3.heap[B]? = some (.cells #[.int .i64 t.kind, .int .i64 t.int, .int .i64 t.gen, .string t.name, .string t.func, .int .i64 t.arity, .slice so t.items.length c, .string t.bytes, .int .i64 t.bits] 78 (0, 0))) := Lib.hid (g3 B _ _ _ HX2.out (by decide) (by decide))
 have HB3 : Hid (Below B w w3) := Lib.hid (HB2.out.trans g2)
 have HT3 := Lib.hid (HTW.out b _ w3 HB3.out g1 (by simp))
 clear g1 g2 g3 hbl
 obtain ⟨c0, c1, c2, c3, c4, c5, c6, c7, c8, cz⟩ := term_cells HX3.out
 have hlx := lt_of_row HX3.out
 clear cz
 go_wp2_with fail
 refine HT3.out.mono ?_
 rintro e w4 ⟨rfl, g1, g2, g3⟩
 have HB4 : Hid (Below B w w4) := Lib.hid (HB3.out.trans g2)
 rw [List.nil_append, ← HP.out] at g1
 have hs := string_wt B b PE w4 g1 (by rw [HP.out]; simp) (by have := HL.out; omega)
 have HS := Lib.hid hs
 have hbl := g1.lt
 clear g1 g2 g3 hs c0 c1 c2 c3 c4 c5 c6 c7 c8 hlx
 go_wp2_with fail
 refine HS.out.mono ?_
 rintro e w5 ⟨rfl, hb5⟩
 have HB5 : Hid (Below B w w5) := Lib.hid (HB4.out.trans hb5)
 clear hb5
 go_wp2_with fail
 go_ret2
 exact ⟨rfl, by rw [HBZ.out]; exact HB5.out⟩
/-- wire.Put at the literals of a unit whose literals are valid. -/
theorem wire_ok {f : Nat} {u : RUnit} (hv : ∀ t ∈ u.lits, validF (f + 1) t = true) (hcap : ∀ t ∈ u.lits, (capF (f + 1) t : Int) ≤ 1152921504606846976) : WireOk (fun t => ⟨(putE (f + 1) t).toArray⟩) f u := by
 intro t ht
 refine ⟨?_, fun ai c w h1 h2 => wput_yes f t ai c w h1 h2 (hcap t ht) (hv t ht)⟩
 have := putE_len (hv t ht)
 show (putE (f + 1) t).toArray.size ≤ _
 rw [List.size_toArray]; omega
end Go.Proofs.YtghgbikmlbildaaGreatDoor
