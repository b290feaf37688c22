/-
  The reference's Put of layer 16: the walk (printed by gen_gput16.py). CodePuts: the walk (printed by gen_lputs.py). From the row's listed variables to the tables that the walks ask for; the witness' heap.
-/
import Derived.Test.YtghgbikmlbildaaGreatDoorRows
import Derived.Lib.LaidU8
import Derived.Stop.LaidErr
import Derived.Test.YtghgbikmlbildaaGreatDoorPutsAll02
import Derived.Test.YtghgbikmlbildaaGreatDoorPutsAll10
import Derived.Test.YtghgbikmlbildaaGreatDoorPutsAll15
import Derived.Test.YtghgbikmlbildaaGreatDoorPutsAll20
import Derived.Test.YtghgbikmlbildaaGreatDoorPutsAll25
import Derived.Test.YtghgbikmlbildaaGreatDoorPutsAll30
namespace Go.Proofs.YtghgbikmlbildaaGreatDoor
open Go.RowKit
set_option linter.unusedVariables false
set_option linter.unusedSimpArgs false

/-- A term's encoding. -/
def encT (f : Nat) (t : Tm) : ByteArray := ⟨(putE (f + 1) t).toArray⟩
theorem flat_cons {α : Type} (g : α → List UInt8) {l : List α} {k : Nat} (h : k < l.length) : (l.drop k).flatMap g = g l[k] ++ (l.drop (k + 1)).flatMap g := by
 rw [List.drop_eq_getElem_cons h]; rfl
set_option maxRecDepth 100000 in
set_option maxHeartbeats 8000000 in
theorem rput16_no (f : Nat) (u : RUnit) (lo fo go co : Option Addr) (lc fc gc cc : Nat) (w : World) (hp : UP w u lo fo go co) (hlits : SlAt w 9 (TmAt w (f + 1)) lo u.lits) (hcap : ∀ t ∈ u.lits, (capF (f + 1) t : Int) ≤ 1152921504606846976) (hno : checkE (f + 1) u = 6) :
  Calls Tryz.prog 16 #[.agg #[.string u.mdl, .int .i64 u.vsn, .slice lo u.lits.length lc, .slice fo u.funcs.length fc, .slice go u.funs.length gc, .slice co u.code.length cc]] w fun e w' => e = .returned (.tuple #[.string ⟨#[]⟩, .int .i64 6]) ∧ Below w.heap.size w w' := by
 have hba : Below w.heap.size w (w.alloc (.cells #[.string u.mdl, .int .i64 u.vsn, .slice lo u.lits.length lc, .slice fo u.funcs.length fc, .slice go u.funs.length gc, .slice co u.code.length cc] 27)) := (Below.refl _ _).alloc (Nat.le_refl _) _
 have hck := rcheck_any f u lo fo go co lc fc gc cc _ (hp.below hba) (hlits.tms hba) hcap
 have hbx := ubox_new w u lo fo go co lc fc gc cc
 rw [hno] at hck
 have HCK := Lib.hid hck; have HBA := Lib.hid hba; have HBX := Lib.hid hbx
 generalize checkI (f + 1) u = ci at *
 clear hck hba hp hlits hcap hno hbx
 go_enter Tryz.func16, Tryz.ntmps16
 go_upto_region 1 with fail
 have b0 := HBX.out.c0; have b1 := HBX.out.c1; have b2 := HBX.out.c2; have b3 := HBX.out.c3; have b4 := HBX.out.c4; have b5 := HBX.out.c5
 have hlu := HBX.out.lt
 go_wp2_with fail
 refine HCK.out.mono ?_
 rintro e w5 ⟨rfl, hb5⟩
 go_wp2_with fail
 go_ret2
 exact ⟨rfl, HBA.out.trans (hb5.mono HBA.out.size)⟩
set_option maxRecDepth 100000 in
set_option maxHeartbeats 80000000 in
theorem rput16_yes (f : Nat) (u : RUnit) (lo fo go co : Option Addr) (lc fc gc cc : Nat) (w : World) (hp : UP w u lo fo go co) (hlits : SlAt w 9 (TmAt w (f + 1)) lo u.lits) (hcap : ∀ t ∈ u.lits, (capF (f + 1) t : Int) ≤ 1152921504606846976) (hyes : checkE (f + 1) u = 0) :
  Calls Tryz.prog 16 #[.agg #[.string u.mdl, .int .i64 u.vsn, .slice lo u.lits.length lc, .slice fo u.funcs.length fc, .slice go u.funs.length gc, .slice co u.code.length cc]] w fun e w' => e = .returned (.tuple #[.string ⟨(unitW (encT f) u).toArray⟩, .int .i64 0]) ∧ Below w.heap.size w w' := by
 have hba : Below w.heap.size w (w.alloc (.cells #[.string u.mdl, .int .i64 u.vsn, .slice lo u.lits.length lc, .slice fo u.funcs.length fc, .slice go u.funs.length gc, .slice co u.code.length cc] 27)) := (Below.refl _ _).alloc (Nat.le_refl _) _
 have hbx := ubox_new w u lo fo go co lc fc gc cc
 have hck := rcheck_any f u lo fo go co lc fc gc cc _ (hp.below hba) (hlits.tms hba) hcap
 obtain ⟨htab, htb, hins⟩ := check_ok hyes
 rw [hyes] at hck
 have HV : Hid (unitW (encT f) u = (textW u.mdl ++ (vint u.vsn.toNat ++ (vint u.lits.length ++ (u.lits.flatMap (fun t => textW (encT f t)) ++ (vint u.funcs.length ++ (u.funcs.flatMap funcW ++ (vint u.funs.length ++ (u.funs.flatMap funW ++ (vint u.code.length ++ (u.code.flatMap insW ++ ([] : List UInt8)))))))))))) := Lib.hid rfl
 have HVAL := Lib.hid (lits_valid htb)
 have HCK := Lib.hid hck; have HBA := Lib.hid hba; have HUX := Lib.hid hbx; have HUP := Lib.hid (hp.below hba); have HLT := Lib.hid (hlits.tms hba); have HCAP := Lib.hid hcap
 have HTB := Lib.hid htab; have HIN := Lib.hid hins
 have hl1 := htab.mdl; have hl2 := htab.vsn0; have hl3 := htab.vsn1; have hl4 := htab.code1; have hl5 := htab.lits; have hl6 := htab.funcs; have hl7 := htab.funs
 generalize unitW (encT f) u = WW at *
 generalize checkI (f + 1) u = ci at *
 clear hck hba hbx hp hlits hcap hyes htab htb hins
 go_enter Tryz.func16, Tryz.ntmps16
 go_upto_region 1 with fail
 generalize w.alloc (.cells #[.string u.mdl, .int .i64 u.vsn, .slice lo u.lits.length lc, .slice fo u.funcs.length fc, .slice go u.funs.length gc, .slice co u.code.length cc] 27) = W0 at *
 generalize hBz : w.heap.size = B at *
 have HBZ := Lib.hid hBz
 clear hBz
 have HFIN : Hid (∀ wx, Below W0.heap.size W0 wx → Below B w wx) := Lib.hid (fun wx hh => HBA.out.trans (hh.mono (by have := HBA.out.size; have := HBZ.out; omega)))
 have b0 := HUX.out.c0; have b1 := HUX.out.c1; have b2 := HUX.out.c2; have b3 := HUX.out.c3; have b4 := HUX.out.c4; have b5 := HUX.out.c5
 have hlu := HUX.out.lt
 go_wp2_with fail
 refine HCK.out.mono ?_
 rintro e w5 ⟨rfl, hb5⟩
 have HB := Lib.hid hb5
 clear hb5 HCK b0 b1 b2 b3 b4 b5 hlu
 have b0 := (HUX.out.below HB.out).c0; have b1 := (HUX.out.below HB.out).c1; have b2 := (HUX.out.below HB.out).c2; have b3 := (HUX.out.below HB.out).c3; have b4 := (HUX.out.below HB.out).c4; have b5 := (HUX.out.below HB.out).c5
 have hlu := (HUX.out.below HB.out).lt
 have h1 := fun wx => rtext16_any u.mdl wx (by omega)
 have h2 := fun wx => rvarint_le u.vsn wx (by omega) (by omega)
 have h3 := fun wx => rvarint_any 9 u.lits.length wx (by omega) (by omega)
 have hA1 := textW_len u.mdl; have hA2 := vint_len u.vsn.toNat; have hA3 := vint_len u.lits.length
 have HV2 : Hid (WW = ((textW u.mdl ++ vint u.vsn.toNat) ++ vint u.lits.length) ++ (u.lits.flatMap (fun t => textW (encT f t)) ++ (vint u.funcs.length ++ (u.funcs.flatMap funcW ++ (vint u.funs.length ++ (u.funs.flatMap funW ++ (vint u.code.length ++ (u.code.flatMap insW ++ ([] : List UInt8))))))))) := Lib.hid (by rw [HV.out]; simp only [List.append_assoc])
 clear HV
 generalize textW u.mdl = A1 at *
 generalize vint u.vsn.toNat = A2 at *
 generalize hA3e : vint u.lits.length = A3 at *
 clear hA3e
 have hadd := fun wx => run_string_add_sum (P := Tryz.prog) wx ⟨A1.toArray⟩ ⟨A2.toArray⟩ (by rw [bsz, bsz]; omega)
 have hadd2 := fun wx => run_string_add_sum (P := Tryz.prog) wx (⟨A1.toArray⟩ ++ ⟨A2.toArray⟩) ⟨A3.toArray⟩ (by rw [cat_bytes, bsz, bsz, List.length_append]; omega)
 have HBr := Lib.hid ((Below.refl w5.heap.size w5).drew)
 have HKr := Lib.hid (sk_of HBr.out)
 go_upto_region 4 with fail
 go_cut [6] (fun s wx => s = .string ⟨((A1 ++ A2) ++ A3).toArray⟩ ∧ Hid (Below W0.heap.size W0 wx))
 case first =>
  first | go_region_held3 (fun w' => w5.heap.size ≤ w'.heap.size ∧ ∀ b o, b < w5.heap.size → w'.cell? ⟨b, o, none⟩ = w5.cell? ⟨b, o, none⟩) (with_reducible exact HKr.out)
   (first
    | (go_at_call 49; (with_reducible refine (h1 _).mono ?_); rintro e w9 ⟨rfl, hb⟩; have HBr := Lib.hid (below_next HBr.out hb); have HKr := Lib.hid (sk_of HBr.out); clear hb)
    | (go_at_call 50; (first | (with_reducible refine (h2 _).mono ?_) | (with_reducible refine (h3 _).mono ?_)); rintro e w9 ⟨rfl, hb⟩; have HBr := Lib.hid (below_next HBr.out hb); have HKr := Lib.hid (sk_of HBr.out); clear hb)) | fail
  all_goals
   go_wp2_with fail
   go_meet
   case rel => exact ⟨congrArg Value.string (by rw [cat_bytes, cat_bytes]), Lib.hid (below_next HB.out HBr.out)⟩
 case rest =>
  rename_i wx
  obtain ⟨rfl, HBc⟩ := hcut
  have HB := HBc
  have hp : ((A1 ++ A2) ++ A3).length ≤ 100 := by rw [List.length_append, List.length_append]; omega
  clear b0 b1 b2 b3 b4 b5 hlu h1 h2 h3 hA1 hA2 hA3 hadd hadd2 HBr HKr HBc
  generalize (A1 ++ A2) ++ A3 = p at *
  have b0 := (HUX.out.below HB.out).c0; have b1 := (HUX.out.below HB.out).c1; have b2 := (HUX.out.below HB.out).c2; have b3 := (HUX.out.below HB.out).c3; have b4 := (HUX.out.below HB.out).c4; have b5 := (HUX.out.below HB.out).c5
  have hlu := (HUX.out.below HB.out).lt
  have HV3 : Hid (WW = p ++ ((u.lits.drop 0).flatMap (fun t => textW (encT f t)) ++ (vint u.funcs.length ++ (u.funcs.flatMap funcW ++ (vint u.funs.length ++ (u.funs.flatMap funW ++ (vint u.code.length ++ (u.code.flatMap insW ++ ([] : List UInt8))))))))) := Lib.hid HV2.out
  go_wp2_with fail
  go_loopw [6, 7, 8, 9] (fun s iv _ _ wr => ∃ (k : Nat) (p2 : List UInt8), k ≤ u.lits.length ∧ iv = .int .i64 k ∧ s = .string ⟨p2.toArray⟩ ∧ Hid (WW = p2 ++ ((u.lits.drop k).flatMap (fun t => textW (encT f t)) ++ (vint u.funcs.length ++ (u.funcs.flatMap funcW ++ (vint u.funs.length ++ (u.funs.flatMap funW ++ (vint u.code.length ++ (u.code.flatMap insW ++ ([] : List UInt8))))))))) ∧ p2.length ≤ 100 + 4400020 * k ∧ Hid (Below W0.heap.size W0 wr)) (fun s iv _ _ wr => u.lits.length - (intOf iv).toNat)
  case atStart => exact ⟨0, p, Nat.zero_le _, rfl, rfl, HV3, by omega, HB⟩
  case round =>
   obtain ⟨k, p2, hk, rfl, rfl, HV3, hp2, HB⟩ := hrel
   rename World => wr
   clear b0 b1 b2 b3 b4 b5 hlu
   have b0 := (HUX.out.below HB.out).c0; have b1 := (HUX.out.below HB.out).c1; have b2 := (HUX.out.below HB.out).c2; have b3 := (HUX.out.below HB.out).c3; have b4 := (HUX.out.below HB.out).c4; have b5 := (HUX.out.below HB.out).c5
   have hlu := (HUX.out.below HB.out).lt
   by_cases hlt : k < u.lits.length
   ·obtain ⟨b2', off2, ai, ci2, hlo, hb2, q0, q1, q2, q3, q4, q5, q6, q7, q8, hit, hok⟩ := (HLT.out.tms HB.out).tm hlt
    subst hlo
    have hpt : Calls Tryz.prog 51 #[.agg #[.int .i64 u.lits[k].kind, .int .i64 u.lits[k].int, .int .i64 u.lits[k].gen, .string u.lits[k].name, .string u.lits[k].func, .int .i64 u.lits[k].arity, .slice ai u.lits[k].items.length ci2, .string u.lits[k].bytes, .int .i64 u.lits[k].bits]] wr fun e w' => e = .returned (.tuple #[.string (encT f u.lits[k]), .int .i64 0]) ∧ Below wr.heap.size wr w' := rput07_yes f u.lits[k] ai ci2 wr hit hok (HCAP.out _ (List.getElem_mem hlt)) (HVAL.out _ (List.getElem_mem hlt))
    have hel : (encT f u.lits[k]).size ≤ 4400001 := by have := putE_len (HVAL.out _ (List.getElem_mem hlt)); show (putE (f + 1) u.lits[k]).toArray.size ≤ _; rw [List.size_toArray]; exact this
    have HV4 : Hid (WW = (p2 ++ textW (encT f u.lits[k])) ++ ((u.lits.drop (k + 1)).flatMap (fun t => textW (encT f t)) ++ (vint u.funcs.length ++ (u.funcs.flatMap funcW ++ (vint u.funs.length ++ (u.funs.flatMap funW ++ (vint u.code.length ++ (u.code.flatMap insW ++ ([] : List UInt8))))))))) := Lib.hid (by rw [HV3.out, flat_cons _ hlt]; simp only [List.append_assoc])
    have HPT := Lib.hid hpt
    clear hpt hit hok
    generalize encT f u.lits[k] = EB at *
    generalize u.lits[k] = t at *
    have h1 := fun wx => rtext16_any EB wx (by omega)
    have hA1 := textW_len EB
    generalize textW EB = A1 at *
    have hadd0 := fun wx => run_string_add_sum (P := Tryz.prog) wx ⟨p2.toArray⟩ ⟨A1.toArray⟩ (by rw [bsz, bsz]; omega)
    go_wp2_with fail
    refine HPT.out.mono ?_
    rintro e w9 ⟨rfl, hb⟩
    go_wp2_with fail
    refine (h1 _).mono ?_
    rintro e w10 ⟨rfl, hb'⟩
    have HB := Lib.hid (below_next (below_next HB.out hb) hb')
    clear hb hb' b0 b1 b2 b3 b4 b5 hlu
    go_wp2_with fail
    go_roundw
    case rel => exact ⟨k + 1, p2 ++ A1, by omega, by go_num, congrArg Value.string (cat_bytes _ _), HV4, by rw [List.length_append]; omega, HB⟩
    case measure => simp [intOf]; omega
   ·have HV4 : Hid (WW = (p2 ++ vint u.funcs.length) ++ (u.funcs.flatMap funcW ++ (vint u.funs.length ++ (u.funs.flatMap funW ++ (vint u.code.length ++ (u.code.flatMap insW ++ ([] : List UInt8))))))) := Lib.hid (by rw [HV3.out, List.drop_eq_nil_of_le (by omega)]; simp only [List.flatMap_nil, List.nil_append, List.append_assoc])
    have h1 := fun wx => rvarint_any 9 u.funcs.length wx (by omega) (by omega)
    have hA1 := vint_len u.funcs.length
    have hp9 : p2.length ≤ 290000000000 := by omega
    generalize hA1e : vint u.funcs.length = A1 at *
    clear hA1e
    have hadd0 := fun wx => run_string_add_sum (P := Tryz.prog) wx ⟨p2.toArray⟩ ⟨A1.toArray⟩ (by rw [bsz, bsz]; omega)
    obtain ⟨wo, rfl⟩ : ∃ wo : World, wo = wr := ⟨_, rfl⟩
    go_wp2_with fail
    refine (h1 _).mono ?_
    rintro e w9 ⟨rfl, hb⟩
    have HB := Lib.hid (below_next HB.out hb)
    have HV2 := HV4
    go_wp2_with fail
    have HCATP : Hid ((⟨p2.toArray⟩ : ByteArray) ++ ⟨A1.toArray⟩ = ⟨(p2 ++ A1).toArray⟩) := Lib.hid (cat_bytes _ _)
    have hp : (p2 ++ A1).length ≤ 300000000000 := by rw [List.length_append]; omega
    clear hb h1 hA1 HV3 HV4 hp2 hp9 hadd0
    generalize p2 ++ A1 = p at *
    have HV3 : Hid (WW = p ++ ((u.funcs.drop 0).flatMap funcW ++ (vint u.funs.length ++ (u.funs.flatMap funW ++ (vint u.code.length ++ (u.code.flatMap insW ++ ([] : List UInt8))))))) := Lib.hid HV2.out
    skip
    go_loopw [6, 10, 11] (fun s iv _ wr => ∃ (k : Nat) (p2 : List UInt8), k ≤ u.funcs.length ∧ iv = .int .i64 k ∧ s = .string ⟨p2.toArray⟩ ∧ Hid (WW = p2 ++ ((u.funcs.drop k).flatMap funcW ++ (vint u.funs.length ++ (u.funs.flatMap funW ++ (vint u.code.length ++ (u.code.flatMap insW ++ ([] : List UInt8))))))) ∧ p2.length ≤ 300000000000 + 100 * k ∧ Hid (Below W0.heap.size W0 wr)) (fun s iv _ wr => u.funcs.length - (intOf iv).toNat)
    case atStart => exact ⟨0, p, Nat.zero_le _, rfl, congrArg Value.string (HCATP.out), HV3, by omega, HB⟩
    case round =>
     obtain ⟨k, p2, hk, rfl, rfl, HV3, hp2, HB⟩ := hrel
     rename World => wr
     clear b0 b1 b2 b3 b4 b5 hlu
     have b0 := (HUX.out.below HB.out).c0; have b1 := (HUX.out.below HB.out).c1; have b2 := (HUX.out.below HB.out).c2; have b3 := (HUX.out.below HB.out).c3; have b4 := (HUX.out.below HB.out).c4; have b5 := (HUX.out.below HB.out).c5
     have hlu := (HUX.out.below HB.out).lt
     by_cases hlt : k < u.funcs.length
     ·obtain ⟨b1', off1, hfo, hb1, s0, s1, s2, s3, t0, t1, t2⟩ := (HUP.out.funcs.mono HB.out fun _ _ h => h).func hlt
      subst hfo
      obtain ⟨z1, z2, z3, z4, z5⟩ := HTB.out.func _ (List.getElem_mem hlt)
      have h1 := fun wx => rtext16_any u.funcs[k].name wx (by omega)
      have h2 := fun wx => rvarint_le u.funcs[k].arity wx z2 (by omega)
      have h3 := fun wx => rbit16_any u.funcs[k].pub wx
      have h4 := fun wx => rvarint_le u.funcs[k].entry wx z4 (by omega)
      have hA1 := textW_len u.funcs[k].name; have hA2 := vint_len u.funcs[k].arity.toNat; have hA3 := boolW_len u.funcs[k].pub; have hA4 := vint_len u.funcs[k].entry.toNat
      have HV4 : Hid (WW = ((((p2 ++ textW u.funcs[k].name) ++ vint u.funcs[k].arity.toNat) ++ boolW u.funcs[k].pub) ++ vint u.funcs[k].entry.toNat) ++ ((u.funcs.drop (k + 1)).flatMap funcW ++ (vint u.funs.length ++ (u.funs.flatMap funW ++ (vint u.code.length ++ (u.code.flatMap insW ++ ([] : List UInt8))))))) := Lib.hid (by rw [HV3.out, flat_cons _ hlt]; unfold funcW; simp only [List.append_assoc])
      clear z2 z3 z4 z5 t0 t1 t2
      generalize textW u.funcs[k].name = A1 at *
      generalize vint u.funcs[k].arity.toNat = A2 at *
      generalize boolW u.funcs[k].pub = A3 at *
      generalize vint u.funcs[k].entry.toNat = A4 at *
      generalize u.funcs[k] = fn at *
      obtain ⟨fnm, far, fpb, fen⟩ := fn
      simp only at *
      have hbx : Below wr.heap.size wr (wr.alloc (.cells #[.string fnm, .int .i64 far, .bool fpb, .int .i64 fen] 81)) := (Below.refl _ _).alloc (Nat.le_refl _) _
      have hbr := heap_alloc_new wr (.cells #[.string fnm, .int .i64 far, .bool fpb, .int .i64 fen] 81)
      have HB := Lib.hid (below_next HB.out hbx)
      clear hbx
      have hadd0 := fun wx => run_string_add_sum (P := Tryz.prog) wx (⟨p2.toArray⟩) ⟨A1.toArray⟩ (by rw [bsz, bsz]; omega)
      have hadd1 := fun wx => run_string_add_sum (P := Tryz.prog) wx (⟨p2.toArray⟩ ++ ⟨A1.toArray⟩) ⟨A2.toArray⟩ (by rw [cat_bytes, bsz, bsz, List.length_append]; omega)
      have hadd2 := fun wx => run_string_add_sum (P := Tryz.prog) wx (⟨p2.toArray⟩ ++ ⟨A1.toArray⟩ ++ ⟨A2.toArray⟩) ⟨A3.toArray⟩ (by rw [cat_bytes, cat_bytes, bsz, bsz, List.length_append, List.length_append]; omega)
      have hadd3 := fun wx => run_string_add_sum (P := Tryz.prog) wx (⟨p2.toArray⟩ ++ ⟨A1.toArray⟩ ++ ⟨A2.toArray⟩ ++ ⟨A3.toArray⟩) ⟨A4.toArray⟩ (by rw [cat_bytes, cat_bytes, cat_bytes, bsz, bsz, List.length_append, List.length_append, List.length_append]; omega)
      go_upto_region 15 with fail
      clear b0 b1 b2 b3 b4 b5 hlu s0 s1 s2 s3
      generalize wr.alloc (.cells #[.string fnm, .int .i64 far, .bool fpb, .int .i64 fen] 81) = Wg at *
      generalize wr.heap.size = G at *
      obtain ⟨g0, g1, g2, g3⟩ := func_cells hbr
      have hlg := lt_of_row hbr
      clear hbr
      have HBr := Lib.hid ((Below.refl Wg.heap.size Wg).drew)
      have HKr := Lib.hid (sk_of HBr.out)
      first | go_region_held3 (fun w' => Wg.heap.size ≤ w'.heap.size ∧ ∀ b o, b < Wg.heap.size → w'.cell? ⟨b, o, none⟩ = Wg.cell? ⟨b, o, none⟩) (with_reducible exact HKr.out) (first | (go_at_call 49; (with_reducible refine (h1 _).mono ?_); rintro e w9 ⟨rfl, hb⟩; have HBr := Lib.hid (below_next HBr.out hb); have HKr := Lib.hid (sk_of HBr.out); clear hb) | (go_at_call 50; (first | (with_reducible refine (h2 _).mono ?_) | (with_reducible refine (h4 _).mono ?_)); rintro e w9 ⟨rfl, hb⟩; have HBr := Lib.hid (below_next HBr.out hb); have HKr := Lib.hid (sk_of HBr.out); clear hb) | (go_at_call 52; (with_reducible refine (h3 _).mono ?_); rintro e w9 ⟨rfl, hb⟩; have HBr := Lib.hid (below_next HBr.out hb); have HKr := Lib.hid (sk_of HBr.out); clear hb)) | fail
      all_goals
       have HB := Lib.hid (below_next HB.out HBr.out)
       clear g0 g1 g2 g3 hlg
       go_wp2_with fail
       go_roundw
       case rel => exact ⟨k + 1, (((p2 ++ A1) ++ A2) ++ A3) ++ A4, by omega, by go_num, congrArg Value.string (by rw [cat_bytes, cat_bytes, cat_bytes, cat_bytes]), HV4, by rw [List.length_append, List.length_append, List.length_append, List.length_append]; omega, HB⟩
       case measure => simp [intOf]; omega
     ·have HV4 : Hid (WW = (p2 ++ vint u.funs.length) ++ (u.funs.flatMap funW ++ (vint u.code.length ++ (u.code.flatMap insW ++ ([] : List UInt8))))) := Lib.hid (by rw [HV3.out, List.drop_eq_nil_of_le (by omega)]; simp only [List.flatMap_nil, List.nil_append, List.append_assoc])
      have h1 := fun wx => rvarint_any 9 u.funs.length wx (by omega) (by omega)
      have hA1 := vint_len u.funs.length
      have hp9 : p2.length ≤ 300000025000 := by omega
      generalize hA1e : vint u.funs.length = A1 at *
      clear hA1e
      have hadd0 := fun wx => run_string_add_sum (P := Tryz.prog) wx ⟨p2.toArray⟩ ⟨A1.toArray⟩ (by rw [bsz, bsz]; omega)
      obtain ⟨wo, rfl⟩ : ∃ wo : World, wo = wr := ⟨_, rfl⟩
      go_wp2_with fail
      refine (h1 _).mono ?_
      rintro e w9 ⟨rfl, hb⟩
      have HB := Lib.hid (below_next HB.out hb)
      have HV2 := HV4
      go_wp2_with fail
      have HCATP : Hid ((⟨p2.toArray⟩ : ByteArray) ++ ⟨A1.toArray⟩ = ⟨(p2 ++ A1).toArray⟩) := Lib.hid (cat_bytes _ _)
      have hp : (p2 ++ A1).length ≤ 300000100000 := by rw [List.length_append]; omega
      clear hb h1 hA1 HV3 HV4 hp2 hp9 hadd0
      generalize p2 ++ A1 = p at *
      have HV3 : Hid (WW = p ++ ((u.funs.drop 0).flatMap funW ++ (vint u.code.length ++ (u.code.flatMap insW ++ ([] : List UInt8))))) := Lib.hid HV2.out
      skip
      go_loopw [6, 12] (fun s iv wr => ∃ (k : Nat) (p2 : List UInt8), k ≤ u.funs.length ∧ iv = .int .i64 k ∧ s = .string ⟨p2.toArray⟩ ∧ Hid (WW = p2 ++ ((u.funs.drop k).flatMap funW ++ (vint u.code.length ++ (u.code.flatMap insW ++ ([] : List UInt8))))) ∧ p2.length ≤ 300000100000 + 100 * k ∧ Hid (Below W0.heap.size W0 wr)) (fun s iv wr => u.funs.length - (intOf iv).toNat)
      case atStart => exact ⟨0, p, Nat.zero_le _, rfl, congrArg Value.string (HCATP.out), HV3, by omega, HB⟩
      case round =>
       obtain ⟨k, p2, hk, rfl, rfl, HV3, hp2, HB⟩ := hrel
       rename World => wr
       clear b0 b1 b2 b3 b4 b5 hlu
       have b0 := (HUX.out.below HB.out).c0; have b1 := (HUX.out.below HB.out).c1; have b2 := (HUX.out.below HB.out).c2; have b3 := (HUX.out.below HB.out).c3; have b4 := (HUX.out.below HB.out).c4; have b5 := (HUX.out.below HB.out).c5
       have hlu := (HUX.out.below HB.out).lt
       by_cases hlt : k < u.funs.length
       ·obtain ⟨b1', off1, hfo, hb1, s0, s1, s2, t0, t1, t2⟩ := (HUP.out.funs.mono HB.out fun _ _ h => h).fn hlt
        subst hfo
        obtain ⟨z1, z2, z3, z4, z5, z6⟩ := HTB.out.fn _ (List.getElem_mem hlt)
        have h1 := fun wx => rvarint_le u.funs[k].arity wx z1 (by omega)
        have h2 := fun wx => rvarint_le u.funs[k].free wx z3 (by omega)
        have h3 := fun wx => rvarint_le u.funs[k].entry wx z5 (by omega)
        have hA1 := vint_len u.funs[k].arity.toNat; have hA2 := vint_len u.funs[k].free.toNat; have hA3 := vint_len u.funs[k].entry.toNat
        have HV4 : Hid (WW = (((p2 ++ vint u.funs[k].arity.toNat) ++ vint u.funs[k].free.toNat) ++ vint u.funs[k].entry.toNat) ++ ((u.funs.drop (k + 1)).flatMap funW ++ (vint u.code.length ++ (u.code.flatMap insW ++ ([] : List UInt8))))) := Lib.hid (by rw [HV3.out, flat_cons _ hlt]; unfold funW; simp only [List.append_assoc])
        clear z1 z2 z3 z4 z5 z6 t0 t1 t2
        generalize vint u.funs[k].arity.toNat = A1 at *
        generalize vint u.funs[k].free.toNat = A2 at *
        generalize vint u.funs[k].entry.toNat = A3 at *
        generalize u.funs[k] = fn at *
        obtain ⟨far, ffr, fen⟩ := fn
        simp only at *
        have hadd0 := fun wx => run_string_add_sum (P := Tryz.prog) wx (⟨p2.toArray⟩) ⟨A1.toArray⟩ (by rw [bsz, bsz]; omega)
        have hadd1 := fun wx => run_string_add_sum (P := Tryz.prog) wx (⟨p2.toArray⟩ ++ ⟨A1.toArray⟩) ⟨A2.toArray⟩ (by rw [cat_bytes, bsz, bsz, List.length_append]; omega)
        have hadd2 := fun wx => run_string_add_sum (P := Tryz.prog) wx (⟨p2.toArray⟩ ++ ⟨A1.toArray⟩ ++ ⟨A2.toArray⟩) ⟨A3.toArray⟩ (by rw [cat_bytes, cat_bytes, bsz, bsz, List.length_append, List.length_append]; omega)
        have HBr := Lib.hid ((Below.refl wr.heap.size wr).drew)
        have HKr := Lib.hid (sk_of HBr.out)
        have hk0 : (0 : Int) ≤ (k : Int) := by omega
        have hk1 : (k : Int) < (u.funs.length : Int) := by omega
        go_wp2_with fail
        first | go_region_held3 (fun w' => wr.heap.size ≤ w'.heap.size ∧ ∀ b o, b < wr.heap.size → w'.cell? ⟨b, o, none⟩ = wr.cell? ⟨b, o, none⟩) (with_reducible exact HKr.out) ((go_at_call 50; (first | (with_reducible refine (h1 _).mono ?_) | (with_reducible refine (h2 _).mono ?_) | (with_reducible refine (h3 _).mono ?_)); rintro e w9 ⟨rfl, hb⟩; have HBr := Lib.hid (below_next HBr.out hb); have HKr := Lib.hid (sk_of HBr.out); clear hb)) | fail
        all_goals
         have HB := Lib.hid (below_next HB.out HBr.out)
         clear b0 b1 b2 b3 b4 b5 hlu
         go_wp2_with fail
         go_roundw
         case rel => exact ⟨k + 1, ((p2 ++ A1) ++ A2) ++ A3, by omega, by go_num, congrArg Value.string (by rw [cat_bytes, cat_bytes, cat_bytes]), HV4, by rw [List.length_append, List.length_append, List.length_append]; omega, HB⟩
         case measure => simp [intOf]; omega
       ·have HV4 : Hid (WW = (p2 ++ vint u.code.length) ++ (u.code.flatMap insW ++ ([] : List UInt8))) := Lib.hid (by rw [HV3.out, List.drop_eq_nil_of_le (by omega)]; simp only [List.flatMap_nil, List.nil_append, List.append_assoc])
        have h1 := fun wx => rvarint_any 9 u.code.length wx (by omega) (by omega)
        have hA1 := vint_len u.code.length
        have hp9 : p2.length ≤ 300000250000 := by omega
        generalize hA1e : vint u.code.length = A1 at *
        clear hA1e
        have hadd0 := fun wx => run_string_add_sum (P := Tryz.prog) wx ⟨p2.toArray⟩ ⟨A1.toArray⟩ (by rw [bsz, bsz]; omega)
        obtain ⟨wo, rfl⟩ : ∃ wo : World, wo = wr := ⟨_, rfl⟩
        go_wp2_with fail
        refine (h1 _).mono ?_
        rintro e w9 ⟨rfl, hb⟩
        have HB := Lib.hid (below_next HB.out hb)
        have HV2 := HV4
        go_wp2_with fail
        have HCATP : Hid ((⟨p2.toArray⟩ : ByteArray) ++ ⟨A1.toArray⟩ = ⟨(p2 ++ A1).toArray⟩) := Lib.hid (cat_bytes _ _)
        have hp : (p2 ++ A1).length ≤ 300000300000 := by rw [List.length_append]; omega
        clear hb h1 hA1 HV3 HV4 hp2 hp9 hadd0
        generalize p2 ++ A1 = p at *
        have HV3 : Hid (WW = p ++ ((u.code.drop 0).flatMap insW ++ ([] : List UInt8))) := Lib.hid HV2.out
        skip
        go_loopw [6, 13] (fun s iv wr => ∃ (k : Nat) (p2 : List UInt8), k ≤ u.code.length ∧ iv = .int .i64 k ∧ s = .string ⟨p2.toArray⟩ ∧ Hid (WW = p2 ++ ((u.code.drop k).flatMap insW ++ ([] : List UInt8))) ∧ p2.length ≤ 300000300000 + 100000 * k ∧ Hid (Below W0.heap.size W0 wr)) (fun s iv wr => u.code.length - (intOf iv).toNat)
        case atStart => exact ⟨0, p, Nat.zero_le _, rfl, congrArg Value.string (HCATP.out), HV3, by omega, HB⟩
        case round =>
         obtain ⟨k, p2, hk, rfl, rfl, HV3, hp2, HB⟩ := hrel
         rename World => wr
         clear b0 b1 b2 b3 b4 b5 hlu
         have b0 := (HUX.out.below HB.out).c0; have b1 := (HUX.out.below HB.out).c1; have b2 := (HUX.out.below HB.out).c2; have b3 := (HUX.out.below HB.out).c3; have b4 := (HUX.out.below HB.out).c4; have b5 := (HUX.out.below HB.out).c5
         have hlu := (HUX.out.below HB.out).lt
         by_cases hlt : k < u.code.length
         ·obtain ⟨bc, oc, so, co', go', sc, cc', gc', hco, hxb⟩ := ibox_of (HUP.out.below HB.out).code hlt
          subst hco
          have k0 := hxb.c0; have k1 := hxb.c1; have k2 := hxb.c2; have k3 := hxb.c3; have k4 := hxb.c4; have k5 := hxb.c5; have k6 := hxb.c6; have k7 := hxb.c7; have k8 := hxb.c8; have k9 := hxb.c9
          have hkl := hxb.lt
          have hi := HIN.out k hlt
          have hwi := ins_ok HTB.out hi
          have hop : 1 ≤ u.code[k].op ∧ u.code[k].op ≤ 40 := by
           unfold insB at hi; rw [Bool.and_eq_true] at hi
           have := hi.1; unfold opOk at this; exact of_decide_eq_true this
          have h1 : Calls Tryz.prog 53 _ wr fun e w' => e = .returned (.string ⟨(insW u.code[k]).toArray⟩) ∧ Below wr.heap.size wr w' := rinstr16_any u.code[k] so co' go' sc cc' gc' wr hxb.src hxb.cases hxb.segs hop hwi
          have hA1 : (insW u.code[k]).length ≤ 100000 := instrW_len hwi
          have HV4 : Hid (WW = (p2 ++ insW u.code[k]) ++ ((u.code.drop (k + 1)).flatMap insW ++ ([] : List UInt8))) := Lib.hid (by rw [HV3.out, flat_cons _ hlt]; simp only [List.append_assoc])
          have H1 := Lib.hid h1
          clear hi hwi hop h1 hxb
          generalize insW u.code[k] = A1 at *
          generalize u.code[k] = x at *
          have hadd0 := fun wx => run_string_add_sum (P := Tryz.prog) wx ⟨p2.toArray⟩ ⟨A1.toArray⟩ (by rw [bsz, bsz]; omega)
          go_wp2_with fail
          refine H1.out.mono ?_
          rintro e w9 ⟨rfl, hb⟩
          have HB := Lib.hid (below_next HB.out hb)
          clear hb b0 b1 b2 b3 b4 b5 hlu
          go_wp2_with fail
          go_roundw
          case rel => exact ⟨k + 1, p2 ++ A1, by omega, by go_num, congrArg Value.string (cat_bytes _ _), HV4, by rw [List.length_append]; omega, HB⟩
          case measure => simp [intOf]; omega
         ·have HV4 : Hid (WW = p2) := Lib.hid (by rw [HV3.out, List.drop_eq_nil_of_le (by omega)]; simp only [List.flatMap_nil, List.nil_append, List.append_nil])
          go_wp2_with fail
          go_ret2
          exact ⟨congrArg (fun l : List UInt8 => Ending.returned (.tuple #[.string ⟨l.toArray⟩, .int .i64 0])) HV4.out.symm, by rw [HBZ.out]; exact HFIN.out _ HB.out⟩
end Go.Proofs.YtghgbikmlbildaaGreatDoor
namespace Go.Proofs.YtghgbikmlbildaaGreatDoor
open Go.RowKit
set_option linter.unusedVariables false
set_option linter.unusedSimpArgs false

set_option maxRecDepth 100000 in
set_option maxHeartbeats 40000000 in
theorem puts_walk (u : RUnit) (lo fo go co : Option Addr) (lc fc gc cc : Nat) (w : World) (hup : UP w u lo fo go co) (hrows : RowsAt w) (hsp : SpaceAt w) (hnm : ∀ x ∈ u.code, x.name.size ≤ 140737488351232) :
  Calls Tryz.prog 4 #[.agg #[.string u.mdl, .int .i64 u.vsn, .slice lo u.lits.length lc, .slice fo u.funcs.length fc, .slice go u.funs.length gc, .slice co u.code.length cc]] w fun e w' => e = .returned (.bool true) ∧ Below w.heap.size w w' := by
 have HUP := Lib.hid hup; have HR := Lib.hid hrows; have HS := Lib.hid hsp; have HNM := Lib.hid hnm
 clear hup hrows hsp hnm
 go_enter Tryz.func4, Tryz.ntmps4
 go_upto_region 1 with fail
 have hbx := ubox_new w u lo fo go co lc fc gc cc
 have hba : Below w.heap.size w (w.alloc (.cells #[.string u.mdl, .int .i64 u.vsn, .slice lo u.lits.length lc, .slice fo u.funcs.length fc, .slice go u.funs.length gc, .slice co u.code.length cc] 27)) := (Below.refl _ _).alloc (Nat.le_refl _) _
 generalize w.alloc (.cells #[.string u.mdl, .int .i64 u.vsn, .slice lo u.lits.length lc, .slice fo u.funcs.length fc, .slice go u.funs.length gc, .slice co u.code.length cc] 27) = Wa at *
 have HBA := Lib.hid hba; have HBX := Lib.hid hbx
 generalize hB : w.heap.size = B at *
 have HBE := Lib.hid hB
 clear hB hba
 have HUa : Hid (UP Wa u lo fo go co) := Lib.hid (HUP.out.below (by rw [HBE.out]; exact HBA.out))
 have HRa : Hid (RowsAt Wa) := Lib.hid (HR.out.below (by rw [HBE.out]; exact HBA.out))
 have HSa : Hid (SpaceAt Wa) := Lib.hid (HS.out.below (by rw [HBE.out]; exact HBA.out))
 have HFIN : Hid (∀ wx, Below Wa.heap.size Wa wx → Below B w wx) := Lib.hid (fun wx h => HBA.out.trans (h.mono (by have := HBA.out.size; have := HBE.out; omega)))
 have d0 := hbx.c0; have d1 := hbx.c1; have d2 := hbx.c2; have d3 := hbx.c3; have d4 := hbx.c4; have d5 := hbx.c5
 have hbl := hbx.lt
 clear hbx
 go_wp2_with fail
 refine (large_any u lo fo go co lc fc gc cc Wa HUa.out).mono ?_
 rintro e w1 ⟨b, rfl, hb1, hq⟩
 have HB1 := Lib.hid hb1; have HQ := Lib.hid hq
 clear hb1 hq d0 d1 d2 d3 d4 d5
 cases b with
 | true =>
  go_wp2_with fail
  refine (awake_any w1 (HRa.out.below HB1.out) (HSa.out.below HB1.out)).mono ?_
  rintro e w2 ⟨rfl, hb2⟩
  go_wp2_with fail
  go_ret
  exact ⟨rfl, by rw [HBE.out]; exact HFIN.out _ (below_next HB1.out hb2)⟩
 | false =>
  obtain ⟨hl4, f0, hf0, hp0⟩ := HQ.out rfl
  obtain ⟨f, hlits, hcap⟩ := depth_of hf0 hp0
  have hbw := HBX.out.below HB1.out
  have d0 := hbw.c0; have d1 := hbw.c1; have d2 := hbw.c2; have d3 := hbw.c3; have d4 := hbw.c4; have d5 := hbw.c5
  have hbl2 := hbw.lt
  have HNM2 : Hid (∀ x ∈ u.code, x.name.size ≤ 140737488355328) := Lib.hid (fun x hx => Nat.le_trans (HNM.out x hx) (by decide))
  have HPQ : Hid (∃ (s : ByteArray) (e : Int), (∀ wx, Below Wa.heap.size Wa wx → Calls Tryz.prog 15 #[.agg #[.string u.mdl, .int .i64 u.vsn, .slice lo u.lits.length lc, .slice fo u.funcs.length fc, .slice go u.funs.length gc, .slice co u.code.length cc]] wx fun en w' => en = .returned (.tuple #[.string s, .int .i64 e]) ∧ Below wx.heap.size wx w') ∧ (∀ wx, Below Wa.heap.size Wa wx → Calls Tryz.prog 16 #[.agg #[.string u.mdl, .int .i64 u.vsn, .slice lo u.lits.length lc, .slice fo u.funcs.length fc, .slice go u.funs.length gc, .slice co u.code.length cc]] wx fun en w' => en = .returned (.tuple #[.string s, .int .i64 e]) ∧ Below wx.heap.size wx w')) := Lib.hid (by
   rcases checkE_two (f + 1) u with h | h
   ·have hv := (check_ok h).2.1
    exact ⟨_, _, fun wx hx => put_yes (encT f) f u lo fo go co lc fc gc cc wx (HRa.out.below hx) (HSa.out.below hx) (HUa.out.below hx) (hlits.tms hx) hcap HNM2.out (wire_ok (lits_valid hv) hcap) h, fun wx hx => rput16_yes f u lo fo go co lc fc gc cc wx (HUa.out.below hx) (hlits.tms hx) hcap h⟩
   ·exact ⟨_, _, fun wx hx => put_no f u lo fo go co lc fc gc cc wx (HRa.out.below hx) (HSa.out.below hx) (HUa.out.below hx) (hlits.tms hx) hcap HNM2.out h, fun wx hx => rput16_no f u lo fo go co lc fc gc cc wx (HUa.out.below hx) (hlits.tms hx) hcap h⟩)
  obtain ⟨s, ce, HCK0, HRC0⟩ := HPQ.out
  have HCK := Lib.hid HCK0; have HRC := Lib.hid HRC0
  clear hl4 hf0 hp0 hlits hcap hbw HQ HPQ HCK0 HRC0
  go_wp2_with fail
  refine (HCK.out _ HB1.out).mono ?_
  rintro e w2 ⟨rfl, hb2⟩
  have HB2 := Lib.hid (below_next HB1.out hb2)
  clear hb2 HCK d0 d1 d2 d3 d4 d5 hbl2
  have hbw := HBX.out.below HB2.out
  have d0 := hbw.c0; have d1 := hbw.c1; have d2 := hbw.c2; have d3 := hbw.c3; have d4 := hbw.c4; have d5 := hbw.c5
  have hbl2 := hbw.lt
  clear hbw
  go_wp2_with fail
  refine (HRC.out _ HB2.out).mono ?_
  rintro e w3 ⟨rfl, hb3⟩
  have HB3 := Lib.hid (below_next HB2.out hb3)
  clear hb3 HRC d0 d1 d2 d3 d4 d5 hbl2
  have hci : (s.toList == s.toList) = true := beq_self_eq_true _
  have hce : (ce == ce) = true := beq_self_eq_true _
  go_wp2_with fail
  refine (awake_any w3 (HRa.out.below HB3.out) (HSa.out.below HB3.out)).mono ?_
  rintro e w4 ⟨rfl, hb4⟩
  go_wp2_with fail
  go_ret
  exact ⟨rfl, by rw [HBE.out]; exact HFIN.out _ (below_next HB3.out hb4)⟩
end Go.Proofs.YtghgbikmlbildaaGreatDoor
namespace Go.Proofs.YtghgbikmlbildaaGreatDoor
open Go.RowKit
set_option linter.unusedVariables false

theorem rows_datum : (Rows.laid_stagehand_code_rows : DataW Unit) = .agg (rowT.map fun r => .agg ([r.1, r.2.1, r.2.2].map fun z => .lit (.int .i64 z))) := rfl
theorem rowsName : Tryz.prog.globalNamed "stagehand/code.rows" = some 0 := by kernel_rfl
theorem rowsType : (Tryz.prog.globals[0]?).map (·.type) = some 126 := by kernel_rfl
theorem rowCells : Tryz.prog.cellsOf 57 = 3 := by kernel_rfl
theorem rowInt : Tryz.prog.cellsOf 3 = 1 := by kernel_rfl
theorem rows_of_reads {W : World} (h : Lib.VarReads Tryz.prog W "stagehand/code.rows" Rows.laid_stagehand_code_rows) : RowsAt W := by
 obtain ⟨g, t, cs, fuel, p, hg, ht, hv, hd⟩ := h
 obtain rfl := Option.some.inj (rowsName.symm.trans hg)
 obtain rfl := Option.some.inj (rowsType.symm.trans ht)
 rw [rows_datum] at hd
 have hlt : 0 < W.heap.size := by
  unfold World.var? at hv
  rw [hg] at hv
  simp only [Option.bind_some] at hv
  split at hv
  ·rename_i h; exact (Array.getElem?_eq_some_iff.1 h).1
  ·cases hv
 refine ⟨hlt, fun k hk => ?_⟩
 obtain ⟨f', d, q, h1, h2⟩ := Lib.array_elem Tryz.underlying126 hd k hk
 rw [List.getElem?_map, List.getElem?_eq_getElem (by exact hk)] at h1
 obtain rfl := Option.some.inj h1
 have h3 := Lib.ints_of_struct Tryz.underlying57 (fun i f hf => by
  have hi := (Array.getElem?_eq_some_iff.1 hf).1
  have hi : i < 3 := hi
  rcases (show i = 0 ∨ i = 1 ∨ i = 2 by omega) with rfl | rfl | rfl
  all_goals
   obtain rfl := Option.some.inj hf
   exact ⟨Tryz.underlying3, rfl, rowInt⟩) rowCells h2
 rw [rowCells] at h3
 have hc : ∀ i, i < 3 → cs[k * 3 + i]? = ([(rowT[k]'hk).1, (rowT[k]'hk).2.1, (rowT[k]'hk).2.2].map fun z => Value.int .i64 z)[i]? := fun i hi => by
  have h4 : ((cs.toList.drop (k * 3)).take 3)[i]? = ([(rowT[k]'hk).1, (rowT[k]'hk).2.1, (rowT[k]'hk).2.2].map fun z => Value.int .i64 z)[i]? := congrArg (fun l => l[i]?) h3
  rw [List.getElem?_take_of_lt hi, List.getElem?_drop, Array.getElem?_toList] at h4
  exact h4
 have hcell := World.var?_cell hg hv
 exact ⟨(hcell (k * 3)).trans (hc 0 (by decide)), (hcell (k * 3 + 1)).trans (hc 1 (by decide)), (hcell (k * 3 + 2)).trans (hc 2 (by decide))⟩
theorem spaceName : Tryz.prog.globalNamed "strings.asciiSpace" = some 1 := by kernel_rfl
theorem spaceType : (Tryz.prog.globals[1]?).map (·.type) = some 233 := by kernel_rfl
theorem spaceCells : Tryz.prog.cellsOf 5 = 1 := by kernel_rfl
theorem spacesCells : Tryz.prog.cellsOf 233 = 256 := by kernel_rfl
theorem space_datum : (Rows.laid_strings_asciiSpace : DataW Unit) = Lib.tabData .u8 Lib.asciiSpaceTab := by kernel_rfl
theorem rows_at {W : World} {l : List (String × DataW Unit)} (h : laidMet Tryz.prog l W) (hm : ("stagehand/code.rows", Rows.laid_stagehand_code_rows) ∈ l) : RowsAt W := rows_of_reads (Lib.laidMet.reads h hm)
theorem space_at {W : World} {a : String × DataW Unit} {rest : List (String × DataW Unit)} (h : laidMet Tryz.prog (a :: ("strings.asciiSpace", Rows.laid_strings_asciiSpace) :: rest) W) : SpaceAt W := by
 rw [space_datum] at h
 exact Lib.tabIs_of_head spaceName spaceType Tryz.underlying233 Tryz.underlying5 spaceCells spacesCells h.tail

/-- A world for the witness: the listed tables hold what their initialisers lay. -/
noncomputable def laidWorld (os : Os) : World :=
 let N := (World.settled Tryz.prog os).heap.size
 let w0 := World.holding Tryz.prog os ⟨#[.cells (Lib.whiteT.map fun (z : Nat) => Value.int .u16 (z : Int)).toArray 274, .cells #[.slice (some ⟨N, 0, none⟩) 7 7, .slice none 0 0, .int .i64 2] 271], #[], []⟩
 let put (h : Array Obj) (g : Nat) (cs : Array Value) : Array Obj := h.modify g fun
  | .cells _ t frozen => .cells cs t frozen
  | o => o
 let h1 := put w0.heap 1 (Lib.asciiSpaceTab.map fun z => Value.int .u8 z).toArray
 let h2 := put h1 3 #[.pointer (some ⟨N + 1, 0, none⟩)]
 let h3 := put h2 0 (rowT.flatMap fun r => [Value.int .i64 r.1, Value.int .i64 r.2.1, Value.int .i64 r.2.2]).toArray
 { w0 with heap := h3 }
end Go.Proofs.YtghgbikmlbildaaGreatDoor
