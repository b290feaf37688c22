/-
  code.Put of any unit: the walk (printed by gen_put.py). The contract of wire.Put is asked for. small, awake: the walks. What is not too large to be tried has few nodes; targets ahead. No program in sight. The external term format: the encoding of a term, and how long it is. Plain functions.
-/
import Derived.Laws.NewBlocks
import Derived.Test.YtghgbikmlbildaaGreatDoorRoundsAll07
import Derived.Test.YtghgbikmlbildaaGreatDoorRoundsAll14
namespace Go.Proofs.YtghgbikmlbildaaGreatDoor
open Go.RowKit
set_option linter.unusedVariables false
set_option linter.unusedSimpArgs false

def insW (x : RIns) : List UInt8 := instrW (rowAt x.op).1.toNat x
/-- The encoding of a unit whose literals have the encodings enc. -/
def unitW (enc : Tm → ByteArray) (u : RUnit) : List UInt8 := textW u.mdl ++ (vint u.vsn.toNat ++ (vint u.lits.length ++ (u.lits.flatMap (fun t => textW (enc t)) ++ (vint u.funcs.length ++ (u.funcs.flatMap funcW ++ (vint u.funs.length ++ (u.funs.flatMap funW ++ (vint u.code.length ++ (u.code.flatMap insW ++ [])))))))))
def putS (enc : Tm → ByteArray) (f : Nat) (u : RUnit) : ByteArray := if checkE f u = 0 then ⟨(unitW enc u).toArray⟩ else ⟨#[]⟩
theorem flat_drop {α : Type} (g : α → List UInt8) (l : List α) {k : Nat} (h : k < l.length) : (l.drop k).flatMap g = g l[k] ++ (l.drop (k + 1)).flatMap g := by
 rw [List.drop_eq_getElem_cons h]; rfl
theorem vint_ne (n : Nat) : vint n ≠ [] := by
 show vintF (9 + 1) n ≠ []
 rw [vintF]
 split <;> simp
theorem textW_ne (s : ByteArray) : textW s ≠ [] := fun h => vint_ne s.size (List.append_eq_nil_iff.1 h).1
theorem unitW_ne (enc : Tm → ByteArray) (u : RUnit) : unitW enc u ≠ [] := fun h => textW_ne u.mdl (List.append_eq_nil_iff.1 h).1
theorem conv_wr {w : World} {B : Nat} {bv : Value} {l : List UInt8} (h : w.ownsRow B 5 1 bv l.length (byteC l)) (hne : l ≠ []) : (convert 39 9 bv).run Tryz.prog w = .ok (.string ⟨l.toArray⟩) w := by
 rcases h.2 with ⟨_, h0⟩ | ⟨g, cap, cur, rfl, _, hg, hc, _, hsz, htk⟩
 ·exact absurd (List.eq_nil_of_length_eq_zero h0) hne
 ·refine run_convert_bytes_back (P := Tryz.prog) w 39 9 5 ⟨g, 0, none⟩ cap l Tryz.underlying39 Tryz.underlying5 Tryz.underlying9 (fun j hj => ?_)
  have ha : (⟨g, 0, none⟩ : Addr).add j = ⟨g, j, none⟩ := by unfold Addr.add; split <;> simp_all
  rw [ha, cell_of_row _ _ _ _ _ _ hg]
  have : (cur.toList.take (l.length * 1))[j]? = (byteC l)[j]? := by rw [htk]
  rw [List.getElem?_take_of_lt (by omega)] at this
  simp [byteC, List.getElem?_eq_getElem hj] at this
  simpa using this
theorem ret_si {s t : ByteArray} {k : IntKind} {a b : Int} (h : s = t) (h' : a = b) : Ending.returned (.tuple #[.string s, .int k a]) = .returned (.tuple #[.string t, .int k b]) := by rw [h, h']
theorem checkE_two (f : Nat) (u : RUnit) : checkE f u = 0 ∨ checkE f u = 6 := by
 unfold checkE; split
 ·split
  ·exact .inr rfl
  ·exact .inl rfl
 ·exact .inr rfl
/-- What is asked of wire.Put at the literals. -/
def WireOk (enc : Tm → ByteArray) (f : Nat) (u : RUnit) : Prop := ∀ t ∈ u.lits, (enc t).size ≤ 10000000 ∧ ∀ (ai : Option Addr) (c : Nat) (w : World), SlAt w 9 (TmAt w f) ai t.items → t.Ok →
 Calls Tryz.prog 46 #[.agg #[.int .i64 t.kind, .int .i64 t.int, .int .i64 t.gen, .string t.name, .string t.func, .int .i64 t.arity, .slice ai t.items.length c, .string t.bytes, .int .i64 t.bits]] w fun e w' => e = .returned (.tuple #[.string (enc t), .int .i64 0]) ∧ Below w.heap.size w w'
set_option maxRecDepth 100000 in
set_option maxHeartbeats 40000000 in
theorem put_no (f : Nat) (u : RUnit) (lo fo go co : Option Addr) (lc fc gc cc : Nat) (w : World) (hrows : RowsAt w) (hsp : SpaceAt w) (hp : UP w u lo fo go co) (hlits : SlAt w 9 (TmAt w (f + 1)) lo u.lits) (hcap : ∀ t ∈ u.lits, (capF (f + 1) t : Int) ≤ 1152921504606846976) (hnm : ∀ x ∈ u.code, x.name.size ≤ 140737488355328) (hno : checkE (f + 1) u = 6) :
  Calls Tryz.prog 15 #[.agg #[.string u.mdl, .int .i64 u.vsn, .slice lo u.lits.length lc, .slice fo u.funcs.length fc, .slice go u.funs.length gc, .slice co u.code.length cc]] w fun e w' => e = .returned (.tuple #[.string ⟨#[]⟩, .int .i64 6]) ∧ Below w.heap.size w w' := by
 have hba : Below w.heap.size w (w.alloc (.cells #[.string u.mdl, .int .i64 u.vsn, .slice lo u.lits.length lc, .slice fo u.funcs.length fc, .slice go u.funs.length gc, .slice co u.code.length cc] 27)) := (Below.refl _ _).alloc (Nat.le_refl _) _
 have hck := check_any f u lo fo go co lc fc gc cc _ (hrows.below hba) (hsp.below hba) (hp.below hba) (hlits.tms hba) hcap hnm
 rw [hno] at hck
 have HCK := Lib.hid hck; have HBA := Lib.hid hba
 generalize checkI (f + 1) u = ci at *
 clear hck hba hrows hsp hp hlits hcap hnm hno
 go_enter Tryz.func15, Tryz.ntmps15
 go_wp2_with fail
 refine HCK.out.mono ?_
 rintro e w5 ⟨rfl, hb5⟩
 go_wp2_with fail
 go_ret2
 exact ⟨rfl, HBA.out.trans (hb5.mono HBA.out.size)⟩

set_option maxRecDepth 100000 in
set_option maxHeartbeats 40000000 in
theorem put_yes (enc : Tm → ByteArray) (f : Nat) (u : RUnit) (lo fo go co : Option Addr) (lc fc gc cc : Nat) (w : World) (hrows : RowsAt w) (hsp : SpaceAt w) (hp : UP w u lo fo go co) (hlits : SlAt w 9 (TmAt w (f + 1)) lo u.lits) (hcap : ∀ t ∈ u.lits, (capF (f + 1) t : Int) ≤ 1152921504606846976) (hnm : ∀ x ∈ u.code, x.name.size ≤ 140737488355328) (hwire : WireOk enc f u) (hyes : checkE (f + 1) u = 0) :
  Calls Tryz.prog 15 #[.agg #[.string u.mdl, .int .i64 u.vsn, .slice lo u.lits.length lc, .slice fo u.funcs.length fc, .slice go u.funs.length gc, .slice co u.code.length cc]] w fun e w' => e = .returned (.tuple #[.string ⟨(unitW enc u).toArray⟩, .int .i64 0]) ∧ Below w.heap.size w w' := by
 have hba : Below w.heap.size w (w.alloc (.cells #[.string u.mdl, .int .i64 u.vsn, .slice lo u.lits.length lc, .slice fo u.funcs.length fc, .slice go u.funs.length gc, .slice co u.code.length cc] 27)) := (Below.refl _ _).alloc (Nat.le_refl _) _
 have hbx := ubox_new w u lo fo go co lc fc gc cc
 have hck := check_any f u lo fo go co lc fc gc cc _ (hrows.below hba) (hsp.below hba) (hp.below hba) (hlits.tms hba) hcap hnm
 obtain ⟨htab, _, hins⟩ := check_ok hyes
 rw [hyes] at hck
 have HCK := Lib.hid hck; have HBA := Lib.hid hba; have HBX := Lib.hid hbx; have HRW := Lib.hid (hrows.below hba); have HUP := Lib.hid (hp.below hba); have HLT := Lib.hid (hlits.tms hba)
 have HTB := Lib.hid htab; have HIN := Lib.hid hins; have HWI := Lib.hid hwire
 have HE : Hid (unitW enc u = [] ++ (textW u.mdl ++ (vint u.vsn.toNat ++ (vint u.lits.length ++ (u.lits.flatMap (fun t => textW (enc t)) ++ (vint u.funcs.length ++ (u.funcs.flatMap funcW ++ (vint u.funs.length ++ (u.funs.flatMap funW ++ (vint u.code.length ++ (u.code.flatMap insW ++ []))))))))))) := Lib.hid rfl
 have HNE := Lib.hid (unitW_ne enc u)
 generalize unitW enc u = W at *
 generalize checkI (f + 1) u = ci at *
 clear hck hba hbx hrows hsp hp hlits hcap hnm hyes htab hins hwire
 go_enter Tryz.func15, Tryz.ntmps15
 go_wp2_with fail
 generalize w.alloc (.cells #[.string u.mdl, .int .i64 u.vsn, .slice lo u.lits.length lc, .slice fo u.funcs.length fc, .slice go u.funs.length gc, .slice co u.code.length cc] 27) = Wa at *
 generalize hB0 : w.heap.size = B0 at *
 have HBE := Lib.hid hB0
 clear hB0
 refine HCK.out.mono ?_
 rintro e w5 ⟨rfl, hb5⟩
 have HB5 := Lib.hid hb5
 have hux5 := HBX.out.below hb5
 clear hb5
 go_upto_region 5 with fail
 have hst0 := heap_alloc_new w5 (.cells #[.slice none 0 0] 74)
 have hb6 : Below w5.heap.size w5 (w5.alloc (.cells #[.slice none 0 0] 74)) := (Below.refl _ _).alloc (Nat.le_refl _) _
 have HW0 : Hid (WrAt w5.heap.size w5.heap.size [] (w5.alloc (.cells #[.slice none 0 0] 74))) := Lib.hid ⟨Nat.le_refl _, hb6.size, _, hst0, ⟨rfl, .inl ⟨rfl, rfl⟩⟩, by intro h; cases h⟩
 have HB6 := Lib.hid hb6
 have HUX := Lib.hid hux5
 clear hst0 hb6 hux5
 generalize w5.alloc (.cells #[.slice none 0 0] 74) = W6 at *
 have HUP5 := Lib.hid (HUP.out.below HB5.out); have HLT5 := Lib.hid (HLT.out.tms HB5.out)
 have hux := HUX.out.below HB6.out
 have d0 := hux.c0
 have hlt0 := HUX.out.lt
 have hlt6 := hux.lt
 clear hux
 have hml := textW_len u.mdl
 have hms := HTB.out.mdl
 have hv1 := vint_len u.vsn.toNat
 have hv2 := vint_len u.lits.length
 have hl1 := HTB.out.lits
 go_wp2_with fail
 refine (wtext_any w5.heap.size w5.heap.size [] u.mdl _ HW0.out (by omega) (by decide)).mono ?_
 rintro e w7 ⟨rfl, h7, hb7, hs7⟩
 rw [List.nil_append] at h7
 have HW7 := Lib.hid h7; have HB7 := Lib.hid (HB6.out.trans hb7)
 clear h7 hb7 hs7 d0
 have d1 := (HUX.out.below HB7.out).c1
 go_wp2_with fail
 refine (wnum_any w5.heap.size w5.heap.size (textW u.mdl) u.vsn _ HW7.out (by have := HTB.out.vsn0; omega) (by have := HTB.out.vsn1; omega) (by omega)).mono ?_
 rintro e w8 ⟨rfl, h8, hb8, hs8⟩
 have HW8 := Lib.hid h8; have HB8 := Lib.hid (HB7.out.trans hb8)
 clear h8 hb8 hs8 d1
 have d2 := (HUX.out.below HB8.out).c2
 go_wp2_with fail
 refine (wnum_any w5.heap.size w5.heap.size (textW u.mdl ++ vint u.vsn.toNat) (u.lits.length : Int) _ HW8.out (by omega) (by omega) (by rw [List.length_append]; omega)).mono ?_
 rintro e w9 ⟨rfl, h9, hb9, hs9⟩
 rw [Int.toNat_natCast] at h9
 have hpl : ((textW u.mdl ++ vint u.vsn.toNat) ++ vint u.lits.length).length ≤ 100 := by rw [List.length_append, List.length_append]; omega
 have HP : Hid (W = ((textW u.mdl ++ vint u.vsn.toNat) ++ vint u.lits.length) ++ (u.lits.flatMap (fun t => textW (enc t)) ++ (vint u.funcs.length ++ (u.funcs.flatMap funcW ++ (vint u.funs.length ++ (u.funs.flatMap funW ++ (vint u.code.length ++ (u.code.flatMap insW ++ [])))))))) := Lib.hid (by rw [HE.out]; simp only [List.append_assoc, List.nil_append])
 have HWp := Lib.hid h9; have HBp := Lib.hid (HB8.out.trans hb9)
 clear h9 hb9 hs9 d2 HW0 HB6 HW7 HB7 HW8 HB8 HE hlt6 hml hms
 have d2 := (HUX.out.below HBp.out).c2
 generalize (textW u.mdl ++ vint u.vsn.toNat) ++ vint u.lits.length = p at *
 have hlen := HTB.out.lits
 have HQ : Hid (W = p ++ ((u.lits.drop 0).flatMap (fun t => textW (enc t)) ++ (vint u.funcs.length ++ (u.funcs.flatMap funcW ++ (vint u.funs.length ++ (u.funs.flatMap funW ++ (vint u.code.length ++ (u.code.flatMap insW ++ [])))))))) := Lib.hid (by rw [HP.out, List.drop_zero])
 clear HP
 go_wp2_with fail
 go_loopw [42] (fun iv wr => ∃ (k : Nat) (p' : List UInt8), k ≤ u.lits.length ∧ iv = .int .i64 k ∧ Hid (W = p' ++ ((u.lits.drop k).flatMap (fun t => textW (enc t)) ++ (vint u.funcs.length ++ (u.funcs.flatMap funcW ++ (vint u.funs.length ++ (u.funs.flatMap funW ++ (vint u.code.length ++ (u.code.flatMap insW ++ [])))))))) ∧ p'.length ≤ p.length + 10000010 * k ∧ Hid (WrAt w5.heap.size w5.heap.size p' wr) ∧ Hid (Below w5.heap.size w5 wr)) (fun iv _ => u.lits.length - (intOf iv).toNat)
 case atStart => exact ⟨0, p, Nat.zero_le _, rfl, HQ, by omega, HWp, HBp⟩
 case round =>
  obtain ⟨k, p', hk, rfl, HK, hpk, HWk, HBk⟩ := hrel
  rename World => wr
  clear HWp HBp
  by_cases hlt : k < u.lits.length
  ·obtain ⟨b2, off, ai, ci2, hao, hb2, q0, q1, q2, q3, q4, q5, q6, q7, q8, hit, hok⟩ := (HLT5.out.tms HBk.out).tm hlt
   subst hao
   have HST := Lib.hid (flat_drop (fun t => textW (enc t)) u.lits hlt)
   have hwt := HWI.out _ (List.getElem_mem hlt)
   generalize u.lits[k] = t at *
   have hsz := hwt.1
   have HPT := Lib.hid hwt.2; have HIT := Lib.hid hit; have HOK := Lib.hid hok
   clear hwt hit hok
   have hba := (Below.refl wr.heap.size wr).alloc (Nat.le_refl _) (.cells #[.int .i64 t.kind, .int .i64 t.int, .int .i64 t.gen, .string t.name, .string t.func, .int .i64 t.arity, .slice ai t.items.length ci2, .string t.bytes, .int .i64 t.bits] 78)
   have HBA := Lib.hid hba
   clear hba
   go_wp2_with fail
   refine (HPT.out ai ci2 _ (HIT.out.tms HBA.out) HOK.out).mono ?_
   rintro e w10 ⟨rfl, hb10⟩
   have HB10 := Lib.hid (below_next HBA.out hb10)
   clear hb10
   have hal := textW_len (enc t)
   go_wp2_with fail
   refine (wtext_any w5.heap.size w5.heap.size p' (enc t) _ (HWk.out.next HB10.out) (by omega) (by omega)).mono ?_
   rintro e w11 ⟨rfl, h11, hb11, hs11⟩
   go_wp2_with fail
   go_roundw
   case rel => exact ⟨k + 1, p' ++ textW (enc t), by omega, by go_num, Lib.hid (by rw [HK.out, HST.out]; simp only [List.append_assoc]), by rw [List.length_append]; omega, Lib.hid h11, Lib.hid ((HBk.out.trans (HB10.out.mono HBk.out.size)).trans hb11)⟩
   case measure => simp [intOf]; omega
  ·have HZ : Hid (W = p' ++ (vint u.funcs.length ++ (u.funcs.flatMap funcW ++ (vint u.funs.length ++ (u.funs.flatMap funW ++ (vint u.code.length ++ (u.code.flatMap insW ++ []))))))) := Lib.hid (by rw [HK.out, List.drop_eq_nil_of_le (by omega)]; rfl)
   have hnl := vint_len u.funcs.length
   have hz := HTB.out.lits
   have hzl := HTB.out.funcs
   have hp2 : p'.length ≤ 655350655450 := by omega
   have e3 := (HUX.out.below HBk.out).c3
   go_wp2_with fail
   refine (wnum_any w5.heap.size w5.heap.size p' (u.funcs.length : Int) _ HWk.out (by omega) (by omega) (by omega)).mono ?_
   rintro e wn ⟨rfl, hn, hbn, hsn⟩
   rw [Int.toNat_natCast] at hn
   have HP : Hid (W = (p' ++ vint u.funcs.length) ++ (u.funcs.flatMap funcW ++ (vint u.funs.length ++ (u.funs.flatMap funW ++ (vint u.code.length ++ (u.code.flatMap insW ++ [])))))) := Lib.hid (by rw [HZ.out]; simp only [List.append_assoc])
   have hpl1 : (p' ++ vint u.funcs.length).length ≤ 655350655460 := by rw [List.length_append]; omega
   have HWp := Lib.hid hn; have HBp := Lib.hid (HBk.out.trans hbn)
   have e4 := (HUX.out.below HBp.out).c3
   clear hn hbn hsn e3 HZ HK hpk hpl hp2 hnl hz hzl HWk HBk
   clear HQ hlen hk hlt
   generalize hpq : p' ++ vint u.funcs.length = p1 at *
   clear hpq
   have hlen := HTB.out.funcs
   have HQ : Hid (W = p1 ++ ((u.funcs.drop 0).flatMap funcW ++ (vint u.funs.length ++ (u.funs.flatMap funW ++ (vint u.code.length ++ (u.code.flatMap insW ++ [])))))) := Lib.hid (by rw [HP.out, List.drop_zero])
   clear HP
   go_wp2_with fail
   go_loopw [65] (fun iv wr => ∃ (k : Nat) (pp1 : List UInt8), k ≤ u.funcs.length ∧ iv = .int .i64 k ∧ Hid (W = pp1 ++ ((u.funcs.drop k).flatMap funcW ++ (vint u.funs.length ++ (u.funs.flatMap funW ++ (vint u.code.length ++ (u.code.flatMap insW ++ [])))))) ∧ pp1.length ≤ p1.length + 72 * k ∧ Hid (WrAt w5.heap.size w5.heap.size pp1 wr) ∧ Hid (Below w5.heap.size w5 wr)) (fun iv _ => u.funcs.length - (intOf iv).toNat)
   case atStart => exact ⟨0, p1, Nat.zero_le _, rfl, HQ, by omega, HWp, HBp⟩
   case round =>
    obtain ⟨k, pp1, hk, rfl, HK, hpk, HWk, HBk⟩ := hrel
    rename World => wr1
    clear HWp HBp
    by_cases hlt : k < u.funcs.length
    ·obtain ⟨b2, off, hao, hb2, q0, q1, q2, q3, r0, r1, r2⟩ := ((HUP5.out.below HBk.out).funcs).func hlt
     subst hao
     have HST := Lib.hid (flat_drop funcW u.funcs hlt)
     have HAW := Lib.hid (HTB.out.func _ (List.getElem_mem hlt))
     clear r0 r1 r2
     generalize u.funcs[k] = a at *
     have hba := (Below.refl wr1.heap.size wr1).alloc (Nat.le_refl _) (.cells #[.string a.name, .int .i64 a.arity, .bool a.pub, .int .i64 a.entry] 81)
     have hLc := heap_alloc_new wr1 (.cells #[.string a.name, .int .i64 a.arity, .bool a.pub, .int .i64 a.entry] 81)
     have HBA := Lib.hid hba; have HL1 := Lib.hid hLc
     clear hba hLc
     have H1 := Lib.hid (HWk.out.next HBA.out)
     have hal1 := textW_len a.name; have hal2 := vint_len a.arity.toNat; have hal3 := boolW_len a.pub; have hal4 := vint_len a.entry.toNat
     have hns := HAW.out.1
     go_wp2_with fail
     refine (wtext_any w5.heap.size w5.heap.size pp1 a.name _ H1.out (by omega) (by omega)).mono ?_
     rintro e x2 ⟨rfl, h2, hbb2, hs2⟩
     have H2 := Lib.hid h2; have HB2 := Lib.hid hbb2
     have HL2 := Lib.hid (hs2 _ _ _ _ HL1.out (by decide) (by decide))
     clear h2 hbb2 hs2
     have g1 : x2.cell? ⟨wr1.heap.size, 1, none⟩ = some (.int .i64 a.arity) := by rw [cell_of_row _ _ _ _ _ _ HL2.out]; rfl
     go_wp2_with fail
     refine (wnum_any w5.heap.size w5.heap.size (pp1 ++ textW a.name) a.arity _ H2.out HAW.out.2.1 (Int.le_trans HAW.out.2.2.1 (by decide)) (by (try simp only [List.length_append]); omega)).mono ?_
     rintro e x3 ⟨rfl, h3, hb3, hs3⟩
     have H3 := Lib.hid h3; have HB3 := Lib.hid hb3; have HS3 := Lib.hid hs3
     have HL3 := Lib.hid (hs3 _ _ _ _ HL2.out (by decide) (by decide))
     clear h3 hb3 hs3
     clear g1
     have g2 : x3.cell? ⟨wr1.heap.size, 2, none⟩ = some (.bool a.pub) := by rw [cell_of_row _ _ _ _ _ _ HL3.out]; rfl
     go_wp2_with fail
     refine (wbool_any w5.heap.size w5.heap.size ((pp1 ++ textW a.name) ++ vint a.arity.toNat) a.pub _ H3.out (by (try simp only [List.length_append]); omega)).mono ?_
     rintro e x4 ⟨rfl, h4, hb4, hs4⟩
     have H4 := Lib.hid h4; have HB4 := Lib.hid hb4; have HS4 := Lib.hid hs4
     have HL4 := Lib.hid (hs4 _ _ _ _ HL3.out (by decide) (by decide))
     clear h4 hb4 hs4
     clear g2
     have g3 : x4.cell? ⟨wr1.heap.size, 3, none⟩ = some (.int .i64 a.entry) := by rw [cell_of_row _ _ _ _ _ _ HL4.out]; rfl
     go_wp2_with fail
     refine (wnum_any w5.heap.size w5.heap.size (((pp1 ++ textW a.name) ++ vint a.arity.toNat) ++ boolW a.pub) a.entry _ H4.out HAW.out.2.2.2.1 (Int.le_trans HAW.out.2.2.2.2 (by decide)) (by (try simp only [List.length_append]); omega)).mono ?_
     rintro e x5 ⟨rfl, h5, hb5, hs5⟩
     go_wp2_with fail
     go_roundw
     case rel => exact ⟨k + 1, (((pp1 ++ textW a.name) ++ vint a.arity.toNat) ++ boolW a.pub) ++ vint a.entry.toNat, by omega, by go_num, Lib.hid (by rw [HK.out, HST.out]; unfold funcW; simp only [List.append_assoc]), by simp only [List.length_append]; omega, Lib.hid h5, Lib.hid (((((HBk.out.trans (HBA.out.mono HBk.out.size)).trans HB2.out).trans HB3.out).trans HB4.out).trans hb5)⟩
     case measure => simp [intOf]; omega
    ·have HZ : Hid (W = pp1 ++ (vint u.funs.length ++ (u.funs.flatMap funW ++ (vint u.code.length ++ (u.code.flatMap insW ++ []))))) := Lib.hid (by rw [HK.out, List.drop_eq_nil_of_le (by omega)]; rfl)
     have hnl := vint_len u.funs.length
     have hz := HTB.out.funcs
     have hzl := HTB.out.funs
     have hp2 : pp1.length ≤ 655350669860 := by omega
     have e3 := (HUX.out.below HBk.out).c4
     go_wp2_with fail
     refine (wnum_any w5.heap.size w5.heap.size pp1 (u.funs.length : Int) _ HWk.out (by omega) (by omega) (by omega)).mono ?_
     rintro e wn ⟨rfl, hn, hbn, hsn⟩
     rw [Int.toNat_natCast] at hn
     have HP : Hid (W = (pp1 ++ vint u.funs.length) ++ (u.funs.flatMap funW ++ (vint u.code.length ++ (u.code.flatMap insW ++ [])))) := Lib.hid (by rw [HZ.out]; simp only [List.append_assoc])
     have hpl2 : (pp1 ++ vint u.funs.length).length ≤ 655350700000 := by rw [List.length_append]; omega
     have HWp := Lib.hid hn; have HBp := Lib.hid (HBk.out.trans hbn)
     have e4 := (HUX.out.below HBp.out).c4
     clear hn hbn hsn e3 HZ HK hpk hpl1 hp2 hnl hz hzl HWk HBk
     clear HQ hlen hk hlt
     generalize hpq : pp1 ++ vint u.funs.length = p2 at *
     clear hpq
     have hlen := HTB.out.funs
     have HQ : Hid (W = p2 ++ ((u.funs.drop 0).flatMap funW ++ (vint u.code.length ++ (u.code.flatMap insW ++ [])))) := Lib.hid (by rw [HP.out, List.drop_zero])
     clear HP
     go_wp2_with fail
     go_loopw [94] (fun iv wr => ∃ (k : Nat) (pp2 : List UInt8), k ≤ u.funs.length ∧ iv = .int .i64 k ∧ Hid (W = pp2 ++ ((u.funs.drop k).flatMap funW ++ (vint u.code.length ++ (u.code.flatMap insW ++ [])))) ∧ pp2.length ≤ p2.length + 30 * k ∧ Hid (WrAt w5.heap.size w5.heap.size pp2 wr) ∧ Hid (Below w5.heap.size w5 wr)) (fun iv _ => u.funs.length - (intOf iv).toNat)
     case atStart => exact ⟨0, p2, Nat.zero_le _, rfl, HQ, by omega, HWp, HBp⟩
     case round =>
      obtain ⟨k, pp2, hk, rfl, HK, hpk, HWk, HBk⟩ := hrel
      rename World => wr2
      clear HWp HBp
      by_cases hlt : k < u.funs.length
      ·obtain ⟨b2, off, hao, hb2, q0, q1, q2, r0, r1, r2⟩ := ((HUP5.out.below HBk.out).funs).fn hlt
       subst hao
       have HST := Lib.hid (flat_drop funW u.funs hlt)
       have HAW := Lib.hid (HTB.out.fn _ (List.getElem_mem hlt))
       clear r0 r1 r2
       generalize u.funs[k] = a at *
       have hba := (Below.refl wr2.heap.size wr2).alloc (Nat.le_refl _) (.cells #[.int .i64 a.arity, .int .i64 a.free, .int .i64 a.entry] 84)
       have hLc := heap_alloc_new wr2 (.cells #[.int .i64 a.arity, .int .i64 a.free, .int .i64 a.entry] 84)
       have HBA := Lib.hid hba; have HL1 := Lib.hid hLc
       clear hba hLc
       have H1 := Lib.hid (HWk.out.next HBA.out)
       have hal1 := vint_len a.arity.toNat; have hal2 := vint_len a.free.toNat; have hal3 := vint_len a.entry.toNat
       go_wp2_with fail
       refine (wnum_any w5.heap.size w5.heap.size (pp2) a.arity _ H1.out HAW.out.1 (Int.le_trans HAW.out.2.1 (by decide)) (by (try simp only [List.length_append]); omega)).mono ?_
       rintro e x2 ⟨rfl, h2, hb2, hs2⟩
       have H2 := Lib.hid h2; have HB2 := Lib.hid hb2; have HS2 := Lib.hid hs2
       have HL2 := Lib.hid (hs2 _ _ _ _ HL1.out (by decide) (by decide))
       clear h2 hb2 hs2
       have g1 : x2.cell? ⟨wr2.heap.size, 1, none⟩ = some (.int .i64 a.free) := by rw [cell_of_row _ _ _ _ _ _ HL2.out]; rfl
       go_wp2_with fail
       refine (wnum_any w5.heap.size w5.heap.size (pp2 ++ vint a.arity.toNat) a.free _ H2.out HAW.out.2.2.1 (Int.le_trans HAW.out.2.2.2.1 (by decide)) (by (try simp only [List.length_append]); omega)).mono ?_
       rintro e x3 ⟨rfl, h3, hb3, hs3⟩
       have H3 := Lib.hid h3; have HB3 := Lib.hid hb3; have HS3 := Lib.hid hs3
       have HL3 := Lib.hid (hs3 _ _ _ _ HL2.out (by decide) (by decide))
       clear h3 hb3 hs3
       clear g1
       have g2 : x3.cell? ⟨wr2.heap.size, 2, none⟩ = some (.int .i64 a.entry) := by rw [cell_of_row _ _ _ _ _ _ HL3.out]; rfl
       go_wp2_with fail
       refine (wnum_any w5.heap.size w5.heap.size ((pp2 ++ vint a.arity.toNat) ++ vint a.free.toNat) a.entry _ H3.out HAW.out.2.2.2.2.1 (Int.le_trans HAW.out.2.2.2.2.2 (by decide)) (by (try simp only [List.length_append]); omega)).mono ?_
       rintro e x4 ⟨rfl, h4, hb4, hs4⟩
       go_wp2_with fail
       go_roundw
       case rel => exact ⟨k + 1, ((pp2 ++ vint a.arity.toNat) ++ vint a.free.toNat) ++ vint a.entry.toNat, by omega, by go_num, Lib.hid (by rw [HK.out, HST.out]; unfold funW; simp only [List.append_assoc]), by simp only [List.length_append]; omega, Lib.hid h4, Lib.hid ((((HBk.out.trans (HBA.out.mono HBk.out.size)).trans HB2.out).trans HB3.out).trans hb4)⟩
       case measure => simp [intOf]; omega
      ·have HZ : Hid (W = pp2 ++ (vint u.code.length ++ (u.code.flatMap insW ++ []))) := Lib.hid (by rw [HK.out, List.drop_eq_nil_of_le (by omega)]; rfl)
       have hnl := vint_len u.code.length
       have hz := HTB.out.funs
       have hzl := HTB.out.code1
       have hp2 : pp2.length ≤ 655350730000 := by omega
       have e3 := (HUX.out.below HBk.out).c5
       go_wp2_with fail
       refine (wnum_any w5.heap.size w5.heap.size pp2 (u.code.length : Int) _ HWk.out (by omega) (by omega) (by omega)).mono ?_
       rintro e wn ⟨rfl, hn, hbn, hsn⟩
       rw [Int.toNat_natCast] at hn
       have HP : Hid (W = (pp2 ++ vint u.code.length) ++ (u.code.flatMap insW ++ [])) := Lib.hid (by rw [HZ.out]; simp only [List.append_assoc])
       have hpl3 : (pp2 ++ vint u.code.length).length ≤ 655350800000 := by rw [List.length_append]; omega
       have HWp := Lib.hid hn; have HBp := Lib.hid (HBk.out.trans hbn)
       have e4 := (HUX.out.below HBp.out).c5
       clear hn hbn hsn e3 HZ HK hpk hpl2 hp2 hnl hz hzl HWk HBk
       clear HQ hlen hk hlt
       generalize hpq : pp2 ++ vint u.code.length = p3 at *
       clear hpq
       have hlen := HTB.out.code1
       have HQ : Hid (W = p3 ++ ((u.code.drop 0).flatMap insW ++ [])) := Lib.hid (by rw [HP.out, List.drop_zero])
       clear HP
       go_wp2_with fail
       go_loopw [119] (fun iv wr => ∃ (k : Nat) (pp3 : List UInt8), k ≤ u.code.length ∧ iv = .int .i64 k ∧ Hid (W = pp3 ++ ((u.code.drop k).flatMap insW ++ [])) ∧ pp3.length ≤ p3.length + 100000 * k ∧ Hid (WrAt w5.heap.size w5.heap.size pp3 wr) ∧ Hid (Below w5.heap.size w5 wr)) (fun iv _ => u.code.length - (intOf iv).toNat)
       case atStart => exact ⟨0, p3, Nat.zero_le _, rfl, HQ, by omega, HWp, HBp⟩
       case round =>
        obtain ⟨k, pp3, hk, rfl, HK, hpk, HWk, HBk⟩ := hrel
        rename World => wr3
        clear HWp HBp
        by_cases hlt : k < u.code.length
        ·have d5 := (HUX.out.below HBk.out).c5
         obtain ⟨bc, oc, so, co', go', sc, cc', gc', hco, hxb⟩ := ibox_of HUP5.out.code hlt
         subst hco
         have HST := Lib.hid (flat_drop insW u.code hlt)
         have hib := HIN.out k hlt
         have HOP : Hid (1 ≤ u.code[k].op ∧ u.code[k].op ≤ 40) := Lib.hid (by unfold insB at hib; rw [Bool.and_eq_true] at hib; exact of_decide_eq_true hib.1)
         have HWI2 := Lib.hid (ins_ok HTB.out hib)
         have HXB := Lib.hid hxb
         have hcl := HUP5.out.codeLen
         have hbl := HXB.out.lt
         clear hib hxb
         have hal := instrW_len HWI2.out
         have HRW5 := Lib.hid (HRW.out.below HB5.out)
         go_wp2_with fail
         refine (winstr_any w5 w5.heap.size pp3 bc (oc + k * 10) u.code[k] so co' go' sc cc' gc' wr3 HRW5.out HWk.out HBk.out HXB.out HOP.out HWI2.out (by omega)).mono ?_
         rintro e w11 ⟨rfl, h11, hb11, hs11⟩
         go_wp2_with fail
         go_roundw
         case rel => exact ⟨k + 1, pp3 ++ insW u.code[k], by omega, by go_num, Lib.hid (by rw [HK.out, HST.out]; simp only [List.append_assoc]), by rw [List.length_append]; unfold insW; omega, Lib.hid h11, Lib.hid (HBk.out.trans hb11)⟩
         case measure => simp [intOf]; omega
        ·have HZ : Hid (W = pp3) := Lib.hid (by rw [HK.out, List.drop_eq_nil_of_le (by omega)]; exact List.append_nil _)
         obtain ⟨hBr, hBw, bv, hbk, hown, hne⟩ := HWk.out
         have z0 : wr3.cell? ⟨w5.heap.size, 0, none⟩ = some bv := by rw [cell_of_row _ _ _ _ _ _ hbk]; rfl
         have hcv := conv_wr hown (by rw [← HZ.out]; exact HNE.out)
         have hrl := lt_of_row hbk
         have HF : Hid (Below B0 w wr3) := Lib.hid (HBA.out.trans ((HB5.out.trans (HBk.out.mono HB5.out.size)).mono (by have := HBA.out.size; have := HBE.out; omega)))
         obtain ⟨ao', capp3, rfl⟩ := slice_of_owns hown
         clear hown hbk hne
         rw [← HZ.out] at hcv z0
         go_wp2_with fail
         go_ret2
         exact ⟨rfl, by rw [HBE.out]; exact HF.out⟩
end Go.Proofs.YtghgbikmlbildaaGreatDoor
namespace Go.Proofs.YtghgbikmlbildaaGreatDoor
open Go.RowKit
set_option linter.unusedVariables false
set_option linter.unusedSimpArgs false

def smallU : RUnit := ⟨⟨#[109]⟩, 1, [], [⟨⟨#[102]⟩, 1, true, 0⟩], [], [⟨1, ⟨1, 1⟩, [⟨1, 0⟩], 0, 0, 0, ⟨#[]⟩, [], []⟩, ⟨26, ⟨0, 0⟩, [], 0, 0, 0, ⟨#[]⟩, [], []⟩]⟩
def SmallQ (w : World) (e : Ending) (w' : World) : Prop := ∃ fo co, e = .returned (.agg #[.string smallU.mdl, .int .i64 smallU.vsn, .slice none smallU.lits.length 0, .slice fo smallU.funcs.length 1, .slice none smallU.funs.length 0, .slice co smallU.code.length 2]) ∧ UP w' smallU none fo none co ∧ Below w.heap.size w w'
theorem small_up {w : World} {b1 b2 b3 c2 : Nat} {t1 t2 t3 : TypeId} (h1 : w.heap[b1]? = some (.cells #[.string ⟨#[102]⟩, .int .i64 1, .bool true, .int .i64 0] t1 (0, 0)))
  (h2 : w.heap[b2]? = some (.cells #[.int .i64 1, .int .i64 0] t2 (0, 0)))
  (h3 : w.heap[b3]? = some (.cells #[.int .i64 1, .int .i64 1, .int .i64 1, .slice (some ⟨b2, 0, none⟩) 1 c2, .int .i64 0, .int .i64 0, .int .i64 0, .string ⟨#[]⟩, .slice none 0 0, .slice none 0 0,
   .int .i64 26, .int .i64 0, .int .i64 0, .slice none 0 0, .int .i64 0, .int .i64 0, .int .i64 0, .string ⟨#[]⟩, .slice none 0 0, .slice none 0 0] t3 (0, 0))) :
  UP w smallU none (some ⟨b1, 0, none⟩) none (some ⟨b3, 0, none⟩) := by
 have i : ∀ n : Int, decide (-10 ≤ n ∧ n ≤ 100) = true → I64 n := fun n a => by have := of_decide_eq_true a; unfold I64; omega
 have m : ∀ n : Nat, decide (n ≤ 100) = true → n ≤ maxLen := fun n a => by have := of_decide_eq_true a; unfold maxLen; omega
 refine ⟨.inl rfl, .inr ⟨b1, 0, rfl, lt_of_row h1, fun j hj => ?_⟩, .inl rfl, .inr ⟨b3, 0, rfl, lt_of_row h3, fun j hj => ?_⟩, by decide, i _ rfl, by decide, by decide, by decide, by decide⟩
 ·obtain rfl : j = 0 := by simp [smallU] at hj; exact hj
  refine ⟨[.string ⟨#[102]⟩, .int .i64 1, .bool true, .int .i64 0], rfl, fun k hk => ?_, rfl, m _ rfl, i _ rfl, i _ rfl⟩
  rw [cell_of_row _ _ _ _ _ _ h1, show 0 + 0 * 4 + k = k by omega]
  simp
 ·have hj2 : j < 2 := hj
  rcases (show j = 0 ∨ j = 1 by omega) with rfl | rfl
  ·refine ⟨[.int .i64 1, .int .i64 1, .int .i64 1, .slice (some ⟨b2, 0, none⟩) 1 c2, .int .i64 0, .int .i64 0, .int .i64 0, .string ⟨#[]⟩, .slice none 0 0, .slice none 0 0], rfl, fun k hk => ?_,
    ⟨some ⟨b2, 0, none⟩, c2, none, 0, none, 0, rfl, .inr ⟨b2, 0, rfl, lt_of_row h2, fun j hj => ?_⟩, .inl rfl, .inl rfl⟩, i _ rfl, i _ rfl, i _ rfl, m _ rfl, i _ rfl, i _ rfl, i _ rfl, m _ rfl, m _ rfl, m _ rfl⟩
   ·rw [cell_of_row _ _ _ _ _ _ h3, show 0 + 0 * 10 + k = k by omega]
    rcases (show k = 0 ∨ k = 1 ∨ k = 2 ∨ k = 3 ∨ k = 4 ∨ k = 5 ∨ k = 6 ∨ k = 7 ∨ k = 8 ∨ k = 9 by omega) with rfl | rfl | rfl | rfl | rfl | rfl | rfl | rfl | rfl | rfl <;> rfl
   ·obtain rfl : j = 0 := by simp [smallU] at hj; exact hj
    refine ⟨[.int .i64 1, .int .i64 0], rfl, fun k hk => ?_, rfl, i _ rfl, i _ rfl⟩
    rw [cell_of_row _ _ _ _ _ _ h2, show 0 + 0 * 2 + k = k by omega]
    simp
  ·refine ⟨[.int .i64 26, .int .i64 0, .int .i64 0, .slice none 0 0, .int .i64 0, .int .i64 0, .int .i64 0, .string ⟨#[]⟩, .slice none 0 0, .slice none 0 0], rfl, fun k hk => ?_,
    ⟨none, 0, none, 0, none, 0, rfl, .inl rfl, .inl rfl, .inl rfl⟩, i _ rfl, i _ rfl, i _ rfl, m _ rfl, i _ rfl, i _ rfl, i _ rfl, m _ rfl, m _ rfl, m _ rfl⟩
   rw [cell_of_row _ _ _ _ _ _ h3]
   rcases (show k = 0 ∨ k = 1 ∨ k = 2 ∨ k = 3 ∨ k = 4 ∨ k = 5 ∨ k = 6 ∨ k = 7 ∨ k = 8 ∨ k = 9 by omega) with rfl | rfl | rfl | rfl | rfl | rfl | rfl | rfl | rfl | rfl <;> rfl
theorem four_allocs (w : World) (o0 o1 o2 o3 : Obj) : ((((w.alloc o0).alloc o1).alloc o2).alloc o3).heap[w.heap.size]? = some o0 ∧ ((((w.alloc o0).alloc o1).alloc o2).alloc o3).heap[w.heap.size + 1]? = some o1 ∧
  ((((w.alloc o0).alloc o1).alloc o2).alloc o3).heap[w.heap.size + 1 + 1]? = some o2 ∧ ((((w.alloc o0).alloc o1).alloc o2).alloc o3).heap[w.heap.size + 1 + 1 + 1]? = some o3 ∧ Below w.heap.size w ((((w.alloc o0).alloc o1).alloc o2).alloc o3) := by
 have s : ∀ (x : World) (o : Obj), (x.alloc o).heap.size = x.heap.size + 1 := fun x o => by simp
 have n : ∀ (x : World) (o : Obj), (x.alloc o).heap[x.heap.size]? = some o := fun x o => heap_alloc_new x o
 have k : ∀ (x : World) (o : Obj) (j : Nat) (p : Obj), x.heap[j]? = some p → (x.alloc o).heap[j]? = some p := fun x o j p h => (Below.heap_alloc x o j (lt_of_row h)).trans h
 have e1 := n (w.alloc o0) o1; rw [s] at e1
 have e2 := n ((w.alloc o0).alloc o1) o2; rw [s, s] at e2
 have e3 := n (((w.alloc o0).alloc o1).alloc o2) o3; rw [s, s, s] at e3
 exact ⟨k _ _ _ _ (k _ _ _ _ (k _ _ _ _ (n w o0))), k _ _ _ _ (k _ _ _ _ e1), k _ _ _ _ e2, e3, ((((Below.refl _ _).alloc (Nat.le_refl _) _).alloc (by rw [s]; omega) _).alloc (by rw [s, s]; omega) _).alloc (by rw [s, s, s]; omega) _⟩
set_option maxRecDepth 100000 in
set_option maxHeartbeats 4000000 in
theorem small_any (w : World) : Calls Tryz.prog 20 #[] w (SmallQ w) := by
 go_enter Tryz.func20, Tryz.ntmps20
 go_wp2_with fail
 have h := four_allocs w
  (.cells #[.string ⟨#[109]⟩, .int .i64 1, .slice none 0 0, .slice (some ⟨w.heap.size + 1, 0, none⟩) 1 1, .slice none 0 0, .slice (some ⟨w.heap.size + 1 + 1 + 1, 0, none⟩) 2 2] 27)
  (.cells #[.string ⟨#[102]⟩, .int .i64 1, .bool true, .int .i64 0] 81) (.cells #[.int .i64 1, .int .i64 0] 45)
  (.cells #[.int .i64 1, .int .i64 1, .int .i64 1, .slice (some ⟨w.heap.size + 1 + 1, 0, none⟩) 1 1, .int .i64 0, .int .i64 0, .int .i64 0, .string ⟨#[]⟩, .slice none 0 0, .slice none 0 0,
   .int .i64 26, .int .i64 0, .int .i64 0, .slice none 0 0, .int .i64 0, .int .i64 0, .int .i64 0, .string ⟨#[]⟩, .slice none 0 0, .slice none 0 0] 50)
 obtain ⟨e0, e1, e2, e3, hb⟩ := h
 refine bodyPost_ret (results_cell_row rfl _ _ w.heap.size _ _ _ _ rfl e0 Tryz.underlying27 rfl (by kernel_rfl)) rfl ?_
 exact ⟨some ⟨w.heap.size + 1, 0, none⟩, some ⟨w.heap.size + 1 + 1 + 1, 0, none⟩, rfl, small_up e1 e2 e3, hb⟩

def noEnc : Tm → ByteArray := fun _ => ⟨#[]⟩
theorem small_check : checkE 1 smallU = 0 := by kernel_rfl
theorem small_code : unitW noEnc smallU = [1, 109, 1, 0, 1, 1, 102, 1, 1, 0, 0, 2, 1, 5, 1, 1, 26] := by kernel_rfl
set_option maxRecDepth 100000 in
set_option maxHeartbeats 4000000 in
theorem awake_any (w : World) (hrows : RowsAt w) (hsp : SpaceAt w) : Calls Tryz.prog 12 #[] w fun e w' => e = .returned (.bool true) ∧ Below w.heap.size w w' := by
 have HR := Lib.hid hrows; have HS := Lib.hid hsp
 clear hrows hsp
 have HC := Lib.hid small_code
 go_enter Tryz.func12, Tryz.ntmps12
 go_wp2_with fail
 refine (small_any w).mono ?_
 rintro e w1 ⟨fo, co, rfl, hup, hb1⟩
 have HB1 := Lib.hid hb1
 have hput := put_yes noEnc 0 smallU none fo none co 0 1 0 2 w1 (HR.out.below hb1) (HS.out.below hb1) hup (.inl rfl) (fun t ht => by cases ht) (fun x hx => by
  rcases List.mem_cons.1 hx with rfl | hx
  ·decide
  ·rcases List.mem_cons.1 hx with rfl | hx
   ·decide
   ·cases hx) (fun t ht => by cases ht) small_check
 rw [HC.out] at hput
 have HP := Lib.hid hput
 clear hput hup hb1
 generalize smallU = u at *
 go_wp2_with fail
 refine HP.out.mono ?_
 rintro e w2 ⟨rfl, hb2⟩
 go_wp2_with fail
 go_ret
 exact ⟨rfl, HB1.out.trans (hb2.mono HB1.out.size)⟩
end Go.Proofs.YtghgbikmlbildaaGreatDoor
namespace Go.Proofs.YtghgbikmlbildaaGreatDoor
open Go.RowKit

theorem left_cap {w : World} : ∀ (f : Nat) (l : List Tm) (m : Int), (∀ t ∈ l, ∃ cs, TmAt w f cs t) → 0 ≤ leftF f l m → ((sumN (l.map (capF f)) + l.length : Nat) : Int) ≤ 301 * (m - leftF f l m)
 | 0, l, m, h, _ => by
  cases l with
  | nil => show ((0 + 0 : Nat) : Int) ≤ 301 * (m - m); omega
  | cons t l => obtain ⟨cs, hf⟩ := h t List.mem_cons_self; exact hf.elim
 | f + 1, l, m, h, hp => by
  have IH := left_cap (w := w) f
  show ((sumN (l.map (capF (f + 1))) + l.length : Nat) : Int) ≤ 301 * (m - leftL (leftF f) l m)
  have hp : 0 ≤ leftL (leftF f) l m := hp
  induction l generalizing m with
  | nil => show ((0 + 0 : Nat) : Int) ≤ 301 * (m - m); omega
  | cons t l ih =>
   unfold leftL at hp ⊢
   by_cases h0 : m < 0
   ·rw [if_pos h0] at hp; omega
   ·rw [if_neg h0] at hp ⊢
    by_cases h1 : m < t.name.size ∨ m < t.func.size ∨ m < t.bytes.size
    ·rw [if_pos h1] at hp; omega
    ·rw [if_neg h1] at hp ⊢
     have hm1 : -1 ≤ m - 1 - (t.name.size : Int) / 8 - (t.func.size : Int) / 8 - (t.bytes.size : Int) / 8 := by omega
     have hm2 : m - 1 - (t.name.size : Int) / 8 - (t.func.size : Int) / 8 - (t.bytes.size : Int) / 8 ≤ m - 1 := by omega
     generalize m - 1 - (t.name.size : Int) / 8 - (t.func.size : Int) / 8 - (t.bytes.size : Int) / 8 = m1 at *
     have hle := leftF_le f t.items m1 hm1
     have hle2 := leftL_le (leftF_le f) l (leftF f t.items m1) hle.1
     obtain ⟨cs, ⟨ao, c, _, hs⟩, _⟩ := h t List.mem_cons_self
     have hi := IH t.items m1 (fun x hx => by
      obtain ⟨j, hj, rfl⟩ := List.getElem_of_mem hx
      obtain ⟨_, _, _, _, hr⟩ := hs.row hj
      obtain ⟨cs', _, _, h'⟩ := hr j hj
      exact ⟨cs', h'⟩) (by omega)
     have hl := ih (leftF f t.items m1) (fun x hx => h x (List.mem_cons_of_mem _ hx)) (by simpa [leftF] using hp) hp
     have e1 : sumN ((t :: l).map (capF (f + 1))) = (300 + t.items.length + sumN (t.items.map (capF f))) + sumN (l.map (capF (f + 1))) := rfl
     rw [e1, List.length_cons]
     omega
theorem sumN_mem : ∀ (l : List Nat) (x : Nat), x ∈ l → x ≤ sumN l
 | [], _, h => by cases h
 | y :: l, x, h => by
  show x ≤ y + sumN l
  rcases List.mem_cons.1 h with rfl | h
  ·omega
  ·have := sumN_mem l x h; omega
/-- A depth for the literals of a unit that is not too large, and that their counting does not run over. -/
theorem depth_of {w : World} {lo : Option Addr} {l : List Tm} {f : Nat} (h : SlAt w 9 (TmAt w f) lo l) (hp : 0 ≤ leftF f l 4000) : ∃ g, SlAt w 9 (TmAt w (g + 1)) lo l ∧ ∀ t ∈ l, (capF (g + 1) t : Int) ≤ 1152921504606846976 := by
 cases f with
 | zero => obtain rfl := h.zero; exact ⟨0, .inl rfl, fun t ht => by cases ht⟩
 | succ g =>
  refine ⟨g, h, fun t ht => ?_⟩
  have hc := left_cap (w := w) (g + 1) l 4000 (fun x hx => by
   obtain ⟨j, hj, rfl⟩ := List.getElem_of_mem hx
   obtain ⟨_, _, _, _, hr⟩ := h.row hj
   obtain ⟨cs', _, _, h'⟩ := hr j hj
   exact ⟨cs', h'⟩) hp
  have hm := sumN_mem (l.map (capF (g + 1))) _ (List.mem_map.2 ⟨t, ht, rfl⟩)
  omega
/-- Operations with a target that lies ahead. -/
def aheadL : List Int := [8, 9, 10, 11, 12, 13, 28, 30, 31, 32, 33, 34, 37]
theorem rowT_to : ∀ k : Nat, (h : k < 41) → 1 ≤ k → (hasB (rowT[k]'h).1.toNat 64 = true ↔ ((k : Int) ∈ aheadL ∨ k = 39 ∨ k = 40)) := by decide
theorem rowAt_to {op : Int} (h : 1 ≤ op ∧ op ≤ 40) : hasB (rowAt op).1.toNat 64 = true ↔ (op ∈ aheadL ∨ op = 39 ∨ op = 40) := by
 obtain ⟨k, rfl⟩ : ∃ k : Nat, op = (k : Int) := ⟨op.toNat, by omega⟩
 have hk : k < 41 := by omega
 have hra : rowAt (k : Int) = rowT[k]'hk := by unfold rowAt; rw [Int.toNat_natCast, List.getElem?_eq_getElem (by exact hk)]; rfl
 rw [hra, rowT_to k hk (by omega)]
 constructor
 ·rintro (h | h | h)
  ·exact .inl h
  ·exact .inr (.inl (by omega))
  ·exact .inr (.inr (by omega))
 ·rintro (h | h | h)
  ·exact .inl h
  ·exact .inr (.inl (by omega))
  ·exact .inr (.inr (by omega))
/-- Where the targets of a well-formed instruction lie. -/
structure Ahead (u : RUnit) (i : Nat) (x : RIns) : Prop where
 cases : ∀ c ∈ x.cases, (i : Int) < c.to ∧ c.to < u.code.length
 jump : (x.op = 39 ∨ x.op = 40) ∧ 0 ≤ x.to ∧ x.to < u.code.length ∧ opAt u.code x.to = 37 ∨ x.op ∈ aheadL ∧ (i : Int) < x.to ∧ x.to < u.code.length ∨ x.op ∉ aheadL ∧ x.op ≠ 39 ∧ x.op ≠ 40 ∧ x.to = 0
theorem ahead_of {u : RUnit} {i : Nat} {x : RIns} (h : insB u i x = true) : Ahead u i x := by
 unfold insB at h
 simp only [Bool.and_eq_true] at h
 obtain ⟨h0, h1, h2, h3, h4, h5⟩ := h
 have hop : 1 ≤ x.op ∧ x.op ≤ 40 := by unfold opOk at h0; exact of_decide_eq_true h0
 have hto := rowAt_to hop
 obtain ⟨r16, _, _, _⟩ := rowAt_facts hop
 generalize (rowAt x.op).1.toNat = h at *
 unfold fieldsB at h1
 simp only [Bool.and_eq_true] at h1
 obtain ⟨f1, f2, f3, f4, f5, f6, f7, f8, f9, f10⟩ := h1
 unfold targetsB at h5
 by_cases ho : x.op = 39 ∨ x.op = 40
 ·rw [if_pos ho, Bool.and_eq_true] at h5
  have hw := wi_iff h5.1
  refine ⟨fun c hc => ?_, .inl ⟨ho, hw.1, by omega, eq_of_beq h5.2⟩⟩
  have hn : hasB h 16 = false := by
   cases e : hasB h 16 with
   | false => rfl
   | true => have := r16 e; omega
  rw [hn, Bool.false_or] at f9
  have := eq_of_beq f9
  rw [List.length_eq_zero_iff] at this
  rw [this] at hc; cases hc
 ·rw [if_neg ho, Bool.and_eq_true] at h5
  refine ⟨fun c hc => ?_, ?_⟩
  ·have := wi_iff (List.all_eq_true.1 h5.1 c hc); omega
  ·by_cases hm : x.op ∈ aheadL
   ·have ht := hto.2 (.inl hm)
    rw [ht] at h5
    have hw : (i : Int) + 1 ≤ x.to ∧ x.to ≤ (u.code.length : Int) - 1 := wi_iff (by simpa using h5.2)
    exact .inr (.inl ⟨hm, by omega, by omega⟩)
   ·have ht : hasB h 64 = false := by
     cases e : hasB h 64 with
     | false => rfl
     | true => rcases hto.1 e with h | h | h
               ·exact absurd h hm
               ·exact absurd (.inl h) ho
               ·exact absurd (.inr h) ho
    rw [ht, Bool.false_or] at f7
    exact .inr (.inr ⟨hm, fun e => ho (.inl e), fun e => ho (.inr e), eq_of_beq f7⟩)
end Go.Proofs.YtghgbikmlbildaaGreatDoor
namespace Go.Proofs.YtghgbikmlbildaaGreatDoor
open Go.RowKit
set_option linter.unusedVariables false
set_option linter.unusedSimpArgs false

/-- The lowest bytes of a number, so many, the highest first. -/
def beN : Nat → Int → List UInt8
 | 0, _ => []
 | k + 1, n => UInt8.ofNat (n / 2 ^ (8 * k) % 256).toNat :: beN k n
/-- The bytes of a number, the lowest first. -/
def leN : Nat → Nat → List UInt8
 | 0, _ => []
 | f + 1, u => if u = 0 then [] else UInt8.ofNat u :: leN f (u / 256)
def atomE (s : ByteArray) : List UInt8 := 119 :: UInt8.ofNat s.size :: s.data.toList
def bigE (n : Int) : List UInt8 := 110 :: UInt8.ofNat (leN 8 n.natAbs).length :: (if n < 0 then 1 else 0) :: leN 8 n.natAbs
def intE (n : Int) : List UInt8 := if 0 ≤ n ∧ n ≤ 255 then [97, UInt8.ofNat n.toNat] else if -2147483648 ≤ n ∧ n ≤ 2147483647 then 98 :: beN 4 n else bigE n
/-- What stands ahead of the parts of a term. -/
def headE (t : Tm) : List UInt8 :=
 if t.kind = 1 then intE t.int
 else if t.kind = 2 then atomE t.name
 else if t.kind = 3 then 90 :: 0 :: 1 :: (atomE t.name ++ (beN 4 t.gen ++ beN 4 t.int))
 else if t.kind = 4 then 112 :: UInt8.ofNat t.arity.toNat :: (beN 2 t.int ++ (UInt8.ofNat t.items.length :: (atomE t.name ++ beN 4 t.gen)))
 else if t.kind = 5 then 113 :: (atomE t.name ++ (atomE t.func ++ intE t.arity))
 else if t.kind = 6 then 88 :: (atomE t.name ++ (beN 4 t.int ++ (beN 4 0 ++ beN 4 t.gen)))
 else if t.kind = 7 then [104, UInt8.ofNat t.items.length]
 else if t.kind = 8 then [106]
 else if t.kind = 9 then 108 :: beN 4 ((t.items.length : Int) - 1)
 else if t.kind = 10 then (if t.bits % 8 = 0 then 109 :: (beN 4 t.bytes.size ++ t.bytes.data.toList) else 77 :: (beN 4 t.bytes.size ++ (UInt8.ofNat (t.bits % 8).toNat :: t.bytes.data.toList)))
 else []
/-- The encoding without the version, up to a depth. -/
def codeE : Nat → Tm → List UInt8
 | 0, _ => []
 | f + 1, t => headE t ++ t.items.flatMap (codeE f)
def putE (f : Nat) (t : Tm) : List UInt8 := 131 :: codeE f t

theorem beN_len : ∀ (k : Nat) (n : Int), (beN k n).length = k
 | 0, _ => rfl
 | k + 1, n => by show (beN k n).length + 1 = k + 1; rw [beN_len k n]
theorem leN_len : ∀ (f n : Nat), (leN f n).length ≤ f
 | 0, _ => Nat.le_refl _
 | f + 1, n => by
  unfold leN
  split
  ·simp
  ·have := leN_len f (n / 256); simp; omega
theorem atomE_len (s : ByteArray) : (atomE s).length = s.size + 2 := by
 show s.data.toList.length + 2 = s.size + 2; rw [Array.length_toList]; rfl
theorem intE_len (n : Int) : (intE n).length ≤ 11 := by
 unfold intE
 split
 ·simp
 ·split
  ·have := beN_len 4 n; simp; omega
  ·have := leN_len 8 n.natAbs; unfold bigE; simp; omega
theorem nameB_max {s : ByteArray} (h : nameB s = true) : s.size ≤ 32 := by
 unfold nameB at h; rw [Bool.and_eq_true, Bool.and_eq_true, decide_eq_true_eq, decide_eq_true_eq] at h; exact h.1.2
theorem wi_of {n a b : Int} (h : wi n a b = true) : a ≤ n ∧ n ≤ b := by
 unfold wi at h; rw [Bool.and_eq_true, decide_eq_true_eq, decide_eq_true_eq] at h; exact h
theorem bitsV_len {y : ByteArray} {z : Int} (h : bitsV y z = true) : 0 ≤ z ∧ z ≤ 16384 ∧ (y.size : Int) = (z + 7) / 8 := by
 unfold bitsV at h
 rw [Bool.and_eq_true, Bool.and_eq_true, decide_eq_true_eq] at h
 have := wi_of h.1.1
 exact ⟨this.1, this.2, h.1.2⟩
theorem headE_len {t : Tm} (h : okK t = true) : (headE t).length ≤ 2200 ∧ 1 ≤ ownSize t := by
 by_cases h1 : t.kind = 1
 ·unfold headE ownSize; have := intE_len t.int; simp [h1]; omega
 by_cases h2 : t.kind = 2
 ·have hn : nameB t.name = true := by unfold okK at h; simpa [h2] using h
  have := nameB_max hn; have := atomE_len t.name; unfold headE ownSize; simp [h2]; omega
 by_cases h3 : t.kind = 3
 ·have hn : nameB t.name = true := by unfold okK at h; simp [h3] at h; exact h.2
  have := nameB_max hn; have := atomE_len t.name; have := beN_len 4 t.gen; have := beN_len 4 t.int; unfold headE ownSize; simp [h3]; omega
 by_cases h4 : t.kind = 4
 ·have hn : nameB t.name = true := by unfold okK at h; simp [h4] at h; exact h.1.1.2
  have := nameB_max hn; have := atomE_len t.name; have := beN_len 4 t.gen; have := beN_len 2 t.int; unfold headE ownSize; simp [h4]; omega
 by_cases h5 : t.kind = 5
 ·have hn : nameB t.name = true ∧ nameB t.func = true := by unfold okK at h; simp [h5] at h; exact h.1
  have := nameB_max hn.1; have := nameB_max hn.2; have := atomE_len t.name; have := atomE_len t.func; have := intE_len t.arity; unfold headE ownSize; simp [h5]; omega
 by_cases h6 : t.kind = 6
 ·have hn : nameB t.name = true := by unfold okK at h; simp [h6] at h; exact h.2
  have := nameB_max hn; have := atomE_len t.name; have := beN_len 4 t.gen; have := beN_len 4 t.int; have := beN_len 4 0; unfold headE ownSize; simp [h6]; omega
 by_cases h7 : t.kind = 7
 ·unfold headE ownSize; simp [h7]
 by_cases h8 : t.kind = 8
 ·unfold headE ownSize; simp [h8]
 by_cases h9 : t.kind = 9
 ·have hn : 2 ≤ t.items.length := by unfold okK at h; simp [h9] at h; exact h.1
  have := beN_len 4 ((t.items.length : Int) - 1); unfold headE ownSize; simp [h9]; omega
 by_cases h10 : t.kind = 10
 ·have hn : bitsV t.bytes t.bits = true := by unfold okK at h; simp [h10] at h; exact h
  obtain ⟨b0, b1, b2⟩ := bitsV_len hn
  have hl : t.bytes.data.toList.length = t.bytes.size := by rw [Array.length_toList]; rfl
  have := beN_len 4 (t.bytes.size : Int)
  unfold headE ownSize; rw [if_neg h1, if_neg h2, if_neg h3, if_neg h4, if_neg h5, if_neg h6, if_neg h7, if_neg h8, if_neg h9, if_pos h10, if_neg h9, if_pos h10]
  refine ⟨?_, by omega⟩
  split <;> (simp only [List.length_cons, List.length_append]; omega)
 exact absurd h (by rw [okK_none (by omega)]; decide)
theorem codeE_len : ∀ (f : Nat) (t : Tm), formF f t = true → ((codeE f t).length : Int) ≤ 2200 * wholeF f t
 | 0, _, h => by cases h
 | f + 1, t, h => by
  have hl : locB t = true ∧ t.items.all (formF f) = true := by unfold formF at h; rwa [Bool.and_eq_true] at h
  have h1 : okK t = true := by have := hl.1; unfold locB at this; rw [Bool.and_eq_true] at this; exact this.1
  have hh := headE_len h1
  have hi : ∀ (l : List Tm), l.all (formF f) = true → ((l.flatMap (codeE f)).length : Int) ≤ 2200 * sumI (l.map (wholeF f)) := by
   intro l
   induction l with
   | nil => intro _; simp [sumI]
   | cons a l ih =>
    intro ha
    rw [List.all_cons, Bool.and_eq_true] at ha
    have e1 := codeE_len f a ha.1
    have e2 := ih ha.2
    simp only [List.flatMap_cons, List.length_append, List.map_cons, sumI]
    omega
  have := hi t.items hl.2
  show (((headE t ++ t.items.flatMap (codeE f)).length : Nat) : Int) ≤ 2200 * (ownSize t + sumI (t.items.map (wholeF f)))
  rw [List.length_append]
  omega
theorem putE_len {f : Nat} {t : Tm} (h : validF f t = true) : (putE f t).length ≤ 4400001 := by
 unfold validF at h
 rw [Bool.and_eq_true, decide_eq_true_eq] at h
 have := codeE_len f t h.1
 show (codeE f t).length + 1 ≤ _
 omega
/-- A formed term reads alike at any greater depth. -/
theorem codeE_more : ∀ (f g : Nat) (t : Tm), formF f t = true → codeE (f + g) t = codeE f t
 | 0, _, _, h => by cases h
 | f + 1, g, t, h => by
  have hl : t.items.all (formF f) = true := by unfold formF at h; rw [Bool.and_eq_true] at h; exact h.2
  have e : t.items.flatMap (codeE (f + g)) = t.items.flatMap (codeE f) := by
   rw [List.flatMap_def, List.flatMap_def]
   congr 1
   exact List.map_congr_left fun a ha => codeE_more f g a (List.all_eq_true.1 hl a ha)
  rw [show f + 1 + g = (f + g) + 1 by omega]
  show headE t ++ t.items.flatMap (codeE (f + g)) = headE t ++ t.items.flatMap (codeE f)
  rw [e]
end Go.Proofs.YtghgbikmlbildaaGreatDoor
