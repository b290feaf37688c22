/-
  code.Put of any unit: the walk (printed by gen_put.py). The contract of wire.Put is asked for.
-/
import Derived.Test.YtghgbikmlbildaaDoorWInstr
namespace Go.Proofs.YtghgbikmlbildaaDoor
open Go.RowKit
set_option linter.unusedVariables false
set_option linter.unusedSimpArgs false

def insW (x : RIns) : List UInt8 := instrW (rowAt x.op).1.toNat x
/-- The encoding of a unit whose literals have the encodings enc. -/
def unitW (enc : Tm → ByteArray) (u : RUnit) : List UInt8 := textW u.mdl ++ (vint u.vsn.toNat ++ (vint u.lits.length ++ (u.lits.flatMap (fun t => textW (enc t)) ++ (vint u.funcs.length ++ (u.funcs.flatMap funcW ++ (vint u.funs.length ++ (u.funs.flatMap funW ++ (vint u.code.length ++ (u.code.flatMap insW ++ [])))))))))
def putS (enc : Tm → ByteArray) (f : Nat) (u : RUnit) : ByteArray := if checkE f u = 0 then ⟨(unitW enc u).toArray⟩ else ⟨#[]⟩
theorem flat_drop {α : Type} (g : α → List UInt8) (l : List α) {k : Nat} (h : k < l.length) : (l.drop k).flatMap g = g l[k] ++ (l.drop (k + 1)).flatMap g := by
  rw [List.drop_eq_getElem_cons h]; rfl
theorem vint_ne (n : Nat) : vint n ≠ [] := by
  show vintF (9 + 1) n ≠ []
  rw [vintF]
  split <;> simp
theorem textW_ne (s : ByteArray) : textW s ≠ [] := fun h => vint_ne s.size (List.append_eq_nil_iff.1 h).1
theorem unitW_ne (enc : Tm → ByteArray) (u : RUnit) : unitW enc u ≠ [] := fun h => textW_ne u.mdl (List.append_eq_nil_iff.1 h).1
theorem conv_wr {w : World} {B : Nat} {bv : Value} {l : List UInt8} (h : w.ownsRow B 5 1 bv l.length (byteC l)) (hne : l ≠ []) : (convert 67 9 bv).run Tryd.prog w = .ok (.string ⟨l.toArray⟩) w := by
  rcases h.2 with ⟨_, h0⟩ | ⟨g, cap, cur, rfl, _, hg, hc, _, hsz, htk⟩
  · exact absurd (List.eq_nil_of_length_eq_zero h0) hne
  · refine run_convert_bytes_back (P := Tryd.prog) w 67 9 5 ⟨g, 0, none⟩ cap l Tryd.underlying67 Tryd.underlying5 Tryd.underlying9 (fun j hj => ?_)
    have ha : (⟨g, 0, none⟩ : Addr).add j = ⟨g, j, none⟩ := by unfold Addr.add; split <;> simp_all
    rw [ha, cell_of_row _ _ _ _ _ _ hg]
    have : (cur.toList.take (l.length * 1))[j]? = (byteC l)[j]? := by rw [htk]
    rw [List.getElem?_take_of_lt (by omega)] at this
    simp [byteC, List.getElem?_eq_getElem hj] at this
    simpa using this
theorem ret_si {s t : ByteArray} {k : IntKind} {a b : Int} (h : s = t) (h' : a = b) : Ending.returned (.tuple #[.string s, .int k a]) = .returned (.tuple #[.string t, .int k b]) := by rw [h, h']
theorem checkE_two (f : Nat) (u : RUnit) : checkE f u = 0 ∨ checkE f u = 6 := by
  unfold checkE; split
  · split
    · exact .inr rfl
    · exact .inl rfl
  · exact .inr rfl
/-- What is asked of wire.Put at the literals. -/
def WireOk (enc : Tm → ByteArray) (f : Nat) (u : RUnit) : Prop := ∀ t ∈ u.lits, (enc t).size ≤ 10000000 ∧ ∀ (ai : Option Addr) (c : Nat) (w : World), SlAt w 9 (TmAt w f) ai t.items → t.Ok →
  Calls Tryd.prog 26 #[.agg #[.int .i64 t.kind, .int .i64 t.int, .int .i64 t.gen, .string t.name, .string t.func, .int .i64 t.arity, .slice ai t.items.length c, .string t.bytes, .int .i64 t.bits]] w fun e w' => e = .returned (.tuple #[.string (enc t), .int .i64 0]) ∧ Below w.heap.size w w'
set_option maxRecDepth 100000 in
set_option maxHeartbeats 40000000 in
theorem put_no (f : Nat) (u : RUnit) (lo fo go co : Option Addr) (lc fc gc cc : Nat) (w : World) (hrows : RowsAt w) (hsp : SpaceAt w) (hp : UP w u lo fo go co) (hlits : SlAt w 9 (TmAt w (f + 1)) lo u.lits) (hcap : ∀ t ∈ u.lits, (capF (f + 1) t : Int) ≤ 1152921504606846976) (hnm : ∀ x ∈ u.code, x.name.size ≤ 140737488355328) (hno : checkE (f + 1) u = 6) :
    Calls Tryd.prog 13 #[.agg #[.string u.mdl, .int .i64 u.vsn, .slice lo u.lits.length lc, .slice fo u.funcs.length fc, .slice go u.funs.length gc, .slice co u.code.length cc]] w fun e w' => e = .returned (.tuple #[.string ⟨#[]⟩, .int .i64 6]) ∧ Below w.heap.size w w' := by
  have hba : Below w.heap.size w (w.alloc (.cells #[.string u.mdl, .int .i64 u.vsn, .slice lo u.lits.length lc, .slice fo u.funcs.length fc, .slice go u.funs.length gc, .slice co u.code.length cc] 27)) := (Below.refl _ _).alloc (Nat.le_refl _) _
  have hck := check_any f u lo fo go co lc fc gc cc _ (hrows.below hba) (hsp.below hba) (hp.below hba) (hlits.tms hba) hcap hnm
  rw [hno] at hck
  have HCK := Lib.hid hck; have HBA := Lib.hid hba
  generalize checkI (f + 1) u = ci at *
  clear hck hba hrows hsp hp hlits hcap hnm hno
  go_enter Tryd.func13, Tryd.ntmps13
  go_wp2_with fail
  refine HCK.out.mono ?_
  rintro e w5 ⟨rfl, hb5⟩
  go_wp2_with fail
  go_ret2
  exact ⟨rfl, HBA.out.trans (hb5.mono HBA.out.size)⟩

set_option maxRecDepth 100000 in
set_option maxHeartbeats 40000000 in
theorem put_yes (enc : Tm → ByteArray) (f : Nat) (u : RUnit) (lo fo go co : Option Addr) (lc fc gc cc : Nat) (w : World) (hrows : RowsAt w) (hsp : SpaceAt w) (hp : UP w u lo fo go co) (hlits : SlAt w 9 (TmAt w (f + 1)) lo u.lits) (hcap : ∀ t ∈ u.lits, (capF (f + 1) t : Int) ≤ 1152921504606846976) (hnm : ∀ x ∈ u.code, x.name.size ≤ 140737488355328) (hwire : WireOk enc f u) (hyes : checkE (f + 1) u = 0) :
    Calls Tryd.prog 13 #[.agg #[.string u.mdl, .int .i64 u.vsn, .slice lo u.lits.length lc, .slice fo u.funcs.length fc, .slice go u.funs.length gc, .slice co u.code.length cc]] w fun e w' => e = .returned (.tuple #[.string ⟨(unitW enc u).toArray⟩, .int .i64 0]) ∧ Below w.heap.size w w' := by
  have hba : Below w.heap.size w (w.alloc (.cells #[.string u.mdl, .int .i64 u.vsn, .slice lo u.lits.length lc, .slice fo u.funcs.length fc, .slice go u.funs.length gc, .slice co u.code.length cc] 27)) := (Below.refl _ _).alloc (Nat.le_refl _) _
  have hbx := ubox_new w u lo fo go co lc fc gc cc
  have hck := check_any f u lo fo go co lc fc gc cc _ (hrows.below hba) (hsp.below hba) (hp.below hba) (hlits.tms hba) hcap hnm
  obtain ⟨htab, _, hins⟩ := check_ok hyes
  rw [hyes] at hck
  have HCK := Lib.hid hck; have HBA := Lib.hid hba; have HBX := Lib.hid hbx; have HRW := Lib.hid (hrows.below hba); have HUP := Lib.hid (hp.below hba); have HLT := Lib.hid (hlits.tms hba)
  have HTB := Lib.hid htab; have HIN := Lib.hid hins; have HWI := Lib.hid hwire
  have HE : Hid (unitW enc u = [] ++ (textW u.mdl ++ (vint u.vsn.toNat ++ (vint u.lits.length ++ (u.lits.flatMap (fun t => textW (enc t)) ++ (vint u.funcs.length ++ (u.funcs.flatMap funcW ++ (vint u.funs.length ++ (u.funs.flatMap funW ++ (vint u.code.length ++ (u.code.flatMap insW ++ []))))))))))) := Lib.hid rfl
  have HNE := Lib.hid (unitW_ne enc u)
  generalize unitW enc u = W at *
  generalize checkI (f + 1) u = ci at *
  clear hck hba hbx hrows hsp hp hlits hcap hnm hyes htab hins hwire
  go_enter Tryd.func13, Tryd.ntmps13
  go_wp2_with fail
  generalize w.alloc (.cells #[.string u.mdl, .int .i64 u.vsn, .slice lo u.lits.length lc, .slice fo u.funcs.length fc, .slice go u.funs.length gc, .slice co u.code.length cc] 27) = Wa at *
  generalize hB0 : w.heap.size = B0 at *
  have HBE := Lib.hid hB0
  clear hB0
  refine HCK.out.mono ?_
  rintro e w5 ⟨rfl, hb5⟩
  have HB5 := Lib.hid hb5
  have hux5 := HBX.out.below hb5
  clear hb5
  go_upto_region 5 with fail
  have hst0 := heap_alloc_new w5 (.cells #[.slice none 0 0] 69)
  have hb6 : Below w5.heap.size w5 (w5.alloc (.cells #[.slice none 0 0] 69)) := (Below.refl _ _).alloc (Nat.le_refl _) _
  have HW0 : Hid (WrAt w5.heap.size w5.heap.size [] (w5.alloc (.cells #[.slice none 0 0] 69))) := Lib.hid ⟨Nat.le_refl _, hb6.size, _, hst0, ⟨rfl, .inl ⟨rfl, rfl⟩⟩, by intro h; cases h⟩
  have HB6 := Lib.hid hb6
  have HUX := Lib.hid hux5
  clear hst0 hb6 hux5
  generalize w5.alloc (.cells #[.slice none 0 0] 69) = W6 at *
  have HUP5 := Lib.hid (HUP.out.below HB5.out); have HLT5 := Lib.hid (HLT.out.tms HB5.out)
  have hux := HUX.out.below HB6.out
  have d0 := hux.c0
  have hlt0 := HUX.out.lt
  have hlt6 := hux.lt
  clear hux
  have hml := textW_len u.mdl
  have hms := HTB.out.mdl
  have hv1 := vint_len u.vsn.toNat
  have hv2 := vint_len u.lits.length
  have hl1 := HTB.out.lits
  go_wp2_with fail
  refine (wtext_any w5.heap.size w5.heap.size [] u.mdl _ HW0.out (by omega) (by decide)).mono ?_
  rintro e w7 ⟨rfl, h7, hb7, hs7⟩
  rw [List.nil_append] at h7
  have HW7 := Lib.hid h7; have HB7 := Lib.hid (HB6.out.trans hb7)
  clear h7 hb7 hs7 d0
  have d1 := (HUX.out.below HB7.out).c1
  go_wp2_with fail
  refine (wnum_any w5.heap.size w5.heap.size (textW u.mdl) u.vsn _ HW7.out (by have := HTB.out.vsn0; omega) (by have := HTB.out.vsn1; omega) (by omega)).mono ?_
  rintro e w8 ⟨rfl, h8, hb8, hs8⟩
  have HW8 := Lib.hid h8; have HB8 := Lib.hid (HB7.out.trans hb8)
  clear h8 hb8 hs8 d1
  have d2 := (HUX.out.below HB8.out).c2
  go_wp2_with fail
  refine (wnum_any w5.heap.size w5.heap.size (textW u.mdl ++ vint u.vsn.toNat) (u.lits.length : Int) _ HW8.out (by omega) (by omega) (by rw [List.length_append]; omega)).mono ?_
  rintro e w9 ⟨rfl, h9, hb9, hs9⟩
  rw [Int.toNat_natCast] at h9
  have hpl : ((textW u.mdl ++ vint u.vsn.toNat) ++ vint u.lits.length).length ≤ 100 := by rw [List.length_append, List.length_append]; omega
  have HP : Hid (W = ((textW u.mdl ++ vint u.vsn.toNat) ++ vint u.lits.length) ++ (u.lits.flatMap (fun t => textW (enc t)) ++ (vint u.funcs.length ++ (u.funcs.flatMap funcW ++ (vint u.funs.length ++ (u.funs.flatMap funW ++ (vint u.code.length ++ (u.code.flatMap insW ++ [])))))))) := Lib.hid (by rw [HE.out]; simp only [List.append_assoc, List.nil_append])
  have HWp := Lib.hid h9; have HBp := Lib.hid (HB8.out.trans hb9)
  clear h9 hb9 hs9 d2 HW0 HB6 HW7 HB7 HW8 HB8 HE hlt6 hml hms
  have d2 := (HUX.out.below HBp.out).c2
  generalize (textW u.mdl ++ vint u.vsn.toNat) ++ vint u.lits.length = p at *
  have hlen := HTB.out.lits
  have HQ : Hid (W = p ++ ((u.lits.drop 0).flatMap (fun t => textW (enc t)) ++ (vint u.funcs.length ++ (u.funcs.flatMap funcW ++ (vint u.funs.length ++ (u.funs.flatMap funW ++ (vint u.code.length ++ (u.code.flatMap insW ++ [])))))))) := Lib.hid (by rw [HP.out, List.drop_zero])
  clear HP
  go_wp2_with fail
  go_loopw [42] (fun iv wr => ∃ (k : Nat) (p' : List UInt8), k ≤ u.lits.length ∧ iv = .int .i64 k ∧ Hid (W = p' ++ ((u.lits.drop k).flatMap (fun t => textW (enc t)) ++ (vint u.funcs.length ++ (u.funcs.flatMap funcW ++ (vint u.funs.length ++ (u.funs.flatMap funW ++ (vint u.code.length ++ (u.code.flatMap insW ++ [])))))))) ∧ p'.length ≤ p.length + 10000010 * k ∧ Hid (WrAt w5.heap.size w5.heap.size p' wr) ∧ Hid (Below w5.heap.size w5 wr)) (fun iv _ => u.lits.length - (intOf iv).toNat)
  case atStart => exact ⟨0, p, Nat.zero_le _, rfl, HQ, by omega, HWp, HBp⟩
  case round =>
    obtain ⟨k, p', hk, rfl, HK, hpk, HWk, HBk⟩ := hrel
    rename World => wr
    clear HWp HBp
    by_cases hlt : k < u.lits.length
    · obtain ⟨b2, off, ai, ci2, hao, hb2, q0, q1, q2, q3, q4, q5, q6, q7, q8, hit, hok⟩ := (HLT5.out.tms HBk.out).tm hlt
      subst hao
      have HST := Lib.hid (flat_drop (fun t => textW (enc t)) u.lits hlt)
      have hwt := HWI.out _ (List.getElem_mem hlt)
      generalize u.lits[k] = t at *
      have hsz := hwt.1
      have HPT := Lib.hid hwt.2; have HIT := Lib.hid hit; have HOK := Lib.hid hok
      clear hwt hit hok
      have hba := (Below.refl wr.heap.size wr).alloc (Nat.le_refl _) (.cells #[.int .i64 t.kind, .int .i64 t.int, .int .i64 t.gen, .string t.name, .string t.func, .int .i64 t.arity, .slice ai t.items.length ci2, .string t.bytes, .int .i64 t.bits] 73)
      have HBA := Lib.hid hba
      clear hba
      go_wp2_with fail
      refine (HPT.out ai ci2 _ (HIT.out.tms HBA.out) HOK.out).mono ?_
      rintro e w10 ⟨rfl, hb10⟩
      have HB10 := Lib.hid (below_next HBA.out hb10)
      clear hb10
      have hal := textW_len (enc t)
      go_wp2_with fail
      refine (wtext_any w5.heap.size w5.heap.size p' (enc t) _ (HWk.out.next HB10.out) (by omega) (by omega)).mono ?_
      rintro e w11 ⟨rfl, h11, hb11, hs11⟩
      go_wp2_with fail
      go_roundw
      case rel => exact ⟨k + 1, p' ++ textW (enc t), by omega, by go_num, Lib.hid (by rw [HK.out, HST.out]; simp only [List.append_assoc]), by rw [List.length_append]; omega, Lib.hid h11, Lib.hid ((HBk.out.trans (HB10.out.mono HBk.out.size)).trans hb11)⟩
      case measure => simp [intOf]; omega
    · have HZ : Hid (W = p' ++ (vint u.funcs.length ++ (u.funcs.flatMap funcW ++ (vint u.funs.length ++ (u.funs.flatMap funW ++ (vint u.code.length ++ (u.code.flatMap insW ++ []))))))) := Lib.hid (by rw [HK.out, List.drop_eq_nil_of_le (by omega)]; rfl)
      have hnl := vint_len u.funcs.length
      have hz := HTB.out.lits
      have hzl := HTB.out.funcs
      have hp2 : p'.length ≤ 655350655450 := by omega
      have e3 := (HUX.out.below HBk.out).c3
      go_wp2_with fail
      refine (wnum_any w5.heap.size w5.heap.size p' (u.funcs.length : Int) _ HWk.out (by omega) (by omega) (by omega)).mono ?_
      rintro e wn ⟨rfl, hn, hbn, hsn⟩
      rw [Int.toNat_natCast] at hn
      have HP : Hid (W = (p' ++ vint u.funcs.length) ++ (u.funcs.flatMap funcW ++ (vint u.funs.length ++ (u.funs.flatMap funW ++ (vint u.code.length ++ (u.code.flatMap insW ++ [])))))) := Lib.hid (by rw [HZ.out]; simp only [List.append_assoc])
      have hpl1 : (p' ++ vint u.funcs.length).length ≤ 655350655460 := by rw [List.length_append]; omega
      have HWp := Lib.hid hn; have HBp := Lib.hid (HBk.out.trans hbn)
      have e4 := (HUX.out.below HBp.out).c3
      clear hn hbn hsn e3 HZ HK hpk hpl hp2 hnl hz hzl HWk HBk
      clear HQ hlen hk hlt
      generalize hpq : p' ++ vint u.funcs.length = p1 at *
      clear hpq
      have hlen := HTB.out.funcs
      have HQ : Hid (W = p1 ++ ((u.funcs.drop 0).flatMap funcW ++ (vint u.funs.length ++ (u.funs.flatMap funW ++ (vint u.code.length ++ (u.code.flatMap insW ++ [])))))) := Lib.hid (by rw [HP.out, List.drop_zero])
      clear HP
      go_wp2_with fail
      go_loopw [65] (fun iv wr => ∃ (k : Nat) (pp1 : List UInt8), k ≤ u.funcs.length ∧ iv = .int .i64 k ∧ Hid (W = pp1 ++ ((u.funcs.drop k).flatMap funcW ++ (vint u.funs.length ++ (u.funs.flatMap funW ++ (vint u.code.length ++ (u.code.flatMap insW ++ [])))))) ∧ pp1.length ≤ p1.length + 72 * k ∧ Hid (WrAt w5.heap.size w5.heap.size pp1 wr) ∧ Hid (Below w5.heap.size w5 wr)) (fun iv _ => u.funcs.length - (intOf iv).toNat)
      case atStart => exact ⟨0, p1, Nat.zero_le _, rfl, HQ, by omega, HWp, HBp⟩
      case round =>
        obtain ⟨k, pp1, hk, rfl, HK, hpk, HWk, HBk⟩ := hrel
        rename World => wr1
        clear HWp HBp
        by_cases hlt : k < u.funcs.length
        · obtain ⟨b2, off, hao, hb2, q0, q1, q2, q3, r0, r1, r2⟩ := ((HUP5.out.below HBk.out).funcs).func hlt
          subst hao
          have HST := Lib.hid (flat_drop funcW u.funcs hlt)
          have HAW := Lib.hid (HTB.out.func _ (List.getElem_mem hlt))
          clear r0 r1 r2
          generalize u.funcs[k] = a at *
          have hba := (Below.refl wr1.heap.size wr1).alloc (Nat.le_refl _) (.cells #[.string a.name, .int .i64 a.arity, .bool a.pub, .int .i64 a.entry] 62)
          have hLc := heap_alloc_new wr1 (.cells #[.string a.name, .int .i64 a.arity, .bool a.pub, .int .i64 a.entry] 62)
          have HBA := Lib.hid hba; have HL1 := Lib.hid hLc
          clear hba hLc
          have H1 := Lib.hid (HWk.out.next HBA.out)
          have hal1 := textW_len a.name; have hal2 := vint_len a.arity.toNat; have hal3 := boolW_len a.pub; have hal4 := vint_len a.entry.toNat
          have hns := HAW.out.1
          go_wp2_with fail
          refine (wtext_any w5.heap.size w5.heap.size pp1 a.name _ H1.out (by omega) (by omega)).mono ?_
          rintro e x2 ⟨rfl, h2, hbb2, hs2⟩
          have H2 := Lib.hid h2; have HB2 := Lib.hid hbb2
          have HL2 := Lib.hid (hs2 _ _ _ _ HL1.out (by decide) (by decide))
          clear h2 hbb2 hs2
          have g1 : x2.cell? ⟨wr1.heap.size, 1, none⟩ = some (.int .i64 a.arity) := by rw [cell_of_row _ _ _ _ _ _ HL2.out]; rfl
          go_wp2_with fail
          refine (wnum_any w5.heap.size w5.heap.size (pp1 ++ textW a.name) a.arity _ H2.out HAW.out.2.1 (Int.le_trans HAW.out.2.2.1 (by decide)) (by (try simp only [List.length_append]); omega)).mono ?_
          rintro e x3 ⟨rfl, h3, hb3, hs3⟩
          have H3 := Lib.hid h3; have HB3 := Lib.hid hb3; have HS3 := Lib.hid hs3
          have HL3 := Lib.hid (hs3 _ _ _ _ HL2.out (by decide) (by decide))
          clear h3 hb3 hs3
          clear g1
          have g2 : x3.cell? ⟨wr1.heap.size, 2, none⟩ = some (.bool a.pub) := by rw [cell_of_row _ _ _ _ _ _ HL3.out]; rfl
          go_wp2_with fail
          refine (wbool_any w5.heap.size w5.heap.size ((pp1 ++ textW a.name) ++ vint a.arity.toNat) a.pub _ H3.out (by (try simp only [List.length_append]); omega)).mono ?_
          rintro e x4 ⟨rfl, h4, hb4, hs4⟩
          have H4 := Lib.hid h4; have HB4 := Lib.hid hb4; have HS4 := Lib.hid hs4
          have HL4 := Lib.hid (hs4 _ _ _ _ HL3.out (by decide) (by decide))
          clear h4 hb4 hs4
          clear g2
          have g3 : x4.cell? ⟨wr1.heap.size, 3, none⟩ = some (.int .i64 a.entry) := by rw [cell_of_row _ _ _ _ _ _ HL4.out]; rfl
          go_wp2_with fail
          refine (wnum_any w5.heap.size w5.heap.size (((pp1 ++ textW a.name) ++ vint a.arity.toNat) ++ boolW a.pub) a.entry _ H4.out HAW.out.2.2.2.1 (Int.le_trans HAW.out.2.2.2.2 (by decide)) (by (try simp only [List.length_append]); omega)).mono ?_
          rintro e x5 ⟨rfl, h5, hb5, hs5⟩
          go_wp2_with fail
          go_roundw
          case rel => exact ⟨k + 1, (((pp1 ++ textW a.name) ++ vint a.arity.toNat) ++ boolW a.pub) ++ vint a.entry.toNat, by omega, by go_num, Lib.hid (by rw [HK.out, HST.out]; unfold funcW; simp only [List.append_assoc]), by simp only [List.length_append]; omega, Lib.hid h5, Lib.hid (((((HBk.out.trans (HBA.out.mono HBk.out.size)).trans HB2.out).trans HB3.out).trans HB4.out).trans hb5)⟩
          case measure => simp [intOf]; omega
        · have HZ : Hid (W = pp1 ++ (vint u.funs.length ++ (u.funs.flatMap funW ++ (vint u.code.length ++ (u.code.flatMap insW ++ []))))) := Lib.hid (by rw [HK.out, List.drop_eq_nil_of_le (by omega)]; rfl)
          have hnl := vint_len u.funs.length
          have hz := HTB.out.funcs
          have hzl := HTB.out.funs
          have hp2 : pp1.length ≤ 655350669860 := by omega
          have e3 := (HUX.out.below HBk.out).c4
          go_wp2_with fail
          refine (wnum_any w5.heap.size w5.heap.size pp1 (u.funs.length : Int) _ HWk.out (by omega) (by omega) (by omega)).mono ?_
          rintro e wn ⟨rfl, hn, hbn, hsn⟩
          rw [Int.toNat_natCast] at hn
          have HP : Hid (W = (pp1 ++ vint u.funs.length) ++ (u.funs.flatMap funW ++ (vint u.code.length ++ (u.code.flatMap insW ++ [])))) := Lib.hid (by rw [HZ.out]; simp only [List.append_assoc])
          have hpl2 : (pp1 ++ vint u.funs.length).length ≤ 655350700000 := by rw [List.length_append]; omega
          have HWp := Lib.hid hn; have HBp := Lib.hid (HBk.out.trans hbn)
          have e4 := (HUX.out.below HBp.out).c4
          clear hn hbn hsn e3 HZ HK hpk hpl1 hp2 hnl hz hzl HWk HBk
          clear HQ hlen hk hlt
          generalize hpq : pp1 ++ vint u.funs.length = p2 at *
          clear hpq
          have hlen := HTB.out.funs
          have HQ : Hid (W = p2 ++ ((u.funs.drop 0).flatMap funW ++ (vint u.code.length ++ (u.code.flatMap insW ++ [])))) := Lib.hid (by rw [HP.out, List.drop_zero])
          clear HP
          go_wp2_with fail
          go_loopw [94] (fun iv wr => ∃ (k : Nat) (pp2 : List UInt8), k ≤ u.funs.length ∧ iv = .int .i64 k ∧ Hid (W = pp2 ++ ((u.funs.drop k).flatMap funW ++ (vint u.code.length ++ (u.code.flatMap insW ++ [])))) ∧ pp2.length ≤ p2.length + 30 * k ∧ Hid (WrAt w5.heap.size w5.heap.size pp2 wr) ∧ Hid (Below w5.heap.size w5 wr)) (fun iv _ => u.funs.length - (intOf iv).toNat)
          case atStart => exact ⟨0, p2, Nat.zero_le _, rfl, HQ, by omega, HWp, HBp⟩
          case round =>
            obtain ⟨k, pp2, hk, rfl, HK, hpk, HWk, HBk⟩ := hrel
            rename World => wr2
            clear HWp HBp
            by_cases hlt : k < u.funs.length
            · obtain ⟨b2, off, hao, hb2, q0, q1, q2, r0, r1, r2⟩ := ((HUP5.out.below HBk.out).funs).fn hlt
              subst hao
              have HST := Lib.hid (flat_drop funW u.funs hlt)
              have HAW := Lib.hid (HTB.out.fn _ (List.getElem_mem hlt))
              clear r0 r1 r2
              generalize u.funs[k] = a at *
              have hba := (Below.refl wr2.heap.size wr2).alloc (Nat.le_refl _) (.cells #[.int .i64 a.arity, .int .i64 a.free, .int .i64 a.entry] 77)
              have hLc := heap_alloc_new wr2 (.cells #[.int .i64 a.arity, .int .i64 a.free, .int .i64 a.entry] 77)
              have HBA := Lib.hid hba; have HL1 := Lib.hid hLc
              clear hba hLc
              have H1 := Lib.hid (HWk.out.next HBA.out)
              have hal1 := vint_len a.arity.toNat; have hal2 := vint_len a.free.toNat; have hal3 := vint_len a.entry.toNat
              go_wp2_with fail
              refine (wnum_any w5.heap.size w5.heap.size (pp2) a.arity _ H1.out HAW.out.1 (Int.le_trans HAW.out.2.1 (by decide)) (by (try simp only [List.length_append]); omega)).mono ?_
              rintro e x2 ⟨rfl, h2, hb2, hs2⟩
              have H2 := Lib.hid h2; have HB2 := Lib.hid hb2; have HS2 := Lib.hid hs2
              have HL2 := Lib.hid (hs2 _ _ _ _ HL1.out (by decide) (by decide))
              clear h2 hb2 hs2
              have g1 : x2.cell? ⟨wr2.heap.size, 1, none⟩ = some (.int .i64 a.free) := by rw [cell_of_row _ _ _ _ _ _ HL2.out]; rfl
              go_wp2_with fail
              refine (wnum_any w5.heap.size w5.heap.size (pp2 ++ vint a.arity.toNat) a.free _ H2.out HAW.out.2.2.1 (Int.le_trans HAW.out.2.2.2.1 (by decide)) (by (try simp only [List.length_append]); omega)).mono ?_
              rintro e x3 ⟨rfl, h3, hb3, hs3⟩
              have H3 := Lib.hid h3; have HB3 := Lib.hid hb3; have HS3 := Lib.hid hs3
              have HL3 := Lib.hid (hs3 _ _ _ _ HL2.out (by decide) (by decide))
              clear h3 hb3 hs3
              clear g1
              have g2 : x3.cell? ⟨wr2.heap.size, 2, none⟩ = some (.int .i64 a.entry) := by rw [cell_of_row _ _ _ _ _ _ HL3.out]; rfl
              go_wp2_with fail
              refine (wnum_any w5.heap.size w5.heap.size ((pp2 ++ vint a.arity.toNat) ++ vint a.free.toNat) a.entry _ H3.out HAW.out.2.2.2.2.1 (Int.le_trans HAW.out.2.2.2.2.2 (by decide)) (by (try simp only [List.length_append]); omega)).mono ?_
              rintro e x4 ⟨rfl, h4, hb4, hs4⟩
              go_wp2_with fail
              go_roundw
              case rel => exact ⟨k + 1, ((pp2 ++ vint a.arity.toNat) ++ vint a.free.toNat) ++ vint a.entry.toNat, by omega, by go_num, Lib.hid (by rw [HK.out, HST.out]; unfold funW; simp only [List.append_assoc]), by simp only [List.length_append]; omega, Lib.hid h4, Lib.hid ((((HBk.out.trans (HBA.out.mono HBk.out.size)).trans HB2.out).trans HB3.out).trans hb4)⟩
              case measure => simp [intOf]; omega
            · have HZ : Hid (W = pp2 ++ (vint u.code.length ++ (u.code.flatMap insW ++ []))) := Lib.hid (by rw [HK.out, List.drop_eq_nil_of_le (by omega)]; rfl)
              have hnl := vint_len u.code.length
              have hz := HTB.out.funs
              have hzl := HTB.out.code1
              have hp2 : pp2.length ≤ 655350730000 := by omega
              have e3 := (HUX.out.below HBk.out).c5
              go_wp2_with fail
              refine (wnum_any w5.heap.size w5.heap.size pp2 (u.code.length : Int) _ HWk.out (by omega) (by omega) (by omega)).mono ?_
              rintro e wn ⟨rfl, hn, hbn, hsn⟩
              rw [Int.toNat_natCast] at hn
              have HP : Hid (W = (pp2 ++ vint u.code.length) ++ (u.code.flatMap insW ++ [])) := Lib.hid (by rw [HZ.out]; simp only [List.append_assoc])
              have hpl3 : (pp2 ++ vint u.code.length).length ≤ 655350800000 := by rw [List.length_append]; omega
              have HWp := Lib.hid hn; have HBp := Lib.hid (HBk.out.trans hbn)
              have e4 := (HUX.out.below HBp.out).c5
              clear hn hbn hsn e3 HZ HK hpk hpl2 hp2 hnl hz hzl HWk HBk
              clear HQ hlen hk hlt
              generalize hpq : pp2 ++ vint u.code.length = p3 at *
              clear hpq
              have hlen := HTB.out.code1
              have HQ : Hid (W = p3 ++ ((u.code.drop 0).flatMap insW ++ [])) := Lib.hid (by rw [HP.out, List.drop_zero])
              clear HP
              go_wp2_with fail
              go_loopw [119] (fun iv wr => ∃ (k : Nat) (pp3 : List UInt8), k ≤ u.code.length ∧ iv = .int .i64 k ∧ Hid (W = pp3 ++ ((u.code.drop k).flatMap insW ++ [])) ∧ pp3.length ≤ p3.length + 100000 * k ∧ Hid (WrAt w5.heap.size w5.heap.size pp3 wr) ∧ Hid (Below w5.heap.size w5 wr)) (fun iv _ => u.code.length - (intOf iv).toNat)
              case atStart => exact ⟨0, p3, Nat.zero_le _, rfl, HQ, by omega, HWp, HBp⟩
              case round =>
                obtain ⟨k, pp3, hk, rfl, HK, hpk, HWk, HBk⟩ := hrel
                rename World => wr3
                clear HWp HBp
                by_cases hlt : k < u.code.length
                · have d5 := (HUX.out.below HBk.out).c5
                  obtain ⟨bc, oc, so, co', go', sc, cc', gc', hco, hxb⟩ := ibox_of HUP5.out.code hlt
                  subst hco
                  have HST := Lib.hid (flat_drop insW u.code hlt)
                  have hib := HIN.out k hlt
                  have HOP : Hid (1 ≤ u.code[k].op ∧ u.code[k].op ≤ 40) := Lib.hid (by unfold insB at hib; rw [Bool.and_eq_true] at hib; exact of_decide_eq_true hib.1)
                  have HWI2 := Lib.hid (ins_ok HTB.out hib)
                  have HXB := Lib.hid hxb
                  have hcl := HUP5.out.codeLen
                  have hbl := HXB.out.lt
                  clear hib hxb
                  have hal := instrW_len HWI2.out
                  have HRW5 := Lib.hid (HRW.out.below HB5.out)
                  go_wp2_with fail
                  refine (winstr_any w5 w5.heap.size pp3 bc (oc + k * 10) u.code[k] so co' go' sc cc' gc' wr3 HRW5.out HWk.out HBk.out HXB.out HOP.out HWI2.out (by omega)).mono ?_
                  rintro e w11 ⟨rfl, h11, hb11, hs11⟩
                  go_wp2_with fail
                  go_roundw
                  case rel => exact ⟨k + 1, pp3 ++ insW u.code[k], by omega, by go_num, Lib.hid (by rw [HK.out, HST.out]; simp only [List.append_assoc]), by rw [List.length_append]; unfold insW; omega, Lib.hid h11, Lib.hid (HBk.out.trans hb11)⟩
                  case measure => simp [intOf]; omega
                · have HZ : Hid (W = pp3) := Lib.hid (by rw [HK.out, List.drop_eq_nil_of_le (by omega)]; exact List.append_nil _)
                  obtain ⟨hBr, hBw, bv, hbk, hown, hne⟩ := HWk.out
                  have z0 : wr3.cell? ⟨w5.heap.size, 0, none⟩ = some bv := by rw [cell_of_row _ _ _ _ _ _ hbk]; rfl
                  have hcv := conv_wr hown (by rw [← HZ.out]; exact HNE.out)
                  have hrl := lt_of_row hbk
                  have HF : Hid (Below B0 w wr3) := Lib.hid (HBA.out.trans ((HB5.out.trans (HBk.out.mono HB5.out.size)).mono (by have := HBA.out.size; have := HBE.out; omega)))
                  obtain ⟨ao', capp3, rfl⟩ := slice_of_owns hown
                  clear hown hbk hne
                  rw [← HZ.out] at hcv z0
                  go_wp2_with fail
                  go_ret2
                  exact ⟨rfl, by rw [HBE.out]; exact HF.out⟩
end Go.Proofs.YtghgbikmlbildaaDoor
