/-
  CodeAhead: the walk (printed by gen_ahead.py).
-/
import Derived.Test.YtghgbikmlbildaaDoorWAwake
import Derived.Test.YtghgbikmlbildaaDoorLCap
namespace Go.Proofs.YtghgbikmlbildaaDoor
open Go.RowKit
set_option linter.unusedVariables false
set_option linter.unusedSimpArgs false

set_option maxRecDepth 100000 in
set_option maxHeartbeats 40000000 in
theorem ahead_walk (u : RUnit) (lo fo go co : Option Addr) (lc fc gc cc : Nat) (w : World) (hup : UP w u lo fo go co) (hrows : RowsAt w) (hsp : SpaceAt w) (hnm : ∀ x ∈ u.code, x.name.size ≤ 140737488351232) :
    Calls Tryd.prog 3 #[.agg #[.string u.mdl, .int .i64 u.vsn, .slice lo u.lits.length lc, .slice fo u.funcs.length fc, .slice go u.funs.length gc, .slice co u.code.length cc]] w fun e w' => e = .returned (.bool true) ∧ Below w.heap.size w w' := by
  have HUP := Lib.hid hup; have HR := Lib.hid hrows; have HS := Lib.hid hsp; have HNM := Lib.hid hnm
  clear hup hrows hsp hnm
  go_enter Tryd.func3, Tryd.ntmps3
  go_upto_region 1 with fail
  have hbx := ubox_new w u lo fo go co lc fc gc cc
  have hba : Below w.heap.size w (w.alloc (.cells #[.string u.mdl, .int .i64 u.vsn, .slice lo u.lits.length lc, .slice fo u.funcs.length fc, .slice go u.funs.length gc, .slice co u.code.length cc] 27)) := (Below.refl _ _).alloc (Nat.le_refl _) _
  generalize w.alloc (.cells #[.string u.mdl, .int .i64 u.vsn, .slice lo u.lits.length lc, .slice fo u.funcs.length fc, .slice go u.funs.length gc, .slice co u.code.length cc] 27) = Wa at *
  have HBA := Lib.hid hba; have HBX := Lib.hid hbx
  generalize hB : w.heap.size = B at *
  have HBE := Lib.hid hB
  clear hB hba
  have HUa : Hid (UP Wa u lo fo go co) := Lib.hid (HUP.out.below (by rw [HBE.out]; exact HBA.out))
  have HRa : Hid (RowsAt Wa) := Lib.hid (HR.out.below (by rw [HBE.out]; exact HBA.out))
  have HSa : Hid (SpaceAt Wa) := Lib.hid (HS.out.below (by rw [HBE.out]; exact HBA.out))
  have HFIN : Hid (∀ wx, Below Wa.heap.size Wa wx → Below B w wx) := Lib.hid (fun wx h => HBA.out.trans (h.mono (by have := HBA.out.size; have := HBE.out; omega)))
  have d0 := hbx.c0; have d1 := hbx.c1; have d2 := hbx.c2; have d3 := hbx.c3; have d4 := hbx.c4; have d5 := hbx.c5
  have hbl := hbx.lt
  clear hbx
  go_wp2_with fail
  refine (large_any u lo fo go co lc fc gc cc Wa HUa.out).mono ?_
  rintro e w1 ⟨b, rfl, hb1, hq⟩
  have HB1 := Lib.hid hb1; have HQ := Lib.hid hq
  clear hb1 hq d0 d1 d2 d3 d4 d5
  cases b with
  | true =>
    go_wp2_with fail
    refine (awake_any w1 (HRa.out.below HB1.out) (HSa.out.below HB1.out)).mono ?_
    rintro e w2 ⟨rfl, hb2⟩
    go_wp2_with fail
    go_ret
    exact ⟨rfl, by rw [HBE.out]; exact HFIN.out _ (below_next HB1.out hb2)⟩
  | false =>
    obtain ⟨hl4, f0, hf0, hp0⟩ := HQ.out rfl
    obtain ⟨f, hlits, hcap⟩ := depth_of hf0 hp0
    have hbw := HBX.out.below HB1.out
    have d0 := hbw.c0; have d1 := hbw.c1; have d2 := hbw.c2; have d3 := hbw.c3; have d4 := hbw.c4; have d5 := hbw.c5
    have hbl2 := hbw.lt
    have HCK := Lib.hid (check_any f u lo fo go co lc fc gc cc w1 (HRa.out.below HB1.out) (HSa.out.below HB1.out) (HUa.out.below HB1.out) (hlits.tms HB1.out) hcap (fun x hx => Nat.le_trans (HNM.out x hx) (by decide)))
    have HOK : Hid (checkE (f + 1) u = 0 → ∀ k (hk : k < u.code.length), insB u k u.code[k] = true) := Lib.hid (fun h => (check_ok h).2.2)
    have HTWO := Lib.hid (checkE_two (f + 1) u)
    clear hl4 hf0 hp0 hlits hcap hbw HQ
    generalize checkI (f + 1) u = ci at *
    generalize checkE (f + 1) u = ce at *
    rcases HTWO.out with rfl | rfl
    · have HIN := Lib.hid (HOK.out rfl)
      go_wp2_with fail
      refine HCK.out.mono ?_
      rintro e w2 ⟨rfl, hb2⟩
      have HB2 := Lib.hid (below_next HB1.out hb2)
      clear hb2 HCK HOK d0 d1 d2 d3 d4 d5 hbl2
      go_wp2_with fail
      go_loopw [5] (fun iv wr => ∃ i : Nat, i ≤ u.code.length ∧ iv = .int .i64 i ∧ Hid (Below Wa.heap.size Wa wr)) (fun iv _ => u.code.length - (intOf iv).toNat)
      case atStart => exact ⟨0, Nat.zero_le _, rfl, HB2⟩
      case round =>
        obtain ⟨i, hi, rfl, HBw⟩ := hrel
        rename World => wo
        have d5 := (HBX.out.below HBw.out).c5
        have hbl2 := (HBX.out.below HBw.out).lt
        have hcl := HUa.out.codeLen
        by_cases hlt : i < u.code.length
        · obtain ⟨bc, oc, so, co', go', sc, cc', gc', hco, hxb⟩ := ibox_of (HUa.out.below HBw.out).code hlt
          have c0 := hxb.c0; have c1 := hxb.c1; have c2 := hxb.c2; have c3 := hxb.c3; have c4 := hxb.c4; have c5 := hxb.c5; have c6 := hxb.c6; have c7 := hxb.c7; have c8 := hxb.c8; have c9 := hxb.c9
          have hxl := hxb.lt
          have HCS := Lib.hid hxb.cases
          have r1 := hxb.rop; have r2 := hxb.rto; have r3 := hxb.rcases
          have hah := ahead_of (HIN.out i hlt)
          have HAC := Lib.hid hah.cases
          have HAT := Lib.hid hah.jump
          clear hxb hah
          subst hco
          generalize u.code[i] = x at *
          obtain ⟨op, ⟨dk, dn⟩, src, jt, nn, lv, nm, cases, segs⟩ := x
          simp only at c0 c1 c2 c3 c4 c5 c6 c7 c8 c9 r1 r2 r3 HCS HAC HAT
          generalize src.length = sl at *
          generalize segs.length = gl at *
          go_upto_region 10 with fail
          have hLx := heap_alloc_new wo (.cells #[.int .i64 op, .int .i64 dk, .int .i64 dn, .slice so sl sc, .int .i64 jt, .int .i64 nn, .int .i64 lv, .string nm, .slice co' cases.length cc', .slice go' gl gc'] 39)
          have hLb := (Below.refl wo.heap.size wo).alloc (Nat.le_refl _) (.cells #[.int .i64 op, .int .i64 dk, .int .i64 dn, .slice so sl sc, .int .i64 jt, .int .i64 nn, .int .i64 lv, .string nm, .slice co' cases.length cc', .slice go' gl gc'] 39)
          generalize wo.alloc (.cells #[.int .i64 op, .int .i64 dk, .int .i64 dn, .slice so sl sc, .int .i64 jt, .int .i64 nn, .int .i64 lv, .string nm, .slice co' cases.length cc', .slice go' gl gc'] 39) = Wx at *
          have HLX := Lib.hid hLx; have HLB := Lib.hid hLb
          have HBx := Lib.hid (below_next HBw.out hLb)
          clear c0 c1 c2 c3 c4 c5 c6 c7 c8 c9 d5 hLx hLb hbl2 hxl
          generalize hLE : wo.heap.size = LB at *
          have HLE := Lib.hid hLE
          clear hLE
          go_wp2_with fail
          go_loopw [7] (fun kv wr => ∃ k : Nat, k ≤ cases.length ∧ kv = .int .i64 k ∧ Hid (Below Wx.heap.size Wx wr)) (fun kv _ => cases.length - (intOf kv).toNat)
          case atStart => exact ⟨0, Nat.zero_le _, rfl, Lib.hid (Below.refl _ _)⟩
          case round =>
            obtain ⟨k, hk, rfl, HBk⟩ := hrel
            rename World => wr
            have hL2 := (HBk.out.block LB (lt_of_row HLX.out)).trans HLX.out
            have hLl := lt_of_row hL2
            have e0 : wr.cell? ⟨LB, 0, none⟩ = some (.int .i64 op) := by rw [cell_of_row _ _ _ _ _ _ hL2]; rfl
            have e4 : wr.cell? ⟨LB, 4, none⟩ = some (.int .i64 jt) := by rw [cell_of_row _ _ _ _ _ _ hL2]; rfl
            have e8 : wr.cell? ⟨LB, 8, none⟩ = some (.slice co' cases.length cc') := by rw [cell_of_row _ _ _ _ _ _ hL2]; rfl
            have HBr := Lib.hid (below_next HBx.out HBk.out)
            have d5 := (HBX.out.below HBr.out).c5
            have hbl2 := (HBX.out.below HBr.out).lt
            clear hL2
            by_cases hkl : k < cases.length
            · obtain ⟨b2, off, hao, hb2, q0, q1, s0, s1⟩ := (HCS.out.mono (by rw [HLE.out]; exact HLB.out.trans (HBk.out.mono (by have := HLB.out.size; have := HLE.out; omega))) fun _ _ h => h).case hkl
              subst hao
              obtain ⟨t1, t2⟩ := HAC.out _ (List.getElem_mem hkl)
              generalize cases[k] = a at *
              obtain ⟨al, at'⟩ := a
              simp only at q0 q1 t1 t2
              have g1 : decide (at' ≤ (i : Int)) = false := decide_eq_false (by omega)
              have g2 : decide ((u.code.length : Int) ≤ at') = false := decide_eq_false (by omega)
              clear t1 t2 s0 s1
              go_wp2_with fail
              go_quiet (fail)
              go_wp2_with fail
              go_roundw
              case rel => exact ⟨k + 1, by omega, by go_num, Lib.hid (below_drewN HBk.out _)⟩
              case measure => simp [intOf]; omega
            · rcases HAT.out with ⟨ho, h1, h2, h3⟩ | ⟨hm, h1, h2⟩ | ⟨hm, ho1, ho2, h1⟩
              · obtain ⟨m, rfl⟩ := Int.eq_ofNat_of_zero_le h1
                have hml : m < u.code.length := by omega
                obtain ⟨bc', oc', _, _, _, _, _, _, hco2, hxb2⟩ := ibox_of (HUa.out.below HBr.out).code hml
                have z0 := hxb2.c0
                have hzl := hxb2.lt
                obtain ⟨rfl, rfl⟩ : bc = bc' ∧ oc = oc' := by injection hco2 with e; injection e with e1 e2; exact ⟨e1, e2⟩
                have hop2 : u.code[m].op = 37 := by
                  have := h3
                  unfold opAt at this
                  rw [Int.toNat_natCast, List.getElem?_eq_getElem hml] at this
                  exact this
                rw [hop2] at z0
                have g1 : decide ((m : Int) < 0) = false := decide_eq_false (by omega)
                have g2 : decide ((u.code.length : Int) ≤ (m : Int)) = false := decide_eq_false (by omega)
                clear h1 h3 hop2 hxb2 hco2
                rcases ho with rfl | rfl
                · go_wp2_with fail
                  go_roundw
                  case rel => exact ⟨i + 1, by omega, by go_num, HBr⟩
                  case measure => simp [intOf]; omega
                · go_wp2_with fail
                  go_roundw
                  case rel => exact ⟨i + 1, by omega, by go_num, HBr⟩
                  case measure => simp [intOf]; omega
              · have g1 : decide (jt ≤ (i : Int)) = false := decide_eq_false (by omega)
                have g2 : decide ((u.code.length : Int) ≤ jt) = false := decide_eq_false (by omega)
                have hm2 : op = 8 ∨ op = 9 ∨ op = 10 ∨ op = 11 ∨ op = 12 ∨ op = 13 ∨ op = 28 ∨ op = 30 ∨ op = 31 ∨ op = 32 ∨ op = 33 ∨ op = 34 ∨ op = 37 := by simpa [aheadL] using hm
                clear hm h1 h2
                rcases hm2 with rfl | rfl | rfl | rfl | rfl | rfl | rfl | rfl | rfl | rfl | rfl | rfl | rfl
                all_goals go_wp2_with fail
                all_goals go_roundw
                all_goals first
                  | exact ⟨i + 1, by omega, by go_num, HBr⟩
                  | (simp [intOf]; omega)
              · subst h1
                have hm2 : op ≠ 8 ∧ op ≠ 9 ∧ op ≠ 10 ∧ op ≠ 11 ∧ op ≠ 12 ∧ op ≠ 13 ∧ op ≠ 28 ∧ op ≠ 30 ∧ op ≠ 31 ∧ op ≠ 32 ∧ op ≠ 33 ∧ op ≠ 34 ∧ op ≠ 37 := by simpa [aheadL] using hm
                obtain ⟨n0, n1, n2, n3, n4, n5, n6, n7, n8, n9, n10, n11, n12⟩ := hm2
                have b8 : (op == 8) = false := beq_eq_false_iff_ne.2 n0
                have b9 : (op == 9) = false := beq_eq_false_iff_ne.2 n1
                have b10 : (op == 10) = false := beq_eq_false_iff_ne.2 n2
                have b11 : (op == 11) = false := beq_eq_false_iff_ne.2 n3
                have b12 : (op == 12) = false := beq_eq_false_iff_ne.2 n4
                have b13 : (op == 13) = false := beq_eq_false_iff_ne.2 n5
                have b28 : (op == 28) = false := beq_eq_false_iff_ne.2 n6
                have b30 : (op == 30) = false := beq_eq_false_iff_ne.2 n7
                have b31 : (op == 31) = false := beq_eq_false_iff_ne.2 n8
                have b32 : (op == 32) = false := beq_eq_false_iff_ne.2 n9
                have b33 : (op == 33) = false := beq_eq_false_iff_ne.2 n10
                have b34 : (op == 34) = false := beq_eq_false_iff_ne.2 n11
                have b37 : (op == 37) = false := beq_eq_false_iff_ne.2 n12
                have b39 : (op == 39) = false := beq_eq_false_iff_ne.2 ho1
                have b40 : (op == 40) = false := beq_eq_false_iff_ne.2 ho2
                clear hm ho1 ho2 n0 n1 n2 n3 n4 n5 n6 n7 n8 n9 n10 n11 n12
                go_wp2_with fail
                go_roundw
                case rel => exact ⟨i + 1, by omega, by go_num, HBr⟩
                case measure => simp [intOf]; omega
        · go_wp2_with fail
          refine (awake_any wo (HRa.out.below HBw.out) (HSa.out.below HBw.out)).mono ?_
          rintro e w3 ⟨rfl, hb3⟩
          go_wp2_with fail
          go_ret
          exact ⟨rfl, by rw [HBE.out]; exact HFIN.out _ (below_next HBw.out hb3)⟩
    · go_wp2_with fail
      refine HCK.out.mono ?_
      rintro e w2 ⟨rfl, hb2⟩
      have HB2 := Lib.hid (below_next HB1.out hb2)
      clear hb2
      go_wp2_with fail
      refine (awake_any w2 (HRa.out.below HB2.out) (HSa.out.below HB2.out)).mono ?_
      rintro e w3 ⟨rfl, hb3⟩
      go_wp2_with fail
      go_ret
      exact ⟨rfl, by rw [HBE.out]; exact HFIN.out _ (below_next HB2.out hb3)⟩
end Go.Proofs.YtghgbikmlbildaaDoor
