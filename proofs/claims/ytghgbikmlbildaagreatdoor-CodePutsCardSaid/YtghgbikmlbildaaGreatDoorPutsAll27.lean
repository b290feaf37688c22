/-
  The reference's cases: the walk (printed by gen_rcases.py). The reference's tables: the walk (printed by gen_rtables.py).
-/
import Derived.Test.YtghgbikmlbildaaGreatDoorPutsAll07
import Derived.Test.YtghgbikmlbildaaGreatDoorPutsAll12
import Derived.Test.YtghgbikmlbildaaGreatDoorPutsAll16
import Derived.Test.YtghgbikmlbildaaGreatDoorPutsAll17
import Derived.Test.YtghgbikmlbildaaGreatDoorPutsAll25
import Derived.Test.YtghgbikmlbildaaGreatDoorPutsAll26
namespace Go.Proofs.YtghgbikmlbildaaGreatDoor
open Go.RowKit
set_option linter.unusedVariables false
set_option linter.unusedSimpArgs false

theorem rcomp_lits {w : World} {f : Nat} {lo : Option Addr} {lits : List Tm} (h : LitsOk w f lo lits) {i j : Nat} (hi : i < lits.length) (hj : j < lits.length) (ki : kindOk lits[i] = true) (kj : kindOk lits[j] = true) {ai aj : Option Addr} {ci cj : Nat}
  (si : SlAt w 9 (TmAt w f) ai lits[i].items) (sj : SlAt w 9 (TmAt w f) aj lits[j].items) (oi : lits[i].Ok) (oj : lits[j].Ok) (wx : World) (hx : Below w.heap.size w wx) :
  Calls Tryz.prog 94 #[.agg #[.int .i64 lits[i].kind, .int .i64 lits[i].int, .int .i64 lits[i].gen, .string lits[i].name, .string lits[i].func, .int .i64 lits[i].arity, .slice ai lits[i].items.length ci, .string lits[i].bytes, .int .i64 lits[i].bits], .agg #[.int .i64 lits[j].kind, .int .i64 lits[j].int, .int .i64 lits[j].gen, .string lits[j].name, .string lits[j].func, .int .i64 lits[j].arity, .slice aj lits[j].items.length cj, .string lits[j].bytes, .int .i64 lits[j].bits]] wx fun e w' => e = .returned (.int .i64 (cmpS lits[i] lits[j])) ∧ Below wx.heap.size wx w' := by
 obtain ⟨vi, bi⟩ := h.ok _ (List.getElem_mem hi)
 obtain ⟨vj, bj⟩ := h.ok _ (List.getElem_mem hj)
 exact rcompare_simple f lits[i] lits[j] ai aj ci cj wx (si.tms hx) (sj.tms hx) oi oj bi bj vi vj (of_decide_eq_true ki) (of_decide_eq_true kj)
set_option maxRecDepth 100000 in
set_option maxHeartbeats 40000000 in
theorem rcases_any (u : RUnit) (lo fo go co : Option Addr) (lc fc gc cc : Nat) (x : RIns) (so co' go' : Option Addr) (sc cc' gc' : Nat) (f : Nat) (w : World) (hl : u.lits.length ≤ 9223372036854775807) (hlit : LitsOk w f lo u.lits) (hca : SlAt w 2 CaseR co' x.cases) (hse : SlAt w 6 SegR go' x.segs) (rc : x.cases.length ≤ 9223372036854775807) (rs : x.segs.length ≤ 9223372036854775807) :
  Calls Tryz.prog 42 #[.agg #[.string u.mdl, .int .i64 u.vsn, .slice lo u.lits.length lc, .slice fo u.funcs.length fc, .slice go u.funs.length gc, .slice co u.code.length cc], .agg #[.int .i64 x.op, .int .i64 x.dst.kind, .int .i64 x.dst.n, .slice so x.src.length sc, .int .i64 x.to, .int .i64 x.n, .int .i64 x.live, .string x.name, .slice co' x.cases.length cc', .slice go' x.segs.length gc']] w fun e w' => e = .returned (.bool (listsB u.lits x)) ∧ Below w.heap.size w w' := by
 have HE : Hid (listsB u.lits x = (((!(x.op == 12) || wi x.cases.length 1 1000) && decide ((x.segs.length : Int) ≤ 60)) && (casesB u.lits x.cases && x.segs.all (segB u.lits.length)))) := Lib.hid rfl
 have HLI0 := Lib.hid hlit; have HCA0 := Lib.hid hca; have HSE0 := Lib.hid hse
 have hwi := fun wx => rwithin_any (x.cases.length : Int) 1 1000 wx
 clear hlit hca hse
 go_enter Tryz.func42, Tryz.ntmps42
 go_upto_region 1 with fail
 obtain ⟨hU, hX, hBW⟩ := two_boxes w u lo fo go co lc fc gc cc x so co' go' sc cc' gc'
 have HBW := Lib.hid hBW
 have HLI : Hid (LitsOk _ f lo u.lits) := Lib.hid (HLI0.out.below hBW)
 have HCA := Lib.hid (HCA0.out.mono hBW fun _ _ h => h)
 have HSE := Lib.hid (HSE0.out.mono hBW fun _ _ h => h)
 clear hBW HLI0 HCA0 HSE0
 generalize (w.alloc (.cells #[.string u.mdl, .int .i64 u.vsn, .slice lo u.lits.length lc, .slice fo u.funcs.length fc, .slice go u.funs.length gc, .slice co u.code.length cc] 27)).alloc (.cells #[.int .i64 x.op, .int .i64 x.dst.kind, .int .i64 x.dst.n, .slice so x.src.length sc, .int .i64 x.to, .int .i64 x.n, .int .i64 x.live, .string x.name, .slice co' x.cases.length cc', .slice go' x.segs.length gc'] 50) = W at *
 generalize hBz : w.heap.size = B at *
 have HBZ := Lib.hid hBz
 clear hBz
 have HFIN : Hid (∀ wx, Below W.heap.size W wx → Below B w wx) := Lib.hid (fun wx hh => HBW.out.trans (hh.mono (by have := HBW.out.size; have := HBZ.out; omega)))
 have HU := Lib.hid hU; have HX := Lib.hid hX
 have c0 := hX.c0; have c8 := hX.c8; have c9 := hX.c9
 have hlx := hX.lt; have hlu := hU.lt
 clear hU hX
 generalize hr1 : (!(x.op == 12) || wi x.cases.length 1 1000) = r1 at HE
 have HR1 := Lib.hid hr1
 clear hr1
 go_cut [19] (fun s wx => ∃ n1 : Bool, s = .bool n1 ∧ Hid (n1 = !r1) ∧ W = wx)
 case first =>
  generalize wi x.cases.length 1 1000 = w1 at *
  cases t12 : (x.op == 12) with
  | true =>
   cases w1 with
   | false =>
    have hv := Lib.hid (HR1.out.symm.trans (by rw [t12]; rfl : _ = false))
    go_wp2_with (go_at_call 85; refine (hwi _).mono ?_; rintro e w1 ⟨rfl, rfl⟩)
    go_meet
    case rel => exact ⟨_, rfl, Lib.hid (by rw [hv.out]; rfl), rfl⟩
   | true =>
    have hv := Lib.hid (HR1.out.symm.trans (by rw [t12]; rfl : _ = true))
    go_wp2_with (go_at_call 85; refine (hwi _).mono ?_; rintro e w1 ⟨rfl, rfl⟩)
    go_meet
    case rel => exact ⟨_, rfl, Lib.hid (by rw [hv.out]; rfl), rfl⟩
  | false =>
   have hv := Lib.hid (HR1.out.symm.trans (by rw [t12]; rfl : _ = true))
   go_wp2_with fail
   go_meet
   case rel => exact ⟨_, rfl, Lib.hid (by rw [hv.out]; rfl), rfl⟩
 case rest =>
  obtain ⟨n1, rfl, hn1, rfl⟩ := hcut
  clear HR1 hwi
  cases r1 with
  | false =>
   obtain rfl : n1 = true := hn1.out
   go_wp2_with fail
   go_ret
   exact ⟨retb (by rw [HE.out]; rfl), by rw [HBZ.out]; exact HFIN.out _ (Below.refl _ _)⟩
  | true =>
   obtain rfl : n1 = false := hn1.out
   have HE1 : Hid (listsB u.lits x = (decide ((x.segs.length : Int) ≤ 60) && (casesB u.lits x.cases && x.segs.all (segB u.lits.length)))) := Lib.hid (by rw [HE.out, Bool.true_and])
   clear HE
   go_wp2_with fail
   go_loopw [5, 6, 7] (fun i _ _ wr => ∃ k : Nat, k ≤ x.cases.length ∧ i = .int .i64 k ∧ Hid (∀ j, j < k → caseOk u.lits x.cases j = true) ∧ Below W.heap.size W wr) (fun i _ _ _ => x.cases.length - (intOf i).toNat)
   case atStart => exact ⟨0, Nat.zero_le _, rfl, Lib.hid (fun j h => absurd h (Nat.not_lt_zero _)), Below.refl _ _⟩
   case round =>
    obtain ⟨k, hk, rfl, HK, hBw⟩ := hrel
    rename World => wr
    clear c0 c8 c9
    have hxr := HX.out.below hBw
    have hur := HU.out.below hBw
    have HBWR := Lib.hid hBw
    have c8 := hxr.c8; have c9 := hxr.c9
    have hlx := hxr.lt; have hlu := hur.lt
    have u2 := hur.c2
    by_cases hlt : k < x.cases.length
    ·obtain ⟨b1, off1, hco, hb1, q0, q1, rl, rt⟩ := (HCA.out.mono hBw fun _ _ h => h).case hlt
     subst hco
     have hcl := clit_at hlt
     generalize x.cases[k].to = ct at *
     generalize x.cases[k].lit = cl at *
     have hwr1 : IntKind.i64.wrap ((u.lits.length : Int) - 1) = (u.lits.length : Int) - 1 := by rw [IntKind.wrap_i64]; omega
     clear hxr hur hBw q1
     by_cases hin : 0 ≤ cl ∧ cl ≤ (u.lits.length : Int) - 1
     ·obtain ⟨m, rfl⟩ : ∃ m : Nat, cl = (m : Int) := ⟨cl.toNat, by omega⟩
      have hm : m < u.lits.length := by omega
      have hw1 := wi_yes hin.1 hin.2
      have hwc := fun wx => rwithin_any (m : Int) 0 ((u.lits.length : Int) - 1) wx
      have HW1 := Lib.hid hw1
      rw [hw1] at hwc
      obtain ⟨b2, off2, ai, ci, hlo, hb2, p0, p1, p2, p3, p4, p5, p6, p7, p8, hit, hok⟩ := (HLI.out.below HBWR.out).at'.tm hm
      have hla := litAt_at hm
      have HCL := Lib.hid hcl
      have HIT := Lib.hid hit; have HOK := Lib.hid hok
      subst hlo
      clear hcl hw1 hin rl rt hit hok
      generalize hkk : (u.lits[m]).kind = kk at p0
      have HKK := Lib.hid hkk
      clear hkk
      by_cases hko : kk = 1 ∨ kk = 2 ∨ kk = 8
      ·have HKO : Hid (kindOk u.lits[m] = true) := Lib.hid (by unfold kindOk; rw [HKK.out]; exact decide_eq_true hko)
       by_cases k0 : k = 0
       ·have HK2 : Hid (∀ j, j < k + 1 → caseOk u.lits x.cases j = true) := Lib.hid (fun j hj => by
         obtain rfl : j = k := by omega
         unfold caseOk
         rw [HCL.out, HW1.out, hla, HKO.out, decide_eq_true k0]; rfl)
        have hd0 : decide ((0 : Int) < (k : Int)) = false := decide_eq_false (by omega)
        have hd1 : decide (0 < k) = false := decide_eq_false (by omega)
        clear k0
        rcases hko with rfl | rfl | rfl
        all_goals
         go_wp2_with (go_at_call 85; refine (hwc _).mono ?_; rintro e w1 ⟨rfl, rfl⟩)
         go_quiet (fail)
         go_wp2_with fail
         go_roundw
         case rel => exact ⟨k + 1, by omega, by go_num, HK2, below_drewN HBWR.out _⟩
         case measure => simp [intOf]; omega
       ·obtain ⟨k', hk'⟩ : ∃ k', k = k' + 1 := ⟨k - 1, by omega⟩
        have hlt' : k' < x.cases.length := by omega
        have hprev := HK.out k' (by omega)
        obtain ⟨b1', off1', hco', hb1', q0', q1', rl', rt'⟩ := (HCA.out.mono HBWR.out fun _ _ h => h).case hlt'
        obtain ⟨rfl, rfl⟩ : b1 = b1' ∧ off1 = off1' := by injection hco' with h; injection h with h1 h2; exact ⟨h1, h2⟩
        have hcl' := clit_at hlt'
        generalize x.cases[k'].lit = cl' at *
        generalize x.cases[k'].to = ct' at *
        unfold caseOk at hprev
        rw [hcl'] at hprev
        have hpin : 0 ≤ cl' ∧ cl' ≤ (u.lits.length : Int) - 1 := by
         by_cases h : 0 ≤ cl' ∧ cl' ≤ (u.lits.length : Int) - 1
         ·exact h
         ·rw [wi_no h] at hprev; cases hprev
        obtain ⟨m', rfl⟩ : ∃ m' : Nat, cl' = (m' : Int) := ⟨cl'.toNat, by omega⟩
        have hm' : m' < u.lits.length := by omega
        rw [litAt_at hm'] at hprev
        have hko' : kindOk u.lits[m'] = true := by
         cases h : kindOk u.lits[m'] with
         | true => rfl
         | false => rw [h] at hprev; simp at hprev
        have HLW := Lib.hid (HLI.out.below HBWR.out)
        obtain ⟨b2', off2', ai', ci', hlo', hb2', r0, r1, r2, r3, r4, r5, r6, r7, r8, hit', hok'⟩ := HLW.out.at'.tm hm'
        obtain ⟨rfl, rfl⟩ : b2 = b2' ∧ off2 = off2' := by injection hlo' with h; injection h with h1 h2; exact ⟨h1, h2⟩
        have hLess := rcomp_lits (ci := ci') (cj := ci) HLW.out hm' hm hko' HKO.out hit' HIT.out hok' HOK.out
        have HOKK : Hid (caseOk u.lits x.cases k = decide (cmpS u.lits[m'] u.lits[m] < 0)) := Lib.hid (by
         unfold caseOk
         rw [HCL.out, HW1.out, hla, HKO.out, decide_eq_false k0, hk', Nat.add_sub_cancel, hcl', litAt_at hm']
         simp)
        have hd0 : decide ((0 : Int) < (k : Int)) = true := decide_eq_true (by omega)
        have hd1 : decide (0 < k) = true := decide_eq_true (by omega)
        have hwk : IntKind.i64.wrap ((k : Int) - 1) = (k' : Int) := by rw [IntKind.wrap_i64]; omega
        rw [HKK.out] at hLess
        have HDW : Hid (Below wr.heap.size wr wr.drew) := Lib.hid (Below.refl _ _).drew
        have SK0 := Lib.hid (sk_of HDW.out)
        clear q1' hprev hpin hcl' hla hit' hok' hlo' hco' rl' rt' k0 hk' hb1' hb2'
        generalize cmpS u.lits[m'] u.lits[m] = q at *
        generalize u.lits[m'] = t' at *
        generalize u.lits[m] = t at *
        by_cases hq : q < 0
        ·have HK2 : Hid (∀ j, j < k + 1 → caseOk u.lits x.cases j = true) := Lib.hid (fun j hj => by
          rcases Nat.eq_or_lt_of_le (Nat.le_of_lt_succ hj) with h | h
          ·rw [h, HOKK.out]; exact decide_eq_true hq
          ·exact HK.out j h)
         rcases hko with rfl | rfl | rfl
         all_goals
          go_wp2_with (go_at_call 85; refine (hwc _).mono ?_; rintro e w1 ⟨rfl, rfl⟩)
          first | go_region_held3 (fun w' => wr.heap.size ≤ w'.heap.size ∧ ∀ b o, b < wr.heap.size → w'.cell? ⟨b, o, none⟩ = wr.cell? ⟨b, o, none⟩) (first | with_reducible exact SK0.out | with_reducible exact HK5.out)
           ((go_at_call 94; refine (hLess _ HDW.out).mono ?_; rintro e w5 ⟨rfl, hb5⟩; have HK5 := Lib.hid (sk_of (below_next HDW.out hb5)); have HB5 := Lib.hid (below_next HDW.out hb5))) | fail
          go_wp2_with fail
          go_roundw
          case rel => exact ⟨k + 1, by omega, by go_num, HK2, HBWR.out.trans (HB5.out.mono HBWR.out.size)⟩
          case measure => simp [intOf]; omega
        ·have hq' : 0 ≤ q := by omega
         have E : Hid (listsB u.lits x = false) := Lib.hid (by rw [HE1.out, casesB_no hlt (HOKK.out.trans (decide_eq_false hq)), Bool.false_and, Bool.and_false])
         clear hq
         rcases hko with rfl | rfl | rfl
         all_goals
          go_wp2_with (go_at_call 85; refine (hwc _).mono ?_; rintro e w1 ⟨rfl, rfl⟩)
          first | go_region_held3 (fun w' => wr.heap.size ≤ w'.heap.size ∧ ∀ b o, b < wr.heap.size → w'.cell? ⟨b, o, none⟩ = wr.cell? ⟨b, o, none⟩) (first | with_reducible exact SK0.out | with_reducible exact HK5.out)
           ((go_at_call 94; refine (hLess _ HDW.out).mono ?_; rintro e w5 ⟨rfl, hb5⟩; have HK5 := Lib.hid (sk_of (below_next HDW.out hb5)); have HB5 := Lib.hid (below_next HDW.out hb5))) | fail
          go_wp2_with fail
          go_ret
          exact ⟨retb E.out.symm, by rw [HBZ.out]; exact HFIN.out _ (HBWR.out.trans (HB5.out.mono HBWR.out.size))⟩
      ·have E : Hid (listsB u.lits x = false) := Lib.hid (by
        rw [HE1.out, casesB_no hlt (by
         unfold caseOk kindOk
         rw [HCL.out, HW1.out, hla, HKK.out, decide_eq_false hko]; rfl), Bool.false_and, Bool.and_false])
       have t1 : (kk != 1) = true := by rw [bne_iff_ne]; exact fun h => hko (.inl h)
       have t2 : (kk != 2) = true := by rw [bne_iff_ne]; exact fun h => hko (.inr (.inl h))
       have t8 : (kk != 8) = true := by rw [bne_iff_ne]; exact fun h => hko (.inr (.inr h))
       clear hko
       go_wp2_with (go_at_call 85; refine (hwc _).mono ?_; rintro e w1 ⟨rfl, rfl⟩)
       go_ret
       exact ⟨retb E.out.symm, by rw [HBZ.out]; exact HFIN.out _ HBWR.out⟩
     ·have E : Hid (listsB u.lits x = false) := Lib.hid (by rw [HE1.out, casesB_no hlt (by unfold caseOk; rw [hcl, wi_no hin]; rfl), Bool.false_and, Bool.and_false])
      have hw0 := wi_no hin
      have hwc := fun wx => rwithin_any cl 0 ((u.lits.length : Int) - 1) wx
      rw [hw0] at hwc
      clear hcl hw0 hin
      go_wp2_with (go_at_call 85; refine (hwc _).mono ?_; rintro e w1 ⟨rfl, rfl⟩)
      go_ret
      exact ⟨retb E.out.symm, by rw [HBZ.out]; exact HFIN.out _ HBWR.out⟩
    ·have HC1 : Hid (casesB u.lits x.cases = true) := Lib.hid (casesB_yes (fun j hj => HK.out j (by omega)))
     have HE2 : Hid (listsB u.lits x = (decide ((x.segs.length : Int) ≤ 60) && x.segs.all (segB u.lits.length))) := Lib.hid (by rw [HE1.out, HC1.out, Bool.true_and])
     clear HE1 HC1 HK hxr hur hBw
     by_cases s60 : (x.segs.length : Int) ≤ 60
     ·have HE3 : Hid (listsB u.lits x = x.segs.all (segB u.lits.length)) := Lib.hid (by rw [HE2.out, decide_eq_true s60, Bool.true_and])
      have HI : Hid (x.segs.all (segB u.lits.length) = (x.segs.drop 0).all (segB u.lits.length)) := Lib.hid rfl
      clear HE2
      obtain ⟨wo, rfl⟩ : ∃ wo : World, wo = wr := ⟨_, rfl⟩
      go_wp2_with fail
      go_loopw [8, 9] (fun i _ wq => ∃ k : Nat, k ≤ x.segs.length ∧ i = .int .i64 k ∧ Hid (x.segs.all (segB u.lits.length) = (x.segs.drop k).all (segB u.lits.length)) ∧ Below W.heap.size W wq) (fun i _ _ => x.segs.length - (intOf i).toNat)
      case atStart => exact ⟨0, Nat.zero_le _, rfl, HI, HBWR.out⟩
      case round =>
       obtain ⟨k, hk, rfl, HK, hBq⟩ := hrel
       rename World => wr
       clear c8 c9 hlx hlu u2 HBWR
       have hxr := HX.out.below hBq
       have hur := HU.out.below hBq
       have HBQ := Lib.hid hBq
       have c9 := hxr.c9
       have hlx := hxr.lt; have hlu := hur.lt
       clear hxr
       by_cases hlt : k < x.segs.length
       ·obtain ⟨b1, off1, hgo, hb1, s0, s1, s2, s3, s4, s5, t0, t1, t2, t3, t4⟩ := (HSE.out.mono hBq fun _ _ h => h).seg hlt
        subst hgo
        have HST : Hid ((x.segs.drop k).all (segB u.lits.length) = (segB u.lits.length x.segs[k] && (x.segs.drop (k + 1)).all (segB u.lits.length))) := Lib.hid (by rw [List.drop_eq_getElem_cons hlt, List.all_cons])
        have hop1 := fun wx => roperand_any u lo fo go co lc fc gc cc x.segs[k].val wx hl ⟨t1, t2⟩
        have hop2 := fun wx => roperand_any u lo fo go co lc fc gc cc x.segs[k].size wx hl ⟨t3, t4⟩
        have hno := fun wx => rnone_any x.segs[k].size wx
        have HSB : Hid (segB u.lits.length x.segs[k] = (wi x.segs[k].type 1 3 && (opdB u.lits.length x.segs[k].val && ((noneB x.segs[k].size || opdB u.lits.length x.segs[k].size) && (!x.segs[k].little || x.segs[k].type == 1))))) := Lib.hid rfl
        have hwt := fun wx => rwithin_any x.segs[k].type 1 3 wx
        have HOP1 := Lib.hid hop1; have HOP2 := Lib.hid hop2; have HNO := Lib.hid hno
        clear hop1 hop2 hno
        generalize segB u.lits.length x.segs[k] = sb at *
        generalize opdB u.lits.length x.segs[k].val = ov at *
        generalize opdB u.lits.length x.segs[k].size = os at *
        generalize noneB x.segs[k].size = nz at *
        generalize wi x.segs[k].type 1 3 = wt at *
        generalize x.segs[k] = g at *
        obtain ⟨ty, ⟨vk, vn⟩, ⟨sk, sn⟩, lit⟩ := g
        simp only at *
        have hbx : Below wr.heap.size wr (wr.alloc (.cells #[.int .i64 ty, .int .i64 vk, .int .i64 vn, .int .i64 sk, .int .i64 sn, .bool lit] 133)) := (Below.refl _ _).alloc (Nat.le_refl _) _
        have hbr := heap_alloc_new wr (.cells #[.int .i64 ty, .int .i64 vk, .int .i64 vn, .int .i64 sk, .int .i64 sn, .bool lit] 133)
        have HBX := Lib.hid hbx; have HBR := Lib.hid hbr
        have HUR := Lib.hid hur
        clear hbx hbr t0 t1 t2 t3 t4 hBq hur
        have u0 := (HUR.out.below HBX.out).c0; have u1 := (HUR.out.below HBX.out).c1; have u2 := (HUR.out.below HBX.out).c2; have u3 := (HUR.out.below HBX.out).c3; have u4 := (HUR.out.below HBX.out).c4; have u5 := (HUR.out.below HBX.out).c5
        cases wt with
        | false =>
         have E : Hid (listsB u.lits x = false) := Lib.hid (by rw [HE3.out, HK.out, HST.out, HSB.out]; simp)
         go_wp2_with (go_at_call 85; refine (hwt _).mono ?_; rintro e w1 ⟨rfl, rfl⟩)
         go_ret
         exact ⟨retb E.out.symm, by rw [HBZ.out]; exact HFIN.out _ (HBQ.out.trans (HBX.out.mono HBQ.out.size))⟩
        | true =>
         go_wp2_with (go_at_call 85; refine (hwt _).mono ?_; rintro e w1 ⟨rfl, rfl⟩)
         refine (HOP1.out _).mono ?_
         rintro e w5 ⟨rfl, hb5⟩
         have HB5 := Lib.hid (below_next HBX.out hb5)
         have hbra := (hb5.block wr.heap.size (lt_of_row HBR.out)).trans HBR.out
         obtain ⟨g0, g1, g2, g3, g4, g5⟩ := seg_cells hbra
         have hlra := lt_of_row hbra
         clear u0 u1 u2 u3 u4 u5
         have u0 := (HUR.out.below HB5.out).c0; have u1 := (HUR.out.below HB5.out).c1; have u2 := (HUR.out.below HB5.out).c2; have u3 := (HUR.out.below HB5.out).c3; have u4 := (HUR.out.below HB5.out).c4; have u5 := (HUR.out.below HB5.out).c5
         have hlua := (HUR.out.below HB5.out).lt
         have HBRA := Lib.hid hbra
         clear hb5 hbra
         cases ov with
         | false =>
          have E : Hid (listsB u.lits x = false) := Lib.hid (by rw [HE3.out, HK.out, HST.out, HSB.out]; simp [])
          go_wp2_with fail
          go_ret
          exact ⟨retb E.out.symm, by rw [HBZ.out]; exact HFIN.out _ (HBQ.out.trans (HB5.out.mono HBQ.out.size))⟩
         | true =>
          go_wp2_with fail
          refine (HOP2.out _).mono ?_
          rintro e w6 ⟨rfl, hb6⟩
          have HB6 := Lib.hid (below_next HB5.out hb6)
          have hbrb := (hb6.block wr.heap.size hlra).trans HBRA.out
          clear g0 g1 g2 g3 g4 g5 u0 u1 u2 u3 u4 u5
          obtain ⟨g0, g1, g2, g3, g4, g5⟩ := seg_cells hbrb
          have hlrb := lt_of_row hbrb
          have HBRB := Lib.hid hbrb
          clear hb6 hbrb
          cases os with
          | true =>
           cases lit with
           | false =>
            have HK2 : Hid (x.segs.all (segB u.lits.length) = (x.segs.drop (k + 1)).all (segB u.lits.length)) := Lib.hid (by rw [HK.out, HST.out, HSB.out]; simp [])
            go_wp2_with fail
            go_roundw
            case rel => exact ⟨k + 1, by omega, by go_num, HK2, HBQ.out.trans (HB6.out.mono HBQ.out.size)⟩
            case measure => simp [intOf]; omega
           | true =>
            cases ty1 : (ty == 1) with
            | true =>
             have ty2 : (ty != 1) = false := by unfold bne; rw [ty1]; rfl
             have HK2 : Hid (x.segs.all (segB u.lits.length) = (x.segs.drop (k + 1)).all (segB u.lits.length)) := Lib.hid (by rw [HK.out, HST.out, HSB.out]; simp [ty1])
             go_wp2_with fail
             go_roundw
             case rel => exact ⟨k + 1, by omega, by go_num, HK2, HBQ.out.trans (HB6.out.mono HBQ.out.size)⟩
             case measure => simp [intOf]; omega
            | false =>
             have ty2 : (ty != 1) = true := by unfold bne; rw [ty1]; rfl
             have E : Hid (listsB u.lits x = false) := Lib.hid (by rw [HE3.out, HK.out, HST.out, HSB.out]; simp [ty1])
             go_wp2_with fail
             go_ret
             exact ⟨retb E.out.symm, by rw [HBZ.out]; exact HFIN.out _ (HBQ.out.trans (HB6.out.mono HBQ.out.size))⟩
          | false =>
           go_wp2_with fail
           refine (HNO.out _).mono ?_
           rintro e w7 ⟨rfl, hb7⟩
           have HB7 := Lib.hid (below_next HB6.out hb7)
           have hbrc := (hb7.block wr.heap.size hlrb).trans HBRB.out
           clear g0 g1 g2 g3 g4 g5
           obtain ⟨g0, g1, g2, g3, g4, g5⟩ := seg_cells hbrc
           have hlrc := lt_of_row hbrc
           clear hb7 hbrc
           cases nz with
           | false =>
            have E : Hid (listsB u.lits x = false) := Lib.hid (by rw [HE3.out, HK.out, HST.out, HSB.out]; simp [])
            go_wp2_with fail
            go_ret
            exact ⟨retb E.out.symm, by rw [HBZ.out]; exact HFIN.out _ (HBQ.out.trans (HB7.out.mono HBQ.out.size))⟩
           | true =>
            cases lit with
            | false =>
             have HK2 : Hid (x.segs.all (segB u.lits.length) = (x.segs.drop (k + 1)).all (segB u.lits.length)) := Lib.hid (by rw [HK.out, HST.out, HSB.out]; simp [])
             go_wp2_with fail
             go_roundw
             case rel => exact ⟨k + 1, by omega, by go_num, HK2, HBQ.out.trans (HB7.out.mono HBQ.out.size)⟩
             case measure => simp [intOf]; omega
            | true =>
             cases ty1 : (ty == 1) with
             | true =>
              have ty2 : (ty != 1) = false := by unfold bne; rw [ty1]; rfl
              have HK2 : Hid (x.segs.all (segB u.lits.length) = (x.segs.drop (k + 1)).all (segB u.lits.length)) := Lib.hid (by rw [HK.out, HST.out, HSB.out]; simp [ty1])
              go_wp2_with fail
              go_roundw
              case rel => exact ⟨k + 1, by omega, by go_num, HK2, HBQ.out.trans (HB7.out.mono HBQ.out.size)⟩
              case measure => simp [intOf]; omega
             | false =>
              have ty2 : (ty != 1) = true := by unfold bne; rw [ty1]; rfl
              have E : Hid (listsB u.lits x = false) := Lib.hid (by rw [HE3.out, HK.out, HST.out, HSB.out]; simp [ty1])
              go_wp2_with fail
              go_ret
              exact ⟨retb E.out.symm, by rw [HBZ.out]; exact HFIN.out _ (HBQ.out.trans (HB7.out.mono HBQ.out.size))⟩
       ·have E : Hid (listsB u.lits x = true) := Lib.hid (by rw [HE3.out, HK.out, List.drop_eq_nil_of_le (by omega)]; rfl)
        go_wp2_with fail
        go_ret
        exact ⟨retb E.out.symm, by rw [HBZ.out]; exact HFIN.out _ HBQ.out⟩
     ·have s60' : 60 < (x.segs.length : Int) := by omega
      have E : Hid (listsB u.lits x = false) := Lib.hid (by rw [HE2.out, decide_eq_false s60]; rfl)
      clear s60
      go_wp2_with fail
      go_ret
      exact ⟨retb E.out.symm, by rw [HBZ.out]; exact HFIN.out _ HBWR.out⟩
end Go.Proofs.YtghgbikmlbildaaGreatDoor
namespace Go.Proofs.YtghgbikmlbildaaGreatDoor
open Go.RowKit
set_option linter.unusedVariables false
set_option linter.unusedSimpArgs false

theorem find_first {n : ByteArray} {a : Int} : ∀ (l : List RFunc) (i k : Nat) (h : k < l.length), l[k].name = n → l[k].arity = a → ∃ j, findL n a l i = some (i + j) ∧ j ≤ k ∧ (sigIn (l.take k) n a = decide (j < k))
 | [], _, _, h, _, _ => absurd h (Nat.not_lt_zero _)
 | x :: l, i, k, h, hn, ha => by
  by_cases hx : x.name = n ∧ x.arity = a
  ·refine ⟨0, by unfold findL; rw [if_pos hx]; rfl, Nat.zero_le _, ?_⟩
   cases k with
   | zero => rfl
   | succ k =>
    rw [List.take_succ_cons, decide_eq_true (Nat.succ_pos k)]
    unfold sigIn
    rw [List.any_cons, hx.1, hx.2]
    simp
  ·cases k with
   | zero => exact absurd ⟨hn, ha⟩ hx
   | succ k =>
    obtain ⟨j, h1, h2, h3⟩ := find_first l (i + 1) k (by simpa using h) hn ha
    refine ⟨j + 1, by unfold findL; rw [if_neg hx, h1]; congr 1; omega, by omega, ?_⟩
    rw [List.take_succ_cons]
    have e : sigIn (x :: l.take k) n a = sigIn (l.take k) n a := by
     unfold sigIn
     rw [List.any_cons]
     have : (x.name.data.toList == n.data.toList && x.arity == a) = false := by
      rw [Bool.and_eq_false_iff]
      by_cases h1 : x.name = n
      ·right; rw [beq_eq_false_iff_ne]; exact fun h => hx ⟨h1, h⟩
      ·left; rw [beq_eq_false_iff_ne]; intro h2
       apply h1
       have : x.name.data = n.data := Array.toList_inj.1 h2
       exact congrArg ByteArray.mk this
     rw [this, Bool.false_or]
    rw [e, h3, Bool.eq_iff_iff, decide_eq_true_eq, decide_eq_true_eq]; omega
theorem find_sig (funcs : List RFunc) (k : Nat) (h : k < funcs.length) : ∃ j : Nat, findI funcs[k].name funcs[k].arity funcs = j ∧ j ≤ k ∧ sigIn (funcs.take k) funcs[k].name funcs[k].arity = decide (j < k) := by
 obtain ⟨j, h1, h2, h3⟩ := find_first funcs 0 k h rfl rfl
 refine ⟨j, ?_, h2, h3⟩
 unfold findI; rw [h1]; simp
theorem funcsB_yes {last : Int} {funcs : List RFunc} (h : ∀ k, (h : k < funcs.length) → fnOk last funcs[k] = true ∧ sigIn (funcs.take k) funcs[k].name funcs[k].arity = false) : funcsB last funcs = true := decide_eq_true h
theorem tabA_wi (u : RUnit) : tabA u = (nameB u.mdl && (decide (1 ≤ u.vsn) && (decide (u.vsn ≤ 2147483647) && (wi u.code.length 1 524288 && (decide (u.lits.length ≤ 65535) && (decide (u.funcs.length ≤ 200) && decide (u.funs.length ≤ 1000))))))) := by
 unfold tabA wi
 have e : (decide (0 ≤ (u.code.length : Int) - 1) && decide ((u.code.length : Int) - 1 < 524288)) = (decide ((1 : Int) ≤ u.code.length) && decide ((u.code.length : Int) ≤ 524288)) := by
  rw [Bool.eq_iff_iff]; simp only [Bool.and_eq_true, decide_eq_true_eq]; omega
 rw [← Bool.and_assoc (decide (0 ≤ _)), e]
theorem func_cells {w : World} {B : Nat} {v0 v1 v2 v3 : Value} (h : w.heap[B]? = some (.cells #[v0, v1, v2, v3] 81 (0, 0))) :
  w.cell? ⟨B, 0, none⟩ = some v0 ∧ w.cell? ⟨B, 1, none⟩ = some v1 ∧ w.cell? ⟨B, 2, none⟩ = some v2 ∧ w.cell? ⟨B, 3, none⟩ = some v3 := by
 have hc := fun j => cell_of_row w B j _ _ _ h
 exact ⟨hc 0, hc 1, hc 2, hc 3⟩
set_option maxRecDepth 100000 in
set_option maxHeartbeats 40000000 in
theorem rtables_any (f : Nat) (u : RUnit) (lo fo go co : Option Addr) (lc fc gc cc : Nat) (w : World) (hp : UP w u lo fo go co) (hlits : SlAt w 9 (TmAt w (f + 1)) lo u.lits) (hcap : ∀ t ∈ u.lits, (capF (f + 1) t : Int) ≤ 1152921504606846976) :
  Calls Tryz.prog 37 #[.agg #[.string u.mdl, .int .i64 u.vsn, .slice lo u.lits.length lc, .slice fo u.funcs.length fc, .slice go u.funs.length gc, .slice co u.code.length cc]] w fun e w' => e = .returned (.bool (tablesB (f + 1) u)) ∧ Below w.heap.size w w' := by
 have HE : Hid (tablesB (f + 1) u = (tabA u && (u.lits.all (validF (f + 1)) && (funcsB ((u.code.length : Int) - 1) u.funcs && u.funs.all (funB ((u.code.length : Int) - 1)))))) := Lib.hid rfl
 have hta := tabA_wi u
 have hl1 := hp.litsLen; have hl2 := hp.funcsLen; have hl3 := hp.funsLen; have hl4 := hp.codeLen
 have hmd : u.mdl.size ≤ maxLen := by unfold maxLen; exact hp.mdlLen
 have hwc := fun wx => rwithin_any (u.code.length : Int) 1 524288 wx
 have hnm := fun wx => rname_any u.mdl wx hmd
 have HP0 := Lib.hid hp; have HLT0 := Lib.hid hlits; have HCAP := Lib.hid hcap
 clear hp hlits hcap hmd
 have hbx := ubox_new w u lo fo go co lc fc gc cc
 have hba : Below w.heap.size w (w.alloc (.cells #[.string u.mdl, .int .i64 u.vsn, .slice lo u.lits.length lc, .slice fo u.funcs.length fc, .slice go u.funs.length gc, .slice co u.code.length cc] 27)) := (Below.refl _ _).alloc (Nat.le_refl _) _
 go_enter Tryz.func37, Tryz.ntmps37
 go_upto_region 1 with fail
 generalize w.alloc (.cells #[.string u.mdl, .int .i64 u.vsn, .slice lo u.lits.length lc, .slice fo u.funcs.length fc, .slice go u.funs.length gc, .slice co u.code.length cc] 27) = W at *
 have HBA := Lib.hid hba
 have HP := Lib.hid (HP0.out.below hba)
 have HLT := Lib.hid (HLT0.out.tms hba)
 clear hba HP0 HLT0
 generalize hBz : w.heap.size = B at *
 have HBZ := Lib.hid hBz
 clear hBz
 have HFIN : Hid (∀ wx, Below W.heap.size W wx → Below B w wx) := Lib.hid (fun wx hh => HBA.out.trans (hh.mono (by have := HBA.out.size; have := HBZ.out; omega)))
 have HU := Lib.hid hbx
 have c0 := hbx.c0; have c1 := hbx.c1; have c2 := hbx.c2; have c3 := hbx.c3; have c4 := hbx.c4; have c5 := hbx.c5
 have hlu := hbx.lt
 clear hbx
 generalize tabA u = ta at *
 have HTA := Lib.hid hta
 clear hta
 go_cut [48] (fun s wx => ∃ n1 : Bool, s = .bool n1 ∧ Hid (n1 = !ta) ∧ W = wx)
 case first =>
  generalize nameB u.mdl = nm at *
  generalize wi u.code.length 1 524288 = wc at *
  cases nm with
  | false =>
   have E : Hid (true = !ta) := Lib.hid (by rw [HTA.out]; rfl)
   go_wp2_with (go_at_call 84; refine (hnm _).mono ?_; rintro e w1 ⟨rfl, rfl⟩)
   go_meet
   case rel => exact ⟨_, rfl, E, rfl⟩
  | true =>
   by_cases v1 : u.vsn < 1
   ·have E : Hid (true = !ta) := Lib.hid (by rw [HTA.out, decide_eq_false (by omega : ¬ (1 ≤ u.vsn))]; rfl)
    go_wp2_with (go_at_call 84; refine (hnm _).mono ?_; rintro e w1 ⟨rfl, rfl⟩)
    go_meet
    case rel => exact ⟨_, rfl, E, rfl⟩
   have d1 : decide (1 ≤ u.vsn) = true := decide_eq_true (by omega)
   by_cases v2 : 2147483647 < u.vsn
   ·have E : Hid (true = !ta) := Lib.hid (by rw [HTA.out, d1, decide_eq_false (by omega : ¬ (u.vsn ≤ 2147483647))]; rfl)
    clear d1
    go_wp2_with (go_at_call 84; refine (hnm _).mono ?_; rintro e w1 ⟨rfl, rfl⟩)
    go_meet
    case rel => exact ⟨_, rfl, E, rfl⟩
   have d2 : decide (u.vsn ≤ 2147483647) = true := decide_eq_true (by omega)
   by_cases n1 : 65535 < u.lits.length
   ·have E : Hid (true = !ta) := Lib.hid (by rw [HTA.out, d1, d2, decide_eq_false (by omega : ¬ (u.lits.length ≤ 65535))]; cases wc <;> rfl)
    have n1' : (65535 : Int) < (u.lits.length : Int) := by omega
    clear d1 d2
    go_wp2_with (go_at_call 84; refine (hnm _).mono ?_; rintro e w1 ⟨rfl, rfl⟩)
    go_meet
    case rel => exact ⟨_, rfl, E, rfl⟩
   have d3 : decide (u.lits.length ≤ 65535) = true := decide_eq_true (by omega)
   by_cases n2 : 200 < u.funcs.length
   ·have E : Hid (true = !ta) := Lib.hid (by rw [HTA.out, d1, d2, d3, decide_eq_false (by omega : ¬ (u.funcs.length ≤ 200))]; cases wc <;> rfl)
    have n1' : (u.lits.length : Int) ≤ 65535 := by omega
    have n2' : (200 : Int) < (u.funcs.length : Int) := by omega
    clear d1 d2 d3
    go_wp2_with (go_at_call 84; refine (hnm _).mono ?_; rintro e w1 ⟨rfl, rfl⟩)
    go_meet
    case rel => exact ⟨_, rfl, E, rfl⟩
   have d4 : decide (u.funcs.length ≤ 200) = true := decide_eq_true (by omega)
   by_cases n3 : 1000 < u.funs.length
   ·have E : Hid (true = !ta) := Lib.hid (by rw [HTA.out, d1, d2, d3, d4, decide_eq_false (by omega : ¬ (u.funs.length ≤ 1000))]; cases wc <;> rfl)
    have n1' : (u.lits.length : Int) ≤ 65535 := by omega
    have n2' : (u.funcs.length : Int) ≤ 200 := by omega
    have n3' : (1000 : Int) < (u.funs.length : Int) := by omega
    clear d1 d2 d3 d4
    go_wp2_with (go_at_call 84; refine (hnm _).mono ?_; rintro e w1 ⟨rfl, rfl⟩)
    go_meet
    case rel => exact ⟨_, rfl, E, rfl⟩
   have d5 : decide (u.funs.length ≤ 1000) = true := decide_eq_true (by omega)
   have E : Hid ((!wc) = !ta) := Lib.hid (by rw [HTA.out, d1, d2, d3, d4, d5]; cases wc <;> rfl)
   have n1' : (u.lits.length : Int) ≤ 65535 := by omega
   have n2' : (u.funcs.length : Int) ≤ 200 := by omega
   have n3' : (u.funs.length : Int) ≤ 1000 := by omega
   clear d1 d2 d3 d4 d5
   cases wc with
   | false =>
    go_wp2_with (first | (go_at_call 84; refine (hnm _).mono ?_; rintro e w1 ⟨rfl, rfl⟩) | (go_at_call 85; refine (hwc _).mono ?_; rintro e w1 ⟨rfl, rfl⟩))
    go_meet
    case rel => exact ⟨_, rfl, E, rfl⟩
   | true =>
    go_wp2_with (first | (go_at_call 84; refine (hnm _).mono ?_; rintro e w1 ⟨rfl, rfl⟩) | (go_at_call 85; refine (hwc _).mono ?_; rintro e w1 ⟨rfl, rfl⟩))
    go_meet
    case rel => exact ⟨_, rfl, Lib.hid (by rw [decide_eq_false (by omega : ¬ u.vsn < 1), decide_eq_false (by omega : ¬ 2147483647 < u.vsn), decide_eq_false (by omega : ¬ (65535 : Int) < (u.lits.length : Int)), decide_eq_false (by omega : ¬ (200 : Int) < (u.funcs.length : Int)), decide_eq_false (by omega : ¬ (1000 : Int) < (u.funs.length : Int))]; exact E.out), rfl⟩
 case rest =>
  obtain ⟨n1, rfl, hn1, rfl⟩ := hcut
  clear HTA hwc hnm
  cases ta with
  | false =>
   obtain rfl : n1 = true := hn1.out
   go_wp2_with fail
   go_ret
   exact ⟨retb (by rw [HE.out]; rfl), by rw [HBZ.out]; exact HFIN.out _ (Below.refl _ _)⟩
  | true =>
   obtain rfl : n1 = false := hn1.out
   have HE1 : Hid (tablesB (f + 1) u = (u.lits.all (validF (f + 1)) && (funcsB ((u.code.length : Int) - 1) u.funcs && u.funs.all (funB ((u.code.length : Int) - 1))))) := Lib.hid (by rw [HE.out, Bool.true_and])
   have HK0 : Hid (u.lits.all (validF (f + 1)) = (u.lits.drop 0).all (validF (f + 1))) := Lib.hid rfl
   clear HE
   go_wp2_with fail
   go_loopw [3] (fun i wr => ∃ k : Nat, k ≤ u.lits.length ∧ i = .int .i64 k ∧ Hid (u.lits.all (validF (f + 1)) = (u.lits.drop k).all (validF (f + 1))) ∧ Below W.heap.size W wr) (fun i _ => u.lits.length - (intOf i).toNat)
   case atStart => exact ⟨0, Nat.zero_le _, rfl, HK0, Below.refl _ _⟩
   case round =>
    obtain ⟨k, hk, rfl, HK, hBw⟩ := hrel
    rename World => wr
    clear c0 c1 c2 c3 c4 c5 hlu
    have hur := HU.out.below hBw
    have HBWR := Lib.hid hBw
    have c2 := hur.c2; have c3 := hur.c3
    have hlu := hur.lt
    clear hur hBw
    by_cases hlt : k < u.lits.length
    ·obtain ⟨b2, off2, ai, ci, hlo, hb2, p0, p1, p2, p3, p4, p5, p6, p7, p8, hit, hok⟩ := (HLT.out.tms HBWR.out).tm hlt
     subst hlo
     have hv := rvalid_term f u.lits[k] ai ci wr hit hok (HCAP.out _ (List.getElem_mem hlt))
     have HSTP := Lib.hid (all_drop (p := validF (f + 1)) hlt)
     clear hit hok
     generalize validF (f + 1) u.lits[k] = vv at *
     generalize u.lits[k] = t at *
     cases vv with
     | false =>
      have E : Hid (tablesB (f + 1) u = false) := Lib.hid (by rw [HE1.out, HK.out, HSTP.out]; rfl)
      go_wp2_with fail
      refine hv.mono ?_
      rintro e w5 ⟨rfl, hb5⟩
      go_wp2_with fail
      go_ret
      exact ⟨retb E.out.symm, by rw [HBZ.out]; exact HFIN.out _ (below_next HBWR.out hb5)⟩
     | true =>
      have HK2 : Hid (u.lits.all (validF (f + 1)) = (u.lits.drop (k + 1)).all (validF (f + 1))) := Lib.hid (by rw [HK.out, HSTP.out, Bool.true_and])
      go_wp2_with fail
      refine hv.mono ?_
      rintro e w5 ⟨rfl, hb5⟩
      go_wp2_with fail
      go_roundw
      case rel => exact ⟨k + 1, by omega, by go_num, HK2, below_next HBWR.out hb5⟩
      case measure => simp [intOf]; omega
    ·have HE2 : Hid (tablesB (f + 1) u = (funcsB ((u.code.length : Int) - 1) u.funcs && u.funs.all (funB ((u.code.length : Int) - 1)))) := Lib.hid (by rw [HE1.out, HK.out, List.drop_eq_nil_of_le (by omega)]; rfl)
     have HF0 : Hid (∀ j, (h : j < u.funcs.length) → j < 0 → fnOk ((u.code.length : Int) - 1) u.funcs[j] = true ∧ sigIn (u.funcs.take j) u.funcs[j].name u.funcs[j].arity = false) := Lib.hid (fun j h hj => absurd hj (Nat.not_lt_zero _))
     clear HE1 HK
     obtain ⟨wo, rfl⟩ : ∃ wo : World, wo = wr := ⟨_, rfl⟩
     go_wp2_with fail
     go_loopw [4, 5, 6, 7] (fun i _ _ _ wq => ∃ k : Nat, k ≤ u.funcs.length ∧ i = .int .i64 k ∧ Hid (∀ j, (h : j < u.funcs.length) → j < k → fnOk ((u.code.length : Int) - 1) u.funcs[j] = true ∧ sigIn (u.funcs.take j) u.funcs[j].name u.funcs[j].arity = false) ∧ Below W.heap.size W wq) (fun i _ _ _ _ => u.funcs.length - (intOf i).toNat)
     case atStart => exact ⟨0, Nat.zero_le _, rfl, HF0, HBWR.out⟩
     case round =>
      obtain ⟨k, hk, rfl, HK, hBq⟩ := hrel
      rename World => wr
      clear c2 c3 hlu HBWR HF0
      have hur := HU.out.below hBq
      have HBQ := Lib.hid hBq
      have c3 := hur.c3; have c4 := hur.c4; have c5 := hur.c5
      have hlu := hur.lt
      by_cases hlt : k < u.funcs.length
      ·obtain ⟨b1, off1, hfo, hb1, s0, s1, s2, s3, t0, t1, t2⟩ := (HP.out.funcs.mono hBq fun _ _ h => h).func hlt
       subst hfo
       obtain ⟨j, hj1, hj2, hj3⟩ := find_sig u.funcs k hlt
       have hfn : fnOk ((u.code.length : Int) - 1) u.funcs[k] = (nameB u.funcs[k].name && (wi u.funcs[k].arity 0 16 && wi u.funcs[k].entry 0 ((u.code.length : Int) - 1))) := rfl
       have hbox := heap_alloc_new wr (.cells #[.string u.funcs[k].name, .int .i64 u.funcs[k].arity, .bool u.funcs[k].pub, .int .i64 u.funcs[k].entry] 81)
       have hbxb : Below wr.heap.size wr (wr.alloc (.cells #[.string u.funcs[k].name, .int .i64 u.funcs[k].arity, .bool u.funcs[k].pub, .int .i64 u.funcs[k].entry] 81)) := (Below.refl _ _).alloc (Nat.le_refl _) _
       have hfi := rfind_any u lo (some ⟨b1, off1, none⟩) go co lc fc gc cc u.funcs[k].name u.funcs[k].arity _ (HP.out.below (hBq.trans (hbxb.mono hBq.size)))
       rw [hj1] at hfi
       have hNO : (fnOk ((u.code.length : Int) - 1) u.funcs[k] = false ∨ sigIn (u.funcs.take k) u.funcs[k].name u.funcs[k].arity = true) → tablesB (f + 1) u = false := fun h => by rw [HE2.out, funcsB_no hlt h]; rfl
       have hYES : fnOk ((u.code.length : Int) - 1) u.funcs[k] = true → sigIn (u.funcs.take k) u.funcs[k].name u.funcs[k].arity = false → ∀ j, (h : j < u.funcs.length) → j < k + 1 → fnOk ((u.code.length : Int) - 1) u.funcs[j] = true ∧ sigIn (u.funcs.take j) u.funcs[j].name u.funcs[j].arity = false := fun h1 h2 j h hj => by
        rcases Nat.lt_or_ge j k with h3 | h3
        ·exact HK.out j h h3
        ·obtain rfl : j = k := by omega
         exact ⟨h1, h2⟩
       rw [hj3] at hNO hYES
       rw [hfn] at hNO hYES
       have HNO := Lib.hid hNO; have HYES := Lib.hid hYES
       have HFI := Lib.hid hfi
       have hwr1 : IntKind.i64.wrap ((u.code.length : Int) - 1) = (u.code.length : Int) - 1 := by rw [IntKind.wrap_i64]; omega
       have hn := fun wx => rname_any u.funcs[k].name wx t0
       have hw1 := fun wx => rwithin_any u.funcs[k].arity 0 16 wx
       have hw2 := fun wx => rwithin_any u.funcs[k].entry 0 ((u.code.length : Int) - 1) wx
       have HUX := Lib.hid (hur.below hbxb)
       have HBX := Lib.hid hbxb; have HBOX := Lib.hid hbox
       clear hNO hYES hj1 hj3 hfn hfi hbxb hbox hur hBq t0 t1 t2
       generalize findB u.funcs[k].name u.funcs[k].arity u.funcs = fb at *
       generalize nameB u.funcs[k].name = nb at *
       generalize wi u.funcs[k].arity 0 16 = ab at *
       generalize wi u.funcs[k].entry 0 ((u.code.length : Int) - 1) = eb at *
       generalize u.funcs[k] = fn at *
       obtain ⟨fnm, far, fpb, fen⟩ := fn
       simp only at *
       cases nb with
       | false =>
        have E := Lib.hid (HNO.out (.inl rfl))
        go_wp2_with (first | (go_at_call 84; refine (hn _).mono ?_; rintro e w1 ⟨rfl, rfl⟩) | (go_at_call 85; first | ((with_reducible refine (hw1 _).mono ?_); rintro e w1 ⟨rfl, rfl⟩) | ((with_reducible refine (hw2 _).mono ?_); rintro e w1 ⟨rfl, rfl⟩)))
        go_ret
        exact ⟨retb E.out.symm, by rw [HBZ.out]; exact HFIN.out _ (HBQ.out.trans (HBX.out.mono HBQ.out.size))⟩
       | true =>
        cases ab with
        | false =>
         have E := Lib.hid (HNO.out (.inl rfl))
         go_wp2_with (first | (go_at_call 84; refine (hn _).mono ?_; rintro e w1 ⟨rfl, rfl⟩) | (go_at_call 85; first | ((with_reducible refine (hw1 _).mono ?_); rintro e w1 ⟨rfl, rfl⟩) | ((with_reducible refine (hw2 _).mono ?_); rintro e w1 ⟨rfl, rfl⟩)))
         go_ret
         exact ⟨retb E.out.symm, by rw [HBZ.out]; exact HFIN.out _ (HBQ.out.trans (HBX.out.mono HBQ.out.size))⟩
        | true =>
         cases eb with
         | false =>
          have E := Lib.hid (HNO.out (.inl rfl))
          go_wp2_with (first | (go_at_call 84; refine (hn _).mono ?_; rintro e w1 ⟨rfl, rfl⟩) | (go_at_call 85; first | ((with_reducible refine (hw1 _).mono ?_); rintro e w1 ⟨rfl, rfl⟩) | ((with_reducible refine (hw2 _).mono ?_); rintro e w1 ⟨rfl, rfl⟩)))
          go_ret
          exact ⟨retb E.out.symm, by rw [HBZ.out]; exact HFIN.out _ (HBQ.out.trans (HBX.out.mono HBQ.out.size))⟩
         | true =>
          have u0 := HUX.out.c0; have u1 := HUX.out.c1; have u2 := HUX.out.c2; have u3 := HUX.out.c3; have u4 := HUX.out.c4; have u5 := HUX.out.c5
          by_cases hjk : j < k
          ·have E := Lib.hid (HNO.out (.inr (decide_eq_true hjk)))
           have hjk' : (j : Int) < (k : Int) := by omega
           go_wp2_with (first | (go_at_call 84; refine (hn _).mono ?_; rintro e w1 ⟨rfl, rfl⟩) | (go_at_call 85; first | ((with_reducible refine (hw1 _).mono ?_); rintro e w1 ⟨rfl, rfl⟩) | ((with_reducible refine (hw2 _).mono ?_); rintro e w1 ⟨rfl, rfl⟩)))
           refine HFI.out.mono ?_
           rintro e w5 ⟨rfl, hb5⟩
           go_wp2_with fail
           go_ret
           exact ⟨retb E.out.symm, by rw [HBZ.out]; exact HFIN.out _ (HBQ.out.trans ((below_next HBX.out hb5).mono HBQ.out.size))⟩
          ·have HK2 := Lib.hid (HYES.out rfl (decide_eq_false hjk))
           have hjk' : (k : Int) ≤ (j : Int) := by omega
           go_wp2_with (first | (go_at_call 84; refine (hn _).mono ?_; rintro e w1 ⟨rfl, rfl⟩) | (go_at_call 85; first | ((with_reducible refine (hw1 _).mono ?_); rintro e w1 ⟨rfl, rfl⟩) | ((with_reducible refine (hw2 _).mono ?_); rintro e w1 ⟨rfl, rfl⟩)))
           refine HFI.out.mono ?_
           rintro e w5 ⟨rfl, hb5⟩
           go_wp2_with fail
           go_roundw
           case rel => exact ⟨k + 1, by omega, by go_num, HK2, HBQ.out.trans ((below_next HBX.out hb5).mono HBQ.out.size)⟩
           case measure => simp [intOf]; omega
      ·have HE3 : Hid (tablesB (f + 1) u = u.funs.all (funB ((u.code.length : Int) - 1))) := Lib.hid (by rw [HE2.out, funcsB_yes (fun j h => HK.out j h (by omega)), Bool.true_and])
       have HG0 : Hid (u.funs.all (funB ((u.code.length : Int) - 1)) = (u.funs.drop 0).all (funB ((u.code.length : Int) - 1))) := Lib.hid rfl
       clear HE2 HK hur hBq
       obtain ⟨wo, rfl⟩ : ∃ wo : World, wo = wr := ⟨_, rfl⟩
       go_wp2_with fail
       go_loopw [8, 9] (fun i _ wq => ∃ k : Nat, k ≤ u.funs.length ∧ i = .int .i64 k ∧ Hid (u.funs.all (funB ((u.code.length : Int) - 1)) = (u.funs.drop k).all (funB ((u.code.length : Int) - 1))) ∧ Below W.heap.size W wq) (fun i _ _ => u.funs.length - (intOf i).toNat)
       case atStart => exact ⟨0, Nat.zero_le _, rfl, HG0, HBQ.out⟩
       case round =>
        obtain ⟨k, hk, rfl, HK, hBq⟩ := hrel
        rename World => wr
        clear c3 c4 c5 hlu HBQ HG0
        have hur := HU.out.below hBq
        have HBQ := Lib.hid hBq
        have c4 := hur.c4; have c5 := hur.c5
        have hlu := hur.lt
        by_cases hlt : k < u.funs.length
        ·obtain ⟨b1, off1, hfo, hb1, s0, s1, s2, t0, t1, t2⟩ := (HP.out.funs.mono hBq fun _ _ h => h).fn hlt
         subst hfo
         have HSTP : Hid ((u.funs.drop k).all (funB ((u.code.length : Int) - 1)) = ((wi u.funs[k].arity 0 16 && (wi u.funs[k].free 0 200 && wi u.funs[k].entry 0 ((u.code.length : Int) - 1))) && (u.funs.drop (k + 1)).all (funB ((u.code.length : Int) - 1)))) := Lib.hid (by rw [List.drop_eq_getElem_cons hlt, List.all_cons]; rfl)
         have hbxb : Below wr.heap.size wr (wr.alloc (.cells #[.int .i64 u.funs[k].arity, .int .i64 u.funs[k].free, .int .i64 u.funs[k].entry] 84)) := (Below.refl _ _).alloc (Nat.le_refl _) _
         have hwr1 : IntKind.i64.wrap ((u.code.length : Int) - 1) = (u.code.length : Int) - 1 := by rw [IntKind.wrap_i64]; omega
         have hw1 := fun wx => rwithin_any u.funs[k].arity 0 16 wx
         have hw2 := fun wx => rwithin_any u.funs[k].free 0 200 wx
         have hw3 := fun wx => rwithin_any u.funs[k].entry 0 ((u.code.length : Int) - 1) wx
         have HBX := Lib.hid hbxb
         clear hbxb hur hBq t0 t1 t2
         generalize wi u.funs[k].arity 0 16 = ab at *
         generalize wi u.funs[k].free 0 200 = fb at *
         generalize wi u.funs[k].entry 0 ((u.code.length : Int) - 1) = eb at *
         generalize u.funs[k] = fn at *
         obtain ⟨far, ffr, fen⟩ := fn
         simp only at *
         cases ab with
         | false =>
          have E : Hid (tablesB (f + 1) u = false) := Lib.hid (by rw [HE3.out, HK.out, HSTP.out]; rfl)
          go_wp2_with (go_at_call 85; first | ((with_reducible refine (hw1 _).mono ?_); rintro e w1 ⟨rfl, rfl⟩) | ((with_reducible refine (hw2 _).mono ?_); rintro e w1 ⟨rfl, rfl⟩) | ((with_reducible refine (hw3 _).mono ?_); rintro e w1 ⟨rfl, rfl⟩))
          go_ret
          exact ⟨retb E.out.symm, by rw [HBZ.out]; exact HFIN.out _ (HBQ.out.trans (HBX.out.mono HBQ.out.size))⟩
         | true =>
          cases fb with
          | false =>
           have E : Hid (tablesB (f + 1) u = false) := Lib.hid (by rw [HE3.out, HK.out, HSTP.out]; rfl)
           go_wp2_with (go_at_call 85; first | ((with_reducible refine (hw1 _).mono ?_); rintro e w1 ⟨rfl, rfl⟩) | ((with_reducible refine (hw2 _).mono ?_); rintro e w1 ⟨rfl, rfl⟩) | ((with_reducible refine (hw3 _).mono ?_); rintro e w1 ⟨rfl, rfl⟩))
           go_ret
           exact ⟨retb E.out.symm, by rw [HBZ.out]; exact HFIN.out _ (HBQ.out.trans (HBX.out.mono HBQ.out.size))⟩
          | true =>
           cases eb with
           | false =>
            have E : Hid (tablesB (f + 1) u = false) := Lib.hid (by rw [HE3.out, HK.out, HSTP.out]; rfl)
            go_wp2_with (go_at_call 85; first | ((with_reducible refine (hw1 _).mono ?_); rintro e w1 ⟨rfl, rfl⟩) | ((with_reducible refine (hw2 _).mono ?_); rintro e w1 ⟨rfl, rfl⟩) | ((with_reducible refine (hw3 _).mono ?_); rintro e w1 ⟨rfl, rfl⟩))
            go_ret
            exact ⟨retb E.out.symm, by rw [HBZ.out]; exact HFIN.out _ (HBQ.out.trans (HBX.out.mono HBQ.out.size))⟩
           | true =>
            have HK2 : Hid (u.funs.all (funB ((u.code.length : Int) - 1)) = (u.funs.drop (k + 1)).all (funB ((u.code.length : Int) - 1))) := Lib.hid (by rw [HK.out, HSTP.out]; rfl)
            go_wp2_with (go_at_call 85; first | ((with_reducible refine (hw1 _).mono ?_); rintro e w1 ⟨rfl, rfl⟩) | ((with_reducible refine (hw2 _).mono ?_); rintro e w1 ⟨rfl, rfl⟩) | ((with_reducible refine (hw3 _).mono ?_); rintro e w1 ⟨rfl, rfl⟩))
            go_roundw
            case rel => exact ⟨k + 1, by omega, by go_num, HK2, HBQ.out.trans (HBX.out.mono HBQ.out.size)⟩
            case measure => simp [intOf]; omega
        ·have E : Hid (tablesB (f + 1) u = true) := Lib.hid (by rw [HE3.out, HK.out, List.drop_eq_nil_of_le (by omega)]; rfl)
         clear hur hBq
         go_wp2_with fail
         go_ret
         exact ⟨retb E.out.symm, by rw [HBZ.out]; exact HFIN.out _ HBQ.out⟩
end Go.Proofs.YtghgbikmlbildaaGreatDoor
