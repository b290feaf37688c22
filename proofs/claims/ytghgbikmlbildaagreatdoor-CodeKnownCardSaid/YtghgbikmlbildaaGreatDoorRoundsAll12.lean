/-
  lists: the walk (printed by gen_lists2.py). targets: the walk.
-/
import Derived.Test.YtghgbikmlbildaaGreatDoorRoundsAll02
import Derived.Test.YtghgbikmlbildaaGreatDoorRoundsAll04
import Derived.Test.YtghgbikmlbildaaGreatDoorRoundsAll11
namespace Go.Proofs.YtghgbikmlbildaaGreatDoor
open Go.RowKit
set_option linter.unusedVariables false
set_option linter.unusedSimpArgs false

theorem seg_cells {w : World} {B : Nat} {v0 v1 v2 v3 v4 v5 : Value} (h : w.heap[B]? = some (.cells #[v0, v1, v2, v3, v4, v5] 133 (0, 0))) :
  w.cell? ⟨B, 0, none⟩ = some v0 ∧ w.cell? ⟨B, 1, none⟩ = some v1 ∧ w.cell? ⟨B, 2, none⟩ = some v2 ∧ w.cell? ⟨B, 3, none⟩ = some v3 ∧ w.cell? ⟨B, 4, none⟩ = some v4 ∧ w.cell? ⟨B, 5, none⟩ = some v5 := by
 have hc := fun j => cell_of_row w B j _ _ _ h
 exact ⟨hc 0, hc 1, hc 2, hc 3, hc 4, hc 5⟩
set_option maxRecDepth 100000 in
set_option maxHeartbeats 40000000 in
theorem lists_any (B : Nat) (u : RUnit) (lo fo go co : Option Addr) (lc fc gc cc : Nat) (b o : Nat) (x : RIns) (so co' go' : Option Addr) (sc cc' gc' : Nat) (f : Nat) (w : World) (hu : UBox w B u lo fo go co lc fc gc cc) (hl : u.lits.length ≤ 9223372036854775807) (hlit : LitsOk w f lo u.lits) (hx : IBox w b o x so co' go' sc cc' gc') :
  Calls Tryz.prog 35 #[.pointer (some ⟨B, 0, none⟩), .pointer (some ⟨b, o, none⟩)] w fun e w' => e = .returned (.bool (listsB u.lits x)) ∧ Below w.heap.size w w' := by
 have HU := Lib.hid hu; have HX := Lib.hid hx; have HLI := Lib.hid hlit
 have c0 := hx.c0; have c8 := hx.c8; have c9 := hx.c9
 have rc := hx.rcases; have rs := hx.rsegs
 have hwi := fun wx => within_any (x.cases.length : Int) 1 1000 wx
 have HE : Hid (listsB u.lits x = (((!(x.op == 12) || wi x.cases.length 1 1000) && decide ((x.segs.length : Int) ≤ 60)) && (casesB u.lits x.cases && x.segs.all (segB u.lits.length)))) := Lib.hid rfl
 clear hu hx hlit
 go_enter Tryz.func35, Tryz.ntmps35
 go_upto_region 1 with fail
 generalize hr1 : ((!(x.op == 12) || wi x.cases.length 1 1000) && decide ((x.segs.length : Int) ≤ 60)) = r1 at HE
 have HR1 := Lib.hid hr1
 clear hr1
 go_cut [31] (fun s wx => ∃ n1 : Bool, s = .bool n1 ∧ Hid (n1 = !r1) ∧ w = wx)
 case first =>
  generalize wi x.cases.length 1 1000 = w1 at *
  cases t12 : (x.op == 12) with
  | true =>
   cases w1 with
   | false =>
    have hv := Lib.hid (HR1.out.symm.trans (by rw [t12]; rfl : _ = false))
    go_wp2_with (go_at_call 68; refine (hwi _).mono ?_; rintro e w1 ⟨rfl, rfl⟩)
    go_meet
    case rel => exact ⟨_, rfl, Lib.hid (by rw [hv.out]; (first | rfl | (rw [sd]; rfl) | (rw [decide_eq_true s60']; rfl))), rfl⟩
   | true =>
    by_cases s60 : (x.segs.length : Int) ≤ 60
    ·have hv := Lib.hid (HR1.out.symm.trans (by rw [t12, decide_eq_true s60]; rfl : _ = true))
     have sd : decide ((60 : Int) < (x.segs.length : Int)) = false := decide_eq_false (by omega)
     go_wp2_with (go_at_call 68; refine (hwi _).mono ?_; rintro e w1 ⟨rfl, rfl⟩)
     go_meet
     case rel => exact ⟨_, rfl, Lib.hid (by rw [hv.out]; (first | rfl | (rw [sd]; rfl) | (rw [decide_eq_true s60']; rfl))), rfl⟩
    ·have hv := Lib.hid (HR1.out.symm.trans (by rw [t12, decide_eq_false s60]; rfl : _ = false))
     have s60' : 60 < (x.segs.length : Int) := by omega
     clear s60
     go_wp2_with (go_at_call 68; refine (hwi _).mono ?_; rintro e w1 ⟨rfl, rfl⟩)
     go_meet
     case rel => exact ⟨_, rfl, Lib.hid (by rw [hv.out]; (first | rfl | (rw [sd]; rfl) | (rw [decide_eq_true s60']; rfl))), rfl⟩
  | false =>
   by_cases s60 : (x.segs.length : Int) ≤ 60
   ·have hv := Lib.hid (HR1.out.symm.trans (by rw [t12, decide_eq_true s60]; rfl : _ = true))
    have sd : decide ((60 : Int) < (x.segs.length : Int)) = false := decide_eq_false (by omega)
    go_wp2_with fail
    go_meet
    case rel => exact ⟨_, rfl, Lib.hid (by rw [hv.out]; (first | rfl | (rw [sd]; rfl) | (rw [decide_eq_true s60']; rfl))), rfl⟩
   ·have hv := Lib.hid (HR1.out.symm.trans (by rw [t12, decide_eq_false s60]; rfl : _ = false))
    have s60' : 60 < (x.segs.length : Int) := by omega
    clear s60
    go_wp2_with fail
    go_meet
    case rel => exact ⟨_, rfl, Lib.hid (by rw [hv.out]; (first | rfl | (rw [sd]; rfl) | (rw [decide_eq_true s60']; rfl))), rfl⟩
 case rest =>
  obtain ⟨n1, rfl, hn1, rfl⟩ := hcut
  clear HR1
  cases r1 with
  | false =>
   obtain rfl : n1 = true := hn1.out
   go_wp2_with fail
   go_ret
   exact ⟨retb (by rw [HE.out]; rfl), Below.refl _ _⟩
  | true =>
   obtain rfl : n1 = false := hn1.out
   have HE1 : Hid (listsB u.lits x = (casesB u.lits x.cases && x.segs.all (segB u.lits.length))) := Lib.hid (by rw [HE.out, Bool.true_and])
   clear HE hwi
   go_wp2_with fail
   go_loopw [37] (fun i wr => ∃ k : Nat, k ≤ x.cases.length ∧ i = .int .i64 k ∧ Hid (∀ j, j < k → caseOk u.lits x.cases j = true) ∧ Below w.heap.size w wr) (fun i _ => x.cases.length - (intOf i).toNat)
   case atStart => exact ⟨0, Nat.zero_le _, rfl, Lib.hid (fun j h => absurd h (Nat.not_lt_zero _)), Below.refl _ _⟩
   case round =>
    obtain ⟨k, hk, rfl, HK, hBw⟩ := hrel
    rename World => wr
    by_cases hlt : k < x.cases.length
    ·have hxr := HX.out.below hBw
     obtain ⟨b1, off1, hco, hb1, q0, q1, rl, rt⟩ := hxr.cases.case hlt
     subst hco
     have hcl := clit_at hlt
     have HBW := Lib.hid hBw
     have u2 := (HU.out.below hBw).c2
     have d8 := hxr.c8
     have hBlt := (HU.out.below hBw).lt
     have hblt := hxr.lt
     generalize x.cases[k].to = ct at *
     generalize x.cases[k].lit = cl at *
     by_cases hin : 0 ≤ cl ∧ cl ≤ (u.lits.length : Int) - 1
     ·obtain ⟨m, rfl⟩ : ∃ m : Nat, cl = (m : Int) := ⟨cl.toNat, by omega⟩
      have hm : m < u.lits.length := by omega
      have hw1 := wi_yes hin.1 hin.2
      have hwr1 : IntKind.i64.wrap ((u.lits.length : Int) - 1) = (u.lits.length : Int) - 1 := by rw [IntKind.wrap_i64]; omega
      have hwc := fun wx => within_any (m : Int) 0 ((u.lits.length : Int) - 1) wx
      have HW1 := Lib.hid hw1
      rw [hw1] at hwc
      have HLW := Lib.hid (HLI.out.below hBw)
      obtain ⟨b2, off2, ai, ci, hlo, hb2, p0, p1, p2, p3, p4, p5, p6, p7, p8, hit, hok⟩ := (HLI.out.below hBw).at'.tm hm
      have hla := litAt_at hm
      have HCL := Lib.hid hcl
      have HIT := Lib.hid hit; have HOK := Lib.hid hok
      clear hcl hw1 hin rl rt hxr hit hok
      have hcx : Below wr.heap.size wr (wr.alloc (.cells #[.int .i64 (m : Int), .int .i64 ct] 131)) := (Below.refl _ _).alloc (Nat.le_refl _) _
      have v2 := (hcx.cell (p := ⟨B, 2, none⟩) hBlt).trans u2
      have HCX := Lib.hid hcx
      clear hcx
      go_wp2_with fail
      go_quiet ((go_at_call 68; exact Calls.quiet_of_same ((hwc _).mono fun _ _ ⟨a, b⟩ => ⟨a, b.symm⟩)))
      have hbW : Below wr.heap.size wr ((wr.alloc (.cells #[.int .i64 (m : Int), .int .i64 ct] 131)).drewN nq) := below_drewN HCX.out nq
      have hbox : ((wr.alloc (.cells #[.int .i64 (m : Int), .int .i64 ct] 131)).drewN nq).heap[wr.heap.size]? = some (.cells #[.int .i64 (m : Int), .int .i64 ct] 131 (0, 0)) := heap_alloc_new _ _
      clear v2 HCX
      generalize (wr.alloc (.cells #[.int .i64 (m : Int), .int .i64 ct] 131)).drewN nq = W1 at *
      have hCW : wr.heap.size < W1.heap.size := lt_of_row hbox
      have hlo2 : lo = some ⟨b2, off2, none⟩ := hlo
      subst hlo2
      have v2 := (hbW.cell (p := ⟨B, 2, none⟩) hBlt).trans u2
      have n0 : W1.cell? ⟨wr.heap.size, 0, none⟩ = some (.int .i64 (m : Int)) := by rw [cell_of_row _ _ _ _ _ _ hbox]; rfl
      have p0' := (hbW.cell (p := ⟨b2, off2 + m * 9, none⟩) hb2).trans p0
      have HBW1 := Lib.hid hbW; have HBOX := Lib.hid hbox
      clear hbW hbox hwc
      generalize hkk : (u.lits[m]).kind = kk at p0'
      have HKK := Lib.hid hkk
      clear hkk
      go_wp2_with fail
      go_quiet (fail)
      have hbW : Below wr.heap.size wr (W1.drewN nq) := below_drewN HBW1.out nq
      have hbox : (W1.drewN nq).heap[wr.heap.size]? = some (.cells #[.int .i64 (m : Int), .int .i64 ct] 131 (0, 0)) := HBOX.out
      clear v2 n0 p0' hCW HBW1 HBOX
      generalize W1.drewN nq = W2 at *
      have HBW2 := Lib.hid hbW
      by_cases hko : kk = 1 ∨ kk = 2 ∨ kk = 8
      ·have HKO : Hid (kindOk u.lits[m] = true) := Lib.hid (by unfold kindOk; rw [HKK.out]; exact decide_eq_true hko)
       by_cases k0 : k = 0
       ·have HK2 : Hid (∀ j, j < k + 1 → caseOk u.lits x.cases j = true) := Lib.hid (fun j hj => by
         obtain rfl : j = k := by omega
         unfold caseOk
         rw [HCL.out, HW1.out, hla, HKO.out, decide_eq_true k0]; rfl)
        have hd0 : decide ((0 : Int) < (k : Int)) = false := decide_eq_false (by omega)
        have hd1 : decide (0 < k) = false := decide_eq_false (by omega)
        clear k0 hbW hbox
        rcases hko with rfl | rfl | rfl
        all_goals
         go_wp2_with fail
         go_quiet (fail)
         go_wp2_with fail
         go_roundw
         case rel => exact ⟨k + 1, by omega, by go_num, HK2, below_drewN (HBW.out.trans (HBW2.out.mono HBW.out.size)) _⟩
         case measure => simp [intOf]; omega
       ·obtain ⟨k', hk'⟩ : ∃ k', k = k' + 1 := ⟨k - 1, by omega⟩
        have hlt' : k' < x.cases.length := by omega
        have hprev := HK.out k' (by omega)
        obtain ⟨b1', off1', hco', hb1', q0', q1', rl', rt'⟩ := (HX.out.below HBW.out).cases.case hlt'
        obtain ⟨rfl, rfl⟩ : b1 = b1' ∧ off1 = off1' := by injection hco' with h; injection h with h1 h2; exact ⟨h1, h2⟩
        have hcl' := clit_at hlt'
        generalize x.cases[k'].lit = cl' at *
        generalize x.cases[k'].to = ct' at *
        unfold caseOk at hprev
        rw [hcl'] at hprev
        have hpin : 0 ≤ cl' ∧ cl' ≤ (u.lits.length : Int) - 1 := by
         by_cases h : 0 ≤ cl' ∧ cl' ≤ (u.lits.length : Int) - 1
         ·exact h
         ·rw [wi_no h] at hprev; cases hprev
        obtain ⟨m', rfl⟩ : ∃ m' : Nat, cl' = (m' : Int) := ⟨cl'.toNat, by omega⟩
        have hm' : m' < u.lits.length := by omega
        rw [litAt_at hm'] at hprev
        have hko' : kindOk u.lits[m'] = true := by
         cases h : kindOk u.lits[m'] with
         | true => rfl
         | false => rw [h] at hprev; simp at hprev
        obtain ⟨b2', off2', ai', ci', hlo', hb2', r0, r1, r2, r3, r4, r5, r6, r7, r8, hit', hok'⟩ := HLW.out.at'.tm hm'
        obtain ⟨rfl, rfl⟩ : b2 = b2' ∧ off2 = off2' := by injection hlo' with h; injection h with h1 h2; exact ⟨h1, h2⟩
        have hLess := less_lits (ci := ci') (cj := ci) HLW.out hm' hm hko' HKO.out hit' HIT.out hok' HOK.out
        have HOKK : Hid (caseOk u.lits x.cases k = decide (cmpS u.lits[m'] u.lits[m] < 0)) := Lib.hid (by
         unfold caseOk
         rw [HCL.out, HW1.out, hla, HKO.out, decide_eq_false k0, hk', Nat.add_sub_cancel, hcl', litAt_at hm']
         simp)
        have hd0 : decide ((0 : Int) < (k : Int)) = true := decide_eq_true (by omega)
        have hd1 : decide (0 < k) = true := decide_eq_true (by omega)
        have hwk : IntKind.i64.wrap ((k : Int) - 1) = (k' : Int) := by rw [IntKind.wrap_i64]; omega
        rw [HKK.out] at hLess p0
        have v2 := (hbW.cell (p := ⟨B, 2, none⟩) hBlt).trans u2
        have v8 := (hbW.cell (p := ⟨b, o + 8, none⟩) hblt).trans d8
        have n0 : W2.cell? ⟨wr.heap.size, 0, none⟩ = some (.int .i64 (m : Int)) := by rw [cell_of_row _ _ _ _ _ _ hbox]; rfl
        have q0'' := (hbW.cell (p := ⟨b1, off1 + k' * 2, none⟩) hb1).trans q0'
        have p0' := (hbW.cell (p := ⟨b2, off2 + m * 9, none⟩) hb2).trans p0
        have p1' := (hbW.cell (p := ⟨b2, off2 + m * 9 + 1, none⟩) hb2).trans p1
        have p2' := (hbW.cell (p := ⟨b2, off2 + m * 9 + 2, none⟩) hb2).trans p2
        have p3' := (hbW.cell (p := ⟨b2, off2 + m * 9 + 3, none⟩) hb2).trans p3
        have p4' := (hbW.cell (p := ⟨b2, off2 + m * 9 + 4, none⟩) hb2).trans p4
        have p5' := (hbW.cell (p := ⟨b2, off2 + m * 9 + 5, none⟩) hb2).trans p5
        have p6' := (hbW.cell (p := ⟨b2, off2 + m * 9 + 6, none⟩) hb2).trans p6
        have p7' := (hbW.cell (p := ⟨b2, off2 + m * 9 + 7, none⟩) hb2).trans p7
        have p8' := (hbW.cell (p := ⟨b2, off2 + m * 9 + 8, none⟩) hb2).trans p8
        have r0' := (hbW.cell (p := ⟨b2, off2 + m' * 9, none⟩) hb2).trans r0
        have r1' := (hbW.cell (p := ⟨b2, off2 + m' * 9 + 1, none⟩) hb2).trans r1
        have r2' := (hbW.cell (p := ⟨b2, off2 + m' * 9 + 2, none⟩) hb2).trans r2
        have r3' := (hbW.cell (p := ⟨b2, off2 + m' * 9 + 3, none⟩) hb2).trans r3
        have r4' := (hbW.cell (p := ⟨b2, off2 + m' * 9 + 4, none⟩) hb2).trans r4
        have r5' := (hbW.cell (p := ⟨b2, off2 + m' * 9 + 5, none⟩) hb2).trans r5
        have r6' := (hbW.cell (p := ⟨b2, off2 + m' * 9 + 6, none⟩) hb2).trans r6
        have r7' := (hbW.cell (p := ⟨b2, off2 + m' * 9 + 7, none⟩) hb2).trans r7
        have r8' := (hbW.cell (p := ⟨b2, off2 + m' * 9 + 8, none⟩) hb2).trans r8
        have hCW : wr.heap.size < W2.heap.size := lt_of_row hbox
        have hBW : B < W2.heap.size := Nat.lt_of_lt_of_le hBlt HBW2.out.size
        have hbW2 : b < W2.heap.size := Nat.lt_of_lt_of_le hblt HBW2.out.size
        have hb1W : b1 < W2.heap.size := Nat.lt_of_lt_of_le hb1 HBW2.out.size
        have hb2W : b2 < W2.heap.size := Nat.lt_of_lt_of_le hb2 HBW2.out.size
        have HDW : Hid (Below wr.heap.size wr W2.drew) := Lib.hid HBW2.out.drew
        have SK0 := Lib.hid (sk_of ((Below.refl W2.heap.size W2).drew))
        have SD := Lib.hid ((Below.refl W2.heap.size W2).drew)
        clear hbW hbox q0 q1 q0' q1' p0 p1 p2 p3 p4 p5 p6 p7 p8 r0 r1 r2 r3 r4 r5 r6 r7 r8 hprev hpin hcl' hla u2 d8 hit' hok' hlo' hco' rl' rt' k0 hk'
        generalize decide (cmpS u.lits[m'] u.lits[m] < 0) = q at *
        generalize u.lits[m'] = t' at *
        generalize u.lits[m] = t at *
        rcases hko with rfl | rfl | rfl
        all_goals
         cases q with
         | true =>
          have HK2 : Hid (∀ j, j < k + 1 → caseOk u.lits x.cases j = true) := Lib.hid (fun j hj => by
           rcases Nat.eq_or_lt_of_le (Nat.le_of_lt_succ hj) with h | h
           ·rw [h]; exact HOKK.out
           ·exact HK.out j h)
          go_wp2_with fail
          first | go_region_held3 (fun w' => W2.heap.size ≤ w'.heap.size ∧ ∀ b o, b < W2.heap.size → w'.cell? ⟨b, o, none⟩ = W2.cell? ⟨b, o, none⟩) (first | with_reducible exact SK0.out | with_reducible exact HK5.out)
           ((go_at_call 83; refine (hLess _ HDW.out).mono ?_; rintro e w5 ⟨rfl, hb5⟩; have HK5 := Lib.hid (sk_of (below_next SD.out hb5)); have HB5 := Lib.hid (below_next HDW.out hb5))) | fail
          go_wp2_with fail
          go_roundw
          case rel => exact ⟨k + 1, by omega, by go_num, HK2, HBW.out.trans (HB5.out.mono HBW.out.size)⟩
          case measure => simp [intOf]; omega
         | false =>
          have E : Hid (listsB u.lits x = false) := Lib.hid (by rw [HE1.out, casesB_no hlt HOKK.out]; rfl)
          go_wp2_with fail
          first | go_region_held3 (fun w' => W2.heap.size ≤ w'.heap.size ∧ ∀ b o, b < W2.heap.size → w'.cell? ⟨b, o, none⟩ = W2.cell? ⟨b, o, none⟩) (first | with_reducible exact SK0.out | with_reducible exact HK5.out)
           ((go_at_call 83; refine (hLess _ HDW.out).mono ?_; rintro e w5 ⟨rfl, hb5⟩; have HK5 := Lib.hid (sk_of (below_next SD.out hb5)); have HB5 := Lib.hid (below_next HDW.out hb5))) | fail
          go_wp2_with fail
          go_ret
          exact ⟨retb E.out.symm, HBW.out.trans (HB5.out.mono HBW.out.size)⟩
      ·have E : Hid (listsB u.lits x = false) := Lib.hid (by
        rw [HE1.out, casesB_no hlt (by
         unfold caseOk kindOk
         rw [HCL.out, HW1.out, hla, HKK.out, decide_eq_false hko]; rfl)]; rfl)
       have t1 : (kk == 1) = false := beq_eq_false_iff_ne.2 (fun h => hko (.inl h))
       have t2 : (kk == 2) = false := beq_eq_false_iff_ne.2 (fun h => hko (.inr (.inl h)))
       have t8 : (kk == 8) = false := beq_eq_false_iff_ne.2 (fun h => hko (.inr (.inr h)))
       clear hko hbW hbox
       go_wp2_with fail
       go_ret
       exact ⟨retb E.out.symm, HBW.out.trans (HBW2.out.mono HBW.out.size)⟩
     ·have E : Hid (listsB u.lits x = false) := Lib.hid (by rw [HE1.out, casesB_no hlt (by unfold caseOk; rw [hcl, wi_no hin]; rfl)]; rfl)
      have hw0 := wi_no hin
      have hwr1 : IntKind.i64.wrap ((u.lits.length : Int) - 1) = (u.lits.length : Int) - 1 := by rw [IntKind.wrap_i64]; omega
      have hwc := fun wx => within_any cl 0 ((u.lits.length : Int) - 1) wx
      rw [hw0] at hwc
      clear hcl hw0 hin rl rt hxr
      have hcx : Below wr.heap.size wr (wr.alloc (.cells #[.int .i64 cl, .int .i64 ct] 131)) := (Below.refl _ _).alloc (Nat.le_refl _) _
      have v2 := (hcx.cell (p := ⟨B, 2, none⟩) hBlt).trans u2
      have HCX := Lib.hid (hBw.trans (hcx.mono hBw.size))
      clear hcx
      go_wp2_with fail
      go_quiet ((go_at_call 68; exact Calls.quiet_of_same ((hwc _).mono fun _ _ ⟨a, b⟩ => ⟨a, b.symm⟩)))
      go_wp2_with fail
      go_ret
      exact ⟨retb E.out.symm, below_drewN HCX.out _⟩
    ·have HC1 : Hid (casesB u.lits x.cases = true) := Lib.hid (casesB_yes (fun j hj => HK.out j (by omega)))
     have HE2 : Hid (listsB u.lits x = x.segs.all (segB u.lits.length)) := Lib.hid (by rw [HE1.out, HC1.out, Bool.true_and])
     have hxr := HX.out.below hBw
     have d9 := hxr.c9
     have HBW := Lib.hid hBw
     have HI : Hid (x.segs.all (segB u.lits.length) = (x.segs.drop 0).all (segB u.lits.length)) := Lib.hid rfl
     clear hxr HK
     obtain ⟨wo, rfl⟩ : ∃ wo : World, wo = wr := ⟨_, rfl⟩
     go_wp2_with fail
     go_loopw [100] (fun i wq => ∃ k : Nat, k ≤ x.segs.length ∧ i = .int .i64 k ∧ Hid (x.segs.all (segB u.lits.length) = (x.segs.drop k).all (segB u.lits.length)) ∧ Below w.heap.size w wq) (fun i _ => x.segs.length - (intOf i).toNat)
     case atStart => exact ⟨0, Nat.zero_le _, rfl, HI, HBW.out⟩
     case round =>
      obtain ⟨k, hk, rfl, HK, hBq⟩ := hrel
      rename World => wr
      by_cases hlt : k < x.segs.length
      ·have hxr := HX.out.below hBq
       obtain ⟨b1, off1, hgo, hb1, s0, s1, s2, s3, s4, s5, t0, t1, t2, t3, t4⟩ := hxr.segs.seg hlt
       subst hgo
       have HST : Hid ((x.segs.drop k).all (segB u.lits.length) = (segB u.lits.length x.segs[k] && (x.segs.drop (k + 1)).all (segB u.lits.length))) := Lib.hid (by rw [List.drop_eq_getElem_cons hlt, List.all_cons])
       have HUW := HU.out.below hBq
       have hu0 := HUW
       have HBQ := Lib.hid hBq
       have hop1 := fun wx (hx : Below wr.heap.size wr wx) => operand_any B u lo fo go co lc fc gc cc x.segs[k].val wx (hu0.below hx) hl ⟨t1, t2⟩
       have hop2 := fun wx (hx : Below wr.heap.size wr wx) => operand_any B u lo fo go co lc fc gc cc x.segs[k].size wx (hu0.below hx) hl ⟨t3, t4⟩
       have HSB : Hid (segB u.lits.length x.segs[k] = (wi x.segs[k].type 1 3 && (opdB u.lits.length x.segs[k].val && (((decide (x.segs[k].size.kind = 0) && decide (x.segs[k].size.n = 0)) || opdB u.lits.length x.segs[k].size) && (!x.segs[k].little || x.segs[k].type == 1))))) := Lib.hid rfl
       have hwt := fun wx => within_any x.segs[k].type 1 3 wx
       generalize segB u.lits.length x.segs[k] = sb at *
       generalize opdB u.lits.length x.segs[k].val = ov at *
       generalize opdB u.lits.length x.segs[k].size = os at *
       generalize wi x.segs[k].type 1 3 = wt at *
       generalize x.segs[k] = g at *
       obtain ⟨ty, ⟨vk, vn⟩, ⟨sk, sn⟩, lit⟩ := g
       simp only at *
       have hbx : Below wr.heap.size wr (wr.alloc (.cells #[.int .i64 ty, .int .i64 vk, .int .i64 vn, .int .i64 sk, .int .i64 sn, .bool lit] 133)) := (Below.refl _ _).alloc (Nat.le_refl _) _
       have hbr := heap_alloc_new wr (.cells #[.int .i64 ty, .int .i64 vk, .int .i64 vn, .int .i64 sk, .int .i64 sn, .bool lit] 133)
       have HBX := Lib.hid hbx; have HBR := Lib.hid hbr
       clear hbx hbr t0 t1 t2 t3 t4 hxr HUW hu0 hBq
       cases wt with
       | false =>
        cases sk0 : (sk == 0) with
        | false =>
         have hz : (decide (sk = 0) && decide (sn = 0)) = false := by rw [decide_eq_false (by simpa using sk0)]; rfl
         rw [hz] at HSB
         clear hz
         have hsv0 : sb = false := by rw [HSB.out]; simp []
         have HSV := Lib.hid hsv0
         clear hsv0
         go_wp2_with (go_at_call 68; refine (hwt _).mono ?_; rintro e w1 ⟨rfl, rfl⟩)
         have HE3 : Hid (listsB u.lits x = false) := Lib.hid (by rw [HE2.out, HK.out, HST.out, HSV.out]; rfl)
         go_ret
         exact ⟨retb HE3.out.symm, HBQ.out.trans (HBX.out.mono HBQ.out.size)⟩
        | true =>
         cases sn0 : (sn == 0) with
         | false =>
          have hz : (decide (sk = 0) && decide (sn = 0)) = false := by rw [decide_eq_false (p := sn = 0) (by simpa using sn0)]; exact Bool.and_false _
          rw [hz] at HSB
          clear hz
          have hsv0 : sb = false := by rw [HSB.out]; simp []
          have HSV := Lib.hid hsv0
          clear hsv0
          go_wp2_with (go_at_call 68; refine (hwt _).mono ?_; rintro e w1 ⟨rfl, rfl⟩)
          have HE3 : Hid (listsB u.lits x = false) := Lib.hid (by rw [HE2.out, HK.out, HST.out, HSV.out]; rfl)
          go_ret
          exact ⟨retb HE3.out.symm, HBQ.out.trans (HBX.out.mono HBQ.out.size)⟩
         | true =>
          have hz : (decide (sk = 0) && decide (sn = 0)) = true := by rw [decide_eq_true (by simpa using sk0), decide_eq_true (by simpa using sn0)]; rfl
          rw [hz] at HSB
          clear hz
          have hsv0 : sb = false := by rw [HSB.out]; simp []
          have HSV := Lib.hid hsv0
          clear hsv0
          go_wp2_with (go_at_call 68; refine (hwt _).mono ?_; rintro e w1 ⟨rfl, rfl⟩)
          have HE3 : Hid (listsB u.lits x = false) := Lib.hid (by rw [HE2.out, HK.out, HST.out, HSV.out]; rfl)
          go_ret
          exact ⟨retb HE3.out.symm, HBQ.out.trans (HBX.out.mono HBQ.out.size)⟩
       | true =>
        cases ov with
        | false =>
         cases sk0 : (sk == 0) with
         | false =>
          have hz : (decide (sk = 0) && decide (sn = 0)) = false := by rw [decide_eq_false (by simpa using sk0)]; rfl
          rw [hz] at HSB
          clear hz
          have hsv0 : sb = false := by rw [HSB.out]; simp []
          have HSV := Lib.hid hsv0
          clear hsv0
          go_wp2_with (go_at_call 68; refine (hwt _).mono ?_; rintro e w1 ⟨rfl, rfl⟩)
          refine (hop1 _ HBX.out).mono ?_
          rintro e w5 ⟨rfl, hb5⟩
          have HB5 := Lib.hid (below_next HBX.out hb5)
          have hbra := (hb5.block wr.heap.size (lt_of_row HBR.out)).trans HBR.out
          obtain ⟨g0, g1, g2, g3, g4, g5⟩ := seg_cells hbra
          clear hb5
          have HE3 : Hid (listsB u.lits x = false) := Lib.hid (by rw [HE2.out, HK.out, HST.out, HSV.out]; rfl)
          go_wp2_with fail
          go_ret
          exact ⟨retb HE3.out.symm, HBQ.out.trans (HB5.out.mono HBQ.out.size)⟩
         | true =>
          cases sn0 : (sn == 0) with
          | false =>
           have hz : (decide (sk = 0) && decide (sn = 0)) = false := by rw [decide_eq_false (p := sn = 0) (by simpa using sn0)]; exact Bool.and_false _
           rw [hz] at HSB
           clear hz
           have hsv0 : sb = false := by rw [HSB.out]; simp []
           have HSV := Lib.hid hsv0
           clear hsv0
           go_wp2_with (go_at_call 68; refine (hwt _).mono ?_; rintro e w1 ⟨rfl, rfl⟩)
           refine (hop1 _ HBX.out).mono ?_
           rintro e w5 ⟨rfl, hb5⟩
           have HB5 := Lib.hid (below_next HBX.out hb5)
           have hbra := (hb5.block wr.heap.size (lt_of_row HBR.out)).trans HBR.out
           obtain ⟨g0, g1, g2, g3, g4, g5⟩ := seg_cells hbra
           clear hb5
           have HE3 : Hid (listsB u.lits x = false) := Lib.hid (by rw [HE2.out, HK.out, HST.out, HSV.out]; rfl)
           go_wp2_with fail
           go_ret
           exact ⟨retb HE3.out.symm, HBQ.out.trans (HB5.out.mono HBQ.out.size)⟩
          | true =>
           have hz : (decide (sk = 0) && decide (sn = 0)) = true := by rw [decide_eq_true (by simpa using sk0), decide_eq_true (by simpa using sn0)]; rfl
           rw [hz] at HSB
           clear hz
           have hsv0 : sb = false := by rw [HSB.out]; simp []
           have HSV := Lib.hid hsv0
           clear hsv0
           go_wp2_with (go_at_call 68; refine (hwt _).mono ?_; rintro e w1 ⟨rfl, rfl⟩)
           refine (hop1 _ HBX.out).mono ?_
           rintro e w5 ⟨rfl, hb5⟩
           have HB5 := Lib.hid (below_next HBX.out hb5)
           have hbra := (hb5.block wr.heap.size (lt_of_row HBR.out)).trans HBR.out
           obtain ⟨g0, g1, g2, g3, g4, g5⟩ := seg_cells hbra
           clear hb5
           have HE3 : Hid (listsB u.lits x = false) := Lib.hid (by rw [HE2.out, HK.out, HST.out, HSV.out]; rfl)
           go_wp2_with fail
           go_ret
           exact ⟨retb HE3.out.symm, HBQ.out.trans (HB5.out.mono HBQ.out.size)⟩
        | true =>
         cases sk0 : (sk == 0) with
         | false =>
          have hz : (decide (sk = 0) && decide (sn = 0)) = false := by rw [decide_eq_false (by simpa using sk0)]; rfl
          rw [hz] at HSB
          clear hz
          cases os with
          | false =>
           have hsv0 : sb = false := by rw [HSB.out]; simp []
           have HSV := Lib.hid hsv0
           clear hsv0
           go_wp2_with (go_at_call 68; refine (hwt _).mono ?_; rintro e w1 ⟨rfl, rfl⟩)
           refine (hop1 _ HBX.out).mono ?_
           rintro e w5 ⟨rfl, hb5⟩
           have HB5 := Lib.hid (below_next HBX.out hb5)
           have hbra := (hb5.block wr.heap.size (lt_of_row HBR.out)).trans HBR.out
           obtain ⟨g0, g1, g2, g3, g4, g5⟩ := seg_cells hbra
           clear hb5
           go_wp2_with fail
           refine (hop2 _ HB5.out).mono ?_
           rintro e w6 ⟨rfl, hb6⟩
           have HB6 := Lib.hid (below_next HB5.out hb6)
           clear g0 g1 g2 g3 g4 g5
           have hbrb := (hb6.block wr.heap.size (lt_of_row hbra)).trans hbra
           obtain ⟨g0, g1, g2, g3, g4, g5⟩ := seg_cells hbrb
           clear hb6
           have HE3 : Hid (listsB u.lits x = false) := Lib.hid (by rw [HE2.out, HK.out, HST.out, HSV.out]; rfl)
           go_wp2_with fail
           go_ret
           exact ⟨retb HE3.out.symm, HBQ.out.trans (HB6.out.mono HBQ.out.size)⟩
          | true =>
           go_wp2_with (go_at_call 68; refine (hwt _).mono ?_; rintro e w1 ⟨rfl, rfl⟩)
           refine (hop1 _ HBX.out).mono ?_
           rintro e w5 ⟨rfl, hb5⟩
           have HB5 := Lib.hid (below_next HBX.out hb5)
           have hbra := (hb5.block wr.heap.size (lt_of_row HBR.out)).trans HBR.out
           obtain ⟨g0, g1, g2, g3, g4, g5⟩ := seg_cells hbra
           clear hb5
           go_wp2_with fail
           refine (hop2 _ HB5.out).mono ?_
           rintro e w6 ⟨rfl, hb6⟩
           have HB6 := Lib.hid (below_next HB5.out hb6)
           clear g0 g1 g2 g3 g4 g5
           have hbrb := (hb6.block wr.heap.size (lt_of_row hbra)).trans hbra
           obtain ⟨g0, g1, g2, g3, g4, g5⟩ := seg_cells hbrb
           clear hb6
           cases lit with
           | false =>
            have hsv0 : sb = true := by rw [HSB.out]; simp []
            have HSV := Lib.hid hsv0
            clear hsv0
            have HK2 : Hid (x.segs.all (segB u.lits.length) = (x.segs.drop (k + 1)).all (segB u.lits.length)) := Lib.hid (by rw [HK.out, HST.out, HSV.out]; rfl)
            go_wp2_with fail
            go_roundw
            case rel => exact ⟨k + 1, by omega, by go_num, HK2, HBQ.out.trans (HB6.out.mono HBQ.out.size)⟩
            case measure => simp [intOf]; omega
           | true =>
            cases ty1 : (ty == 1) with
            | true =>
             have ty2 : (ty != 1) = false := by unfold bne; rw [ty1]; rfl
             have hsv0 : sb = true := by rw [HSB.out]; simp [ty1]
             have HSV := Lib.hid hsv0
             clear hsv0
             have HK2 : Hid (x.segs.all (segB u.lits.length) = (x.segs.drop (k + 1)).all (segB u.lits.length)) := Lib.hid (by rw [HK.out, HST.out, HSV.out]; rfl)
             go_wp2_with fail
             go_roundw
             case rel => exact ⟨k + 1, by omega, by go_num, HK2, HBQ.out.trans (HB6.out.mono HBQ.out.size)⟩
             case measure => simp [intOf]; omega
            | false =>
             have ty2 : (ty != 1) = true := by unfold bne; rw [ty1]; rfl
             have hsv0 : sb = false := by rw [HSB.out]; simp [ty1]
             have HSV := Lib.hid hsv0
             clear hsv0
             have HE3 : Hid (listsB u.lits x = false) := Lib.hid (by rw [HE2.out, HK.out, HST.out, HSV.out]; rfl)
             go_wp2_with fail
             go_ret
             exact ⟨retb HE3.out.symm, HBQ.out.trans (HB6.out.mono HBQ.out.size)⟩
         | true =>
          cases sn0 : (sn == 0) with
          | false =>
           have hz : (decide (sk = 0) && decide (sn = 0)) = false := by rw [decide_eq_false (p := sn = 0) (by simpa using sn0)]; exact Bool.and_false _
           rw [hz] at HSB
           clear hz
           cases os with
           | false =>
            have hsv0 : sb = false := by rw [HSB.out]; simp []
            have HSV := Lib.hid hsv0
            clear hsv0
            go_wp2_with (go_at_call 68; refine (hwt _).mono ?_; rintro e w1 ⟨rfl, rfl⟩)
            refine (hop1 _ HBX.out).mono ?_
            rintro e w5 ⟨rfl, hb5⟩
            have HB5 := Lib.hid (below_next HBX.out hb5)
            have hbra := (hb5.block wr.heap.size (lt_of_row HBR.out)).trans HBR.out
            obtain ⟨g0, g1, g2, g3, g4, g5⟩ := seg_cells hbra
            clear hb5
            go_wp2_with fail
            refine (hop2 _ HB5.out).mono ?_
            rintro e w6 ⟨rfl, hb6⟩
            have HB6 := Lib.hid (below_next HB5.out hb6)
            clear g0 g1 g2 g3 g4 g5
            have hbrb := (hb6.block wr.heap.size (lt_of_row hbra)).trans hbra
            obtain ⟨g0, g1, g2, g3, g4, g5⟩ := seg_cells hbrb
            clear hb6
            have HE3 : Hid (listsB u.lits x = false) := Lib.hid (by rw [HE2.out, HK.out, HST.out, HSV.out]; rfl)
            go_wp2_with fail
            go_ret
            exact ⟨retb HE3.out.symm, HBQ.out.trans (HB6.out.mono HBQ.out.size)⟩
           | true =>
            go_wp2_with (go_at_call 68; refine (hwt _).mono ?_; rintro e w1 ⟨rfl, rfl⟩)
            refine (hop1 _ HBX.out).mono ?_
            rintro e w5 ⟨rfl, hb5⟩
            have HB5 := Lib.hid (below_next HBX.out hb5)
            have hbra := (hb5.block wr.heap.size (lt_of_row HBR.out)).trans HBR.out
            obtain ⟨g0, g1, g2, g3, g4, g5⟩ := seg_cells hbra
            clear hb5
            go_wp2_with fail
            refine (hop2 _ HB5.out).mono ?_
            rintro e w6 ⟨rfl, hb6⟩
            have HB6 := Lib.hid (below_next HB5.out hb6)
            clear g0 g1 g2 g3 g4 g5
            have hbrb := (hb6.block wr.heap.size (lt_of_row hbra)).trans hbra
            obtain ⟨g0, g1, g2, g3, g4, g5⟩ := seg_cells hbrb
            clear hb6
            cases lit with
            | false =>
             have hsv0 : sb = true := by rw [HSB.out]; simp []
             have HSV := Lib.hid hsv0
             clear hsv0
             have HK2 : Hid (x.segs.all (segB u.lits.length) = (x.segs.drop (k + 1)).all (segB u.lits.length)) := Lib.hid (by rw [HK.out, HST.out, HSV.out]; rfl)
             go_wp2_with fail
             go_roundw
             case rel => exact ⟨k + 1, by omega, by go_num, HK2, HBQ.out.trans (HB6.out.mono HBQ.out.size)⟩
             case measure => simp [intOf]; omega
            | true =>
             cases ty1 : (ty == 1) with
             | true =>
              have ty2 : (ty != 1) = false := by unfold bne; rw [ty1]; rfl
              have hsv0 : sb = true := by rw [HSB.out]; simp [ty1]
              have HSV := Lib.hid hsv0
              clear hsv0
              have HK2 : Hid (x.segs.all (segB u.lits.length) = (x.segs.drop (k + 1)).all (segB u.lits.length)) := Lib.hid (by rw [HK.out, HST.out, HSV.out]; rfl)
              go_wp2_with fail
              go_roundw
              case rel => exact ⟨k + 1, by omega, by go_num, HK2, HBQ.out.trans (HB6.out.mono HBQ.out.size)⟩
              case measure => simp [intOf]; omega
             | false =>
              have ty2 : (ty != 1) = true := by unfold bne; rw [ty1]; rfl
              have hsv0 : sb = false := by rw [HSB.out]; simp [ty1]
              have HSV := Lib.hid hsv0
              clear hsv0
              have HE3 : Hid (listsB u.lits x = false) := Lib.hid (by rw [HE2.out, HK.out, HST.out, HSV.out]; rfl)
              go_wp2_with fail
              go_ret
              exact ⟨retb HE3.out.symm, HBQ.out.trans (HB6.out.mono HBQ.out.size)⟩
          | true =>
           have hz : (decide (sk = 0) && decide (sn = 0)) = true := by rw [decide_eq_true (by simpa using sk0), decide_eq_true (by simpa using sn0)]; rfl
           rw [hz] at HSB
           clear hz
           go_wp2_with (go_at_call 68; refine (hwt _).mono ?_; rintro e w1 ⟨rfl, rfl⟩)
           refine (hop1 _ HBX.out).mono ?_
           rintro e w5 ⟨rfl, hb5⟩
           have HB5 := Lib.hid (below_next HBX.out hb5)
           have hbra := (hb5.block wr.heap.size (lt_of_row HBR.out)).trans HBR.out
           obtain ⟨g0, g1, g2, g3, g4, g5⟩ := seg_cells hbra
           clear hb5
           cases lit with
           | false =>
            have hsv0 : sb = true := by rw [HSB.out]; simp []
            have HSV := Lib.hid hsv0
            clear hsv0
            have HK2 : Hid (x.segs.all (segB u.lits.length) = (x.segs.drop (k + 1)).all (segB u.lits.length)) := Lib.hid (by rw [HK.out, HST.out, HSV.out]; rfl)
            go_wp2_with fail
            go_roundw
            case rel => exact ⟨k + 1, by omega, by go_num, HK2, HBQ.out.trans (HB5.out.mono HBQ.out.size)⟩
            case measure => simp [intOf]; omega
           | true =>
            cases ty1 : (ty == 1) with
            | true =>
             have ty2 : (ty != 1) = false := by unfold bne; rw [ty1]; rfl
             have hsv0 : sb = true := by rw [HSB.out]; simp [ty1]
             have HSV := Lib.hid hsv0
             clear hsv0
             have HK2 : Hid (x.segs.all (segB u.lits.length) = (x.segs.drop (k + 1)).all (segB u.lits.length)) := Lib.hid (by rw [HK.out, HST.out, HSV.out]; rfl)
             go_wp2_with fail
             go_roundw
             case rel => exact ⟨k + 1, by omega, by go_num, HK2, HBQ.out.trans (HB5.out.mono HBQ.out.size)⟩
             case measure => simp [intOf]; omega
            | false =>
             have ty2 : (ty != 1) = true := by unfold bne; rw [ty1]; rfl
             have hsv0 : sb = false := by rw [HSB.out]; simp [ty1]
             have HSV := Lib.hid hsv0
             clear hsv0
             have HE3 : Hid (listsB u.lits x = false) := Lib.hid (by rw [HE2.out, HK.out, HST.out, HSV.out]; rfl)
             go_wp2_with fail
             go_ret
             exact ⟨retb HE3.out.symm, HBQ.out.trans (HB5.out.mono HBQ.out.size)⟩
      ·have HE3 : Hid (listsB u.lits x = true) := Lib.hid (by rw [HE2.out, HK.out, List.drop_eq_nil_of_le (by omega)]; rfl)
       go_wp2_with fail
       go_ret
       exact ⟨retb HE3.out.symm, hBq⟩
end Go.Proofs.YtghgbikmlbildaaGreatDoor
namespace Go.Proofs.YtghgbikmlbildaaGreatDoor
open Go.RowKit
set_option linter.unusedVariables false
set_option linter.unusedSimpArgs false

def opAt (code : List RIns) (i : Int) : Int := ((code[i.toNat]?).map RIns.op).getD 0
/-- Do the targets of an instruction lie where they must? -/
def targetsB (code : List RIns) (i : Nat) (x : RIns) (h : Nat) : Bool :=
 if x.op = 39 ∨ x.op = 40 then wi x.to 0 ((code.length : Int) - 1) && (opAt code x.to == 37)
 else x.cases.all (fun c => wi c.to ((i : Int) + 1) ((code.length : Int) - 1)) && (!hasB h 64 || wi x.to ((i : Int) + 1) ((code.length : Int) - 1))

set_option maxRecDepth 100000 in
set_option maxHeartbeats 8000000 in
theorem targets_jump (B : Nat) (u : RUnit) (lo fo go : Option Addr) (lc fc gc cc : Nat) (bc oc : Nat) (i : Nat) (h l' h' : Int) (so co' go' : Option Addr) (sc cc' gc' : Nat) (w : World) (hu : UBox w B u lo fo go (some ⟨bc, oc, none⟩) lc fc gc cc) (hcode : SlAt w 10 (InsR w) (some ⟨bc, oc, none⟩) u.code) (hl : u.code.length ≤ 9223372036854775807) (hi : i < u.code.length)
  (x : RIns) (hx : IBox w bc (oc + i * 10) x so co' go' sc cc' gc') (hop : x.op = 39 ∨ x.op = 40) (hn : Nat) :
  Calls Tryz.prog 36 #[.pointer (some ⟨B, 0, none⟩), .int .i64 i, .agg #[.int .i64 h, .int .i64 l', .int .i64 h']] w fun e w' => e = .returned (.bool (targetsB u.code i x hn)) ∧ Below w.heap.size w w' := by
 have hbe : Below w.heap.size w (w.alloc (.cells #[.int .i64 h, .int .i64 l', .int .i64 h'] 57)) := (Below.refl _ _).alloc (Nat.le_refl _) _
 have b5 := (hu.below hbe).c5
 have hxb := hx.below hbe
 have c0 := hxb.c0; have c4 := hxb.c4
 have hBl := (hu.below hbe).lt
 have hbl := hxb.lt
 have hw1 : IntKind.i64.wrap ((u.code.length : Int) - 1) = (u.code.length : Int) - 1 := by rw [IntKind.wrap_i64]; omega
 have hwc := fun wx => within_any x.to 0 ((u.code.length : Int) - 1) wx
 have HBE := Lib.hid hbe
 have E0 : Hid (targetsB u.code i x hn = (wi x.to 0 ((u.code.length : Int) - 1) && (opAt u.code x.to == 37))) := Lib.hid (by unfold targetsB; rw [if_pos hop])
 have HCO := Lib.hid hcode
 clear hu hx hxb hcode
 generalize hxo : x.op = xo at *
 have hE : ∀ j, j < u.code.length → True := fun _ _ => trivial
 clear hE hxo
 by_cases hin : 0 ≤ x.to ∧ x.to ≤ (u.code.length : Int) - 1
 ·have hwi := wi_yes hin.1 hin.2
  rw [hwi] at hwc
  obtain ⟨m, hm⟩ : ∃ m : Nat, x.to = (m : Int) := ⟨x.to.toNat, by omega⟩
  have hml : m < u.code.length := by omega
  obtain ⟨b2, o2, so2, co2, go2, sc2, cc2, gc2, hao, hmx⟩ := ibox_of HCO.out hml
  obtain ⟨rfl, rfl⟩ : bc = b2 ∧ oc = o2 := by injection hao with h; injection h with h1 h2; exact ⟨h1, h2⟩
  have d0 := (hmx.below HBE.out).c0
  have hop2 : opAt u.code x.to = (u.code[m]).op := by unfold opAt; rw [hm, Int.toNat_natCast, List.getElem?_eq_getElem hml]; rfl
  rw [hwi, hop2, Bool.true_and] at E0
  rw [hm] at hwc c4
  generalize (u.code[m]).op = oo at *
  have E1 := Lib.hid E0.out
  clear hmx hao hin hwi hop2 hm HCO E0
  generalize targetsB u.code i x hn = r at *
  cases hq : (oo == 37)
  all_goals
   rw [hq] at E1
   rcases hop with rfl | rfl
   all_goals
    go_enter Tryz.func36, Tryz.ntmps36
    go_wp2_with fail
    go_quiet (fail)
    have HQ := Lib.hid (below_drewN HBE.out nq)
    have b5' : ((w.alloc (.cells #[.int .i64 h, .int .i64 l', .int .i64 h'] 57)).drewN nq).cell? ⟨B, 5, none⟩ = some (.slice (some ⟨bc, oc, none⟩) u.code.length cc) := b5
    have c0' : ((w.alloc (.cells #[.int .i64 h, .int .i64 l', .int .i64 h'] 57)).drewN nq).cell? ⟨bc, oc + i * 10, none⟩ = _ := c0
    have c4' : ((w.alloc (.cells #[.int .i64 h, .int .i64 l', .int .i64 h'] 57)).drewN nq).cell? ⟨bc, oc + i * 10 + 4, none⟩ = _ := c4
    have d0' : ((w.alloc (.cells #[.int .i64 h, .int .i64 l', .int .i64 h'] 57)).drewN nq).cell? ⟨bc, oc + m * 10, none⟩ = _ := d0
    clear b5 c0 c4 d0 HBE
    generalize (w.alloc (.cells #[.int .i64 h, .int .i64 l', .int .i64 h'] 57)).drewN nq = W1 at *
    go_wp2_with fail
    go_quiet ((go_at_call 68; exact Calls.quiet_of_same ((hwc _).mono fun _ _ ⟨a, b⟩ => ⟨a, b.symm⟩)))
    go_wp2_with fail
    go_ret
    exact ⟨retb E1.out.symm, below_drewN HQ.out _⟩
 ·have hwi := wi_no hin
  rw [hwi] at hwc
  rw [hwi, Bool.false_and] at E0
  have E1 := Lib.hid E0.out
  clear hin hwi HCO E0
  generalize targetsB u.code i x hn = r at *
  rcases hop with rfl | rfl
  all_goals
   go_enter Tryz.func36, Tryz.ntmps36
   go_wp2_with fail
   go_quiet (fail)
   have HQ := Lib.hid (below_drewN HBE.out nq)
   have b5' : ((w.alloc (.cells #[.int .i64 h, .int .i64 l', .int .i64 h'] 57)).drewN nq).cell? ⟨B, 5, none⟩ = some (.slice (some ⟨bc, oc, none⟩) u.code.length cc) := b5
   have c0' : ((w.alloc (.cells #[.int .i64 h, .int .i64 l', .int .i64 h'] 57)).drewN nq).cell? ⟨bc, oc + i * 10, none⟩ = _ := c0
   have c4' : ((w.alloc (.cells #[.int .i64 h, .int .i64 l', .int .i64 h'] 57)).drewN nq).cell? ⟨bc, oc + i * 10 + 4, none⟩ = _ := c4
   clear b5 c0 c4 HBE
   generalize (w.alloc (.cells #[.int .i64 h, .int .i64 l', .int .i64 h'] 57)).drewN nq = W1 at *
   go_wp2_with fail
   go_quiet ((go_at_call 68; exact Calls.quiet_of_same ((hwc _).mono fun _ _ ⟨a, b⟩ => ⟨a, b.symm⟩)))
   go_wp2_with fail
   go_ret
   exact ⟨retb E1.out.symm, below_drewN HQ.out _⟩
set_option maxRecDepth 100000 in
set_option maxHeartbeats 8000000 in
theorem targets_rest (B : Nat) (u : RUnit) (lo fo go : Option Addr) (lc fc gc cc : Nat) (bc oc : Nat) (i : Nat) (hn : Nat) (l' h' : Int) (so co' go' : Option Addr) (sc cc' gc' : Nat) (w : World) (hu : UBox w B u lo fo go (some ⟨bc, oc, none⟩) lc fc gc cc) (hl : u.code.length ≤ 9223372036854775807) (hi : i < u.code.length)
  (x : RIns) (hx : IBox w bc (oc + i * 10) x so co' go' sc cc' gc') (hop : ¬ (x.op = 39 ∨ x.op = 40)) (hh : hn < 1000) :
  Calls Tryz.prog 36 #[.pointer (some ⟨B, 0, none⟩), .int .i64 i, .agg #[.int .i64 hn, .int .i64 l', .int .i64 h']] w fun e w' => e = .returned (.bool (targetsB u.code i x hn)) ∧ Below w.heap.size w w' := by
 have hbe : Below w.heap.size w (w.alloc (.cells #[.int .i64 hn, .int .i64 l', .int .i64 h'] 57)) := (Below.refl _ _).alloc (Nat.le_refl _) _
 have hbr := heap_alloc_new w (.cells #[.int .i64 hn, .int .i64 l', .int .i64 h'] 57)
 have b5 := (hu.below hbe).c5
 have hxb := hx.below hbe
 have c0 := hxb.c0
 have hBl := (hu.below hbe).lt
 have hbl := hxb.lt
 have rc := hxb.rcases
 have t39 : (x.op == 39) = false := beq_eq_false_iff_ne.2 (fun h => hop (.inl h))
 have t40 : (x.op == 40) = false := beq_eq_false_iff_ne.2 (fun h => hop (.inr h))
 have hw1 : IntKind.i64.wrap ((u.code.length : Int) - 1) = (u.code.length : Int) - 1 := by rw [IntKind.wrap_i64]; omega
 have hwc := fun n wx => within_any n ((i : Int) + 1) ((u.code.length : Int) - 1) wx
 have HBE := Lib.hid hbe; have HBR := Lib.hid hbr; have HX := Lib.hid hxb
 have ha : bits .and .i64 (hn : Int) 64 = ((hn &&& 64 : Nat) : Int) := and_i64 hn 64 (by omega) (by omega)
 have hab : ((((hn &&& 64 : Nat) : Int)) == 0) = !hasB hn 64 := by
  unfold hasB
  by_cases c : hn &&& 64 = 0
  ·rw [c]; rfl
  ·rw [decide_eq_true c]; show _ = false; rw [beq_eq_false_iff_ne]; omega
 have E0 : Hid (targetsB u.code i x hn = (x.cases.all (fun c => wi c.to ((i : Int) + 1) ((u.code.length : Int) - 1)) && (!hasB hn 64 || wi x.to ((i : Int) + 1) ((u.code.length : Int) - 1)))) := Lib.hid (by unfold targetsB; rw [if_neg hop])
 have HAB := Lib.hid hab
 have HI : Hid (x.cases.all (fun c => wi c.to ((i : Int) + 1) ((u.code.length : Int) - 1)) = (x.cases.drop 0).all (fun c => wi c.to ((i : Int) + 1) ((u.code.length : Int) - 1))) := Lib.hid rfl
 clear hu hx hxb hop hab hbr hbe
 generalize targetsB u.code i x hn = r at *
 go_enter Tryz.func36, Tryz.ntmps36
 go_wp2_with fail
 go_quiet (fail)
 have HQ := Lib.hid (below_drewN HBE.out nq)
 have HQ2 : Hid (Below (w.alloc (.cells #[.int .i64 hn, .int .i64 l', .int .i64 h'] 57)).heap.size (w.alloc (.cells #[.int .i64 hn, .int .i64 l', .int .i64 h'] 57)) ((w.alloc (.cells #[.int .i64 hn, .int .i64 l', .int .i64 h'] 57)).drewN nq)) := Lib.hid (below_drewN (Below.refl _ _) nq)
 have HX1 := Lib.hid (HX.out.below HQ2.out)
 have HR1 : Hid (((w.alloc (.cells #[.int .i64 hn, .int .i64 l', .int .i64 h'] 57)).drewN nq).heap[w.heap.size]? = some (.cells #[.int .i64 hn, .int .i64 l', .int .i64 h'] 57 (0, 0))) := Lib.hid HBR.out
 clear b5 c0 HBE HQ2 HX HBR hBl hbl
 generalize (w.alloc (.cells #[.int .i64 hn, .int .i64 l', .int .i64 h'] 57)).drewN nq = W1 at *
 have c0 := HX1.out.c0; have c8 := HX1.out.c8
 have hwi2 : IntKind.i64.wrap ((i : Int) + 1) = (i : Int) + 1 := by rw [IntKind.wrap_i64]; omega
 go_wp2_with fail
 go_loopw [55] (fun j wr => ∃ k : Nat, k ≤ x.cases.length ∧ j = .int .i64 k ∧ Hid (x.cases.all (fun c => wi c.to ((i : Int) + 1) ((u.code.length : Int) - 1)) = (x.cases.drop k).all (fun c => wi c.to ((i : Int) + 1) ((u.code.length : Int) - 1))) ∧ Below W1.heap.size W1 wr) (fun j _ => x.cases.length - (intOf j).toNat)
 case atStart => exact ⟨0, Nat.zero_le _, rfl, HI, Below.refl _ _⟩
 case round =>
  obtain ⟨k, hk, rfl, HK, hBw⟩ := hrel
  rename World => wr
  by_cases hlt : k < x.cases.length
  ·obtain ⟨b1, off1, hco, hb1, q0, q1, rl, rt⟩ := (HX1.out.below hBw).cases.case hlt
   subst hco
   have HST : Hid ((x.cases.drop k).all (fun c => wi c.to ((i : Int) + 1) ((u.code.length : Int) - 1)) = (wi x.cases[k].to ((i : Int) + 1) ((u.code.length : Int) - 1) && (x.cases.drop (k + 1)).all (fun c => wi c.to ((i : Int) + 1) ((u.code.length : Int) - 1)))) := Lib.hid (by rw [List.drop_eq_getElem_cons hlt, List.all_cons])
   have hwc1 := fun wx => hwc x.cases[k].to wx
   generalize wi x.cases[k].to ((i : Int) + 1) ((u.code.length : Int) - 1) = q at *
   generalize x.cases[k].to = ct at *
   generalize x.cases[k].lit = cl at *
   have HBA : Hid (Below W1.heap.size W1 (wr.alloc (.cells #[.int .i64 cl, .int .i64 ct] 131))) := Lib.hid (hBw.alloc hBw.size _)
   cases q with
   | true =>
    have HK2 : Hid (x.cases.all (fun c => wi c.to ((i : Int) + 1) ((u.code.length : Int) - 1)) = (x.cases.drop (k + 1)).all (fun c => wi c.to ((i : Int) + 1) ((u.code.length : Int) - 1))) := Lib.hid (by rw [HK.out, HST.out, Bool.true_and])
    go_wp2_with (go_at_call 68; refine (hwc1 _).mono ?_; rintro e w1 ⟨rfl, rfl⟩)
    go_roundw
    case rel => exact ⟨k + 1, by omega, by go_num, HK2, HBA.out⟩
    case measure => simp [intOf]; omega
   | false =>
    have E : Hid (r = false) := Lib.hid (by rw [E0.out, HK.out, HST.out]; rfl)
    go_wp2_with (go_at_call 68; refine (hwc1 _).mono ?_; rintro e w1 ⟨rfl, rfl⟩)
    go_ret
    exact ⟨retb E.out.symm, HQ.out.trans (HBA.out.mono HQ.out.size)⟩
  ·have EK : Hid (r = (!hasB hn 64 || wi x.to ((i : Int) + 1) ((u.code.length : Int) - 1))) := Lib.hid (by rw [E0.out, HK.out, List.drop_eq_nil_of_le (by omega)]; rfl)
   have hr := (hBw.block w.heap.size (lt_of_row HR1.out)).trans HR1.out
   have n0 : wr.cell? ⟨w.heap.size, 0, none⟩ = some (.int .i64 hn) := by rw [cell_of_row _ _ _ _ _ _ hr]; rfl
   have c4 := (HX1.out.below hBw).c4
   have hwc1 := fun wx => hwc x.to wx
   have hab := HAB.out
   generalize wi x.to ((i : Int) + 1) ((u.code.length : Int) - 1) = q at *
   generalize hasB hn 64 = hb at *
   clear hr
   generalize hn &&& 64 = z at *
   cases hb with
   | false =>
    have E : Hid (r = true) := Lib.hid (by rw [EK.out]; rfl)
    go_wp2_with fail
    go_ret
    exact ⟨retb E.out.symm, HQ.out.trans (hBw.mono HQ.out.size)⟩
   | true =>
    have E : Hid (r = q) := Lib.hid (by rw [EK.out]; rfl)
    go_wp2_with (go_at_call 68; refine (hwc1 _).mono ?_; rintro e w1 ⟨rfl, rfl⟩)
    go_ret
    exact ⟨retb E.out.symm, HQ.out.trans (hBw.mono HQ.out.size)⟩
theorem targets_any (B : Nat) (u : RUnit) (lo fo go : Option Addr) (lc fc gc cc : Nat) (bc oc : Nat) (i : Nat) (hn : Nat) (l' h' : Int) (so co' go' : Option Addr) (sc cc' gc' : Nat) (w : World) (hu : UBox w B u lo fo go (some ⟨bc, oc, none⟩) lc fc gc cc) (hcode : SlAt w 10 (InsR w) (some ⟨bc, oc, none⟩) u.code) (hl : u.code.length ≤ 9223372036854775807) (hi : i < u.code.length)
  (x : RIns) (hx : IBox w bc (oc + i * 10) x so co' go' sc cc' gc') (hh : hn < 1000) :
  Calls Tryz.prog 36 #[.pointer (some ⟨B, 0, none⟩), .int .i64 i, .agg #[.int .i64 hn, .int .i64 l', .int .i64 h']] w fun e w' => e = .returned (.bool (targetsB u.code i x hn)) ∧ Below w.heap.size w w' := by
 by_cases hop : x.op = 39 ∨ x.op = 40
 ·exact targets_jump B u lo fo go lc fc gc cc bc oc i hn l' h' so co' go' sc cc' gc' w hu hcode hl hi x hx hop hn
 ·exact targets_rest B u lo fo go lc fc gc cc bc oc i hn l' h' so co' go' sc cc' gc' w hu hl hi x hx hop hh
end Go.Proofs.YtghgbikmlbildaaGreatDoor
