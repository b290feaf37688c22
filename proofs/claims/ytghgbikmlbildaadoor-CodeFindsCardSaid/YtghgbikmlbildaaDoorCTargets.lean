/-
  targets: the walk.
-/
import Derived.Test.YtghgbikmlbildaaDoorCFields
import Derived.Test.YtghgbikmlbildaaDoorTKinds2
namespace Go.Proofs.YtghgbikmlbildaaDoor
open Go.RowKit
set_option linter.unusedVariables false
set_option linter.unusedSimpArgs false

def opAt (code : List RIns) (i : Int) : Int := ((code[i.toNat]?).map RIns.op).getD 0
/-- Do the targets of an instruction lie where they must? -/
def targetsB (code : List RIns) (i : Nat) (x : RIns) (h : Nat) : Bool :=
  if x.op = 39 ∨ x.op = 40 then wi x.to 0 ((code.length : Int) - 1) && (opAt code x.to == 37)
  else x.cases.all (fun c => wi c.to ((i : Int) + 1) ((code.length : Int) - 1)) && (!hasB h 64 || wi x.to ((i : Int) + 1) ((code.length : Int) - 1))

set_option maxRecDepth 100000 in
set_option maxHeartbeats 8000000 in
theorem targets_jump (B : Nat) (u : RUnit) (lo fo go : Option Addr) (lc fc gc cc : Nat) (bc oc : Nat) (i : Nat) (h l' h' : Int) (so co' go' : Option Addr) (sc cc' gc' : Nat) (w : World) (hu : UBox w B u lo fo go (some ⟨bc, oc, none⟩) lc fc gc cc) (hcode : SlAt w 10 (InsR w) (some ⟨bc, oc, none⟩) u.code) (hl : u.code.length ≤ 9223372036854775807) (hi : i < u.code.length)
    (x : RIns) (hx : IBox w bc (oc + i * 10) x so co' go' sc cc' gc') (hop : x.op = 39 ∨ x.op = 40) (hn : Nat) :
    Calls Tryd.prog 21 #[.pointer (some ⟨B, 0, none⟩), .int .i64 i, .agg #[.int .i64 h, .int .i64 l', .int .i64 h']] w fun e w' => e = .returned (.bool (targetsB u.code i x hn)) ∧ Below w.heap.size w w' := by
  have hbe : Below w.heap.size w (w.alloc (.cells #[.int .i64 h, .int .i64 l', .int .i64 h'] 54)) := (Below.refl _ _).alloc (Nat.le_refl _) _
  have b5 := (hu.below hbe).c5
  have hxb := hx.below hbe
  have c0 := hxb.c0; have c4 := hxb.c4
  have hBl := (hu.below hbe).lt
  have hbl := hxb.lt
  have hw1 : IntKind.i64.wrap ((u.code.length : Int) - 1) = (u.code.length : Int) - 1 := by rw [IntKind.wrap_i64]; omega
  have hwc := fun wx => within_any x.to 0 ((u.code.length : Int) - 1) wx
  have HBE := Lib.hid hbe
  have E0 : Hid (targetsB u.code i x hn = (wi x.to 0 ((u.code.length : Int) - 1) && (opAt u.code x.to == 37))) := Lib.hid (by unfold targetsB; rw [if_pos hop])
  have HCO := Lib.hid hcode
  clear hu hx hxb hcode
  generalize hxo : x.op = xo at *
  have hE : ∀ j, j < u.code.length → True := fun _ _ => trivial
  clear hE hxo
  by_cases hin : 0 ≤ x.to ∧ x.to ≤ (u.code.length : Int) - 1
  · have hwi := wi_yes hin.1 hin.2
    rw [hwi] at hwc
    obtain ⟨m, hm⟩ : ∃ m : Nat, x.to = (m : Int) := ⟨x.to.toNat, by omega⟩
    have hml : m < u.code.length := by omega
    obtain ⟨b2, o2, so2, co2, go2, sc2, cc2, gc2, hao, hmx⟩ := ibox_of HCO.out hml
    obtain ⟨rfl, rfl⟩ : bc = b2 ∧ oc = o2 := by injection hao with h; injection h with h1 h2; exact ⟨h1, h2⟩
    have d0 := (hmx.below HBE.out).c0
    have hop2 : opAt u.code x.to = (u.code[m]).op := by unfold opAt; rw [hm, Int.toNat_natCast, List.getElem?_eq_getElem hml]; rfl
    rw [hwi, hop2, Bool.true_and] at E0
    rw [hm] at hwc c4
    generalize (u.code[m]).op = oo at *
    have E1 := Lib.hid E0.out
    clear hmx hao hin hwi hop2 hm HCO E0
    generalize targetsB u.code i x hn = r at *
    cases hq : (oo == 37)
    all_goals
      rw [hq] at E1
      rcases hop with rfl | rfl
      all_goals
        go_enter Tryd.func21, Tryd.ntmps21
        go_wp2_with fail
        go_quiet (fail)
        have HQ := Lib.hid (below_drewN HBE.out nq)
        have b5' : ((w.alloc (.cells #[.int .i64 h, .int .i64 l', .int .i64 h'] 54)).drewN nq).cell? ⟨B, 5, none⟩ = some (.slice (some ⟨bc, oc, none⟩) u.code.length cc) := b5
        have c0' : ((w.alloc (.cells #[.int .i64 h, .int .i64 l', .int .i64 h'] 54)).drewN nq).cell? ⟨bc, oc + i * 10, none⟩ = _ := c0
        have c4' : ((w.alloc (.cells #[.int .i64 h, .int .i64 l', .int .i64 h'] 54)).drewN nq).cell? ⟨bc, oc + i * 10 + 4, none⟩ = _ := c4
        have d0' : ((w.alloc (.cells #[.int .i64 h, .int .i64 l', .int .i64 h'] 54)).drewN nq).cell? ⟨bc, oc + m * 10, none⟩ = _ := d0
        clear b5 c0 c4 d0 HBE
        generalize (w.alloc (.cells #[.int .i64 h, .int .i64 l', .int .i64 h'] 54)).drewN nq = W1 at *
        go_wp2_with fail
        go_quiet ((go_at_call 22; exact Calls.quiet_of_same ((hwc _).mono fun _ _ ⟨a, b⟩ => ⟨a, b.symm⟩)))
        go_wp2_with fail
        go_ret
        exact ⟨retb E1.out.symm, below_drewN HQ.out _⟩
  · have hwi := wi_no hin
    rw [hwi] at hwc
    rw [hwi, Bool.false_and] at E0
    have E1 := Lib.hid E0.out
    clear hin hwi HCO E0
    generalize targetsB u.code i x hn = r at *
    rcases hop with rfl | rfl
    all_goals
      go_enter Tryd.func21, Tryd.ntmps21
      go_wp2_with fail
      go_quiet (fail)
      have HQ := Lib.hid (below_drewN HBE.out nq)
      have b5' : ((w.alloc (.cells #[.int .i64 h, .int .i64 l', .int .i64 h'] 54)).drewN nq).cell? ⟨B, 5, none⟩ = some (.slice (some ⟨bc, oc, none⟩) u.code.length cc) := b5
      have c0' : ((w.alloc (.cells #[.int .i64 h, .int .i64 l', .int .i64 h'] 54)).drewN nq).cell? ⟨bc, oc + i * 10, none⟩ = _ := c0
      have c4' : ((w.alloc (.cells #[.int .i64 h, .int .i64 l', .int .i64 h'] 54)).drewN nq).cell? ⟨bc, oc + i * 10 + 4, none⟩ = _ := c4
      clear b5 c0 c4 HBE
      generalize (w.alloc (.cells #[.int .i64 h, .int .i64 l', .int .i64 h'] 54)).drewN nq = W1 at *
      go_wp2_with fail
      go_quiet ((go_at_call 22; exact Calls.quiet_of_same ((hwc _).mono fun _ _ ⟨a, b⟩ => ⟨a, b.symm⟩)))
      go_wp2_with fail
      go_ret
      exact ⟨retb E1.out.symm, below_drewN HQ.out _⟩
set_option maxRecDepth 100000 in
set_option maxHeartbeats 8000000 in
theorem targets_rest (B : Nat) (u : RUnit) (lo fo go : Option Addr) (lc fc gc cc : Nat) (bc oc : Nat) (i : Nat) (hn : Nat) (l' h' : Int) (so co' go' : Option Addr) (sc cc' gc' : Nat) (w : World) (hu : UBox w B u lo fo go (some ⟨bc, oc, none⟩) lc fc gc cc) (hl : u.code.length ≤ 9223372036854775807) (hi : i < u.code.length)
    (x : RIns) (hx : IBox w bc (oc + i * 10) x so co' go' sc cc' gc') (hop : ¬ (x.op = 39 ∨ x.op = 40)) (hh : hn < 1000) :
    Calls Tryd.prog 21 #[.pointer (some ⟨B, 0, none⟩), .int .i64 i, .agg #[.int .i64 hn, .int .i64 l', .int .i64 h']] w fun e w' => e = .returned (.bool (targetsB u.code i x hn)) ∧ Below w.heap.size w w' := by
  have hbe : Below w.heap.size w (w.alloc (.cells #[.int .i64 hn, .int .i64 l', .int .i64 h'] 54)) := (Below.refl _ _).alloc (Nat.le_refl _) _
  have hbr := heap_alloc_new w (.cells #[.int .i64 hn, .int .i64 l', .int .i64 h'] 54)
  have b5 := (hu.below hbe).c5
  have hxb := hx.below hbe
  have c0 := hxb.c0
  have hBl := (hu.below hbe).lt
  have hbl := hxb.lt
  have rc := hxb.rcases
  have t39 : (x.op == 39) = false := beq_eq_false_iff_ne.2 (fun h => hop (.inl h))
  have t40 : (x.op == 40) = false := beq_eq_false_iff_ne.2 (fun h => hop (.inr h))
  have hw1 : IntKind.i64.wrap ((u.code.length : Int) - 1) = (u.code.length : Int) - 1 := by rw [IntKind.wrap_i64]; omega
  have hwc := fun n wx => within_any n ((i : Int) + 1) ((u.code.length : Int) - 1) wx
  have HBE := Lib.hid hbe; have HBR := Lib.hid hbr; have HX := Lib.hid hxb
  have ha : bits .and .i64 (hn : Int) 64 = ((hn &&& 64 : Nat) : Int) := and_i64 hn 64 (by omega) (by omega)
  have hab : ((((hn &&& 64 : Nat) : Int)) == 0) = !hasB hn 64 := by
    unfold hasB
    by_cases c : hn &&& 64 = 0
    · rw [c]; rfl
    · rw [decide_eq_true c]; show _ = false; rw [beq_eq_false_iff_ne]; omega
  have E0 : Hid (targetsB u.code i x hn = (x.cases.all (fun c => wi c.to ((i : Int) + 1) ((u.code.length : Int) - 1)) && (!hasB hn 64 || wi x.to ((i : Int) + 1) ((u.code.length : Int) - 1)))) := Lib.hid (by unfold targetsB; rw [if_neg hop])
  have HAB := Lib.hid hab
  have HI : Hid (x.cases.all (fun c => wi c.to ((i : Int) + 1) ((u.code.length : Int) - 1)) = (x.cases.drop 0).all (fun c => wi c.to ((i : Int) + 1) ((u.code.length : Int) - 1))) := Lib.hid rfl
  clear hu hx hxb hop hab hbr hbe
  generalize targetsB u.code i x hn = r at *
  go_enter Tryd.func21, Tryd.ntmps21
  go_wp2_with fail
  go_quiet (fail)
  have HQ := Lib.hid (below_drewN HBE.out nq)
  have HQ2 : Hid (Below (w.alloc (.cells #[.int .i64 hn, .int .i64 l', .int .i64 h'] 54)).heap.size (w.alloc (.cells #[.int .i64 hn, .int .i64 l', .int .i64 h'] 54)) ((w.alloc (.cells #[.int .i64 hn, .int .i64 l', .int .i64 h'] 54)).drewN nq)) := Lib.hid (below_drewN (Below.refl _ _) nq)
  have HX1 := Lib.hid (HX.out.below HQ2.out)
  have HR1 : Hid (((w.alloc (.cells #[.int .i64 hn, .int .i64 l', .int .i64 h'] 54)).drewN nq).heap[w.heap.size]? = some (.cells #[.int .i64 hn, .int .i64 l', .int .i64 h'] 54 (0, 0))) := Lib.hid HBR.out
  clear b5 c0 HBE HQ2 HX HBR hBl hbl
  generalize (w.alloc (.cells #[.int .i64 hn, .int .i64 l', .int .i64 h'] 54)).drewN nq = W1 at *
  have c0 := HX1.out.c0; have c8 := HX1.out.c8
  have hwi2 : IntKind.i64.wrap ((i : Int) + 1) = (i : Int) + 1 := by rw [IntKind.wrap_i64]; omega
  go_wp2_with fail
  go_loopw [55] (fun j wr => ∃ k : Nat, k ≤ x.cases.length ∧ j = .int .i64 k ∧ Hid (x.cases.all (fun c => wi c.to ((i : Int) + 1) ((u.code.length : Int) - 1)) = (x.cases.drop k).all (fun c => wi c.to ((i : Int) + 1) ((u.code.length : Int) - 1))) ∧ Below W1.heap.size W1 wr) (fun j _ => x.cases.length - (intOf j).toNat)
  case atStart => exact ⟨0, Nat.zero_le _, rfl, HI, Below.refl _ _⟩
  case round =>
    obtain ⟨k, hk, rfl, HK, hBw⟩ := hrel
    rename World => wr
    by_cases hlt : k < x.cases.length
    · obtain ⟨b1, off1, hco, hb1, q0, q1, rl, rt⟩ := (HX1.out.below hBw).cases.case hlt
      subst hco
      have HST : Hid ((x.cases.drop k).all (fun c => wi c.to ((i : Int) + 1) ((u.code.length : Int) - 1)) = (wi x.cases[k].to ((i : Int) + 1) ((u.code.length : Int) - 1) && (x.cases.drop (k + 1)).all (fun c => wi c.to ((i : Int) + 1) ((u.code.length : Int) - 1)))) := Lib.hid (by rw [List.drop_eq_getElem_cons hlt, List.all_cons])
      have hwc1 := fun wx => hwc x.cases[k].to wx
      generalize wi x.cases[k].to ((i : Int) + 1) ((u.code.length : Int) - 1) = q at *
      generalize x.cases[k].to = ct at *
      generalize x.cases[k].lit = cl at *
      have HBA : Hid (Below W1.heap.size W1 (wr.alloc (.cells #[.int .i64 cl, .int .i64 ct] 41))) := Lib.hid (hBw.alloc hBw.size _)
      cases q with
      | true =>
        have HK2 : Hid (x.cases.all (fun c => wi c.to ((i : Int) + 1) ((u.code.length : Int) - 1)) = (x.cases.drop (k + 1)).all (fun c => wi c.to ((i : Int) + 1) ((u.code.length : Int) - 1))) := Lib.hid (by rw [HK.out, HST.out, Bool.true_and])
        go_wp2_with (go_at_call 22; refine (hwc1 _).mono ?_; rintro e w1 ⟨rfl, rfl⟩)
        go_roundw
        case rel => exact ⟨k + 1, by omega, by go_num, HK2, HBA.out⟩
        case measure => simp [intOf]; omega
      | false =>
        have E : Hid (r = false) := Lib.hid (by rw [E0.out, HK.out, HST.out]; rfl)
        go_wp2_with (go_at_call 22; refine (hwc1 _).mono ?_; rintro e w1 ⟨rfl, rfl⟩)
        go_ret
        exact ⟨retb E.out.symm, HQ.out.trans (HBA.out.mono HQ.out.size)⟩
    · have EK : Hid (r = (!hasB hn 64 || wi x.to ((i : Int) + 1) ((u.code.length : Int) - 1))) := Lib.hid (by rw [E0.out, HK.out, List.drop_eq_nil_of_le (by omega)]; rfl)
      have hr := (hBw.block w.heap.size (lt_of_row HR1.out)).trans HR1.out
      have n0 : wr.cell? ⟨w.heap.size, 0, none⟩ = some (.int .i64 hn) := by rw [cell_of_row _ _ _ _ _ _ hr]; rfl
      have c4 := (HX1.out.below hBw).c4
      have hwc1 := fun wx => hwc x.to wx
      have hab := HAB.out
      generalize wi x.to ((i : Int) + 1) ((u.code.length : Int) - 1) = q at *
      generalize hasB hn 64 = hb at *
      clear hr
      generalize hn &&& 64 = z at *
      cases hb with
      | false =>
        have E : Hid (r = true) := Lib.hid (by rw [EK.out]; rfl)
        go_wp2_with fail
        go_ret
        exact ⟨retb E.out.symm, HQ.out.trans (hBw.mono HQ.out.size)⟩
      | true =>
        have E : Hid (r = q) := Lib.hid (by rw [EK.out]; rfl)
        go_wp2_with (go_at_call 22; refine (hwc1 _).mono ?_; rintro e w1 ⟨rfl, rfl⟩)
        go_ret
        exact ⟨retb E.out.symm, HQ.out.trans (hBw.mono HQ.out.size)⟩
theorem targets_any (B : Nat) (u : RUnit) (lo fo go : Option Addr) (lc fc gc cc : Nat) (bc oc : Nat) (i : Nat) (hn : Nat) (l' h' : Int) (so co' go' : Option Addr) (sc cc' gc' : Nat) (w : World) (hu : UBox w B u lo fo go (some ⟨bc, oc, none⟩) lc fc gc cc) (hcode : SlAt w 10 (InsR w) (some ⟨bc, oc, none⟩) u.code) (hl : u.code.length ≤ 9223372036854775807) (hi : i < u.code.length)
    (x : RIns) (hx : IBox w bc (oc + i * 10) x so co' go' sc cc' gc') (hh : hn < 1000) :
    Calls Tryd.prog 21 #[.pointer (some ⟨B, 0, none⟩), .int .i64 i, .agg #[.int .i64 hn, .int .i64 l', .int .i64 h']] w fun e w' => e = .returned (.bool (targetsB u.code i x hn)) ∧ Below w.heap.size w w' := by
  by_cases hop : x.op = 39 ∨ x.op = 40
  · exact targets_jump B u lo fo go lc fc gc cc bc oc i hn l' h' so co' go' sc cc' gc' w hu hcode hl hi x hx hop hn
  · exact targets_rest B u lo fo go lc fc gc cc bc oc i hn l' h' so co' go' sc cc' gc' w hu hl hi x hx hop hh
end Go.Proofs.YtghgbikmlbildaaDoor
