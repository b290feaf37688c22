/-
  The reference's targets: the walk (printed by gen_rtargets.py). The document's Class: the walk. The reference's Named: the walk (printed by gen_rnamed.py).
-/
import Derived.Laws.IdiomStrings
import Derived.Test.YtghgbikmlbildaaGreatDoorPutsAll10
import Derived.Test.YtghgbikmlbildaaGreatDoorPutsAll12
import Derived.Test.YtghgbikmlbildaaGreatDoorPutsAll16
import Derived.Test.YtghgbikmlbildaaGreatDoorPutsAll17
import Derived.Test.YtghgbikmlbildaaGreatDoorPutsAll18
namespace Go.Proofs.YtghgbikmlbildaaGreatDoor
open Go.RowKit
set_option linter.unusedVariables false
set_option linter.unusedSimpArgs false

def targetsG (code : List RIns) (i : Nat) (x : RIns) (g : Bool) : Bool :=
 if x.op = 39 ∨ x.op = 40 then wi x.to 0 ((code.length : Int) - 1) && (opAt code x.to == 37)
 else x.cases.all (fun c => wi c.to ((i : Int) + 1) ((code.length : Int) - 1)) && (!g || wi x.to ((i : Int) + 1) ((code.length : Int) - 1))
theorem targetsG_is (code : List RIns) (i : Nat) (x : RIns) (h : Nat) : targetsG code i x (hasB h 64) = targetsB code i x h := rfl
theorem wi_both {n a b : Int} (h : wi n a b = true) : a ≤ n ∧ n ≤ b := by
 unfold wi at h; rw [Bool.and_eq_true, decide_eq_true_eq, decide_eq_true_eq] at h; exact h
theorem unit_row (w : World) (u : RUnit) (lo fo go co : Option Addr) (lc fc gc cc : Nat) (cs : Array Value) : UBox ((w.alloc (.cells #[.string u.mdl, .int .i64 u.vsn, .slice lo u.lits.length lc, .slice fo u.funcs.length fc, .slice go u.funs.length gc, .slice co u.code.length cc] 27)).alloc (.cells cs 65)) w.heap.size u lo fo go co lc fc gc cc ∧ ((w.alloc (.cells #[.string u.mdl, .int .i64 u.vsn, .slice lo u.lits.length lc, .slice fo u.funcs.length fc, .slice go u.funs.length gc, .slice co u.code.length cc] 27)).alloc (.cells cs 65)).heap[w.heap.size + 1]? = some (.cells cs 65 (0, 0)) ∧ Below w.heap.size w ((w.alloc (.cells #[.string u.mdl, .int .i64 u.vsn, .slice lo u.lits.length lc, .slice fo u.funcs.length fc, .slice go u.funs.length gc, .slice co u.code.length cc] 27)).alloc (.cells cs 65)) := by
 have s : (w.alloc (.cells #[.string u.mdl, .int .i64 u.vsn, .slice lo u.lits.length lc, .slice fo u.funcs.length fc, .slice go u.funs.length gc, .slice co u.code.length cc] 27)).heap.size = w.heap.size + 1 := by simp
 refine ⟨⟨(Below.heap_alloc _ _ _ (by rw [s]; omega)).trans (heap_alloc_new _ _)⟩, ?_, ((Below.refl _ _).alloc (Nat.le_refl _) _).alloc (by rw [s]; omega) _⟩
 rw [← s]
 exact heap_alloc_new _ _
set_option maxRecDepth 100000 in
set_option maxHeartbeats 40000000 in
theorem rtargets_any (u : RUnit) (lo fo go co : Option Addr) (lc fc gc cc : Nat) (i : Nat) (r : RRow) (w : World) (hcode : SlAt w 10 (InsR w) co u.code) (hcl : u.code.length ≤ 9223372036854775807) (hi : i < u.code.length) :
  Calls Tryz.prog 43 #[.agg #[.string u.mdl, .int .i64 u.vsn, .slice lo u.lits.length lc, .slice fo u.funcs.length fc, .slice go u.funs.length gc, .slice co u.code.length cc], .int .i64 i, .agg r.val] w fun e w' => e = .returned (.bool (targetsG u.code i u.code[i] r.g)) ∧ Below w.heap.size w w' := by
 obtain ⟨a, b, c, d, e, f, g, h, l1, l2⟩ := r
 have HT : Hid (∀ x g, targetsG u.code i x g = if x.op = 39 ∨ x.op = 40 then wi x.to 0 ((u.code.length : Int) - 1) && (opAt u.code x.to == 37)
  else x.cases.all (fun c => wi c.to ((i : Int) + 1) ((u.code.length : Int) - 1)) && (!g || wi x.to ((i : Int) + 1) ((u.code.length : Int) - 1))) := Lib.hid (fun x g => rfl)
 have HTX0 := Lib.hid (HT.out u.code[i] g)
 have HCO := Lib.hid hcode
 clear hcode HT
 generalize targetsG u.code i u.code[i] g = tv at *
 have hw1 : IntKind.i64.wrap ((u.code.length : Int) - 1) = (u.code.length : Int) - 1 := by rw [IntKind.wrap_i64]; omega
 have hw2 : IntKind.i64.wrap ((i : Int) + 1) = (i : Int) + 1 := by rw [IntKind.wrap_i64]; omega
 simp only [RRow.val]
 go_enter Tryz.func43, Tryz.ntmps43
 go_upto_region 1 with fail
 obtain ⟨hU, hR, hBW⟩ := unit_row w u lo fo go co lc fc gc cc #[.bool a, .bool b, .bool c, .bool d, .bool e, .bool f, .bool g, .bool h, .int .i64 l1, .int .i64 l2]
 have HBW := Lib.hid hBW
 clear hBW
 generalize (w.alloc (.cells #[.string u.mdl, .int .i64 u.vsn, .slice lo u.lits.length lc, .slice fo u.funcs.length fc, .slice go u.funs.length gc, .slice co u.code.length cc] 27)).alloc (.cells #[.bool a, .bool b, .bool c, .bool d, .bool e, .bool f, .bool g, .bool h, .int .i64 l1, .int .i64 l2] 65) = W at *
 obtain ⟨bc, oc, so, co', go', sc, cc', gc', hco, hxb⟩ := ibox_of (HCO.out.mono HBW.out fun _ _ hh => hh.below HBW.out) hi
 subst hco
 have k0 := hxb.c0; have k1 := hxb.c1; have k2 := hxb.c2; have k3 := hxb.c3; have k4 := hxb.c4; have k5 := hxb.c5; have k6 := hxb.c6; have k7 := hxb.c7; have k8 := hxb.c8; have k9 := hxb.c9
 have hkl := hxb.lt
 have HCS := Lib.hid hxb.cases
 have s2 := hxb.rto; have s3 := hxb.rcases
 clear hxb
 have b5 := hU.c5
 have hlu := hU.lt
 have HU := Lib.hid hU; have HRB := Lib.hid hR
 clear hU hR
 have HTX := HTX0
 clear HTX0
 generalize u.code[i] = x at *
 obtain ⟨op, ⟨dk, dn⟩, src, jt, nn, lv, nm, cases, segs⟩ := x
 simp only at k0 k1 k2 k3 k4 k5 k6 k7 k8 k9 s2 s3 HCS HTX
 generalize src.length = sl at *
 generalize segs.length = gl at *
 obtain ⟨s2a, s2b⟩ := s2
 generalize hBz : w.heap.size = B at *
 have HBZ := Lib.hid hBz
 clear hBz
 go_upto_region 2 with fail
 have hLx := heap_alloc_new W (.cells #[.int .i64 op, .int .i64 dk, .int .i64 dn, .slice so sl sc, .int .i64 jt, .int .i64 nn, .int .i64 lv, .string nm, .slice co' cases.length cc', .slice go' gl gc'] 50)
 have hLb := (Below.refl W.heap.size W).alloc (Nat.le_refl _) (.cells #[.int .i64 op, .int .i64 dk, .int .i64 dn, .slice so sl sc, .int .i64 jt, .int .i64 nn, .int .i64 lv, .string nm, .slice co' cases.length cc', .slice go' gl gc'] 50)
 generalize hWxe : W.alloc (.cells #[.int .i64 op, .int .i64 dk, .int .i64 dn, .slice so sl sc, .int .i64 jt, .int .i64 nn, .int .i64 lv, .string nm, .slice co' cases.length cc', .slice go' gl gc'] 50) = Wx at *
 have HLX := Lib.hid hLx; have HLB := Lib.hid hLb
 clear hLx hLb hWxe k0 k1 k2 k3 k4 k5 k6 k7 k8 k9 b5 hlu hkl
 generalize hLe : W.heap.size = LB at *
 have HLE := Lib.hid hLe
 clear hLe
 have HFIN : Hid (∀ wx, Below Wx.heap.size Wx wx → Below B w wx) := Lib.hid (fun wx hh => HBW.out.trans ((HLB.out.trans (hh.mono (by have := HLB.out.size; have := HLE.out; omega))).mono (by have := HBW.out.size; have := HBZ.out; have := HLE.out; omega)))
 have hL2 := ((Below.refl Wx.heap.size Wx).block LB (lt_of_row HLX.out)).trans HLX.out
 have hLl := lt_of_row hL2
 have e0 : Wx.cell? ⟨LB, 0, none⟩ = some (.int .i64 op) := by rw [cell_of_row _ _ _ _ _ _ hL2]; rfl
 have e4 : Wx.cell? ⟨LB, 4, none⟩ = some (.int .i64 jt) := by rw [cell_of_row _ _ _ _ _ _ hL2]; rfl
 have e8 : Wx.cell? ⟨LB, 8, none⟩ = some (.slice co' cases.length cc') := by rw [cell_of_row _ _ _ _ _ _ hL2]; rfl
 have hWB : Below W.heap.size W Wx := by rw [HLE.out]; exact HLB.out.trans ((Below.refl Wx.heap.size Wx).mono (by have := HLB.out.size; have := HLE.out; omega))
 have b5 := (HU.out.below hWB).c5
 have hlu := (HU.out.below hWB).lt
 have hR2 := (hWB.block _ (lt_of_row HRB.out)).trans HRB.out
 have hlr := lt_of_row hR2
 have q6 : Wx.cell? ⟨B + 1, 6, none⟩ = some (.bool g) := by rw [cell_of_row _ _ _ _ _ _ hR2]; rfl
 clear hL2 hWB hR2
 by_cases hop : op = 39 ∨ op = 40
 ·rw [if_pos hop] at HTX
  have HOP := Lib.hid hop
  cases hv : wi jt 0 ((u.code.length : Int) - 1) with
  | false =>
   have E : Hid (tv = false) := Lib.hid (by rw [HTX.out, hv]; rfl)
   have hwr : ∀ wx, Calls Tryz.prog 85 #[.int .i64 jt, .int .i64 0, .int .i64 ((u.code.length : Int) - 1)] wx fun e w' => e = .returned (.bool false) ∧ w = w ∧ wx = w' := fun wx => by
    have := rwithin_any jt 0 ((u.code.length : Int) - 1) wx
    rw [hv] at this
    exact this.mono fun _ _ ⟨a, b⟩ => ⟨a, rfl, b⟩
   have HWR := Lib.hid hwr
   clear hv hwr hop
   rcases HOP.out with rfl | rfl
   all_goals
    go_wp2_with fail
    refine (HWR.out _).mono ?_
    rintro e9 w1 ⟨rfl, -, rfl⟩
    go_wp2_with fail
    go_ret
    exact ⟨retb E.out.symm, by rw [HBZ.out]; exact HFIN.out _ (Below.refl _ _)⟩
  | true =>
   have hr := wi_both hv
   obtain ⟨m, rfl⟩ := Int.eq_ofNat_of_zero_le hr.1
   have hml : m < u.code.length := by omega
   have hwr : ∀ wx, Calls Tryz.prog 85 #[.int .i64 (m : Int), .int .i64 0, .int .i64 ((u.code.length : Int) - 1)] wx fun e w' => e = .returned (.bool true) ∧ w = w ∧ wx = w' := fun wx => by
    have := rwithin_any (m : Int) 0 ((u.code.length : Int) - 1) wx
    rw [hv] at this
    exact this.mono fun _ _ ⟨a, b⟩ => ⟨a, rfl, b⟩
   have HWR := Lib.hid hwr
   obtain ⟨bc', oc', _, _, _, _, _, _, hco2, hxb2⟩ := ibox_of (HCO.out.mono (by rw [HBZ.out]; exact HFIN.out _ (Below.refl _ _)) fun _ _ hh => hh.below (by rw [HBZ.out]; exact HFIN.out _ (Below.refl _ _))) hml
   obtain ⟨rfl, rfl⟩ : bc = bc' ∧ oc = oc' := by injection hco2 with e9; injection e9 with e1 e2; exact ⟨e1, e2⟩
   have z0 := hxb2.c0
   have hzl := hxb2.lt
   have hoa : opAt u.code (m : Int) = u.code[m].op := by unfold opAt; rw [Int.toNat_natCast, List.getElem?_eq_getElem hml]; rfl
   have HTX2 : Hid (tv = (u.code[m].op == 37)) := Lib.hid (by rw [HTX.out, hv, hoa]; rfl)
   clear hv hwr hop hr hco2 hxb2 hoa
   generalize u.code[m].op = op2 at *
   cases hq : (op2 == 37) with
   | false =>
    have E : Hid (tv = false) := Lib.hid (by rw [HTX2.out, hq])
    rcases HOP.out with rfl | rfl
    all_goals
     go_wp2_with fail
     refine (HWR.out _).mono ?_
     rintro e9 w1 ⟨rfl, -, rfl⟩
     go_wp2_with fail
     go_ret
     exact ⟨retb E.out.symm, by rw [HBZ.out]; exact HFIN.out _ (Below.refl _ _)⟩
   | true =>
    have E : Hid (tv = true) := Lib.hid (by rw [HTX2.out, hq])
    rcases HOP.out with rfl | rfl
    all_goals
     go_wp2_with fail
     refine (HWR.out _).mono ?_
     rintro e9 w1 ⟨rfl, -, rfl⟩
     go_wp2_with fail
     go_ret
     exact ⟨retb E.out.symm, by rw [HBZ.out]; exact HFIN.out _ (Below.refl _ _)⟩
 ·rw [if_neg hop] at HTX
  have p1 : (op == 39) = false := beq_eq_false_iff_ne.2 (fun h => hop (.inl h))
  have p2 : (op == 40) = false := beq_eq_false_iff_ne.2 (fun h => hop (.inr h))
  clear hop
  go_wp2_with fail
  go_loopw [8] (fun kv wr => ∃ k : Nat, k ≤ cases.length ∧ kv = .int .i64 k ∧ Hid (∀ j (hj : j < cases.length), j < k → wi cases[j].to ((i : Int) + 1) ((u.code.length : Int) - 1) = true) ∧ Hid (Below Wx.heap.size Wx wr)) (fun kv _ => cases.length - (intOf kv).toNat)
  case atStart => exact ⟨0, Nat.zero_le _, rfl, Lib.hid (fun j _ hj => absurd hj (Nat.not_lt_zero _)), Lib.hid (Below.refl _ _)⟩
  case round =>
   obtain ⟨k, hk, rfl, HK, HBk⟩ := hrel
   rename World => wr
   clear e0 e4 e8 q6 b5
   have hL2 := (HBk.out.block LB (lt_of_row HLX.out)).trans HLX.out
   have hLl := lt_of_row hL2
   have e0 : wr.cell? ⟨LB, 0, none⟩ = some (.int .i64 op) := by rw [cell_of_row _ _ _ _ _ _ hL2]; rfl
   have e4 : wr.cell? ⟨LB, 4, none⟩ = some (.int .i64 jt) := by rw [cell_of_row _ _ _ _ _ _ hL2]; rfl
   have e8 : wr.cell? ⟨LB, 8, none⟩ = some (.slice co' cases.length cc') := by rw [cell_of_row _ _ _ _ _ _ hL2]; rfl
   have hWB : Below W.heap.size W wr := by rw [HLE.out]; exact HLB.out.trans (HBk.out.mono (by have := HLB.out.size; have := HLE.out; omega))
   have b5 := (HU.out.below hWB).c5
   have hlu := (HU.out.below hWB).lt
   have hR2 := (hWB.block _ (lt_of_row HRB.out)).trans HRB.out
   have hlr := lt_of_row hR2
   have q6 : wr.cell? ⟨B + 1, 6, none⟩ = some (.bool g) := by rw [cell_of_row _ _ _ _ _ _ hR2]; rfl
   clear hL2 hWB hR2
   by_cases hkl : k < cases.length
   ·obtain ⟨b2, off, hao, hb2, q0, q1, i0, i1⟩ := (HCS.out.mono (by rw [HLE.out]; exact HLB.out.trans (HBk.out.mono (by have := HLB.out.size; have := HLE.out; omega))) fun _ _ h => h).case hkl
    subst hao
    have HE : Hid (wi cases[k].to ((i : Int) + 1) ((u.code.length : Int) - 1) = false → tv = false) := Lib.hid (fun hf => by
     have : cases.all (fun c => wi c.to ((i : Int) + 1) ((u.code.length : Int) - 1)) = false := by
      rw [List.all_eq_false]; exact ⟨cases[k], List.getElem_mem hkl, by rw [hf]; decide⟩
     rw [HTX.out, this]; rfl)
    have HN : Hid (wi cases[k].to ((i : Int) + 1) ((u.code.length : Int) - 1) = true → ∀ j (hj : j < cases.length), j < k + 1 → wi cases[j].to ((i : Int) + 1) ((u.code.length : Int) - 1) = true) := Lib.hid (fun hne j hj hjk => by
     rcases Nat.eq_or_lt_of_le (Nat.le_of_lt_succ hjk) with e9 | e9
     ·subst e9; exact hne
     ·exact HK.out j hj e9)
    generalize cases[k] = ca at *
    have hwr : ∀ wx, Calls Tryz.prog 85 #[.int .i64 ca.to, .int .i64 ((i : Int) + 1), .int .i64 ((u.code.length : Int) - 1)] wx fun e w' => e = .returned (.bool (wi ca.to ((i : Int) + 1) ((u.code.length : Int) - 1))) ∧ w' = wx := fun wx => (rwithin_any ca.to ((i : Int) + 1) ((u.code.length : Int) - 1) wx).mono fun _ _ ⟨a, b⟩ => ⟨a, b.symm⟩
    cases hv : wi ca.to ((i : Int) + 1) ((u.code.length : Int) - 1) with
    | false =>
     have E := Lib.hid (HE.out hv)
     rw [hv] at hwr
     clear hv HE HN
     go_wp2_with fail
     go_quiet ((go_at_call 85; exact Calls.quiet_of_same (hwr _)))
     go_wp2_with fail
     go_ret
     exact ⟨retb E.out.symm, by rw [HBZ.out]; exact HFIN.out _ (below_drewN HBk.out _)⟩
    | true =>
     have HN2 := Lib.hid (HN.out hv)
     rw [hv] at hwr
     clear hv HE HN
     go_wp2_with fail
     go_quiet ((go_at_call 85; exact Calls.quiet_of_same (hwr _)))
     go_wp2_with fail
     go_roundw
     case rel => exact ⟨k + 1, by omega, by go_num, HN2, Lib.hid (below_drewN HBk.out _)⟩
     case measure => simp [intOf]; omega
   ·have HALL : Hid (cases.all (fun c => wi c.to ((i : Int) + 1) ((u.code.length : Int) - 1)) = true) := Lib.hid (by
     rw [List.all_eq_true]
     intro ca ha
     obtain ⟨j, hj, rfl⟩ := List.getElem_of_mem ha
     exact HK.out j hj (by omega))
    have HTX2 : Hid (tv = (!g || wi jt ((i : Int) + 1) ((u.code.length : Int) - 1))) := Lib.hid (by rw [HTX.out, HALL.out]; rfl)
    clear HALL HTX
    cases g with
    | false =>
     have E : Hid (tv = true) := Lib.hid (by rw [HTX2.out]; rfl)
     go_wp2_with fail
     go_ret
     exact ⟨retb E.out.symm, by rw [HBZ.out]; exact HFIN.out _ HBk.out⟩
    | true =>
     have E : Hid (tv = wi jt ((i : Int) + 1) ((u.code.length : Int) - 1)) := Lib.hid (by rw [HTX2.out]; rfl)
     go_wp2_with fail
     refine (rwithin_any _ _ _ _).mono ?_
     rintro e9 w1 ⟨rfl, rfl⟩
     go_wp2_with fail
     go_ret
     exact ⟨retb E.out.symm, by rw [HBZ.out]; exact HFIN.out _ HBk.out⟩
end Go.Proofs.YtghgbikmlbildaaGreatDoor
namespace Go.Proofs.YtghgbikmlbildaaGreatDoor
open Go.RowKit
set_option linter.unusedVariables false
set_option linter.unusedSimpArgs false

theorem conv_one (w : World) (n : Int) (h0 : 0 ≤ n) (h9 : n ≤ 9) : (convert 39 9 (.slice (some ⟨w.heap.size, 0, none⟩) 1 1)).run Tryz.prog (w.alloc (.cells #[.int .u8 (48 + n)] 5)) = .ok (.string ⟨#[UInt8.ofNat (48 + n.toNat)]⟩) (w.alloc (.cells #[.int .u8 (48 + n)] 5)) := by
 have := run_convert_bytes_back (P := Tryz.prog) (w.alloc (.cells #[.int .u8 (48 + n)] 5)) 39 9 5 ⟨w.heap.size, 0, none⟩ 1 [UInt8.ofNat (48 + n.toNat)] Tryz.underlying39 Tryz.underlying5 Tryz.underlying9 (fun j hj => by
  have hj0 : j = 0 := by simp at hj; exact hj
  subst hj0
  have ha : (⟨w.heap.size, 0, none⟩ : Addr).add 0 = ⟨w.heap.size, 0, none⟩ := by unfold Addr.add; split <;> simp_all
  rw [ha, cell_of_row _ _ _ _ _ _ (heap_alloc_new _ _)]
  have : ((UInt8.ofNat (48 + n.toNat)).toNat : Int) = 48 + n := by rw [UInt8.toNat_ofNat']; omega
  simp only [List.getElem_cons_zero]
  rw [this]
  rfl)
 exact this
set_option maxRecDepth 100000 in
set_option maxHeartbeats 4000000 in
theorem rclass_any (s : ByteArray) (n : Int) (w : World) (hs : s.size ≤ maxLen) : Calls Tryz.prog 92 #[.string s, .int .i64 n] w fun e w' => e = .returned (.int .i64 (classR s n)) ∧ Below w.heap.size w w' := by
 have hn := rname_any s w hs
 have HC : Hid (¬ (nameB s = true ∧ 0 ≤ n ∧ n ≤ 9) → classR s n = 0) := Lib.hid (fun h => by unfold classR; rw [if_neg h])
 cases hv : nameB s with
 | false =>
  have E : Hid (classR s n = 0) := Lib.hid (HC.out (by rw [hv]; simp))
  rw [hv] at hn
  clear hv HC
  go_enter Tryz.func92, Tryz.ntmps92
  go_wp2_with fail
  refine hn.mono ?_
  rintro e w1 ⟨rfl, rfl⟩
  go_wp2_with fail
  go_ret
  exact ⟨ret1 E.out.symm, Below.refl _ _⟩
 | true =>
  rw [hv] at hn
  by_cases h0 : n < 0
  ·have E : Hid (classR s n = 0) := Lib.hid (HC.out (by rintro ⟨_, h, _⟩; omega))
   clear hv HC
   go_enter Tryz.func92, Tryz.ntmps92
   go_wp2_with fail
   refine hn.mono ?_
   rintro e w1 ⟨rfl, rfl⟩
   go_wp2_with fail
   go_ret
   exact ⟨ret1 E.out.symm, Below.refl _ _⟩
  ·by_cases h9 : 9 < n
   ·have E : Hid (classR s n = 0) := Lib.hid (HC.out (by rintro ⟨_, _, h⟩; omega))
    clear hv HC
    go_enter Tryz.func92, Tryz.ntmps92
    go_wp2_with fail
    refine hn.mono ?_
    rintro e w1 ⟨rfl, rfl⟩
    go_wp2_with fail
    go_ret
    exact ⟨ret1 E.out.symm, Below.refl _ _⟩
   ·have hz : s.size ≤ 32 := (by unfold nameB at hv; rw [Bool.and_eq_true, Bool.and_eq_true, decide_eq_true_eq, decide_eq_true_eq] at hv; exact hv.1.2)
    have HV := Lib.hid hv
    have hcv := conv_one w n (by omega) (by omega)
    clear hv HC
    go_enter Tryz.func92, Tryz.ntmps92
    go_upto_region 4 with (go_at_call 84; refine hn.mono ?_; rintro e w1 ⟨rfl, rfl⟩)
    clear hcv hn
    have hwd : ((({ data := #[32] } : ByteArray) ++ s ++ { data := #[47] } ++ { data := #[48 + UInt8.ofNat n.toNat] } ++ { data := #[32] }) : ByteArray).data.toList = 32 :: (wordR s n.toNat ++ [32]) := by
     unfold wordR
     simp
    have hws : ((({ data := #[32] } : ByteArray) ++ s ++ { data := #[47] } ++ { data := #[48 + UInt8.ofNat n.toNat] } ++ { data := #[32] }) : ByteArray).size ≤ 100 := by
     have := congrArg List.length hwd
     unfold wordR at this
     simp only [Array.length_toList, List.length_cons, List.length_append, List.length_nil] at this
     show _ ≤ _
     have e : s.data.size = s.size := rfl
     rw [e] at this
     exact Nat.le_trans (Nat.le_of_eq this) (by omega)
    have HWD := Lib.hid hwd
    generalize ((({ data := #[32] } : ByteArray) ++ s ++ { data := #[47] } ++ { data := #[48 + UInt8.ofNat n.toNat] } ++ { data := #[32] }) : ByteArray) = W at *
    have HB : Hid (Below w.heap.size w (w.alloc (.cells #[.int .u8 (48 + n)] 5))) := Lib.hid ((Below.refl _ _).alloc (Nat.le_refl _) _)
    have HCL : Hid (classR s n = if wordR s n.toNat ∈ wordsR 1 then 1 else if wordR s n.toNat ∈ wordsR 2 then 2 else if wordR s n.toNat ∈ wordsR 3 then 3 else if wordR s n.toNat ∈ wordsR 4 then 4 else 0) := Lib.hid (by unfold classR; rw [if_pos ⟨HV.out, by omega, by omega⟩]; rfl)
    have HHO : Hid (∀ c, 1 ≤ c ∧ c ≤ 4 → holdsB (namesR c) W.data.toList = decide (wordR s n.toNat ∈ wordsR c)) := Lib.hid (fun c hc => by rw [HWD.out]; exact holds_word HV.out (by omega) hc)
    clear hwd
    generalize w.alloc (.cells #[.int .u8 (48 + n)] 5) = Wa at *
    go_wp2_with fail
    go_loop [6] (fun cv => ∃ c : Nat, 1 ≤ c ∧ c ≤ 5 ∧ cv = .int .i64 c ∧ Hid (∀ j, 1 ≤ j → j < c → wordR s n.toNat ∉ wordsR j)) (fun cv => 5 - (intOf cv).toNat)
    case atStart => exact ⟨1, by decide, by decide, by go_num, Lib.hid (fun j h1 h2 => by omega)⟩
    case round =>
     obtain ⟨c, hc1, hc5, rfl, HK⟩ := hrel
     by_cases hlt : c ≤ 4
     ·have hna := names_text c ⟨hc1, hlt⟩ Wa
      have hho := holds_any (namesS c) W Wa (Nat.le_trans (namesS_size c hlt) (by decide)) (by omega)
      have hq : holdsB (namesS c).data.toList W.data.toList = decide (wordR s n.toNat ∈ wordsR c) := by
       have e : (namesS c).data.toList = namesR c := by unfold namesS; simp
       rw [e]; exact HHO.out c ⟨hc1, hlt⟩
      rw [hq] at hho
      clear hq
      by_cases hm : wordR s n.toNat ∈ wordsR c
      ·have E : Hid (classR s n = c) := Lib.hid (by
        rw [HCL.out]
        have n1 := HK.out 1; have n2 := HK.out 2; have n3 := HK.out 3
        rcases (show c = 1 ∨ c = 2 ∨ c = 3 ∨ c = 4 by omega) with rfl | rfl | rfl | rfl
        ·rw [if_pos hm]; rfl
        ·rw [if_neg (n1 (by decide) (by decide)), if_pos hm]; rfl
        ·rw [if_neg (n1 (by decide) (by decide)), if_neg (n2 (by decide) (by decide)), if_pos hm]; rfl
        ·rw [if_neg (n1 (by decide) (by decide)), if_neg (n2 (by decide) (by decide)), if_neg (n3 (by decide) (by decide)), if_pos hm]; rfl)
       rw [decide_eq_true hm] at hho
       clear hm
       go_wp2_with fail
       refine hna.mono ?_
       rintro e w1 ⟨rfl, rfl⟩
       go_wp2_with fail
       refine hho.mono ?_
       rintro e w1 ⟨rfl, rfl⟩
       go_wp2_with fail
       go_ret
       exact ⟨ret1 E.out.symm, HB.out⟩
      ·have HN2 : Hid (∀ j, 1 ≤ j → j < c + 1 → wordR s n.toNat ∉ wordsR j) := Lib.hid (fun j h1 h2 => by
        rcases Nat.eq_or_lt_of_le (Nat.le_of_lt_succ h2) with e | e
        ·subst e; exact hm
        ·exact HK.out j h1 e)
       rw [decide_eq_false hm] at hho
       clear hm
       go_wp2_with fail
       refine hna.mono ?_
       rintro e w1 ⟨rfl, rfl⟩
       go_wp2_with fail
       refine hho.mono ?_
       rintro e w1 ⟨rfl, rfl⟩
       go_wp2_with fail
       go_round
       case rel => exact ⟨c + 1, by omega, by omega, by go_num, HN2⟩
       case measure => simp [intOf]; omega
     ·have E : Hid (classR s n = 0) := Lib.hid (by
       rw [HCL.out, if_neg (HK.out 1 (by decide) (by omega)), if_neg (HK.out 2 (by decide) (by omega)), if_neg (HK.out 3 (by decide) (by omega)), if_neg (HK.out 4 (by decide) (by omega))])
      go_wp2_with fail
      go_ret
      exact ⟨ret1 E.out.symm, HB.out⟩
end Go.Proofs.YtghgbikmlbildaaGreatDoor
namespace Go.Proofs.YtghgbikmlbildaaGreatDoor
open Go.RowKit
set_option linter.unusedVariables false
set_option linter.unusedSimpArgs false

theorem xbox_new (w : World) (x : RIns) (so co' go' : Option Addr) (sc cc' gc' : Nat) : XBox (w.alloc (.cells #[.int .i64 x.op, .int .i64 x.dst.kind, .int .i64 x.dst.n, .slice so x.src.length sc, .int .i64 x.to, .int .i64 x.n, .int .i64 x.live, .string x.name, .slice co' x.cases.length cc', .slice go' x.segs.length gc'] 50)) w.heap.size x so co' go' sc cc' gc' := heap_alloc_new _ _
theorem neq_beq {l k : List UInt8} {b : Bool} (h : (l == k) = b) : (l != k) = !b := by rw [← h]; rfl
set_option maxRecDepth 100000 in
set_option maxHeartbeats 8000000 in
theorem rnamed_13 (x : RIns) (so co' go' : Option Addr) (sc cc' gc' : Nat) (w : World) (hs : x.name.size ≤ maxLen) (r2 : x.src.length ≤ 9223372036854775807) (r1 : I64 x.n) (hop : x.op = 13) :
  Calls Tryz.prog 41 #[.agg #[.int .i64 x.op, .int .i64 x.dst.kind, .int .i64 x.dst.n, .slice so x.src.length sc, .int .i64 x.to, .int .i64 x.n, .int .i64 x.live, .string x.name, .slice co' x.cases.length cc', .slice go' x.segs.length gc']] w fun e w' => e = .returned (.bool (namedB x)) ∧ Below w.heap.size w w' := by
 have E0 : Hid (namedB x = (((x.name.toList == [123, 125]) || ((x.name.toList == [124]) && ((x.src.length : Int) == 2))) || ((!(x.name.toList == [43, 43]) && operB x.name x.src.length) || (classB x.name x.src.length == 1)))) := Lib.hid (by unfold namedB; rw [if_pos hop])
 have HOP := Lib.hid hop
 clear hop
 go_enter Tryz.func41, Tryz.ntmps41
 go_upto_region 1 with fail
 have hX := xbox_new w x so co' go' sc cc' gc'
 have hBX : Below w.heap.size w (w.alloc (.cells #[.int .i64 x.op, .int .i64 x.dst.kind, .int .i64 x.dst.n, .slice so x.src.length sc, .int .i64 x.to, .int .i64 x.n, .int .i64 x.live, .string x.name, .slice co' x.cases.length cc', .slice go' x.segs.length gc'] 50)) := (Below.refl _ _).alloc (Nat.le_refl _) _
 generalize w.alloc (.cells #[.int .i64 x.op, .int .i64 x.dst.kind, .int .i64 x.dst.n, .slice so x.src.length sc, .int .i64 x.to, .int .i64 x.n, .int .i64 x.live, .string x.name, .slice co' x.cases.length cc', .slice go' x.segs.length gc'] 50) = W at *
 have hcl := rclass_any x.name x.src.length W hs
 rw [← classB_classR] at hcl
 have HX := Lib.hid hX; have HB := Lib.hid hBX
 have c0 := hX.c0; have c3 := hX.c3; have c5 := hX.c5; have c7 := hX.c7
 have hlx := hX.lt
 clear hX hBX
 rw [HOP.out] at c0
 generalize hBz : w.heap.size = B at *
 have HBZ := Lib.hid hBz
 clear hBz
 go_wp2_with fail
 refine hcl.mono ?_
 rintro e w1 ⟨rfl, hb1⟩
 have hX1 := HX.out.below hb1
 have HB1 : Hid (Below B w w1) := Lib.hid (HB.out.trans (hb1.mono (by have := HB.out.size; have := HBZ.out; omega)))
 have hbb := hb1.size
 clear hb1 c0 c3 c5 c7 hcl
 have c0 := hX1.c0; have c3 := hX1.c3; have c5 := hX1.c5; have c7 := hX1.c7
 have hlx1 := hX1.lt
 have HX1 := Lib.hid hX1
 clear hX1
 rw [HOP.out] at c0
 have hop2 := roper_any x.name x.src.length w1
 cases q1 : (classB x.name x.src.length == 1) with
 | true =>
  simp only [q1] at E0
  try simp only [Bool.true_or, Bool.or_true, Bool.false_or, Bool.or_false, Bool.and_true, Bool.and_false, Bool.true_and, Bool.false_and, Bool.not_true, Bool.not_false] at E0
  go_wp2_with fail
  refine hop2.mono ?_
  rintro e w2 ⟨rfl, rfl⟩
  go_wp2_with fail
  go_ret
  exact ⟨retb E0.out.symm, by rw [HBZ.out]; exact HB1.out⟩
 | false =>
  simp only [q1] at E0
  cases ob : operB x.name x.src.length with
  | true =>
   simp only [ob] at E0
   cases t0 : (x.name.toList == [43, 43]) with
   | true =>
    simp only [t0] at E0
    have t0' := neq_beq t0
    cases t1 : (x.name.toList == [123, 125]) with
    | true =>
     simp only [t1] at E0
     try simp only [Bool.true_or, Bool.or_true, Bool.false_or, Bool.or_false, Bool.and_true, Bool.and_false, Bool.true_and, Bool.false_and, Bool.not_true, Bool.not_false] at E0
     go_wp2_with fail
     refine hop2.mono ?_
     rintro e w2 ⟨rfl, rfl⟩
     go_wp2_with fail
     go_ret
     exact ⟨retb E0.out.symm, by rw [HBZ.out]; exact HB1.out⟩
    | false =>
     simp only [t1] at E0
     cases t2 : (x.name.toList == [124]) with
     | true =>
      simp only [t2] at E0
      cases q2 : ((x.src.length : Int) == 2) with
      | true =>
       simp only [q2] at E0
       try simp only [Bool.true_or, Bool.or_true, Bool.false_or, Bool.or_false, Bool.and_true, Bool.and_false, Bool.true_and, Bool.false_and, Bool.not_true, Bool.not_false] at E0
       go_wp2_with fail
       refine hop2.mono ?_
       rintro e w2 ⟨rfl, rfl⟩
       go_wp2_with fail
       go_ret
       exact ⟨retb E0.out.symm, by rw [HBZ.out]; exact HB1.out⟩
      | false =>
       simp only [q2] at E0
       try simp only [Bool.true_or, Bool.or_true, Bool.false_or, Bool.or_false, Bool.and_true, Bool.and_false, Bool.true_and, Bool.false_and, Bool.not_true, Bool.not_false] at E0
       go_wp2_with fail
       refine hop2.mono ?_
       rintro e w2 ⟨rfl, rfl⟩
       go_wp2_with fail
       go_ret
       exact ⟨retb E0.out.symm, by rw [HBZ.out]; exact HB1.out⟩
     | false =>
      simp only [t2] at E0
      try simp only [Bool.true_or, Bool.or_true, Bool.false_or, Bool.or_false, Bool.and_true, Bool.and_false, Bool.true_and, Bool.false_and, Bool.not_true, Bool.not_false] at E0
      go_wp2_with fail
      refine hop2.mono ?_
      rintro e w2 ⟨rfl, rfl⟩
      go_wp2_with fail
      go_ret
      exact ⟨retb E0.out.symm, by rw [HBZ.out]; exact HB1.out⟩
   | false =>
    simp only [t0] at E0
    have t0' := neq_beq t0
    try simp only [Bool.true_or, Bool.or_true, Bool.false_or, Bool.or_false, Bool.and_true, Bool.and_false, Bool.true_and, Bool.false_and, Bool.not_true, Bool.not_false] at E0
    go_wp2_with fail
    refine hop2.mono ?_
    rintro e w2 ⟨rfl, rfl⟩
    go_wp2_with fail
    go_ret
    exact ⟨retb E0.out.symm, by rw [HBZ.out]; exact HB1.out⟩
  | false =>
   simp only [ob] at E0
   cases t0 : (x.name.toList == [43, 43]) with
   | true =>
    simp only [t0] at E0
    have t0' := neq_beq t0
    cases t1 : (x.name.toList == [123, 125]) with
    | true =>
     simp only [t1] at E0
     try simp only [Bool.true_or, Bool.or_true, Bool.false_or, Bool.or_false, Bool.and_true, Bool.and_false, Bool.true_and, Bool.false_and, Bool.not_true, Bool.not_false] at E0
     go_wp2_with fail
     refine hop2.mono ?_
     rintro e w2 ⟨rfl, rfl⟩
     go_wp2_with fail
     go_ret
     exact ⟨retb E0.out.symm, by rw [HBZ.out]; exact HB1.out⟩
    | false =>
     simp only [t1] at E0
     cases t2 : (x.name.toList == [124]) with
     | true =>
      simp only [t2] at E0
      cases q2 : ((x.src.length : Int) == 2) with
      | true =>
       simp only [q2] at E0
       try simp only [Bool.true_or, Bool.or_true, Bool.false_or, Bool.or_false, Bool.and_true, Bool.and_false, Bool.true_and, Bool.false_and, Bool.not_true, Bool.not_false] at E0
       go_wp2_with fail
       refine hop2.mono ?_
       rintro e w2 ⟨rfl, rfl⟩
       go_wp2_with fail
       go_ret
       exact ⟨retb E0.out.symm, by rw [HBZ.out]; exact HB1.out⟩
      | false =>
       simp only [q2] at E0
       try simp only [Bool.true_or, Bool.or_true, Bool.false_or, Bool.or_false, Bool.and_true, Bool.and_false, Bool.true_and, Bool.false_and, Bool.not_true, Bool.not_false] at E0
       go_wp2_with fail
       refine hop2.mono ?_
       rintro e w2 ⟨rfl, rfl⟩
       go_wp2_with fail
       go_ret
       exact ⟨retb E0.out.symm, by rw [HBZ.out]; exact HB1.out⟩
     | false =>
      simp only [t2] at E0
      try simp only [Bool.true_or, Bool.or_true, Bool.false_or, Bool.or_false, Bool.and_true, Bool.and_false, Bool.true_and, Bool.false_and, Bool.not_true, Bool.not_false] at E0
      go_wp2_with fail
      refine hop2.mono ?_
      rintro e w2 ⟨rfl, rfl⟩
      go_wp2_with fail
      go_ret
      exact ⟨retb E0.out.symm, by rw [HBZ.out]; exact HB1.out⟩
   | false =>
    simp only [t0] at E0
    have t0' := neq_beq t0
    cases t1 : (x.name.toList == [123, 125]) with
    | true =>
     simp only [t1] at E0
     try simp only [Bool.true_or, Bool.or_true, Bool.false_or, Bool.or_false, Bool.and_true, Bool.and_false, Bool.true_and, Bool.false_and, Bool.not_true, Bool.not_false] at E0
     go_wp2_with fail
     refine hop2.mono ?_
     rintro e w2 ⟨rfl, rfl⟩
     go_wp2_with fail
     go_ret
     exact ⟨retb E0.out.symm, by rw [HBZ.out]; exact HB1.out⟩
    | false =>
     simp only [t1] at E0
     cases t2 : (x.name.toList == [124]) with
     | true =>
      simp only [t2] at E0
      cases q2 : ((x.src.length : Int) == 2) with
      | true =>
       simp only [q2] at E0
       try simp only [Bool.true_or, Bool.or_true, Bool.false_or, Bool.or_false, Bool.and_true, Bool.and_false, Bool.true_and, Bool.false_and, Bool.not_true, Bool.not_false] at E0
       go_wp2_with fail
       refine hop2.mono ?_
       rintro e w2 ⟨rfl, rfl⟩
       go_wp2_with fail
       go_ret
       exact ⟨retb E0.out.symm, by rw [HBZ.out]; exact HB1.out⟩
      | false =>
       simp only [q2] at E0
       try simp only [Bool.true_or, Bool.or_true, Bool.false_or, Bool.or_false, Bool.and_true, Bool.and_false, Bool.true_and, Bool.false_and, Bool.not_true, Bool.not_false] at E0
       go_wp2_with fail
       refine hop2.mono ?_
       rintro e w2 ⟨rfl, rfl⟩
       go_wp2_with fail
       go_ret
       exact ⟨retb E0.out.symm, by rw [HBZ.out]; exact HB1.out⟩
     | false =>
      simp only [t2] at E0
      try simp only [Bool.true_or, Bool.or_true, Bool.false_or, Bool.or_false, Bool.and_true, Bool.and_false, Bool.true_and, Bool.false_and, Bool.not_true, Bool.not_false] at E0
      go_wp2_with fail
      refine hop2.mono ?_
      rintro e w2 ⟨rfl, rfl⟩
      go_wp2_with fail
      go_ret
      exact ⟨retb E0.out.symm, by rw [HBZ.out]; exact HB1.out⟩
set_option maxRecDepth 100000 in
set_option maxHeartbeats 8000000 in
theorem rnamed_14 (x : RIns) (so co' go' : Option Addr) (sc cc' gc' : Nat) (w : World) (hs : x.name.size ≤ maxLen) (r2 : x.src.length ≤ 9223372036854775807) (r1 : I64 x.n) (hop : x.op = 14) :
  Calls Tryz.prog 41 #[.agg #[.int .i64 x.op, .int .i64 x.dst.kind, .int .i64 x.dst.n, .slice so x.src.length sc, .int .i64 x.to, .int .i64 x.n, .int .i64 x.live, .string x.name, .slice co' x.cases.length cc', .slice go' x.segs.length gc']] w fun e w' => e = .returned (.bool (namedB x)) ∧ Below w.heap.size w w' := by
 have E0 : Hid (namedB x = ((operB x.name x.src.length || (classB x.name x.src.length == 1)) || (classB x.name x.src.length == 2))) := Lib.hid (by unfold namedB; rw [if_neg (by omega), if_pos hop])
 have HOP := Lib.hid hop
 clear hop
 go_enter Tryz.func41, Tryz.ntmps41
 go_upto_region 1 with fail
 have hX := xbox_new w x so co' go' sc cc' gc'
 have hBX : Below w.heap.size w (w.alloc (.cells #[.int .i64 x.op, .int .i64 x.dst.kind, .int .i64 x.dst.n, .slice so x.src.length sc, .int .i64 x.to, .int .i64 x.n, .int .i64 x.live, .string x.name, .slice co' x.cases.length cc', .slice go' x.segs.length gc'] 50)) := (Below.refl _ _).alloc (Nat.le_refl _) _
 generalize w.alloc (.cells #[.int .i64 x.op, .int .i64 x.dst.kind, .int .i64 x.dst.n, .slice so x.src.length sc, .int .i64 x.to, .int .i64 x.n, .int .i64 x.live, .string x.name, .slice co' x.cases.length cc', .slice go' x.segs.length gc'] 50) = W at *
 have hcl := rclass_any x.name x.src.length W hs
 rw [← classB_classR] at hcl
 have HX := Lib.hid hX; have HB := Lib.hid hBX
 have c0 := hX.c0; have c3 := hX.c3; have c5 := hX.c5; have c7 := hX.c7
 have hlx := hX.lt
 clear hX hBX
 rw [HOP.out] at c0
 generalize hBz : w.heap.size = B at *
 have HBZ := Lib.hid hBz
 clear hBz
 go_wp2_with fail
 refine hcl.mono ?_
 rintro e w1 ⟨rfl, hb1⟩
 have hX1 := HX.out.below hb1
 have HB1 : Hid (Below B w w1) := Lib.hid (HB.out.trans (hb1.mono (by have := HB.out.size; have := HBZ.out; omega)))
 have hbb := hb1.size
 clear hb1 c0 c3 c5 c7 hcl
 have c0 := hX1.c0; have c3 := hX1.c3; have c5 := hX1.c5; have c7 := hX1.c7
 have hlx1 := hX1.lt
 have HX1 := Lib.hid hX1
 clear hX1
 rw [HOP.out] at c0
 have hop2 := roper_any x.name x.src.length w1
 cases q1 : (classB x.name x.src.length == 1) with
 | true =>
  simp only [q1] at E0
  try simp only [Bool.true_or, Bool.or_true, Bool.false_or, Bool.or_false, Bool.and_true, Bool.and_false, Bool.true_and, Bool.false_and, Bool.not_true, Bool.not_false] at E0
  go_wp2_with fail
  refine hop2.mono ?_
  rintro e w2 ⟨rfl, rfl⟩
  go_wp2_with fail
  go_ret
  exact ⟨retb E0.out.symm, by rw [HBZ.out]; exact HB1.out⟩
 | false =>
  simp only [q1] at E0
  cases q2 : (classB x.name x.src.length == 2) with
  | true =>
   simp only [q2] at E0
   try simp only [Bool.true_or, Bool.or_true, Bool.false_or, Bool.or_false, Bool.and_true, Bool.and_false, Bool.true_and, Bool.false_and, Bool.not_true, Bool.not_false] at E0
   go_wp2_with fail
   refine hop2.mono ?_
   rintro e w2 ⟨rfl, rfl⟩
   go_wp2_with fail
   go_ret
   exact ⟨retb E0.out.symm, by rw [HBZ.out]; exact HB1.out⟩
  | false =>
   simp only [q2] at E0
   try simp only [Bool.true_or, Bool.or_true, Bool.false_or, Bool.or_false, Bool.and_true, Bool.and_false, Bool.true_and, Bool.false_and, Bool.not_true, Bool.not_false] at E0
   go_wp2_with fail
   refine hop2.mono ?_
   rintro e w2 ⟨rfl, rfl⟩
   go_wp2_with fail
   go_ret
   exact ⟨retb E0.out.symm, by rw [HBZ.out]; exact HB1.out⟩
set_option maxRecDepth 100000 in
set_option maxHeartbeats 8000000 in
theorem rnamed_15 (x : RIns) (so co' go' : Option Addr) (sc cc' gc' : Nat) (w : World) (hs : x.name.size ≤ maxLen) (r2 : x.src.length ≤ 9223372036854775807) (r1 : I64 x.n) (hop : x.op = 15) :
  Calls Tryz.prog 41 #[.agg #[.int .i64 x.op, .int .i64 x.dst.kind, .int .i64 x.dst.n, .slice so x.src.length sc, .int .i64 x.to, .int .i64 x.n, .int .i64 x.live, .string x.name, .slice co' x.cases.length cc', .slice go' x.segs.length gc']] w fun e w' => e = .returned (.bool (namedB x)) ∧ Below w.heap.size w w' := by
 have E0 : Hid (namedB x = (((x.name.toList == [33]) && (x.n == 2)) || (classB x.name x.n == 3))) := Lib.hid (by unfold namedB; rw [if_neg (by omega), if_neg (by omega), if_pos hop])
 have HOP := Lib.hid hop
 clear hop
 go_enter Tryz.func41, Tryz.ntmps41
 go_upto_region 1 with fail
 have hX := xbox_new w x so co' go' sc cc' gc'
 have hBX : Below w.heap.size w (w.alloc (.cells #[.int .i64 x.op, .int .i64 x.dst.kind, .int .i64 x.dst.n, .slice so x.src.length sc, .int .i64 x.to, .int .i64 x.n, .int .i64 x.live, .string x.name, .slice co' x.cases.length cc', .slice go' x.segs.length gc'] 50)) := (Below.refl _ _).alloc (Nat.le_refl _) _
 generalize w.alloc (.cells #[.int .i64 x.op, .int .i64 x.dst.kind, .int .i64 x.dst.n, .slice so x.src.length sc, .int .i64 x.to, .int .i64 x.n, .int .i64 x.live, .string x.name, .slice co' x.cases.length cc', .slice go' x.segs.length gc'] 50) = W at *
 have hcl := rclass_any x.name x.src.length W hs
 rw [← classB_classR] at hcl
 have HX := Lib.hid hX; have HB := Lib.hid hBX
 have c0 := hX.c0; have c3 := hX.c3; have c5 := hX.c5; have c7 := hX.c7
 have hlx := hX.lt
 clear hX hBX
 rw [HOP.out] at c0
 generalize hBz : w.heap.size = B at *
 have HBZ := Lib.hid hBz
 clear hBz
 go_wp2_with fail
 refine hcl.mono ?_
 rintro e w1 ⟨rfl, hb1⟩
 have hX1 := HX.out.below hb1
 have HB1 : Hid (Below B w w1) := Lib.hid (HB.out.trans (hb1.mono (by have := HB.out.size; have := HBZ.out; omega)))
 have hbb := hb1.size
 clear hb1 c0 c3 c5 c7 hcl
 have c0 := hX1.c0; have c3 := hX1.c3; have c5 := hX1.c5; have c7 := hX1.c7
 have hlx1 := hX1.lt
 have HX1 := Lib.hid hX1
 clear hX1
 rw [HOP.out] at c0
 have hop2 := roper_any x.name x.src.length w1
 have hc2 := rclass_any x.name x.n w1 hs
 rw [← classB_classR] at hc2
 cases q3 : (classB x.name x.n == 3) with
 | true =>
  simp only [q3] at E0
  try simp only [Bool.true_or, Bool.or_true, Bool.false_or, Bool.or_false, Bool.and_true, Bool.and_false, Bool.true_and, Bool.false_and, Bool.not_true, Bool.not_false] at E0
  go_wp2_with fail
  refine hop2.mono ?_
  rintro e w2 ⟨rfl, rfl⟩
  go_wp2_with fail
  refine hc2.mono ?_
  rintro e w3 ⟨rfl, hb3⟩
  have c5' := (HX1.out.below hb3).c5; have c7' := (HX1.out.below hb3).c7
  have hlx3 := (HX1.out.below hb3).lt
  have HB3 : Hid (Below B w w3) := Lib.hid (HB1.out.trans (hb3.mono (by have := HB1.out.size; have := HBZ.out; omega)))
  clear hb3 c0 c3 c5 c7
  go_wp2_with fail
  go_ret
  exact ⟨retb E0.out.symm, by rw [HBZ.out]; exact HB3.out⟩
 | false =>
  simp only [q3] at E0
  cases t1 : (x.name.toList == [33]) with
  | true =>
   simp only [t1] at E0
   cases q2 : (x.n == 2) with
   | true =>
    simp only [q2] at E0
    try simp only [Bool.true_or, Bool.or_true, Bool.false_or, Bool.or_false, Bool.and_true, Bool.and_false, Bool.true_and, Bool.false_and, Bool.not_true, Bool.not_false] at E0
    go_wp2_with fail
    refine hop2.mono ?_
    rintro e w2 ⟨rfl, rfl⟩
    go_wp2_with fail
    refine hc2.mono ?_
    rintro e w3 ⟨rfl, hb3⟩
    have c5' := (HX1.out.below hb3).c5; have c7' := (HX1.out.below hb3).c7
    have hlx3 := (HX1.out.below hb3).lt
    have HB3 : Hid (Below B w w3) := Lib.hid (HB1.out.trans (hb3.mono (by have := HB1.out.size; have := HBZ.out; omega)))
    clear hb3 c0 c3 c5 c7
    go_wp2_with fail
    go_ret
    exact ⟨retb E0.out.symm, by rw [HBZ.out]; exact HB3.out⟩
   | false =>
    simp only [q2] at E0
    try simp only [Bool.true_or, Bool.or_true, Bool.false_or, Bool.or_false, Bool.and_true, Bool.and_false, Bool.true_and, Bool.false_and, Bool.not_true, Bool.not_false] at E0
    go_wp2_with fail
    refine hop2.mono ?_
    rintro e w2 ⟨rfl, rfl⟩
    go_wp2_with fail
    refine hc2.mono ?_
    rintro e w3 ⟨rfl, hb3⟩
    have c5' := (HX1.out.below hb3).c5; have c7' := (HX1.out.below hb3).c7
    have hlx3 := (HX1.out.below hb3).lt
    have HB3 : Hid (Below B w w3) := Lib.hid (HB1.out.trans (hb3.mono (by have := HB1.out.size; have := HBZ.out; omega)))
    clear hb3 c0 c3 c5 c7
    go_wp2_with fail
    go_ret
    exact ⟨retb E0.out.symm, by rw [HBZ.out]; exact HB3.out⟩
  | false =>
   simp only [t1] at E0
   try simp only [Bool.true_or, Bool.or_true, Bool.false_or, Bool.or_false, Bool.and_true, Bool.and_false, Bool.true_and, Bool.false_and, Bool.not_true, Bool.not_false] at E0
   go_wp2_with fail
   refine hop2.mono ?_
   rintro e w2 ⟨rfl, rfl⟩
   go_wp2_with fail
   refine hc2.mono ?_
   rintro e w3 ⟨rfl, hb3⟩
   have c5' := (HX1.out.below hb3).c5; have c7' := (HX1.out.below hb3).c7
   have hlx3 := (HX1.out.below hb3).lt
   have HB3 : Hid (Below B w w3) := Lib.hid (HB1.out.trans (hb3.mono (by have := HB1.out.size; have := HBZ.out; omega)))
   clear hb3 c0 c3 c5 c7
   go_wp2_with fail
   go_ret
   exact ⟨retb E0.out.symm, by rw [HBZ.out]; exact HB3.out⟩
set_option maxRecDepth 100000 in
set_option maxHeartbeats 8000000 in
theorem rnamed_rest (x : RIns) (so co' go' : Option Addr) (sc cc' gc' : Nat) (w : World) (hs : x.name.size ≤ maxLen) (r2 : x.src.length ≤ 9223372036854775807) (r1 : I64 x.n) (h13 : ¬ x.op = 13) (h14 : ¬ x.op = 14) (h15 : ¬ x.op = 15) :
  Calls Tryz.prog 41 #[.agg #[.int .i64 x.op, .int .i64 x.dst.kind, .int .i64 x.dst.n, .slice so x.src.length sc, .int .i64 x.to, .int .i64 x.n, .int .i64 x.live, .string x.name, .slice co' x.cases.length cc', .slice go' x.segs.length gc']] w fun e w' => e = .returned (.bool (namedB x)) ∧ Below w.heap.size w w' := by
 have E0 : Hid (namedB x = true) := Lib.hid (by unfold namedB; rw [if_neg h13, if_neg h14, if_neg h15])
 have t13 : (x.op == 13) = false := beq_eq_false_iff_ne.2 h13
 have t14 : (x.op == 14) = false := beq_eq_false_iff_ne.2 h14
 have t15 : (x.op == 15) = false := beq_eq_false_iff_ne.2 h15
 clear h13 h14 h15
 go_enter Tryz.func41, Tryz.ntmps41
 go_upto_region 1 with fail
 have hX := xbox_new w x so co' go' sc cc' gc'
 have hBX : Below w.heap.size w (w.alloc (.cells #[.int .i64 x.op, .int .i64 x.dst.kind, .int .i64 x.dst.n, .slice so x.src.length sc, .int .i64 x.to, .int .i64 x.n, .int .i64 x.live, .string x.name, .slice co' x.cases.length cc', .slice go' x.segs.length gc'] 50)) := (Below.refl _ _).alloc (Nat.le_refl _) _
 generalize w.alloc (.cells #[.int .i64 x.op, .int .i64 x.dst.kind, .int .i64 x.dst.n, .slice so x.src.length sc, .int .i64 x.to, .int .i64 x.n, .int .i64 x.live, .string x.name, .slice co' x.cases.length cc', .slice go' x.segs.length gc'] 50) = W at *
 have hcl := rclass_any x.name x.src.length W hs
 rw [← classB_classR] at hcl
 have HX := Lib.hid hX; have HB := Lib.hid hBX
 have c0 := hX.c0; have c3 := hX.c3; have c5 := hX.c5; have c7 := hX.c7
 have hlx := hX.lt
 clear hX hBX
 generalize hBz : w.heap.size = B at *
 have HBZ := Lib.hid hBz
 clear hBz
 go_wp2_with fail
 refine hcl.mono ?_
 rintro e w1 ⟨rfl, hb1⟩
 have hX1 := HX.out.below hb1
 have HB1 : Hid (Below B w w1) := Lib.hid (HB.out.trans (hb1.mono (by have := HB.out.size; have := HBZ.out; omega)))
 have hbb := hb1.size
 clear hb1 c0 c3 c5 c7 hcl
 have c0 := hX1.c0; have c3 := hX1.c3; have c5 := hX1.c5; have c7 := hX1.c7
 have hlx1 := hX1.lt
 have HX1 := Lib.hid hX1
 clear hX1
 have hop2 := roper_any x.name x.src.length w1
 go_wp2_with fail
 refine hop2.mono ?_
 rintro e w2 ⟨rfl, rfl⟩
 go_wp2_with fail
 go_ret
 exact ⟨retb E0.out.symm, by rw [HBZ.out]; exact HB1.out⟩
theorem rnamed_any (x : RIns) (so co' go' : Option Addr) (sc cc' gc' : Nat) (w : World) (hs : x.name.size ≤ maxLen) (r2 : x.src.length ≤ 9223372036854775807) (r1 : I64 x.n) :
  Calls Tryz.prog 41 #[.agg #[.int .i64 x.op, .int .i64 x.dst.kind, .int .i64 x.dst.n, .slice so x.src.length sc, .int .i64 x.to, .int .i64 x.n, .int .i64 x.live, .string x.name, .slice co' x.cases.length cc', .slice go' x.segs.length gc']] w fun e w' => e = .returned (.bool (namedB x)) ∧ Below w.heap.size w w' := by
 by_cases h13 : x.op = 13
 ·exact rnamed_13 x so co' go' sc cc' gc' w hs r2 r1 h13
 by_cases h14 : x.op = 14
 ·exact rnamed_14 x so co' go' sc cc' gc' w hs r2 r1 h14
 by_cases h15 : x.op = 15
 ·exact rnamed_15 x so co' go' sc cc' gc' w hs r2 r1 h15
 exact rnamed_rest x so co' go' sc cc' gc' w hs r2 r1 h13 h14 h15
end Go.Proofs.YtghgbikmlbildaaGreatDoor
