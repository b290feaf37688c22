/-
  The writer of code: an instruction: the walk (printed by gen_instr.py).
-/
import Derived.Test.YtghgbikmlbildaaDoorWOk
import Derived.Test.YtghgbikmlbildaaDoorCLists2
import Derived.Deep.DeepCutAuto
namespace Go.Proofs.YtghgbikmlbildaaDoor
open Go.RowKit
set_option linter.unusedVariables false
set_option linter.unusedSimpArgs false

theorem srcW_nil : srcW [] = [] := rfl
theorem opt_yes (l k : List UInt8) : opt true l ++ k = l ++ k := rfl
theorem opt_no (l k : List UInt8) : opt false l ++ k = k := rfl
theorem srcW_step (l : List RArg) {k : Nat} (h : k < l.length) : srcW (l.drop k) = argW l[k] ++ srcW (l.drop (k + 1)) := by
  unfold srcW; rw [List.drop_eq_getElem_cons h]; rfl
theorem casesW_step (l : List RCase) {k : Nat} (h : k < l.length) : casesW (l.drop k) = vint l[k].lit.toNat ++ (vint l[k].to.toNat ++ casesW (l.drop (k + 1))) := by
  unfold casesW; rw [List.drop_eq_getElem_cons h, List.flatMap_cons]; unfold caseW; rw [List.append_assoc]
theorem segsW_step (l : List RSeg) {k : Nat} (h : k < l.length) : segsW (l.drop k) = vint l[k].type.toNat ++ (argW l[k].val ++ (argW l[k].size ++ (boolW l[k].little ++ segsW (l.drop (k + 1))))) := by
  unfold segsW; rw [List.drop_eq_getElem_cons h, List.flatMap_cons]; unfold segW; simp only [List.append_assoc]
theorem instrW_end (h : Nat) (x : RIns) : instrW h x = vint x.op.toNat ++ (opt (hasB h 1) (argW x.dst) ++ (opt (hasB h 2) (vint x.src.length ++ srcW x.src) ++ (opt (hasB h 4) (vint x.n.toNat) ++ (opt (hasB h 8) (textW x.name) ++
    (opt (hasB h 16) (vint x.cases.length ++ casesW x.cases) ++ (opt (hasB h 32) (vint x.segs.length ++ segsW x.segs) ++ (opt (hasB h 64) (vint x.to.toNat) ++ (opt (hasB h 128) (vint x.live.toNat) ++ [])))))))) := by
  rw [List.append_nil]; rfl
theorem has_test (h f : Nat) (hh : h < 1000) (hf : f < 1000) : bits .and .i64 (h : Int) (f : Int) = ((h &&& f : Nat) : Int) ∧ ((((h &&& f : Nat) : Int) != 0) = hasB h f) := by
  refine ⟨and_i64 h f (by omega) (by omega), ?_⟩
  unfold hasB
  by_cases c : h &&& f = 0
  · rw [c]; rfl
  · rw [decide_eq_true c]; rw [bne_iff_ne]; omega
theorem WrAt.base {B r : Nat} {l : List UInt8} {w w' : World} (h : WrAt B r l w) (hb : Below w.heap.size w w') : WrAt B r l w' := h.next hb
set_option maxRecDepth 100000 in
set_option maxHeartbeats 40000000 in
theorem winstr_any (w0 : World) (r : Nat) (l : List UInt8) (b o : Nat) (x : RIns) (so co go : Option Addr) (sc cc gc : Nat) (w : World)
    (hrows : RowsAt w0) (hwr : WrAt w0.heap.size r l w) (hb0 : Below w0.heap.size w0 w) (hx : IBox w0 b o x so co go sc cc gc) (hop : 1 ≤ x.op ∧ x.op ≤ 40) (hw : WIns (rowAt x.op).1.toNat x) (hl : l.length ≤ 70368740000000) :
    Calls Tryd.prog 28 #[.pointer (some ⟨r, 0, none⟩), .pointer (some ⟨b, o, none⟩)] w fun e w' => e = .returned (.tuple #[]) ∧ WrAt w0.heap.size r (l ++ instrW (rowAt x.op).1.toNat x) w' ∧ Below w0.heap.size w w' ∧ Stays w w' := by
  have HWR := Lib.hid hwr; have HX := Lib.hid hx; have HW := Lib.hid hw
  have hro := rowOf_at hop w (hrows.below hb0)
  have hrl := @rowAt_lt x.op
  have hxw := hx.below hb0
  have c0 := hxw.c0
  have hbl := hxw.lt
  have HBB : Hid (w0.heap.size ≤ w.heap.size) := Lib.hid hb0.size
  have HB0 := Lib.hid hb0
  have HE := Lib.hid (instrW_end (rowAt x.op).1.toNat x)
  have ht1 := has_test (rowAt x.op).1.toNat 1 hrl.1 (by decide)
  have ht2 := has_test (rowAt x.op).1.toNat 2 hrl.1 (by decide)
  have ht4 := has_test (rowAt x.op).1.toNat 4 hrl.1 (by decide)
  have ht8 := has_test (rowAt x.op).1.toNat 8 hrl.1 (by decide)
  have ht16 := has_test (rowAt x.op).1.toNat 16 hrl.1 (by decide)
  have ht32 := has_test (rowAt x.op).1.toNat 32 hrl.1 (by decide)
  have ht64 := has_test (rowAt x.op).1.toNat 64 hrl.1 (by decide)
  have ht128 := has_test (rowAt x.op).1.toNat 128 hrl.1 (by decide)
  have HDST := Lib.hid hw.dst
  clear hwr hx hw hrows hb0 hxw hrl hop
  generalize instrW (rowAt x.op).1.toNat x = WW at *
  generalize hasB (rowAt x.op).1.toNat 1 = q1 at *
  generalize hasB (rowAt x.op).1.toNat 2 = q2 at *
  generalize hasB (rowAt x.op).1.toNat 4 = q4 at *
  generalize hasB (rowAt x.op).1.toNat 8 = q8 at *
  generalize hasB (rowAt x.op).1.toNat 16 = q16 at *
  generalize hasB (rowAt x.op).1.toNat 32 = q32 at *
  generalize hasB (rowAt x.op).1.toNat 64 = q64 at *
  generalize hasB (rowAt x.op).1.toNat 128 = q128 at *
  generalize (rowAt x.op).1.toNat &&& 1 = y1 at *
  generalize (rowAt x.op).1.toNat &&& 2 = y2 at *
  generalize (rowAt x.op).1.toNat &&& 4 = y4 at *
  generalize (rowAt x.op).1.toNat &&& 8 = y8 at *
  generalize (rowAt x.op).1.toNat &&& 16 = y16 at *
  generalize (rowAt x.op).1.toNat &&& 32 = y32 at *
  generalize (rowAt x.op).1.toNat &&& 64 = y64 at *
  generalize (rowAt x.op).1.toNat &&& 128 = y128 at *
  generalize (rowAt x.op).1.toNat = h at *
  generalize (rowAt x.op).2.1.toNat = l1 at *
  generalize (rowAt x.op).2.2.toNat = l2 at *
  obtain ⟨a1, e1⟩ := ht1
  have a1' : bits .and .i64 (h : Int) 1 = (y1 : Int) := a1
  clear a1
  obtain ⟨a2, e2⟩ := ht2
  have a2' : bits .and .i64 (h : Int) 2 = (y2 : Int) := a2
  clear a2
  obtain ⟨a4, e4⟩ := ht4
  have a4' : bits .and .i64 (h : Int) 4 = (y4 : Int) := a4
  clear a4
  obtain ⟨a8, e8⟩ := ht8
  have a8' : bits .and .i64 (h : Int) 8 = (y8 : Int) := a8
  clear a8
  obtain ⟨a16, e16⟩ := ht16
  have a16' : bits .and .i64 (h : Int) 16 = (y16 : Int) := a16
  clear a16
  obtain ⟨a32, e32⟩ := ht32
  have a32' : bits .and .i64 (h : Int) 32 = (y32 : Int) := a32
  clear a32
  obtain ⟨a64, e64⟩ := ht64
  have a64' : bits .and .i64 (h : Int) 64 = (y64 : Int) := a64
  clear a64
  obtain ⟨a128, e128⟩ := ht128
  have a128' : bits .and .i64 (h : Int) 128 = (y128 : Int) := a128
  clear a128
  go_enter Tryd.func28, Tryd.ntmps28
  go_upto_region 1 with (go_at_call 16; refine hro.mono ?_; rintro e w6 ⟨rfl, hb6⟩)
  clear hro
  have HWa := Lib.hid (hb6.alloc hb6.size (.cells #[.int .i64 (h : Nat), .int .i64 (l1 : Nat), .int .i64 (l2 : Nat)] 54))
  have HSa : Hid (Stays w (w6.alloc (.cells #[.int .i64 (h : Nat), .int .i64 (l1 : Nat), .int .i64 (l2 : Nat)] 54))) := Lib.hid (((Stays.refl w).below hb6).alloc _)
  have HRa := Lib.hid (heap_alloc_new w6 (.cells #[.int .i64 (h : Nat), .int .i64 (l1 : Nat), .int .i64 (l2 : Nat)] 54))
  clear hb6
  generalize w6.alloc (.cells #[.int .i64 (h : Nat), .int .i64 (l1 : Nat), .int .i64 (l2 : Nat)] 54) = Wa at *
  generalize w6.heap.size = R at *
  have HXa : Hid (Below w0.heap.size w0 Wa) := Lib.hid (HB0.out.trans (HWa.out.mono HBB.out))
  have HWRa := Lib.hid (HWR.out.next HWa.out)
  have HBa : Hid (w0.heap.size ≤ Wa.heap.size) := Lib.hid (Nat.le_trans HBB.out HWa.out.size)
  clear c0 hbl HWR
  have hxa := HX.out.below HXa.out
  have c0 := hxa.c0
  have hbl := hxa.lt
  clear hxa
  have HW0 : Hid (l ++ WW = (l ++ vint x.op.toNat) ++ (opt q1 (argW x.dst) ++ (opt q2 ((vint x.src.length ++ srcW x.src)) ++ (opt q4 (vint x.n.toNat) ++ (opt q8 (textW x.name) ++ (opt q16 ((vint x.cases.length ++ casesW x.cases)) ++ (opt q32 ((vint x.segs.length ++ segsW x.segs)) ++ (opt q64 (vint x.to.toNat) ++ (opt q128 (vint x.live.toNat) ++ ([] : List UInt8)))))))))) := Lib.hid (by rw [HE.out, List.append_assoc])
  generalize hWW : l ++ WW = W at *
  have HWW := Lib.hid hWW
  clear hWW
  have hvl := vint_len x.op.toNat
  go_upto_if 29 with (go_at_call 25; refine (wnum_any w0.heap.size r l x.op _ HWRa.out HW.out.op0 (Int.le_trans HW.out.op1 (by decide)) (by omega)).mono ?_; rintro e w1 ⟨rfl, h1, hb1, hs1⟩; have hcR : w1.cell? ⟨R, 0, none⟩ = some (.int .i64 (h : Nat)) := by rw [cell_of_row _ _ _ _ _ _ (hs1 _ _ _ _ HRa.out (by decide) (by decide))]; rfl)
  have HH1 := Lib.hid h1; have HHB1 := Lib.hid hb1; have HHS1 := Lib.hid hs1
  clear h1 hb1 hs1 c0
  obtain ⟨p, HP, hpl, HWp, HBp, HSp⟩ : ∃ p : List UInt8, Hid (W = p ++ (opt q1 (argW x.dst) ++ (opt q2 ((vint x.src.length ++ srcW x.src)) ++ (opt q4 (vint x.n.toNat) ++ (opt q8 (textW x.name) ++ (opt q16 ((vint x.cases.length ++ casesW x.cases)) ++ (opt q32 ((vint x.segs.length ++ segsW x.segs)) ++ (opt q64 (vint x.to.toNat) ++ (opt q128 (vint x.live.toNat) ++ ([] : List UInt8)))))))))) ∧ p.length ≤ l.length + 110 ∧ Hid (WrAt w0.heap.size r p w1) ∧ Hid (Below w0.heap.size Wa w1) ∧ Hid (Stays Wa w1) := ⟨_, HW0, by rw [List.length_append]; omega, HH1, HHB1, HHS1⟩
  clear HW0 HH1 HHB1 HHS1 hcR
  go_cut [] (fun wx => ∃ p : List UInt8, Hid (W = p ++ (opt q2 ((vint x.src.length ++ srcW x.src)) ++ (opt q4 (vint x.n.toNat) ++ (opt q8 (textW x.name) ++ (opt q16 ((vint x.cases.length ++ casesW x.cases)) ++ (opt q32 ((vint x.segs.length ++ segsW x.segs)) ++ (opt q64 (vint x.to.toNat) ++ (opt q128 (vint x.live.toNat) ++ ([] : List UInt8))))))))) ∧ p.length ≤ l.length + 50110 ∧ Hid (WrAt w0.heap.size r p wx) ∧ Hid (Below w0.heap.size Wa wx) ∧ Hid (Stays Wa wx))
  case first =>
    cases q1 with
    | false =>
      go_wp2_with fail
      go_meet
      case rel => exact ⟨p, Lib.hid (by rw [HP.out]; rfl), by omega, HWp, HBp, HSp⟩
    | true =>
      have hxc := HX.out.below (HXa.out.trans HBp.out)
      have k1 := hxc.c1; have k2 := hxc.c2; have hbl2 := hxc.lt
      clear hxc
      have hd := HDST.out rfl
      have hal := argW_len x.dst
      go_wp2_with (go_at_call 39; refine (warg_any w0.heap.size r p x.dst _ HWp.out (by omega) hd.n0 (Int.le_trans hd.n1 (by decide)) hd.k0 hd.k1).mono ?_; rintro e w2 ⟨rfl, h2, hb2, hs2⟩)
      go_meet
      case rel => exact ⟨p ++ argW x.dst, Lib.hid (by rw [HP.out, opt_yes]; rw [List.append_assoc]), by (try simp only [List.length_append]); omega, Lib.hid h2, Lib.hid (HBp.out.trans hb2), Lib.hid (HSp.out.trans hs2)⟩
  case rest =>
    obtain ⟨p, HP, hpl, HWp, HBp, HSp⟩ := hcut
    have hcR : wc.cell? ⟨R, 0, none⟩ = some (.int .i64 (h : Nat)) := by rw [cell_of_row _ _ _ _ _ _ (HSp.out _ _ _ _ HRa.out (by decide) (by decide))]; rfl
    go_upto_if 39 with fail
    clear hcR
    go_cut [] (fun wx => ∃ p : List UInt8, Hid (W = p ++ (opt q4 (vint x.n.toNat) ++ (opt q8 (textW x.name) ++ (opt q16 ((vint x.cases.length ++ casesW x.cases)) ++ (opt q32 ((vint x.segs.length ++ segsW x.segs)) ++ (opt q64 (vint x.to.toNat) ++ (opt q128 (vint x.live.toNat) ++ ([] : List UInt8)))))))) ∧ p.length ≤ l.length + 100110 ∧ Hid (WrAt w0.heap.size r p wx) ∧ Hid (Below w0.heap.size Wa wx) ∧ Hid (Stays Wa wx))
    case first =>
      cases q2 with
      | false =>
        go_wp2_with fail
        go_meet
        case rel => exact ⟨p, Lib.hid (by rw [HP.out]; rfl), by omega, HWp, HBp, HSp⟩
      | true =>
        have hxc := HX.out.below (HXa.out.trans HBp.out)
        have kc := hxc.c3; have hbl2 := hxc.lt
        clear hxc
        have hlen := HW.out.srcLen
        have hvl := vint_len x.src.length
        go_wp2_with (go_at_call 25; refine (wnum_any w0.heap.size r p (x.src.length : Int) _ HWp.out (by omega) (by omega) (by omega)).mono ?_; rintro e w2 ⟨rfl, h2, hb2, hs2⟩; have kc2 := (HX.out.below (HXa.out.trans (HBp.out.trans hb2))).c3)
        rw [Int.toNat_natCast] at h2
        have HQ : Hid (W = (p ++ vint x.src.length) ++ (srcW (x.src.drop 0) ++ (opt q4 (vint x.n.toNat) ++ (opt q8 (textW x.name) ++ (opt q16 ((vint x.cases.length ++ casesW x.cases)) ++ (opt q32 ((vint x.segs.length ++ segsW x.segs)) ++ (opt q64 (vint x.to.toNat) ++ (opt q128 (vint x.live.toNat) ++ ([] : List UInt8))))))))) := Lib.hid (by rw [HP.out, opt_yes, List.drop_zero]; simp only [List.append_assoc])
        have hpl2 : (p ++ vint x.src.length).length ≤ p.length + 10 := by rw [List.length_append]; omega
        generalize p ++ vint x.src.length = p2 at *
        have HB2 := Lib.hid (HBp.out.trans hb2); have HS2 := Lib.hid (HSp.out.trans hs2); have HW2 := Lib.hid h2
        clear hb2 hs2 h2 kc
        go_loopw [52] (fun iv wr => ∃ (k : Nat) (p' : List UInt8), k ≤ x.src.length ∧ iv = .int .i64 k ∧ Hid (W = p' ++ (srcW (x.src.drop k) ++ (opt q4 (vint x.n.toNat) ++ (opt q8 (textW x.name) ++ (opt q16 ((vint x.cases.length ++ casesW x.cases)) ++ (opt q32 ((vint x.segs.length ++ segsW x.segs)) ++ (opt q64 (vint x.to.toNat) ++ (opt q128 (vint x.live.toNat) ++ ([] : List UInt8))))))))) ∧ p'.length ≤ p2.length + 10 * k ∧ Hid (WrAt w0.heap.size r p' wr) ∧ Hid (Below w0.heap.size Wa wr) ∧ Hid (Stays Wa wr)) (fun iv _ => x.src.length - (intOf iv).toNat)
        case atStart => exact ⟨0, p2, Nat.zero_le _, rfl, HQ, by omega, HW2, HB2, HS2⟩
        case round =>
          obtain ⟨k, p', hk, rfl, HK, hpk, HWk, HBk, HSk⟩ := hrel
          rename World => wr
          by_cases hlt : k < x.src.length
          · obtain ⟨b2, off, hao, hb2, q0, q1, r0, r1⟩ := (HX.out.below (HXa.out.trans HBk.out)).src.arg hlt
            subst hao
            have HST := Lib.hid (srcW_step x.src hlt)
            have HAW := Lib.hid (HW.out.src _ (List.getElem_mem hlt))
            generalize x.src[k] = a at *
            have hba := (Below.refl wr.heap.size wr).alloc (Nat.le_refl _) (.cells #[.int .i64 a.kind, .int .i64 a.n] 34)
            have hsa := (Stays.refl wr).alloc (.cells #[.int .i64 a.kind, .int .i64 a.n] 34)
            have hal := argW_len a
            have HBA := Lib.hid hba; have HSA := Lib.hid hsa
            clear hba hsa
            go_wp2_with (go_at_call 39; refine (warg_any w0.heap.size r p' a _ (HWk.out.next HBA.out) (by omega) HAW.out.n0 (Int.le_trans HAW.out.n1 (by decide)) HAW.out.k0 HAW.out.k1).mono ?_; rintro e w3 ⟨rfl, h3, hb3, hs3⟩)
            go_roundw
            case rel => exact ⟨k + 1, p' ++ argW a, by omega, by go_num, Lib.hid (by rw [HK.out, HST.out]; simp only [List.append_assoc]), by rw [List.length_append]; omega, Lib.hid h3, Lib.hid ((HBk.out.trans (HBA.out.mono (Nat.le_trans HBa.out HBk.out.size))).trans hb3), Lib.hid ((HSk.out.trans HSA.out).trans hs3)⟩
            case measure => simp [intOf]; omega
          · have HZ : Hid (W = p' ++ (opt q4 (vint x.n.toNat) ++ (opt q8 (textW x.name) ++ (opt q16 ((vint x.cases.length ++ casesW x.cases)) ++ (opt q32 ((vint x.segs.length ++ segsW x.segs)) ++ (opt q64 (vint x.to.toNat) ++ (opt q128 (vint x.live.toNat) ++ ([] : List UInt8)))))))) := Lib.hid (by rw [HK.out, List.drop_eq_nil_of_le (by omega)]; rfl)
            go_wp2_with fail
            go_meet
            case rel => exact ⟨p', HZ, by omega, HWk, HBk, HSk⟩
    case rest =>
      obtain ⟨p, HP, hpl, HWp, HBp, HSp⟩ := hcut
      have hcR : wc.cell? ⟨R, 0, none⟩ = some (.int .i64 (h : Nat)) := by rw [cell_of_row _ _ _ _ _ _ (HSp.out _ _ _ _ HRa.out (by decide) (by decide))]; rfl
      go_upto_if 63 with fail
      clear hcR
      go_cut [] (fun wx => ∃ p : List UInt8, Hid (W = p ++ (opt q8 (textW x.name) ++ (opt q16 ((vint x.cases.length ++ casesW x.cases)) ++ (opt q32 ((vint x.segs.length ++ segsW x.segs)) ++ (opt q64 (vint x.to.toNat) ++ (opt q128 (vint x.live.toNat) ++ ([] : List UInt8))))))) ∧ p.length ≤ l.length + 150110 ∧ Hid (WrAt w0.heap.size r p wx) ∧ Hid (Below w0.heap.size Wa wx) ∧ Hid (Stays Wa wx))
      case first =>
        cases q4 with
        | false =>
          go_wp2_with fail
          go_meet
          case rel => exact ⟨p, Lib.hid (by rw [HP.out]; rfl), by omega, HWp, HBp, HSp⟩
        | true =>
          have hxc := HX.out.below (HXa.out.trans HBp.out)
          have k5 := hxc.c5; have hbl2 := hxc.lt
          clear hxc
          have hal := vint_len x.n.toNat
          go_wp2_with (go_at_call 25; refine (wnum_any w0.heap.size r p x.n _ HWp.out HW.out.n0 (Int.le_trans HW.out.n1 (by decide)) (by omega)).mono ?_; rintro e w2 ⟨rfl, h2, hb2, hs2⟩)
          go_meet
          case rel => exact ⟨p ++ vint x.n.toNat, Lib.hid (by rw [HP.out, opt_yes]; rw [List.append_assoc]), by (try simp only [List.length_append]); omega, (Lib.hid h2), (Lib.hid (HBp.out.trans hb2)), (Lib.hid (HSp.out.trans hs2))⟩
      case rest =>
        obtain ⟨p, HP, hpl, HWp, HBp, HSp⟩ := hcut
        have hcR : wc.cell? ⟨R, 0, none⟩ = some (.int .i64 (h : Nat)) := by rw [cell_of_row _ _ _ _ _ _ (HSp.out _ _ _ _ HRa.out (by decide) (by decide))]; rfl
        go_upto_if 73 with fail
        clear hcR
        go_cut [] (fun wx => ∃ p : List UInt8, Hid (W = p ++ (opt q16 ((vint x.cases.length ++ casesW x.cases)) ++ (opt q32 ((vint x.segs.length ++ segsW x.segs)) ++ (opt q64 (vint x.to.toNat) ++ (opt q128 (vint x.live.toNat) ++ ([] : List UInt8)))))) ∧ p.length ≤ l.length + 200110 ∧ Hid (WrAt w0.heap.size r p wx) ∧ Hid (Below w0.heap.size Wa wx) ∧ Hid (Stays Wa wx))
        case first =>
          cases q8 with
          | false =>
            go_wp2_with fail
            go_meet
            case rel => exact ⟨p, Lib.hid (by rw [HP.out]; rfl), by omega, HWp, HBp, HSp⟩
          | true =>
            have hxc := HX.out.below (HXa.out.trans HBp.out)
            have k7 := hxc.c7; have hbl2 := hxc.lt
            clear hxc
            have hal := textW_len x.name
            have hns := HW.out.name
            go_wp2_with (go_at_call 24; refine (wtext_any w0.heap.size r p x.name _ HWp.out (by omega) (by omega)).mono ?_; rintro e w2 ⟨rfl, h2, hb2, hs2⟩)
            go_meet
            case rel => exact ⟨p ++ textW x.name, Lib.hid (by rw [HP.out, opt_yes]; rw [List.append_assoc]), by (try simp only [List.length_append]); omega, Lib.hid h2, Lib.hid (HBp.out.trans hb2), Lib.hid (HSp.out.trans hs2)⟩
        case rest =>
          obtain ⟨p, HP, hpl, HWp, HBp, HSp⟩ := hcut
          have hcR : wc.cell? ⟨R, 0, none⟩ = some (.int .i64 (h : Nat)) := by rw [cell_of_row _ _ _ _ _ _ (HSp.out _ _ _ _ HRa.out (by decide) (by decide))]; rfl
          go_upto_if 83 with fail
          clear hcR
          go_cut [] (fun wx => ∃ p : List UInt8, Hid (W = p ++ (opt q32 ((vint x.segs.length ++ segsW x.segs)) ++ (opt q64 (vint x.to.toNat) ++ (opt q128 (vint x.live.toNat) ++ ([] : List UInt8))))) ∧ p.length ≤ l.length + 250110 ∧ Hid (WrAt w0.heap.size r p wx) ∧ Hid (Below w0.heap.size Wa wx) ∧ Hid (Stays Wa wx))
          case first =>
            cases q16 with
            | false =>
              go_wp2_with fail
              go_meet
              case rel => exact ⟨p, Lib.hid (by rw [HP.out]; rfl), by omega, HWp, HBp, HSp⟩
            | true =>
              have hxc := HX.out.below (HXa.out.trans HBp.out)
              have kc := hxc.c8; have hbl2 := hxc.lt
              clear hxc
              have hlen := HW.out.casesLen
              have hvl := vint_len x.cases.length
              go_wp2_with (go_at_call 25; refine (wnum_any w0.heap.size r p (x.cases.length : Int) _ HWp.out (by omega) (by omega) (by omega)).mono ?_; rintro e w2 ⟨rfl, h2, hb2, hs2⟩; have kc2 := (HX.out.below (HXa.out.trans (HBp.out.trans hb2))).c8)
              rw [Int.toNat_natCast] at h2
              have HQ : Hid (W = (p ++ vint x.cases.length) ++ (casesW (x.cases.drop 0) ++ (opt q32 ((vint x.segs.length ++ segsW x.segs)) ++ (opt q64 (vint x.to.toNat) ++ (opt q128 (vint x.live.toNat) ++ ([] : List UInt8)))))) := Lib.hid (by rw [HP.out, opt_yes, List.drop_zero]; simp only [List.append_assoc])
              have hpl2 : (p ++ vint x.cases.length).length ≤ p.length + 10 := by rw [List.length_append]; omega
              generalize p ++ vint x.cases.length = p2 at *
              have HB2 := Lib.hid (HBp.out.trans hb2); have HS2 := Lib.hid (HSp.out.trans hs2); have HW2 := Lib.hid h2
              clear hb2 hs2 h2 kc
              go_loopw [96] (fun iv wr => ∃ (k : Nat) (p' : List UInt8), k ≤ x.cases.length ∧ iv = .int .i64 k ∧ Hid (W = p' ++ (casesW (x.cases.drop k) ++ (opt q32 ((vint x.segs.length ++ segsW x.segs)) ++ (opt q64 (vint x.to.toNat) ++ (opt q128 (vint x.live.toNat) ++ ([] : List UInt8)))))) ∧ p'.length ≤ p2.length + 20 * k ∧ Hid (WrAt w0.heap.size r p' wr) ∧ Hid (Below w0.heap.size Wa wr) ∧ Hid (Stays Wa wr)) (fun iv _ => x.cases.length - (intOf iv).toNat)
              case atStart => exact ⟨0, p2, Nat.zero_le _, rfl, HQ, by omega, HW2, HB2, HS2⟩
              case round =>
                obtain ⟨k, p', hk, rfl, HK, hpk, HWk, HBk, HSk⟩ := hrel
                rename World => wr
                by_cases hlt : k < x.cases.length
                · obtain ⟨b2, off, hao, hb2, q0, q1, r0, r1⟩ := (HX.out.below (HXa.out.trans HBk.out)).cases.case hlt
                  subst hao
                  have HST := Lib.hid (casesW_step x.cases hlt)
                  have HAW := Lib.hid (HW.out.cases _ (List.getElem_mem hlt))
                  generalize x.cases[k] = a at *
                  have hba := (Below.refl wr.heap.size wr).alloc (Nat.le_refl _) (.cells #[.int .i64 a.lit, .int .i64 a.to] 41)
                  have hsa := (Stays.refl wr).alloc (.cells #[.int .i64 a.lit, .int .i64 a.to] 41)
                  have hLc := heap_alloc_new wr (.cells #[.int .i64 a.lit, .int .i64 a.to] 41)
                  have hal := vint_len a.lit.toNat; have hal2 := vint_len a.to.toNat
                  have HBA := Lib.hid hba; have HSA := Lib.hid hsa; have HLC := Lib.hid hLc
                  clear hba hsa hLc
                  go_wp2_with fail
                  refine (wnum_any w0.heap.size r p' a.lit _ (HWk.out.next HBA.out) HAW.out.1 (Int.le_trans HAW.out.2.1 (by decide)) (by omega)).mono ?_
                  rintro e w3 ⟨rfl, h3, hb3, hs3⟩
                  have g1 : w3.cell? ⟨wr.heap.size, 1, none⟩ = some (.int .i64 a.to) := by rw [cell_of_row _ _ _ _ _ _ (hs3 _ _ _ _ HLC.out (by decide) (by decide))]; rfl
                  have H3 := Lib.hid h3; have HB3 := Lib.hid hb3; have HS3 := Lib.hid hs3
                  clear h3 hb3 hs3
                  go_wp2_with fail
                  refine (wnum_any w0.heap.size r (p' ++ vint a.lit.toNat) a.to _ H3.out HAW.out.2.2.1 (Int.le_trans HAW.out.2.2.2 (by decide)) (by rw [List.length_append]; omega)).mono ?_
                  rintro e w4 ⟨rfl, h4, hb4, hs4⟩
                  go_wp2_with fail
                  go_roundw
                  case rel => exact ⟨k + 1, (p' ++ vint a.lit.toNat) ++ vint a.to.toNat, by omega, by go_num, Lib.hid (by rw [HK.out, HST.out]; simp only [List.append_assoc]), by rw [List.length_append, List.length_append]; omega, Lib.hid h4, Lib.hid (((HBk.out.trans (HBA.out.mono (Nat.le_trans HBa.out HBk.out.size))).trans HB3.out).trans hb4), Lib.hid (((HSk.out.trans HSA.out).trans HS3.out).trans hs4)⟩
                  case measure => simp [intOf]; omega
                · have HZ : Hid (W = p' ++ (opt q32 ((vint x.segs.length ++ segsW x.segs)) ++ (opt q64 (vint x.to.toNat) ++ (opt q128 (vint x.live.toNat) ++ ([] : List UInt8))))) := Lib.hid (by rw [HK.out, List.drop_eq_nil_of_le (by omega)]; rfl)
                  go_wp2_with fail
                  go_meet
                  case rel => exact ⟨p', HZ, by omega, HWk, HBk, HSk⟩
          case rest =>
            obtain ⟨p, HP, hpl, HWp, HBp, HSp⟩ := hcut
            have hcR : wc.cell? ⟨R, 0, none⟩ = some (.int .i64 (h : Nat)) := by rw [cell_of_row _ _ _ _ _ _ (HSp.out _ _ _ _ HRa.out (by decide) (by decide))]; rfl
            go_upto_if 112 with fail
            clear hcR
            go_cut [] (fun wx => ∃ p : List UInt8, Hid (W = p ++ (opt q64 (vint x.to.toNat) ++ (opt q128 (vint x.live.toNat) ++ ([] : List UInt8)))) ∧ p.length ≤ l.length + 300110 ∧ Hid (WrAt w0.heap.size r p wx) ∧ Hid (Below w0.heap.size Wa wx) ∧ Hid (Stays Wa wx))
            case first =>
              cases q32 with
              | false =>
                go_wp2_with fail
                go_meet
                case rel => exact ⟨p, Lib.hid (by rw [HP.out]; rfl), by omega, HWp, HBp, HSp⟩
              | true =>
                have hxc := HX.out.below (HXa.out.trans HBp.out)
                have kc := hxc.c9; have hbl2 := hxc.lt
                clear hxc
                have hlen := HW.out.segsLen
                have hvl := vint_len x.segs.length
                go_wp2_with (go_at_call 25; refine (wnum_any w0.heap.size r p (x.segs.length : Int) _ HWp.out (by omega) (by omega) (by omega)).mono ?_; rintro e w2 ⟨rfl, h2, hb2, hs2⟩; have kc2 := (HX.out.below (HXa.out.trans (HBp.out.trans hb2))).c9)
                rw [Int.toNat_natCast] at h2
                have HQ : Hid (W = (p ++ vint x.segs.length) ++ (segsW (x.segs.drop 0) ++ (opt q64 (vint x.to.toNat) ++ (opt q128 (vint x.live.toNat) ++ ([] : List UInt8))))) := Lib.hid (by rw [HP.out, opt_yes, List.drop_zero]; simp only [List.append_assoc])
                have hpl2 : (p ++ vint x.segs.length).length ≤ p.length + 10 := by rw [List.length_append]; omega
                generalize p ++ vint x.segs.length = p2 at *
                have HB2 := Lib.hid (HBp.out.trans hb2); have HS2 := Lib.hid (HSp.out.trans hs2); have HW2 := Lib.hid h2
                clear hb2 hs2 h2 kc
                go_loopw [125] (fun iv wr => ∃ (k : Nat) (p' : List UInt8), k ≤ x.segs.length ∧ iv = .int .i64 k ∧ Hid (W = p' ++ (segsW (x.segs.drop k) ++ (opt q64 (vint x.to.toNat) ++ (opt q128 (vint x.live.toNat) ++ ([] : List UInt8))))) ∧ p'.length ≤ p2.length + 40 * k ∧ Hid (WrAt w0.heap.size r p' wr) ∧ Hid (Below w0.heap.size Wa wr) ∧ Hid (Stays Wa wr)) (fun iv _ => x.segs.length - (intOf iv).toNat)
                case atStart => exact ⟨0, p2, Nat.zero_le _, rfl, HQ, by omega, HW2, HB2, HS2⟩
                case round =>
                  obtain ⟨k, p', hk, rfl, HK, hpk, HWk, HBk, HSk⟩ := hrel
                  rename World => wr
                  by_cases hlt : k < x.segs.length
                  · obtain ⟨b2, off, hao, hb2, q0, q1, q2, q3, q4, q5, r0, r1, r2, r3, r4⟩ := (HX.out.below (HXa.out.trans HBk.out)).segs.seg hlt
                    subst hao
                    have HST := Lib.hid (segsW_step x.segs hlt)
                    have HAW := Lib.hid (HW.out.segs _ (List.getElem_mem hlt))
                    generalize x.segs[k] = a at *
                    have hba := (Below.refl wr.heap.size wr).alloc (Nat.le_refl _) (.cells #[.int .i64 a.type, .int .i64 a.val.kind, .int .i64 a.val.n, .int .i64 a.size.kind, .int .i64 a.size.n, .bool a.little] 90)
                    have hsa := (Stays.refl wr).alloc (.cells #[.int .i64 a.type, .int .i64 a.val.kind, .int .i64 a.val.n, .int .i64 a.size.kind, .int .i64 a.size.n, .bool a.little] 90)
                    have hLc := heap_alloc_new wr (.cells #[.int .i64 a.type, .int .i64 a.val.kind, .int .i64 a.val.n, .int .i64 a.size.kind, .int .i64 a.size.n, .bool a.little] 90)
                    have hal := vint_len a.type.toNat; have hal2 := argW_len a.val; have hal3 := argW_len a.size; have hal4 := boolW_len a.little
                    have HBA := Lib.hid hba; have HSA := Lib.hid hsa; have HLC := Lib.hid hLc
                    clear hba hsa hLc
                    go_wp2_with fail
                    refine (wnum_any w0.heap.size r p' a.type _ (HWk.out.next HBA.out) HAW.out.1 (Int.le_trans HAW.out.2.1 (by decide)) (by omega)).mono ?_
                    rintro e w3 ⟨rfl, h3, hb3, hs3⟩
                    have HL3 := Lib.hid (hs3 _ _ _ _ HLC.out (by decide) (by decide))
                    have H3 := Lib.hid h3; have HB3 := Lib.hid hb3; have HS3 := Lib.hid hs3
                    clear h3 hb3 hs3
                    have g1 : w3.cell? ⟨wr.heap.size, 1, none⟩ = some (.int .i64 a.val.kind) := by rw [cell_of_row _ _ _ _ _ _ HL3.out]; rfl
                    have g2 : w3.cell? ⟨wr.heap.size, 2, none⟩ = some (.int .i64 a.val.n) := by rw [cell_of_row _ _ _ _ _ _ HL3.out]; rfl
                    go_wp2_with fail
                    refine (warg_any w0.heap.size r (p' ++ vint a.type.toNat) a.val _ H3.out (by rw [List.length_append]; omega) HAW.out.2.2.1.n0 (Int.le_trans HAW.out.2.2.1.n1 (by decide)) HAW.out.2.2.1.k0 HAW.out.2.2.1.k1).mono ?_
                    rintro e w4 ⟨rfl, h4, hb4, hs4⟩
                    have HL4 := Lib.hid (hs4 _ _ _ _ HL3.out (by decide) (by decide))
                    have H4 := Lib.hid h4; have HB4 := Lib.hid hb4; have HS4 := Lib.hid hs4
                    clear h4 hb4 hs4 g1 g2
                    have g3 : w4.cell? ⟨wr.heap.size, 3, none⟩ = some (.int .i64 a.size.kind) := by rw [cell_of_row _ _ _ _ _ _ HL4.out]; rfl
                    have g4 : w4.cell? ⟨wr.heap.size, 4, none⟩ = some (.int .i64 a.size.n) := by rw [cell_of_row _ _ _ _ _ _ HL4.out]; rfl
                    go_wp2_with fail
                    refine (warg_any w0.heap.size r ((p' ++ vint a.type.toNat) ++ argW a.val) a.size _ H4.out (by rw [List.length_append, List.length_append]; omega) HAW.out.2.2.2.n0 (Int.le_trans HAW.out.2.2.2.n1 (by decide)) HAW.out.2.2.2.k0 HAW.out.2.2.2.k1).mono ?_
                    rintro e w5 ⟨rfl, h5, hb5, hs5⟩
                    have HL5 := Lib.hid (hs5 _ _ _ _ HL4.out (by decide) (by decide))
                    have H5 := Lib.hid h5; have HB5 := Lib.hid hb5; have HS5 := Lib.hid hs5
                    clear h5 hb5 hs5 g3 g4
                    have g5 : w5.cell? ⟨wr.heap.size, 5, none⟩ = some (.bool a.little) := by rw [cell_of_row _ _ _ _ _ _ HL5.out]; rfl
                    go_wp2_with fail
                    refine (wbool_any w0.heap.size r (((p' ++ vint a.type.toNat) ++ argW a.val) ++ argW a.size) a.little _ H5.out (by rw [List.length_append, List.length_append, List.length_append]; omega)).mono ?_
                    rintro e w7 ⟨rfl, h7, hb7, hs7⟩
                    go_wp2_with fail
                    go_roundw
                    case rel => exact ⟨k + 1, (((p' ++ vint a.type.toNat) ++ argW a.val) ++ argW a.size) ++ boolW a.little, by omega, by go_num, Lib.hid (by rw [HK.out, HST.out]; simp only [List.append_assoc]), by simp only [List.length_append]; omega, Lib.hid h7, Lib.hid (((((HBk.out.trans (HBA.out.mono (Nat.le_trans HBa.out HBk.out.size))).trans HB3.out).trans HB4.out).trans HB5.out).trans hb7), Lib.hid (((((HSk.out.trans HSA.out).trans HS3.out).trans HS4.out).trans HS5.out).trans hs7)⟩
                    case measure => simp [intOf]; omega
                  · have HZ : Hid (W = p' ++ (opt q64 (vint x.to.toNat) ++ (opt q128 (vint x.live.toNat) ++ ([] : List UInt8)))) := Lib.hid (by rw [HK.out, List.drop_eq_nil_of_le (by omega)]; rfl)
                    go_wp2_with fail
                    go_meet
                    case rel => exact ⟨p', HZ, by omega, HWk, HBk, HSk⟩
            case rest =>
              obtain ⟨p, HP, hpl, HWp, HBp, HSp⟩ := hcut
              have hcR : wc.cell? ⟨R, 0, none⟩ = some (.int .i64 (h : Nat)) := by rw [cell_of_row _ _ _ _ _ _ (HSp.out _ _ _ _ HRa.out (by decide) (by decide))]; rfl
              go_upto_if 149 with fail
              clear hcR
              go_cut [] (fun wx => ∃ p : List UInt8, Hid (W = p ++ (opt q128 (vint x.live.toNat) ++ ([] : List UInt8))) ∧ p.length ≤ l.length + 350110 ∧ Hid (WrAt w0.heap.size r p wx) ∧ Hid (Below w0.heap.size Wa wx) ∧ Hid (Stays Wa wx))
              case first =>
                cases q64 with
                | false =>
                  go_wp2_with fail
                  go_meet
                  case rel => exact ⟨p, Lib.hid (by rw [HP.out]; rfl), by omega, HWp, HBp, HSp⟩
                | true =>
                  have hxc := HX.out.below (HXa.out.trans HBp.out)
                  have k4 := hxc.c4; have hbl2 := hxc.lt
                  clear hxc
                  have hal := vint_len x.to.toNat
                  go_wp2_with (go_at_call 25; refine (wnum_any w0.heap.size r p x.to _ HWp.out HW.out.to0 (Int.le_trans HW.out.to1 (by decide)) (by omega)).mono ?_; rintro e w2 ⟨rfl, h2, hb2, hs2⟩)
                  go_meet
                  case rel => exact ⟨p ++ vint x.to.toNat, Lib.hid (by rw [HP.out, opt_yes]; rw [List.append_assoc]), by (try simp only [List.length_append]); omega, (Lib.hid h2), (Lib.hid (HBp.out.trans hb2)), (Lib.hid (HSp.out.trans hs2))⟩
              case rest =>
                obtain ⟨p, HP, hpl, HWp, HBp, HSp⟩ := hcut
                have hcR : wc.cell? ⟨R, 0, none⟩ = some (.int .i64 (h : Nat)) := by rw [cell_of_row _ _ _ _ _ _ (HSp.out _ _ _ _ HRa.out (by decide) (by decide))]; rfl
                go_upto_if 159 with fail
                clear hcR
                cases q128 with
                | false =>
                  go_wp2_with fail
                  go_end0
                  exact ⟨rfl, by have h := HP.out; rw [opt_no, List.append_nil] at h; rw [HWW.out, h]; exact HWp.out, (HWa.out.mono HBB.out).trans HBp.out, HSa.out.trans HSp.out⟩
                | true =>
                  have hxc := HX.out.below (HXa.out.trans HBp.out)
                  have k6 := hxc.c6; have hbl2 := hxc.lt
                  clear hxc
                  have hal := vint_len x.live.toNat
                  go_wp2_with (go_at_call 25; refine (wnum_any w0.heap.size r p x.live _ HWp.out HW.out.live0 (Int.le_trans HW.out.live1 (by decide)) (by omega)).mono ?_; rintro e w2 ⟨rfl, h2, hb2, hs2⟩)
                  go_end0
                  exact ⟨rfl, by have h := HP.out; rw [opt_yes, List.append_nil] at h; rw [HWW.out, h]; exact (Lib.hid h2).out, (HWa.out.mono HBB.out).trans (Lib.hid (HBp.out.trans hb2)).out, HSa.out.trans (Lib.hid (HSp.out.trans hs2)).out⟩
end Go.Proofs.YtghgbikmlbildaaDoor
