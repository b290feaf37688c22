/-
  PureBuilds: the walk (printed by gen_pbuilds.py). A list of segments that came in (printed by gen_pfopen.py).
-/
import Derived.DataReads
import Derived.Test.YthmpobimmbmddaaGreatDoorB01
import Derived.Test.YthmpobimmbmddaaGreatDoorB05
import Derived.Test.YthmpobimmbmddaaGreatDoorB12
import Derived.Test.YthmpobimmbmddaaGreatDoorB19
import Derived.Test.YthmpobimmbmddaaGreatDoorB24
import Derived.Test.YthmpobimmbmddaaGreatDoorB25
namespace Go.Proofs.YthmpobimmbmddaaGreatDoor
open Go.RowKit
set_option linter.unusedVariables false
set_option linter.unusedSimpArgs false

def BuildsQ (w : World) (e : Ending) (w' : World) : Prop := e = .returned (.bool true) ∧ Below w.heap.size w w'
theorem allB_len {f : Nat} {fs : List Fd} {rs : List (Option (List Bool))} (he : rs = fs.map (fieldV f)) (hy : ∀ x ∈ fs, x.text.size ≤ 5000) : ∀ (k : Nat) (m : List Bool), rs[k]? = some (some m) → m.length ≤ 1099511627776 := fun k m hm => by
  rw [he, List.getElem?_map] at hm
  cases hx : fs[k]? with
  | none => rw [hx] at hm; cases hm
  | some x =>
    rw [hx] at hm
    have := fieldV_len (f := f) (x := x) (m := m) (by simpa using hm) (hy x (List.mem_of_getElem? hx))
    omega
set_option maxRecDepth 100000 in
set_option maxHeartbeats 16000000 in
theorem builds_walk (f : Nat) (fs : List Fd) (ao : Option Addr) (c : Nat) (w : World) (hs : SlAt w 23 (FdR w f) ao fs) (hl : fs.length ≤ maxLen) (hsp : SpaceAt w) :
    Calls Tryz.prog 4 #[.slice ao fs.length c] w (BuildsQ w) := by
  have HSh := Lib.hid (shown_any w hsp)
  have HS := Lib.hid hs
  unfold maxLen at hl
  clear hsp hs
  by_cases h60 : 60 < fs.length
  · have t1 : decide ((60 : Int) < (fs.length : Int)) = true := decide_eq_true (by omega)
    go_in
    go_wp2_with (first | (go_at_call 6; refine HSh.out.mono ?_; rintro e w1 ⟨rfl, hb1⟩) | fail)
    go_ret
    exact ⟨rfl, hb1⟩
  have t1 : decide ((60 : Int) < (fs.length : Int)) = false := decide_eq_false (by omega)
  obtain ⟨i0, hi0, hz0, hz1, hz2⟩ := info_parts infoFd
  have HI0 := Lib.hid hi0; have HZ0 := Lib.hid hz0; have HZ1 := Lib.hid hz1; have HZ2 := Lib.hid hz2
  clear hi0 hz0 hz1 hz2
  go_in
  go_wp2_with (first | (go_at_call 6; refine HSh.out.mono ?_; rintro e w1 ⟨rfl, hb1⟩; have HB1 := Lib.hid hb1; clear hb1) | fail)
  clear t1
  go_loopw [3, 4] (fun ov iv wr => ∃ (k : Nat) (rows : List (Array Value)), k ≤ fs.length ∧ iv = .int .i64 k ∧ Hid (rows.length = k) ∧ Hid (wr.ownsRow w.heap.size 30 23 ov k (cellsF rows)) ∧ Hid (BuiltR wr w f ov.ownBlock ao rows fs) ∧ Hid (Below w.heap.size w wr)) (fun _ iv _ => fs.length - (intOf iv).toNat)
  case atStart => exact ⟨0, [], Nat.zero_le _, rfl, Lib.hid rfl, Lib.hid (World.ownsRow_nil _ _ _ _), Lib.hid (BuiltR.nil _ _ _ _ _ _), HB1⟩
  case round =>
    obtain ⟨k, rows, hk, rfl, HRL, HOW, HBT, HBr⟩ := hrel
    rename World => wr
    by_cases hlt : k < fs.length
    · as_aux_lemma =>
      obtain ⟨b, off, vo, vc, so, sc, R, hao, hb, hRe, hRs, hR1, hRc, it1, it2⟩ := HS.out.fdr hlt
      obtain ⟨_, _, _, _, _, _, -, -, -, -, -, -, -, -, -, -, -, -, -, -, -, -, -, -, -, -, -, -, -, -, -, -, -, i1, i2, i3, i4⟩ := HS.out.fd hlt
      subst hao
      have HXK : Hid (fs[k]? = some fs[k]) := Lib.hid (List.getElem?_eq_getElem hlt)
      generalize fs[k] = x at *
      have HOR : Hid (Orig w (some ⟨b, off, none⟩) k x vo vc so sc) := Lib.hid ⟨b, off, rfl, hb, fun i hi => by rw [hRc i (by rw [hRs]; exact hi), hRe]⟩
      have HW23 : Hid (∀ wx, Below w.heap.size w wx → ∀ i, i < 23 → wx.cell? ⟨b, off + k * 23 + i, none⟩ = (fdRow x vo vc so sc)[i]?) := Lib.hid fun wx hx i hi => by
        rw [hx.cell (p := ⟨b, off + k * 23 + i, none⟩) hb, hRc i (by rw [hRs]; exact hi), hRe]
      have HIT := Lib.hid (And.intro it1 it2)
      have HOK := Lib.hid (And.intro i3 i4)
      have HRE := Lib.hid hRe; have HRS := Lib.hid hRs; have HR1 := Lib.hid hR1
      clear hb hRe hRs hR1 hRc it1 it2 i1 i3 i4
      unfold maxLen at i2
      have tk : (k : Int) < (fs.length : Int) := by omega
      have HDr := Lib.hid (Below.refl wr.heap.size wr).drew
      have HQ1 : Hid (∀ wx, Below wr.heap.size wr wx → wx.cell? ⟨b, off + k * 23 + 1, none⟩ = some (.string x.text)) := Lib.hid fun wx hx => HW23.out _ (below_next HBr.out hx) 1 (by decide)
      have HRV := Lib.hid (fun wx (hx : Below wr.heap.size wr wx) => range_val (HW23.out _ (below_next HBr.out hx)))
      have HRZ := Lib.hid (fun wx (hx : Below wr.heap.size wr wx) => range_size (HW23.out _ (below_next HBr.out hx)))
      go_upto_region 9 with fail
      by_cases h5 : 5000 < x.text.size
      · have t2 : decide ((5000 : Int) < (x.text.size : Int)) = true := decide_eq_true (by omega)
        refine wp_region_P 21 (fun w' => Below wr.heap.size wr w') (fun w' => True) (by kernel_rfl) ⟨HDr.out, trivial⟩ (fun hHeld => ?_)
        refine wpAnyP_lateA 0 hHeld ?_
        simp only [Act.put, List.setIfInBounds_toArray, List.set_cons_zero, List.set_cons_succ, List.getElem_toArray, List.getElem_cons_zero, List.getElem_cons_succ]
        refine wpAnyP_lateA 1 hHeld ?_
        simp only [Act.put, List.setIfInBounds_toArray, List.set_cons_zero, List.set_cons_succ, List.getElem_toArray, List.getElem_cons_zero, List.getElem_cons_succ]
        refine wpAnyP_lateA 2 hHeld ?_
        simp only [Act.put, List.setIfInBounds_toArray, List.set_cons_zero, List.set_cons_succ, List.getElem_toArray, List.getElem_cons_zero, List.getElem_cons_succ]
        refine wpAnyP_lateA 3 hHeld ?_
        simp only [Act.put, List.setIfInBounds_toArray, List.set_cons_zero, List.set_cons_succ, List.getElem_toArray, List.getElem_cons_zero, List.getElem_cons_succ]
        refine wpAnyP_lateA 4 hHeld ?_ (hy := by (refine Or.inl ⟨by rfl, ?_⟩; intro w' hSw; have hq1 := HQ1.out w' hSw; go_simp; try with_reducible rfl))
        simp only [Act.put, List.setIfInBounds_toArray, List.set_cons_zero, List.set_cons_succ, List.getElem_toArray, List.getElem_cons_zero, List.getElem_cons_succ]
        refine wpAnyP_lateA 5 hHeld ?_
        simp only [Act.put, List.setIfInBounds_toArray, List.set_cons_zero, List.set_cons_succ, List.getElem_toArray, List.getElem_cons_zero, List.getElem_cons_succ]
        refine wpAnyP_lateA 6 hHeld ?_
        simp only [Act.put, List.setIfInBounds_toArray, List.set_cons_zero, List.set_cons_succ, List.getElem_toArray, List.getElem_cons_zero, List.getElem_cons_succ]
        refine wpAnyP_lateA 7 hHeld ?_
        simp only [Act.put, List.setIfInBounds_toArray, List.set_cons_zero, List.set_cons_succ, List.getElem_toArray, List.getElem_cons_zero, List.getElem_cons_succ]
        refine wpAnyP_lateA 8 hHeld ?_ (hy := .inr ⟨by rfl, rfl⟩)
        simp only [Act.put, List.setIfInBounds_toArray, List.set_cons_zero, List.set_cons_succ, List.getElem_toArray, List.getElem_cons_zero, List.getElem_cons_succ]
        refine wpAnyP_lateA 9 hHeld ?_ (hy := .inr ⟨by rfl, rfl⟩)
        simp only [Act.put, List.setIfInBounds_toArray, List.set_cons_zero, List.set_cons_succ, List.getElem_toArray, List.getElem_cons_zero, List.getElem_cons_succ]
        refine wpAnyP_lateA 10 hHeld ?_ (hy := .inr ⟨by rfl, rfl⟩)
        simp only [Act.put, List.setIfInBounds_toArray, List.set_cons_zero, List.set_cons_succ, List.getElem_toArray, List.getElem_cons_zero, List.getElem_cons_succ]
        refine wpAnyP_lateA 11 hHeld ?_ (hy := .inr ⟨by rfl, rfl⟩)
        simp only [Act.put, List.setIfInBounds_toArray, List.set_cons_zero, List.set_cons_succ, List.getElem_toArray, List.getElem_cons_zero, List.getElem_cons_succ]
        refine wpAnyP_lateA 12 hHeld ?_ (hy := .inr ⟨by rfl, rfl⟩)
        simp only [Act.put, List.setIfInBounds_toArray, List.set_cons_zero, List.set_cons_succ, List.getElem_toArray, List.getElem_cons_zero, List.getElem_cons_succ]
        refine wpAnyP_lateA 13 hHeld ?_ (hy := .inr ⟨by rfl, rfl⟩)
        simp only [Act.put, List.setIfInBounds_toArray, List.set_cons_zero, List.set_cons_succ, List.getElem_toArray, List.getElem_cons_zero, List.getElem_cons_succ]
        refine wpAnyP_lateA 14 hHeld ?_ (hy := .inr ⟨by rfl, rfl⟩)
        simp only [Act.put, List.setIfInBounds_toArray, List.set_cons_zero, List.set_cons_succ, List.getElem_toArray, List.getElem_cons_zero, List.getElem_cons_succ]
        refine wpAnyP_lateA 15 hHeld ?_ (hy := .inr ⟨by rfl, rfl⟩)
        simp only [Act.put, List.setIfInBounds_toArray, List.set_cons_zero, List.set_cons_succ, List.getElem_toArray, List.getElem_cons_zero, List.getElem_cons_succ]
        refine wpAnyP_lateA 16 hHeld ?_ (hy := .inr ⟨by rfl, rfl⟩)
        simp only [Act.put, List.setIfInBounds_toArray, List.set_cons_zero, List.set_cons_succ, List.getElem_toArray, List.getElem_cons_zero, List.getElem_cons_succ]
        refine wpAnyP_lateA 17 hHeld ?_ (hy := .inr ⟨by rfl, rfl⟩)
        simp only [Act.put, List.setIfInBounds_toArray, List.set_cons_zero, List.set_cons_succ, List.getElem_toArray, List.getElem_cons_zero, List.getElem_cons_succ]
        refine wpAnyP_lateA 18 hHeld ?_ (hy := .inr ⟨by rfl, rfl⟩)
        simp only [Act.put, List.setIfInBounds_toArray, List.set_cons_zero, List.set_cons_succ, List.getElem_toArray, List.getElem_cons_zero, List.getElem_cons_succ]
        refine wpAnyP_lateA 19 hHeld ?_ (hy := .inr ⟨by rfl, rfl⟩)
        simp only [Act.put, List.setIfInBounds_toArray, List.set_cons_zero, List.set_cons_succ, List.getElem_toArray, List.getElem_cons_zero, List.getElem_cons_succ]
        refine wpAnyP_lateA 20 hHeld ?_
        simp only [Act.put, List.setIfInBounds_toArray, List.set_cons_zero, List.set_cons_succ, List.getElem_toArray, List.getElem_cons_zero, List.getElem_cons_succ]
        refine wpAnyP_done (by kernel_rfl) ?_ _
        go_wp2_with fail
        go_ret
        exact ⟨rfl, below_next HBr.out HDr.out⟩
      have t2 : decide ((5000 : Int) < (x.text.size : Int)) = false := decide_eq_false (by omega)
      have hba : Below wr.heap.size wr (wr.drew.alloc (.cells (pairRow x vo vc so sc) 28)) := HDr.out.alloc (Nat.le_refl _) _
      have hpa := pair_at (heap_alloc_new wr.drew (.cells (pairRow x vo vc so sc) 28)) (HIT.out.1.tms (HBr.out.trans (hba.mono HBr.out.size))) (HIT.out.2.tms (HBr.out.trans (hba.mono HBr.out.size))) HOK.out.1 HOK.out.2
      have hgt := great_any (f + 1) _ 2 [x.val, x.size] 3000 _ hpa (by show (2 : Nat) ≤ maxLen; unfold maxLen; decide) (by decide) (by decide)
      have hso : decide (leftF (f + 1) [x.val, x.size] 3000 < 0) = false → SegOk f x := fun h => seg_left hpa (by have := of_decide_eq_false h; omega) (by omega)
      have HBAr := Lib.hid hba
      generalize decide (leftF (f + 1) [x.val, x.size] 3000 < 0) = q at *
      have HGT := Lib.hid hgt; have HSO := Lib.hid hso
      clear hba hpa hgt hso
      refine wp_region_P 21 (fun w' => Below wr.heap.size wr w') (fun w' => True) (by kernel_rfl) ⟨HDr.out, trivial⟩ (fun hHeld => ?_)
      refine wpAnyP_lateA 0 hHeld ?_
      simp only [Act.put, List.setIfInBounds_toArray, List.set_cons_zero, List.set_cons_succ, List.getElem_toArray, List.getElem_cons_zero, List.getElem_cons_succ]
      refine wpAnyP_lateA 1 hHeld ?_
      simp only [Act.put, List.setIfInBounds_toArray, List.set_cons_zero, List.set_cons_succ, List.getElem_toArray, List.getElem_cons_zero, List.getElem_cons_succ]
      refine wpAnyP_lateA 2 hHeld ?_
      simp only [Act.put, List.setIfInBounds_toArray, List.set_cons_zero, List.set_cons_succ, List.getElem_toArray, List.getElem_cons_zero, List.getElem_cons_succ]
      refine wpAnyP_lateA 3 hHeld ?_
      simp only [Act.put, List.setIfInBounds_toArray, List.set_cons_zero, List.set_cons_succ, List.getElem_toArray, List.getElem_cons_zero, List.getElem_cons_succ]
      refine wpAnyP_lateA 4 hHeld ?_ (hy := by (refine Or.inl ⟨by rfl, ?_⟩; intro w' hSw; have hq1 := HQ1.out w' hSw; go_simp; try with_reducible rfl))
      simp only [Act.put, List.setIfInBounds_toArray, List.set_cons_zero, List.set_cons_succ, List.getElem_toArray, List.getElem_cons_zero, List.getElem_cons_succ]
      refine wpAnyP_lateA 5 hHeld ?_
      simp only [Act.put, List.setIfInBounds_toArray, List.set_cons_zero, List.set_cons_succ, List.getElem_toArray, List.getElem_cons_zero, List.getElem_cons_succ]
      refine wpAnyP_lateA 6 hHeld ?_
      simp only [Act.put, List.setIfInBounds_toArray, List.set_cons_zero, List.set_cons_succ, List.getElem_toArray, List.getElem_cons_zero, List.getElem_cons_succ]
      refine wpAnyP_lateA 7 hHeld ?_
      simp only [Act.put, List.setIfInBounds_toArray, List.set_cons_zero, List.set_cons_succ, List.getElem_toArray, List.getElem_cons_zero, List.getElem_cons_succ]
      refine wpAnyP_lateA 8 hHeld ?_
      simp only [Act.put, List.setIfInBounds_toArray, List.set_cons_zero, List.set_cons_succ, List.getElem_toArray, List.getElem_cons_zero, List.getElem_cons_succ]
      refine wpAnyP_lateA 9 hHeld ?_
      simp only [Act.put, List.setIfInBounds_toArray, List.set_cons_zero, List.set_cons_succ, List.getElem_toArray, List.getElem_cons_zero, List.getElem_cons_succ]
      refine wpAnyP_lateA 10 hHeld ?_
      simp only [Act.put, List.setIfInBounds_toArray, List.set_cons_zero, List.set_cons_succ, List.getElem_toArray, List.getElem_cons_zero, List.getElem_cons_succ]
      refine wpAnyP_lateA 11 hHeld ?_
      simp only [Act.put, List.setIfInBounds_toArray, List.set_cons_zero, List.set_cons_succ, List.getElem_toArray, List.getElem_cons_zero, List.getElem_cons_succ]
      refine wpAnyP_lateA 12 hHeld ?_ (hy := yieldsIf_load_mid (by rfl) 28 (.tmp 33) rfl b (off + k * 23 + 2) rfl (tmL x.val vo vc) _ (fun w' h' => HRV.out w' h') Tryz.underlying28 rfl (by kernel_rfl))
      simp only [Act.put, List.setIfInBounds_toArray, List.set_cons_zero, List.set_cons_succ, List.getElem_toArray, List.getElem_cons_zero, List.getElem_cons_succ]
      refine wpAnyP_lateA 13 hHeld ?_
      simp only [Act.put, List.setIfInBounds_toArray, List.set_cons_zero, List.set_cons_succ, List.getElem_toArray, List.getElem_cons_zero, List.getElem_cons_succ]
      refine wpAnyP_lateA 14 hHeld ?_
      simp only [Act.put, List.setIfInBounds_toArray, List.set_cons_zero, List.set_cons_succ, List.getElem_toArray, List.getElem_cons_zero, List.getElem_cons_succ]
      refine wpAnyP_lateA 15 hHeld ?_
      simp only [Act.put, List.setIfInBounds_toArray, List.set_cons_zero, List.set_cons_succ, List.getElem_toArray, List.getElem_cons_zero, List.getElem_cons_succ]
      refine wpAnyP_lateA 16 hHeld ?_
      simp only [Act.put, List.setIfInBounds_toArray, List.set_cons_zero, List.set_cons_succ, List.getElem_toArray, List.getElem_cons_zero, List.getElem_cons_succ]
      refine wpAnyP_lateA 17 hHeld ?_ (hy := yieldsIf_load_mid (by rfl) 28 (.tmp 38) rfl b (off + k * 23 + 11) rfl (tmL x.size so sc) _ (fun w' h' => HRZ.out w' h') Tryz.underlying28 rfl (by kernel_rfl))
      simp only [Act.put, List.setIfInBounds_toArray, List.set_cons_zero, List.set_cons_succ, List.getElem_toArray, List.getElem_cons_zero, List.getElem_cons_succ]
      refine wpAnyP_oneA 18 fun KK hK => ?_
      rw [if_pos (by rfl)]
      refine wp_build_two (.tmp 34) (.tmp 39) rfl (tmL x.val vo vc) (tmL x.size so sc) rfl rfl rfl rfl ?_
      refine hK.out _ _ ⟨HBAr.out, trivial⟩ ?_
      clear hK KK
      try simp only [Act.put, List.setIfInBounds_toArray, List.set_cons_zero, List.set_cons_succ, List.getElem_toArray, List.getElem_cons_zero, List.getElem_cons_succ]
      refine wpAnyP_oneA 19 fun KK hK => ?_
      go_simp
      refine HGT.out.mono ?_
      rintro e w2 ⟨rfl, hb2⟩
      have HDa := Lib.hid (below_next HBAr.out hb2)
      clear hb2
      refine hK.out _ _ ⟨HDa.out, trivial⟩ ?_
      clear hK KK
      try simp only [Act.put, List.setIfInBounds_toArray, List.set_cons_zero, List.set_cons_succ, List.getElem_toArray, List.getElem_cons_zero, List.getElem_cons_succ]
      refine wpAnyP_lateA 20 ⟨HDa.out, trivial⟩ ?_
      simp only [Act.put, List.setIfInBounds_toArray, List.set_cons_zero, List.set_cons_succ, List.getElem_toArray, List.getElem_cons_zero, List.getElem_cons_succ]
      refine wpAnyP_done (by kernel_rfl) ?_ _
      have HB2 := Lib.hid (below_next HBr.out HDa.out)
      have HB2r := Lib.hid HDa.out
      clear t2 tk HGT HBAr HRV HRZ HQ1 hHeld HDr h5 HDa
      cases q with
      | true =>
        go_wp2_with fail
        go_ret
        exact ⟨rfl, HB2.out⟩
      | false =>
      have HSEG := Lib.hid (HSO.out rfl)
      clear HSO
      go_upto_region 11 with fail
      have hnew := heap_alloc_new w2 (.cells zRow23 30)
      have hbox := setRow_heap (w2.alloc (.cells zRow23 30)) w2.heap.size zRow23 R _ _ hnew
      have hbA := below_setRow ((Below.refl w2.heap.size w2).alloc (Nat.le_refl _) (.cells zRow23 30)) (Nat.le_refl _) R
      have hi23 : (Tryz.prog.info? 30).map (·.size) = some R.size := by rw [HRS.out]; kernel_rfl
      have hzs : zRow23.size = R.size := by rw [HRS.out]; rfl
      have hrc : ∀ j, j < R.size → w2.cell? ⟨b, off + k * 23 + j, none⟩ = R[j]? := fun j hj => by rw [HW23.out _ HB2.out j (by rw [← HRS.out]; exact hj), HRE.out]
      have HNEW := Lib.hid hnew; have HBOX := Lib.hid hbox; have HBA := Lib.hid hbA; have HI := Lib.hid hi23; have HZS := Lib.hid hzs; have HRC := Lib.hid hrc
      clear hnew hbox hbA hi23 hzs hrc
      go_upto_region 12 with (first | (refine wpList_load_at rfl 30 _ rfl b (off + k * 23) rfl R HRC.out _ Tryz.underlying30 HI.out ?_) | (refine wpList_store_row rfl 30 _ _ rfl w2.heap.size R rfl rfl 30 _ HNEW.out HI.out HZS.out HR1.out ?_) | fail)
      generalize hwA : (w2.alloc (.cells zRow23 30)).setRow w2.heap.size R = wA at *
      clear hwA HNEW HZS HRC HI
      rw [HRE.out] at HBOX
      have HW2 := Lib.hid (HB2.out.size)
      have HWR2 := Lib.hid (HB2r.out.size)
      have HBAw := Lib.hid (below_next HB2.out HBA.out)
      have HBAr := Lib.hid (below_next HB2r.out HBA.out)
      generalize hN : w2.heap.size = N at *
      clear hN
      have HL1 : Hid (∀ wx, Below w.heap.size w wx → _) := Lib.hid (fun wx hx => lend_any f x.val vo vc w wx hx HIT.out.1 HOK.out.1 HSEG.out.2.1)
      have HL2 : Hid (∀ wx, Below w.heap.size w wx → _) := Lib.hid (fun wx hx => lend_any f x.size so sc w wx hx HIT.out.2 HOK.out.2 HSEG.out.2.2)
      have hD0 := HBAw.out.drew
      have HD0 := Lib.hid hD0
      have hbxd : (wA.drew).heap[N]? = some (.cells (fdRow x vo vc so sc) 30 (0, 0)) := HBOX.out
      have HBXD := Lib.hid hbxd
      have hNlt := lt_of_row HBOX.out
      have HNL := Lib.hid hNlt
      clear hD0 hbxd hNlt
      refine wp_region_P 5 (fun w' => True) (fun w' => w'.heap[N]? = some (.cells (fdRow x vo vc so sc) 30 (0, 0))) (by kernel_rfl) ⟨trivial, HBXD.out⟩ (fun hHeld => ?_)
      refine wpAnyP_lateA 0 hHeld ?_
      simp only [Act.put, List.setIfInBounds_toArray, List.set_cons_zero, List.set_cons_succ, List.getElem_toArray, List.getElem_cons_zero, List.getElem_cons_succ]
      refine wpAnyP_earlyA [2] 1 hHeld ?_ (hy := yieldsIf_load_mid (by rfl) 28 (.tmp 47) rfl N 2 rfl (tmL x.val vo vc) _ (fun w' h' => range_val (o := 0) (row_range h'.2)) Tryz.underlying28 rfl (by kernel_rfl))
      simp only [Act.put, List.setIfInBounds_toArray, List.set_cons_zero, List.set_cons_succ, List.getElem_toArray, List.getElem_cons_zero, List.getElem_cons_succ]
      refine wpAnyP_lateA 3 hHeld ?_
      simp only [Act.put, List.setIfInBounds_toArray, List.set_cons_zero, List.set_cons_succ, List.getElem_toArray, List.getElem_cons_zero, List.getElem_cons_succ]
      refine wpAnyP_earlyA [] 4 hHeld ?_ (hy := yieldsIf_load_mid (by rfl) 28 (.tmp 50) rfl N 11 rfl (tmL x.size so sc) _ (fun w' h' => range_size (o := 0) (row_range h'.2)) Tryz.underlying28 rfl (by kernel_rfl))
      simp only [Act.put, List.setIfInBounds_toArray, List.set_cons_zero, List.set_cons_succ, List.getElem_toArray, List.getElem_cons_zero, List.getElem_cons_succ]
      refine wpAnyP_oneA 2 fun KK hK => ?_
      go_simp
      refine (HL1.out _ HD0.out).mono ?_
      rintro e w4 ⟨⟨vo1, vc1, rfl, hl1⟩, hb4⟩
      have HLA := Lib.hid hl1
      have HD1 := Lib.hid (HD0.out.trans (hb4.mono HD0.out.size))
      have HBX4 : Hid (w4.heap[N]? = some (.cells (fdRow x vo vc so sc) 30 (0, 0))) := Lib.hid ((hb4.block _ HNL.out).trans HBXD.out)
      have HB4 : Hid (Below wA.heap.size wA w4) := Lib.hid ((Below.refl _ _).drew.trans hb4)
      clear hl1 hb4
      refine hK.out _ _ ⟨trivial, HBX4.out⟩ ?_
      clear hK KK
      try simp only [Act.put, List.setIfInBounds_toArray, List.set_cons_zero, List.set_cons_succ, List.getElem_toArray, List.getElem_cons_zero, List.getElem_cons_succ]
      refine wpAnyP_lateA 6 ⟨trivial, HBX4.out⟩ ?_
      simp only [Act.put, List.setIfInBounds_toArray, List.set_cons_zero, List.set_cons_succ, List.getElem_toArray, List.getElem_cons_zero, List.getElem_cons_succ]
      refine wpAnyP_endA 5 fun KK hK => ?_
      go_simp
      refine (HL2.out _ HD1.out).mono ?_
      rintro e w5 ⟨⟨so1, sc1, rfl, hl2⟩, hb5⟩
      have HLB := Lib.hid hl2
      have HBX5 : Hid (w5.heap[N]? = some (.cells (fdRow x vo vc so sc) 30 (0, 0))) := Lib.hid ((hb5.block _ (lt_of_row HBX4.out)).trans HBX4.out)
      have HB5 := Lib.hid hb5
      clear hl2 hb5
      refine hK.out _ _ trivial ?_
      clear hK KK
      try simp only [Act.put, List.setIfInBounds_toArray, List.set_cons_zero, List.set_cons_succ, List.getElem_toArray, List.getElem_cons_zero, List.getElem_cons_succ]
      refine wpAnyP_endA 7 fun KK hK => ?_
      rw [if_pos (by rfl)]
      refine wp_store_at 28 (.tmp 53) (.tmp 49) rfl N 2 rfl (tmL x.val vo1 vc1).toArray rfl 30 (fdRow x vo vc so sc) (fdRow x vo1 vc1 so sc) HBX5.out (by kernel_rfl) (by show 2 + 9 ≤ 23; decide) (by simp [Value.oneCell']) rfl ?_
      refine hK.out _ _ trivial ?_
      clear hK KK
      try simp only [Act.put, List.setIfInBounds_toArray, List.set_cons_zero, List.set_cons_succ, List.getElem_toArray, List.getElem_cons_zero, List.getElem_cons_succ]
      have HBX6 : Hid ((w5.setRow N (fdRow x vo1 vc1 so sc)).heap[N]? = some (.cells (fdRow x vo1 vc1 so sc) 30 (0, 0))) := Lib.hid (setRow_heap _ _ _ _ _ _ HBX5.out)
      refine wpAnyP_endA 8 fun KK hK => ?_
      go_simp
      refine hK.out _ _ trivial ?_
      clear hK KK
      try simp only [Act.put, List.setIfInBounds_toArray, List.set_cons_zero, List.set_cons_succ, List.getElem_toArray, List.getElem_cons_zero, List.getElem_cons_succ]
      refine wpAnyP_endA 9 fun KK hK => ?_
      rw [if_pos (by rfl)]
      refine wp_store_at 28 (.tmp 54) (.tmp 52) rfl N 11 rfl (tmL x.size so1 sc1).toArray rfl 30 (fdRow x vo1 vc1 so sc) (fdRow x vo1 vc1 so1 sc1) HBX6.out (by kernel_rfl) (by show 11 + 9 ≤ 23; decide) (by simp [Value.oneCell']) rfl ?_
      refine hK.out _ _ trivial ?_
      clear hK KK
      try simp only [Act.put, List.setIfInBounds_toArray, List.set_cons_zero, List.set_cons_succ, List.getElem_toArray, List.getElem_cons_zero, List.getElem_cons_succ]
      refine wpAnyP_done (by kernel_rfl) ?_ _
      have hbC : Below wA.heap.size wA ((w5.setRow N (fdRow x vo1 vc1 so sc)).setRow N (fdRow x vo1 vc1 so1 sc1)) ∨ True := .inr trivial
      clear hbC
      have hNr : wr.heap.size ≤ N := HWR2.out
      have hNw : w.heap.size ≤ N := HW2.out
      have hcr : Below wr.heap.size wr ((w5.setRow N (fdRow x vo1 vc1 so sc)).setRow N (fdRow x vo1 vc1 so1 sc1)) := below_setRow (below_setRow (below_next (below_next HBAr.out HB4.out) HB5.out) hNr _) hNr _
      have hcw : Below w.heap.size w ((w5.setRow N (fdRow x vo1 vc1 so sc)).setRow N (fdRow x vo1 vc1 so1 sc1)) := HBr.out.trans (hcr.mono HBr.out.size)
      have hla := ((HLA.out.below HB5.out (Nat.le_refl _) (Nat.le_trans HD0.out.size (HB4.out.size))).row (fdRow x vo1 vc1 so sc) HNL.out hNw).row (fdRow x vo1 vc1 so1 sc1) HNL.out hNw
      have hlb := (HLB.out.row (fdRow x vo1 vc1 so sc) (lt_of_row HBX4.out) hNw).row (fdRow x vo1 vc1 so1 sc1) (lt_of_row HBX4.out) hNw
      have hbx : ((w5.setRow N (fdRow x vo1 vc1 so sc)).setRow N (fdRow x vo1 vc1 so1 sc1)).heap[N]? = some (.cells (fdRow x vo1 vc1 so1 sc1) 30 (0, 0)) := setRow_heap _ _ _ _ _ _ HBX6.out
      have hsC : ((w5.setRow N (fdRow x vo1 vc1 so sc)).setRow N (fdRow x vo1 vc1 so1 sc1)).heap.size = w5.heap.size := by simp [World.setRow]
      have HLF : Hid (LentF ((w5.setRow N (fdRow x vo1 vc1 so sc)).setRow N (fdRow x vo1 vc1 so1 sc1)) w.heap.size f u3.ownBlock (fdRow x vo1 vc1 so1 sc1) vo so x) := Lib.hid (lentF_new (w0 := w) HOW.out (Nat.le_refl _) hla hlb (Nat.le_of_lt (Nat.lt_of_le_of_lt hNr HNL.out)) (Nat.le_trans (Nat.le_of_lt (Nat.lt_of_le_of_lt hNr HNL.out)) HB4.out.size) (by rw [hsC]; exact HB5.out.size) (by rw [hsC]; exact Nat.le_refl _))
      have HCR := Lib.hid hcr; have HCW := Lib.hid hcw; have HBX := Lib.hid hbx
      clear hla hlb hbx hcw hcr HLA HLB HBX4 HBX5 HBX6 HB4 HB5 HD0 HD1 HBXD HL1 HL2 hHeld HBOX HBA hsC HBAw HBAr
      generalize hwC : (w5.setRow N (fdRow x vo1 vc1 so sc)).setRow N (fdRow x vo1 vc1 so1 sc1) = wC at *
      clear hwC
      obtain ⟨R2, hR2⟩ : ∃ R2, R2 = fdRow x vo1 vc1 so1 sc1 := ⟨_, rfl⟩
      have HR2s : Hid (R2.size = 23) := Lib.hid (by rw [hR2]; rfl)
      have HR2o : Hid (∀ u ∈ R2.toList, u.oneCell' = true) := Lib.hid (by rw [hR2]; simp [Value.oneCell'])
      have HI2 : Hid ((Tryz.prog.info? 30).map (·.size) = some R2.size) := Lib.hid (by rw [HR2s.out]; kernel_rfl)
      rw [← hR2] at HLF HBX
      clear hR2
      have hca : Below wr.heap.size wr (wC.alloc (.cells R2 30)) := HCR.out.alloc HCR.out.size _
      have HOC := Lib.hid (HOW.out.kept (row := none) (grownBy_below hca none) (by cases u3.ownBlock <;> simp))
      have hBT := HBT.out.kept (o' := u3.ownBlock) HBr.out.size hca.size (fun q h1 _ => hca.block q h1) (.inl rfl)
      have hsn := hBT.snoc HR2s.out (x := x) (by rw [HRL.out]; exact HXK.out) (by rw [HRL.out]; exact HOR.out) (HLF.out.kept HCW.out.size (by simp) (fun q h1 _ => Below.heap_alloc _ _ _ h1) (.inl rfl)) HSEG.out
      have HSN := Lib.hid hsn; have HCA := Lib.hid hca
      have hszC := HCW.out.size
      have HSZC := Lib.hid hszC
      clear hca hBT hsn hszC HRE HRS HR1
      go_wp2_with (first
        | (refine wpList_load_row rfl 30 _ rfl N rfl 30 R2 _ _ HBX.out Tryz.underlying30 rfl HI2.out ?_)
        | (refine wpList_build_fd rfl _ rfl R2 HR2s.out rfl ?_)
        | (at_builtin; refine wpList_append_lies _ rfl (.tmp 55) (.tmp 57) 25 rfl w.heap.size 30 i0 _ 23 256 Tryz.underlying25 HI0.out HZ0.out HZ1.out HZ2.out rfl (by decide) _ k (cellsF rows) rfl HOC.out ⟨wC.heap.size, 0, none⟩ 1 1 R2.toList rfl (by rw [Array.length_toList, HR2s.out]) (World.news_of_block (heap_alloc_new _ _)) HR2o.out (by decide) (by unfold maxLen; omega) (by omega) (by simp; have := HSZC.out; omega) _ rfl ?_; intro g cap w6 ho6 hg6 hat6 hlt6)
        | fail)
      have hb6 : Below w.heap.size w w6 := (HBr.out.trans (HCA.out.mono HBr.out.size)).grown hg6 (Nat.le_trans HBr.out.size HCA.out.size) (fun q hq => (HOW.out.lt q hq).1)
      have hbt6 : BuiltR w6 w f (some g) (some ⟨b, off, none⟩) (rows ++ [R2]) fs := HSN.out.kept (Nat.le_trans HBr.out.size HCA.out.size) hg6.size (fun q h1 h2 => hg6.block q h1 (fun e => h2 e.symm)) (by
        rcases hat6 with h | h
        · exact .inl h.symm
        · exact .inr fun q e => by obtain rfl := Option.some.inj e; rw [h]; exact Nat.le_refl _)
      have HB6 := Lib.hid hb6; have HBT6 := Lib.hid hbt6
      have HO6 : Hid (w6.ownsRow w.heap.size 30 23 (.slice (some ⟨g, 0, none⟩) (k + 1) cap) (k + 1) (cellsF (rows ++ [R2]))) := Lib.hid (by rw [cellsF_snoc]; exact ho6)
      have HRL6 : Hid ((rows ++ [R2]).length = k + 1) := Lib.hid (by rw [List.length_append, HRL.out]; rfl)
      clear hb6 hbt6 ho6 hg6 hat6
      go_wp2_with fail
      go_roundw
      case rel => exact ⟨k + 1, rows ++ [R2], by omega, by go_num, HRL6, HO6, HBT6, HB6⟩
      case measure => simp [intOf]; omega
    · obtain rfl : k = fs.length := by omega
      as_aux_lemma =>
      have HL : Hid (rows.length = fs.length) := HRL
      have HTX : Hid (∀ x ∈ fs, x.text.size ≤ 5000 ∧ capF (f + 1) x.val ≤ 1000000 ∧ capF (f + 1) x.size ≤ 1000000) := Lib.hid fun x hx => by
        obtain ⟨j, hj⟩ := List.getElem?_of_mem hx
        have hjl := (List.getElem?_eq_some_iff.1 hj).1
        exact (HBT.out.2 j _ x (List.getElem?_eq_getElem (by rw [HL.out]; exact hjl)) hj).2
      have HOK : Hid (∀ x ∈ fs, I64 x.type ∧ x.text.size ≤ maxLen ∧ x.val.Ok ∧ x.size.Ok) := Lib.hid fun x hx => by
        obtain ⟨j, hj, rfl⟩ := List.getElem_of_mem hx
        obtain ⟨_, _, _, _, hr⟩ := HS.out.row hj
        obtain ⟨cs, _, _, h⟩ := hr j hj
        exact h.2
      have HOR := Lib.hid (show wr.ownsRow w.heap.size 30 23 u3 rows.length (cellsF rows) by rw [HL.out]; exact HOW.out)
      obtain ⟨ao', c', hu3, hsl⟩ := built_fds HOR.out HL.out HBT.out HOK.out
      subst hu3
      obtain ⟨k1, i1, g1, a1, b1, k2, i2, g2, a2, b2, n1, f1, y1, cl, n2, f2, y2, key⟩ := bitsq_flat (allB (fs.map (fieldV f)))
      have hcap : ∀ x ∈ fs, (capF (f + 1) x.val : Int) ≤ 1152921504606846976 ∧ (capF (f + 1) x.size : Int) ≤ 1152921504606846976 := fun x hx => by have := HTX.out x hx; omega
      have HP := Lib.hid ((pbits_any f fs (fs.map (fieldV f)) ao' c' wr hsl (by omega) (by simp) (fun j h1 h2 => by
        rw [List.getElem_map]
        have hm := List.getElem_mem h1
        exact pfield_any f _ (by have := HTX.out _ hm; omega) (HOK.out _ hm).2.2.1 (HOK.out _ hm).2.2.2 (hcap _ hm).1 (hcap _ hm).2) (allB_len (f := f) rfl (fun x hx => (HTX.out x hx).1))).mono (key wr))
      have HQ : Hid (∀ wx, Below w.heap.size w wx → _) := Lib.hid (fun wx hx => (refbits_any f fs (fs.map (fieldV f)) ao c wx (HS.out.mono hx (fun _ _ h => h.below hx)) (by omega) (by simp) (fun j h1 h2 vo so vc sc w2 q1 q2 => by
        rw [List.getElem_map]
        have hm := List.getElem_mem h1
        exact rfield_any f _ vo vc so sc w2 (by have := HTX.out _ hm; omega) q1 q2 (HOK.out _ hm).2.2.1 (HOK.out _ hm).2.2.2 (hcap _ hm).1 (hcap _ hm).2) (allB_len (f := f) rfl (fun x hx => (HTX.out x hx).1))).mono (key wx))
      clear hcap key hsl
      go_upto_region 15 with (first | (go_at_call 11; refine HP.out.mono ?_; rintro e w2 ⟨rfl, hb2⟩) | fail)
      obtain ⟨e0, e1, eb, es⟩ := new_two w2 (.cells #[.int .i64 k1, .int .i64 i1, .int .i64 g1, .string n1, .string f1, .int .i64 a1, .slice none 0 0, .string y1, .int .i64 b1] 28) (.cells #[.string cl, .int .i64 k2, .int .i64 i2, .int .i64 g2, .string n2, .string f2, .int .i64 a2, .slice none 0 0, .string y2, .int .i64 b2] 34)
      have HE0 := Lib.hid e0; have HE1 := Lib.hid e1
      have HB2 := Lib.hid (below_next (below_next HBr.out hb2) eb)
      have HB2r := Lib.hid (below_next hb2 eb)
      generalize hw3 : (w2.alloc (.cells #[.int .i64 k1, .int .i64 i1, .int .i64 g1, .string n1, .string f1, .int .i64 a1, .slice none 0 0, .string y1, .int .i64 b1] 28)).alloc (.cells #[.string cl, .int .i64 k2, .int .i64 i2, .int .i64 g2, .string n2, .string f2, .int .i64 a2, .slice none 0 0, .string y2, .int .i64 b2] 34) = w3 at *
      generalize w2.heap.size = A at *
      clear e0 e1 eb es hb2 HP hw3
      go_upto_region 16 with (first | (go_at_call 12; refine (HQ.out _ HB2.out).mono ?_; rintro e w4 ⟨rfl, hb4⟩) | fail)
      obtain ⟨e0, e1, eb, es⟩ := new_two w4 (.cells #[.int .i64 k1, .int .i64 i1, .int .i64 g1, .string n1, .string f1, .int .i64 a1, .slice none 0 0, .string y1, .int .i64 b1] 28) (.cells #[.string cl, .int .i64 k2, .int .i64 i2, .int .i64 g2, .string n2, .string f2, .int .i64 a2, .slice none 0 0, .string y2, .int .i64 b2] 34)
      have hB5 := below_next hb4 eb
      have HF0 := Lib.hid ((hB5.block _ (lt_of_row HE0.out)).trans HE0.out); have HF1 := Lib.hid ((hB5.block _ (lt_of_row HE1.out)).trans HE1.out)
      have HF2 := Lib.hid e0; have HF3 := Lib.hid e1
      have HB5 := Lib.hid (below_next HB2.out hB5)
      have HB5r := Lib.hid (below_next HB2r.out hB5)
      generalize hw5 : (w4.alloc (.cells #[.int .i64 k1, .int .i64 i1, .int .i64 g1, .string n1, .string f1, .int .i64 a1, .slice none 0 0, .string y1, .int .i64 b1] 28)).alloc (.cells #[.string cl, .int .i64 k2, .int .i64 i2, .int .i64 g2, .string n2, .string f2, .int .i64 a2, .slice none 0 0, .string y2, .int .i64 b2] 34) = w5 at *
      generalize w4.heap.size = C at *
      clear e0 e1 eb es hb4 hB5 HQ hw5 HE0 HE1 HB2 HB2r
      have HSM := Lib.hid (fun wx => same_flat k1 i1 g1 a1 b1 n1 f1 y1 none none 0 0 wx)
      have HSX := Lib.hid (fun wx => sameexc_flat cl k2 i2 g2 a2 b2 n2 f2 y2 none none 0 0 wx)
      have HX1 : Hid (∀ wx, Below w5.heap.size w5 wx → ExcCells wx (A + 1) cl k2 i2 g2 a2 b2 n2 f2 y2) := Lib.hid fun wx hx => ten_exc ((hx.block _ (lt_of_row HF1.out)).trans HF1.out)
      have HX3 : Hid (∀ wx, Below w5.heap.size w5 wx → ExcCells wx (C + 1) cl k2 i2 g2 a2 b2 n2 f2 y2) := Lib.hid fun wx hx => ten_exc ((hx.block _ (lt_of_row HF3.out)).trans HF3.out)
      go_wp2_with (first
        | (refine wpList_load_row rfl 28 _ rfl A rfl 28 _ _ _ HF0.out Tryz.underlying28 rfl (by kernel_rfl) ?_)
        | (refine wpList_load_row rfl 28 _ rfl C rfl 28 _ _ _ HF2.out Tryz.underlying28 rfl (by kernel_rfl) ?_)
        | (go_at_call 13; refine (HSM.out _).mono ?_; rintro e w6 ⟨rfl, hb6⟩; obtain ⟨x0, x1, x2, x3, x4, x5, x6, x7, x8, x9⟩ := HX1.out _ hb6; obtain ⟨z0, z1, z2, z3, z4, z5, z6, z7, z8, z9⟩ := HX3.out _ hb6)
        | (go_at_call 14; refine (HSX.out _).mono ?_; rintro e w7 ⟨rfl, hb7⟩; clear x0 x1 x2 x3 x4 x5 x6 x7 x8 x9 z0 z1 z2 z3 z4 z5 z6 z7 z8 z9)
        | fail)
      have HB7 := Lib.hid (below_next (below_next HB5.out hb6) hb7)
      have HB7r := Lib.hid (below_next (below_next HB5r.out hb6) hb7)
      have hbt7 := HBT.out.below HBr.out.size HB7r.out
      have HBT7 := Lib.hid hbt7
      have HG : Hid (0 < fs.length → ∃ g, ao' = some ⟨g, 0, none⟩ ∧ g < w7.heap.size ∧ ∀ j r, rows[j]? = some r → ∀ i, i < 23 → w7.cell? ⟨g, j * 23 + i, none⟩ = r[i]?) := Lib.hid fun h0 => by
        obtain ⟨g, cap, e, hg, hc⟩ := owns_rows HOR.out HBT.out.1 (by rw [HL.out]; exact h0)
        have e1 := (Value.slice.inj e).1
        exact ⟨g, e1, Nat.lt_of_lt_of_le hg HB7r.out.size, fun j r hj i hi => (HB7r.out.cell (p := ⟨g, j * 23 + i, none⟩) hg).trans (hc j r hj i hi)⟩
      clear hb6 hb7 hbt7 HF0 HF1 HF2 HF3 HX1 HX3 HSM HSX HB5 HB5r HB7r HOW HOR
      go_loopw [10] (fun iv wq => ∃ k : Nat, k ≤ fs.length ∧ iv = .int .i64 k ∧ Hid (Below w7.heap.size w7 wq)) (fun iv _ => fs.length - (intOf iv).toNat)
      case atStart => exact ⟨0, Nat.zero_le _, rfl, Lib.hid (Below.refl _ _)⟩
      case round =>
        obtain ⟨k, hk, rfl, HBq⟩ := hrel
        rename World => wq
        by_cases hlt : k < fs.length
        · obtain ⟨g, rfl, hg, hgc⟩ := HG.out (by omega)
          have hkr : k < rows.length := by rw [HL.out]; exact hlt
          obtain ⟨⟨vo0, vc0, so0, sc0, ⟨b, off, rfl, hb, hoc⟩, vo, vc, so, sc, l1, h1, l2, h2, hrow, hla, hlb, hh1, hh2, -⟩, hseg⟩ := HBT7.out.2 k _ _ (List.getElem?_eq_getElem hkr) (List.getElem?_eq_getElem hlt)
          have hgc' := hgc k _ (List.getElem?_eq_getElem hkr)
          rw [hrow] at hgc'
          generalize fs[k] = x at *
          have HKV : Hid (∀ wx, Below wq.heap.size wq wx → _) := Lib.hid (fun wx hx => kept_any f w.heap.size l1 h1 x.val vo vo0 vc vc0 wx (hla.below (below_next HBq.out hx) hh1 HB7.out.size) hseg.2.1 (Nat.le_trans hh1 (below_next HBq.out hx).size) (Nat.le_trans HB7.out.size (below_next HBq.out hx).size))
          have HKS : Hid (∀ wx, Below wq.heap.size wq wx → _) := Lib.hid (fun wx hx => kept_any f w.heap.size l2 h2 x.size so so0 sc sc0 wx (hlb.below (below_next HBq.out hx) hh2 HB7.out.size) hseg.2.2 (Nat.le_trans hh2 (below_next HBq.out hx).size) (Nat.le_trans HB7.out.size (below_next HBq.out hx).size))
          have hown : ∀ wx, Below wq.heap.size wq wx → ∀ i, i < 23 → wx.cell? ⟨g, k * 23 + i, none⟩ = (fdRow x vo vc so sc)[i]? := fun wx hx i hi => ((below_next HBq.out hx).cell (p := ⟨g, k * 23 + i, none⟩) hg).trans (hgc' i hi)
          have horg : ∀ wx, Below wq.heap.size wq wx → ∀ i, i < 23 → wx.cell? ⟨b, off + k * 23 + i, none⟩ = (fdRow x vo0 vc0 so0 sc0)[i]? := fun wx hx i hi => ((HB7.out.trans ((below_next HBq.out hx).mono HB7.out.size)).cell (p := ⟨b, off + k * 23 + i, none⟩) hb).trans (hoc i hi)
          have HRV := Lib.hid (fun wx hx => range_val (hown wx hx)); have HRS := Lib.hid (fun wx hx => range_size (hown wx hx))
          have HOV := Lib.hid (fun wx hx => range_val (horg wx hx)); have HOS := Lib.hid (fun wx hx => range_size (horg wx hx))
          have HDq := Lib.hid (Below.refl wq.heap.size wq).drew
          clear hown horg hla hlb hh1 hh2 hseg hrow hgc hgc' hoc hb hg hkr
          go_upto_region 21 with fail
          refine wp_region_P 26 (fun w' => Below wq.heap.size wq w') (fun w' => True) (by kernel_rfl) ⟨HDq.out, trivial⟩ (fun hHeld => ?_)
          refine wpAnyP_lateA 0 hHeld ?_
          simp only [Act.put, List.setIfInBounds_toArray, List.set_cons_zero, List.set_cons_succ, List.getElem_toArray, List.getElem_cons_zero, List.getElem_cons_succ]
          refine wpAnyP_lateA 1 hHeld ?_
          simp only [Act.put, List.setIfInBounds_toArray, List.set_cons_zero, List.set_cons_succ, List.getElem_toArray, List.getElem_cons_zero, List.getElem_cons_succ]
          refine wpAnyP_lateA 2 hHeld ?_
          simp only [Act.put, List.setIfInBounds_toArray, List.set_cons_zero, List.set_cons_succ, List.getElem_toArray, List.getElem_cons_zero, List.getElem_cons_succ]
          refine wpAnyP_lateA 3 hHeld ?_
          simp only [Act.put, List.setIfInBounds_toArray, List.set_cons_zero, List.set_cons_succ, List.getElem_toArray, List.getElem_cons_zero, List.getElem_cons_succ]
          refine wpAnyP_lateA 4 hHeld ?_ (hy := yieldsIf_load_mid (by rfl) 28 (.tmp 88) rfl g (k * 23 + 2) rfl (tmL x.val vo vc) _ (fun w' h' => HRV.out w' h') Tryz.underlying28 rfl (by kernel_rfl))
          simp only [Act.put, List.setIfInBounds_toArray, List.set_cons_zero, List.set_cons_succ, List.getElem_toArray, List.getElem_cons_zero, List.getElem_cons_succ]
          refine wpAnyP_lateA 5 hHeld ?_
          simp only [Act.put, List.setIfInBounds_toArray, List.set_cons_zero, List.set_cons_succ, List.getElem_toArray, List.getElem_cons_zero, List.getElem_cons_succ]
          refine wpAnyP_lateA 6 hHeld ?_
          simp only [Act.put, List.setIfInBounds_toArray, List.set_cons_zero, List.set_cons_succ, List.getElem_toArray, List.getElem_cons_zero, List.getElem_cons_succ]
          refine wpAnyP_lateA 7 hHeld ?_
          simp only [Act.put, List.setIfInBounds_toArray, List.set_cons_zero, List.set_cons_succ, List.getElem_toArray, List.getElem_cons_zero, List.getElem_cons_succ]
          refine wpAnyP_lateA 8 hHeld ?_
          simp only [Act.put, List.setIfInBounds_toArray, List.set_cons_zero, List.set_cons_succ, List.getElem_toArray, List.getElem_cons_zero, List.getElem_cons_succ]
          refine wpAnyP_lateA 9 hHeld ?_ (hy := yieldsIf_load_mid (by rfl) 28 (.tmp 93) rfl b (off + k * 23 + 2) rfl (tmL x.val vo0 vc0) _ (fun w' h' => HOV.out w' h') Tryz.underlying28 rfl (by kernel_rfl))
          simp only [Act.put, List.setIfInBounds_toArray, List.set_cons_zero, List.set_cons_succ, List.getElem_toArray, List.getElem_cons_zero, List.getElem_cons_succ]
          refine wpAnyP_oneA 10 fun KK hK => ?_
          go_simp
          refine (HKV.out _ HDq.out).mono ?_
          rintro e w8 ⟨rfl, hb8⟩
          have HDa := Lib.hid (below_next HDq.out hb8)
          clear hb8
          refine hK.out _ _ ⟨HDa.out, trivial⟩ ?_
          clear hK KK
          try simp only [Act.put, List.setIfInBounds_toArray, List.set_cons_zero, List.set_cons_succ, List.getElem_toArray, List.getElem_cons_zero, List.getElem_cons_succ]
          refine wpAnyP_lateA 11 ⟨HDa.out, trivial⟩ ?_
          simp only [Act.put, List.setIfInBounds_toArray, List.set_cons_zero, List.set_cons_succ, List.getElem_toArray, List.getElem_cons_zero, List.getElem_cons_succ]
          refine wpAnyP_lateA 12 ⟨HDa.out, trivial⟩ ?_
          simp only [Act.put, List.setIfInBounds_toArray, List.set_cons_zero, List.set_cons_succ, List.getElem_toArray, List.getElem_cons_zero, List.getElem_cons_succ]
          refine wpAnyP_lateA 13 ⟨HDa.out, trivial⟩ ?_
          simp only [Act.put, List.setIfInBounds_toArray, List.set_cons_zero, List.set_cons_succ, List.getElem_toArray, List.getElem_cons_zero, List.getElem_cons_succ]
          refine wpAnyP_lateA 14 ⟨HDa.out, trivial⟩ ?_
          simp only [Act.put, List.setIfInBounds_toArray, List.set_cons_zero, List.set_cons_succ, List.getElem_toArray, List.getElem_cons_zero, List.getElem_cons_succ]
          refine wpAnyP_lateA 15 ⟨HDa.out, trivial⟩ ?_
          simp only [Act.put, List.setIfInBounds_toArray, List.set_cons_zero, List.set_cons_succ, List.getElem_toArray, List.getElem_cons_zero, List.getElem_cons_succ]
          refine wpAnyP_lateA 16 ⟨HDa.out, trivial⟩ ?_
          simp only [Act.put, List.setIfInBounds_toArray, List.set_cons_zero, List.set_cons_succ, List.getElem_toArray, List.getElem_cons_zero, List.getElem_cons_succ]
          refine wpAnyP_lateA 17 ⟨HDa.out, trivial⟩ ?_ (hy := yieldsIf_load_mid (by rfl) 28 (.tmp 101) rfl g (k * 23 + 11) rfl (tmL x.size so sc) _ (fun w' h' => HRS.out w' h') Tryz.underlying28 rfl (by kernel_rfl))
          simp only [Act.put, List.setIfInBounds_toArray, List.set_cons_zero, List.set_cons_succ, List.getElem_toArray, List.getElem_cons_zero, List.getElem_cons_succ]
          refine wpAnyP_lateA 18 ⟨HDa.out, trivial⟩ ?_
          simp only [Act.put, List.setIfInBounds_toArray, List.set_cons_zero, List.set_cons_succ, List.getElem_toArray, List.getElem_cons_zero, List.getElem_cons_succ]
          refine wpAnyP_lateA 19 ⟨HDa.out, trivial⟩ ?_
          simp only [Act.put, List.setIfInBounds_toArray, List.set_cons_zero, List.set_cons_succ, List.getElem_toArray, List.getElem_cons_zero, List.getElem_cons_succ]
          refine wpAnyP_lateA 20 ⟨HDa.out, trivial⟩ ?_
          simp only [Act.put, List.setIfInBounds_toArray, List.set_cons_zero, List.set_cons_succ, List.getElem_toArray, List.getElem_cons_zero, List.getElem_cons_succ]
          refine wpAnyP_lateA 21 ⟨HDa.out, trivial⟩ ?_
          simp only [Act.put, List.setIfInBounds_toArray, List.set_cons_zero, List.set_cons_succ, List.getElem_toArray, List.getElem_cons_zero, List.getElem_cons_succ]
          refine wpAnyP_lateA 22 ⟨HDa.out, trivial⟩ ?_ (hy := yieldsIf_load_mid (by rfl) 28 (.tmp 106) rfl b (off + k * 23 + 11) rfl (tmL x.size so0 sc0) _ (fun w' h' => HOS.out w' h') Tryz.underlying28 rfl (by kernel_rfl))
          simp only [Act.put, List.setIfInBounds_toArray, List.set_cons_zero, List.set_cons_succ, List.getElem_toArray, List.getElem_cons_zero, List.getElem_cons_succ]
          refine wpAnyP_oneA 23 fun KK hK => ?_
          go_simp
          refine (HKS.out _ HDa.out).mono ?_
          rintro e w8 ⟨rfl, hb8⟩
          have HDb := Lib.hid (below_next HDa.out hb8)
          clear hb8
          refine hK.out _ _ ⟨HDb.out, trivial⟩ ?_
          clear hK KK
          try simp only [Act.put, List.setIfInBounds_toArray, List.set_cons_zero, List.set_cons_succ, List.getElem_toArray, List.getElem_cons_zero, List.getElem_cons_succ]
          refine wpAnyP_lateA 24 ⟨HDb.out, trivial⟩ ?_
          simp only [Act.put, List.setIfInBounds_toArray, List.set_cons_zero, List.set_cons_succ, List.getElem_toArray, List.getElem_cons_zero, List.getElem_cons_succ]
          refine wpAnyP_lateA 25 ⟨HDb.out, trivial⟩ ?_
          simp only [Act.put, List.setIfInBounds_toArray, List.set_cons_zero, List.set_cons_succ, List.getElem_toArray, List.getElem_cons_zero, List.getElem_cons_succ]
          refine wpAnyP_done (by kernel_rfl) ?_ _
          have HB8 := Lib.hid (below_next HBq.out HDb.out)
          go_wp2_with fail
          go_roundw
          case rel => exact ⟨k + 1, by omega, by go_num, HB8⟩
          case measure => simp [intOf]; omega
        · go_wp2_with fail
          go_ret
          exact ⟨rfl, HB7.out.trans (HBq.out.mono HB7.out.size)⟩
end Go.Proofs.YthmpobimmbmddaaGreatDoor
namespace Go.Proofs.YthmpobimmbmddaaGreatDoor
open Go.RowKit
set_option linter.unusedVariables false
set_option linter.unusedSimpArgs false

section
variable {H : Type} {enc : TypeId × Value → H} {P : Program} {w : World} {base : Nat} {spare : Nat → Bool} {held : Bool}
/-- Every string and slice in what was read is within the form's reach. -/
def Wt (P : Program) (t : TypeId) (d : DataW H) : Prop := (d.weights P t).all (· ≤ reachBytes) = true
theorem wt_each : ∀ (ts : List TypeId) (ds : List (DataW H)), (DataW.weightsEach P ts ds).all (· ≤ reachBytes) = true → ∀ (i : Nat) (t : TypeId) (d : DataW H), ts[i]? = some t → ds[i]? = some d → Wt P t d
  | [], _, _, i, t, d, h, _ => by simp at h
  | _ :: _, [], _, i, t, d, _, h => by simp at h
  | t0 :: ts, d0 :: ds, h, i, t, d, ht, hd => by
    unfold DataW.weightsEach at h
    rw [List.all_append, Bool.and_eq_true] at h
    cases i with
    | zero =>
      simp at ht hd
      subst ht; subst hd
      exact h.1
    | succ i => exact wt_each ts ds h.2 i t d (by simpa using ht) (by simpa using hd)
theorem wt_all (e : TypeId) : ∀ (ds : List (DataW H)), (DataW.weightsAll P e ds).all (· ≤ reachBytes) = true → ∀ d ∈ ds, Wt P e d
  | [], _, _, h => by cases h
  | d0 :: ds, h, d, hd => by
    unfold DataW.weightsAll at h
    rw [List.all_append, Bool.and_eq_true] at h
    rcases List.mem_cons.1 hd with rfl | hd
    · exact h.1
    · exact wt_all e ds h.2 d hd
theorem wt_first {t : TypeId} {ts : List TypeId} {d : DataW H} {ds : List (DataW H)} (h : (DataW.weightsEach P (t :: ts) (d :: ds)).all (· ≤ reachBytes) = true) : Wt P t d := wt_each _ _ h 0 t d rfl rfl
theorem open_field {t : TypeId} {fuel : Nat} {cs : List Value} {x : DataW H × List MemPlace} {fs : Array Field} (hS : P.underlying t = some (.struct fs)) (h : DataW.trod enc P w base spare held fuel t cs = some x) (hw : Wt P t x.1) :
    ∃ n, fuel = n + 1 ∧ cs.length = P.cellsOf t ∧ ∀ (i : Nat) (f : Field) (ty : TypeId) (o m : Nat), fs[i]? = some f → f.type = ty → f.offset = o → P.cellsOf ty = m → ∃ y, DataW.trod enc P w base spare held n ty ((cs.drop o).take m) = some y ∧ Wt P ty y.1 := by
  obtain ⟨xs, n, rfl, rfl, hl, hxl, hx⟩ := DataW.trod_struct hS h
  refine ⟨n, rfl, hl, fun i f ty o m hf e1 e2 e3 => ?_⟩
  have hi := hx i f hf
  have hil : i < xs.length := by rw [hxl]; exact (Array.getElem?_eq_some_iff.1 hf).1
  rw [List.getElem?_eq_getElem hil] at hi
  refine ⟨xs[i], by rw [← e1, ← e2, ← e3, ← e1]; exact hi, ?_⟩
  unfold Wt DataW.weights at hw
  simp only [hS] at hw
  refine wt_each _ _ hw i ty _ ?_ (by rw [List.getElem?_map, List.getElem?_eq_getElem hil]; rfl)
  rw [List.getElem?_map, ← e1]
  simp [hf]
theorem open_strw {t : TypeId} {fuel : Nat} {cs : List Value} {x : DataW H × List MemPlace} (ht : P.underlying t = some .string) (h : DataW.trod enc P w base spare held fuel t cs = some x) (hw : Wt P t x.1) : ∃ s, cs = [.string s] ∧ s.size ≤ 140737488351232 := by
  obtain ⟨s, e, rfl, hs⟩ := DataW.trod_string ht h
  refine ⟨s, e, ?_⟩
  unfold Wt DataW.weights at hw
  have h1 : s.data.toList.length ≤ reachBytes := of_decide_eq_true (List.all_eq_true.1 hw _ (List.mem_singleton.2 rfl))
  rw [Array.length_toList] at h1
  exact h1
theorem open_boolw {t : TypeId} {fuel : Nat} {cs : List Value} {x : DataW H × List MemPlace} (ht : P.underlying t = some .bool) (h : DataW.trod enc P w base spare held fuel t cs = some x) : ∃ b, cs = [.bool b] := by
  obtain ⟨b, e, _⟩ := DataW.trod_bool ht h
  exact ⟨b, e⟩
theorem open_slw {α : Type} {t e : TypeId} {size fuel : Nat} {cs : List Value} {x : DataW H × List MemPlace} (R : List Value → α → Prop) (ht : P.underlying t = some (.slice e)) (hC : P.cellsOf e = size) (h0 : 0 < size)
    (h : DataW.trod enc P w base spare held fuel t cs = some x) (hw : Wt P t x.1)
    (hR : ∀ n cs' y, n < fuel → cs'.length = size → DataW.trod enc P w base spare held n e cs' = some y → Wt P e y.1 → ∃ a, R cs' a) :
    ∃ ao c l, cs = [.slice ao l.length c] ∧ SlAt w size R ao l ∧ l.length ≤ maxLen := by
  rcases DataW.trod_slice ht h with ⟨e1, _⟩ | ⟨a, len, cap, elems, rest, n, hf, e1, rfl, hb, hl, hm, hlen, hel, _, _⟩
  · exact ⟨none, 0, [], e1, .inl rfl, Nat.zero_le _⟩
  · have hwe : ∀ d ∈ elems.map (·.1), Wt P e d := by
      unfold Wt DataW.weights at hw
      simp only [ht] at hw
      rw [List.all_cons, List.all_append, Bool.and_eq_true, Bool.and_eq_true] at hw
      exact wt_all e _ hw.2.1
    have each : ∀ i, i < len → ∃ (x : α) (cs' : List Value), cs'.length = size ∧ (∀ k, k < size → w.cell? ((a.add (i * size)).add k) = cs'[k]?) ∧ R cs' x := fun i hi => by
      have hx := hel i hi
      have hil : i < elems.length := by omega
      rw [List.getElem?_eq_getElem hil, Option.bind_eq_some_iff] at hx
      obtain ⟨cs', hc, ht'⟩ := hx
      rw [hC] at hc
      obtain ⟨_, hcl, hat⟩ := World.cells?_some hc
      obtain ⟨x, hx⟩ := hR n cs' _ (by omega) hcl ht' (hwe _ (List.mem_map.2 ⟨_, List.getElem_mem hil, rfl⟩))
      exact ⟨x, cs', hcl, hat, hx⟩
    have all : ∀ m, m ≤ len → ∃ l : List α, l.length = m ∧ ∀ j (h : j < l.length), ∃ cs' : List Value, cs'.length = size ∧ (∀ k, k < size → w.cell? ((a.add (j * size)).add k) = cs'[k]?) ∧ R cs' l[j] := by
      intro m
      induction m with
      | zero => exact fun _ => ⟨[], rfl, fun j h => absurd h (Nat.not_lt_zero _)⟩
      | succ m ih =>
        intro hm'
        obtain ⟨l, hl', hr⟩ := ih (by omega)
        obtain ⟨x, cs', h1, h2, h3⟩ := each m (by omega)
        refine ⟨l ++ [x], by simp [hl'], fun j hj => ?_⟩
        by_cases hjl : j < l.length
        · obtain ⟨cs2, g1, g2, g3⟩ := hr j hjl
          exact ⟨cs2, g1, g2, by rw [List.getElem_append_left hjl]; exact g3⟩
        · have hj2 : j = m := by simp at hj; omega
          subst hj2
          refine ⟨cs', h1, h2, ?_⟩
          rw [List.getElem_append_right (by omega)]
          simpa [hl'] using h3
    obtain ⟨l, hl2, hr⟩ := all len (Nat.le_refl _)
    refine ⟨some a, cap, l, by rw [hl2]; exact e1, ?_, by omega⟩
    rcases Nat.eq_zero_or_pos len with hz | hz
    · left; exact List.eq_nil_of_length_eq_zero (by omega)
    · right
      obtain ⟨cs0, k1, k2, _⟩ := hr 0 (by omega)
      have hc0 : w.cell? a = some (cs0[0]'(by omega)) := by
        have := k2 0 h0
        rw [Nat.zero_mul] at this
        rw [← List.getElem?_eq_getElem, ← this]; rfl
      have hsp := World.cell?_spot (a := a) hc0
      obtain ⟨b, off, sp⟩ := a
      simp only at hsp
      subst hsp
      have hadd : ∀ k, (⟨b, off, none⟩ : Addr).add k = ⟨b, off + k, none⟩ := fun k => by unfold Addr.add; split <;> simp_all
      have hadd2 : ∀ o k, (⟨b, o, none⟩ : Addr).add k = ⟨b, o + k, none⟩ := fun o k => by unfold Addr.add; split <;> simp_all
      refine ⟨b, off, rfl, ?_, fun j hj => ?_⟩
      · rcases Nat.lt_or_ge b w.heap.size with h | h
        · exact h
        · simp [World.cell?, Array.getElem?_eq_none h] at hc0
      · obtain ⟨cs2, g1, g2, g3⟩ := hr j hj
        refine ⟨cs2, g1, fun i hi => ?_, g3⟩
        have := g2 i hi
        rwa [hadd, hadd2] at this
end

theorem cI : Tryz.prog.cellsOf 3 = 1 := by kernel_rfl
theorem cI64 : Tryz.prog.cellsOf 2 = 1 := by kernel_rfl
theorem cS : Tryz.prog.cellsOf 9 = 1 := by kernel_rfl
theorem cB : Tryz.prog.cellsOf 4 = 1 := by kernel_rfl
theorem cTerm : Tryz.prog.cellsOf 28 = 9 := by kernel_rfl
theorem cTerms : Tryz.prog.cellsOf 26 = 1 := by kernel_rfl
theorem len9 {cs : List Value} (h : cs.length = 9) : ∃ a b c d e f g i j, cs = [a, b, c, d, e, f, g, i, j] := by
  match cs, h with
  | [a, b, c, d, e, f, g, i, j], _ => exact ⟨a, b, c, d, e, f, g, i, j, rfl⟩
theorem one_eq {a b : Value} (h : [a] = [b]) : a = b := by injection h
theorem cFd : Tryz.prog.cellsOf 30 = 23 := by kernel_rfl
section
variable {H : Type} {enc : TypeId × Value → H} {w : World} {base : Nat} {spare : Nat → Bool} {held : Bool}
theorem open_tm : ∀ (fuel : Nat) {cs : List Value} {x : DataW H × List MemPlace}, DataW.trod enc Tryz.prog w base spare held fuel 28 cs = some x → Wt Tryz.prog 28 x.1 → ∃ t, TmA w cs t := by
  intro fuel
  induction fuel using Nat.strongRecOn with
  | _ fuel ih =>
    intro cs x h hw
    obtain ⟨n, rfl, hl, hf⟩ := open_field Tryz.underlying28 h hw
    rw [cTerm] at hl
    obtain ⟨a, b, c, d, e, f, g, i, j, rfl⟩ := len9 hl
    obtain ⟨y0, h0, _⟩ := hf 0 _ 3 0 1 rfl rfl rfl cI
    obtain ⟨y1, h1, _⟩ := hf 1 _ 2 1 1 rfl rfl rfl cI64
    obtain ⟨y2, h2, _⟩ := hf 2 _ 2 2 1 rfl rfl rfl cI64
    obtain ⟨y3, h3, _⟩ := hf 3 _ 9 3 1 rfl rfl rfl cS
    obtain ⟨y4, h4, _⟩ := hf 4 _ 9 4 1 rfl rfl rfl cS
    obtain ⟨y5, h5, _⟩ := hf 5 _ 3 5 1 rfl rfl rfl cI
    obtain ⟨y6, h6, w6⟩ := hf 6 _ 26 6 1 rfl rfl rfl cTerms
    obtain ⟨y7, h7, _⟩ := hf 7 _ 9 7 1 rfl rfl rfl cS
    obtain ⟨y8, h8, _⟩ := hf 8 _ 3 8 1 rfl rfl rfl cI
    obtain ⟨n0, e0, i0⟩ := open_i64 Tryz.underlying3 h0
    obtain ⟨n1, e1, i1⟩ := open_i64 Tryz.underlying2 h1
    obtain ⟨n2, e2, i2⟩ := open_i64 Tryz.underlying2 h2
    obtain ⟨s3, e3, i3⟩ := open_str Tryz.underlying9 h3
    obtain ⟨s4, e4, i4⟩ := open_str Tryz.underlying9 h4
    obtain ⟨n5, e5, i5⟩ := open_i64 Tryz.underlying3 h5
    obtain ⟨ao, ac, l6, e6, s6, b6⟩ := open_slw (TmA w) Tryz.underlying26 cTerm (by decide) h6 w6 (fun m cs' y hm _ hy wy => ih m (by omega) hy wy)
    obtain ⟨s7, e7, i7⟩ := open_str Tryz.underlying9 h7
    obtain ⟨n8, e8, i8⟩ := open_i64 Tryz.underlying3 h8
    obtain rfl := one_eq e0
    obtain rfl := one_eq e1
    obtain rfl := one_eq e2
    obtain rfl := one_eq e3
    obtain rfl := one_eq e4
    obtain rfl := one_eq e5
    obtain rfl := one_eq e6
    obtain rfl := one_eq e7
    obtain rfl := one_eq e8
    obtain ⟨q, hq⟩ := tms_depth s6
    exact ⟨.mk n0 n1 n2 s3 s4 n5 l6 s7 n8, q + 1, ⟨ao, ac, rfl, hq⟩, i0, i1, i2, i3, i4, i5, b6, i7, i8⟩
def FdA (w : World) (cs : List Value) (x : Fd) : Prop := ∃ f, FdR w f cs x
theorem FdR.le {w : World} {f g : Nat} {cs : List Value} {x : Fd} (hfg : f ≤ g) (h : FdR w f cs x) : FdR w g cs x := by
  have up : ∀ {ao : Option Addr} {l : List Tm}, SlAt w 9 (TmAt w f) ao l → SlAt w 9 (TmAt w g) ao l := fun h => h.mono (Below.refl _ _) (fun _ _ h => TmAt.le hfg h)
  obtain ⟨⟨vo, vc, so, sc, e, h1, h2⟩, h3⟩ := h
  exact ⟨⟨vo, vc, so, sc, e, up h1, up h2⟩, h3⟩
theorem fds_depth {w : World} {ao : Option Addr} {l : List Fd} (h : SlAt w 23 (FdA w) ao l) : ∃ f, SlAt w 23 (FdR w f) ao l := by
  rcases h with h | ⟨b, off, e, hb, hr⟩
  · exact ⟨0, .inl h⟩
  · have : ∀ m, m ≤ l.length → ∃ f, ∀ j (hj : j < l.length), j < m → ∃ cs : List Value, cs.length = 23 ∧ (∀ i, i < 23 → w.cell? ⟨b, off + j * 23 + i, none⟩ = cs[i]?) ∧ FdR w f cs l[j] := by
      intro m
      induction m with
      | zero => exact fun _ => ⟨0, fun j _ h => absurd h (Nat.not_lt_zero _)⟩
      | succ m ih =>
        intro hm
        obtain ⟨f, hf⟩ := ih (by omega)
        obtain ⟨cs, h1, h2, g, h3⟩ := hr m (by omega)
        refine ⟨max f g, fun j hj hjm => ?_⟩
        by_cases e : j = m
        · subst e; exact ⟨cs, h1, h2, FdR.le (Nat.le_max_right _ _) h3⟩
        · obtain ⟨cs', a1, a2, a3⟩ := hf j hj (by omega)
          exact ⟨cs', a1, a2, FdR.le (Nat.le_max_left _ _) a3⟩
    obtain ⟨f, hf⟩ := this l.length (Nat.le_refl _)
    exact ⟨f, .inr ⟨b, off, e, hb, fun j hj => hf j hj hj⟩⟩
theorem open_fd {fuel : Nat} {cs : List Value} {x : DataW H × List MemPlace} (h : DataW.trod enc Tryz.prog w base spare held fuel 30 cs = some x) (hw : Wt Tryz.prog 30 x.1) : ∃ a, FdA w cs a := by
  obtain ⟨n, rfl, hl, hf⟩ := open_field Tryz.underlying30 h hw
  rw [cFd] at hl
  obtain ⟨y0, h0, _⟩ := hf 0 _ 3 0 1 rfl rfl rfl cI
  obtain ⟨y1, h1, _⟩ := hf 1 _ 9 1 1 rfl rfl rfl cS
  obtain ⟨y2, h2, w2⟩ := hf 2 _ 28 2 9 rfl rfl rfl cTerm
  obtain ⟨y3, h3, w3⟩ := hf 3 _ 28 11 9 rfl rfl rfl cTerm
  obtain ⟨y4, h4, _⟩ := hf 4 _ 4 20 1 rfl rfl rfl cB
  obtain ⟨y5, h5, _⟩ := hf 5 _ 4 21 1 rfl rfl rfl cB
  obtain ⟨y6, h6, _⟩ := hf 6 _ 4 22 1 rfl rfl rfl cB
  obtain ⟨n0, e0, i0⟩ := open_i64 Tryz.underlying3 h0
  obtain ⟨s1, e1, i1⟩ := open_str Tryz.underlying9 h1
  obtain ⟨v, f1, hv⟩ := open_tm n h2 w2
  obtain ⟨z, f2, hz⟩ := open_tm n h3 w3
  obtain ⟨b4, e4⟩ := open_boolw Tryz.underlying4 h4
  obtain ⟨b5, e5⟩ := open_boolw Tryz.underlying4 h5
  obtain ⟨b6, e6⟩ := open_boolw Tryz.underlying4 h6
  cases f1 with
  | zero => exact hv.elim
  | succ f1 =>
  cases f2 with
  | zero => exact hz.elim
  | succ f2 =>
  obtain ⟨⟨vo, vc, ev, sv⟩, hv1⟩ := hv
  obtain ⟨⟨so, sc, ez, sz⟩, hz1⟩ := hz
  have d : ∀ o m, cs.drop o = (cs.drop o).take m ++ cs.drop (o + m) := fun o m => by rw [← List.drop_drop]; exact (List.take_append_drop m _).symm
  have d0 : cs.drop 0 = (cs.drop 0).take 1 ++ cs.drop 1 := d 0 1
  have d1 : cs.drop 1 = (cs.drop 1).take 1 ++ cs.drop 2 := d 1 1
  have d2 : cs.drop 2 = (cs.drop 2).take 9 ++ cs.drop 11 := d 2 9
  have d11 : cs.drop 11 = (cs.drop 11).take 9 ++ cs.drop 20 := d 11 9
  have d20 : cs.drop 20 = (cs.drop 20).take 1 ++ cs.drop 21 := d 20 1
  have d21 : cs.drop 21 = (cs.drop 21).take 1 ++ cs.drop 22 := d 21 1
  have d22 : cs.drop 22 = (cs.drop 22).take 1 ++ cs.drop 23 := d 22 1
  have d23 : cs.drop 23 = [] := List.drop_eq_nil_of_le (by omega)
  have key : cs = [.int .i64 n0, .string s1, .int .i64 v.kind, .int .i64 v.int, .int .i64 v.gen, .string v.name, .string v.func, .int .i64 v.arity, .slice vo v.items.length vc, .string v.bytes, .int .i64 v.bits, .int .i64 z.kind, .int .i64 z.int, .int .i64 z.gen, .string z.name, .string z.func, .int .i64 z.arity, .slice so z.items.length sc, .string z.bytes, .int .i64 z.bits, .bool b4, .bool b5, .bool b6] := (show cs = cs.drop 0 from rfl).trans (d0.trans (by rw [e0, d1, e1, d2, ev, d11, ez, d20, e4, d21, e5, d22, e6, d23]; rfl))
  have up : ∀ {g : Nat} {ao : Option Addr} {l : List Tm}, g ≤ max f1 f2 → SlAt w 9 (TmAt w g) ao l → SlAt w 9 (TmAt w (max f1 f2)) ao l := fun hg h => h.mono (Below.refl _ _) (fun _ _ h => TmAt.le hg h)
  exact ⟨⟨n0, s1, v, z, b4, b5, b6⟩, max f1 f2, ⟨vo, vc, so, sc, key, up (Nat.le_max_left _ _) sv, up (Nat.le_max_right _ _) sz⟩, i0, i1, hv1, hz1⟩
/-- A list of segments that came in. -/
theorem open_fds {fuel : Nat} {cs : List Value} {x : DataW H × List MemPlace} (h : DataW.trod enc Tryz.prog w base spare held fuel 25 cs = some x) (hw : Wt Tryz.prog 25 x.1) : ∃ ao c l f, cs = [.slice ao l.length c] ∧ SlAt w 23 (FdR w f) ao l ∧ l.length ≤ maxLen := by
  obtain ⟨ao, c, l, e, s, b⟩ := open_slw (FdA w) Tryz.underlying25 cFd (by decide) h hw (fun n cs' y _ _ hy wy => open_fd hy wy)
  obtain ⟨f, hf⟩ := fds_depth s
  exact ⟨ao, c, l, f, e, hf, b⟩
end
end Go.Proofs.YthmpobimmbmddaaGreatDoor
