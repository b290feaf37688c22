/-
  The reference: Get.
-/
import Derived.Test.YteleaiodkljigaaDoorFRefGet
namespace Go.Proofs.YteleaiodkljigaaDoor
open Go.RowKit Go.Shelf Go.Lib
set_option linter.unusedVariables false

theorem chunksR_small : ∀ (f : Nat) (r : List UInt8) (x : Ch), x ∈ chunksR f r → x.2.size ≤ r.length ∧ x.1.size ≤ 4
  | 0, _, _, h => by cases h
  | f + 1, r, x, h => by
    unfold chunksR at h
    split at h
    · cases h
    · split at h
      · cases h
      · rcases List.mem_cons.1 h with rfl | h
        · have e1 : (⟨(r.take 4).toArray⟩ : ByteArray).size = (r.take 4).length := bsz _
          have e2 : (⟨((r.drop 8).take (num4 ((r.drop 4).take 4))).toArray⟩ : ByteArray).size = ((r.drop 8).take (num4 ((r.drop 4).take 4))).length := bsz _
          refine ⟨?_, ?_⟩
          · rw [e2, List.length_take, List.length_drop]; omega
          · rw [e1, List.length_take]; omega
        · have := chunksR_small f _ x h
          rw [List.length_drop] at this
          omega
theorem small_chunks {l : List Ch} {n : Nat} (h : ∀ x, x ∈ l → x.2.size ≤ n ∧ x.1.size ≤ 4) (hl : l.length ≤ 16) (hn : n ≤ 60000) : Small l :=
  ⟨by omega, fun j hj => by
    have := h l[j]! (by rw [getElem!_pos l j hj]; exact List.getElem_mem hj)
    omega⟩

set_option maxRecDepth 100000 in
set_option maxHeartbeats 8000000 in
theorem rget_any (b : List UInt8) (w : World) (hb : b.length ≤ 60000) :
    Calls Tryd.prog 19 #[.string ⟨b.toArray⟩] w fun e w' => ∃ v, e = .returned (.tuple #[v, .int .i64 (rgE b)]) ∧ ListAt w' v (rgL b) ∧ Below w.heap.size w w' := by
  have hs := bsz b
  have hch := fun wx => rchunks_any b wx (by omega)
  have hsm := chunksR_small b.length (b.drop 8)
  have hdl : (b.drop 8).length ≤ b.length := by rw [List.length_drop]; omega
  generalize hE : rgE b = E
  generalize hL : rgL b = L
  unfold rgE at hE
  unfold rgL at hL
  rw [if_neg (by omega)] at hE hL
  by_cases h4 : b.length < 4
  · rw [if_pos h4] at hE hL
    subst hE; subst hL
    clear hch hsm
    go_enter Tryd.func19, Tryd.ntmps19
    go_wp2_with fail
    go_ret2
    exact ⟨_, rfl, listAt_nil _, Below.refl _ _⟩
  · rw [if_neg h4] at hE hL
    generalize chunksR b.length (b.drop 8) = l at *
    by_cases h16 : 16 < l.length
    · rw [if_pos (.inl h16)] at hE hL
      subst hE; subst hL
      have hg16 : decide ((16 : Int) < (l.length : Int)) = true := decide_eq_true (by omega)
      go_enter Tryd.func19, Tryd.ntmps19
      go_wp2_with fail
      refine (hch _).mono ?_
      rintro e w1 ⟨v, rfl, hl, hb1⟩
      obtain ⟨ao, c, rfl, hls⟩ := listS_of hl
      clear hch hsm hl
      go_wp2_with fail
      go_quiet (fail)
      go_wp2_with fail
      go_ret2
      exact ⟨_, rfl, listAt_nil _, below_drewN hb1 _⟩
    · have hg16 : decide ((16 : Int) < (l.length : Int)) = false := decide_eq_false (by omega)
      have hsmall : Small l := small_chunks (n := b.length) (fun x hx => by have := hsm x hx; omega) (by omega) hb
      have hnm := fun ao c wx hx => rnames_s ao c l wx hx (by omega) (fun j hj => (hsmall.2 j hj).2)
      have hnq := fun ao c wx hx => rnames_q ao c l wx hx (by omega) (fun j hj => (hsmall.2 j hj).2)
      clear hsm
      cases hd : dst l with
      | false =>
        rw [if_pos (.inr (.inl hd))] at hE hL
        subst hE; subst hL
        rw [hd] at hnq
        go_enter Tryd.func19, Tryd.ntmps19
        go_wp2_with fail
        refine (hch _).mono ?_
        rintro e w1 ⟨v, rfl, hl, hb1⟩
        obtain ⟨ao, c, rfl, hls⟩ := listS_of hl
        clear hch hl
        have HLS : Hid (ListS w1 ao l) := Lib.hid hls
        clear hls hnm
        go_wp2_with fail
        go_quiet ((go_at_call 25; exact Calls.quiet_of (hnq _ _ _ (by exact HLS.out))))
        go_wp2_with fail
        go_ret2
        exact ⟨_, rfl, listAt_nil _, below_drewN hb1 _⟩
      | true =>
        rw [hd] at hnm
        have h44 : ∀ j, j < l.length → l[j]!.1.size = 4 := fun j hj => by
          have : l[j]! ∈ l := by rw [getElem!_pos l j hj]; exact List.getElem_mem hj
          exact dst_bytes hd _ this
        have hbo := fun ao c wx hx => rbody_s ao c l wx hx hsmall h44
        have hbl := runB_len hsmall (szL l) l.length (Nat.le_refl _)
        rw [List.take_of_length_le (Nat.le_refl _)] at hbl
        have hbz : (bodyB l).length ≤ 3000100 := by unfold bodyB; simp only [List.length_append]; simp [be4]; omega
        have hcl := crc_lt (bodyB l)
        clear hbl h44
        have hsub : (b.length : Int) - 4 = ((b.length - 4 : Nat) : Int) := by omega
        have hw1 : IntKind.i64.wrap ((b.length : Int) - 4) = (b.length : Int) - 4 := by rw [IntKind.wrap_i64]; omega
        have hs1 : ∀ wx, (Instr.slice 9 (.string ⟨b.toArray⟩) none (some (.int .i64 ((b.length : Int) - 4))) none).run Tryd.prog wx = .ok (.string ⟨(b.take (b.length - 4)).toArray⟩) wx := fun wx => by
          rw [hsub, run_slice_string_to_if (h := by kernel_rfl), if_pos ⟨by omega, by rw [hs]; omega⟩, Int.toNat_natCast, ext_take]
        have hs2 : ∀ wx, (Instr.slice 9 (.string ⟨b.toArray⟩) (some (.int .i64 ((b.length : Int) - 4))) none none).run Tryd.prog wx = .ok (.string ⟨(b.drop (b.length - 4)).toArray⟩) wx := fun wx => by
          rw [hsub, run_slice_string_from_if (h := by kernel_rfl), if_pos ⟨by omega, by rw [hs]; omega⟩, Int.toNat_natCast, ext_drop _ _ _ hs.symm]
        clear hsub
        by_cases hbe : bodyB l = b.take (b.length - 4)
        · have hneg : ¬ (16 < l.length ∨ dst l = false ∨ bodyB l ≠ b.take (b.length - 4)) := by
            rw [hd]; exact fun h => h.elim (fun h => by omega) (fun h => h.elim (fun h => by cases h) (fun h => h hbe))
          rw [if_neg hneg] at hE hL
          clear hneg
          rw [← hbe] at hs1
          generalize b.take (b.length - 4) = T at *
          generalize b.drop (b.length - 4) = U at *
          clear hbe
          have hBs := bsz (bodyB l)
          generalize bodyB l = B at *
          have hsu2 : ∀ wx, Calls Tryd.prog 12 #[.string ⟨B.toArray⟩] wx fun e w' => e = .returned (.int .u32 (crc B : Int)) ∧ wx = w' := fun wx => rsum_any ⟨B.toArray⟩ wx (by rw [hBs]; unfold maxLen; omega)
          have hfo : ∀ wx, Calls Tryd.prog 28 #[.int .i64 (crc B : Int)] wx fun e w' => e = .returned (.string ⟨(be4 (crc B)).toArray⟩) ∧ Below wx.heap.size wx w' := fun wx => four_any (crc B : Int) wx (by omega) (by omega)
          generalize crc B = cs at *
          generalize be4 cs = Q at *
          have hwc : IntKind.i64.wrap (cs : Int) = cs := by rw [IntKind.wrap_i64]; omega
          have hBB : (B == B) = true := beq_self_eq_true _
          by_cases hq : Q = U
          · rw [if_pos hq] at hE hL
            subst hE; subst hL
            have hqb : (Q == U) = true := by rw [hq]; exact beq_self_eq_true _
            clear hq
            go_enter Tryd.func19, Tryd.ntmps19
            go_wp2_with fail
            refine (hch _).mono ?_
            rintro e w1 ⟨v, rfl, hl, hb1⟩
            obtain ⟨ao, c, rfl, hls⟩ := listS_of hl
            clear hch hl
            have HLS : Hid (ListS w1.drew ao l) := Lib.hid hls
            clear hls
            have hb1d := hb1.drew
            go_upto_region 6 with fail
            go_region_held3 (fun _ => True) (trivial)
              (first
                | (go_at_call 25; refine (hnm _ _ _ HLS.out).mono ?_; rintro e w5 ⟨rfl, hb5⟩; have qB := hb1d.trans (hb5.mono hb1.size); have qL := HLS.out.below hb5; have HQL := Lib.hid qL; clear qL)
                | (go_at_call 27; refine (hbo _ _ _ HQL.out).mono ?_; rintro e w6 ⟨rfl, hb6⟩; have sB := qB.trans (hb6.mono qB.size); have sL := HQL.out.below hb6; have HSL := Lib.hid sL; clear sL))
            have sBd := sB.drew
            have HSLd : Hid (ListS w6.drew ao l) := Lib.hid HSL.out
            have hz6 : w6.drew.heap.size = w6.heap.size := rfl
            go_wp2_with fail
            go_region_held3 (fun _ => True) (trivial)
              (first
                | (go_at_call 27; refine (hbo _ _ _ HSLd.out).mono ?_; rintro e w7 ⟨rfl, hb7⟩; have tB := sBd.trans (hb7.mono sB.size); have tL := HSLd.out.below hb7; have HTL := Lib.hid tL; clear tL)
                | (go_at_call 12; refine (hsu2 _).mono ?_; rintro e w8 ⟨rfl, rfl⟩)
                | (go_at_call 28; refine (hfo _).mono ?_; rintro e w9 ⟨rfl, hb9⟩; have uB := tB.trans (hb9.mono tB.size); have uL := HTL.out.below hb9; have HUL := Lib.hid uL; clear uL))
            go_wp2_with fail
            go_ret2
            exact ⟨_, rfl, ⟨ao, c, rfl, HUL.out⟩, uB⟩
          · rw [if_neg hq] at hE hL
            subst hE; subst hL
            have hqb : (Q == U) = false := beq_eq_false_iff_ne.2 hq
            clear hq
            go_enter Tryd.func19, Tryd.ntmps19
            go_wp2_with fail
            refine (hch _).mono ?_
            rintro e w1 ⟨v, rfl, hl, hb1⟩
            obtain ⟨ao, c, rfl, hls⟩ := listS_of hl
            clear hch hl
            have HLS : Hid (ListS w1.drew ao l) := Lib.hid hls
            clear hls
            have hb1d := hb1.drew
            go_upto_region 6 with fail
            go_region_held3 (fun _ => True) (trivial)
              (first
                | (go_at_call 25; refine (hnm _ _ _ HLS.out).mono ?_; rintro e w5 ⟨rfl, hb5⟩; have qB := hb1d.trans (hb5.mono hb1.size); have qL := HLS.out.below hb5; have HQL := Lib.hid qL; clear qL)
                | (go_at_call 27; refine (hbo _ _ _ HQL.out).mono ?_; rintro e w6 ⟨rfl, hb6⟩; have sB := qB.trans (hb6.mono qB.size); have sL := HQL.out.below hb6; have HSL := Lib.hid sL; clear sL))
            have sBd := sB.drew
            have HSLd : Hid (ListS w6.drew ao l) := Lib.hid HSL.out
            have hz6 : w6.drew.heap.size = w6.heap.size := rfl
            go_wp2_with fail
            go_region_held3 (fun _ => True) (trivial)
              (first
                | (go_at_call 27; refine (hbo _ _ _ HSLd.out).mono ?_; rintro e w7 ⟨rfl, hb7⟩; have tB := sBd.trans (hb7.mono sB.size); have tL := HSLd.out.below hb7; have HTL := Lib.hid tL; clear tL)
                | (go_at_call 12; refine (hsu2 _).mono ?_; rintro e w8 ⟨rfl, rfl⟩)
                | (go_at_call 28; refine (hfo _).mono ?_; rintro e w9 ⟨rfl, hb9⟩; have uB := tB.trans (hb9.mono tB.size); have uL := HTL.out.below hb9; have HUL := Lib.hid uL; clear uL))
            go_wp2_with fail
            go_ret2
            exact ⟨_, rfl, listAt_nil _, uB⟩
        · have hpos : 16 < l.length ∨ dst l = false ∨ bodyB l ≠ b.take (b.length - 4) := .inr (.inr hbe)
          rw [if_pos hpos] at hE hL
          subst hE; subst hL
          have hBB : (bodyB l == b.take (b.length - 4)) = false := beq_eq_false_iff_ne.2 hbe
          generalize b.take (b.length - 4) = T at *
          generalize bodyB l = B at *
          clear hbe hpos hcl hs2
          go_enter Tryd.func19, Tryd.ntmps19
          go_wp2_with fail
          refine (hch _).mono ?_
          rintro e w1 ⟨v, rfl, hl, hb1⟩
          obtain ⟨ao, c, rfl, hls⟩ := listS_of hl
          clear hch hl
          have HLS : Hid (ListS w1.drew ao l) := Lib.hid hls
          clear hls
          have hb1d := hb1.drew
          go_upto_region 6 with fail
          go_region_held3 (fun _ => True) (trivial)
            (first
              | (go_at_call 25; refine (hnm _ _ _ HLS.out).mono ?_; rintro e w5 ⟨rfl, hb5⟩; have qB := hb1d.trans (hb5.mono hb1.size); have qL := HLS.out.below hb5; have HQL := Lib.hid qL; clear qL)
              | (go_at_call 27; refine (hbo _ _ _ HQL.out).mono ?_; rintro e w6 ⟨rfl, hb6⟩; have sB := qB.trans (hb6.mono qB.size); have sL := HQL.out.below hb6; have HSL := Lib.hid sL; clear sL))
          go_wp2_with fail
          go_ret2
          exact ⟨_, rfl, listAt_nil _, sB⟩

end Go.Proofs.YteleaiodkljigaaDoor
