/-
  FileBack: the walk.
-/
import Derived.Test.YteleaiodkljigaaDoorFLawPuts
namespace Go.Proofs.YteleaiodkljigaaDoor
open Go.RowKit Go.Shelf Go.Lib
set_option linter.unusedVariables false

theorem getL_small {b : List UInt8} (h : b.length ≤ 60000) : Small (getL b) := by
  unfold getL
  split
  · exact ⟨by simp, fun j hj => absurd hj (Nat.not_lt_zero _)⟩
  · cases hf : formP b with
    | none => exact ⟨by simp, fun j hj => absurd hj (Nat.not_lt_zero _)⟩
    | some l =>
      obtain ⟨hd, hl, hs, hbo, h20⟩ := body_of_form hf (by omega)
      have hnm := dst_names hd
      have hsz := szL_flat (fun x hx => (hnm x hx).1)
      show Small (if _ then l else [])
      split
      · refine ⟨by omega, fun j hj => ?_⟩
        have hm : l[j]! ∈ l := by rw [getElem!_pos l j hj]; exact List.getElem_mem hj
        have := flat_len l _ hm
        have := (hnm _ hm).1
        omega
      · exact ⟨by simp, fun j hj => absurd hj (Nat.not_lt_zero _)⟩
theorem putV_len {l : List Ch} (h : putE l = 0) : (putV l).length ≤ 16777216 := by
  have := get_put h; omega

set_option maxRecDepth 100000 in
set_option maxHeartbeats 8000000 in
theorem back_walk (o0 : Option Addr) (c0 : Nat) (l : List Ch) (a1 : ByteArray) (w1 : a1.size ≤ maxLen) (w : World) (h0 : ListS w o0 l ∧ l.length ≤ maxLen) :
    Calls Tryd.prog 7 #[.slice o0 l.length c0, .string a1] w fun e w' => e = .returned (.bool true) ∧ Below w.heap.size w w' := by
  obtain ⟨hls, hl⟩ := h0
  unfold maxLen at hl
  have HL := Lib.hid hls
  have hlg := large_s o0 c0 l w hls (by omega)
  clear hls
  by_cases big : 60000 < a1.size
  · go_enter Tryd.func7, Tryd.ntmps7
    go_wp2_with fail
    refine hlg.mono ?_
    rintro e w1 ⟨b, rfl, hsm, rfl⟩
    cases b with
    | true =>
      go_wp2_with (go_at_call 10; refine (awake_any _).mono ?_; rintro e w1 ⟨rfl, hb1⟩)
      go_ret
      exact ⟨rfl, hb1⟩
    | false =>
      go_wp2_with (go_at_call 10; refine (awake_any _).mono ?_; rintro e w1 ⟨rfl, hb1⟩)
      go_ret
      exact ⟨rfl, hb1⟩
  · obtain ⟨b, rfl⟩ := str_list a1
    have hs := bsz b
    have hb : b.length ≤ 60000 := by omega
    clear big w1
    have hgb := fun wx => get_any b wx (by omega)
    have hbi : ¬ ((60000 : Int) < b.length) := by omega
    have hsl := getL_small hb
    have h16 : (getL b).length ≤ 40 := hsl.1
    have hpk := fun ao c wx hx => put_s ao c (getL b) wx hx hsl
    have hpg := @put_get b
    have hbad := @get_bad b
    generalize getL b = k at *
    generalize hEb : getE b = Eb at *
    by_cases hE : putE l = 0
    · by_cases hEE : Eb = 0
      · go_enter Tryd.func7, Tryd.ntmps7
        go_wp2_with fail
        refine hlg.mono ?_
        rintro e w1 ⟨q, rfl, hsm, rfl⟩
        cases q with
        | true =>
          clear hpg hbad
          go_wp2_with (go_at_call 10; refine (awake_any _).mono ?_; rintro e w1 ⟨rfl, hb1⟩)
          go_ret
          exact ⟨rfl, hb1⟩
        | false =>
          have hsmall := hsm rfl
          have h40 := hsmall.1
          have hpu := fun wx hx => put_s o0 c0 l wx hx hsmall
          clear hsm hlg hsmall
          rw [hE] at hpu
          have HV := Lib.hid (putV_len hE)
          have hgl := (get_put hE).1
          have hge := (get_put hE).2.1
          have hgv := fun wx => get_any (putV l) wx (by have := HV.out; omega)
          rw [hgl, hge] at hgv
          clear hgl hge hE
          generalize putV l = V at *
          obtain ⟨p1, p2⟩ := hpg hEE
          rw [p1, p2] at hpk
          subst hEE
          clear hpg hbad p1 p2
          go_wp2_with fail
          refine (hpu _ HL.out).mono ?_
          rintro e w2 ⟨rfl, hb2⟩
          have HL2 := Lib.hid (HL.out.below hb2)
          clear hpu
          go_wp2_with fail
          refine (hgv _).mono ?_
          rintro e w3 ⟨v, rfl, hl3, hb3⟩
          obtain ⟨ao3, c3, rfl, hs3⟩ := listS_of hl3
          have H3 := Lib.hid hs3; clear hs3 hl3 hgv
          have HL3 := Lib.hid (HL2.out.below hb3)
          have hB3 := below_next hb2 hb3
          clear hb2 hb3
          go_wp2_with fail
          refine (same_yes _ _ _ _ l _ H3.out HL3.out (by omega)).mono ?_
          rintro e w4 ⟨rfl, hb4⟩
          have hB4 := below_next hB3 hb4
          clear hB3 hb4
          go_wp2_with fail
          refine (hgb _).mono ?_
          rintro e w5 ⟨v5, rfl, hl5, hb5⟩
          obtain ⟨ao5, c5, rfl, hs5⟩ := listS_of hl5
          have H5 := Lib.hid hs5; clear hs5 hl5 hgb
          have hB5 := below_next hB4 hb5
          clear hB4 hb5
          go_wp2_with fail
          refine (hpk _ _ _ H5.out).mono ?_
          rintro e w6 ⟨rfl, hb6⟩
          go_wp2_with fail
          refine (awake_any _).mono ?_
          rintro e w7 ⟨rfl, hb7⟩
          go_wp2_with fail
          go_ret
          exact ⟨rfl, below_next (below_next hB5 hb6) hb7⟩
      · go_enter Tryd.func7, Tryd.ntmps7
        go_wp2_with fail
        refine hlg.mono ?_
        rintro e w1 ⟨q, rfl, hsm, rfl⟩
        cases q with
        | true =>
          clear hpg hbad
          go_wp2_with (go_at_call 10; refine (awake_any _).mono ?_; rintro e w1 ⟨rfl, hb1⟩)
          go_ret
          exact ⟨rfl, hb1⟩
        | false =>
          have hsmall := hsm rfl
          have h40 := hsmall.1
          have hpu := fun wx hx => put_s o0 c0 l wx hx hsmall
          clear hsm hlg hsmall
          rw [hE] at hpu
          have HV := Lib.hid (putV_len hE)
          have hgl := (get_put hE).1
          have hge := (get_put hE).2.1
          have hgv := fun wx => get_any (putV l) wx (by have := HV.out; omega)
          rw [hgl, hge] at hgv
          clear hgl hge hE
          generalize putV l = V at *
          obtain rfl : k = [] := hbad hEE
          have hne2 : (Eb == 0) = false := beq_eq_false_iff_ne.2 hEE
          clear hpg hbad hpk hEE
          go_wp2_with fail
          refine (hpu _ HL.out).mono ?_
          rintro e w2 ⟨rfl, hb2⟩
          have HL2 := Lib.hid (HL.out.below hb2)
          clear hpu
          go_wp2_with fail
          refine (hgv _).mono ?_
          rintro e w3 ⟨v, rfl, hl3, hb3⟩
          obtain ⟨ao3, c3, rfl, hs3⟩ := listS_of hl3
          have H3 := Lib.hid hs3; clear hs3 hl3 hgv
          have HL3 := Lib.hid (HL2.out.below hb3)
          have hB3 := below_next hb2 hb3
          clear hb2 hb3
          go_wp2_with fail
          refine (same_yes _ _ _ _ l _ H3.out HL3.out (by omega)).mono ?_
          rintro e w4 ⟨rfl, hb4⟩
          have hB4 := below_next hB3 hb4
          clear hB3 hb4
          go_wp2_with fail
          refine (hgb _).mono ?_
          rintro e w5 ⟨v5, rfl, hl5, hb5⟩
          obtain ⟨ao5, c5, rfl, hs5⟩ := listS_of hl5
          have H5 := Lib.hid hs5; clear hs5 hl5 hgb
          have hB5 := below_next hB4 hb5
          clear hB4 hb5
          go_wp2_with fail
          refine (awake_any _).mono ?_
          rintro e w7 ⟨rfl, hb7⟩
          go_wp2_with fail
          go_ret
          exact ⟨rfl, below_next hB5 hb7⟩
    · by_cases hEE : Eb = 0
      · go_enter Tryd.func7, Tryd.ntmps7
        go_wp2_with fail
        refine hlg.mono ?_
        rintro e w1 ⟨q, rfl, hsm, rfl⟩
        cases q with
        | true =>
          clear hpg hbad
          go_wp2_with (go_at_call 10; refine (awake_any _).mono ?_; rintro e w1 ⟨rfl, hb1⟩)
          go_ret
          exact ⟨rfl, hb1⟩
        | false =>
          have hsmall := hsm rfl
          have h40 := hsmall.1
          have hpu := fun wx hx => put_s o0 c0 l wx hx hsmall
          clear hsm hlg hsmall
          have hne : (putE l == 0) = false := beq_eq_false_iff_ne.2 hE
          clear hE
          generalize putV l = V at *
          generalize putE l = E at *
          obtain ⟨p1, p2⟩ := hpg hEE
          rw [p1, p2] at hpk
          subst hEE
          clear hpg hbad p1 p2
          go_wp2_with fail
          refine (hpu _ HL.out).mono ?_
          rintro e w4 ⟨rfl, hB4⟩
          clear hpu
          go_wp2_with fail
          refine (hgb _).mono ?_
          rintro e w5 ⟨v5, rfl, hl5, hb5⟩
          obtain ⟨ao5, c5, rfl, hs5⟩ := listS_of hl5
          have H5 := Lib.hid hs5; clear hs5 hl5 hgb
          have hB5 := below_next hB4 hb5
          clear hB4 hb5
          go_wp2_with fail
          refine (hpk _ _ _ H5.out).mono ?_
          rintro e w6 ⟨rfl, hb6⟩
          go_wp2_with fail
          refine (awake_any _).mono ?_
          rintro e w7 ⟨rfl, hb7⟩
          go_wp2_with fail
          go_ret
          exact ⟨rfl, below_next (below_next hB5 hb6) hb7⟩
      · go_enter Tryd.func7, Tryd.ntmps7
        go_wp2_with fail
        refine hlg.mono ?_
        rintro e w1 ⟨q, rfl, hsm, rfl⟩
        cases q with
        | true =>
          clear hpg hbad
          go_wp2_with (go_at_call 10; refine (awake_any _).mono ?_; rintro e w1 ⟨rfl, hb1⟩)
          go_ret
          exact ⟨rfl, hb1⟩
        | false =>
          have hsmall := hsm rfl
          have h40 := hsmall.1
          have hpu := fun wx hx => put_s o0 c0 l wx hx hsmall
          clear hsm hlg hsmall
          have hne : (putE l == 0) = false := beq_eq_false_iff_ne.2 hE
          clear hE
          generalize putV l = V at *
          generalize putE l = E at *
          obtain rfl : k = [] := hbad hEE
          have hne2 : (Eb == 0) = false := beq_eq_false_iff_ne.2 hEE
          clear hpg hbad hpk hEE
          go_wp2_with fail
          refine (hpu _ HL.out).mono ?_
          rintro e w4 ⟨rfl, hB4⟩
          clear hpu
          go_wp2_with fail
          refine (hgb _).mono ?_
          rintro e w5 ⟨v5, rfl, hl5, hb5⟩
          obtain ⟨ao5, c5, rfl, hs5⟩ := listS_of hl5
          have H5 := Lib.hid hs5; clear hs5 hl5 hgb
          have hB5 := below_next hB4 hb5
          clear hB4 hb5
          go_wp2_with fail
          refine (awake_any _).mono ?_
          rintro e w7 ⟨rfl, hb7⟩
          go_wp2_with fail
          go_ret
          exact ⟨rfl, below_next hB5 hb7⟩

end Go.Proofs.YteleaiodkljigaaDoor
