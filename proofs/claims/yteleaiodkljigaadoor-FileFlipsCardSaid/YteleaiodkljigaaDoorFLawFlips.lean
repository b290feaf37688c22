/-
  FileFlips: the walk.
-/
import Derived.Test.YteleaiodkljigaaDoorFLawPuts
import Derived.Test.YteleaiodkljigaaDoorFBurstWalk
namespace Go.Proofs.YteleaiodkljigaaDoor
open Go.RowKit Go.Shelf Go.Lib
set_option linter.unusedVariables false

theorem getE_two {b : List UInt8} (h : b.length ≤ 16777216) (h0 : getE b ≠ 0) : getE b = 6 ∨ getE b = 260 := (getE_or b h).elim (fun h => absurd h h0) (fun h => h)

set_option maxRecDepth 100000 in
set_option maxHeartbeats 8000000 in
theorem flips_walk (o0 : Option Addr) (c0 : Nat) (l : List Ch) (a1 : Int) (w1 : (Lit.int .i64 a1).wf = true) (a2 : ByteArray) (w2 : a2.size ≤ maxLen) (w : World) (h0 : ListS w o0 l ∧ l.length ≤ maxLen) :
    Calls Tryd.prog 8 #[.slice o0 l.length c0, .int .i64 a1, .string a2] w fun e w' => e = .returned (.bool true) ∧ Below w.heap.size w w' := by
  obtain ⟨hls, hl⟩ := h0
  unfold maxLen at hl
  have HL := Lib.hid hls
  have hlg := large_s o0 c0 l w hls (by omega)
  have i1 := wf64 w1
  clear hls w1
  by_cases big : 1000 < a2.size
  · go_enter Tryd.func8, Tryd.ntmps8
    go_wp2_with fail
    refine hlg.mono ?_
    rintro e w1 ⟨b, rfl, hsm, rfl⟩
    cases b with
    | true =>
      go_wp2_with (go_at_call 10; refine (awake_any _).mono ?_; rintro e w1 ⟨rfl, hb1⟩)
      go_ret
      exact ⟨rfl, hb1⟩
    | false =>
      go_wp2_with (go_at_call 10; refine (awake_any _).mono ?_; rintro e w1 ⟨rfl, hb1⟩)
      go_ret
      exact ⟨rfl, hb1⟩
  · obtain ⟨more, rfl⟩ := str_list a2
    have hms := bsz more
    have hml : more.length ≤ 1000 := by omega
    have hmi : ¬ ((1000 : Int) < more.length) := by omega
    clear big w2
    go_enter Tryd.func8, Tryd.ntmps8
    go_wp2_with fail
    refine hlg.mono ?_
    rintro e w1 ⟨q, rfl, hsm, rfl⟩
    cases q with
    | true =>
      go_wp2_with (go_at_call 10; refine (awake_any _).mono ?_; rintro e w1 ⟨rfl, hb1⟩)
      go_ret
      exact ⟨rfl, hb1⟩
    | false =>
      have hsmall := hsm rfl
      have h40 := hsmall.1
      have hpu := fun wx hx => put_s o0 c0 l wx hx hsmall
      have hrp := fun wx hx => rput_s o0 c0 l wx hx hsmall
      have HZ := Lib.hid (szL_le hsmall l.length (Nat.le_refl _))
      clear hsm hlg hsmall
      by_cases hE : putE l = 0
      · rw [hE] at hpu hrp
        obtain ⟨g1, g2, g3, g4, g5⟩ := get_put hE
        have hzl : szL l ≤ 2400500 := by
          have := HZ.out.1
          rw [List.take_of_length_le (Nat.le_refl _)] at this; omega
        clear HZ hE g1
        generalize szL l = z at *
        generalize putV l = V at *
        subst g3
        have hVs := bsz V
        have hV20 : ¬ ((V.length : Int) < 20) := by omega
        go_wp2_with fail
        refine (hrp _ HL.out).mono ?_
        rintro e w2 ⟨rfl, hb2⟩
        have HL2 := Lib.hid (HL.out.below hb2)
        clear hrp
        go_wp2_with fail
        refine (hpu _ HL2.out).mono ?_
        rintro e w3 ⟨rfl, hb3⟩
        have hB3 := below_next hb2 hb3
        clear hb2 hb3 hpu
        obtain ⟨cap, z, W4, hrun, hBy, hBe⟩ := bytes_conv ⟨V.toArray⟩ w3
        rw [hVs] at hrun
        have hB4 := below_next hB3 hBe
        go_wp2_with fail
        refine (pick_any a1 (8 * (V.length : Int)) _ (by omega) (by omega) (by omega) (by omega)).mono ?_
        rintro e w5 ⟨s, hs, rfl, rfl⟩
        clear hrun hBe
        have hBlt := hBy.lt
        have hB3s := hB3.size
        generalize hBB : w3.heap.size = B at hBy ⊢
        have hBge : w.heap.size ≤ B := by omega
        have hBy2 : BytesAt B V z W4 := by simpa using hBy
        clear hBB hBy
        have hj : s / 8 < V.length := by omega
        have hcell := hBy2.cell hj
        have hfree := hBy2.free hj
        have HSET : Hid (BytesAt B (turn V s) z (W4.setCell ⟨B, s / 8, none⟩ (.int .u8 ((V[s / 8]! ^^^ UInt8.ofNat (2 ^ (s % 8))).toNat : Int)))) := Lib.hid (hBy2.set hj _)
        have HX : Hid (bits .xor .u8 (V[s / 8].toNat : Int) (2 ^ (s % 8) % 256) = ((V[s / 8]! ^^^ UInt8.ofNat (2 ^ (s % 8))).toNat : Int)) := Lib.hid (by
          rw [getElem!_pos V _ hj]; exact xor_u8 _ _)
        have HF := Lib.hid (getE_turn (k := s) g2 (by omega))
        have HG := Lib.hid (getE_cut (k := s / 8) g2 hj)
        have htl := turn_len V s
        clear hBy2
        go_upto_region 12 with fail
        have hB5 : Below w.heap.size w (W4.setCell ⟨B, s / 8, none⟩ (.int .u8 (bits .xor .u8 (V[s / 8].toNat : Int) (2 ^ (s % 8) % 256)))) := hB4.setCell (by show w.heap.size ≤ B; omega) _
        have HY : Hid (BytesAt B (turn V s) z (W4.setCell ⟨B, s / 8, none⟩ (.int .u8 (bits .xor .u8 (V[s / 8].toNat : Int) (2 ^ (s % 8) % 256))))) := Lib.hid (by rw [HX.out]; exact HSET.out)
        generalize W4.setCell ⟨B, s / 8, none⟩ (.int .u8 (bits .xor .u8 (V[s / 8].toNat : Int) (2 ^ (s % 8) % 256))) = W5 at *
        clear HSET HX hcell hfree hB4 hB3 hB3s
        have hcv := bytes_back HY.out V.length cap htl.symm
        have hgf := fun wx => get_any (turn V s) wx (by omega)
        have hgg := fun wx => get_any (V.take (s / 8)) wx (by rw [List.length_take]; omega)
        have hgh := fun wx => get_any (V ++ more) wx (by rw [List.length_append]; omega)
        have htk : ∀ wx, (Instr.slice 9 (.string ⟨V.toArray⟩) none (some (.int .i64 ((s : Int) / 8))) none).run Tryd.prog wx = .ok (.string ⟨(V.take (s / 8)).toArray⟩) wx := fun wx => by
          rw [show ((s : Int) / 8) = ((s / 8 : Nat) : Int) by omega, run_slice_string_to_if (h := by kernel_rfl), if_pos ⟨by omega, by rw [hVs]; omega⟩, Int.toNat_natCast, ext_take]
        have hadd : ∀ wx, Sem.run Tryd.prog (Op.stringOp BinOp.add ⟨V.toArray⟩ ⟨more.toArray⟩) wx = .ok (.string ⟨(V ++ more).toArray⟩) wx := fun wx => by
          rw [run_string_add_sum wx _ _ (by rw [hVs, hms]; omega), cat_bytes]
        have HFE := Lib.hid (getE_two (b := turn V s) (by omega) HF.out)
        have HGE := Lib.hid (getE_two (b := V.take (s / 8)) (by rw [List.length_take]; omega) HG.out)
        have HHE : Hid ((getE (V ++ more) = 0 ∧ more = []) ∨ (getE (V ++ more) = 6 ∨ getE (V ++ more) = 260)) := Lib.hid (by
          by_cases hm : more = []
          · exact .inl ⟨by rw [hm, List.append_nil]; exact g2, hm⟩
          · exact .inr (getE_two (by rw [List.length_append]; omega) (getE_more g2 hm)))
        generalize getE (turn V s) = Ef at *
        generalize getE (V.take (s / 8)) = Eg at *
        generalize getE (V ++ more) = Eh at *
        generalize getL (turn V s) = Lf at *
        generalize getL (V.take (s / 8)) = Lg at *
        generalize getL (V ++ more) = Lh at *
        clear HF HG g2 g4 g5 htl
        generalize turn V s = Tf at *
        generalize V.take (s / 8) = Tg at *
        generalize V ++ more = Th at *
        clear HY
        go_wp2_with fail
        refine (hgf _).mono ?_
        rintro e w6 ⟨v6, rfl, _, hb6⟩
        have hB6 := below_next hB5 hb6
        clear hB5 hb6 hcv
        go_wp2_with fail
        refine (hgg _).mono ?_
        rintro e w7 ⟨v7, rfl, _, hb7⟩
        have hB7 := below_next hB6 hb7
        clear hB6 hb7
        go_wp2_with fail
        refine (hgh _).mono ?_
        rintro e w8 ⟨v8, rfl, _, hb8⟩
        have hB8 := below_next hB7 hb8
        clear hB7 hb8 hgf hgg hgh htk hadd
        rcases HFE.out with hf | hf <;> subst hf <;> rcases HGE.out with hg | hg <;> subst hg <;> rcases HHE.out with ⟨hh, hm⟩ | hh | hh <;> subst hh
        all_goals
          clear HFE HGE HHE
          (try have hme : (more == []) = true := by rw [hm]; rfl)
          (try clear hm)
          go_wp2_with fail
          refine (awake_any _).mono ?_
          rintro e w9 ⟨rfl, hb9⟩
          go_wp2_with fail
          go_ret
          exact ⟨rfl, below_next hB8 hb9⟩
      · have hne : (putE l != 0) = true := bne_iff_ne.2 hE
        clear hE HZ hpu
        generalize putV l = V at *
        generalize putE l = E at *
        go_wp2_with fail
        refine (hrp _ HL.out).mono ?_
        rintro e w2 ⟨rfl, hb2⟩
        go_wp2_with (go_at_call 10; refine (awake_any _).mono ?_; rintro e w3 ⟨rfl, hb3⟩)
        go_ret
        exact ⟨rfl, below_next hb2 hb3⟩

end Go.Proofs.YteleaiodkljigaaDoor
