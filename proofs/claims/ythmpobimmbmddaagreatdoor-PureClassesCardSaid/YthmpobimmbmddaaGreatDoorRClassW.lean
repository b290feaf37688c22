/-
  The document's Class: the walk.
-/
import Derived.Test.YthmpobimmbmddaaGreatDoorRName
import Derived.Laws.IdiomStrings
namespace Go.Proofs.YthmpobimmbmddaaGreatDoor
open Go.RowKit
set_option linter.unusedVariables false
set_option linter.unusedSimpArgs false

theorem conv_one (w : World) (n : Int) (h0 : 0 ≤ n) (h9 : n ≤ 9) : (convert 50 9 (.slice (some ⟨w.heap.size, 0, none⟩) 1 1)).run Tryz.prog (w.alloc (.cells #[.int .u8 (48 + n)] 5)) = .ok (.string ⟨#[UInt8.ofNat (48 + n.toNat)]⟩) (w.alloc (.cells #[.int .u8 (48 + n)] 5)) := by
  have := run_convert_bytes_back (P := Tryz.prog) (w.alloc (.cells #[.int .u8 (48 + n)] 5)) 50 9 5 ⟨w.heap.size, 0, none⟩ 1 [UInt8.ofNat (48 + n.toNat)] Tryz.underlying50 Tryz.underlying5 Tryz.underlying9 (fun j hj => by
    have hj0 : j = 0 := by simp at hj; exact hj
    subst hj0
    have ha : (⟨w.heap.size, 0, none⟩ : Addr).add 0 = ⟨w.heap.size, 0, none⟩ := by unfold Addr.add; split <;> simp_all
    rw [ha, cell_of_row _ _ _ _ _ _ (heap_alloc_new _ _)]
    have : ((UInt8.ofNat (48 + n.toNat)).toNat : Int) = 48 + n := by rw [UInt8.toNat_ofNat']; omega
    simp only [List.getElem_cons_zero]
    rw [this]
    rfl)
  exact this
set_option maxRecDepth 100000 in
set_option maxHeartbeats 4000000 in
theorem rclass_any (s : ByteArray) (n : Int) (w : World) (hs : s.size ≤ maxLen) : Calls Tryz.prog 8 #[.string s, .int .i64 n] w fun e w' => e = .returned (.int .i64 (classR s n)) ∧ Below w.heap.size w w' := by
  have hn := rname_any s w hs
  have HC : Hid (¬ (nameB s = true ∧ 0 ≤ n ∧ n ≤ 9) → classR s n = 0) := Lib.hid (fun h => by unfold classR; rw [if_neg h])
  cases hv : nameB s with
  | false =>
    have E : Hid (classR s n = 0) := Lib.hid (HC.out (by rw [hv]; simp))
    rw [hv] at hn
    clear hv HC
    go_enter Tryz.func8, Tryz.ntmps8
    go_wp2_with fail
    refine hn.mono ?_
    rintro e w1 ⟨rfl, rfl⟩
    go_wp2_with fail
    go_ret
    exact ⟨ret1 E.out.symm, Below.refl _ _⟩
  | true =>
    rw [hv] at hn
    by_cases h0 : n < 0
    · have E : Hid (classR s n = 0) := Lib.hid (HC.out (by rintro ⟨_, h, _⟩; omega))
      clear hv HC
      go_enter Tryz.func8, Tryz.ntmps8
      go_wp2_with fail
      refine hn.mono ?_
      rintro e w1 ⟨rfl, rfl⟩
      go_wp2_with fail
      go_ret
      exact ⟨ret1 E.out.symm, Below.refl _ _⟩
    · by_cases h9 : 9 < n
      · have E : Hid (classR s n = 0) := Lib.hid (HC.out (by rintro ⟨_, _, h⟩; omega))
        clear hv HC
        go_enter Tryz.func8, Tryz.ntmps8
        go_wp2_with fail
        refine hn.mono ?_
        rintro e w1 ⟨rfl, rfl⟩
        go_wp2_with fail
        go_ret
        exact ⟨ret1 E.out.symm, Below.refl _ _⟩
      · have hz : s.size ≤ 32 := (by unfold nameB at hv; rw [Bool.and_eq_true, Bool.and_eq_true, decide_eq_true_eq, decide_eq_true_eq] at hv; exact hv.1.2)
        have HV := Lib.hid hv
        have hcv := conv_one w n (by omega) (by omega)
        clear hv HC
        go_enter Tryz.func8, Tryz.ntmps8
        go_upto_region 4 with (go_at_call 23; refine hn.mono ?_; rintro e w1 ⟨rfl, rfl⟩)
        clear hcv hn
        have hwd : ((({ data := #[32] } : ByteArray) ++ s ++ { data := #[47] } ++ { data := #[48 + UInt8.ofNat n.toNat] } ++ { data := #[32] }) : ByteArray).data.toList = 32 :: (wordR s n.toNat ++ [32]) := by
          unfold wordR
          simp
        have hws : ((({ data := #[32] } : ByteArray) ++ s ++ { data := #[47] } ++ { data := #[48 + UInt8.ofNat n.toNat] } ++ { data := #[32] }) : ByteArray).size ≤ 100 := by
          have := congrArg List.length hwd
          unfold wordR at this
          simp only [Array.length_toList, List.length_cons, List.length_append, List.length_nil] at this
          show _ ≤ _
          have e : s.data.size = s.size := rfl
          rw [e] at this
          exact Nat.le_trans (Nat.le_of_eq this) (by omega)
        have HWD := Lib.hid hwd
        generalize ((({ data := #[32] } : ByteArray) ++ s ++ { data := #[47] } ++ { data := #[48 + UInt8.ofNat n.toNat] } ++ { data := #[32] }) : ByteArray) = W at *
        have HB : Hid (Below w.heap.size w (w.alloc (.cells #[.int .u8 (48 + n)] 5))) := Lib.hid ((Below.refl _ _).alloc (Nat.le_refl _) _)
        have HCL : Hid (classR s n = if wordR s n.toNat ∈ wordsR 1 then 1 else if wordR s n.toNat ∈ wordsR 2 then 2 else if wordR s n.toNat ∈ wordsR 3 then 3 else if wordR s n.toNat ∈ wordsR 4 then 4 else 0) := Lib.hid (by unfold classR; rw [if_pos ⟨HV.out, by omega, by omega⟩]; rfl)
        have HHO : Hid (∀ c, 1 ≤ c ∧ c ≤ 4 → holdsB (namesR c) W.data.toList = decide (wordR s n.toNat ∈ wordsR c)) := Lib.hid (fun c hc => by rw [HWD.out]; exact holds_word HV.out (by omega) hc)
        clear hwd
        generalize w.alloc (.cells #[.int .u8 (48 + n)] 5) = Wa at *
        go_wp2_with fail
        go_loop [6] (fun cv => ∃ c : Nat, 1 ≤ c ∧ c ≤ 5 ∧ cv = .int .i64 c ∧ Hid (∀ j, 1 ≤ j → j < c → wordR s n.toNat ∉ wordsR j)) (fun cv => 5 - (intOf cv).toNat)
        case atStart => exact ⟨1, by decide, by decide, by go_num, Lib.hid (fun j h1 h2 => by omega)⟩
        case round =>
          obtain ⟨c, hc1, hc5, rfl, HK⟩ := hrel
          by_cases hlt : c ≤ 4
          · have hna := names_text c ⟨hc1, hlt⟩ Wa
            have hho := holds_any (namesS c) W Wa (Nat.le_trans (namesS_size c hlt) (by decide)) (by omega)
            have hq : holdsB (namesS c).data.toList W.data.toList = decide (wordR s n.toNat ∈ wordsR c) := by
              have e : (namesS c).data.toList = namesR c := by unfold namesS; simp
              rw [e]; exact HHO.out c ⟨hc1, hlt⟩
            rw [hq] at hho
            clear hq
            by_cases hm : wordR s n.toNat ∈ wordsR c
            · have E : Hid (classR s n = c) := Lib.hid (by
                rw [HCL.out]
                have n1 := HK.out 1; have n2 := HK.out 2; have n3 := HK.out 3
                rcases (show c = 1 ∨ c = 2 ∨ c = 3 ∨ c = 4 by omega) with rfl | rfl | rfl | rfl
                · rw [if_pos hm]; rfl
                · rw [if_neg (n1 (by decide) (by decide)), if_pos hm]; rfl
                · rw [if_neg (n1 (by decide) (by decide)), if_neg (n2 (by decide) (by decide)), if_pos hm]; rfl
                · rw [if_neg (n1 (by decide) (by decide)), if_neg (n2 (by decide) (by decide)), if_neg (n3 (by decide) (by decide)), if_pos hm]; rfl)
              rw [decide_eq_true hm] at hho
              clear hm
              go_wp2_with fail
              refine hna.mono ?_
              rintro e w1 ⟨rfl, rfl⟩
              go_wp2_with fail
              refine hho.mono ?_
              rintro e w1 ⟨rfl, rfl⟩
              go_wp2_with fail
              go_ret
              exact ⟨ret1 E.out.symm, HB.out⟩
            · have HN2 : Hid (∀ j, 1 ≤ j → j < c + 1 → wordR s n.toNat ∉ wordsR j) := Lib.hid (fun j h1 h2 => by
                rcases Nat.eq_or_lt_of_le (Nat.le_of_lt_succ h2) with e | e
                · subst e; exact hm
                · exact HK.out j h1 e)
              rw [decide_eq_false hm] at hho
              clear hm
              go_wp2_with fail
              refine hna.mono ?_
              rintro e w1 ⟨rfl, rfl⟩
              go_wp2_with fail
              refine hho.mono ?_
              rintro e w1 ⟨rfl, rfl⟩
              go_wp2_with fail
              go_round
              case rel => exact ⟨c + 1, by omega, by omega, by go_num, HN2⟩
              case measure => simp [intOf]; omega
          · have E : Hid (classR s n = 0) := Lib.hid (by
              rw [HCL.out, if_neg (HK.out 1 (by decide) (by omega)), if_neg (HK.out 2 (by decide) (by omega)), if_neg (HK.out 3 (by decide) (by omega)), if_neg (HK.out 4 (by decide) (by omega))])
            go_wp2_with fail
            go_ret
            exact ⟨ret1 E.out.symm, HB.out⟩
end Go.Proofs.YthmpobimmbmddaaGreatDoor
