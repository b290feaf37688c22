/-
  The document's Class: the walk. The reference's Named: the walk (printed by gen_rnamed.py). The reference's Check of any unit: the walk (printed by gen_rcheck.py).
-/
import Derived.Laws.IdiomStrings
import Derived.Test.YtghgbikmlbildaaGreatDoorChecksAll10
import Derived.Test.YtghgbikmlbildaaGreatDoorChecksAll13
import Derived.Test.YtghgbikmlbildaaGreatDoorChecksAll16
import Derived.Test.YtghgbikmlbildaaGreatDoorChecksAll19
import Derived.Test.YtghgbikmlbildaaGreatDoorChecksAll21
import Derived.Test.YtghgbikmlbildaaGreatDoorChecksAll22
import Derived.Test.YtghgbikmlbildaaGreatDoorChecksAll23
import Derived.Test.YtghgbikmlbildaaGreatDoorChecksAll24
namespace Go.Proofs.YtghgbikmlbildaaGreatDoor
open Go.RowKit
set_option linter.unusedVariables false
set_option linter.unusedSimpArgs false

theorem conv_one (w : World) (n : Int) (h0 : 0 ≤ n) (h9 : n ≤ 9) : (convert 39 9 (.slice (some ⟨w.heap.size, 0, none⟩) 1 1)).run Tryz.prog (w.alloc (.cells #[.int .u8 (48 + n)] 5)) = .ok (.string ⟨#[UInt8.ofNat (48 + n.toNat)]⟩) (w.alloc (.cells #[.int .u8 (48 + n)] 5)) := by
  have := run_convert_bytes_back (P := Tryz.prog) (w.alloc (.cells #[.int .u8 (48 + n)] 5)) 39 9 5 ⟨w.heap.size, 0, none⟩ 1 [UInt8.ofNat (48 + n.toNat)] Tryz.underlying39 Tryz.underlying5 Tryz.underlying9 (fun j hj => by
    have hj0 : j = 0 := by simp at hj; exact hj
    subst hj0
    have ha : (⟨w.heap.size, 0, none⟩ : Addr).add 0 = ⟨w.heap.size, 0, none⟩ := by unfold Addr.add; split <;> simp_all
    rw [ha, cell_of_row _ _ _ _ _ _ (heap_alloc_new _ _)]
    have : ((UInt8.ofNat (48 + n.toNat)).toNat : Int) = 48 + n := by rw [UInt8.toNat_ofNat']; omega
    simp only [List.getElem_cons_zero]
    rw [this]
    rfl)
  exact this
set_option maxRecDepth 100000 in
set_option maxHeartbeats 4000000 in
theorem rclass_any (s : ByteArray) (n : Int) (w : World) (hs : s.size ≤ maxLen) : Calls Tryz.prog 92 #[.string s, .int .i64 n] w fun e w' => e = .returned (.int .i64 (classR s n)) ∧ Below w.heap.size w w' := by
  have hn := rname_any s w hs
  have HC : Hid (¬ (nameB s = true ∧ 0 ≤ n ∧ n ≤ 9) → classR s n = 0) := Lib.hid (fun h => by unfold classR; rw [if_neg h])
  cases hv : nameB s with
  | false =>
    have E : Hid (classR s n = 0) := Lib.hid (HC.out (by rw [hv]; simp))
    rw [hv] at hn
    clear hv HC
    go_enter Tryz.func92, Tryz.ntmps92
    go_wp2_with fail
    refine hn.mono ?_
    rintro e w1 ⟨rfl, rfl⟩
    go_wp2_with fail
    go_ret
    exact ⟨ret1 E.out.symm, Below.refl _ _⟩
  | true =>
    rw [hv] at hn
    by_cases h0 : n < 0
    · have E : Hid (classR s n = 0) := Lib.hid (HC.out (by rintro ⟨_, h, _⟩; omega))
      clear hv HC
      go_enter Tryz.func92, Tryz.ntmps92
      go_wp2_with fail
      refine hn.mono ?_
      rintro e w1 ⟨rfl, rfl⟩
      go_wp2_with fail
      go_ret
      exact ⟨ret1 E.out.symm, Below.refl _ _⟩
    · by_cases h9 : 9 < n
      · have E : Hid (classR s n = 0) := Lib.hid (HC.out (by rintro ⟨_, _, h⟩; omega))
        clear hv HC
        go_enter Tryz.func92, Tryz.ntmps92
        go_wp2_with fail
        refine hn.mono ?_
        rintro e w1 ⟨rfl, rfl⟩
        go_wp2_with fail
        go_ret
        exact ⟨ret1 E.out.symm, Below.refl _ _⟩
      · have hz : s.size ≤ 32 := (by unfold nameB at hv; rw [Bool.and_eq_true, Bool.and_eq_true, decide_eq_true_eq, decide_eq_true_eq] at hv; exact hv.1.2)
        have HV := Lib.hid hv
        have hcv := conv_one w n (by omega) (by omega)
        clear hv HC
        go_enter Tryz.func92, Tryz.ntmps92
        go_upto_region 4 with (go_at_call 84; refine hn.mono ?_; rintro e w1 ⟨rfl, rfl⟩)
        clear hcv hn
        have hwd : ((({ data := #[32] } : ByteArray) ++ s ++ { data := #[47] } ++ { data := #[48 + UInt8.ofNat n.toNat] } ++ { data := #[32] }) : ByteArray).data.toList = 32 :: (wordR s n.toNat ++ [32]) := by
          unfold wordR
          simp
        have hws : ((({ data := #[32] } : ByteArray) ++ s ++ { data := #[47] } ++ { data := #[48 + UInt8.ofNat n.toNat] } ++ { data := #[32] }) : ByteArray).size ≤ 100 := by
          have := congrArg List.length hwd
          unfold wordR at this
          simp only [Array.length_toList, List.length_cons, List.length_append, List.length_nil] at this
          show _ ≤ _
          have e : s.data.size = s.size := rfl
          rw [e] at this
          exact Nat.le_trans (Nat.le_of_eq this) (by omega)
        have HWD := Lib.hid hwd
        generalize ((({ data := #[32] } : ByteArray) ++ s ++ { data := #[47] } ++ { data := #[48 + UInt8.ofNat n.toNat] } ++ { data := #[32] }) : ByteArray) = W at *
        have HB : Hid (Below w.heap.size w (w.alloc (.cells #[.int .u8 (48 + n)] 5))) := Lib.hid ((Below.refl _ _).alloc (Nat.le_refl _) _)
        have HCL : Hid (classR s n = if wordR s n.toNat ∈ wordsR 1 then 1 else if wordR s n.toNat ∈ wordsR 2 then 2 else if wordR s n.toNat ∈ wordsR 3 then 3 else if wordR s n.toNat ∈ wordsR 4 then 4 else 0) := Lib.hid (by unfold classR; rw [if_pos ⟨HV.out, by omega, by omega⟩]; rfl)
        have HHO : Hid (∀ c, 1 ≤ c ∧ c ≤ 4 → holdsB (namesR c) W.data.toList = decide (wordR s n.toNat ∈ wordsR c)) := Lib.hid (fun c hc => by rw [HWD.out]; exact holds_word HV.out (by omega) hc)
        clear hwd
        generalize w.alloc (.cells #[.int .u8 (48 + n)] 5) = Wa at *
        go_wp2_with fail
        go_loop [6] (fun cv => ∃ c : Nat, 1 ≤ c ∧ c ≤ 5 ∧ cv = .int .i64 c ∧ Hid (∀ j, 1 ≤ j → j < c → wordR s n.toNat ∉ wordsR j)) (fun cv => 5 - (intOf cv).toNat)
        case atStart => exact ⟨1, by decide, by decide, by go_num, Lib.hid (fun j h1 h2 => by omega)⟩
        case round =>
          obtain ⟨c, hc1, hc5, rfl, HK⟩ := hrel
          by_cases hlt : c ≤ 4
          · have hna := names_text c ⟨hc1, hlt⟩ Wa
            have hho := holds_any (namesS c) W Wa (Nat.le_trans (namesS_size c hlt) (by decide)) (by omega)
            have hq : holdsB (namesS c).data.toList W.data.toList = decide (wordR s n.toNat ∈ wordsR c) := by
              have e : (namesS c).data.toList = namesR c := by unfold namesS; simp
              rw [e]; exact HHO.out c ⟨hc1, hlt⟩
            rw [hq] at hho
            clear hq
            by_cases hm : wordR s n.toNat ∈ wordsR c
            · have E : Hid (classR s n = c) := Lib.hid (by
                rw [HCL.out]
                have n1 := HK.out 1; have n2 := HK.out 2; have n3 := HK.out 3
                rcases (show c = 1 ∨ c = 2 ∨ c = 3 ∨ c = 4 by omega) with rfl | rfl | rfl | rfl
                · rw [if_pos hm]; rfl
                · rw [if_neg (n1 (by decide) (by decide)), if_pos hm]; rfl
                · rw [if_neg (n1 (by decide) (by decide)), if_neg (n2 (by decide) (by decide)), if_pos hm]; rfl
                · rw [if_neg (n1 (by decide) (by decide)), if_neg (n2 (by decide) (by decide)), if_neg (n3 (by decide) (by decide)), if_pos hm]; rfl)
              rw [decide_eq_true hm] at hho
              clear hm
              go_wp2_with fail
              refine hna.mono ?_
              rintro e w1 ⟨rfl, rfl⟩
              go_wp2_with fail
              refine hho.mono ?_
              rintro e w1 ⟨rfl, rfl⟩
              go_wp2_with fail
              go_ret
              exact ⟨ret1 E.out.symm, HB.out⟩
            · have HN2 : Hid (∀ j, 1 ≤ j → j < c + 1 → wordR s n.toNat ∉ wordsR j) := Lib.hid (fun j h1 h2 => by
                rcases Nat.eq_or_lt_of_le (Nat.le_of_lt_succ h2) with e | e
                · subst e; exact hm
                · exact HK.out j h1 e)
              rw [decide_eq_false hm] at hho
              clear hm
              go_wp2_with fail
              refine hna.mono ?_
              rintro e w1 ⟨rfl, rfl⟩
              go_wp2_with fail
              refine hho.mono ?_
              rintro e w1 ⟨rfl, rfl⟩
              go_wp2_with fail
              go_round
              case rel => exact ⟨c + 1, by omega, by omega, by go_num, HN2⟩
              case measure => simp [intOf]; omega
          · have E : Hid (classR s n = 0) := Lib.hid (by
              rw [HCL.out, if_neg (HK.out 1 (by decide) (by omega)), if_neg (HK.out 2 (by decide) (by omega)), if_neg (HK.out 3 (by decide) (by omega)), if_neg (HK.out 4 (by decide) (by omega))])
            go_wp2_with fail
            go_ret
            exact ⟨ret1 E.out.symm, HB.out⟩
end Go.Proofs.YtghgbikmlbildaaGreatDoor
namespace Go.Proofs.YtghgbikmlbildaaGreatDoor
open Go.RowKit
set_option linter.unusedVariables false
set_option linter.unusedSimpArgs false

theorem xbox_new (w : World) (x : RIns) (so co' go' : Option Addr) (sc cc' gc' : Nat) : XBox (w.alloc (.cells #[.int .i64 x.op, .int .i64 x.dst.kind, .int .i64 x.dst.n, .slice so x.src.length sc, .int .i64 x.to, .int .i64 x.n, .int .i64 x.live, .string x.name, .slice co' x.cases.length cc', .slice go' x.segs.length gc'] 50)) w.heap.size x so co' go' sc cc' gc' := heap_alloc_new _ _
theorem neq_beq {l k : List UInt8} {b : Bool} (h : (l == k) = b) : (l != k) = !b := by rw [← h]; rfl
set_option maxRecDepth 100000 in
set_option maxHeartbeats 8000000 in
theorem rnamed_13 (x : RIns) (so co' go' : Option Addr) (sc cc' gc' : Nat) (w : World) (hs : x.name.size ≤ maxLen) (r2 : x.src.length ≤ 9223372036854775807) (r1 : I64 x.n) (hop : x.op = 13) :
    Calls Tryz.prog 41 #[.agg #[.int .i64 x.op, .int .i64 x.dst.kind, .int .i64 x.dst.n, .slice so x.src.length sc, .int .i64 x.to, .int .i64 x.n, .int .i64 x.live, .string x.name, .slice co' x.cases.length cc', .slice go' x.segs.length gc']] w fun e w' => e = .returned (.bool (namedB x)) ∧ Below w.heap.size w w' := by
  have E0 : Hid (namedB x = (((x.name.toList == [123, 125]) || ((x.name.toList == [124]) && ((x.src.length : Int) == 2))) || ((!(x.name.toList == [43, 43]) && operB x.name x.src.length) || (classB x.name x.src.length == 1)))) := Lib.hid (by unfold namedB; rw [if_pos hop])
  have HOP := Lib.hid hop
  clear hop
  go_enter Tryz.func41, Tryz.ntmps41
  go_upto_region 1 with fail
  have hX := xbox_new w x so co' go' sc cc' gc'
  have hBX : Below w.heap.size w (w.alloc (.cells #[.int .i64 x.op, .int .i64 x.dst.kind, .int .i64 x.dst.n, .slice so x.src.length sc, .int .i64 x.to, .int .i64 x.n, .int .i64 x.live, .string x.name, .slice co' x.cases.length cc', .slice go' x.segs.length gc'] 50)) := (Below.refl _ _).alloc (Nat.le_refl _) _
  generalize w.alloc (.cells #[.int .i64 x.op, .int .i64 x.dst.kind, .int .i64 x.dst.n, .slice so x.src.length sc, .int .i64 x.to, .int .i64 x.n, .int .i64 x.live, .string x.name, .slice co' x.cases.length cc', .slice go' x.segs.length gc'] 50) = W at *
  have hcl := rclass_any x.name x.src.length W hs
  rw [← classB_classR] at hcl
  have HX := Lib.hid hX; have HB := Lib.hid hBX
  have c0 := hX.c0; have c3 := hX.c3; have c5 := hX.c5; have c7 := hX.c7
  have hlx := hX.lt
  clear hX hBX
  rw [HOP.out] at c0
  generalize hBz : w.heap.size = B at *
  have HBZ := Lib.hid hBz
  clear hBz
  go_wp2_with fail
  refine hcl.mono ?_
  rintro e w1 ⟨rfl, hb1⟩
  have hX1 := HX.out.below hb1
  have HB1 : Hid (Below B w w1) := Lib.hid (HB.out.trans (hb1.mono (by have := HB.out.size; have := HBZ.out; omega)))
  have hbb := hb1.size
  clear hb1 c0 c3 c5 c7 hcl
  have c0 := hX1.c0; have c3 := hX1.c3; have c5 := hX1.c5; have c7 := hX1.c7
  have hlx1 := hX1.lt
  have HX1 := Lib.hid hX1
  clear hX1
  rw [HOP.out] at c0
  have hop2 := roper_any x.name x.src.length w1
  cases q1 : (classB x.name x.src.length == 1) with
  | true =>
    simp only [q1] at E0
    try simp only [Bool.true_or, Bool.or_true, Bool.false_or, Bool.or_false, Bool.and_true, Bool.and_false, Bool.true_and, Bool.false_and, Bool.not_true, Bool.not_false] at E0
    go_wp2_with fail
    refine hop2.mono ?_
    rintro e w2 ⟨rfl, rfl⟩
    go_wp2_with fail
    go_ret
    exact ⟨retb E0.out.symm, by rw [HBZ.out]; exact HB1.out⟩
  | false =>
    simp only [q1] at E0
    cases ob : operB x.name x.src.length with
    | true =>
      simp only [ob] at E0
      cases t0 : (x.name.toList == [43, 43]) with
      | true =>
        simp only [t0] at E0
        have t0' := neq_beq t0
        cases t1 : (x.name.toList == [123, 125]) with
        | true =>
          simp only [t1] at E0
          try simp only [Bool.true_or, Bool.or_true, Bool.false_or, Bool.or_false, Bool.and_true, Bool.and_false, Bool.true_and, Bool.false_and, Bool.not_true, Bool.not_false] at E0
          go_wp2_with fail
          refine hop2.mono ?_
          rintro e w2 ⟨rfl, rfl⟩
          go_wp2_with fail
          go_ret
          exact ⟨retb E0.out.symm, by rw [HBZ.out]; exact HB1.out⟩
        | false =>
          simp only [t1] at E0
          cases t2 : (x.name.toList == [124]) with
          | true =>
            simp only [t2] at E0
            cases q2 : ((x.src.length : Int) == 2) with
            | true =>
              simp only [q2] at E0
              try simp only [Bool.true_or, Bool.or_true, Bool.false_or, Bool.or_false, Bool.and_true, Bool.and_false, Bool.true_and, Bool.false_and, Bool.not_true, Bool.not_false] at E0
              go_wp2_with fail
              refine hop2.mono ?_
              rintro e w2 ⟨rfl, rfl⟩
              go_wp2_with fail
              go_ret
              exact ⟨retb E0.out.symm, by rw [HBZ.out]; exact HB1.out⟩
            | false =>
              simp only [q2] at E0
              try simp only [Bool.true_or, Bool.or_true, Bool.false_or, Bool.or_false, Bool.and_true, Bool.and_false, Bool.true_and, Bool.false_and, Bool.not_true, Bool.not_false] at E0
              go_wp2_with fail
              refine hop2.mono ?_
              rintro e w2 ⟨rfl, rfl⟩
              go_wp2_with fail
              go_ret
              exact ⟨retb E0.out.symm, by rw [HBZ.out]; exact HB1.out⟩
          | false =>
            simp only [t2] at E0
            try simp only [Bool.true_or, Bool.or_true, Bool.false_or, Bool.or_false, Bool.and_true, Bool.and_false, Bool.true_and, Bool.false_and, Bool.not_true, Bool.not_false] at E0
            go_wp2_with fail
            refine hop2.mono ?_
            rintro e w2 ⟨rfl, rfl⟩
            go_wp2_with fail
            go_ret
            exact ⟨retb E0.out.symm, by rw [HBZ.out]; exact HB1.out⟩
      | false =>
        simp only [t0] at E0
        have t0' := neq_beq t0
        try simp only [Bool.true_or, Bool.or_true, Bool.false_or, Bool.or_false, Bool.and_true, Bool.and_false, Bool.true_and, Bool.false_and, Bool.not_true, Bool.not_false] at E0
        go_wp2_with fail
        refine hop2.mono ?_
        rintro e w2 ⟨rfl, rfl⟩
        go_wp2_with fail
        go_ret
        exact ⟨retb E0.out.symm, by rw [HBZ.out]; exact HB1.out⟩
    | false =>
      simp only [ob] at E0
      cases t0 : (x.name.toList == [43, 43]) with
      | true =>
        simp only [t0] at E0
        have t0' := neq_beq t0
        cases t1 : (x.name.toList == [123, 125]) with
        | true =>
          simp only [t1] at E0
          try simp only [Bool.true_or, Bool.or_true, Bool.false_or, Bool.or_false, Bool.and_true, Bool.and_false, Bool.true_and, Bool.false_and, Bool.not_true, Bool.not_false] at E0
          go_wp2_with fail
          refine hop2.mono ?_
          rintro e w2 ⟨rfl, rfl⟩
          go_wp2_with fail
          go_ret
          exact ⟨retb E0.out.symm, by rw [HBZ.out]; exact HB1.out⟩
        | false =>
          simp only [t1] at E0
          cases t2 : (x.name.toList == [124]) with
          | true =>
            simp only [t2] at E0
            cases q2 : ((x.src.length : Int) == 2) with
            | true =>
              simp only [q2] at E0
              try simp only [Bool.true_or, Bool.or_true, Bool.false_or, Bool.or_false, Bool.and_true, Bool.and_false, Bool.true_and, Bool.false_and, Bool.not_true, Bool.not_false] at E0
              go_wp2_with fail
              refine hop2.mono ?_
              rintro e w2 ⟨rfl, rfl⟩
              go_wp2_with fail
              go_ret
              exact ⟨retb E0.out.symm, by rw [HBZ.out]; exact HB1.out⟩
            | false =>
              simp only [q2] at E0
              try simp only [Bool.true_or, Bool.or_true, Bool.false_or, Bool.or_false, Bool.and_true, Bool.and_false, Bool.true_and, Bool.false_and, Bool.not_true, Bool.not_false] at E0
              go_wp2_with fail
              refine hop2.mono ?_
              rintro e w2 ⟨rfl, rfl⟩
              go_wp2_with fail
              go_ret
              exact ⟨retb E0.out.symm, by rw [HBZ.out]; exact HB1.out⟩
          | false =>
            simp only [t2] at E0
            try simp only [Bool.true_or, Bool.or_true, Bool.false_or, Bool.or_false, Bool.and_true, Bool.and_false, Bool.true_and, Bool.false_and, Bool.not_true, Bool.not_false] at E0
            go_wp2_with fail
            refine hop2.mono ?_
            rintro e w2 ⟨rfl, rfl⟩
            go_wp2_with fail
            go_ret
            exact ⟨retb E0.out.symm, by rw [HBZ.out]; exact HB1.out⟩
      | false =>
        simp only [t0] at E0
        have t0' := neq_beq t0
        cases t1 : (x.name.toList == [123, 125]) with
        | true =>
          simp only [t1] at E0
          try simp only [Bool.true_or, Bool.or_true, Bool.false_or, Bool.or_false, Bool.and_true, Bool.and_false, Bool.true_and, Bool.false_and, Bool.not_true, Bool.not_false] at E0
          go_wp2_with fail
          refine hop2.mono ?_
          rintro e w2 ⟨rfl, rfl⟩
          go_wp2_with fail
          go_ret
          exact ⟨retb E0.out.symm, by rw [HBZ.out]; exact HB1.out⟩
        | false =>
          simp only [t1] at E0
          cases t2 : (x.name.toList == [124]) with
          | true =>
            simp only [t2] at E0
            cases q2 : ((x.src.length : Int) == 2) with
            | true =>
              simp only [q2] at E0
              try simp only [Bool.true_or, Bool.or_true, Bool.false_or, Bool.or_false, Bool.and_true, Bool.and_false, Bool.true_and, Bool.false_and, Bool.not_true, Bool.not_false] at E0
              go_wp2_with fail
              refine hop2.mono ?_
              rintro e w2 ⟨rfl, rfl⟩
              go_wp2_with fail
              go_ret
              exact ⟨retb E0.out.symm, by rw [HBZ.out]; exact HB1.out⟩
            | false =>
              simp only [q2] at E0
              try simp only [Bool.true_or, Bool.or_true, Bool.false_or, Bool.or_false, Bool.and_true, Bool.and_false, Bool.true_and, Bool.false_and, Bool.not_true, Bool.not_false] at E0
              go_wp2_with fail
              refine hop2.mono ?_
              rintro e w2 ⟨rfl, rfl⟩
              go_wp2_with fail
              go_ret
              exact ⟨retb E0.out.symm, by rw [HBZ.out]; exact HB1.out⟩
          | false =>
            simp only [t2] at E0
            try simp only [Bool.true_or, Bool.or_true, Bool.false_or, Bool.or_false, Bool.and_true, Bool.and_false, Bool.true_and, Bool.false_and, Bool.not_true, Bool.not_false] at E0
            go_wp2_with fail
            refine hop2.mono ?_
            rintro e w2 ⟨rfl, rfl⟩
            go_wp2_with fail
            go_ret
            exact ⟨retb E0.out.symm, by rw [HBZ.out]; exact HB1.out⟩
set_option maxRecDepth 100000 in
set_option maxHeartbeats 8000000 in
theorem rnamed_14 (x : RIns) (so co' go' : Option Addr) (sc cc' gc' : Nat) (w : World) (hs : x.name.size ≤ maxLen) (r2 : x.src.length ≤ 9223372036854775807) (r1 : I64 x.n) (hop : x.op = 14) :
    Calls Tryz.prog 41 #[.agg #[.int .i64 x.op, .int .i64 x.dst.kind, .int .i64 x.dst.n, .slice so x.src.length sc, .int .i64 x.to, .int .i64 x.n, .int .i64 x.live, .string x.name, .slice co' x.cases.length cc', .slice go' x.segs.length gc']] w fun e w' => e = .returned (.bool (namedB x)) ∧ Below w.heap.size w w' := by
  have E0 : Hid (namedB x = ((operB x.name x.src.length || (classB x.name x.src.length == 1)) || (classB x.name x.src.length == 2))) := Lib.hid (by unfold namedB; rw [if_neg (by omega), if_pos hop])
  have HOP := Lib.hid hop
  clear hop
  go_enter Tryz.func41, Tryz.ntmps41
  go_upto_region 1 with fail
  have hX := xbox_new w x so co' go' sc cc' gc'
  have hBX : Below w.heap.size w (w.alloc (.cells #[.int .i64 x.op, .int .i64 x.dst.kind, .int .i64 x.dst.n, .slice so x.src.length sc, .int .i64 x.to, .int .i64 x.n, .int .i64 x.live, .string x.name, .slice co' x.cases.length cc', .slice go' x.segs.length gc'] 50)) := (Below.refl _ _).alloc (Nat.le_refl _) _
  generalize w.alloc (.cells #[.int .i64 x.op, .int .i64 x.dst.kind, .int .i64 x.dst.n, .slice so x.src.length sc, .int .i64 x.to, .int .i64 x.n, .int .i64 x.live, .string x.name, .slice co' x.cases.length cc', .slice go' x.segs.length gc'] 50) = W at *
  have hcl := rclass_any x.name x.src.length W hs
  rw [← classB_classR] at hcl
  have HX := Lib.hid hX; have HB := Lib.hid hBX
  have c0 := hX.c0; have c3 := hX.c3; have c5 := hX.c5; have c7 := hX.c7
  have hlx := hX.lt
  clear hX hBX
  rw [HOP.out] at c0
  generalize hBz : w.heap.size = B at *
  have HBZ := Lib.hid hBz
  clear hBz
  go_wp2_with fail
  refine hcl.mono ?_
  rintro e w1 ⟨rfl, hb1⟩
  have hX1 := HX.out.below hb1
  have HB1 : Hid (Below B w w1) := Lib.hid (HB.out.trans (hb1.mono (by have := HB.out.size; have := HBZ.out; omega)))
  have hbb := hb1.size
  clear hb1 c0 c3 c5 c7 hcl
  have c0 := hX1.c0; have c3 := hX1.c3; have c5 := hX1.c5; have c7 := hX1.c7
  have hlx1 := hX1.lt
  have HX1 := Lib.hid hX1
  clear hX1
  rw [HOP.out] at c0
  have hop2 := roper_any x.name x.src.length w1
  cases q1 : (classB x.name x.src.length == 1) with
  | true =>
    simp only [q1] at E0
    try simp only [Bool.true_or, Bool.or_true, Bool.false_or, Bool.or_false, Bool.and_true, Bool.and_false, Bool.true_and, Bool.false_and, Bool.not_true, Bool.not_false] at E0
    go_wp2_with fail
    refine hop2.mono ?_
    rintro e w2 ⟨rfl, rfl⟩
    go_wp2_with fail
    go_ret
    exact ⟨retb E0.out.symm, by rw [HBZ.out]; exact HB1.out⟩
  | false =>
    simp only [q1] at E0
    cases q2 : (classB x.name x.src.length == 2) with
    | true =>
      simp only [q2] at E0
      try simp only [Bool.true_or, Bool.or_true, Bool.false_or, Bool.or_false, Bool.and_true, Bool.and_false, Bool.true_and, Bool.false_and, Bool.not_true, Bool.not_false] at E0
      go_wp2_with fail
      refine hop2.mono ?_
      rintro e w2 ⟨rfl, rfl⟩
      go_wp2_with fail
      go_ret
      exact ⟨retb E0.out.symm, by rw [HBZ.out]; exact HB1.out⟩
    | false =>
      simp only [q2] at E0
      try simp only [Bool.true_or, Bool.or_true, Bool.false_or, Bool.or_false, Bool.and_true, Bool.and_false, Bool.true_and, Bool.false_and, Bool.not_true, Bool.not_false] at E0
      go_wp2_with fail
      refine hop2.mono ?_
      rintro e w2 ⟨rfl, rfl⟩
      go_wp2_with fail
      go_ret
      exact ⟨retb E0.out.symm, by rw [HBZ.out]; exact HB1.out⟩
set_option maxRecDepth 100000 in
set_option maxHeartbeats 8000000 in
theorem rnamed_15 (x : RIns) (so co' go' : Option Addr) (sc cc' gc' : Nat) (w : World) (hs : x.name.size ≤ maxLen) (r2 : x.src.length ≤ 9223372036854775807) (r1 : I64 x.n) (hop : x.op = 15) :
    Calls Tryz.prog 41 #[.agg #[.int .i64 x.op, .int .i64 x.dst.kind, .int .i64 x.dst.n, .slice so x.src.length sc, .int .i64 x.to, .int .i64 x.n, .int .i64 x.live, .string x.name, .slice co' x.cases.length cc', .slice go' x.segs.length gc']] w fun e w' => e = .returned (.bool (namedB x)) ∧ Below w.heap.size w w' := by
  have E0 : Hid (namedB x = (((x.name.toList == [33]) && (x.n == 2)) || (classB x.name x.n == 3))) := Lib.hid (by unfold namedB; rw [if_neg (by omega), if_neg (by omega), if_pos hop])
  have HOP := Lib.hid hop
  clear hop
  go_enter Tryz.func41, Tryz.ntmps41
  go_upto_region 1 with fail
  have hX := xbox_new w x so co' go' sc cc' gc'
  have hBX : Below w.heap.size w (w.alloc (.cells #[.int .i64 x.op, .int .i64 x.dst.kind, .int .i64 x.dst.n, .slice so x.src.length sc, .int .i64 x.to, .int .i64 x.n, .int .i64 x.live, .string x.name, .slice co' x.cases.length cc', .slice go' x.segs.length gc'] 50)) := (Below.refl _ _).alloc (Nat.le_refl _) _
  generalize w.alloc (.cells #[.int .i64 x.op, .int .i64 x.dst.kind, .int .i64 x.dst.n, .slice so x.src.length sc, .int .i64 x.to, .int .i64 x.n, .int .i64 x.live, .string x.name, .slice co' x.cases.length cc', .slice go' x.segs.length gc'] 50) = W at *
  have hcl := rclass_any x.name x.src.length W hs
  rw [← classB_classR] at hcl
  have HX := Lib.hid hX; have HB := Lib.hid hBX
  have c0 := hX.c0; have c3 := hX.c3; have c5 := hX.c5; have c7 := hX.c7
  have hlx := hX.lt
  clear hX hBX
  rw [HOP.out] at c0
  generalize hBz : w.heap.size = B at *
  have HBZ := Lib.hid hBz
  clear hBz
  go_wp2_with fail
  refine hcl.mono ?_
  rintro e w1 ⟨rfl, hb1⟩
  have hX1 := HX.out.below hb1
  have HB1 : Hid (Below B w w1) := Lib.hid (HB.out.trans (hb1.mono (by have := HB.out.size; have := HBZ.out; omega)))
  have hbb := hb1.size
  clear hb1 c0 c3 c5 c7 hcl
  have c0 := hX1.c0; have c3 := hX1.c3; have c5 := hX1.c5; have c7 := hX1.c7
  have hlx1 := hX1.lt
  have HX1 := Lib.hid hX1
  clear hX1
  rw [HOP.out] at c0
  have hop2 := roper_any x.name x.src.length w1
  have hc2 := rclass_any x.name x.n w1 hs
  rw [← classB_classR] at hc2
  cases q3 : (classB x.name x.n == 3) with
  | true =>
    simp only [q3] at E0
    try simp only [Bool.true_or, Bool.or_true, Bool.false_or, Bool.or_false, Bool.and_true, Bool.and_false, Bool.true_and, Bool.false_and, Bool.not_true, Bool.not_false] at E0
    go_wp2_with fail
    refine hop2.mono ?_
    rintro e w2 ⟨rfl, rfl⟩
    go_wp2_with fail
    refine hc2.mono ?_
    rintro e w3 ⟨rfl, hb3⟩
    have c5' := (HX1.out.below hb3).c5; have c7' := (HX1.out.below hb3).c7
    have hlx3 := (HX1.out.below hb3).lt
    have HB3 : Hid (Below B w w3) := Lib.hid (HB1.out.trans (hb3.mono (by have := HB1.out.size; have := HBZ.out; omega)))
    clear hb3 c0 c3 c5 c7
    go_wp2_with fail
    go_ret
    exact ⟨retb E0.out.symm, by rw [HBZ.out]; exact HB3.out⟩
  | false =>
    simp only [q3] at E0
    cases t1 : (x.name.toList == [33]) with
    | true =>
      simp only [t1] at E0
      cases q2 : (x.n == 2) with
      | true =>
        simp only [q2] at E0
        try simp only [Bool.true_or, Bool.or_true, Bool.false_or, Bool.or_false, Bool.and_true, Bool.and_false, Bool.true_and, Bool.false_and, Bool.not_true, Bool.not_false] at E0
        go_wp2_with fail
        refine hop2.mono ?_
        rintro e w2 ⟨rfl, rfl⟩
        go_wp2_with fail
        refine hc2.mono ?_
        rintro e w3 ⟨rfl, hb3⟩
        have c5' := (HX1.out.below hb3).c5; have c7' := (HX1.out.below hb3).c7
        have hlx3 := (HX1.out.below hb3).lt
        have HB3 : Hid (Below B w w3) := Lib.hid (HB1.out.trans (hb3.mono (by have := HB1.out.size; have := HBZ.out; omega)))
        clear hb3 c0 c3 c5 c7
        go_wp2_with fail
        go_ret
        exact ⟨retb E0.out.symm, by rw [HBZ.out]; exact HB3.out⟩
      | false =>
        simp only [q2] at E0
        try simp only [Bool.true_or, Bool.or_true, Bool.false_or, Bool.or_false, Bool.and_true, Bool.and_false, Bool.true_and, Bool.false_and, Bool.not_true, Bool.not_false] at E0
        go_wp2_with fail
        refine hop2.mono ?_
        rintro e w2 ⟨rfl, rfl⟩
        go_wp2_with fail
        refine hc2.mono ?_
        rintro e w3 ⟨rfl, hb3⟩
        have c5' := (HX1.out.below hb3).c5; have c7' := (HX1.out.below hb3).c7
        have hlx3 := (HX1.out.below hb3).lt
        have HB3 : Hid (Below B w w3) := Lib.hid (HB1.out.trans (hb3.mono (by have := HB1.out.size; have := HBZ.out; omega)))
        clear hb3 c0 c3 c5 c7
        go_wp2_with fail
        go_ret
        exact ⟨retb E0.out.symm, by rw [HBZ.out]; exact HB3.out⟩
    | false =>
      simp only [t1] at E0
      try simp only [Bool.true_or, Bool.or_true, Bool.false_or, Bool.or_false, Bool.and_true, Bool.and_false, Bool.true_and, Bool.false_and, Bool.not_true, Bool.not_false] at E0
      go_wp2_with fail
      refine hop2.mono ?_
      rintro e w2 ⟨rfl, rfl⟩
      go_wp2_with fail
      refine hc2.mono ?_
      rintro e w3 ⟨rfl, hb3⟩
      have c5' := (HX1.out.below hb3).c5; have c7' := (HX1.out.below hb3).c7
      have hlx3 := (HX1.out.below hb3).lt
      have HB3 : Hid (Below B w w3) := Lib.hid (HB1.out.trans (hb3.mono (by have := HB1.out.size; have := HBZ.out; omega)))
      clear hb3 c0 c3 c5 c7
      go_wp2_with fail
      go_ret
      exact ⟨retb E0.out.symm, by rw [HBZ.out]; exact HB3.out⟩
set_option maxRecDepth 100000 in
set_option maxHeartbeats 8000000 in
theorem rnamed_rest (x : RIns) (so co' go' : Option Addr) (sc cc' gc' : Nat) (w : World) (hs : x.name.size ≤ maxLen) (r2 : x.src.length ≤ 9223372036854775807) (r1 : I64 x.n) (h13 : ¬ x.op = 13) (h14 : ¬ x.op = 14) (h15 : ¬ x.op = 15) :
    Calls Tryz.prog 41 #[.agg #[.int .i64 x.op, .int .i64 x.dst.kind, .int .i64 x.dst.n, .slice so x.src.length sc, .int .i64 x.to, .int .i64 x.n, .int .i64 x.live, .string x.name, .slice co' x.cases.length cc', .slice go' x.segs.length gc']] w fun e w' => e = .returned (.bool (namedB x)) ∧ Below w.heap.size w w' := by
  have E0 : Hid (namedB x = true) := Lib.hid (by unfold namedB; rw [if_neg h13, if_neg h14, if_neg h15])
  have t13 : (x.op == 13) = false := beq_eq_false_iff_ne.2 h13
  have t14 : (x.op == 14) = false := beq_eq_false_iff_ne.2 h14
  have t15 : (x.op == 15) = false := beq_eq_false_iff_ne.2 h15
  clear h13 h14 h15
  go_enter Tryz.func41, Tryz.ntmps41
  go_upto_region 1 with fail
  have hX := xbox_new w x so co' go' sc cc' gc'
  have hBX : Below w.heap.size w (w.alloc (.cells #[.int .i64 x.op, .int .i64 x.dst.kind, .int .i64 x.dst.n, .slice so x.src.length sc, .int .i64 x.to, .int .i64 x.n, .int .i64 x.live, .string x.name, .slice co' x.cases.length cc', .slice go' x.segs.length gc'] 50)) := (Below.refl _ _).alloc (Nat.le_refl _) _
  generalize w.alloc (.cells #[.int .i64 x.op, .int .i64 x.dst.kind, .int .i64 x.dst.n, .slice so x.src.length sc, .int .i64 x.to, .int .i64 x.n, .int .i64 x.live, .string x.name, .slice co' x.cases.length cc', .slice go' x.segs.length gc'] 50) = W at *
  have hcl := rclass_any x.name x.src.length W hs
  rw [← classB_classR] at hcl
  have HX := Lib.hid hX; have HB := Lib.hid hBX
  have c0 := hX.c0; have c3 := hX.c3; have c5 := hX.c5; have c7 := hX.c7
  have hlx := hX.lt
  clear hX hBX
  generalize hBz : w.heap.size = B at *
  have HBZ := Lib.hid hBz
  clear hBz
  go_wp2_with fail
  refine hcl.mono ?_
  rintro e w1 ⟨rfl, hb1⟩
  have hX1 := HX.out.below hb1
  have HB1 : Hid (Below B w w1) := Lib.hid (HB.out.trans (hb1.mono (by have := HB.out.size; have := HBZ.out; omega)))
  have hbb := hb1.size
  clear hb1 c0 c3 c5 c7 hcl
  have c0 := hX1.c0; have c3 := hX1.c3; have c5 := hX1.c5; have c7 := hX1.c7
  have hlx1 := hX1.lt
  have HX1 := Lib.hid hX1
  clear hX1
  have hop2 := roper_any x.name x.src.length w1
  go_wp2_with fail
  refine hop2.mono ?_
  rintro e w2 ⟨rfl, rfl⟩
  go_wp2_with fail
  go_ret
  exact ⟨retb E0.out.symm, by rw [HBZ.out]; exact HB1.out⟩
theorem rnamed_any (x : RIns) (so co' go' : Option Addr) (sc cc' gc' : Nat) (w : World) (hs : x.name.size ≤ maxLen) (r2 : x.src.length ≤ 9223372036854775807) (r1 : I64 x.n) :
    Calls Tryz.prog 41 #[.agg #[.int .i64 x.op, .int .i64 x.dst.kind, .int .i64 x.dst.n, .slice so x.src.length sc, .int .i64 x.to, .int .i64 x.n, .int .i64 x.live, .string x.name, .slice co' x.cases.length cc', .slice go' x.segs.length gc']] w fun e w' => e = .returned (.bool (namedB x)) ∧ Below w.heap.size w w' := by
  by_cases h13 : x.op = 13
  · exact rnamed_13 x so co' go' sc cc' gc' w hs r2 r1 h13
  by_cases h14 : x.op = 14
  · exact rnamed_14 x so co' go' sc cc' gc' w hs r2 r1 h14
  by_cases h15 : x.op = 15
  · exact rnamed_15 x so co' go' sc cc' gc' w hs r2 r1 h15
  exact rnamed_rest x so co' go' sc cc' gc' w hs r2 r1 h13 h14 h15
end Go.Proofs.YtghgbikmlbildaaGreatDoor
namespace Go.Proofs.YtghgbikmlbildaaGreatDoor
open Go.RowKit
set_option linter.unusedVariables false
set_option linter.unusedSimpArgs false

theorem rrow_fields (nl : Nat) (x : RIns) (h : 1 ≤ x.op ∧ x.op ≤ 40) : formedB nl x (rrow x.op) = fieldsB nl x (rowAt x.op).1.toNat (rowAt x.op).2.1.toNat (rowAt x.op).2.2.toNat := by
  rw [rrow_is h, ← formed_fields]
  have hk : x.op.toNat < 41 := by omega
  have hr : rowAt x.op = rowT[x.op.toNat]'hk := by unfold rowAt; rw [List.getElem?_eq_getElem (by exact hk)]; rfl
  have := rowT_nat x.op.toNat hk
  rw [hr, Int.toNat_of_nonneg this.2.2.1, Int.toNat_of_nonneg this.2.2.2.2.1]
theorem rrow_targets (code : List RIns) (i : Nat) (x : RIns) (h : 1 ≤ x.op ∧ x.op ≤ 40) : targetsG code i x (rrow x.op).g = targetsB code i x (rowAt x.op).1.toNat := by
  rw [rrow_is h]; exact targetsG_is code i x _
def RBx (w : World) (Z : Nat) (r : RRow) : Prop := w.heap[Z]? = some (.cells r.val 65 (0, 0))
set_option maxRecDepth 100000 in
set_option maxHeartbeats 40000000 in
theorem rcheck_any (f : Nat) (u : RUnit) (lo fo go co : Option Addr) (lc fc gc cc : Nat) (w : World) (hp : UP w u lo fo go co) (hlits : SlAt w 9 (TmAt w (f + 1)) lo u.lits) (hcap : ∀ t ∈ u.lits, (capF (f + 1) t : Int) ≤ 1152921504606846976) :
    Calls Tryz.prog 14 #[.agg #[.string u.mdl, .int .i64 u.vsn, .slice lo u.lits.length lc, .slice fo u.funcs.length fc, .slice go u.funs.length gc, .slice co u.code.length cc]] w fun e w' => e = .returned (.tuple #[.int .i64 (checkI (f + 1) u), .int .i64 (checkE (f + 1) u)]) ∧ Below w.heap.size w w' := by
  have HP0 := Lib.hid hp; have HLI0 := Lib.hid hlits; have HCAP := Lib.hid hcap
  have hcl := hp.codeLen
  clear hp hlits hcap
  have hbx := ubox_new w u lo fo go co lc fc gc cc
  have hba : Below w.heap.size w (w.alloc (.cells #[.string u.mdl, .int .i64 u.vsn, .slice lo u.lits.length lc, .slice fo u.funcs.length fc, .slice go u.funs.length gc, .slice co u.code.length cc] 27)) := (Below.refl _ _).alloc (Nat.le_refl _) _
  have HT := Lib.hid (rtables_any f u lo fo go co lc fc gc cc _ (HP0.out.below hba) (HLI0.out.tms hba) HCAP.out)
  have EI : Hid (checkI (f + 1) u = if tablesB (f + 1) u = true then (match badFrom u u.code 0 with | some i => (i : Int) | none => 0) else -1) := Lib.hid rfl
  have EE : Hid (checkE (f + 1) u = if tablesB (f + 1) u = true then (match badFrom u u.code 0 with | some _ => 6 | none => 0) else 6) := Lib.hid rfl
  have HLV : Hid (tablesB (f + 1) u = true → ∀ t ∈ u.lits, validF (f + 1) t = true) := Lib.hid lits_valid
  go_enter Tryz.func14, Tryz.ntmps14
  go_upto_region 1 with fail
  generalize w.alloc (.cells #[.string u.mdl, .int .i64 u.vsn, .slice lo u.lits.length lc, .slice fo u.funcs.length fc, .slice go u.funs.length gc, .slice co u.code.length cc] 27) = W at *
  have HBA := Lib.hid hba
  have HP := Lib.hid (HP0.out.below hba)
  have HLI := Lib.hid (HLI0.out.tms hba)
  clear hba HP0 HLI0
  generalize hBz : w.heap.size = B at *
  have HBZ := Lib.hid hBz
  clear hBz
  have HFIN : Hid (∀ wx, Below W.heap.size W wx → Below B w wx) := Lib.hid (fun wx hh => HBA.out.trans (hh.mono (by have := HBA.out.size; have := HBZ.out; omega)))
  have HU := Lib.hid hbx
  have z0 := hbx.c0; have z1 := hbx.c1; have z2 := hbx.c2; have z3 := hbx.c3; have z4 := hbx.c4; have z5 := hbx.c5
  have hlu := hbx.lt
  clear hbx
  generalize tablesB (f + 1) u = tb at *
  cases tb with
  | false =>
    rw [if_neg (by decide)] at EI EE
    go_wp2_with fail
    refine HT.out.mono ?_
    rintro e w5 ⟨rfl, hb5⟩
    go_wp2_with fail
    go_ret2
    exact ⟨ret_ii EI.out.symm EE.out.symm, by rw [HBZ.out]; exact HFIN.out _ hb5⟩
  | true =>
    rw [if_pos rfl] at EI EE
    have HI : Hid (badFrom u u.code 0 = badFrom u (u.code.drop 0) 0) := Lib.hid rfl
    go_wp2_with fail
    refine HT.out.mono ?_
    rintro e w5 ⟨rfl, hb5⟩
    have HB5 := Lib.hid hb5
    clear z0 z1 z2 z3 z4 z5 hlu
    have z5 := (HU.out.below hb5).c5
    clear hb5
    go_wp2_with fail
    go_loopw [4, 5, 6, 7] (fun i _ _ _ wr => ∃ k : Nat, k ≤ u.code.length ∧ i = .int .i64 k ∧ Hid (badFrom u u.code 0 = badFrom u (u.code.drop k) k) ∧ Below W.heap.size W wr) (fun i _ _ _ _ => u.code.length - (intOf i).toNat)
    case atStart => exact ⟨0, Nat.zero_le _, rfl, HI, HB5.out⟩
    case round =>
      obtain ⟨k, hk, rfl, HK, hBw⟩ := hrel
      rename World => wr
      clear z5 HI HB5
      have HBW := Lib.hid hBw
      have z5 := (HU.out.below hBw).c5
      have hlu := (HU.out.below hBw).lt
      clear hBw
      by_cases hlt : k < u.code.length
      · obtain ⟨bc, oc, so, co', go', sc, cc', gc', hco, hxb⟩ := ibox_of (HP.out.below HBW.out).code hlt
        subst hco
        have HST := Lib.hid (bad_step u hlt)
        have k0 := hxb.c0; have k1 := hxb.c1; have k2 := hxb.c2; have k3 := hxb.c3; have k4 := hxb.c4; have k5 := hxb.c5; have k6 := hxb.c6; have k7 := hxb.c7; have k8 := hxb.c8; have k9 := hxb.c9
        have hkl := hxb.lt
        have HXB := Lib.hid hxb
        have HINS : Hid (insB u k u.code[k] = (opOk u.code[k].op && (fieldsB u.lits.length u.code[k] (rowAt u.code[k].op).1.toNat (rowAt u.code[k].op).2.1.toNat (rowAt u.code[k].op).2.2.toNat && (numberB u.funcs.length u.funs u.code[k] && (namedB u.code[k] && (listsB u.lits u.code[k] && targetsB u.code k u.code[k] (rowAt u.code[k].op).1.toNat)))))) := Lib.hid rfl
        have HRF : Hid (1 ≤ u.code[k].op ∧ u.code[k].op ≤ 40 → formedB u.lits.length u.code[k] (rrow u.code[k].op) = fieldsB u.lits.length u.code[k] (rowAt u.code[k].op).1.toNat (rowAt u.code[k].op).2.1.toNat (rowAt u.code[k].op).2.2.toNat) := Lib.hid (fun h => rrow_fields _ _ h)
        have HRT : Hid (1 ≤ u.code[k].op ∧ u.code[k].op ≤ 40 → targetsG u.code k u.code[k] (rrow u.code[k].op).g = targetsB u.code k u.code[k] (rowAt u.code[k].op).1.toNat) := Lib.hid (fun h => rrow_targets _ _ _ h)
        have hro := fun wx => rrowOf_any u.code[k].op wx
        have hbad : insB u k u.code[k] = false → badFrom u u.code 0 = some k := fun e => by rw [HK.out, HST.out, e]; rfl
        have hgood : insB u k u.code[k] = true → badFrom u u.code 0 = badFrom u (u.code.drop (k + 1)) (k + 1) := fun e => by rw [HK.out, HST.out, e]; rfl
        have hlx := hxb.rsrc; have hlcs := hxb.rcases; have hlsg := hxb.rsegs; have hnm := hxb.rname; have hnn := hxb.rn; have hdk := And.intro hxb.rdk hxb.rdn
        have CF := Lib.hid (fun wx (hx : Below W.heap.size W wx) (hb : Below wr.heap.size wr wx) => rformed_any u lo fo go (some ⟨bc, oc, none⟩) lc fc gc cc u.code[k] so co' go' sc cc' gc' (rrow u.code[k].op) wx HP.out.litsLen (hxb.src.mono hb fun _ _ h => h) hdk hlx hlcs hlsg)
        have CN := Lib.hid (fun wx (hx : Below W.heap.size W wx) (hb : Below wr.heap.size wr wx) => rnumber_any u lo fo go (some ⟨bc, oc, none⟩) lc fc gc cc u.code[k] so co' go' sc cc' gc' wx HP.out.funcsLen HP.out.funsLen (HP.out.below hx).funs hnn hlx)
        have CM := Lib.hid (fun wx (hx : Below W.heap.size W wx) (hb : Below wr.heap.size wr wx) => rnamed_any u.code[k] so co' go' sc cc' gc' wx hnm hlx hnn)
        have CL := Lib.hid (fun wx (hx : Below W.heap.size W wx) (hb : Below wr.heap.size wr wx) => rcases_any u lo fo go (some ⟨bc, oc, none⟩) lc fc gc cc u.code[k] so co' go' sc cc' gc' f wx HP.out.litsLen ⟨HLI.out.tms hx, fun t ht => ⟨HLV.out (by trivial) t ht, HCAP.out t ht⟩⟩ (hxb.cases.mono hb fun _ _ h => h) (hxb.segs.mono hb fun _ _ h => h) hlcs hlsg)
        have CT := Lib.hid (fun wx (hx : Below W.heap.size W wx) (hb : Below wr.heap.size wr wx) => rtargets_any u lo fo go (some ⟨bc, oc, none⟩) lc fc gc cc k (rrow u.code[k].op) wx (HP.out.below hx).code hcl hlt)
        have HBAD := Lib.hid hbad; have HGOOD := Lib.hid hgood
        clear hbad hgood hxb HST HXB hlx hlcs hlsg hnm hnn hdk
        have hXB := fun (wx : World) => heap_alloc_new wx (.cells #[.int .i64 u.code[k].op, .int .i64 u.code[k].dst.kind, .int .i64 u.code[k].dst.n, .slice so u.code[k].src.length sc, .int .i64 u.code[k].to, .int .i64 u.code[k].n, .int .i64 u.code[k].live, .string u.code[k].name, .slice co' u.code[k].cases.length cc', .slice go' u.code[k].segs.length gc'] 50)
        have HXN := Lib.hid hXB
        clear hXB
        generalize formedB u.lits.length u.code[k] (rrow u.code[k].op) = b1 at *
        generalize targetsG u.code k u.code[k] (rrow u.code[k].op).g = b5 at *
        generalize numberB u.funcs.length u.funs u.code[k] = b2 at *
        generalize namedB u.code[k] = b3 at *
        generalize listsB u.lits u.code[k] = b4 at *
        generalize insB u k u.code[k] = ib at *
        have hopk : opOk u.code[k].op = true → 1 ≤ u.code[k].op ∧ u.code[k].op ≤ 40 := fun h => of_decide_eq_true h
        have HOPK := Lib.hid hopk
        clear hopk
        generalize fieldsB u.lits.length u.code[k] (rowAt u.code[k].op).1.toNat (rowAt u.code[k].op).2.1.toNat (rowAt u.code[k].op).2.2.toNat = f1 at *
        generalize targetsB u.code k u.code[k] (rowAt u.code[k].op).1.toNat = f5 at *
        have HIB : Hid (ib = (opOk u.code[k].op && (b1 && (b2 && (b3 && (b4 && b5)))))) := Lib.hid (by
          rw [HINS.out]
          cases h : opOk u.code[k].op with
          | false => rfl
          | true => rw [HRF.out (HOPK.out h), HRT.out (HOPK.out h)])
        clear HINS HRF HRT HOPK
        generalize opOk u.code[k].op = b0 at *
        generalize hrw : rrow u.code[k].op = rw0 at *
        obtain ⟨ra, rb, rc, rd, re, rf, rg, rh, rlo, rhi⟩ := rw0
        clear hrw
        simp only [RRow.val] at hro CF CT
        generalize u.code[k] = x at *
        obtain ⟨op, ⟨dk, dn⟩, src, jt, nn, lv, nm, cases, segs⟩ := x
        simp only at *
        generalize src.length = sl at *
        generalize cases.length = cl at *
        generalize segs.length = gl at *
        go_upto_region 7 with fail
        have hx1 := HXN.out wr
        have hxb1 : Below wr.heap.size wr (wr.alloc (.cells #[.int .i64 op, .int .i64 dk, .int .i64 dn, .slice so sl sc, .int .i64 jt, .int .i64 nn, .int .i64 lv, .string nm, .slice co' cl cc', .slice go' gl gc'] 50)) := (Below.refl _ _).alloc (Nat.le_refl _) _
        generalize wr.alloc (.cells #[.int .i64 op, .int .i64 dk, .int .i64 dn, .slice so sl sc, .int .i64 jt, .int .i64 nn, .int .i64 lv, .string nm, .slice co' cl cc', .slice go' gl gc'] 50) = W1 at *
        clear HXN
        have HX1 := Lib.hid hx1
        have HB1 := Lib.hid hxb1
        have x0 : W1.cell? ⟨wr.heap.size, 0, none⟩ = some (.int .i64 op) := by rw [cell_of_row _ _ _ _ _ _ hx1]; rfl
        have hlx1 := lt_of_row hx1
        clear k0 k1 k2 k3 k4 k5 k6 k7 k8 k9 z5 hlu hkl hx1 hxb1
        generalize hXz : wr.heap.size = X at *
        have HXZ := Lib.hid hXz
        clear hXz
        go_wp2_with fail
        refine (hro _).mono ?_
        rintro e w2 ⟨rfl, hb2⟩
        go_upto_region 8 with fail
        have hr1 := heap_alloc_new w2 (.cells #[.bool ra, .bool rb, .bool rc, .bool rd, .bool re, .bool rf, .bool rg, .bool rh, .int .i64 rlo, .int .i64 rhi] 65)
        have hrb1 : Below w2.heap.size w2 (w2.alloc (.cells #[.bool ra, .bool rb, .bool rc, .bool rd, .bool re, .bool rf, .bool rg, .bool rh, .int .i64 rlo, .int .i64 rhi] 65)) := (Below.refl _ _).alloc (Nat.le_refl _) _
        generalize w2.alloc (.cells #[.bool ra, .bool rb, .bool rc, .bool rd, .bool re, .bool rf, .bool rg, .bool rh, .int .i64 rlo, .int .i64 rhi] 65) = W2 at *
        have HR1 := Lib.hid hr1
        have HB2 : Hid (Below wr.heap.size wr W2) := Lib.hid ((show Below wr.heap.size wr W1 by rw [HXZ.out]; exact HB1.out).trans ((hb2.trans (hrb1.mono hb2.size)).mono (by have := HB1.out.size; have := HXZ.out; omega)))
        have HX2 : Hid (W2.heap[X]? = some (.cells #[.int .i64 op, .int .i64 dk, .int .i64 dn, .slice so sl sc, .int .i64 jt, .int .i64 nn, .int .i64 lv, .string nm, .slice co' cl cc', .slice go' gl gc'] 50 (0, 0))) := Lib.hid (((hb2.trans (hrb1.mono hb2.size)).block X hlx1).trans HX1.out)
        have HBW2 : Hid (Below W.heap.size W W2) := Lib.hid (below_next HBW.out HB2.out)
        clear x0 hlx1 hb2 hrb1 hr1 HX1 HB1
        generalize hRz : w2.heap.size = Z at *
        have HRZ := Lib.hid hRz
        clear hRz
        cases b0 with
        | false =>
          have hb := HBAD.out HIB.out
          have E1 : Hid (checkI (f + 1) u = k) := Lib.hid (by rw [EI.out, hb])
          have E2 : Hid (checkE (f + 1) u = 6) := Lib.hid (by rw [EE.out, hb])
          clear hb
          go_wp2_with fail
          go_ret2
          exact ⟨ret_ii E1.out.symm E2.out.symm, by rw [HBZ.out]; exact HFIN.out _ (below_next HBW2.out (Below.refl _ _))⟩
        | true =>
          have z0 := (HU.out.below HBW2.out).c0; have z1 := (HU.out.below HBW2.out).c1; have z2 := (HU.out.below HBW2.out).c2; have z3 := (HU.out.below HBW2.out).c3; have z4 := (HU.out.below HBW2.out).c4; have z5 := (HU.out.below HBW2.out).c5; have hlua := (HU.out.below HBW2.out).lt
          have qx := HX2.out
          have x0 : W2.cell? ⟨X, 0, none⟩ = some (.int .i64 op) := by rw [cell_of_row _ _ _ _ _ _ qx]; rfl
          have x1 : W2.cell? ⟨X, 1, none⟩ = some (.int .i64 dk) := by rw [cell_of_row _ _ _ _ _ _ qx]; rfl
          have x2 : W2.cell? ⟨X, 2, none⟩ = some (.int .i64 dn) := by rw [cell_of_row _ _ _ _ _ _ qx]; rfl
          have x3 : W2.cell? ⟨X, 3, none⟩ = some (.slice so sl sc) := by rw [cell_of_row _ _ _ _ _ _ qx]; rfl
          have x4 : W2.cell? ⟨X, 4, none⟩ = some (.int .i64 jt) := by rw [cell_of_row _ _ _ _ _ _ qx]; rfl
          have x5 : W2.cell? ⟨X, 5, none⟩ = some (.int .i64 nn) := by rw [cell_of_row _ _ _ _ _ _ qx]; rfl
          have x6 : W2.cell? ⟨X, 6, none⟩ = some (.int .i64 lv) := by rw [cell_of_row _ _ _ _ _ _ qx]; rfl
          have x7 : W2.cell? ⟨X, 7, none⟩ = some (.string nm) := by rw [cell_of_row _ _ _ _ _ _ qx]; rfl
          have x8 : W2.cell? ⟨X, 8, none⟩ = some (.slice co' cl cc') := by rw [cell_of_row _ _ _ _ _ _ qx]; rfl
          have x9 : W2.cell? ⟨X, 9, none⟩ = some (.slice go' gl gc') := by rw [cell_of_row _ _ _ _ _ _ qx]; rfl
          have hlxa := lt_of_row qx
          clear qx
          have qr := HR1.out
          have r0 : W2.cell? ⟨Z, 0, none⟩ = some (.bool ra) := by rw [cell_of_row _ _ _ _ _ _ qr]; rfl
          have r1 : W2.cell? ⟨Z, 1, none⟩ = some (.bool rb) := by rw [cell_of_row _ _ _ _ _ _ qr]; rfl
          have r2 : W2.cell? ⟨Z, 2, none⟩ = some (.bool rc) := by rw [cell_of_row _ _ _ _ _ _ qr]; rfl
          have r3 : W2.cell? ⟨Z, 3, none⟩ = some (.bool rd) := by rw [cell_of_row _ _ _ _ _ _ qr]; rfl
          have r4 : W2.cell? ⟨Z, 4, none⟩ = some (.bool re) := by rw [cell_of_row _ _ _ _ _ _ qr]; rfl
          have r5 : W2.cell? ⟨Z, 5, none⟩ = some (.bool rf) := by rw [cell_of_row _ _ _ _ _ _ qr]; rfl
          have r6 : W2.cell? ⟨Z, 6, none⟩ = some (.bool rg) := by rw [cell_of_row _ _ _ _ _ _ qr]; rfl
          have r7 : W2.cell? ⟨Z, 7, none⟩ = some (.bool rh) := by rw [cell_of_row _ _ _ _ _ _ qr]; rfl
          have r8 : W2.cell? ⟨Z, 8, none⟩ = some (.int .i64 rlo) := by rw [cell_of_row _ _ _ _ _ _ qr]; rfl
          have r9 : W2.cell? ⟨Z, 9, none⟩ = some (.int .i64 rhi) := by rw [cell_of_row _ _ _ _ _ _ qr]; rfl
          have hlra := lt_of_row qr
          clear qr
          go_wp2_with fail
          refine (CF.out _ (below_next HBW2.out (Below.refl _ _)) (by rw [← HXZ.out]; exact below_next HB2.out (Below.refl _ _))).mono ?_
          rintro e w10 ⟨rfl, hb10⟩
          have HB10 := Lib.hid (below_next (Below.refl _ _) hb10)
          clear hb10 z0 z1 z2 z3 z4 z5 x0 x1 x2 x3 x4 x5 x6 x7 x8 x9 r0 r1 r2 r3 r4 r5 r6 r7 r8 r9
          cases b1 with
          | false =>
            have hb := HBAD.out HIB.out
            have E1 : Hid (checkI (f + 1) u = k) := Lib.hid (by rw [EI.out, hb])
            have E2 : Hid (checkE (f + 1) u = 6) := Lib.hid (by rw [EE.out, hb])
            clear hb
            go_wp2_with fail
            go_ret2
            exact ⟨ret_ii E1.out.symm E2.out.symm, by rw [HBZ.out]; exact HFIN.out _ (below_next HBW2.out HB10.out)⟩
          | true =>
            have z0 := (HU.out.below (below_next HBW2.out HB10.out)).c0; have z1 := (HU.out.below (below_next HBW2.out HB10.out)).c1; have z2 := (HU.out.below (below_next HBW2.out HB10.out)).c2; have z3 := (HU.out.below (below_next HBW2.out HB10.out)).c3; have z4 := (HU.out.below (below_next HBW2.out HB10.out)).c4; have z5 := (HU.out.below (below_next HBW2.out HB10.out)).c5; have hlub := (HU.out.below (below_next HBW2.out HB10.out)).lt
            have qx := (HB10.out.block X (lt_of_row HX2.out)).trans HX2.out
            have x0 : w10.cell? ⟨X, 0, none⟩ = some (.int .i64 op) := by rw [cell_of_row _ _ _ _ _ _ qx]; rfl
            have x1 : w10.cell? ⟨X, 1, none⟩ = some (.int .i64 dk) := by rw [cell_of_row _ _ _ _ _ _ qx]; rfl
            have x2 : w10.cell? ⟨X, 2, none⟩ = some (.int .i64 dn) := by rw [cell_of_row _ _ _ _ _ _ qx]; rfl
            have x3 : w10.cell? ⟨X, 3, none⟩ = some (.slice so sl sc) := by rw [cell_of_row _ _ _ _ _ _ qx]; rfl
            have x4 : w10.cell? ⟨X, 4, none⟩ = some (.int .i64 jt) := by rw [cell_of_row _ _ _ _ _ _ qx]; rfl
            have x5 : w10.cell? ⟨X, 5, none⟩ = some (.int .i64 nn) := by rw [cell_of_row _ _ _ _ _ _ qx]; rfl
            have x6 : w10.cell? ⟨X, 6, none⟩ = some (.int .i64 lv) := by rw [cell_of_row _ _ _ _ _ _ qx]; rfl
            have x7 : w10.cell? ⟨X, 7, none⟩ = some (.string nm) := by rw [cell_of_row _ _ _ _ _ _ qx]; rfl
            have x8 : w10.cell? ⟨X, 8, none⟩ = some (.slice co' cl cc') := by rw [cell_of_row _ _ _ _ _ _ qx]; rfl
            have x9 : w10.cell? ⟨X, 9, none⟩ = some (.slice go' gl gc') := by rw [cell_of_row _ _ _ _ _ _ qx]; rfl
            have hlxb := lt_of_row qx
            clear qx
            go_wp2_with fail
            refine (CN.out _ (below_next HBW2.out HB10.out) (by rw [← HXZ.out]; exact below_next HB2.out HB10.out)).mono ?_
            rintro e w11 ⟨rfl, hb11⟩
            have HB11 := Lib.hid (below_next HB10.out hb11)
            clear hb11 z0 z1 z2 z3 z4 z5 x0 x1 x2 x3 x4 x5 x6 x7 x8 x9
            cases b2 with
            | false =>
              have hb := HBAD.out HIB.out
              have E1 : Hid (checkI (f + 1) u = k) := Lib.hid (by rw [EI.out, hb])
              have E2 : Hid (checkE (f + 1) u = 6) := Lib.hid (by rw [EE.out, hb])
              clear hb
              go_wp2_with fail
              go_ret2
              exact ⟨ret_ii E1.out.symm E2.out.symm, by rw [HBZ.out]; exact HFIN.out _ (below_next HBW2.out HB11.out)⟩
            | true =>
              have qx := (HB11.out.block X (lt_of_row HX2.out)).trans HX2.out
              have x0 : w11.cell? ⟨X, 0, none⟩ = some (.int .i64 op) := by rw [cell_of_row _ _ _ _ _ _ qx]; rfl
              have x1 : w11.cell? ⟨X, 1, none⟩ = some (.int .i64 dk) := by rw [cell_of_row _ _ _ _ _ _ qx]; rfl
              have x2 : w11.cell? ⟨X, 2, none⟩ = some (.int .i64 dn) := by rw [cell_of_row _ _ _ _ _ _ qx]; rfl
              have x3 : w11.cell? ⟨X, 3, none⟩ = some (.slice so sl sc) := by rw [cell_of_row _ _ _ _ _ _ qx]; rfl
              have x4 : w11.cell? ⟨X, 4, none⟩ = some (.int .i64 jt) := by rw [cell_of_row _ _ _ _ _ _ qx]; rfl
              have x5 : w11.cell? ⟨X, 5, none⟩ = some (.int .i64 nn) := by rw [cell_of_row _ _ _ _ _ _ qx]; rfl
              have x6 : w11.cell? ⟨X, 6, none⟩ = some (.int .i64 lv) := by rw [cell_of_row _ _ _ _ _ _ qx]; rfl
              have x7 : w11.cell? ⟨X, 7, none⟩ = some (.string nm) := by rw [cell_of_row _ _ _ _ _ _ qx]; rfl
              have x8 : w11.cell? ⟨X, 8, none⟩ = some (.slice co' cl cc') := by rw [cell_of_row _ _ _ _ _ _ qx]; rfl
              have x9 : w11.cell? ⟨X, 9, none⟩ = some (.slice go' gl gc') := by rw [cell_of_row _ _ _ _ _ _ qx]; rfl
              have hlxc := lt_of_row qx
              clear qx
              go_wp2_with fail
              refine (CM.out _ (below_next HBW2.out HB11.out) (by rw [← HXZ.out]; exact below_next HB2.out HB11.out)).mono ?_
              rintro e w12 ⟨rfl, hb12⟩
              have HB12 := Lib.hid (below_next HB11.out hb12)
              clear hb12 x0 x1 x2 x3 x4 x5 x6 x7 x8 x9
              cases b3 with
              | false =>
                have hb := HBAD.out HIB.out
                have E1 : Hid (checkI (f + 1) u = k) := Lib.hid (by rw [EI.out, hb])
                have E2 : Hid (checkE (f + 1) u = 6) := Lib.hid (by rw [EE.out, hb])
                clear hb
                go_wp2_with fail
                go_ret2
                exact ⟨ret_ii E1.out.symm E2.out.symm, by rw [HBZ.out]; exact HFIN.out _ (below_next HBW2.out HB12.out)⟩
              | true =>
                have z0 := (HU.out.below (below_next HBW2.out HB12.out)).c0; have z1 := (HU.out.below (below_next HBW2.out HB12.out)).c1; have z2 := (HU.out.below (below_next HBW2.out HB12.out)).c2; have z3 := (HU.out.below (below_next HBW2.out HB12.out)).c3; have z4 := (HU.out.below (below_next HBW2.out HB12.out)).c4; have z5 := (HU.out.below (below_next HBW2.out HB12.out)).c5; have hlud := (HU.out.below (below_next HBW2.out HB12.out)).lt
                have qx := (HB12.out.block X (lt_of_row HX2.out)).trans HX2.out
                have x0 : w12.cell? ⟨X, 0, none⟩ = some (.int .i64 op) := by rw [cell_of_row _ _ _ _ _ _ qx]; rfl
                have x1 : w12.cell? ⟨X, 1, none⟩ = some (.int .i64 dk) := by rw [cell_of_row _ _ _ _ _ _ qx]; rfl
                have x2 : w12.cell? ⟨X, 2, none⟩ = some (.int .i64 dn) := by rw [cell_of_row _ _ _ _ _ _ qx]; rfl
                have x3 : w12.cell? ⟨X, 3, none⟩ = some (.slice so sl sc) := by rw [cell_of_row _ _ _ _ _ _ qx]; rfl
                have x4 : w12.cell? ⟨X, 4, none⟩ = some (.int .i64 jt) := by rw [cell_of_row _ _ _ _ _ _ qx]; rfl
                have x5 : w12.cell? ⟨X, 5, none⟩ = some (.int .i64 nn) := by rw [cell_of_row _ _ _ _ _ _ qx]; rfl
                have x6 : w12.cell? ⟨X, 6, none⟩ = some (.int .i64 lv) := by rw [cell_of_row _ _ _ _ _ _ qx]; rfl
                have x7 : w12.cell? ⟨X, 7, none⟩ = some (.string nm) := by rw [cell_of_row _ _ _ _ _ _ qx]; rfl
                have x8 : w12.cell? ⟨X, 8, none⟩ = some (.slice co' cl cc') := by rw [cell_of_row _ _ _ _ _ _ qx]; rfl
                have x9 : w12.cell? ⟨X, 9, none⟩ = some (.slice go' gl gc') := by rw [cell_of_row _ _ _ _ _ _ qx]; rfl
                have hlxd := lt_of_row qx
                clear qx
                go_wp2_with fail
                refine (CL.out _ (below_next HBW2.out HB12.out) (by rw [← HXZ.out]; exact below_next HB2.out HB12.out)).mono ?_
                rintro e w13 ⟨rfl, hb13⟩
                have HB13 := Lib.hid (below_next HB12.out hb13)
                clear hb13 z0 z1 z2 z3 z4 z5 x0 x1 x2 x3 x4 x5 x6 x7 x8 x9
                cases b4 with
                | false =>
                  have hb := HBAD.out HIB.out
                  have E1 : Hid (checkI (f + 1) u = k) := Lib.hid (by rw [EI.out, hb])
                  have E2 : Hid (checkE (f + 1) u = 6) := Lib.hid (by rw [EE.out, hb])
                  clear hb
                  go_wp2_with fail
                  go_ret2
                  exact ⟨ret_ii E1.out.symm E2.out.symm, by rw [HBZ.out]; exact HFIN.out _ (below_next HBW2.out HB13.out)⟩
                | true =>
                  have z0 := (HU.out.below (below_next HBW2.out HB13.out)).c0; have z1 := (HU.out.below (below_next HBW2.out HB13.out)).c1; have z2 := (HU.out.below (below_next HBW2.out HB13.out)).c2; have z3 := (HU.out.below (below_next HBW2.out HB13.out)).c3; have z4 := (HU.out.below (below_next HBW2.out HB13.out)).c4; have z5 := (HU.out.below (below_next HBW2.out HB13.out)).c5; have hlue := (HU.out.below (below_next HBW2.out HB13.out)).lt
                  have qr := (HB13.out.block Z (lt_of_row HR1.out)).trans HR1.out
                  have r0 : w13.cell? ⟨Z, 0, none⟩ = some (.bool ra) := by rw [cell_of_row _ _ _ _ _ _ qr]; rfl
                  have r1 : w13.cell? ⟨Z, 1, none⟩ = some (.bool rb) := by rw [cell_of_row _ _ _ _ _ _ qr]; rfl
                  have r2 : w13.cell? ⟨Z, 2, none⟩ = some (.bool rc) := by rw [cell_of_row _ _ _ _ _ _ qr]; rfl
                  have r3 : w13.cell? ⟨Z, 3, none⟩ = some (.bool rd) := by rw [cell_of_row _ _ _ _ _ _ qr]; rfl
                  have r4 : w13.cell? ⟨Z, 4, none⟩ = some (.bool re) := by rw [cell_of_row _ _ _ _ _ _ qr]; rfl
                  have r5 : w13.cell? ⟨Z, 5, none⟩ = some (.bool rf) := by rw [cell_of_row _ _ _ _ _ _ qr]; rfl
                  have r6 : w13.cell? ⟨Z, 6, none⟩ = some (.bool rg) := by rw [cell_of_row _ _ _ _ _ _ qr]; rfl
                  have r7 : w13.cell? ⟨Z, 7, none⟩ = some (.bool rh) := by rw [cell_of_row _ _ _ _ _ _ qr]; rfl
                  have r8 : w13.cell? ⟨Z, 8, none⟩ = some (.int .i64 rlo) := by rw [cell_of_row _ _ _ _ _ _ qr]; rfl
                  have r9 : w13.cell? ⟨Z, 9, none⟩ = some (.int .i64 rhi) := by rw [cell_of_row _ _ _ _ _ _ qr]; rfl
                  have hlre := lt_of_row qr
                  clear qr
                  go_wp2_with fail
                  refine (CT.out _ (below_next HBW2.out HB13.out) (by rw [← HXZ.out]; exact below_next HB2.out HB13.out)).mono ?_
                  rintro e w14 ⟨rfl, hb14⟩
                  have HB14 := Lib.hid (below_next HB13.out hb14)
                  clear hb14 z0 z1 z2 z3 z4 z5 r0 r1 r2 r3 r4 r5 r6 r7 r8 r9
                  cases b5 with
                  | false =>
                    have hb := HBAD.out HIB.out
                    have E1 : Hid (checkI (f + 1) u = k) := Lib.hid (by rw [EI.out, hb])
                    have E2 : Hid (checkE (f + 1) u = 6) := Lib.hid (by rw [EE.out, hb])
                    clear hb
                    go_wp2_with fail
                    go_ret2
                    exact ⟨ret_ii E1.out.symm E2.out.symm, by rw [HBZ.out]; exact HFIN.out _ (below_next HBW2.out HB14.out)⟩
                  | true =>
                    have HK2 := Lib.hid (HGOOD.out HIB.out)
                    go_wp2_with fail
                    go_roundw
                    case rel => exact ⟨k + 1, by omega, by go_num, HK2, below_next HBW2.out HB14.out⟩
                    case measure => simp [intOf]; omega
      · have hb : badFrom u u.code 0 = none := by rw [HK.out, List.drop_eq_nil_of_le (by omega)]; rfl
        have E1 : Hid (checkI (f + 1) u = 0) := Lib.hid (by rw [EI.out, hb])
        have E2 : Hid (checkE (f + 1) u = 0) := Lib.hid (by rw [EE.out, hb])
        clear hb
        go_wp2_with fail
        go_ret2
        exact ⟨ret_ii E1.out.symm E2.out.symm, by rw [HBZ.out]; exact HFIN.out _ HBW.out⟩
end Go.Proofs.YtghgbikmlbildaaGreatDoor
