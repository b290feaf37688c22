/-
  PureClasses: the walk.
-/
import Derived.Test.YthmpobimmbmddaaGreatDoorPShown
import Derived.Test.YthmpobimmbmddaaGreatDoorRClassW
namespace Go.Proofs.YthmpobimmbmddaaGreatDoor
open Go.RowKit
set_option linter.unusedVariables false
set_option linter.unusedSimpArgs false

set_option maxRecDepth 100000 in
set_option maxHeartbeats 8000000 in
theorem classes_walk (s : ByteArray) (n : Int) (w : World) (hs : s.size ≤ maxLen) (hn : I64 n) (hsp : SpaceAt w) : Calls Tryz.prog 3 #[.string s, .int .i64 n] w fun e w' => e = .returned (.bool true) ∧ Below w.heap.size w w' := by
  have HSh := Lib.hid (shown_any w hsp)
  have HSp := Lib.hid hsp; have HN := Lib.hid hn; have HSz := Lib.hid hs
  unfold maxLen at hs
  clear hsp hn
  by_cases hbig : 200 < s.size
  · go_enter Tryz.func3, Tryz.ntmps3
    go_wp2_with (first | (go_at_call 6; refine HSh.out.mono ?_; rintro e w1 ⟨rfl, hb1⟩) | fail)
    go_ret
    exact ⟨rfl, hb1⟩
  · have HC := Lib.hid (fun wx (hx : SpaceAt wx) => class_any s n wx hx (by omega) HN.out)
    have HR := Lib.hid (fun wx => rclass_any s n wx HSz.out)
    rw [classB_classR] at HC
    generalize classR s n = c at *
    have t1 : (c == c) = true := beq_self_eq_true c
    go_enter Tryz.func3, Tryz.ntmps3
    go_wp2_with (first | (go_at_call 6; refine HSh.out.mono ?_; rintro e w1 ⟨rfl, hb1⟩) | (go_at_call 7; refine (HC.out _ (HSp.out.below hb1)).mono ?_; rintro e w2 ⟨rfl, hb2⟩) | (go_at_call 8; refine (HR.out _).mono ?_; rintro e w3 ⟨rfl, hb3⟩) | fail)
    go_ret
    exact ⟨rfl, below_next (below_next hb1 hb2) hb3⟩
end Go.Proofs.YthmpobimmbmddaaGreatDoor
