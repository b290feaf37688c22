/-
  stagehandlaw01.shown: it returns true.
-/
import Derived.Test.YtlefjhicjmkonaaIRead
import Derived.Test.YtlefjhicjmkonaaIText
import Derived.Deep.QuietTactic
import Derived.BigQuiet
namespace Go.Proofs.Ytlefjhicjmkonaa
open Go.RowKit

set_option maxHeartbeats 2000000 in
theorem shown_any (w : World) :
    Calls Try.prog 10 #[] w fun e w' => e = .returned (.bool true) ∧ Below w.heap.size w w' := by
  have k1 : okv 5 = 5 := by decide
  have k2 : oke 5 = 0 := by decide
  have k3 : shv 3 4 = 48 := by decide
  have k4 : she 3 4 = 0 := by decide
  have k5 : rdv [45, 49, 50, 48] = -120 := by decide +kernel
  have k6 : rde [45, 49, 50, 48] = 0 := by decide +kernel
  have k7 : rde [48, 49] = 6 := by decide +kernel
  have k8 : divv (-7) 2 = -3 := by decide
  have k9 : dive (-7) 2 = 0 := by decide
  have k10 : txt (-120) = [45, 49, 50, 48] := by decide +kernel
  go_enter Try.func10, Try.ntmps10
  go_wp2_with fail
  refine (add_any 2 3 _ (by decide) (by decide)).mono ?_; rintro e w1 ⟨rfl, hb1⟩
  go_wp2_with fail
  refine (shl_any 3 4 _ (by decide) (by decide)).mono ?_; rintro e w2 ⟨rfl, rfl⟩
  go_wp2_with fail
  refine (read_any _ _ (by decide)).mono ?_; rintro e w3 ⟨rfl, hb3⟩
  go_wp2_with fail
  refine (read_any _ _ (by decide)).mono ?_; rintro e w4 ⟨rfl, hb4⟩
  go_wp2_with fail
  refine (div_any (-7) 2 _ (by decide) (by decide)).mono ?_; rintro e w5 ⟨rfl, rfl⟩
  go_wp2_with fail
  refine (text_any (-120) _ (by decide)).mono ?_; rintro e w6 ⟨rfl, hb6⟩
  go_wp2
  go_ret
  exact ⟨rfl, ((hb1.trans (hb3.mono hb1.size)).trans (hb4.mono (Nat.le_trans hb1.size hb3.size))).trans (hb6.mono (Nat.le_trans hb1.size (Nat.le_trans hb3.size hb4.size)))⟩

end Go.Proofs.Ytlefjhicjmkonaa
