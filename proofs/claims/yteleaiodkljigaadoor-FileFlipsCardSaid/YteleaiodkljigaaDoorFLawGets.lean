/-
  FileGets: the walk.
-/
import Derived.Test.YteleaiodkljigaaDoorFAwake
import Derived.Test.YteleaiodkljigaaDoorFHelp
import Derived.Test.YteleaiodkljigaaDoorFRefGet2
namespace Go.Proofs.YteleaiodkljigaaDoor
open Go.RowKit Go.Shelf Go.Lib
set_option linter.unusedVariables false

theorem str_list (a : ByteArray) : ∃ b : List UInt8, a = ⟨b.toArray⟩ := ⟨a.data.toList, by rcases a with ⟨d⟩; simp⟩
theorem below_next {w a b : World} (h : Below w.heap.size w a) (k : Below a.heap.size a b) : Below w.heap.size w b := h.trans (k.mono h.size)
theorem same_yes (ao : Option Addr) (c : Nat) (ao2 : Option Addr) (c2 : Nat) (l : List Ch) (w : World) (h : ListS w ao l) (h2 : ListS w ao2 l) (hl : l.length ≤ 9223372036854775807) :
    Calls Tryd.prog 17 #[.slice ao l.length c, .slice ao2 l.length c2] w fun e w' => e = .returned (.bool true) ∧ Below w.heap.size w w' := by
  have := same_s ao c l ao2 c2 l w h h2 hl hl
  rwa [decide_eq_true rfl] at this
theorem getL_len (b : List UInt8) : (getL b).length ≤ 9223372036854775807 := by
  unfold getL
  split
  · exact Nat.zero_le _
  · cases hf : formP b with
    | none => exact Nat.zero_le _
    | some l =>
      have := (body_of_form hf (by omega)).2.1
      show (if _ then l else []).length ≤ _
      split
      · omega
      · exact Nat.zero_le _

set_option maxRecDepth 100000 in
set_option maxHeartbeats 4000000 in
theorem gets_walk (a0 : ByteArray) (w0 : a0.size ≤ maxLen) (w : World) :
    Calls Tryd.prog 6 #[.string a0] w fun e w' => e = .returned (.bool true) ∧ Below w.heap.size w w' := by
  by_cases big : 60000 < a0.size
  · go_enter Tryd.func6, Tryd.ntmps6
    go_wp2_with (go_at_call 10; refine (awake_any _).mono ?_; rintro e w1 ⟨rfl, hb1⟩)
    go_ret
    exact ⟨rfl, hb1⟩
  · obtain ⟨b, rfl⟩ := str_list a0
    have hs := bsz b
    have hb : b.length ≤ 60000 := by omega
    have hg := fun wx => get_any b wx (by omega)
    have hr := fun wx => rget_any b wx hb
    rw [(rget_eq b).1, (rget_eq b).2] at hr
    have hll := getL_len b
    generalize getL b = l at *
    generalize getE b = E at *
    have hEE : (E == E) = true := beq_self_eq_true _
    go_enter Tryd.func6, Tryd.ntmps6
    go_wp2_with fail
    refine (hg _).mono ?_
    rintro e w1 ⟨v, rfl, hl1, hb1⟩
    obtain ⟨ao, c, rfl, hs1⟩ := listS_of hl1
    have H1 := Lib.hid hs1; clear hs1 hl1 hg
    go_wp2_with fail
    refine (hr _).mono ?_
    rintro e w2 ⟨v, rfl, hl2, hb2⟩
    obtain ⟨ao2, c2, rfl, hs2⟩ := listS_of hl2
    have H2 := Lib.hid hs2; have H1b := Lib.hid (H1.out.below hb2); clear hs2 hl2 hr H1
    have hB2 := below_next hb1 hb2
    go_wp2_with fail
    refine (same_yes ao c ao2 c2 l _ H1b.out H2.out hll).mono ?_
    rintro e w3 ⟨rfl, hb3⟩
    go_wp2_with fail
    refine (awake_any _).mono ?_
    rintro e w4 ⟨rfl, hb4⟩
    go_wp2_with fail
    go_ret
    exact ⟨rfl, below_next (below_next hB2 hb3) hb4⟩

end Go.Proofs.YteleaiodkljigaaDoor
