/-
  The reference: names, Size, body, Put.
-/
import Derived.Test.YteleaiodkljigaaDoorFRefName
import Derived.Test.YteleaiodkljigaaDoorFPut
import Derived.Deep.QuietTactic
import Derived.BigQuiet
namespace Go.Proofs.YteleaiodkljigaaDoor
open Go.RowKit Go.Shelf Go.Lib
set_option linter.unusedVariables false

theorem below_drewN {B : Nat} {a w : World} (h : Below B a w) (n : Nat) : Below B a (w.drewN n) := ⟨h.os, h.tape, h.output, h.size, h.block⟩

/-- The world has drawn, and nothing else. -/
def QW (w w' : World) : Prop := ∃ n, w' = w.drewN n
theorem QW.refl (w : World) : QW w w := ⟨0, rfl⟩
theorem QW.drewN {a w : World} (h : QW a w) (n : Nat) : QW a (w.drewN n) := by
  obtain ⟨m, rfl⟩ := h; exact ⟨m + n, by rw [World.drewN_drewN]⟩
theorem QW.below {B : Nat} {a w : World} (h : QW a w) : Below B a w := by
  obtain ⟨m, rfl⟩ := h; exact below_drewN (Below.refl _ _) m
set_option maxRecDepth 100000 in
set_option maxHeartbeats 4000000 in
theorem rnames_q (ao : Option Addr) (c : Nat) (l : List Ch) (w : World) (h : ListS w ao l) (hl : l.length ≤ 9223372036854775807) (hz : ∀ j, j < l.length → l[j]!.1.size ≤ 100) :
    Calls Tryd.prog 25 #[.slice ao l.length c] w fun e w' => e = .returned (.bool (dst l)) ∧ QW w w' := by
  have HR := Lib.hid h; have HZ := Lib.hid hz; clear h hz
  go_enter Tryd.func25, Tryd.ntmps25
  go_wp2_with fail
  go_loopw [3] (fun i wr => ∃ k : Nat, k ≤ l.length ∧ i = .int .i64 k ∧ QW w wr ∧ Hid (∀ j, j < k → good l j = true)) (fun i _ => l.length - (intOf i).toNat)
  case atStart => exact ⟨0, Nat.zero_le _, rfl, QW.refl _, Lib.hid (fun j hj => absurd hj (Nat.not_lt_zero _))⟩
  case round =>
    obtain ⟨k, hk, rfl, hQ, HG⟩ := hrel
    rename World => wr
    have hB : Below w.heap.size w wr := hQ.below
    by_cases hlt : k < l.length
    · obtain ⟨b, off, hao, hr0⟩ := HR.out.row hlt
      subst hao
      have hrr := hr0.below hB hr0.1
      have hc0 := (hrr.2 k hlt).1
      have HRR := Lib.hid hr0; clear hrr hr0
      have hgood : good l k = (nm l[k]!.1.data.toList && decide (∀ j, j < k → l[j]!.1.data.toList ≠ l[k]!.1.data.toList)) := rfl
      have HGOOD := Lib.hid hgood; clear hgood
      have hnz := HZ.out k hlt
      generalize hn : l[k]!.1 = n at *
      have HN := Lib.hid hn; clear hn
      cases hnm : nm n.data.toList with
      | false =>
        have E : Hid (dst l = false) := Lib.hid (dst_no hlt (by rw [HGOOD.out, hnm]; rfl))
        go_wp2_with (go_at_call 38; refine (rname_any _ _ (by unfold maxLen; omega)).mono ?_; rintro e w1 ⟨rfl, rfl⟩)
        go_ret
        exact ⟨retb E.out.symm, hQ⟩
      | true =>
        go_wp2_with (go_at_call 38; refine (rname_any _ _ (by unfold maxLen; omega)).mono ?_; rintro e w1 ⟨rfl, rfl⟩)
        obtain ⟨wo, hwo⟩ : ∃ wo : World, wo = wr := ⟨_, rfl⟩
        subst hwo
        go_loopw [4] (fun i wq => ∃ m : Nat, m ≤ k ∧ i = .int .i64 m ∧ QW w wq ∧ Hid (∀ j, j < m → l[j]!.1.data.toList ≠ n.data.toList)) (fun i _ => k - (intOf i).toNat)
        case atStart => exact ⟨0, Nat.zero_le _, rfl, hQ, Lib.hid (fun j hj => absurd hj (Nat.not_lt_zero _))⟩
        case round =>
          obtain ⟨m, hm, rfl, hQ2, HM⟩ := hrel
          rename World => wq
          have hB2 : Below w.heap.size w wq := hQ2.below
          by_cases hmk : m < k
          · have hrr := HRR.out.below hB2 HRR.out.1
            have hd0 := (hrr.2 m (by omega)).1
            have hd1 := (hrr.2 k hlt).1
            rw [HN.out] at hd1
            clear hrr hc0
            have hml : m < l.length := by omega
            generalize hn2 : l[m]!.1 = n2 at *
            have HN2 := Lib.hid hn2; clear hn2
            by_cases same : n2.data.toList = n.data.toList
            · have E : Hid (dst l = false) := Lib.hid (dst_no hlt (by rw [HGOOD.out, hnm, decide_eq_false (fun hh => hh m hmk (by rw [HN2.out]; exact same))]; rfl))
              have hs : (n2.toList == n.toList) = true := by rw [ByteArray.toList_eq, ByteArray.toList_eq, same]; exact beq_self_eq_true _
              clear same
              go_wp2_with fail
              go_quiet (fail)
              go_wp2_with fail
              go_ret
              exact ⟨retb E.out.symm, hQ2.drewN _⟩
            · have hs : (n2.toList == n.toList) = false := by rw [ByteArray.toList_eq, ByteArray.toList_eq]; exact beq_eq_false_iff_ne.2 same
              have HM2 : Hid (∀ j, j < m + 1 → l[j]!.1.data.toList ≠ n.data.toList) := Lib.hid (fun j hj => by
                rcases Nat.eq_or_lt_of_le (Nat.le_of_lt_succ hj) with e | e
                · rw [e, HN2.out]; exact same
                · exact HM.out j e)
              clear same
              go_wp2_with fail
              go_quiet (fail)
              go_wp2_with fail
              go_roundw
              case rel => exact ⟨m + 1, by omega, by go_num, hQ2.drewN _, HM2⟩
              case measure => simp [intOf]; omega
          · have hg : good l k = true := by rw [HGOOD.out, hnm, decide_eq_true (fun j hj => HM.out j (by omega))]; rfl
            have HG2 : Hid (∀ j, j < k + 1 → good l j = true) := Lib.hid (fun j hj => by
              rcases Nat.eq_or_lt_of_le (Nat.le_of_lt_succ hj) with e | e
              · rw [e]; exact hg
              · exact HG.out j e)
            clear hg
            go_wp2_with fail
            go_roundw
            case rel => exact ⟨k + 1, by omega, by go_num, hQ2, HG2⟩
            case measure => simp [intOf]; omega
    · go_wp2
      go_ret
      exact ⟨retb (dst_yes (fun i hi => HG.out i (by omega))).symm, hQ⟩

theorem rnames_s (ao : Option Addr) (c : Nat) (l : List Ch) (w : World) (h : ListS w ao l) (hl : l.length ≤ 9223372036854775807) (hz : ∀ j, j < l.length → l[j]!.1.size ≤ 100) :
    Calls Tryd.prog 25 #[.slice ao l.length c] w fun e w' => e = .returned (.bool (dst l)) ∧ Below w.heap.size w w' :=
  (rnames_q ao c l w h hl hz).mono fun _ _ ⟨a, b⟩ => ⟨a, b.below⟩

set_option maxRecDepth 100000 in
set_option maxHeartbeats 2000000 in
theorem rsize_s (ao : Option Addr) (c : Nat) (l : List Ch) (w : World) (h : ListS w ao l) (hs : Small l) :
    Calls Tryd.prog 26 #[.slice ao l.length c] w fun e w' => e = .returned (.int .i64 (szL l)) ∧ w = w' := by
  have HR := Lib.hid h; have HS := Lib.hid hs
  have hlen := hs.1
  clear h hs
  go_enter Tryd.func26, Tryd.ntmps26
  go_wp2_with fail
  go_loop [3, 4] (fun n i => ∃ k : Nat, k ≤ l.length ∧ i = .int .i64 k ∧ n = .int .i64 (szL (l.take k))) (fun _ i => l.length - (intOf i).toNat)
  case atStart => exact ⟨0, Nat.zero_le _, rfl, rfl⟩
  case round =>
    obtain ⟨k, hk, rfl, rfl⟩ := hrel
    have hz := szL_le HS.out k hk
    by_cases hlt : k < l.length
    · obtain ⟨b, off, hao, hr0⟩ := HR.out.row hlt
      subst hao
      have hc1 := (hr0.2 k hlt).2
      have hsz := (HS.out.2 k hlt).1
      have HST := Lib.hid (szL_take hlt)
      clear hr0
      generalize l[k]!.2 = d at *
      generalize szL (l.take k) = z at *
      go_wp2
      go_round
      case rel => exact ⟨k + 1, by omega, by go_num, by rw [HST.out]; exact congrArg (Value.int .i64) (by unfold pad4; omega)⟩
      case measure => simp [intOf]; omega
    · have hfull : Hid (l.take k = l) := Lib.hid (List.take_of_length_le (by omega))
      go_wp2
      go_ret
      exact ⟨ret1 (by rw [hfull.out]), rfl⟩

end Go.Proofs.YteleaiodkljigaaDoor
