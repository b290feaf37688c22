/-
  The helpers of the laws of layer 26: same, large, Pick.
-/
import Derived.Test.YteleaiodkljigaaDoorFRef
namespace Go.Proofs.YteleaiodkljigaaDoor
open Go.RowKit Go.Shelf Go.Lib
set_option linter.unusedVariables false

theorem lists_eq {l m : List Ch} (hl : l.length = m.length) (h : ∀ j, j < l.length → l[j]! = m[j]!) : l = m := by
  apply List.ext_getElem hl
  intro i h1 h2
  have := h i h1
  rwa [getElem!_pos l i h1, getElem!_pos m i h2] at this
theorem bytes_ne {a b : ByteArray} (h : a ≠ b) : (a.toList == b.toList) = false := by
  rw [ByteArray.toList_eq, ByteArray.toList_eq, beq_eq_false_iff_ne]
  exact fun e => h (ByteArray.ext (by simpa using e))

set_option maxRecDepth 100000 in
set_option maxHeartbeats 4000000 in
theorem same_s (ao : Option Addr) (c : Nat) (l : List Ch) (ao2 : Option Addr) (c2 : Nat) (m : List Ch) (w : World) (h : ListS w ao l) (h2 : ListS w ao2 m) (hl : l.length ≤ 9223372036854775807) (hm : m.length ≤ 9223372036854775807) :
    Calls Tryd.prog 17 #[.slice ao l.length c, .slice ao2 m.length c2] w fun e w' => e = .returned (.bool (decide (l = m))) ∧ Below w.heap.size w w' := by
  have HR := Lib.hid h; have HR2 := Lib.hid h2; clear h h2
  by_cases hlm : l.length = m.length
  · have hlb : ((l.length : Int) != (m.length : Int)) = false := by rw [bne_eq_false_iff_eq]; omega
    have HLM := Lib.hid hlm
    clear hlm
    go_enter Tryd.func17, Tryd.ntmps17
    go_wp2_with fail
    clear hlb
    go_loopw [5] (fun i wr => ∃ k : Nat, k ≤ l.length ∧ i = .int .i64 k ∧ Below w.heap.size w wr ∧ Hid (∀ j, j < k → l[j]! = m[j]!)) (fun i _ => l.length - (intOf i).toNat)
    case atStart => exact ⟨0, Nat.zero_le _, rfl, Below.refl _ _, Lib.hid (fun j hj => absurd hj (Nat.not_lt_zero _))⟩
    case round =>
      obtain ⟨k, hk, rfl, hB, HG⟩ := hrel
      rename World => wr
      by_cases hlt : k < l.length
      · have hlt2 : k < m.length := by rw [← HLM.out]; exact hlt
        obtain ⟨b, off, hao, hr0⟩ := HR.out.row hlt
        obtain ⟨b2, off2, hao2, hr2⟩ := HR2.out.row hlt2
        subst hao; subst hao2
        have hrr := hr0.below hB hr0.1
        have hrr2 := hr2.below hB hr2.1
        have p0 := (hrr.2 k hlt).1
        have p1 := (hrr.2 k hlt).2
        have q0 := (hrr2.2 k hlt2).1
        have q1 := (hrr2.2 k hlt2).2
        have hE : Hid (l[k]!.1 = m[k]!.1 → l[k]!.2 = m[k]!.2 → l[k]! = m[k]!) := Lib.hid (fun a b => Prod.ext a b)
        have hN : Hid (l[k]! ≠ m[k]! → decide (l = m) = false) := Lib.hid (fun hne => decide_eq_false (fun e => hne (by rw [e])))
        clear hrr hrr2 hr0 hr2
        generalize hn1 : l[k]!.1 = n1 at *
        generalize hd1 : l[k]!.2 = d1 at *
        generalize hn2 : m[k]!.1 = n2 at *
        generalize hd2 : m[k]!.2 = d2 at *
        by_cases en : n1 = n2
        · by_cases ed : d1 = d2
          · have he := hE.out en ed
            have HG2 : Hid (∀ j, j < k + 1 → l[j]! = m[j]!) := Lib.hid (fun j hj => by
              rcases Nat.eq_or_lt_of_le (Nat.le_of_lt_succ hj) with e | e
              · rw [e]; exact he
              · exact HG.out j e)
            clear he hE hN hn1 hd1 hn2 hd2
            subst en; subst ed
            go_wp2_with fail
            go_quiet (fail)
            go_wp2_with fail
            go_roundw
            case rel => exact ⟨k + 1, by omega, by go_num, below_drewN hB _, HG2⟩
            case measure => simp [intOf]; omega
          · have E : Hid (decide (l = m) = false) := Lib.hid (hN.out (fun e => ed (by rw [← hd1, ← hd2, e])))
            clear hE hN hn1 hd1 hn2 hd2
            subst en
            have hb := bytes_ne ed
            clear ed
            go_wp2_with fail
            go_quiet (fail)
            go_wp2_with fail
            go_ret
            exact ⟨retb E.out.symm, below_drewN hB _⟩
        · have E : Hid (decide (l = m) = false) := Lib.hid (hN.out (fun e => en (by rw [← hn1, ← hn2, e])))
          clear hE hN hn1 hd1 hn2 hd2
          have hb := bytes_ne en
          clear en
          go_wp2_with fail
          go_quiet (fail)
          go_wp2_with fail
          go_ret
          exact ⟨retb E.out.symm, below_drewN hB _⟩
      · have E : Hid (decide (l = m) = true) := Lib.hid (decide_eq_true (lists_eq HLM.out (fun j hj => HG.out j (by omega))))
        go_wp2_with fail
        go_ret
        exact ⟨retb E.out.symm, hB⟩
  · have hlb : ((l.length : Int) != (m.length : Int)) = true := by rw [bne_iff_ne]; omega
    have E : Hid (decide (l = m) = false) := Lib.hid (decide_eq_false (fun e => hlm (by rw [e])))
    clear hlm
    go_enter Tryd.func17, Tryd.ntmps17
    go_wp2_with fail
    go_ret
    exact ⟨retb E.out.symm, Below.refl _ _⟩

def LargeP (l : List Ch) (w : World) (e : Ending) (w' : World) : Prop := ∃ b, e = .returned (.bool b) ∧ (b = false → Small l) ∧ w = w'
set_option maxRecDepth 100000 in
set_option maxHeartbeats 4000000 in
theorem large_s (ao : Option Addr) (c : Nat) (l : List Ch) (w : World) (h : ListS w ao l) (hl : l.length ≤ 9223372036854775807) :
    Calls Tryd.prog 14 #[.slice ao l.length c] w (LargeP l w) := by
  have HR := Lib.hid h; clear h
  go_enter Tryd.func14, Tryd.ntmps14
  go_wp2_with fail
  go_loop [3, 4] (fun n i => ∃ k z : Nat, k ≤ l.length ∧ k ≤ 40 ∧ i = .int .i64 k ∧ n = .int .i64 z ∧ z ≤ k * 60000 ∧ Hid (∀ j, j < k → l[j]!.2.size ≤ 60000 ∧ l[j]!.1.size ≤ 100)) (fun _ i => 40 - (intOf i).toNat)
  case atStart => exact ⟨0, 0, Nat.zero_le _, Nat.zero_le _, rfl, rfl, Nat.zero_le _, Lib.hid (fun j hj => absurd hj (Nat.not_lt_zero _))⟩
  case round =>
    obtain ⟨k, z, hk, hk40, rfl, rfl, hz, HG⟩ := hrel
    by_cases hlt : k < l.length
    · by_cases h40 : k < 40
      · obtain ⟨b, off, hao, hr0⟩ := HR.out.row hlt
        subst hao
        have p0 := (hr0.2 k hlt).1
        have p1 := (hr0.2 k hlt).2
        clear hr0
        generalize hn1 : l[k]!.1 = n1 at *
        generalize hd1 : l[k]!.2 = d1 at *
        have HN := Lib.hid hn1; have HD := Lib.hid hd1; clear hn1 hd1
        by_cases c1 : 60000 < d1.size
        · go_wp2_with fail
          all_goals go_ret
          all_goals exact ⟨_, rfl, (fun e => by cases e), rfl⟩
        · by_cases c2 : 100 < n1.size
          · go_wp2_with fail
            all_goals go_ret
            all_goals exact ⟨_, rfl, (fun e => by cases e), rfl⟩
          · have HG2 : Hid (∀ j, j < k + 1 → l[j]!.2.size ≤ 60000 ∧ l[j]!.1.size ≤ 100) := Lib.hid (fun j hj => by
              rcases Nat.eq_or_lt_of_le (Nat.le_of_lt_succ hj) with e | e
              · rw [e, HN.out, HD.out]; omega
              · exact HG.out j e)
            go_wp2_with fail
            go_round
            case rel => exact ⟨k + 1, z + d1.size, by omega, by omega, by go_num, by go_num, by omega, HG2⟩
            case measure => simp [intOf]; omega
      · have hlong : 40 < l.length := by omega
        go_wp2_with fail
        all_goals go_ret
        all_goals exact ⟨_, rfl, (fun e => by cases e), rfl⟩
    · by_cases h40 : 40 < l.length
      · omega
      · by_cases hzz : 60000 < z
        · go_wp2_with fail
          all_goals go_ret
          all_goals exact ⟨_, rfl, (fun e => by simp at e; omega), rfl⟩
        · go_wp2_with fail
          all_goals go_ret
          all_goals exact ⟨_, rfl, fun _ => ⟨by omega, fun j hj => HG.out j (by omega)⟩, rfl⟩

def PickP (m : Int) (w : World) (e : Ending) (w' : World) : Prop := ∃ k : Nat, (k : Int) < m ∧ e = .returned (.int .i64 k) ∧ w = w'
set_option maxRecDepth 100000 in
set_option maxHeartbeats 2000000 in
theorem pick_any (n m : Int) (w : World) (h0 : 0 < m) (h1 : m ≤ 9223372036854775807) (h2 : -9223372036854775808 ≤ n) (h3 : n ≤ 9223372036854775807) :
    Calls Tryd.prog 13 #[.int .i64 n, .int .i64 m] w (PickP m w) := by
  by_cases hn : 0 ≤ n
  · have a1 := Int.emod_nonneg n (Int.ne_of_gt h0)
    have a2 := Int.emod_lt_of_pos n h0
    go_enter Tryd.func13, Tryd.ntmps13
    go_wp2
    go_ret
    exact ⟨(n % m).toNat, by omega, ret1 (Int.toNat_of_nonneg a1).symm, rfl⟩
  · have a1 : n.tmod m ≤ 0 := by
      have := Int.tmod_nonneg (a := -n) m (by omega)
      rw [Int.neg_tmod] at this; omega
    have a2 : -m < n.tmod m := by
      have := Int.tmod_lt_of_pos (-n) h0
      rw [Int.neg_tmod] at this; omega
    have hw : IntKind.i64.wrap (n.tmod m) = n.tmod m := by rw [IntKind.wrap_i64]; omega
    go_enter Tryd.func13, Tryd.ntmps13
    go_wp2
    all_goals go_ret
    · exact ⟨(n.tmod m + m).toNat, by omega, ret1 (by omega), rfl⟩
    · exact ⟨(n.tmod m).toNat, by omega, ret1 (by omega), rfl⟩

end Go.Proofs.YteleaiodkljigaaDoor
