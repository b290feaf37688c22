/-
  within, Raises, operand, the rows: the walks.
-/
import Derived.Test.YtghgbikmlbildaaDoorCWalk2
import Derived.Laws.ResultCell
import Derived.Laws.Rows
import Derived.Deep.RegionHeld3
namespace Go.Proofs.YtghgbikmlbildaaDoor
open Go.RowKit
set_option linter.unusedVariables false

def wi (n a b : Int) : Bool := decide (a ≤ n) && decide (n ≤ b)
theorem wi_yes {n a b : Int} (h : a ≤ n) (h' : n ≤ b) : wi n a b = true := by unfold wi; rw [decide_eq_true h, decide_eq_true h']; rfl
theorem wi_no {n a b : Int} (h : ¬ (a ≤ n ∧ n ≤ b)) : wi n a b = false := by
  unfold wi
  by_cases h1 : a ≤ n
  · rw [decide_eq_true h1, decide_eq_false (fun h2 => h ⟨h1, h2⟩)]; rfl
  · rw [decide_eq_false h1]; rfl
set_option maxRecDepth 100000 in
set_option maxHeartbeats 2000000 in
theorem within_any (n a b : Int) (w : World) :
    Calls Tryd.prog 22 #[.int .i64 n, .int .i64 a, .int .i64 b] w fun e w' => e = .returned (.bool (wi n a b)) ∧ w = w' := by
  by_cases h1 : a ≤ n
  · by_cases h2 : n ≤ b
    · have E := Lib.hid (wi_yes h1 h2)
      have d1 : decide (a ≤ n) = true := decide_eq_true h1
      have d2 : decide (n ≤ b) = true := decide_eq_true h2
      go_enter Tryd.func22, Tryd.ntmps22
      go_wp2
      go_ret
      exact ⟨retb E.out.symm, rfl⟩
    · have E := Lib.hid (wi_no (n := n) (a := a) (b := b) (fun h => h2 h.2))
      have d1 : decide (a ≤ n) = true := decide_eq_true h1
      have d2 : decide (n ≤ b) = false := decide_eq_false h2
      go_enter Tryd.func22, Tryd.ntmps22
      go_wp2
      go_ret
      exact ⟨retb E.out.symm, rfl⟩
  · have E := Lib.hid (wi_no (n := n) (a := a) (b := b) (fun h => h1 h.1))
    have d1 : decide (a ≤ n) = false := decide_eq_false h1
    go_enter Tryd.func22, Tryd.ntmps22
    go_wp2
    go_ret
    exact ⟨retb E.out.symm, rfl⟩

theorem raises_mid (op : Int) (h : ¬ (op = 2 ∨ op = 3 ∨ op = 4 ∨ op = 14 ∨ op = 15 ∨ op = 27 ∨ op = 35 ∨ op = 36)) : raises op = wi op 16 23 := by
  unfold raises wi
  by_cases c : 16 ≤ op ∧ op ≤ 23
  · have hm : op ∈ ([2, 3, 4, 14, 15, 16, 17, 18, 19, 20, 21, 22, 23, 27, 35, 36] : List Int) := by simp; omega
    rw [decide_eq_true hm, decide_eq_true c.1, decide_eq_true c.2]; rfl
  · have hm : op ∉ ([2, 3, 4, 14, 15, 16, 17, 18, 19, 20, 21, 22, 23, 27, 35, 36] : List Int) := by simp; omega
    rw [decide_eq_false hm]
    by_cases c1 : 16 ≤ op
    · rw [decide_eq_true c1, decide_eq_false (fun h => c ⟨c1, h⟩)]; rfl
    · rw [decide_eq_false c1]; rfl
set_option maxRecDepth 100000 in
set_option maxHeartbeats 4000000 in
theorem raises_any (op : Int) (w : World) :
    Calls Tryd.prog 10 #[.int .i64 op] w fun e w' => e = .returned (.bool (raises op)) ∧ w = w' := by
  by_cases h : op = 2 ∨ op = 3 ∨ op = 4 ∨ op = 14 ∨ op = 15 ∨ op = 27 ∨ op = 35 ∨ op = 36
  · rcases h with rfl | rfl | rfl | rfl | rfl | rfl | rfl | rfl
    all_goals
      go_enter Tryd.func10, Tryd.ntmps10
      go_wp2
      go_ret
      exact ⟨rfl, rfl⟩
  · have E := Lib.hid (raises_mid op h)
    have t1 : (op == 2) = false := by rw [beq_eq_false_iff_ne]; omega
    have t2 : (op == 3) = false := by rw [beq_eq_false_iff_ne]; omega
    have t3 : (op == 4) = false := by rw [beq_eq_false_iff_ne]; omega
    have t4 : (op == 14) = false := by rw [beq_eq_false_iff_ne]; omega
    have t5 : (op == 15) = false := by rw [beq_eq_false_iff_ne]; omega
    have t6 : (op == 27) = false := by rw [beq_eq_false_iff_ne]; omega
    have t7 : (op == 35) = false := by rw [beq_eq_false_iff_ne]; omega
    have t8 : (op == 36) = false := by rw [beq_eq_false_iff_ne]; omega
    clear h
    go_enter Tryd.func10, Tryd.ntmps10
    go_wp2_with (go_at_call 22; refine (within_any _ _ _ _).mono ?_; rintro e w1 ⟨rfl, rfl⟩)
    go_ret
    exact ⟨retb E.out.symm, rfl⟩

/-- An operand of the unit. -/
def opdB (nl : Nat) (a : RArg) : Bool := if a.kind = 1 then wi a.n 0 255 else if a.kind = 2 then wi a.n 0 8191 else if a.kind = 3 then wi a.n 0 ((nl : Int) - 1) else false
set_option maxRecDepth 100000 in
set_option maxHeartbeats 4000000 in
theorem operand_any (B : Nat) (u : RUnit) (lo fo go co : Option Addr) (lc fc gc cc : Nat) (a : RArg) (w : World) (hb : UBox w B u lo fo go co lc fc gc cc) (hl : u.lits.length ≤ 9223372036854775807) (ha : I64 a.kind ∧ I64 a.n) :
    Calls Tryd.prog 32 #[.pointer (some ⟨B, 0, none⟩), .agg #[.int .i64 a.kind, .int .i64 a.n]] w fun e w' => e = .returned (.bool (opdB u.lits.length a)) ∧ Below w.heap.size w w' := by
  have hbe : Below w.heap.size w (w.alloc (.cells #[.int .i64 a.kind, .int .i64 a.n] 34)) := (Below.refl _ _).alloc (Nat.le_refl _) _
  have b2 := (hb.below hbe).c2
  have hlt := hb.lt
  obtain ⟨⟨x1, x2⟩, ⟨y1, y2⟩⟩ := ha
  obtain ⟨ak, an⟩ := a
  simp only at x1 x2 y1 y2
  by_cases k1 : ak = 1
  · subst k1
    have E : Hid (opdB u.lits.length ⟨1, an⟩ = wi an 0 255) := Lib.hid rfl
    go_enter Tryd.func32, Tryd.ntmps32
    go_wp2_with (go_at_call 22; refine (within_any _ _ _ _).mono ?_; rintro e w1 ⟨rfl, rfl⟩)
    go_ret
    exact ⟨retb E.out.symm, hbe⟩
  · by_cases k2 : ak = 2
    · subst k2
      have E : Hid (opdB u.lits.length ⟨2, an⟩ = wi an 0 8191) := Lib.hid rfl
      clear k1
      go_enter Tryd.func32, Tryd.ntmps32
      go_wp2_with (go_at_call 22; refine (within_any _ _ _ _).mono ?_; rintro e w1 ⟨rfl, rfl⟩)
      go_ret
      exact ⟨retb E.out.symm, hbe⟩
    · by_cases k3 : ak = 3
      · subst k3
        have E : Hid (opdB u.lits.length ⟨3, an⟩ = wi an 0 ((u.lits.length : Int) - 1)) := Lib.hid rfl
        clear k1 k2
        generalize u.lits.length = nl at *
        have hw1 : IntKind.i64.wrap ((nl : Int) - 1) = (nl : Int) - 1 := by rw [IntKind.wrap_i64]; omega
        go_enter Tryd.func32, Tryd.ntmps32
        go_wp2_with fail
        go_quiet ((go_at_call 22; exact Calls.quiet_of_same ((within_any _ _ _ _).mono fun _ _ ⟨a, b⟩ => ⟨a, b.symm⟩)))
        go_wp2_with fail
        go_ret
        exact ⟨retb E.out.symm, below_drewN hbe _⟩
      · have E : Hid (opdB u.lits.length ⟨ak, an⟩ = false) := Lib.hid (by unfold opdB; rw [if_neg k1, if_neg k2, if_neg k3])
        have t1 : (ak == 1) = false := beq_eq_false_iff_ne.2 k1
        have t2 : (ak == 2) = false := beq_eq_false_iff_ne.2 k2
        have t3 : (ak == 3) = false := beq_eq_false_iff_ne.2 k3
        clear k1 k2 k3
        go_enter Tryd.func32, Tryd.ntmps32
        go_wp2_with fail
        go_ret
        exact ⟨retb E.out.symm, hbe⟩

end Go.Proofs.YtghgbikmlbildaaDoor
