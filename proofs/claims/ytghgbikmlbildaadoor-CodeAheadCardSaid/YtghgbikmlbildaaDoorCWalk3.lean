/-
  within, Raises, operand, the rows: the walks.
-/
import Derived.Test.YtghgbikmlbildaaDoorCWalk2
import Derived.Laws.ResultCell
import Derived.Laws.Rows
import Derived.Deep.RegionHeld3
namespace Go.Proofs.YtghgbikmlbildaaDoor
open Go.RowKit
set_option linter.unusedVariables false

def wi (n a b : Int) : Bool := decide (a ≤ n) && decide (n ≤ b)
theorem wi_yes {n a b : Int} (h : a ≤ n) (h' : n ≤ b) : wi n a b = true := by unfold wi; rw [decide_eq_true h, decide_eq_true h']; rfl
theorem wi_no {n a b : Int} (h : ¬ (a ≤ n ∧ n ≤ b)) : wi n a b = false := by
  unfold wi
  by_cases h1 : a ≤ n
  · rw [decide_eq_true h1, decide_eq_false (fun h2 => h ⟨h1, h2⟩)]; rfl
  · rw [decide_eq_false h1]; rfl
set_option maxRecDepth 100000 in
set_option maxHeartbeats 2000000 in
theorem within_any (n a b : Int) (w : World) :
    Calls Tryd.prog 22 #[.int .i64 n, .int .i64 a, .int .i64 b] w fun e w' => e = .returned (.bool (wi n a b)) ∧ w = w' := by
  by_cases h1 : a ≤ n
  · by_cases h2 : n ≤ b
    · have E := Lib.hid (wi_yes h1 h2)
      have d1 : decide (a ≤ n) = true := decide_eq_true h1
      have d2 : decide (n ≤ b) = true := decide_eq_true h2
      go_enter Tryd.func22, Tryd.ntmps22
      go_wp2
      go_ret
      exact ⟨retb E.out.symm, rfl⟩
    · have E := Lib.hid (wi_no (n := n) (a := a) (b := b) (fun h => h2 h.2))
      have d1 : decide (a ≤ n) = true := decide_eq_true h1
      have d2 : decide (n ≤ b) = false := decide_eq_false h2
      go_enter Tryd.func22, Tryd.ntmps22
      go_wp2
      go_ret
      exact ⟨retb E.out.symm, rfl⟩
  · have E := Lib.hid (wi_no (n := n) (a := a) (b := b) (fun h => h1 h.1))
    have d1 : decide (a ≤ n) = false := decide_eq_false h1
    go_enter Tryd.func22, Tryd.ntmps22
    go_wp2
    go_ret
    exact ⟨retb E.out.symm, rfl⟩

theorem raises_mid (op : Int) (h : ¬ (op = 2 ∨ op = 3 ∨ op = 4 ∨ op = 14 ∨ op = 15 ∨ op = 27 ∨ op = 35 ∨ op = 36)) : raises op = wi op 16 23 := by
  unfold raises wi
  by_cases c : 16 ≤ op ∧ op ≤ 23
  · have hm : op ∈ ([2, 3, 4, 14, 15, 16, 17, 18, 19, 20, 21, 22, 23, 27, 35, 36] : List Int) := by simp; omega
    rw [decide_eq_true hm, decide_eq_true c.1, decide_eq_true c.2]; rfl
  · have hm : op ∉ ([2, 3, 4, 14, 15, 16, 17, 18, 19, 20, 21, 22, 23, 27, 35, 36] : List Int) := by simp; omega
    rw [decide_eq_false hm]
    by_cases c1 : 16 ≤ op
    · rw [decide_eq_true c1, decide_eq_false (fun h => c ⟨c1, h⟩)]; rfl
    · rw [decide_eq_false c1]; rfl
set_option maxRecDepth 100000 in
set_option maxHeartbeats 4000000 in
theorem raises_any (op : Int) (w : World) :
    Calls Tryd.prog 10 #[.int .i64 op] w fun e w' => e = .returned (.bool (raises op)) ∧ w = w' := by
  by_cases h : op = 2 ∨ op = 3 ∨ op = 4 ∨ op = 14 ∨ op = 15 ∨ op = 27 ∨ op = 35 ∨ op = 36
  · rcases h with rfl | rfl | rfl | rfl | rfl | rfl | rfl | rfl
    all_goals
      go_enter Tryd.func10, Tryd.ntmps10
      go_wp2
      go_ret
      exact ⟨rfl, rfl⟩
  · have E := Lib.hid (raises_mid op h)
    have t1 : (op == 2) = false := by rw [beq_eq_false_iff_ne]; omega
    have t2 : (op == 3) = false := by rw [beq_eq_false_iff_ne]; omega
    have t3 : (op == 4) = false := by rw [beq_eq_false_iff_ne]; omega
    have t4 : (op == 14) = false := by rw [beq_eq_false_iff_ne]; omega
    have t5 : (op == 15) = false := by rw [beq_eq_false_iff_ne]; omega
    have t6 : (op == 27) = false := by rw [beq_eq_false_iff_ne]; omega
    have t7 : (op == 35) = false := by rw [beq_eq_false_iff_ne]; omega
    have t8 : (op == 36) = false := by rw [beq_eq_false_iff_ne]; omega
    clear h
    go_enter Tryd.func10, Tryd.ntmps10
    go_wp2_with (go_at_call 22; refine (within_any _ _ _ _).mono ?_; rintro e w1 ⟨rfl, rfl⟩)
    go_ret
    exact ⟨retb E.out.symm, rfl⟩

def raiseL : List Int := [2, 3, 4, 14, 15, 16, 17, 18, 19, 20, 21, 22, 23, 27, 35, 36]
theorem raises_take {op : Int} {k : Nat} (h : k < 16) (hh : raiseL[k]'h = op) : raises op = true := by
  unfold raises; exact decide_eq_true (by rw [← hh]; exact List.getElem_mem h)
set_option maxRecDepth 100000 in
set_option maxHeartbeats 4000000 in
theorem rraises_any (op : Int) (w : World) :
    Calls Tryd.prog 11 #[.int .i64 op] w fun e w' => e = .returned (.bool (raises op)) ∧ Below w.heap.size w w' := by
  go_enter Tryd.func11, Tryd.ntmps11
  go_wp2_with fail
  have hcell : ∀ k (h : k < 16), (w.alloc (.cells #[.int .i64 2, .int .i64 3, .int .i64 4, .int .i64 14, .int .i64 15, .int .i64 16, .int .i64 17, .int .i64 18, .int .i64 19, .int .i64 20, .int .i64 21, .int .i64 22, .int .i64 23, .int .i64 27, .int .i64 35, .int .i64 36] 3)).cell? ⟨w.heap.size, k, none⟩ = some (.int .i64 (raiseL[k]'h)) := fun k h => by
    rw [World.cell?_alloc_at _ _ _ _ rfl]
    match k, h with
    | 0, _ => rfl
    | 1, _ => rfl
    | 2, _ => rfl
    | 3, _ => rfl
    | 4, _ => rfl
    | 5, _ => rfl
    | 6, _ => rfl
    | 7, _ => rfl
    | 8, _ => rfl
    | 9, _ => rfl
    | 10, _ => rfl
    | 11, _ => rfl
    | 12, _ => rfl
    | 13, _ => rfl
    | 14, _ => rfl
    | 15, _ => rfl
    | k + 16, h => exact absurd h (by omega)
  have HB := Lib.hid hcell
  clear hcell
  generalize hW : w.alloc _ = W at *
  have hbel : Below w.heap.size w W := by rw [← hW]; exact (Below.refl _ _).alloc (Nat.le_refl _) _
  clear hW
  go_loop [4] (fun i => ∃ k : Nat, k ≤ 16 ∧ i = .int .i64 k ∧ Hid (∀ j (h : j < 16), j < k → raiseL[j]'h ≠ op)) (fun i => 16 - (intOf i).toNat)
  case atStart => exact ⟨0, Nat.zero_le _, rfl, Lib.hid (fun j _ h => absurd h (Nat.not_lt_zero _))⟩
  case round =>
    obtain ⟨k, hk, rfl, HK⟩ := hrel
    by_cases hlt : k < 16
    · have hc := HB.out k hlt
      have HE : Hid (raiseL[k]'hlt = op → raises op = true) := Lib.hid (raises_take hlt)
      have HN : Hid (raiseL[k]'hlt ≠ op → ∀ j (h : j < 16), j < k + 1 → raiseL[j]'h ≠ op) := Lib.hid (fun hne j h hj => by
        rcases Nat.eq_or_lt_of_le (Nat.le_of_lt_succ hj) with e | e
        · subst e; exact hne
        · exact HK.out j h e)
      generalize raiseL[k]'hlt = x at *
      by_cases c : x = op
      · have E := Lib.hid (HE.out c)
        have hb : (x == op) = true := by rw [c]; exact beq_self_eq_true _
        clear c
        go_wp2
        go_ret
        exact ⟨retb E.out.symm, hbel⟩
      · have HN2 := Lib.hid (HN.out c)
        have hb : (x == op) = false := beq_eq_false_iff_ne.2 c
        clear c
        go_wp2
        go_round
        case rel => exact ⟨k + 1, by omega, by go_num, HN2⟩
        case measure => simp [intOf]; omega
    · have E : Hid (raises op = false) := Lib.hid (by
        unfold raises
        refine decide_eq_false (fun hm => ?_)
        obtain ⟨j, hj, e⟩ := List.getElem_of_mem hm
        exact HK.out j hj (by have : j < 16 := hj; omega) e)
      go_wp2
      go_ret
      exact ⟨retb E.out.symm, hbel⟩

/-- An operand of the unit. -/
def opdB (nl : Nat) (a : RArg) : Bool := if a.kind = 1 then wi a.n 0 255 else if a.kind = 2 then wi a.n 0 8191 else if a.kind = 3 then wi a.n 0 ((nl : Int) - 1) else false
set_option maxRecDepth 100000 in
set_option maxHeartbeats 4000000 in
theorem operand_any (B : Nat) (u : RUnit) (lo fo go co : Option Addr) (lc fc gc cc : Nat) (a : RArg) (w : World) (hb : UBox w B u lo fo go co lc fc gc cc) (hl : u.lits.length ≤ 9223372036854775807) (ha : I64 a.kind ∧ I64 a.n) :
    Calls Tryd.prog 32 #[.pointer (some ⟨B, 0, none⟩), .agg #[.int .i64 a.kind, .int .i64 a.n]] w fun e w' => e = .returned (.bool (opdB u.lits.length a)) ∧ Below w.heap.size w w' := by
  have hbe : Below w.heap.size w (w.alloc (.cells #[.int .i64 a.kind, .int .i64 a.n] 34)) := (Below.refl _ _).alloc (Nat.le_refl _) _
  have b2 := (hb.below hbe).c2
  have hlt := hb.lt
  obtain ⟨⟨x1, x2⟩, ⟨y1, y2⟩⟩ := ha
  obtain ⟨ak, an⟩ := a
  simp only at x1 x2 y1 y2
  by_cases k1 : ak = 1
  · subst k1
    have E : Hid (opdB u.lits.length ⟨1, an⟩ = wi an 0 255) := Lib.hid rfl
    go_enter Tryd.func32, Tryd.ntmps32
    go_wp2_with (go_at_call 22; refine (within_any _ _ _ _).mono ?_; rintro e w1 ⟨rfl, rfl⟩)
    go_ret
    exact ⟨retb E.out.symm, hbe⟩
  · by_cases k2 : ak = 2
    · subst k2
      have E : Hid (opdB u.lits.length ⟨2, an⟩ = wi an 0 8191) := Lib.hid rfl
      clear k1
      go_enter Tryd.func32, Tryd.ntmps32
      go_wp2_with (go_at_call 22; refine (within_any _ _ _ _).mono ?_; rintro e w1 ⟨rfl, rfl⟩)
      go_ret
      exact ⟨retb E.out.symm, hbe⟩
    · by_cases k3 : ak = 3
      · subst k3
        have E : Hid (opdB u.lits.length ⟨3, an⟩ = wi an 0 ((u.lits.length : Int) - 1)) := Lib.hid rfl
        clear k1 k2
        generalize u.lits.length = nl at *
        have hw1 : IntKind.i64.wrap ((nl : Int) - 1) = (nl : Int) - 1 := by rw [IntKind.wrap_i64]; omega
        go_enter Tryd.func32, Tryd.ntmps32
        go_wp2_with fail
        go_quiet ((go_at_call 22; exact Calls.quiet_of_same ((within_any _ _ _ _).mono fun _ _ ⟨a, b⟩ => ⟨a, b.symm⟩)))
        go_wp2_with fail
        go_ret
        exact ⟨retb E.out.symm, below_drewN hbe _⟩
      · have E : Hid (opdB u.lits.length ⟨ak, an⟩ = false) := Lib.hid (by unfold opdB; rw [if_neg k1, if_neg k2, if_neg k3])
        have t1 : (ak == 1) = false := beq_eq_false_iff_ne.2 k1
        have t2 : (ak == 2) = false := beq_eq_false_iff_ne.2 k2
        have t3 : (ak == 3) = false := beq_eq_false_iff_ne.2 k3
        clear k1 k2 k3
        go_enter Tryd.func32, Tryd.ntmps32
        go_wp2_with fail
        go_ret
        exact ⟨retb E.out.symm, hbe⟩

end Go.Proofs.YtghgbikmlbildaaDoor
