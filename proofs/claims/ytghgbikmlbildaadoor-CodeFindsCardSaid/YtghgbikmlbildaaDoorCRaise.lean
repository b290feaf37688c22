/-
  The reference's Raises: the walk.
-/
import Derived.Test.YtghgbikmlbildaaDoorCWalk3
namespace Go.Proofs.YtghgbikmlbildaaDoor
open Go.RowKit
set_option linter.unusedVariables false

def raiseL : List Int := [2, 3, 4, 14, 15, 16, 17, 18, 19, 20, 21, 22, 23, 27, 35, 36]
theorem raises_take {op : Int} {k : Nat} (h : k < 16) (hh : raiseL[k]'h = op) : raises op = true := by
  unfold raises; exact decide_eq_true (by rw [← hh]; exact List.getElem_mem h)
set_option maxRecDepth 100000 in
set_option maxHeartbeats 4000000 in
theorem rraises_any (op : Int) (w : World) :
    Calls Tryd.prog 11 #[.int .i64 op] w fun e w' => e = .returned (.bool (raises op)) ∧ Below w.heap.size w w' := by
  go_enter Tryd.func11, Tryd.ntmps11
  go_wp2_with fail
  have hcell : ∀ k (h : k < 16), (w.alloc (.cells #[.int .i64 2, .int .i64 3, .int .i64 4, .int .i64 14, .int .i64 15, .int .i64 16, .int .i64 17, .int .i64 18, .int .i64 19, .int .i64 20, .int .i64 21, .int .i64 22, .int .i64 23, .int .i64 27, .int .i64 35, .int .i64 36] 3)).cell? ⟨w.heap.size, k, none⟩ = some (.int .i64 (raiseL[k]'h)) := fun k h => by
    rw [World.cell?_alloc_at _ _ _ _ rfl]
    match k, h with
    | 0, _ => rfl
    | 1, _ => rfl
    | 2, _ => rfl
    | 3, _ => rfl
    | 4, _ => rfl
    | 5, _ => rfl
    | 6, _ => rfl
    | 7, _ => rfl
    | 8, _ => rfl
    | 9, _ => rfl
    | 10, _ => rfl
    | 11, _ => rfl
    | 12, _ => rfl
    | 13, _ => rfl
    | 14, _ => rfl
    | 15, _ => rfl
    | k + 16, h => exact absurd h (by omega)
  have HB := Lib.hid hcell
  clear hcell
  generalize hW : w.alloc _ = W at *
  have hbel : Below w.heap.size w W := by rw [← hW]; exact (Below.refl _ _).alloc (Nat.le_refl _) _
  clear hW
  go_loop [4] (fun i => ∃ k : Nat, k ≤ 16 ∧ i = .int .i64 k ∧ Hid (∀ j (h : j < 16), j < k → raiseL[j]'h ≠ op)) (fun i => 16 - (intOf i).toNat)
  case atStart => exact ⟨0, Nat.zero_le _, rfl, Lib.hid (fun j _ h => absurd h (Nat.not_lt_zero _))⟩
  case round =>
    obtain ⟨k, hk, rfl, HK⟩ := hrel
    by_cases hlt : k < 16
    · have hc := HB.out k hlt
      have HE : Hid (raiseL[k]'hlt = op → raises op = true) := Lib.hid (raises_take hlt)
      have HN : Hid (raiseL[k]'hlt ≠ op → ∀ j (h : j < 16), j < k + 1 → raiseL[j]'h ≠ op) := Lib.hid (fun hne j h hj => by
        rcases Nat.eq_or_lt_of_le (Nat.le_of_lt_succ hj) with e | e
        · subst e; exact hne
        · exact HK.out j h e)
      generalize raiseL[k]'hlt = x at *
      by_cases c : x = op
      · have E := Lib.hid (HE.out c)
        have hb : (x == op) = true := by rw [c]; exact beq_self_eq_true _
        clear c
        go_wp2
        go_ret
        exact ⟨retb E.out.symm, hbel⟩
      · have HN2 := Lib.hid (HN.out c)
        have hb : (x == op) = false := beq_eq_false_iff_ne.2 c
        clear c
        go_wp2
        go_round
        case rel => exact ⟨k + 1, by omega, by go_num, HN2⟩
        case measure => simp [intOf]; omega
    · have E : Hid (raises op = false) := Lib.hid (by
        unfold raises
        refine decide_eq_false (fun hm => ?_)
        obtain ⟨j, hj, e⟩ := List.getElem_of_mem hm
        exact HK.out j hj (by have : j < 16 := hj; omega) e)
      go_wp2
      go_ret
      exact ⟨retb E.out.symm, hbel⟩

end Go.Proofs.YtghgbikmlbildaaDoor
