/-
  left, Great, large, Find, Raises: the walks.
-/
import Derived.Test.YthmpobimmbmddaaGreatDoorProg
import Derived.Test.YthmpobimmbmddaaGreatDoorCPlain
import Derived.Test.YthmpobimmbmddaaGreatDoorURow
import Derived.WalkKit
import Derived.WalkSpells
import Derived.WalkLawsBesides
import Derived.Handy
import Derived.Lib.Hide
import Derived.Deep.QuietTactic
import Derived.BigQuiet
namespace Go.Proofs.YthmpobimmbmddaaGreatDoor
open Go.RowKit
set_option linter.unusedVariables false

theorem below_next {w a b : World} (h : Below w.heap.size w a) (k : Below a.heap.size a b) : Below w.heap.size w b := h.trans (k.mono h.size)
theorem below_drewN {B : Nat} {a w : World} (h : Below B a w) (n : Nat) : Below B a (w.drewN n) := ⟨h.os, h.tape, h.output, h.size, h.block⟩

theorem SlAt.zero {w : World} {ao : Option Addr} {l : List Tm} (h : SlAt w 9 (TmAt w 0) ao l) : l = [] := by
  rcases h with h | ⟨b, off, e, hb, hr⟩
  · exact h
  · cases l with
    | nil => rfl
    | cons t l =>
      obtain ⟨cs, _, _, hf⟩ := hr 0 (by simp)
      exact hf.elim
theorem SlAt.tms {w w' : World} {f : Nat} {ao : Option Addr} {l : List Tm} (h : SlAt w 9 (TmAt w f) ao l) (hb : Below w.heap.size w w') : SlAt w' 9 (TmAt w' f) ao l := h.mono hb fun _ _ h => h.below hb

/-- The terms of a list are of one depth. -/
theorem tms_depth {w : World} {ao : Option Addr} {l : List Tm} (h : SlAt w 9 (TmA w) ao l) : ∃ f, SlAt w 9 (TmAt w f) ao l := by
  rcases h with h | ⟨b, off, e, hb, hr⟩
  · exact ⟨0, .inl h⟩
  · have : ∀ m, m ≤ l.length → ∃ f, ∀ j (hj : j < l.length), j < m → ∃ cs : List Value, cs.length = 9 ∧ (∀ i, i < 9 → w.cell? ⟨b, off + j * 9 + i, none⟩ = cs[i]?) ∧ TmAt w f cs l[j] := by
      intro m
      induction m with
      | zero => exact fun _ => ⟨0, fun j _ h => absurd h (Nat.not_lt_zero _)⟩
      | succ m ih =>
        intro hm
        obtain ⟨f, hf⟩ := ih (by omega)
        obtain ⟨cs, h1, h2, g, h3⟩ := hr m (by omega)
        refine ⟨max f g, fun j hj hjm => ?_⟩
        by_cases e : j = m
        · subst e; exact ⟨cs, h1, h2, TmAt.le (Nat.le_max_right _ _) h3⟩
        · obtain ⟨cs', a1, a2, a3⟩ := hf j hj (by omega)
          exact ⟨cs', a1, a2, TmAt.le (Nat.le_max_left _ _) a3⟩
    obtain ⟨f, hf⟩ := this l.length (Nat.le_refl _)
    exact ⟨f, .inr ⟨b, off, e, hb, fun j hj => hf j hj hj⟩⟩

end Go.Proofs.YthmpobimmbmddaaGreatDoor
