/-
  Reading decimal texts: the plain functions. No program in sight.
-/
import Derived.Test.YtlefjhicjmkonaaITextPlain
namespace Go.Proofs.Ytlefjhicjmkonaa
open Go.RowKit

/-- A decimal digit. -/
def isD (b : UInt8) : Bool := decide (48 ≤ b.toNat ∧ b.toNat ≤ 57)
/-- 0, or one or more digits of which the first is not 0. -/
def dgs (l : List UInt8) : Bool := decide (0 < l.length) && (l.all isD && (decide (l.length ≤ 1) || decide (l.getD 0 0 ≠ 48)))
/-- Is there a sign? What stands behind it. -/
def sgn (l : List UInt8) : Bool := decide (0 < l.length ∧ l.getD 0 0 = 45)
def mag (l : List UInt8) : List UInt8 := if sgn l = true then l.drop 1 else l
def form (l : List UInt8) : Bool := dgs (mag l) && !decide (l = [45, 48])
/-- The number of digits. -/
def val (l : List UInt8) : Nat := l.foldl (fun a b => 10 * a + (b.toNat - 48)) 0
def num (l : List UInt8) : Int := if sgn l = true then -(val (mag l) : Int) else val (mag l)
/-- Read: ErrForm is 6. -/
def rdv (l : List UInt8) : Int := if form l = true then okv (num l) else 0
def rde (l : List UInt8) : Int := if form l = true then oke (num l) else 6

theorem val_snoc (l : List UInt8) (b : UInt8) : val (l ++ [b]) = 10 * val l + (b.toNat - 48) := by simp [val]
theorem val_take {l : List UInt8} {k : Nat} (h : k < l.length) : val (l.take (k + 1)) = 10 * val (l.take k) + (l[k].toNat - 48) := by
  rw [List.take_succ_eq_append_getElem h, val_snoc]
theorem foldl_ge (l : List UInt8) : ∀ a : Nat, a ≤ l.foldl (fun a b => 10 * a + (b.toNat - 48)) a := by
  induction l with
  | nil => exact fun a => Nat.le_refl _
  | cons b l ih => exact fun a => Nat.le_trans (show a ≤ 10 * a + (b.toNat - 48) by omega) (ih _)
theorem val_mono (l : List UInt8) (k : Nat) : val (l.take k) ≤ val l := by
  have h : val l = (l.drop k).foldl (fun a b => 10 * a + (b.toNat - 48)) (val (l.take k)) := by
    unfold val; rw [← List.foldl_append, List.take_append_drop]
  rw [h]; exact foldl_ge _ _
/-! dgs, place by place. -/
theorem dgs_yes {l : List UInt8} (h0 : 0 < l.length) (h : ∀ j (hj : j < l.length), 48 ≤ l[j].toNat ∧ l[j].toNat ≤ 57) (h1 : 1 < l.length → l[0].toNat ≠ 48) : dgs l = true := by
  have ha : l.all isD = true := by
    rw [List.all_eq_true]
    intro x hx
    obtain ⟨j, hj, rfl⟩ := List.getElem_of_mem hx
    exact decide_eq_true (h j hj)
  unfold dgs
  rw [ha]
  by_cases c : 1 < l.length
  · have := h1 c
    have e : l.getD 0 0 = l[0] := by simp [h0]
    rw [e]
    have : l[0] ≠ 48 := fun e => this (by rw [e]; rfl)
    simp [h0, this]
  · have : l.length ≤ 1 := by omega
    simp [h0, this]
theorem dgs_digit {l : List UInt8} (h : dgs l = true) (j : Nat) (hj : j < l.length) : 48 ≤ l[j].toNat ∧ l[j].toNat ≤ 57 := by
  unfold dgs at h
  simp only [Bool.and_eq_true] at h
  have := List.all_eq_true.1 h.2.1 _ (List.getElem_mem hj)
  exact of_decide_eq_true this
theorem dgs_len {l : List UInt8} (h : dgs l = true) : 0 < l.length := by
  unfold dgs at h
  simp only [Bool.and_eq_true] at h
  exact of_decide_eq_true h.1
theorem dgs_first {l : List UInt8} (h : dgs l = true) (h1 : 1 < l.length) : l[0].toNat ≠ 48 := by
  unfold dgs at h
  simp only [Bool.and_eq_true, Bool.or_eq_true] at h
  rcases h.2.2 with c | c
  · have := of_decide_eq_true c; omega
  · have := of_decide_eq_true c
    intro e
    apply this
    have e2 : l.getD 0 0 = l[0] := by simp [show 0 < l.length by omega]
    rw [e2]; exact UInt8.toNat_inj.1 e
theorem dgs_no_digit {l : List UInt8} (j : Nat) (hj : j < l.length) (h : l[j].toNat < 48 ∨ 57 < l[j].toNat) : dgs l = false := by
  cases hd : dgs l with
  | false => rfl
  | true => have := dgs_digit hd j hj; omega
theorem dgs_no_first {l : List UInt8} (h1 : 1 < l.length) (h : l[0].toNat = 48) : dgs l = false := by
  cases hd : dgs l with
  | false => rfl
  | true => exact absurd h (dgs_first hd h1)
theorem dgs_nil : dgs [] = false := rfl

theorem tdiv10 {d : Int} (h : d ≤ 9223372036854775808) : (-9223372036854775808 + d).tdiv 10 = -((9223372036854775808 - d) / 10) := by
  rw [show -9223372036854775808 + d = -(9223372036854775808 - d) by omega, Int.neg_tdiv, Int.tdiv_eq_ediv_of_nonneg (by omega)]
/-- A number of digits that is too great stays so. -/
theorem val_over {l : List UInt8} {k : Nat} (h : 9223372036854775808 < val (l.take k)) : ¬ I64 (val l : Int) ∧ ¬ I64 (-(val l : Int)) := by
  have := val_mono l k
  unfold I64
  omega
theorem form_neg {l : List UInt8} (h : sgn l = true) : mag l = l.drop 1 ∧ num l = -(val (mag l) : Int) := by unfold num mag; rw [if_pos h]; exact ⟨rfl, by rw [if_pos h]⟩
theorem form_pos {l : List UInt8} (h : sgn l = false) : mag l = l ∧ num l = (val (mag l) : Int) := by unfold num mag; rw [h]; exact ⟨rfl, rfl⟩
theorem sgn_of {l : List UInt8} (h0 : 0 < l.length) : sgn l = decide (l[0].toNat = 45) := by
  unfold sgn
  have e : l.getD 0 0 = l[0] := by simp [h0]
  rw [e, decide_eq_decide]
  constructor
  · intro h; rw [h.2]; rfl
  · intro h; exact ⟨h0, UInt8.toNat_inj.1 h⟩

end Go.Proofs.Ytlefjhicjmkonaa
