/-
  Great, Find, Raises: the plain functions. No program in sight.
-/
import Derived.Test.YthmpobimmbmddaaGreatDoorUMem
namespace Go.Proofs.YthmpobimmbmddaaGreatDoor
open Go.RowKit

def leftL (rec : List Tm → Int → Int) : List Tm → Int → Int
  | [], m => m
  | t :: l, m => if m < 0 then m else
    if m < t.name.size ∨ m < t.func.size ∨ m < t.bytes.size then -1 else
      leftL rec l (rec t.items (m - 1 - t.name.size / 8 - t.func.size / 8 - t.bytes.size / 8))
def leftF : Nat → List Tm → Int → Int
  | 0, _, m => m
  | f + 1, l, m => leftL (leftF f) l m
theorem leftL_le {rec : List Tm → Int → Int} (h : ∀ l m, -1 ≤ m → -1 ≤ rec l m ∧ rec l m ≤ m) : ∀ (l : List Tm) (m : Int), -1 ≤ m → -1 ≤ leftL rec l m ∧ leftL rec l m ≤ m
  | [], m, hm => ⟨hm, Int.le_refl _⟩
  | t :: l, m, hm => by
    unfold leftL
    split
    · exact ⟨hm, Int.le_refl _⟩
    · split
      · omega
      · have h1 := h t.items (m - 1 - t.name.size / 8 - t.func.size / 8 - t.bytes.size / 8) (by omega)
        have := leftL_le h l _ h1.1
        omega
theorem leftF_le : ∀ (f : Nat) (l : List Tm) (m : Int), -1 ≤ m → -1 ≤ leftF f l m ∧ leftF f l m ≤ m
  | 0, _, _, hm => ⟨hm, Int.le_refl _⟩
  | f + 1, l, m, hm => leftL_le (leftF_le f) l m hm
/-- The rounds of the loop: what is left of the list, and of the number. -/
theorem leftL_stop {rec : List Tm → Int → Int} {l : List Tm} {m : Int} (h : l = [] ∨ m < 0) : leftL rec l m = m := by
  rcases h with rfl | h
  · rfl
  · cases l with
    | nil => rfl
    | cons t l => unfold leftL; rw [if_pos h]
theorem drop_step {α : Type} {l : List α} {k : Nat} (h : k < l.length) : l.drop k = l[k] :: l.drop (k + 1) := List.drop_eq_getElem_cons h
theorem leftL_long {rec : List Tm → Int → Int} {l : List Tm} {k : Nat} (h : k < l.length) {m : Int} (h0 : 0 ≤ m) (hl : m < l[k].name.size ∨ m < l[k].func.size ∨ m < l[k].bytes.size) : leftL rec (l.drop k) m = -1 := by
  rw [drop_step h, leftL, if_neg (by omega), if_pos hl]
theorem leftL_next {rec : List Tm → Int → Int} {l : List Tm} {k : Nat} (h : k < l.length) {m : Int} (h0 : 0 ≤ m) (hl : ¬ (m < l[k].name.size ∨ m < l[k].func.size ∨ m < l[k].bytes.size)) :
    leftL rec (l.drop k) m = leftL rec (l.drop (k + 1)) (rec l[k].items (m - 1 - l[k].name.size / 8 - l[k].func.size / 8 - l[k].bytes.size / 8)) := by
  rw [drop_step h, leftL, if_neg (by omega), if_neg hl]

/-- The first function with a name and an arity. -/
def findL (n : ByteArray) (a : Int) : List RFunc → Nat → Option Nat
  | [], _ => none
  | f :: l, i => if f.name = n ∧ f.arity = a then some i else findL n a l (i + 1)
def findI (n : ByteArray) (a : Int) (l : List RFunc) : Int := match findL n a l 0 with
  | some i => i
  | none => 0
def findB (n : ByteArray) (a : Int) (l : List RFunc) : Bool := (findL n a l 0).isSome
theorem findL_hit {n : ByteArray} {a : Int} {l : List RFunc} {k i : Nat} (h : k < l.length) (hh : l[k].name = n ∧ l[k].arity = a) : findL n a (l.drop k) i = some i := by
  rw [drop_step h, findL, if_pos hh]
theorem findL_miss {n : ByteArray} {a : Int} {l : List RFunc} {k i : Nat} (h : k < l.length) (hh : ¬ (l[k].name = n ∧ l[k].arity = a)) : findL n a (l.drop k) i = findL n a (l.drop (k + 1)) (i + 1) := by
  rw [drop_step h, findL, if_neg hh]
/-- The operations that may raise. -/
def raises (op : Int) : Bool := decide (op ∈ ([2, 3, 4, 14, 15, 16, 17, 18, 19, 20, 21, 22, 23, 27, 35, 36] : List Int))

end Go.Proofs.YthmpobimmbmddaaGreatDoor
