/-
  Terms: what it is that one is well-formed, and how great it is. No program in sight.
-/
import Derived.Test.YthmpobimmbmddaaGreatDoorCNames
import Derived.Test.YthmpobimmbmddaaGreatDoorCWalk0
namespace Go.Proofs.YthmpobimmbmddaaGreatDoor
open Go.RowKit

def zI (n : Int) : Bool := decide (n = 0)
def zS (s : ByteArray) : Bool := decide (s.size = 0)
def zL (l : List Tm) : Bool := decide (l.length = 0)
/-- The kind of the last of a list (0: none). -/
def lastK (l : List Tm) : Int := match l.getLast? with
  | some t => t.kind
  | none => 0
def lastByte (s : ByteArray) : Nat := (s.data.toList.getLast?.getD 0).toNat
/-- Are the bytes those of so many bits? -/
def bitsV (y : ByteArray) (z : Int) : Bool := (wi z 0 16384 && decide ((y.size : Int) = (z + 7) / 8)) && (decide (z % 8 = 0) || decide (lastByte y % 2 ^ (8 - z % 8).toNat = 0))
def bitsB (t : Tm) : Bool := bitsV t.bytes t.bits
/-- What a kind asks of its own fields. -/
def okK (t : Tm) : Bool :=
  if t.kind = 1 then true
  else if t.kind = 2 then nameB t.name
  else if t.kind = 3 ∨ t.kind = 6 then wi t.int 1 2147483647 && wi t.gen 1 2147483647 && nameB t.name
  else if t.kind = 4 then wi t.int 0 999 && wi t.gen 1 2147483647 && nameB t.name && wi t.arity 0 16 && decide (t.items.length ≤ 200)
  else if t.kind = 5 then nameB t.name && nameB t.func && wi t.arity 0 16
  else if t.kind = 7 then decide (t.items.length ≤ 255)
  else if t.kind = 8 then true
  else if t.kind = 9 then decide (2 ≤ t.items.length) && decide (lastK t.items ≠ 9)
  else if t.kind = 10 then bitsB t
  else false
/-- Are the fields that a kind does not use zero? -/
def zeroK (t : Tm) : Bool :=
  (decide (t.kind = 1 ∨ t.kind = 3 ∨ t.kind = 4 ∨ t.kind = 6) || zI t.int) &&
  (decide (t.kind = 3 ∨ t.kind = 4 ∨ t.kind = 6) || zI t.gen) &&
  (decide (t.kind = 2 ∨ t.kind = 3 ∨ t.kind = 4 ∨ t.kind = 5 ∨ t.kind = 6) || zS t.name) &&
  (decide (t.kind = 5) || zS t.func) &&
  (decide (t.kind = 4 ∨ t.kind = 5) || zI t.arity) &&
  (decide (t.kind = 4 ∨ t.kind = 7 ∨ t.kind = 9) || zL t.items) &&
  (decide (t.kind = 10) || zS t.bytes) &&
  (decide (t.kind = 10) || zI t.bits)
def locB (t : Tm) : Bool := okK t && zeroK t
/-- Well-formed, up to a depth. -/
def formF : Nat → Tm → Bool
  | 0, _ => false
  | f + 1, t => locB t && t.items.all (formF f)
def ownSize (t : Tm) : Int := if t.kind = 9 then (t.items.length : Int) - 1 else if t.kind = 10 then 1 + (t.bits + 63) / 64 else 1
def sumI : List Int → Int
  | [] => 0
  | x :: l => x + sumI l
/-- How great a term is, up to a depth. -/
def wholeF : Nat → Tm → Int
  | 0, _ => 0
  | f + 1, t => ownSize t + sumI (t.items.map (wholeF f))
def validF (f : Nat) (t : Tm) : Bool := formF f t && decide (wholeF f t ≤ 2000)
