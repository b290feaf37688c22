/-
  A bound of how much is counted of a term; worlds that have grown. No program in sight.
-/
import Derived.Test.YthmpobimmbmddaaGreatDoorUMem
import Derived.Laws.AppendOwn
import Derived.Deep.Draws
namespace Go.Proofs.YthmpobimmbmddaaGreatDoor
open Go.RowKit
set_option linter.unusedVariables false
set_option linter.unusedSimpArgs false

def sumN : List Nat → Nat
  | [] => 0
  | x :: l => x + sumN l
def capF : Nat → Tm → Nat
  | 0, _ => 0
  | f + 1, t => 300 + t.items.length + sumN (t.items.map (capF f))
theorem grownBy_refl (w : World) (o : Option Nat) : w.grownBy w o := ⟨rfl, rfl, rfl, Nat.le_refl _, fun _ _ _ => rfl⟩
theorem grownBy_trans {a b c : World} {o : Option Nat} (h : a.grownBy b o) (h' : b.grownBy c o) : a.grownBy c o :=
  ⟨h'.os.trans h.os, h'.tape.trans h.tape, h'.output.trans h.output, Nat.le_trans h.size h'.size, fun k hk hn => (h'.block k (Nat.lt_of_lt_of_le hk h.size) hn).trans (h.block k hk hn)⟩
theorem grownBy_drewN {a b : World} {o : Option Nat} (h : a.grownBy b o) (n : Nat) : a.grownBy (b.drewN n) o := ⟨h.os, h.tape, h.output, h.size, h.block⟩
theorem grownBy_drew {a b : World} {o : Option Nat} (h : a.grownBy b o) : a.grownBy b.drew o := ⟨h.os, h.tape, h.output, h.size, h.block⟩
theorem grownBy_below {a b : World} (h : Below a.heap.size a b) (o : Option Nat) : a.grownBy b o := ⟨h.os, h.tape, h.output, h.size, fun k hk _ => h.block k hk⟩
end Go.Proofs.YthmpobimmbmddaaGreatDoor
