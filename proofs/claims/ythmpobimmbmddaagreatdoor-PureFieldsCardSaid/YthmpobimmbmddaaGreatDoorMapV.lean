/-
  A map that the call has made, from strings to values of any kind: what it holds is a function from keys to values.
-/
import Derived.Maps.OwnOps
import Derived.Maps.OwnSet
import Derived.Maps.Views
import Derived.Test.YthmpobimmbmddaaGreatDoorCWalk0
namespace Go.Proofs.YthmpobimmbmddaaGreatDoor
open Go.RowKit Go.Maps Go.WideMaps
set_option linter.unusedVariables false
set_option linter.unusedSimpArgs false

def heldV (v : Value) : Option (DataW Value × List MemPlace) := some (.held v, [])
def putV (t : List UInt8 → Value) (k : List UInt8) (v : Value) : List UInt8 → Value := fun x => if x = k then v else t x
/-- Block M is a map of at most n entries (keys of type K, strings) that reads as t; z is the zero value. -/
def MapVP (P : Program) (w : World) (K : TypeId) (M n : Nat) (z : Value) (t : List UInt8 → Value) : Prop := ∃ D : DataW Value, w.ownsMap P K heldV M n D ∧ ∀ k : List UInt8, D.atKey (.string k) (.held z) = .held (t k)
section
variable {P : Program}
theorem isKeyS (k : List UInt8) : WideAt.IsKeyLit (.string k) := by unfold WideAt.IsKeyLit; simp
theorem MapVP.lt {w : World} {K : TypeId} {M n : Nat} {z : Value} {t : List UInt8 → Value} (h : MapVP P w K M n z t) : M < w.heap.size := by obtain ⟨D, h, _⟩ := h; exact h.lt
theorem MapVP.alloc {w : World} {K : TypeId} {M n : Nat} {z : Value} {t : List UInt8 → Value} (h : MapVP P w K M n z t) (o : Obj) : MapVP P (w.alloc o) K M n z t := by obtain ⟨D, h, h2⟩ := h; exact ⟨D, h.alloc o, h2⟩
theorem MapVP.mono {w : World} {K : TypeId} {M n m : Nat} {z : Value} {t : List UInt8 → Value} (h : MapVP P w K M n z t) (hm : n ≤ m) : MapVP P w K M m z t := by obtain ⟨D, h, h2⟩ := h; exact ⟨D, h.mono hm, h2⟩
theorem MapVP.grown {w w' : World} {K : TypeId} {M n : Nat} {z : Value} {t : List UInt8 → Value} {row : Option Nat} (h : MapVP P w K M n z t) (hg : w.grownBy w' row) (hne : some M ≠ row) : MapVP P w' K M n z t := by obtain ⟨D, h, h2⟩ := h; exact ⟨D, h.kept hg hne, h2⟩
theorem MapVP.below {w w' : World} {K : TypeId} {M n : Nat} {z : Value} {t : List UInt8 → Value} (h : MapVP P w K M n z t) (hb : Below w.heap.size w w') : MapVP P w' K M n z t := by
  obtain ⟨D, h, h2⟩ := h
  exact ⟨D, h.kept (row := none) ⟨hb.os, hb.tape, hb.output, hb.size, fun k hk _ => hb.block k hk⟩ (by simp), h2⟩
theorem MapVP.made (w : World) (K : TypeId) (z : Value) : MapVP P (w.alloc (.map #[] 0)) K w.heap.size 0 z (fun _ => z) := ⟨_, World.ownsMap_made _ _ _ _, fun k => rfl⟩
theorem MapVP.put {w' : World} {K : TypeId} {M m : Nat} {z : Value} {t : List UInt8 → Value} {D : DataW Value} (hD : IsMap D) (h2 : ∀ k : List UInt8, D.atKey (.string k) (.held z) = .held (t k)) (x : List UInt8) (v : Value) (h : w'.ownsMap P K heldV M m (D.put (.string x) (.held v))) : MapVP P w' K M m z (putV t x v) := by
  refine ⟨_, h, fun k => ?_⟩
  unfold putV
  by_cases e : k = x
  · rw [if_pos e, e, atKey_put_same hD (isKeyS x)]
  · rw [if_neg e, atKey_put_other (by intro h2; injection h2 with h2; exact e h2)]; exact h2 k
variable {w : World} {ops : Array Oper} {rest : List Oper} {o : Oper} {a : Act} {Q : Exit → Act → World → Prop}
/-- A look-up (without ok) of a key that is x. -/
theorem wpList_look_V (hg : o.guard = none) (m xo : Operand) (ty K E : TypeId) (hop : o.op = Op.lookup ty m xo false) (law : Keyed P K) (ht : P.underlying ty = some (.map K E)) {z : Value} (hz : (zeroValue E).run P w = .ok z w)
    {M n : Nat} {t : List UInt8 → Value} (hm : a.eval m = .map (some M)) (hM : MapVP P w K M n z t) (key : Value) (x : List UInt8) (hx : a.eval xo = key) (hkey : keyOf P K key = some (.string x))
    (hK : wpList P ops Q rest (a.put o.dst (t x)) w) : wpList P ops Q (o :: rest) a w := by
  obtain ⟨D, hown, hD⟩ := hM
  refine wpList_plain hg fun K' hK' => ?_
  obtain ⟨v, ps, hrun, hv⟩ := hown.lookup law ht hz (zd := .held z) (zp := []) rfl hkey
  have e : v = t x := by
    have h := hv
    unfold heldV at h
    rw [hD x] at h
    injection h with h
    injection h with h _
    injection h with h
  subst e
  unfold Oper.wp
  simp [execOp, hop, hm, hx, hrun, Result.andThen]
  exact hK' _ _ hK
/-- A store into the map. -/
theorem wpList_store_V (hg : o.guard = none) (m xo vo : Operand) (ty K E : TypeId) (hop : o.op = Op.mapUpdate ty m xo vo) (law : Keyed P K) (ht : P.underlying ty = some (.map K E)) {z : Value}
    {M n : Nat} {t : List UInt8 → Value} (hm : a.eval m = .map (some M)) (hM : MapVP P w K M n z t) (hn : n < maxLen) (key v : Value) (x : List UInt8) (hx : a.eval xo = key) (hv : a.eval vo = v) (hkey : keyOf P K key = some (.string x))
    (hK : ∀ w', MapVP P w' K M (n + 1) z (putV t x v) → w.grownBy w' (some M) → wpList P ops Q rest (a.put o.dst undef) w') : wpList P ops Q (o :: rest) a w := by
  obtain ⟨D, hown, hD⟩ := hM
  refine wpList_plain hg fun K' hK' => ?_
  obtain ⟨w', hrun, r1, r2⟩ := hown.update law ht hn hkey (d := .held v) (ps := []) rfl
  unfold Oper.wp
  simp [execOp, hop, hm, hx, hv, hrun, Result.andThen]
  exact hK' _ _ (hK w' (MapVP.put hown.isMap hD x v r1) r2)
end
abbrev MapV := MapVP Tryz.prog
end Go.Proofs.YthmpobimmbmddaaGreatDoor
