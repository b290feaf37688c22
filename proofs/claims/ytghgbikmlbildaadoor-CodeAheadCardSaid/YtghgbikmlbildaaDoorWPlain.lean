/-
  The encoding of a unit: plain functions, and how long they are. No program in sight.
-/
import Derived.Test.YtghgbikmlbildaaDoorCWrite2
import Derived.Test.YtghgbikmlbildaaDoorCRow
namespace Go.Proofs.YtghgbikmlbildaaDoor
open Go.RowKit

def srcW (l : List RArg) : List UInt8 := l.flatMap argW
def caseW (c : RCase) : List UInt8 := vint c.lit.toNat ++ vint c.to.toNat
def casesW (l : List RCase) : List UInt8 := l.flatMap caseW
def segW (g : RSeg) : List UInt8 := vint g.type.toNat ++ (argW g.val ++ (argW g.size ++ boolW g.little))
def segsW (l : List RSeg) : List UInt8 := l.flatMap segW
/-- A part of an instruction that is there or not. -/
def opt (b : Bool) (l : List UInt8) : List UInt8 := if b = true then l else []
def instrW (h : Nat) (x : RIns) : List UInt8 :=
  vint x.op.toNat ++ (opt (hasB h 1) (argW x.dst) ++ (opt (hasB h 2) (vint x.src.length ++ srcW x.src) ++ (opt (hasB h 4) (vint x.n.toNat) ++ (opt (hasB h 8) (textW x.name) ++
    (opt (hasB h 16) (vint x.cases.length ++ casesW x.cases) ++ (opt (hasB h 32) (vint x.segs.length ++ segsW x.segs) ++ (opt (hasB h 64) (vint x.to.toNat) ++ opt (hasB h 128) (vint x.live.toNat))))))))

structure WArg (a : RArg) : Prop where
  n0 : 0 ≤ a.n
  n1 : a.n ≤ 1000000
  k0 : 0 ≤ a.kind
  k1 : a.kind ≤ 3
structure WIns (h : Nat) (x : RIns) : Prop where
  op0 : 0 ≤ x.op
  op1 : x.op ≤ 1000
  dst : hasB h 1 = true → WArg x.dst
  src : ∀ a ∈ x.src, WArg a
  srcLen : x.src.length ≤ 1000
  n0 : 0 ≤ x.n
  n1 : x.n ≤ 1000000
  name : x.name.size ≤ 1000
  cases : ∀ c ∈ x.cases, 0 ≤ c.lit ∧ c.lit ≤ 1000000 ∧ 0 ≤ c.to ∧ c.to ≤ 1000000
  casesLen : x.cases.length ≤ 1000
  segs : ∀ g ∈ x.segs, 0 ≤ g.type ∧ g.type ≤ 1000 ∧ WArg g.val ∧ WArg g.size
  segsLen : x.segs.length ≤ 1000
  to0 : 0 ≤ x.to
  to1 : x.to ≤ 1000000
  live0 : 0 ≤ x.live
  live1 : x.live ≤ 1000000

theorem argW_len (a : RArg) : (argW a).length ≤ 10 := vint_len _
theorem boolW_len (b : Bool) : (boolW b).length ≤ 10 := vint_len _
theorem caseW_len (c : RCase) : (caseW c).length ≤ 20 := by have := vint_len c.lit.toNat; have := vint_len c.to.toNat; unfold caseW; simp; omega
theorem segW_len (g : RSeg) : (segW g).length ≤ 40 := by
  have := vint_len g.type.toNat; have := argW_len g.val; have := argW_len g.size; have := boolW_len g.little; unfold segW; simp; omega
theorem flat_len {α : Type} (f : α → List UInt8) (m : Nat) : ∀ (l : List α), (∀ a ∈ l, (f a).length ≤ m) → (l.flatMap f).length ≤ m * l.length
  | [], _ => by simp
  | a :: l, h => by
    have h1 := h a List.mem_cons_self
    have h2 := flat_len f m l (fun b hb => h b (List.mem_cons_of_mem _ hb))
    simp only [List.flatMap_cons, List.length_append, List.length_cons]
    rw [Nat.mul_add]; omega
theorem srcW_len (l : List RArg) : (srcW l).length ≤ 10 * l.length := flat_len _ _ _ fun a _ => argW_len a
theorem casesW_len (l : List RCase) : (casesW l).length ≤ 20 * l.length := flat_len _ _ _ fun a _ => caseW_len a
theorem segsW_len (l : List RSeg) : (segsW l).length ≤ 40 * l.length := flat_len _ _ _ fun a _ => segW_len a
theorem flat_step {α : Type} (f : α → List UInt8) (l : List α) {k : Nat} (h : k < l.length) : (l.take (k + 1)).flatMap f = (l.take k).flatMap f ++ f l[k] := by
  rw [List.take_add_one, List.getElem?_eq_getElem h, List.flatMap_append]; simp
theorem opt_len (b : Bool) (l : List UInt8) : (opt b l).length ≤ l.length := by unfold opt; split <;> simp
theorem textW_len (s : ByteArray) : (textW s).length ≤ 10 + s.size := by
  have := vint_len s.size; unfold textW; simp only [List.length_append, Array.length_toList]; show _ + s.size ≤ _; omega
theorem instrW_len {h : Nat} {x : RIns} (w : WIns h x) : (instrW h x).length ≤ 100000 := by
  have a1 := vint_len x.op.toNat
  have a2 := Nat.le_trans (opt_len (hasB h 1) (argW x.dst)) (argW_len _)
  have a3 := opt_len (hasB h 2) (vint x.src.length ++ srcW x.src)
  have b3 := vint_len x.src.length; have c3 := srcW_len x.src; have d3 := w.srcLen
  have a4 := Nat.le_trans (opt_len (hasB h 4) (vint x.n.toNat)) (vint_len _)
  have a5 := Nat.le_trans (opt_len (hasB h 8) (textW x.name)) (textW_len _); have b5 := w.name
  have a6 := opt_len (hasB h 16) (vint x.cases.length ++ casesW x.cases)
  have b6 := vint_len x.cases.length; have c6 := casesW_len x.cases; have d6 := w.casesLen
  have a7 := opt_len (hasB h 32) (vint x.segs.length ++ segsW x.segs)
  have b7 := vint_len x.segs.length; have c7 := segsW_len x.segs; have d7 := w.segsLen
  have a8 := Nat.le_trans (opt_len (hasB h 64) (vint x.to.toNat)) (vint_len _)
  have a9 := Nat.le_trans (opt_len (hasB h 128) (vint x.live.toNat)) (vint_len _)
  rw [List.length_append] at a3 a6 a7
  unfold instrW
  simp only [List.length_append]
  omega

/-- A function of a unit, a fun, encoded. -/
def funcW (f : RFunc) : List UInt8 := textW f.name ++ (vint f.arity.toNat ++ (boolW f.pub ++ vint f.entry.toNat))
def funW (f : RFun) : List UInt8 := vint f.arity.toNat ++ (vint f.free.toNat ++ vint f.entry.toNat)
theorem funcW_len (f : RFunc) : (funcW f).length ≤ 40 + f.name.size := by
  have := textW_len f.name; have := vint_len f.arity.toNat; have := boolW_len f.pub; have := vint_len f.entry.toNat; unfold funcW; simp only [List.length_append]; omega
theorem funW_len (f : RFun) : (funW f).length ≤ 30 := by
  have := vint_len f.arity.toNat; have := vint_len f.free.toNat; have := vint_len f.entry.toNat; unfold funW; simp only [List.length_append]; omega
end Go.Proofs.YtghgbikmlbildaaDoor
