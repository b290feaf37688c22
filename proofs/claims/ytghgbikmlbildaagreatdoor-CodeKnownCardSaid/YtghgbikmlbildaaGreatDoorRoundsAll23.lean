/-
  What the reader of units makes of bytes: plain functions, and that what it accepts is the encoding of what it returns. wire.Take: what is deferred: the walks. wire.Take, wire.Get: the walks. wire.Get: the walk. The reader of units, as a plain function: instructions, units: what is accepted is the encoding of what is returned, and an encoding is read back.
-/
import Derived.Defers
import Derived.Recover
import Derived.RegionTactic
import Derived.ChangeAlike
import Derived.BigRegion
import Derived.Test.YtghgbikmlbildaaGreatDoorRoundsAll07
import Derived.Test.YtghgbikmlbildaaGreatDoorRoundsAll15
import Derived.Test.YtghgbikmlbildaaGreatDoorRoundsAll21
import Derived.Test.YtghgbikmlbildaaGreatDoorRoundsAll22
namespace Go.Proofs.YtghgbikmlbildaaGreatDoor
open Go.RowKit
set_option linter.unusedVariables false
set_option linter.unusedSimpArgs false

abbrev Dec (α : Type) := List UInt8 → Option (α × List UInt8)
def vR : Nat → Bool → Dec Nat
 | 0, _, _ => none
 | _ + 1, _, [] => none
 | k + 1, b, c :: l => if c.toNat < 128 then (if c.toNat = 0 ∧ b = false then none else some (c.toNat, l)) else (vR k false l).bind fun x => some (c.toNat - 128 + 128 * x.1, x.2)
def vD : Dec Nat := vR 6 true
def intD : Dec Int := fun l => (vD l).bind fun x => some ((x.1 : Int), x.2)
def argD : Dec RArg := fun l => (vD l).bind fun x => some (⟨((x.1 % 4 : Nat) : Int), ((x.1 / 4 : Nat) : Int)⟩, x.2)
def boolD : Dec Bool := fun l => (vD l).bind fun x => if x.1 ≤ 1 then some (decide (x.1 = 1), x.2) else none
def textD : Dec ByteArray := fun l => (vD l).bind fun x => strD x.1 x.2
def repD {α : Type} (one : Dec α) : Nat → Dec (List α)
 | 0, l => some ([], l)
 | n + 1, l => (one l).bind fun x => (repD one n x.2).bind fun y => some (x.1 :: y.1, y.2)
def listD {α : Type} (one : Dec α) : Dec (List α) := fun l => (vD l).bind fun x => repD one x.1 x.2
def optD {α : Type} (b : Bool) (one : Dec α) (z : α) : Dec α := fun l => if b = true then one l else some (z, l)
def caseD : Dec RCase := fun l => (intD l).bind fun x => (intD x.2).bind fun y => some (⟨x.1, y.1⟩, y.2)
def segD : Dec RSeg := fun l => (intD l).bind fun x => (argD x.2).bind fun y => (argD y.2).bind fun z => (boolD z.2).bind fun q => some (⟨x.1, y.1, z.1, q.1⟩, q.2)
def funcD : Dec RFunc := fun l => (textD l).bind fun x => (intD x.2).bind fun y => (boolD y.2).bind fun z => (intD z.2).bind fun q => some (⟨x.1, y.1, z.1, q.1⟩, q.2)
def fnD : Dec RFun := fun l => (intD l).bind fun x => (intD x.2).bind fun y => (intD y.2).bind fun z => some (⟨x.1, y.1, z.1⟩, z.2)
/-- The parts of an instruction with this operation and these fields. -/
def insG (op : Int) (h : Nat) : Dec RIns := fun l =>
 (optD (hasB h 1) argD ⟨0, 0⟩ l).bind fun d => (optD (hasB h 2) (listD argD) [] d.2).bind fun s => (optD (hasB h 4) intD 0 s.2).bind fun n => (optD (hasB h 8) textD ⟨#[]⟩ n.2).bind fun m =>
  (optD (hasB h 16) (listD caseD) [] m.2).bind fun c => (optD (hasB h 32) (listD segD) [] c.2).bind fun g => (optD (hasB h 64) intD 0 g.2).bind fun t => (optD (hasB h 128) intD 0 t.2).bind fun v =>
   some (⟨op, d.1, s.1, t.1, n.1, v.1, m.1, c.1, g.1⟩, v.2)
def insD : Dec RIns := fun l => (intD l).bind fun o => if 1 ≤ o.1 ∧ o.1 ≤ 40 then insG o.1 (rowAt o.1).1.toNat o.2 else none
/-- wire.Take. -/
def wtakeD (l : List UInt8) : Option (Tm × List UInt8) := (termD 2000 0 l).bind fun x => if validF 2000 x.1.1 = true then some (x.1.1, x.2) else none
/-- wire.Get. -/
def wgetD : List UInt8 → Option Tm
 | [] => none
 | c :: l => if c.toNat = 131 then (wtakeD l).bind fun x => if x.2 = [] then some x.1 else none else none
def litD : Dec Tm := fun l => (textD l).bind fun x => (wgetD x.1.data.toList).bind fun t => some (t, x.2)
def unitD : Dec RUnit := fun l =>
 (textD l).bind fun m => (intD m.2).bind fun v => (listD litD v.2).bind fun a => (listD funcD a.2).bind fun b => (listD fnD b.2).bind fun c => (listD insD c.2).bind fun d =>
  some (⟨m.1, v.1, a.1, b.1, c.1, d.1⟩, d.2)
/-- code.Get. -/
def ugetD (l : List UInt8) : Option RUnit := (unitD l).bind fun x => if x.2 = [] ∧ checkE 2000 x.1 = 0 then some x.1 else none

/-! ### What is accepted is the encoding of what is returned -/
def encW (f : Nat) (t : Tm) : ByteArray := ⟨(putE f t).toArray⟩
theorem vR_enc : ∀ (k : Nat) (b : Bool) (l : List UInt8) (n : Nat) (l' : List UInt8), vR k b l = some (n, l') → ∀ g, k ≤ g → l = vintF g n ++ l' ∧ n < 128 ^ k ∧ (b = false → 0 < n)
 | 0, b, l, n, l', h, _, _ => absurd h (by simp [vR])
 | k + 1, b, [], n, l', h, _, _ => absurd h (by simp [vR])
 | k + 1, b, c :: l, n, l', h, g, hg => by
  obtain ⟨g, rfl⟩ : ∃ g', g = g' + 1 := ⟨g - 1, by omega⟩
  have hp := Nat.pow_pos (n := k) (show 0 < 128 by omega)
  have hc := c.toNat_lt
  rw [Nat.pow_succ]
  unfold vR at h
  split at h
  ·next c1 =>
   split at h
   ·exact absurd h (by simp)
   ·next c2 =>
    simp only [Option.some.injEq, Prod.mk.injEq] at h
    obtain ⟨rfl, rfl⟩ := h
    unfold vintF
    rw [if_pos c1, UInt8.ofNat_toNat]
    refine ⟨rfl, by omega, fun e => ?_⟩
    have : ¬ c.toNat = 0 := fun e2 => c2 ⟨e2, e⟩
    omega
  ·next c1 =>
   obtain ⟨x, hx, h⟩ := Option.bind_eq_some_iff.1 h
   simp only [Option.some.injEq, Prod.mk.injEq] at h
   obtain ⟨rfl, rfl⟩ := h
   obtain ⟨h1, h2, h3⟩ := vR_enc k false l x.1 x.2 hx g (by omega)
   have h3 := h3 rfl
   unfold vintF
   rw [if_neg (by omega), show (c.toNat - 128 + 128 * x.1) / 128 = x.1 by omega, show (c.toNat - 128 + 128 * x.1) % 128 + 128 = c.toNat by omega, UInt8.ofNat_toNat]
   exact ⟨by rw [List.cons_append, ← h1], by omega, fun _ => by omega⟩
theorem vR_dec : ∀ (k : Nat) (b : Bool) (n : Nat) (l : List UInt8), n < 128 ^ k → (b = false → 0 < n) → 0 < k → ∀ g, k ≤ g → vR k b (vintF g n ++ l) = some (n, l)
 | 0, b, n, l, _, _, h, _, _ => absurd h (by omega)
 | k + 1, b, n, l, hn, hb, _, g, hg => by
  obtain ⟨g, rfl⟩ : ∃ g', g = g' + 1 := ⟨g - 1, by omega⟩
  rw [Nat.pow_succ] at hn
  unfold vintF
  split
  ·next c =>
   have e : (UInt8.ofNat n).toNat = n := by rw [UInt8.toNat_ofNat']; omega
   show vR (k + 1) b (UInt8.ofNat n :: l) = _
   unfold vR
   rw [e, if_pos c, if_neg]
   intro hh
   have := hb hh.2; omega
  ·next c =>
   have e : (UInt8.ofNat (n % 128 + 128)).toNat = n % 128 + 128 := by rw [UInt8.toNat_ofNat']; omega
   show vR (k + 1) b (UInt8.ofNat (n % 128 + 128) :: (vintF g (n / 128) ++ l)) = _
   have hk : 0 < k := by
    rcases Nat.eq_zero_or_pos k with h | h
    ·rw [h] at hn; omega
    ·exact h
   unfold vR
   rw [e, if_neg (by omega), vR_dec k false (n / 128) l (by omega) (fun _ => by omega) hk g (by omega), Option.bind_some]
   simp only [Option.some.injEq, Prod.mk.injEq, and_true]
   omega
theorem vD_enc {l l' : List UInt8} {n : Nat} (h : vD l = some (n, l')) : l = vint n ++ l' ∧ n < 4398046511104 := by
 have := vR_enc 6 true l n l' h 10 (by omega)
 exact ⟨this.1, this.2.1⟩
theorem vD_dec {n : Nat} (l : List UInt8) (h : n < 4398046511104) : vD (vint n ++ l) = some (n, l) := vR_dec 6 true n l h (fun e => by cases e) (by omega) 10 (by omega)
theorem intD_enc {l l' : List UInt8} {n : Int} (h : intD l = some (n, l')) : l = vint n.toNat ++ l' ∧ 0 ≤ n ∧ n < 4398046511104 := by
 unfold intD at h
 obtain ⟨x, hx, h⟩ := Option.bind_eq_some_iff.1 h
 simp only [Option.some.injEq, Prod.mk.injEq] at h
 obtain ⟨rfl, rfl⟩ := h
 have := vD_enc hx
 exact ⟨this.1, by omega, by omega⟩
theorem intD_dec {n : Int} (l : List UInt8) (h0 : 0 ≤ n) (h : n < 4398046511104) : intD (vint n.toNat ++ l) = some (n, l) := by
 unfold intD
 rw [vD_dec l (by omega), Option.bind_some]
 simp only [Option.some.injEq, Prod.mk.injEq, and_true]; omega
theorem argD_enc {l l' : List UInt8} {a : RArg} (h : argD l = some (a, l')) : l = argW a ++ l' ∧ 0 ≤ a.kind ∧ a.kind ≤ 3 ∧ 0 ≤ a.n ∧ a.n < 4398046511104 := by
 unfold argD at h
 obtain ⟨x, hx, h⟩ := Option.bind_eq_some_iff.1 h
 simp only [Option.some.injEq, Prod.mk.injEq] at h
 obtain ⟨rfl, rfl⟩ := h
 have := vD_enc hx
 refine ⟨?_, by simp only; omega, by simp only; omega, by simp only; omega, by simp only; omega⟩
 unfold argW
 rw [show (4 * ((x.1 / 4 : Nat) : Int) + ((x.1 % 4 : Nat) : Int)).toNat = x.1 by omega]; exact this.1
theorem argD_dec {a : RArg} (l : List UInt8) (h : WArg a) : argD (argW a ++ l) = some (a, l) := by
 obtain ⟨k, n⟩ := a
 obtain ⟨h1, h2, h3, h4⟩ := h
 simp only at h1 h2 h3 h4
 unfold argD argW
 rw [vD_dec l (by simp only; omega), Option.bind_some]
 simp only [Option.some.injEq, Prod.mk.injEq, and_true, RArg.mk.injEq]; omega
theorem boolD_enc {l l' : List UInt8} {a : Bool} (h : boolD l = some (a, l')) : l = boolW a ++ l' := by
 unfold boolD at h
 obtain ⟨x, hx, h⟩ := Option.bind_eq_some_iff.1 h
 split at h
 ·simp only [Option.some.injEq, Prod.mk.injEq] at h
  obtain ⟨rfl, rfl⟩ := h
  have := vD_enc hx
  unfold boolW
  by_cases c : x.1 = 1
  ·rw [decide_eq_true c, if_pos rfl, ← c]; exact this.1
  ·rw [decide_eq_false c, if_neg (by simp), ← show x.1 = 0 by omega]; exact this.1
 ·exact absurd h (by simp)
theorem boolD_dec (a : Bool) (l : List UInt8) : boolD (boolW a ++ l) = some (a, l) := by
 unfold boolD boolW
 cases a
 ·rw [vD_dec l (by simp), Option.bind_some]; rfl
 ·rw [vD_dec l (by simp), Option.bind_some]; rfl
theorem textD_enc {l l' : List UInt8} {a : ByteArray} (h : textD l = some (a, l')) : l = textW a ++ l' ∧ a.size < 4398046511104 := by
 unfold textD at h
 obtain ⟨x, hx, h⟩ := Option.bind_eq_some_iff.1 h
 have e1 := vD_enc (n := x.1) (l' := x.2) hx
 have e2 := strD_enc h
 unfold textW
 rw [e2.2, List.append_assoc, ← e2.1]; exact e1
theorem textD_dec {a : ByteArray} (l : List UInt8) (h : a.size < 4398046511104) : textD (textW a ++ l) = some (a, l) := by
 unfold textD textW
 rw [List.append_assoc, vD_dec _ h, Option.bind_some, strD_dec]
section
variable {α : Type} {one : Dec α} {E : α → List UInt8} {G : α → Prop}
theorem repD_enc (H : ∀ l a l', one l = some (a, l') → l = E a ++ l' ∧ G a) : ∀ (n : Nat) (l : List UInt8) (zs : List α) (l' : List UInt8), repD one n l = some (zs, l') → l = zs.flatMap E ++ l' ∧ zs.length = n ∧ ∀ a ∈ zs, G a
 | 0, l, zs, l', h => by
  simp only [repD, Option.some.injEq, Prod.mk.injEq] at h
  obtain ⟨rfl, rfl⟩ := h
  exact ⟨rfl, rfl, fun a ha => absurd ha (by simp)⟩
 | n + 1, l, zs, l', h => by
  unfold repD at h
  obtain ⟨x, hx, h⟩ := Option.bind_eq_some_iff.1 h
  obtain ⟨y, hy, h⟩ := Option.bind_eq_some_iff.1 h
  simp only [Option.some.injEq, Prod.mk.injEq] at h
  obtain ⟨rfl, rfl⟩ := h
  have e1 := H l x.1 x.2 hx
  have e2 := repD_enc H n x.2 y.1 y.2 hy
  refine ⟨by rw [List.flatMap_cons, List.append_assoc, ← e2.1]; exact e1.1, by rw [List.length_cons, e2.2.1], fun a ha => ?_⟩
  rcases List.mem_cons.1 ha with rfl | ha
  ·exact e1.2
  ·exact e2.2.2 a ha
theorem repD_dec : ∀ (zs : List α) (l : List UInt8), (∀ a ∈ zs, ∀ l, one (E a ++ l) = some (a, l)) → repD one zs.length (zs.flatMap E ++ l) = some (zs, l)
 | [], l, _ => rfl
 | a :: zs, l, H => by
  rw [List.length_cons, List.flatMap_cons, List.append_assoc]
  unfold repD
  rw [H a (List.mem_cons_self ..), Option.bind_some, repD_dec zs l fun b hb => H b (List.mem_cons_of_mem _ hb), Option.bind_some]
theorem listD_enc (H : ∀ l a l', one l = some (a, l') → l = E a ++ l' ∧ G a) {l : List UInt8} {zs : List α} {l' : List UInt8} (h : listD one l = some (zs, l')) : l = vint zs.length ++ (zs.flatMap E ++ l') ∧ zs.length < 4398046511104 ∧ ∀ a ∈ zs, G a := by
 unfold listD at h
 obtain ⟨x, hx, h⟩ := Option.bind_eq_some_iff.1 h
 have e1 := vD_enc (n := x.1) (l' := x.2) hx
 have e2 := repD_enc H x.1 x.2 zs l' h
 rw [e2.2.1, ← e2.1]; exact ⟨e1.1, e1.2, e2.2.2⟩
theorem listD_dec {zs : List α} (l : List UInt8) (h : zs.length < 4398046511104) (H : ∀ a ∈ zs, ∀ l, one (E a ++ l) = some (a, l)) : listD one (vint zs.length ++ (zs.flatMap E ++ l)) = some (zs, l) := by
 unfold listD
 rw [vD_dec _ h, Option.bind_some, repD_dec zs l H]
end
theorem caseD_enc : ∀ l a l', caseD l = some (a, l') → l = caseW a ++ l' ∧ (0 ≤ a.lit ∧ a.lit < 4398046511104 ∧ 0 ≤ a.to ∧ a.to < 4398046511104) := by
 intro l a l' h
 unfold caseD at h
 obtain ⟨x, hx, h⟩ := Option.bind_eq_some_iff.1 h
 obtain ⟨y, hy, h⟩ := Option.bind_eq_some_iff.1 h
 simp only [Option.some.injEq, Prod.mk.injEq] at h
 obtain ⟨rfl, rfl⟩ := h
 have e1 := intD_enc (n := x.1) (l' := x.2) hx
 have e2 := intD_enc (n := y.1) (l' := y.2) hy
 unfold caseW
 exact ⟨by rw [List.append_assoc, ← e2.1]; exact e1.1, e1.2.1, e1.2.2, e2.2.1, e2.2.2⟩
theorem caseD_dec {a : RCase} (l : List UInt8) (h : 0 ≤ a.lit ∧ a.lit ≤ 1000000 ∧ 0 ≤ a.to ∧ a.to ≤ 1000000) : caseD (caseW a ++ l) = some (a, l) := by
 unfold caseD caseW
 rw [List.append_assoc, intD_dec _ (by omega) (by omega), Option.bind_some, intD_dec _ (by omega) (by omega), Option.bind_some]
def SegG (a : RSeg) : Prop := I64 a.type ∧ I64 a.val.kind ∧ I64 a.val.n ∧ I64 a.size.kind ∧ I64 a.size.n
theorem segD_enc : ∀ l a l', segD l = some (a, l') → l = segW a ++ l' ∧ SegG a := by
 intro l a l' h
 unfold segD at h
 obtain ⟨x, hx, h⟩ := Option.bind_eq_some_iff.1 h
 obtain ⟨y, hy, h⟩ := Option.bind_eq_some_iff.1 h
 obtain ⟨z, hz, h⟩ := Option.bind_eq_some_iff.1 h
 obtain ⟨q, hq, h⟩ := Option.bind_eq_some_iff.1 h
 simp only [Option.some.injEq, Prod.mk.injEq] at h
 obtain ⟨rfl, rfl⟩ := h
 have e1 := intD_enc (n := x.1) (l' := x.2) hx
 have e2 := argD_enc (a := y.1) (l' := y.2) hy
 have e3 := argD_enc (a := z.1) (l' := z.2) hz
 have e4 := boolD_enc (a := q.1) (l' := q.2) hq
 unfold segW SegG
 refine ⟨by simp only [List.append_assoc]; rw [← e4, ← e3.1, ← e2.1]; exact e1.1, ?_⟩
 unfold I64; simp only; omega
theorem segD_dec {a : RSeg} (l : List UInt8) (h : 0 ≤ a.type ∧ a.type ≤ 1000 ∧ WArg a.val ∧ WArg a.size) : segD (segW a ++ l) = some (a, l) := by
 unfold segD segW
 simp only [List.append_assoc]
 rw [intD_dec _ (by omega) (by omega), Option.bind_some, argD_dec _ h.2.2.1, Option.bind_some, argD_dec _ h.2.2.2, Option.bind_some, boolD_dec, Option.bind_some]
theorem funcD_enc : ∀ l a l', funcD l = some (a, l') → l = funcW a ++ l' ∧ (a.name.size < 4398046511104 ∧ I64 a.arity ∧ I64 a.entry) := by
 intro l a l' h
 unfold funcD at h
 obtain ⟨x, hx, h⟩ := Option.bind_eq_some_iff.1 h
 obtain ⟨y, hy, h⟩ := Option.bind_eq_some_iff.1 h
 obtain ⟨z, hz, h⟩ := Option.bind_eq_some_iff.1 h
 obtain ⟨q, hq, h⟩ := Option.bind_eq_some_iff.1 h
 simp only [Option.some.injEq, Prod.mk.injEq] at h
 obtain ⟨rfl, rfl⟩ := h
 have e1 := textD_enc (a := x.1) (l' := x.2) hx
 have e2 := intD_enc (n := y.1) (l' := y.2) hy
 have e3 := boolD_enc (a := z.1) (l' := z.2) hz
 have e4 := intD_enc (n := q.1) (l' := q.2) hq
 unfold funcW
 refine ⟨by simp only [List.append_assoc]; rw [← e4.1, ← e3, ← e2.1]; exact e1.1, ?_⟩
 unfold I64; simp only; omega
theorem funcD_dec {a : RFunc} (l : List UInt8) (h : a.name.size ≤ 32 ∧ 0 ≤ a.arity ∧ a.arity ≤ 16 ∧ 0 ≤ a.entry ∧ a.entry ≤ 524288) : funcD (funcW a ++ l) = some (a, l) := by
 unfold funcD funcW
 simp only [List.append_assoc]
 rw [textD_dec _ (by omega), Option.bind_some, intD_dec _ (by omega) (by omega), Option.bind_some, boolD_dec, Option.bind_some, intD_dec _ (by omega) (by omega), Option.bind_some]
theorem fnD_enc : ∀ l a l', fnD l = some (a, l') → l = funW a ++ l' ∧ (I64 a.arity ∧ I64 a.free ∧ I64 a.entry) := by
 intro l a l' h
 unfold fnD at h
 obtain ⟨x, hx, h⟩ := Option.bind_eq_some_iff.1 h
 obtain ⟨y, hy, h⟩ := Option.bind_eq_some_iff.1 h
 obtain ⟨z, hz, h⟩ := Option.bind_eq_some_iff.1 h
 simp only [Option.some.injEq, Prod.mk.injEq] at h
 obtain ⟨rfl, rfl⟩ := h
 have e1 := intD_enc (n := x.1) (l' := x.2) hx
 have e2 := intD_enc (n := y.1) (l' := y.2) hy
 have e3 := intD_enc (n := z.1) (l' := z.2) hz
 unfold funW
 refine ⟨by simp only [List.append_assoc]; rw [← e3.1, ← e2.1]; exact e1.1, ?_⟩
 unfold I64; simp only; omega
theorem fnD_dec {a : RFun} (l : List UInt8) (h : 0 ≤ a.arity ∧ a.arity ≤ 16 ∧ 0 ≤ a.free ∧ a.free ≤ 200 ∧ 0 ≤ a.entry ∧ a.entry ≤ 524288) : fnD (funW a ++ l) = some (a, l) := by
 unfold fnD funW
 simp only [List.append_assoc]
 rw [intD_dec _ (by omega) (by omega), Option.bind_some, intD_dec _ (by omega) (by omega), Option.bind_some, intD_dec _ (by omega) (by omega), Option.bind_some]
theorem optD_enc {α : Type} {b : Bool} {one : Dec α} {z : α} {W : α → List UInt8} {G : α → Prop} (hz : G z) (H : ∀ l a l', one l = some (a, l') → l = W a ++ l' ∧ G a) {l : List UInt8} {a : α} {l' : List UInt8} (h : optD b one z l = some (a, l')) : l = opt b (W a) ++ l' ∧ G a := by
 unfold optD at h
 unfold opt
 split at h
 ·next c => rw [if_pos c]; exact H l a l' h
 ·next c =>
  simp only [Option.some.injEq, Prod.mk.injEq] at h
  obtain ⟨rfl, rfl⟩ := h
  rw [if_neg c]; exact ⟨rfl, hz⟩
theorem optD_dec {α : Type} {b : Bool} {one : Dec α} {z a : α} {W : α → List UInt8} (l : List UInt8) (hz : b = false → a = z) (H : b = true → one (W a ++ l) = some (a, l)) : optD b one z (opt b (W a) ++ l) = some (a, l) := by
 unfold optD opt
 cases b with
 | true => rw [if_pos rfl, if_pos rfl]; exact H rfl
 | false => rw [if_neg (by simp), if_neg (by simp), hz rfl]; rfl
end Go.Proofs.YtghgbikmlbildaaGreatDoor
namespace Go.Proofs.YtghgbikmlbildaaGreatDoor
open Go.RowKit
set_option linter.unusedVariables false
set_option linter.unusedSimpArgs false

/-- The three results of Take, as they lie. -/
structure Out3 (X : Nat) (w : World) (row : Array Value) (n e : Value) : Prop where
 x : w.heap[X]? = some (.cells row 78 (0, 0))
 n : w.heap[X + 1]? = some (.cells #[n] 3 (0, 0))
 e : w.heap[X + 2]? = some (.cells #[e] 30 (0, 0))
theorem set9r {w : World} {B : Nat} {a0 a1 a2 a3 a4 a5 a6 a7 a8 : Value} (v0 v1 v2 v3 v4 v5 v6 v7 v8 : Value) (h : w.heap[B]? = some (.cells #[a0, a1, a2, a3, a4, a5, a6, a7, a8] 78 (0, 0))) :
  (((((((((w.setCell ⟨B, 0, none⟩ v0).setCell ⟨B, 1, none⟩ v1).setCell ⟨B, 2, none⟩ v2).setCell ⟨B, 3, none⟩ v3).setCell ⟨B, 4, none⟩ v4).setCell ⟨B, 5, none⟩ v5).setCell ⟨B, 6, none⟩ v6).setCell ⟨B, 7, none⟩ v7).setCell ⟨B, 8, none⟩ v8).heap[B]? = some (.cells #[v0, v1, v2, v3, v4, v5, v6, v7, v8] 78 (0, 0)) := by
 have h0 : (w.setCell ⟨B, 0, none⟩ v0).heap[B]? = some (.cells #[v0, a1, a2, a3, a4, a5, a6, a7, a8] 78 (0, 0)) := heap_setCell_same _ _ 0 _ _ v0 h
 have h1 : ((w.setCell ⟨B, 0, none⟩ v0).setCell ⟨B, 1, none⟩ v1).heap[B]? = some (.cells #[v0, v1, a2, a3, a4, a5, a6, a7, a8] 78 (0, 0)) := heap_setCell_same _ _ 1 _ _ v1 h0
 have h2 : (((w.setCell ⟨B, 0, none⟩ v0).setCell ⟨B, 1, none⟩ v1).setCell ⟨B, 2, none⟩ v2).heap[B]? = some (.cells #[v0, v1, v2, a3, a4, a5, a6, a7, a8] 78 (0, 0)) := heap_setCell_same _ _ 2 _ _ v2 h1
 have h3 : ((((w.setCell ⟨B, 0, none⟩ v0).setCell ⟨B, 1, none⟩ v1).setCell ⟨B, 2, none⟩ v2).setCell ⟨B, 3, none⟩ v3).heap[B]? = some (.cells #[v0, v1, v2, v3, a4, a5, a6, a7, a8] 78 (0, 0)) := heap_setCell_same _ _ 3 _ _ v3 h2
 have h4 : (((((w.setCell ⟨B, 0, none⟩ v0).setCell ⟨B, 1, none⟩ v1).setCell ⟨B, 2, none⟩ v2).setCell ⟨B, 3, none⟩ v3).setCell ⟨B, 4, none⟩ v4).heap[B]? = some (.cells #[v0, v1, v2, v3, v4, a5, a6, a7, a8] 78 (0, 0)) := heap_setCell_same _ _ 4 _ _ v4 h3
 have h5 : ((((((w.setCell ⟨B, 0, none⟩ v0).setCell ⟨B, 1, none⟩ v1).setCell ⟨B, 2, none⟩ v2).setCell ⟨B, 3, none⟩ v3).setCell ⟨B, 4, none⟩ v4).setCell ⟨B, 5, none⟩ v5).heap[B]? = some (.cells #[v0, v1, v2, v3, v4, v5, a6, a7, a8] 78 (0, 0)) := heap_setCell_same _ _ 5 _ _ v5 h4
 have h6 : (((((((w.setCell ⟨B, 0, none⟩ v0).setCell ⟨B, 1, none⟩ v1).setCell ⟨B, 2, none⟩ v2).setCell ⟨B, 3, none⟩ v3).setCell ⟨B, 4, none⟩ v4).setCell ⟨B, 5, none⟩ v5).setCell ⟨B, 6, none⟩ v6).heap[B]? = some (.cells #[v0, v1, v2, v3, v4, v5, v6, a7, a8] 78 (0, 0)) := heap_setCell_same _ _ 6 _ _ v6 h5
 have h7 : ((((((((w.setCell ⟨B, 0, none⟩ v0).setCell ⟨B, 1, none⟩ v1).setCell ⟨B, 2, none⟩ v2).setCell ⟨B, 3, none⟩ v3).setCell ⟨B, 4, none⟩ v4).setCell ⟨B, 5, none⟩ v5).setCell ⟨B, 6, none⟩ v6).setCell ⟨B, 7, none⟩ v7).heap[B]? = some (.cells #[v0, v1, v2, v3, v4, v5, v6, v7, a8] 78 (0, 0)) := heap_setCell_same _ _ 7 _ _ v7 h6
 have h8 : (((((((((w.setCell ⟨B, 0, none⟩ v0).setCell ⟨B, 1, none⟩ v1).setCell ⟨B, 2, none⟩ v2).setCell ⟨B, 3, none⟩ v3).setCell ⟨B, 4, none⟩ v4).setCell ⟨B, 5, none⟩ v5).setCell ⟨B, 6, none⟩ v6).setCell ⟨B, 7, none⟩ v7).setCell ⟨B, 8, none⟩ v8).heap[B]? = some (.cells #[v0, v1, v2, v3, v4, v5, v6, v7, v8] 78 (0, 0)) := heap_setCell_same _ _ 8 _ _ v8 h7
 exact h8
theorem Out3.nine {X : Nat} {w : World} {a0 a1 a2 a3 a4 a5 a6 a7 a8 n e : Value} (h : Out3 X w #[a0, a1, a2, a3, a4, a5, a6, a7, a8] n e) (v0 v1 v2 v3 v4 v5 v6 v7 v8 : Value) :
  Out3 X (((((((((w.setCell ⟨X, 0, none⟩ v0).setCell ⟨X, 1, none⟩ v1).setCell ⟨X, 2, none⟩ v2).setCell ⟨X, 3, none⟩ v3).setCell ⟨X, 4, none⟩ v4).setCell ⟨X, 5, none⟩ v5).setCell ⟨X, 6, none⟩ v6).setCell ⟨X, 7, none⟩ v7).setCell ⟨X, 8, none⟩ v8) #[v0, v1, v2, v3, v4, v5, v6, v7, v8] n e :=
 ⟨set9r _ _ _ _ _ _ _ _ _ h.x, ((OffB.nine X w v0 v1 v2 v3 v4 v5 v6 v7 v8).2 _ (by omega)).trans h.n, ((OffB.nine X w v0 v1 v2 v3 v4 v5 v6 v7 v8).2 _ (by omega)).trans h.e⟩
theorem Out3.two {X : Nat} {w : World} {row : Array Value} {n e : Value} (h : Out3 X w row n e) (n2 e2 : Value) : Out3 X ((w.setCell ⟨X + 1, 0, none⟩ n2).setCell ⟨X + 2, 0, none⟩ e2) row n2 e2 :=
 ⟨((OffB.set (X + 2) _ 0 e2).2 _ (by omega)).trans (((OffB.set (X + 1) w 0 n2).2 _ (by omega)).trans h.x), ((OffB.set (X + 2) _ 0 e2).2 _ (by omega)).trans (heap_setCell_same w _ 0 _ _ n2 h.n), heap_setCell_same _ _ 0 _ _ e2 (((OffB.set (X + 1) w 0 n2).2 _ (by omega)).trans h.e)⟩
theorem Out3.below {X : Nat} {w w' : World} {row : Array Value} {n e : Value} (h : Out3 X w row n e) (hb : Below w.heap.size w w') : Out3 X w' row n e :=
 ⟨(hb.block _ (lt_of_row h.x)).trans h.x, (hb.block _ (lt_of_row h.n)).trans h.n, (hb.block _ (lt_of_row h.e)).trans h.e⟩
set_option maxRecDepth 100000 in
set_option maxHeartbeats 4000000 in
theorem take_idle (a b c : Value) (w : World) :
  CallsD Tryz.prog 169 #[a, b, c] .returning w fun e u' w' => e = .returned (.tuple #[]) ∧ u' = .returning ∧ w' = w := by
 refine callsD_of_wpS Tryz.func169 rfl fun c₀ cs hu => ?_
 apply wpS_seq
 generalize hK : Exit.thenS _ _ = K
 apply wpS_region
 simp [wpOpsS, go_sem, recoverD, hu, Tryz.ntmps169]
 subst hK
 simp only [Exit.thenS]
 refine wpS_of_wp ?_
 go_wp2_with fail
 cases c₀
 simp_all [bodyPostS, results, Tryz.results169]
set_option maxRecDepth 100000 in
set_option maxHeartbeats 4000000 in
theorem take_catch (X : Nat) (v0 v1 v2 v3 v4 v5 v6 v7 v8 n e : Value) (older : List PanicEntry) (w : World) (h : Out3 X w #[v0, v1, v2, v3, v4, v5, v6, v7, v8] n e) :
  CallsD Tryz.prog 169 #[.pointer (some ⟨X, 0, none⟩), .pointer (some ⟨X + 1, 0, none⟩), .pointer (some ⟨X + 2, 0, none⟩)] (.panicking ({ v := .iface 208 (.agg #[]), recovered := false } :: older)) w fun e u' w' =>
   e = .returned (.tuple #[]) ∧ u' = .panicking ({ v := .iface 208 (.agg #[]), recovered := true } :: older) ∧ Out3 X w' zeroRow (.int .i64 0) (.int .i64 6) ∧ Below X w w' := by
 have hta : ∀ wx : World, (Instr.typeAssert (Value.iface 208 (.agg #[])) 20 208 true).run Tryz.prog wx = .ok (.tuple #[.agg #[], .bool true]) wx := fun wx => by kernel_rfl
 refine callsD_of_wpS Tryz.func169 rfl fun c₀ cs hu => ?_
 apply wpS_seq
 generalize hK : Exit.thenS _ _ = K
 apply wpS_region
 simp [wpOpsS, go_sem, recoverD, hu, Tryz.ntmps169]
 subst hK
 simp only [Exit.thenS]
 refine wpS_of_wp ?_
 have hx := lt_of_row h.x
 have hx1 := lt_of_row h.n
 have hx2 := lt_of_row h.e
 have hb : Below w.heap.size w (w.alloc (.cells #[] 208)) := (Below.refl _ _).alloc (Nat.le_refl _) _
 have hd : Below w.heap.size w (w.alloc (.cells #[] 208)).drew := hb.drew
 have h2 : Out3 X (w.alloc (.cells #[] 208)) #[v0, v1, v2, v3, v4, v5, v6, v7, v8] n e := ⟨(hb.block _ hx).trans h.x, (hb.block _ hx1).trans h.n, (hb.block _ hx2).trans h.e⟩
 go_upto_region 5 with fail
 generalize w.alloc _ = w1 at *
 clear h
 obtain ⟨c0, c1, c2, c3, c4, c5, c6, c7, c8, d0, d1, d2, d3, d4, d5, d6, d7, d8⟩ := term_cells h2.x
 have k1 : w1.cell? ⟨X + 1, 0, none⟩ = some n := cell_of_row w1 _ 0 _ _ _ h2.n
 have k2 : w1.cell? ⟨X + 2, 0, none⟩ = some e := cell_of_row w1 _ 0 _ _ _ h2.e
 have f1 : w1.frozen? ⟨X + 1, 0, none⟩ = false := frozen_of_row w1 _ 0 _ _ h2.n
 have f2 : w1.frozen? ⟨X + 2, 0, none⟩ = false := frozen_of_row w1 _ 0 _ _ h2.e
 have hN := h2.nine (.int .i64 0) (.int .i64 0) (.int .i64 0) (.string ⟨#[]⟩) (.string ⟨#[]⟩) (.int .i64 0) (.slice none 0 0) (.string ⟨#[]⟩) (.int .i64 0)
 have hO := hN.two (.int .i64 0) (.int .i64 6)
 have hB : Below X w _ := ((below9 (B := X) (Nat.le_refl _) (hb.mono (Nat.le_of_lt hx)) (.int .i64 0) (.int .i64 0) (.int .i64 0) (.string ⟨#[]⟩) (.string ⟨#[]⟩) (.int .i64 0) (.slice none 0 0) (.string ⟨#[]⟩) (.int .i64 0)).setCell (p := ⟨X + 1, 0, none⟩) (show X ≤ X + 1 by omega) (.int .i64 0)).setCell (p := ⟨X + 2, 0, none⟩) (show X ≤ X + 2 by omega) (.int .i64 6)
 go_wp2_with fail
 clear h2 hN c0 c1 c2 c3 c4 c5 c6 c7 c8 d0 d1 d2 d3 d4 d5 d6 d7 d8 k1 k2 f1 f2
 generalize World.setCell _ ⟨X + 2, 0, none⟩ _ = w9 at *
 simp [bodyPostS, results, Tryz.results169]
 exact ⟨hO, hB⟩
end Go.Proofs.YtghgbikmlbildaaGreatDoor
namespace Go.Proofs.YtghgbikmlbildaaGreatDoor
open Go.RowKit
set_option linter.unusedVariables false
set_option linter.unusedSimpArgs false

/-- What Take may end in. -/
def TakeQ (s : ByteArray) (w : World) (e : Ending) (w' : World) : Prop :=
 (match wtakeD s.data.toList with
 | none => e = .returned (.tuple #[.agg zeroRow, .int .i64 0, .int .i64 6])
 | some (t, l) => ∃ so c, e = .returned (.tuple #[.agg #[.int .i64 t.kind, .int .i64 t.int, .int .i64 t.gen, .string t.name, .string t.func, .int .i64 t.arity, .slice so t.items.length c, .string t.bytes, .int .i64 t.bits], .int .i64 ((s.size : Int) - l.length), .int .i64 0]) ∧ TmIn w' (w.heap.size ≤ ·) 2000 (tmL t so c) t) ∧ Below w.heap.size w w'
theorem results_out3 {fn : Func} {p q u : Tmp} {ty t1 t2 : TypeId} (h : fn.results = #[.cell p ty, .cell q t1, .cell u t2]) (tmps : Array Value) (P : Program) (w : World) (X : Nat) (cs : Array Value) (n e : Value) (fs : Array Field)
  (hp : tmps.getD p undef = .pointer (some ⟨X, 0, none⟩)) (hq : tmps.getD q undef = .pointer (some ⟨X + 1, 0, none⟩)) (hu : tmps.getD u undef = .pointer (some ⟨X + 2, 0, none⟩)) (ho : Out3 X w cs n e)
  (hty : P.underlying ty = some (.struct fs)) (hi : (P.info? ty).map (·.size) = some cs.size) (h1 : (loadVar t1 ⟨X + 1, 0, none⟩).run P w = .ok n w) (h2 : (loadVar t2 ⟨X + 2, 0, none⟩).run P w = .ok e w) :
  (results fn tmps).run P w = .ok (.tuple #[.agg cs, n, e]) w := by
 have hl := run_loadVar_row w X 78 ty cs (0, 0) (.struct fs) ho.x hty rfl hi
 have hp' : tmps[p]?.getD undef = .pointer (some ⟨X, 0, none⟩) := by simpa using hp
 have hq' : tmps[q]?.getD undef = .pointer (some ⟨X + 1, 0, none⟩) := by simpa using hq
 have hu' : tmps[u]?.getD undef = .pointer (some ⟨X + 2, 0, none⟩) := by simpa using hu
 simp [results, h, hp', hq', hu', asAddr, hl, h1, h2]
theorem load_int {X : Nat} {w : World} {v : Value} (h : w.heap[X]? = some (.cells #[v] 3 (0, 0))) : (loadVar 3 ⟨X, 0, none⟩).run Tryz.prog w = .ok v w := by
 have k := cell_of_row w X 0 _ _ _ h
 simp [loadVar, isAgg, go_sem, Tryz.underlying3, k]
theorem load_errno {X : Nat} {w : World} {v : Value} (h : w.heap[X]? = some (.cells #[v] 30 (0, 0))) : (loadVar 30 ⟨X, 0, none⟩).run Tryz.prog w = .ok v w := by
 have k := cell_of_row w X 0 _ _ _ h
 simp [loadVar, isAgg, go_sem, Tryz.underlying30, k]
theorem Out3.grown {X : Nat} {w w' : World} {row : Array Value} {n e : Value} (h : Out3 X w row n e) (hg : w.grownBy w' (some (X + 3))) : Out3 X w' row n e :=
 ⟨(hg.block _ (lt_of_row h.x) (by simp)).trans h.x, (hg.block _ (lt_of_row h.n) (by simp)).trans h.n, (hg.block _ (lt_of_row h.e) (by simp)).trans h.e⟩
theorem below_grownB {B r : Nat} {a b c : World} (h : Below B a b) (hg : b.grownBy c (some r)) (hr : B ≤ r) (hs : B ≤ b.heap.size) : Below B a c :=
 h.grown hg hs fun k e => by have := Option.some.inj e; omega
theorem RdL.off {r : Nat} {s : ByteArray} {l : List UInt8} {p X : Nat} {w w' : World} (h : RdL r s l p w) (ho : OffB X w w') (hr : r ≠ X) : RdL r s l p w' := by
 obtain ⟨a, h1, h2⟩ := h; exact ⟨a, (ho.2 r hr).trans h1, h2⟩
theorem four_blocks (w : World) (o0 o1 o2 o3 : Obj) : ((((w.alloc o0).alloc o1).alloc o2).alloc o3).heap[w.heap.size]? = some o0 ∧ ((((w.alloc o0).alloc o1).alloc o2).alloc o3).heap[w.heap.size + 1]? = some o1 ∧
  ((((w.alloc o0).alloc o1).alloc o2).alloc o3).heap[w.heap.size + 2]? = some o2 ∧ ((((w.alloc o0).alloc o1).alloc o2).alloc o3).heap[w.heap.size + 3]? = some o3 := by
 have n0 := heap_alloc_new w o0
 have n1 := heap_alloc_new (w.alloc o0) o1
 have n2 := heap_alloc_new ((w.alloc o0).alloc o1) o2
 have n3 := heap_alloc_new (((w.alloc o0).alloc o1).alloc o2) o3
 rw [show (w.alloc o0).heap.size = w.heap.size + 1 by simp] at n1
 rw [show ((w.alloc o0).alloc o1).heap.size = w.heap.size + 2 by simp] at n2
 rw [show (((w.alloc o0).alloc o1).alloc o2).heap.size = w.heap.size + 3 by simp] at n3
 refine ⟨?_, ?_, ?_, n3⟩
 ·rw [Below.heap_alloc _ _ _ (by simp; omega), Below.heap_alloc _ _ _ (by simp; omega), Below.heap_alloc _ _ _ (by simp)]; exact n0
 ·rw [Below.heap_alloc _ _ _ (by simp), Below.heap_alloc _ _ _ (by simp)]; exact n1
 ·rw [Below.heap_alloc _ _ _ (by simp)]; exact n2
set_option maxRecDepth 100000 in
set_option maxHeartbeats 4000000 in
theorem wtake_any (s : ByteArray) (w : World) (hs : s.size ≤ 9223372036854775807) : Calls Tryz.prog 145 #[.string s] w (TakeQ s w) := by
 have hmf : ∀ (fn : Fn) (first cap : Array Value) (w : World), (Instr.makeFunc fn first cap).run Tryz.prog w = .ok (.func fn first cap) w := fun _ _ _ _ => rfl
 generalize hQ : TakeQ s w = Q at *
 have HQ := Lib.hid hQ
 clear hQ
 go_enter_defers Tryz.func145, Tryz.ntmps145
 go_upto_region 3 with fail
 simp only [Nat.add_assoc, Nat.reduceAdd]
 have hO : Out3 w.heap.size ((((w.alloc (.cells zeroRow 78)).alloc (.cells #[.int .i64 0] 3)).alloc (.cells #[.int .i64 0] 30)).alloc (.cells #[.string s, .int .i64 0, .int .i64 0] 212)) zeroRow (.int .i64 0) (.int .i64 0) := by
  obtain ⟨h0, h1, h2, -⟩ := four_blocks w (.cells zeroRow 78) (.cells #[.int .i64 0] 3) (.cells #[.int .i64 0] 30) (.cells #[.string s, .int .i64 0, .int .i64 0] 212)
  exact ⟨h0, h1, h2⟩
 have hR : RdL (w.heap.size + 3) s s.data.toList 0 ((((w.alloc (.cells zeroRow 78)).alloc (.cells #[.int .i64 0] 3)).alloc (.cells #[.int .i64 0] 30)).alloc (.cells #[.string s, .int .i64 0, .int .i64 0] 212)) :=
  ⟨0, (four_blocks w _ _ _ _).2.2.2, Nat.zero_le _, rfl, hs⟩
 have hB : Below w.heap.size w ((((w.alloc (.cells zeroRow 78)).alloc (.cells #[.int .i64 0] 3)).alloc (.cells #[.int .i64 0] 30)).alloc (.cells #[.string s, .int .i64 0, .int .i64 0] 212)) :=
  ((((Below.refl _ _).alloc (Nat.le_refl _) _).alloc (by simp) _).alloc (by simp; omega) _).alloc (by simp; omega) _
 unfold zeroRow at hO hR hB
 generalize World.alloc _ _ = w4 at *
 have hX : w.heap.size + 3 < w4.heap.size := hR.lt
 generalize hXX : w.heap.size = X at *
 have HX := Lib.hid hXX
 clear hXX
 have HT := term_all 2000 (X + 3) s s.data.toList 0 w4 hR (by omega) (by omega)
 rcases h1 : termD 2000 0 s.data.toList with _ | ⟨⟨t, p⟩, l⟩
 ·rw [h1] at HT
  have HD : Hid (wtakeD s.data.toList = none) := Lib.hid (by unfold wtakeD; rw [h1]; rfl)
  go_wp2_with (go_at_call 170; refine HT.mono ?_; rintro e w5 ⟨rfl, hg⟩)
  refine leaves_cons (f := 169) (args := #[.pointer (some ⟨X, 0, none⟩), .pointer (some ⟨X + 1, 0, none⟩), .pointer (some ⟨X + 2, 0, none⟩)]) (by simp) (by simp [go_sem]) ?_
  refine (take_catch X _ _ _ _ _ _ _ _ _ _ _ [] _ (hO.grown hg)).mono ?_
  rintro e u' w'' ⟨rfl, rfl, hO9, hB9⟩
  simp only [settle, List.dropWhile_nil]
  refine ⟨_, results_out3 rfl _ _ _ X _ _ _ _ rfl rfl rfl hO9 Tryz.underlying78 (by kernel_rfl) (load_int hO9.n) (load_errno hO9.e), ?_⟩
  rw [← HQ.out]
  refine ⟨by rw [HD.out], ?_⟩
  rw [HX.out]
  exact (below_grownB hB hg (by omega) (by omega)).trans hB9
 rw [h1] at HT
 have hok := termD_ok 2000 0 s.data.toList t p l h1 (by omega) hR.len
 have hcap := cap_nodes 2000 t hok.1
 have hn := termD_n 2000 0 s.data.toList t p l h1
 go_upto_region 4 with (go_at_call 170; refine HT.mono ?_; rintro e w5 ⟨⟨so, c, rfl, htm⟩, hr, hg⟩; have hO5 := hO.grown hg; obtain ⟨x0, x1, x2, x3, x4, x5, x6, x7, x8, y0, y1, y2, y3, y4, y5, y6, y7, y8⟩ := term_cells hO5.x)
 have hO6 := hO5.nine (.int .i64 t.kind) (.int .i64 t.int) (.int .i64 t.gen) (.string t.name) (.string t.func) (.int .i64 t.arity) (.slice so t.items.length c) (.string t.bytes) (.int .i64 t.bits)
 have hB6 := below9 (B := X) (Nat.le_refl _) (below_grownB hB hg (by omega) (by omega)) (.int .i64 t.kind) (.int .i64 t.int) (.int .i64 t.gen) (.string t.name) (.string t.func) (.int .i64 t.arity) (.slice so t.items.length c) (.string t.bytes) (.int .i64 t.bits)
 have hsl := htm.sl.off (OffB.nine X w5 (.int .i64 t.kind) (.int .i64 t.int) (.int .i64 t.gen) (.string t.name) (.string t.func) (.int .i64 t.arity) (.slice so t.items.length c) (.string t.bytes) (.int .i64 t.bits)) (show X < w4.heap.size by omega) (Nat.le_refl _)
 have hX5 : X < w5.heap.size := lt_of_row hO5.x
 have hr6 := hr.off (OffB.nine X w5 (.int .i64 t.kind) (.int .i64 t.int) (.int .i64 t.gen) (.string t.name) (.string t.func) (.int .i64 t.arity) (.slice so t.items.length c) (.string t.bytes) (.int .i64 t.bits)) (by omega)
 have hs6 : w5.heap.size ≤ _ := (OffB.nine X w5 (.int .i64 t.kind) (.int .i64 t.int) (.int .i64 t.gen) (.string t.name) (.string t.func) (.int .i64 t.arity) (.slice so t.items.length c) (.string t.bytes) (.int .i64 t.bits)).1
 clear hO5 x0 x1 x2 x3 x4 x5 x6 x7 x8 y0 y1 y2 y3 y4 y5 y6 y7 y8 hr htm HT hO hR hB
 generalize World.setCell _ _ _ = w6 at *
 obtain ⟨x0, x1, x2, x3, x4, x5, x6, x7, x8, y0, y1, y2, y3, y4, y5, y6, y7, y8⟩ := term_cells hO6.x
 have hat : SlAt w6 9 (TmAt w6 1999) so t.items := hsl.at fun j hj cs hx => hx.ok (hok.1.2 _ (List.getElem_mem hj))
 have HV := tvalid_any 1999 t so c w6 hat hok.1.1 (by have h2 : capF (1999 + 1) t + 1 ≤ 301 * nodesF 2000 t := hcap; omega)
 have HTT := Lib.hid hsl
 have HLE : Hid (X + 3 < w4.heap.size) := Lib.hid hX
 clear hsl hat hok hcap hn hg hs6 hX hX5
 by_cases cv : validF 2000 t = true
 case neg =>
  have HD : Hid (wtakeD s.data.toList = none) := Lib.hid (by unfold wtakeD; rw [h1, Option.bind_some]; exact if_neg cv)
  rw [show validF (1999 + 1) t = false by simpa using cv] at HV
  go_wp2_with (first | (go_at_call 78; refine HV.mono ?_; rintro e w7 ⟨rfl, hb7⟩) | (go_at_call 171; refine (demand_no _ _).mono ?_; rintro e w8 ⟨rfl, rfl⟩))
  refine leaves_cons (f := 169) (args := #[.pointer (some ⟨X, 0, none⟩), .pointer (some ⟨X + 1, 0, none⟩), .pointer (some ⟨X + 2, 0, none⟩)]) (by simp) (by simp [go_sem]) ?_
  refine (take_catch X _ _ _ _ _ _ _ _ _ _ _ [] _ (hO6.below hb7)).mono ?_
  rintro e u' w'' ⟨rfl, rfl, hO9, hB9⟩
  simp only [settle, List.dropWhile_nil]
  refine ⟨_, results_out3 rfl _ _ _ X _ _ _ _ rfl rfl rfl hO9 Tryz.underlying78 (by kernel_rfl) (load_int hO9.n) (load_errno hO9.e), ?_⟩
  rw [← HQ.out]
  refine ⟨by rw [HD.out], ?_⟩
  rw [HX.out]
  exact (hB6.trans (hb7.mono (Nat.le_of_lt (lt_of_row hO6.x)))).trans hB9
 have HD : Hid (wtakeD s.data.toList = some (t, l)) := Lib.hid (by unfold wtakeD; rw [h1, Option.bind_some]; exact if_pos cv)
 rw [show validF (1999 + 1) t = true from cv] at HV
 go_upto_region 5 with (first | (go_at_call 78; refine HV.mono ?_; rintro e w7 ⟨rfl, hb7⟩) | (go_at_call 171; refine (demand_yes _ _).mono ?_; rintro e w8 ⟨rfl, rfl⟩))
 have hO7 := hO6.below hb7
 have hr7 := hr6.below hb7
 have HT7 : Hid (SlIn w7 (w4.heap.size ≤ ·) 9 (TmIn w7 (w4.heap.size ≤ ·) 1999) so t.items) := Lib.hid (HTT.out.kept hb7.size (fun b _ hl => hb7.block b hl) (fun b h _ => h) fun _ _ h => h.below hb7)
 have HB7 : Hid (Below X w w7) := Lib.hid (hB6.trans (hb7.mono (Nat.le_of_lt (lt_of_row hO6.x))))
 clear x0 x1 x2 x3 x4 x5 x6 x7 x8 y0 y1 y2 y3 y4 y5 y6 y7 y8 HV hO6 hr6 hb7 hB6 HTT
 obtain ⟨a, hA, ha, hal, hss⟩ := hr7
 have hlen := left_len ha hal
 obtain ⟨r0, r1, r2, g1, g2⟩ := hA.cells
 obtain ⟨x0, x1, x2, x3, x4, x5, x6, x7, x8, y0, y1, y2, y3, y4, y5, y6, y7, y8⟩ := term_cells hO7.x
 have k1 : w7.cell? ⟨X + 1, 0, none⟩ = some (.int .i64 0) := cell_of_row w7 _ 0 _ _ _ hO7.n
 have k2 : w7.cell? ⟨X + 2, 0, none⟩ = some (.int .i64 0) := cell_of_row w7 _ 0 _ _ _ hO7.e
 have f1 : w7.frozen? ⟨X + 1, 0, none⟩ = false := frozen_of_row w7 _ 0 _ _ hO7.n
 have f2 : w7.frozen? ⟨X + 2, 0, none⟩ = false := frozen_of_row w7 _ 0 _ _ hO7.e
 go_region
 have hLE := HLE.out
 have hO8 := (hO7.nine (.int .i64 t.kind) (.int .i64 t.int) (.int .i64 t.gen) (.string t.name) (.string t.func) (.int .i64 t.arity) (.slice so t.items.length c) (.string t.bytes) (.int .i64 t.bits)).two (.int .i64 a) (.int .i64 0)
 have hB8 : Below X w _ := ((below9 (B := X) (Nat.le_refl _) HB7.out (.int .i64 t.kind) (.int .i64 t.int) (.int .i64 t.gen) (.string t.name) (.string t.func) (.int .i64 t.arity) (.slice so t.items.length c) (.string t.bytes) (.int .i64 t.bits)).setCell (p := ⟨X + 1, 0, none⟩) (show X ≤ X + 1 by omega) (.int .i64 a)).setCell (p := ⟨X + 2, 0, none⟩) (show X ≤ X + 2 by omega) (.int .i64 0)
 have hS8 := ((HT7.out.off (OffB.nine X w7 (.int .i64 t.kind) (.int .i64 t.int) (.int .i64 t.gen) (.string t.name) (.string t.func) (.int .i64 t.arity) (.slice so t.items.length c) (.string t.bytes) (.int .i64 t.bits)) (show X < w4.heap.size by omega) (Nat.le_refl _)).off (OffB.set (X + 1) _ 0 (.int .i64 a)) (show X + 1 < w4.heap.size by omega) (Nat.le_refl _)).off (OffB.set (X + 2) _ 0 (.int .i64 0)) (show X + 2 < w4.heap.size by omega) (show X ≤ w4.heap.size by omega)
 clear x0 x1 x2 x3 x4 x5 x6 x7 x8 y0 y1 y2 y3 y4 y5 y6 y7 y8 k1 k2 f1 f2 r0 r1 r2 g1 g2 hA hO7 HB7 HT7
 generalize World.setCell _ ⟨X + 2, 0, none⟩ _ = w8 at *
 go_wp2_with fail
 refine leaves_cons (f := 169) (args := #[.pointer (some ⟨X, 0, none⟩), .pointer (some ⟨X + 1, 0, none⟩), .pointer (some ⟨X + 2, 0, none⟩)]) (by simp) (by simp [go_sem]) ?_
 refine (take_idle _ _ _ _).mono ?_
 rintro e u' w'' ⟨rfl, rfl, rfl⟩
 simp only [settle]
 have hO9 : Out3 X w8.drew _ _ _ := hO8.below (Below.refl _ _).drew
 refine ⟨_, results_out3 rfl _ _ _ X _ _ _ _ rfl rfl rfl hO9 Tryz.underlying78 (by kernel_rfl) (load_int hO9.n) (load_errno hO9.e), ?_⟩
 rw [← HQ.out]
 refine ⟨?_, by rw [HX.out]; exact hB8.drew⟩
 rw [HD.out]
 refine ⟨so, c, congrArg (fun z : Int => Ending.returned (.tuple #[_, .int .i64 z, _])) (by omega), so, c, rfl, ?_⟩
 rw [HX.out]
 exact hS8.kept (Nat.le_refl _) (fun _ _ _ => rfl) (fun _ h _ => h) fun _ _ h => h.below (Below.refl _ _).drew
end Go.Proofs.YtghgbikmlbildaaGreatDoor
namespace Go.Proofs.YtghgbikmlbildaaGreatDoor
open Go.RowKit
set_option linter.unusedVariables false
set_option linter.unusedSimpArgs false

/-- What wire.Get may end in. -/
def WGetQ (s : ByteArray) (w : World) (e : Ending) (w' : World) : Prop :=
 (match wgetD s.data.toList with
 | none => e = .returned (.tuple #[.agg #[.int .i64 0, .int .i64 0, .int .i64 0, .string ⟨#[]⟩, .string ⟨#[]⟩, .int .i64 0, .slice none 0 0, .string ⟨#[]⟩, .int .i64 0], .int .i64 6])
 | some t => ∃ so c, e = .returned (.tuple #[.agg #[.int .i64 t.kind, .int .i64 t.int, .int .i64 t.gen, .string t.name, .string t.func, .int .i64 t.arity, .slice so t.items.length c, .string t.bytes, .int .i64 t.bits], .int .i64 0]) ∧ TmIn w' (w.heap.size ≤ ·) 2000 (tmL t so c) t) ∧ Below w.heap.size w w'
theorem tail_list {s : ByteArray} {c : UInt8} {l : List UInt8} (h : s.data.toList = c :: l) : (s.extract 1 s.size).data.toList = l ∧ (s.extract 1 s.size).size + 1 = s.size := by
 have hl : s.size = l.length + 1 := by have := congrArg List.length h; rw [Array.length_toList] at this; exact this
 refine ⟨?_, by rw [ByteArray.size_extract]; omega⟩
 rw [ByteArray.data_extract, Array.toList_extract, List.extract_eq_take_drop, h, List.drop_one, List.tail_cons, List.take_of_length_le (by omega)]
theorem wtakeD_len {l l2 : List UInt8} {t : Tm} (h : wtakeD l = some (t, l2)) (hl : l.length ≤ maxLen) : l2.length ≤ l.length ∧ OkF 2000 t := by
 unfold wtakeD at h
 obtain ⟨x, hx, h⟩ := Option.bind_eq_some_iff.1 h
 split at h
 ·simp only [Option.some.injEq, Prod.mk.injEq] at h
  obtain ⟨rfl, rfl⟩ := h
  have := termD_ok 2000 0 l x.1.1 x.1.2 x.2 hx (by omega) hl
  exact ⟨this.2.2.2, this.1⟩
 ·exact absurd h (by simp)
/-- What lies in old blocks stays there when a new one is written. -/
theorem SlIn.new {w w' : World} {B f : Nat} {ao : Option Addr} {ts : List Tm} (h : SlIn w (B ≤ ·) 9 (TmIn w (B ≤ ·) f) ao ts) (hb : Below w.heap.size w w') : SlIn w' (B ≤ ·) 9 (TmIn w' (B ≤ ·) f) ao ts :=
 h.kept hb.size (fun b _ hl => hb.block b hl) (fun b h _ => h) fun _ _ h => h.below hb
set_option maxRecDepth 100000 in
set_option maxHeartbeats 4000000 in
theorem wget_any (s : ByteArray) (w : World) (hs : s.size ≤ 9223372036854775807) : Calls Tryz.prog 101 #[.string s] w (WGetQ s w) := by
 generalize hQ : WGetQ s w = Q at *
 have HQ := Lib.hid hQ
 clear hQ
 cases hl : s.data.toList with
 | nil =>
  have h0 : s = ⟨#[]⟩ := ByteArray.ext (Array.ext' hl)
  subst h0
  have x := heap_alloc_new w (.cells zeroRow 78)
  go_enter Tryz.func101, Tryz.ntmps101
  go_upto_region 1 with fail
  have hb : Below w.heap.size w (w.alloc (.cells zeroRow 78)) := (Below.refl _ _).alloc (Nat.le_refl _) _
  unfold zeroRow at x hb
  generalize w.alloc _ = w1 at *
  obtain ⟨x0, x1, x2, x3, x4, x5, x6, x7, x8, y0, y1, y2, y3, y4, y5, y6, y7, y8⟩ := term_cells x
  go_wp2_with fail
  refine bodyPost_ret (results_row_tmp rfl _ _ _ w.heap.size _ _ _ _ rfl (set9 _ _ _ _ _ _ _ _ _ x) Tryz.underlying78 (by kernel_rfl)) rfl ?_
  rw [← HQ.out]
  exact ⟨rfl, below9 (Nat.le_refl _) hb _ _ _ _ _ _ _ _ _⟩
 | cons c l =>
  obtain ⟨ht, hz⟩ := tail_list hl
  have hT := wtake_any (s.extract 1 s.size)
  unfold TakeQ at hT
  rw [ht] at hT
  have x := heap_alloc_new w (.cells zeroRow 78)
  go_enter Tryz.func101, Tryz.ntmps101
  go_upto_region 1 with fail
  have hb : Below w.heap.size w (w.alloc (.cells zeroRow 78)) := (Below.refl _ _).alloc (Nat.le_refl _) _
  unfold zeroRow at x hb
  generalize w.alloc _ = w1 at *
  have hne : ¬ s.toList = [] := by rw [ByteArray.toList_eq, hl]; simp
  have hne3 : s.toList.isEmpty = false := by rw [ByteArray.toList_eq, hl]; rfl
  have hsz : 0 < s.size := by omega
  have hc0 : s[0] = c := by
   have h1 : s.data.toList[0]? = some c := by rw [hl]; rfl
   rw [Array.getElem?_toList, Array.getElem?_eq_getElem (show 0 < s.data.size from hsz)] at h1
   exact Option.some.inj h1
  have hcl := c.toNat_lt
  by_cases c1 : c.toNat = 131
  case neg =>
   have HD : Hid (wgetD s.data.toList = none) := Lib.hid (by rw [hl]; exact if_neg c1)
   have hnc : ((s[0].toNat : Int) != 131) = true := by rw [hc0, bne_iff_ne]; omega
   have hnd : ¬ (s[0].toNat : Int) = 131 := by rw [hc0]; omega
   clear hc0 hcl c1
   obtain ⟨x0, x1, x2, x3, x4, x5, x6, x7, x8, y0, y1, y2, y3, y4, y5, y6, y7, y8⟩ := term_cells x
   go_wp2_with fail
   go_wp2_with fail
   refine bodyPost_ret (results_row_tmp rfl _ _ _ w.heap.size _ _ _ _ rfl (set9 _ _ _ _ _ _ _ _ _ x) Tryz.underlying78 (by kernel_rfl)) rfl ?_
   rw [← HQ.out]
   refine ⟨by rw [HD.out]; exact rfl, below9 (Nat.le_refl _) hb _ _ _ _ _ _ _ _ _⟩
  have hnc : ((s[0].toNat : Int) != 131) = false := by rw [hc0, c1]; rfl
  have hnd : (s[0].toNat : Int) = 131 := by rw [hc0, c1]; rfl
  have hwg : wgetD s.data.toList = (wtakeD l).bind fun x => if x.2 = [] then some x.1 else none := by rw [hl]; exact if_pos c1
  have HWG := Lib.hid hwg
  clear hwg hc0 hcl c1
  have hT := hT w1 (by omega)
  rcases hw : wtakeD l with _ | ⟨t, l2⟩
  ·rw [hw] at hT HWG
   have HD : Hid (wgetD s.data.toList = none) := HWG
   clear HWG
   unfold zeroRow at hT
   go_upto_region 4 with (go_at_call 145; refine hT.mono ?_; rintro e w2 ⟨rfl, hb2⟩)
   have hB3 := (Below.refl w2.heap.size w2).alloc (Nat.le_refl _) (.cells #[.int .i64 0, .int .i64 0, .int .i64 0, .string ⟨#[]⟩, .string ⟨#[]⟩, .int .i64 0, .slice none 0 0, .string ⟨#[]⟩, .int .i64 0] 78)
   have hY3 := heap_alloc_new w2 (.cells #[.int .i64 0, .int .i64 0, .int .i64 0, .string ⟨#[]⟩, .string ⟨#[]⟩, .int .i64 0, .slice none 0 0, .string ⟨#[]⟩, .int .i64 0] 78)
   have hlw := lt_of_row x
   have hx3 := (hB3.block _ (Nat.lt_of_lt_of_le hlw hb2.size)).trans ((hb2.block _ hlw).trans x)
   have hbw := (hb.trans (hb2.mono (Nat.le_of_lt hlw))).trans (hB3.mono (Nat.le_trans (Nat.le_of_lt hlw) hb2.size))
   have hne2 : w.heap.size < w2.heap.size := Nat.lt_of_lt_of_le hlw hb2.size
   clear hB3 x hb hb2 hT
   generalize w2.alloc _ = w3 at *
   generalize w2.heap.size = Y at *
   obtain ⟨x0, x1, x2, x3, x4, x5, x6, x7, x8, y0, y1, y2, y3, y4, y5, y6, y7, y8⟩ := term_cells hx3
   go_wp2_with fail
   refine bodyPost_ret (results_row_tmp rfl _ _ _ w.heap.size _ _ _ _ rfl (set9 _ _ _ _ _ _ _ _ _ hx3) Tryz.underlying78 (by kernel_rfl)) rfl ?_
   rw [← HQ.out]
   refine ⟨by rw [HD.out]; exact rfl, below9 (Nat.le_refl _) hbw _ _ _ _ _ _ _ _ _⟩
  rw [hw] at hT HWG
  rw [Option.bind_some] at HWG
  have hll : l2.length ≤ l.length := by
   have hle : l.length ≤ maxLen := by have := congrArg List.length hl; rw [Array.length_toList] at this; have h3 : s.data.size = s.size := rfl; rw [List.length_cons] at this; unfold maxLen; omega
   have := (wtakeD_len hw hle); omega
  go_upto_region 4 with (go_at_call 145; refine hT.mono ?_; rintro e w2 ⟨⟨so, c2, rfl, htm⟩, hb2⟩)
  have hB3 := (Below.refl w2.heap.size w2).alloc (Nat.le_refl _) (.cells #[.int .i64 t.kind, .int .i64 t.int, .int .i64 t.gen, .string t.name, .string t.func, .int .i64 t.arity, .slice so t.items.length c2, .string t.bytes, .int .i64 t.bits] 78)
  have hY3 := heap_alloc_new w2 (.cells #[.int .i64 t.kind, .int .i64 t.int, .int .i64 t.gen, .string t.name, .string t.func, .int .i64 t.arity, .slice so t.items.length c2, .string t.bytes, .int .i64 t.bits] 78)
  have hlw := lt_of_row x
  have hx3 := (hB3.block _ (Nat.lt_of_lt_of_le hlw hb2.size)).trans ((hb2.block _ hlw).trans x)
  have hbw := (hb.trans (hb2.mono (Nat.le_of_lt hlw))).trans (hB3.mono (Nat.le_trans (Nat.le_of_lt hlw) hb2.size))
  have hsl := htm.sl.new hB3
  have hw1 : w.heap.size ≤ w1.heap.size := Nat.le_of_lt hlw
  clear htm
  have hne2 : w.heap.size < w2.heap.size := Nat.lt_of_lt_of_le hlw hb2.size
  clear hB3 x hb hb2 hT
  generalize w2.alloc _ = w3 at *
  generalize w2.heap.size = Y at *
  obtain ⟨x0, x1, x2, x3, x4, x5, x6, x7, x8, y0, y1, y2, y3, y4, y5, y6, y7, y8⟩ := term_cells hx3
  by_cases c3 : l2 = []
  case neg =>
   have HD : Hid (wgetD s.data.toList = none) := Lib.hid (by rw [HWG.out]; exact if_neg c3)
   have hlp : 0 < l2.length := List.length_pos_iff.2 c3
   have hq1 : ¬ ((s.size - 1 : Nat) : Int) - (l2.length : Int) = (s.size : Int) - 1 := by omega
   have hq2 : (((s.size - 1 : Nat) : Int) - (l2.length : Int) != (s.size : Int) - 1) = true := by rw [bne_iff_ne]; exact hq1
   have hw3 : IntKind.i64.wrap ((s.size : Int) - 1) = (s.size : Int) - 1 := by rw [IntKind.wrap_i64]; omega
   clear hlp c3 HWG hll
   generalize ((s.size - 1 : Nat) : Int) - (l2.length : Int) = nv at *
   go_wp2_with fail
   refine bodyPost_ret (results_row_tmp rfl _ _ _ w.heap.size _ _ _ _ rfl (set9 _ _ _ _ _ _ _ _ _ hx3) Tryz.underlying78 (by kernel_rfl)) rfl ?_
   rw [← HQ.out]
   exact ⟨by rw [HD.out]; exact rfl, below9 (Nat.le_refl _) hbw _ _ _ _ _ _ _ _ _⟩
  subst c3
  have HD : Hid (wgetD s.data.toList = some t) := HWG
  have hq1 : ((s.size - 1 : Nat) : Int) - (([] : List UInt8).length : Int) = (s.size : Int) - 1 := by simp; omega
  have hw3 : IntKind.i64.wrap ((s.size : Int) - 1) = (s.size : Int) - 1 := by rw [IntKind.wrap_i64]; omega
  rw [hq1]
  clear hq1 HWG hll
  obtain ⟨q0, q1, q2, q3, q4, q5, q6, q7, q8, z0, z1, z2, z3, z4, z5, z6, z7, z8⟩ := term_cells hY3
  go_wp2_with fail
  refine bodyPost_ret (results_row_tmp rfl _ _ _ w.heap.size _ _ _ _ rfl (set9 _ _ _ _ _ _ _ _ _ hx3) Tryz.underlying78 (by kernel_rfl)) rfl ?_
  rw [← HQ.out]
  refine ⟨?_, below9 (Nat.le_refl _) hbw _ _ _ _ _ _ _ _ _⟩
  rw [HD.out]
  exact ⟨so, c2, rfl, so, c2, rfl, hsl.off (OffB.nine _ _ _ _ _ _ _ _ _ _ _) hlw hw1⟩
end Go.Proofs.YtghgbikmlbildaaGreatDoor
namespace Go.Proofs.YtghgbikmlbildaaGreatDoor
open Go.RowKit
set_option linter.unusedVariables false
set_option linter.unusedSimpArgs false

def ArgG (a : RArg) : Prop := I64 a.kind ∧ I64 a.n
def CaseG (a : RCase) : Prop := I64 a.lit ∧ I64 a.to
structure InsOk (x : RIns) : Prop where
 op : I64 x.op
 dst : ArgG x.dst
 src : ∀ a ∈ x.src, ArgG a
 srcL : x.src.length ≤ 4398046511104
 tgt : I64 x.to
 n : I64 x.n
 live : I64 x.live
 name : x.name.size ≤ 4398046511104
 cases : ∀ a ∈ x.cases, CaseG a
 casesL : x.cases.length ≤ 4398046511104
 segs : ∀ a ∈ x.segs, SegG a
 segsL : x.segs.length ≤ 4398046511104
theorem argD_g : ∀ l a l', argD l = some (a, l') → l = argW a ++ l' ∧ ArgG a := fun l a l' h => by
 have := argD_enc h; exact ⟨this.1, by unfold ArgG I64; omega⟩
theorem caseD_g : ∀ l a l', caseD l = some (a, l') → l = caseW a ++ l' ∧ CaseG a := fun l a l' h => by
 have := caseD_enc l a l' h; exact ⟨this.1, by unfold CaseG I64; omega⟩
theorem intD_g : ∀ l (a : Int) l', intD l = some (a, l') → l = vint a.toNat ++ l' ∧ I64 a := fun l a l' h => by
 have := intD_enc h; exact ⟨this.1, by unfold I64; omega⟩
theorem textD_g : ∀ l (a : ByteArray) l', textD l = some (a, l') → l = textW a ++ l' ∧ a.size ≤ 4398046511104 := fun l a l' h => by
 have := textD_enc h; exact ⟨this.1, by omega⟩
theorem listD_g {α : Type} {one : Dec α} {E : α → List UInt8} {G : α → Prop} (H : ∀ l a l', one l = some (a, l') → l = E a ++ l' ∧ G a) : ∀ l (zs : List α) l', listD one l = some (zs, l') → l = (vint zs.length ++ zs.flatMap E) ++ l' ∧ ((∀ a ∈ zs, G a) ∧ zs.length ≤ 4398046511104) := fun l zs l' h => by
 have := listD_enc H h; exact ⟨by rw [List.append_assoc]; exact this.1, this.2.2, by omega⟩
theorem i64_0 : I64 0 := by unfold I64; omega
theorem insG_enc {op : Int} {h : Nat} (ho : I64 op) {l : List UInt8} {x : RIns} {l' : List UInt8} (hx : insG op h l = some (x, l')) : vint op.toNat ++ l = instrW h x ++ l' ∧ x.op = op ∧ InsOk x := by
 unfold insG at hx
 obtain ⟨d, hd, hx⟩ := Option.bind_eq_some_iff.1 hx
 obtain ⟨s, hs, hx⟩ := Option.bind_eq_some_iff.1 hx
 obtain ⟨n, hn, hx⟩ := Option.bind_eq_some_iff.1 hx
 obtain ⟨m, hm, hx⟩ := Option.bind_eq_some_iff.1 hx
 obtain ⟨c, hc, hx⟩ := Option.bind_eq_some_iff.1 hx
 obtain ⟨g, hg, hx⟩ := Option.bind_eq_some_iff.1 hx
 obtain ⟨t, ht, hx⟩ := Option.bind_eq_some_iff.1 hx
 obtain ⟨v, hv, hx⟩ := Option.bind_eq_some_iff.1 hx
 simp only [Option.some.injEq, Prod.mk.injEq] at hx
 obtain ⟨rfl, rfl⟩ := hx
 have e1 := optD_enc (a := d.1) (l' := d.2) (show ArgG ⟨0, 0⟩ from ⟨i64_0, i64_0⟩) argD_g hd
 have e2 := optD_enc (a := s.1) (l' := s.2) (G := fun zs => (∀ a ∈ zs, ArgG a) ∧ zs.length ≤ 4398046511104) ⟨fun a ha => absurd ha (by simp), Nat.zero_le _⟩ (listD_g argD_g) hs
 have e3 := optD_enc (a := n.1) (l' := n.2) (G := I64) i64_0 intD_g hn
 have e4 := optD_enc (a := m.1) (l' := m.2) (G := fun a => a.size ≤ 4398046511104) (by show (0 : Nat) ≤ _; omega) textD_g hm
 have e5 := optD_enc (a := c.1) (l' := c.2) (G := fun zs => (∀ a ∈ zs, CaseG a) ∧ zs.length ≤ 4398046511104) ⟨fun a ha => absurd ha (by simp), Nat.zero_le _⟩ (listD_g caseD_g) hc
 have e6 := optD_enc (a := g.1) (l' := g.2) (G := fun zs => (∀ a ∈ zs, SegG a) ∧ zs.length ≤ 4398046511104) ⟨fun a ha => absurd ha (by simp), Nat.zero_le _⟩ (listD_g segD_enc) hg
 have e7 := optD_enc (a := t.1) (l' := t.2) (G := I64) i64_0 intD_g ht
 have e8 := optD_enc (a := v.1) (l' := v.2) (G := I64) i64_0 intD_g hv
 refine ⟨?_, rfl, ⟨ho, e1.2, e2.2.1, e2.2.2, e7.2, e3.2, e8.2, e4.2, e5.2.1, e5.2.2, e6.2.1, e6.2.2⟩⟩
 unfold instrW srcW casesW segsW
 simp only [List.append_assoc]
 rw [← e8.1, ← e7.1, ← e6.1, ← e5.1, ← e4.1, ← e3.1, ← e2.1, ← e1.1]
theorem insD_enc : ∀ l x l', insD l = some (x, l') → l = insW x ++ l' ∧ InsOk x := by
 intro l x l' h
 unfold insD at h
 obtain ⟨o, ho, h⟩ := Option.bind_eq_some_iff.1 h
 split at h
 ·next c =>
  have e1 := intD_enc (n := o.1) (l' := o.2) ho
  have e2 := insG_enc (by unfold I64; omega) h
  unfold insW
  rw [e2.2.1, ← e2.1]; exact ⟨e1.1, e2.2.2⟩
 ·exact absurd h (by simp)
theorem wtakeD_enc {l : List UInt8} {t : Tm} {l' : List UInt8} (h : wtakeD l = some (t, l')) (hl : l.length ≤ maxLen) : l = codeE 2000 t ++ l' ∧ validF 2000 t = true ∧ OkF 2000 t := by
 unfold wtakeD at h
 obtain ⟨x, hx, h⟩ := Option.bind_eq_some_iff.1 h
 split at h
 ·next c =>
  simp only [Option.some.injEq, Prod.mk.injEq] at h
  obtain ⟨rfl, rfl⟩ := h
  exact ⟨termD_enc 2000 0 l x.1.1 x.1.2 x.2 hx, c, (termD_ok 2000 0 l x.1.1 x.1.2 x.2 hx (by omega) hl).1⟩
 ·exact absurd h (by simp)
theorem wgetD_enc {l : List UInt8} {t : Tm} (h : wgetD l = some t) (hl : l.length ≤ maxLen) : l = putE 2000 t ∧ validF 2000 t = true ∧ OkF 2000 t := by
 cases l with
 | nil => exact absurd h (by simp [wgetD])
 | cons c l =>
  change (if c.toNat = 131 then (wtakeD l).bind fun x => if x.2 = [] then some x.1 else none else none) = some t at h
  by_cases hc : c.toNat = 131
  ·rw [if_pos hc] at h
   obtain ⟨x, hx, h⟩ := Option.bind_eq_some_iff.1 h
   split at h
   ·next h0 =>
    simp only [Option.some.injEq] at h
    subst h
    rw [List.length_cons] at hl
    have e := wtakeD_enc (t := x.1) (l' := x.2) hx (by omega)
    rw [h0, List.append_nil] at e
    unfold putE
    rw [← e.1, show c = 131 from UInt8.toNat_inj.1 hc]
    exact ⟨rfl, e.2⟩
   ·exact absurd h (by simp)
  ·rw [if_neg hc] at h; exact absurd h (by simp)
theorem litD_enc : ∀ l t l', litD l = some (t, l') → l = textW (encW 2000 t) ++ l' ∧ (validF 2000 t = true ∧ OkF 2000 t) := by
 intro l t l' h
 unfold litD at h
 obtain ⟨x, hx, h⟩ := Option.bind_eq_some_iff.1 h
 obtain ⟨y, hy, h⟩ := Option.bind_eq_some_iff.1 h
 simp only [Option.some.injEq, Prod.mk.injEq] at h
 obtain ⟨rfl, rfl⟩ := h
 have e1 := textD_enc (a := x.1) (l' := x.2) hx
 have hz : x.1.data.toList.length = x.1.size := rfl
 have e2 := wgetD_enc hy (by unfold maxLen; omega)
 have e3 : encW 2000 y = x.1 := by
  unfold encW; rw [← e2.1]
 rw [e3]; exact ⟨e1.1, e2.2⟩
structure UnitOk (u : RUnit) : Prop where
 mdl : u.mdl.size ≤ 4398046511104
 vsn : I64 u.vsn
 lits : ∀ t ∈ u.lits, validF 2000 t = true ∧ OkF 2000 t
 litsL : u.lits.length ≤ 4398046511104
 funcs : ∀ a ∈ u.funcs, a.name.size < 4398046511104 ∧ I64 a.arity ∧ I64 a.entry
 funcsL : u.funcs.length ≤ 4398046511104
 funs : ∀ a ∈ u.funs, I64 a.arity ∧ I64 a.free ∧ I64 a.entry
 funsL : u.funs.length ≤ 4398046511104
 code : ∀ x ∈ u.code, InsOk x
 codeL : u.code.length ≤ 4398046511104
theorem unitD_enc {l : List UInt8} {u : RUnit} {l' : List UInt8} (h : unitD l = some (u, l')) : l = unitW (encW 2000) u ++ l' ∧ UnitOk u := by
 unfold unitD at h
 obtain ⟨m, hm, h⟩ := Option.bind_eq_some_iff.1 h
 obtain ⟨v, hv, h⟩ := Option.bind_eq_some_iff.1 h
 obtain ⟨a, ha, h⟩ := Option.bind_eq_some_iff.1 h
 obtain ⟨b, hb, h⟩ := Option.bind_eq_some_iff.1 h
 obtain ⟨c, hc, h⟩ := Option.bind_eq_some_iff.1 h
 obtain ⟨d, hd, h⟩ := Option.bind_eq_some_iff.1 h
 simp only [Option.some.injEq, Prod.mk.injEq] at h
 obtain ⟨rfl, rfl⟩ := h
 have e1 := textD_g l m.1 m.2 hm
 have e2 := intD_g m.2 v.1 v.2 hv
 have e3 := listD_g litD_enc v.2 a.1 a.2 ha
 have e4 := listD_g funcD_enc a.2 b.1 b.2 hb
 have e5 := listD_g fnD_enc b.2 c.1 c.2 hc
 have e6 := listD_g insD_enc c.2 d.1 d.2 hd
 refine ⟨?_, ⟨e1.2, e2.2, e3.2.1, e3.2.2, e4.2.1, e4.2.2, e5.2.1, e5.2.2, e6.2.1, e6.2.2⟩⟩
 unfold unitW
 simp only [List.append_nil, List.append_assoc] at e3 e4 e5 e6 ⊢
 rw [← e6.1, ← e5.1, ← e4.1, ← e3.1, ← e2.1, ← e1.1]
/-- What is accepted is well-formed and has this very encoding. -/
theorem ugetD_enc {l : List UInt8} {u : RUnit} (h : ugetD l = some u) : l = unitW (encW 2000) u ∧ checkE 2000 u = 0 ∧ UnitOk u := by
 unfold ugetD at h
 obtain ⟨x, hx, h⟩ := Option.bind_eq_some_iff.1 h
 split at h
 ·next c =>
  simp only [Option.some.injEq] at h
  subst h
  have e := unitD_enc (u := x.1) (l' := x.2) hx
  rw [c.1, List.append_nil] at e
  exact ⟨e.1, c.2, e.2⟩
 ·exact absurd h (by simp)
end Go.Proofs.YtghgbikmlbildaaGreatDoor
