/-
  stagehandlaw16.CodeRounds: for every input the law returns true. Conditions: none but that the inputs can be read.
-/
import Derived.Test.YtghgbikmlbildaaGreatDoorCards
import Derived.Test.YtghgbikmlbildaaGreatDoorTie
import Derived.Deep.DeepHandedRow
import Derived.Deep.DeepLaidRun
import Derived.Deep.DeepWitnessRowRef
import Derived.ProofKit
import Derived.OpenShut
import Derived.ShutString
import Derived.Test.YtghgbikmlbildaaGreatDoorRoundsAll02
import Derived.Test.YtghgbikmlbildaaGreatDoorRoundsAll28
namespace Go.Proofs.YtghgbikmlbildaaGreatDoor
open Go.RowKit
set_option linter.unusedVariables false
set_option linter.unusedSimpArgs false

section
variable {H : Type} {enc : TypeId × Value → H} {P : Program} {w : World} {base : Nat} {spare : Nat → Bool} {held : Bool}
/-- Every string and slice in what was read is within the form's reach. -/
def Wt (P : Program) (t : TypeId) (d : DataW H) : Prop := (d.weights P t).all (· ≤ reachBytes) = true
theorem wt_each : ∀ (ts : List TypeId) (ds : List (DataW H)), (DataW.weightsEach P ts ds).all (· ≤ reachBytes) = true → ∀ (i : Nat) (t : TypeId) (d : DataW H), ts[i]? = some t → ds[i]? = some d → Wt P t d
 | [], _, _, i, t, d, h, _ => by simp at h
 | _ :: _, [], _, i, t, d, _, h => by simp at h
 | t0 :: ts, d0 :: ds, h, i, t, d, ht, hd => by
  unfold DataW.weightsEach at h
  rw [List.all_append, Bool.and_eq_true] at h
  cases i with
  | zero =>
   simp at ht hd
   subst ht; subst hd
   exact h.1
  | succ i => exact wt_each ts ds h.2 i t d (by simpa using ht) (by simpa using hd)
theorem wt_all (e : TypeId) : ∀ (ds : List (DataW H)), (DataW.weightsAll P e ds).all (· ≤ reachBytes) = true → ∀ d ∈ ds, Wt P e d
 | [], _, _, h => by cases h
 | d0 :: ds, h, d, hd => by
  unfold DataW.weightsAll at h
  rw [List.all_append, Bool.and_eq_true] at h
  rcases List.mem_cons.1 hd with rfl | hd
  ·exact h.1
  ·exact wt_all e ds h.2 d hd
theorem wt_first {t : TypeId} {ts : List TypeId} {d : DataW H} {ds : List (DataW H)} (h : (DataW.weightsEach P (t :: ts) (d :: ds)).all (· ≤ reachBytes) = true) : Wt P t d := wt_each _ _ h 0 t d rfl rfl
theorem open_field {t : TypeId} {fuel : Nat} {cs : List Value} {x : DataW H × List MemPlace} {fs : Array Field} (hS : P.underlying t = some (.struct fs)) (h : DataW.trod enc P w base spare held fuel t cs = some x) (hw : Wt P t x.1) :
  ∃ n, fuel = n + 1 ∧ cs.length = P.cellsOf t ∧ ∀ (i : Nat) (f : Field) (ty : TypeId) (o m : Nat), fs[i]? = some f → f.type = ty → f.offset = o → P.cellsOf ty = m → ∃ y, DataW.trod enc P w base spare held n ty ((cs.drop o).take m) = some y ∧ Wt P ty y.1 := by
 obtain ⟨xs, n, rfl, rfl, hl, hxl, hx⟩ := DataW.trod_struct hS h
 refine ⟨n, rfl, hl, fun i f ty o m hf e1 e2 e3 => ?_⟩
 have hi := hx i f hf
 have hil : i < xs.length := by rw [hxl]; exact (Array.getElem?_eq_some_iff.1 hf).1
 rw [List.getElem?_eq_getElem hil] at hi
 refine ⟨xs[i], by rw [← e1, ← e2, ← e3, ← e1]; exact hi, ?_⟩
 unfold Wt DataW.weights at hw
 simp only [hS] at hw
 refine wt_each _ _ hw i ty _ ?_ (by rw [List.getElem?_map, List.getElem?_eq_getElem hil]; rfl)
 rw [List.getElem?_map, ← e1]
 simp [hf]
theorem open_strw {t : TypeId} {fuel : Nat} {cs : List Value} {x : DataW H × List MemPlace} (ht : P.underlying t = some .string) (h : DataW.trod enc P w base spare held fuel t cs = some x) (hw : Wt P t x.1) : ∃ s, cs = [.string s] ∧ s.size ≤ 140737488351232 := by
 obtain ⟨s, e, rfl, hs⟩ := DataW.trod_string ht h
 refine ⟨s, e, ?_⟩
 unfold Wt DataW.weights at hw
 have h1 : s.data.toList.length ≤ reachBytes := of_decide_eq_true (List.all_eq_true.1 hw _ (List.mem_singleton.2 rfl))
 rw [Array.length_toList] at h1
 exact h1
theorem open_boolw {t : TypeId} {fuel : Nat} {cs : List Value} {x : DataW H × List MemPlace} (ht : P.underlying t = some .bool) (h : DataW.trod enc P w base spare held fuel t cs = some x) : ∃ b, cs = [.bool b] := by
 obtain ⟨b, e, _⟩ := DataW.trod_bool ht h
 exact ⟨b, e⟩
theorem open_slw {α : Type} {t e : TypeId} {size fuel : Nat} {cs : List Value} {x : DataW H × List MemPlace} (R : List Value → α → Prop) (ht : P.underlying t = some (.slice e)) (hC : P.cellsOf e = size) (h0 : 0 < size)
  (h : DataW.trod enc P w base spare held fuel t cs = some x) (hw : Wt P t x.1)
  (hR : ∀ n cs' y, n < fuel → cs'.length = size → DataW.trod enc P w base spare held n e cs' = some y → Wt P e y.1 → ∃ a, R cs' a) :
  ∃ ao c l, cs = [.slice ao l.length c] ∧ SlAt w size R ao l ∧ l.length ≤ maxLen := by
 rcases DataW.trod_slice ht h with ⟨e1, _⟩ | ⟨a, len, cap, elems, rest, n, hf, e1, rfl, hb, hl, hm, hlen, hel, _, _⟩
 ·exact ⟨none, 0, [], e1, .inl rfl, Nat.zero_le _⟩
 ·have hwe : ∀ d ∈ elems.map (·.1), Wt P e d := by
   unfold Wt DataW.weights at hw
   simp only [ht] at hw
   rw [List.all_cons, List.all_append, Bool.and_eq_true, Bool.and_eq_true] at hw
   exact wt_all e _ hw.2.1
  have each : ∀ i, i < len → ∃ (x : α) (cs' : List Value), cs'.length = size ∧ (∀ k, k < size → w.cell? ((a.add (i * size)).add k) = cs'[k]?) ∧ R cs' x := fun i hi => by
   have hx := hel i hi
   have hil : i < elems.length := by omega
   rw [List.getElem?_eq_getElem hil, Option.bind_eq_some_iff] at hx
   obtain ⟨cs', hc, ht'⟩ := hx
   rw [hC] at hc
   obtain ⟨_, hcl, hat⟩ := World.cells?_some hc
   obtain ⟨x, hx⟩ := hR n cs' _ (by omega) hcl ht' (hwe _ (List.mem_map.2 ⟨_, List.getElem_mem hil, rfl⟩))
   exact ⟨x, cs', hcl, hat, hx⟩
  have all : ∀ m, m ≤ len → ∃ l : List α, l.length = m ∧ ∀ j (h : j < l.length), ∃ cs' : List Value, cs'.length = size ∧ (∀ k, k < size → w.cell? ((a.add (j * size)).add k) = cs'[k]?) ∧ R cs' l[j] := by
   intro m
   induction m with
   | zero => exact fun _ => ⟨[], rfl, fun j h => absurd h (Nat.not_lt_zero _)⟩
   | succ m ih =>
    intro hm'
    obtain ⟨l, hl', hr⟩ := ih (by omega)
    obtain ⟨x, cs', h1, h2, h3⟩ := each m (by omega)
    refine ⟨l ++ [x], by simp [hl'], fun j hj => ?_⟩
    by_cases hjl : j < l.length
    ·obtain ⟨cs2, g1, g2, g3⟩ := hr j hjl
     exact ⟨cs2, g1, g2, by rw [List.getElem_append_left hjl]; exact g3⟩
    ·have hj2 : j = m := by simp at hj; omega
     subst hj2
     refine ⟨cs', h1, h2, ?_⟩
     rw [List.getElem_append_right (by omega)]
     simpa [hl'] using h3
  obtain ⟨l, hl2, hr⟩ := all len (Nat.le_refl _)
  refine ⟨some a, cap, l, by rw [hl2]; exact e1, ?_, by omega⟩
  rcases Nat.eq_zero_or_pos len with hz | hz
  ·left; exact List.eq_nil_of_length_eq_zero (by omega)
  ·right
   obtain ⟨cs0, k1, k2, _⟩ := hr 0 (by omega)
   have hc0 : w.cell? a = some (cs0[0]'(by omega)) := by
    have := k2 0 h0
    rw [Nat.zero_mul] at this
    rw [← List.getElem?_eq_getElem, ← this]; rfl
   have hsp := World.cell?_spot (a := a) hc0
   obtain ⟨b, off, sp⟩ := a
   simp only at hsp
   subst hsp
   have hadd : ∀ k, (⟨b, off, none⟩ : Addr).add k = ⟨b, off + k, none⟩ := fun k => by unfold Addr.add; split <;> simp_all
   have hadd2 : ∀ o k, (⟨b, o, none⟩ : Addr).add k = ⟨b, o + k, none⟩ := fun o k => by unfold Addr.add; split <;> simp_all
   refine ⟨b, off, rfl, ?_, fun j hj => ?_⟩
   ·rcases Nat.lt_or_ge b w.heap.size with h | h
    ·exact h
    ·simp [World.cell?, Array.getElem?_eq_none h] at hc0
   ·obtain ⟨cs2, g1, g2, g3⟩ := hr j hj
    refine ⟨cs2, g1, fun i hi => ?_, g3⟩
    have := g2 i hi
    rwa [hadd, hadd2] at this
end

/-! ### The types of this program -/
theorem cI : Tryz.prog.cellsOf 3 = 1 := by kernel_rfl
theorem cI64 : Tryz.prog.cellsOf 2 = 1 := by kernel_rfl
theorem cS : Tryz.prog.cellsOf 9 = 1 := by kernel_rfl
theorem cB : Tryz.prog.cellsOf 4 = 1 := by kernel_rfl
theorem cArg : Tryz.prog.cellsOf 45 = 2 := by kernel_rfl
theorem cCase : Tryz.prog.cellsOf 131 = 2 := by kernel_rfl
theorem cSeg : Tryz.prog.cellsOf 133 = 6 := by kernel_rfl
theorem cFunc : Tryz.prog.cellsOf 81 = 4 := by kernel_rfl
theorem cFun : Tryz.prog.cellsOf 84 = 3 := by kernel_rfl
theorem cIns : Tryz.prog.cellsOf 50 = 10 := by kernel_rfl
theorem cTerm : Tryz.prog.cellsOf 78 = 9 := by kernel_rfl
theorem cUnit : Tryz.prog.cellsOf 27 = 6 := by kernel_rfl
theorem cTerms : Tryz.prog.cellsOf 22 = 1 := by kernel_rfl
theorem cArgs : Tryz.prog.cellsOf 46 = 1 := by kernel_rfl
theorem cCases : Tryz.prog.cellsOf 47 = 1 := by kernel_rfl
theorem cSegs : Tryz.prog.cellsOf 48 = 1 := by kernel_rfl
theorem cFuncs : Tryz.prog.cellsOf 23 = 1 := by kernel_rfl
theorem cFuns : Tryz.prog.cellsOf 24 = 1 := by kernel_rfl
theorem cCode : Tryz.prog.cellsOf 25 = 1 := by kernel_rfl
theorem len2 {cs : List Value} (h : cs.length = 2) : ∃ a b, cs = [a, b] := by
 match cs, h with
 | [a, b], _ => exact ⟨a, b, rfl⟩
theorem len3 {cs : List Value} (h : cs.length = 3) : ∃ a b c, cs = [a, b, c] := by
 match cs, h with
 | [a, b, c], _ => exact ⟨a, b, c, rfl⟩
theorem len4 {cs : List Value} (h : cs.length = 4) : ∃ a b c d, cs = [a, b, c, d] := by
 match cs, h with
 | [a, b, c, d], _ => exact ⟨a, b, c, d, rfl⟩
theorem len6 {cs : List Value} (h : cs.length = 6) : ∃ a b c d e f, cs = [a, b, c, d, e, f] := by
 match cs, h with
 | [a, b, c, d, e, f], _ => exact ⟨a, b, c, d, e, f, rfl⟩
theorem len9 {cs : List Value} (h : cs.length = 9) : ∃ a b c d e f g i j, cs = [a, b, c, d, e, f, g, i, j] := by
 match cs, h with
 | [a, b, c, d, e, f, g, i, j], _ => exact ⟨a, b, c, d, e, f, g, i, j, rfl⟩
theorem len10 {cs : List Value} (h : cs.length = 10) : ∃ a b c d e f g i j k, cs = [a, b, c, d, e, f, g, i, j, k] := by
 match cs, h with
 | [a, b, c, d, e, f, g, i, j, k], _ => exact ⟨a, b, c, d, e, f, g, i, j, k, rfl⟩
theorem one_eq {a b : Value} (h : [a] = [b]) : a = b := by injection h

section
variable {H : Type} {enc : TypeId × Value → H} {w : World} {base : Nat} {spare : Nat → Bool} {held : Bool} {fuel : Nat} {cs : List Value} {x : DataW H × List MemPlace}
theorem open_arg (h : DataW.trod enc Tryz.prog w base spare held fuel 45 cs = some x) (hw : Wt Tryz.prog 45 x.1) : ∃ a, ArgR cs a := by
 obtain ⟨n, rfl, hl, hf⟩ := open_field Tryz.underlying45 h hw
 rw [cArg] at hl
 obtain ⟨a, b, rfl⟩ := len2 hl
 obtain ⟨y0, h0, _⟩ := hf 0 _ 3 0 1 rfl rfl rfl cI
 obtain ⟨y1, h1, _⟩ := hf 1 _ 3 1 1 rfl rfl rfl cI
 obtain ⟨n0, e0, i0⟩ := open_i64 Tryz.underlying3 h0
 obtain ⟨n1, e1, i1⟩ := open_i64 Tryz.underlying3 h1
 obtain rfl := one_eq e0
 obtain rfl := one_eq e1
 exact ⟨⟨n0, n1⟩, rfl, i0, i1⟩
theorem open_case (h : DataW.trod enc Tryz.prog w base spare held fuel 131 cs = some x) (hw : Wt Tryz.prog 131 x.1) : ∃ a, CaseR cs a := by
 obtain ⟨n, rfl, hl, hf⟩ := open_field Tryz.underlying131 h hw
 rw [cCase] at hl
 obtain ⟨a, b, rfl⟩ := len2 hl
 obtain ⟨y0, h0, _⟩ := hf 0 _ 3 0 1 rfl rfl rfl cI
 obtain ⟨y1, h1, _⟩ := hf 1 _ 3 1 1 rfl rfl rfl cI
 obtain ⟨n0, e0, i0⟩ := open_i64 Tryz.underlying3 h0
 obtain ⟨n1, e1, i1⟩ := open_i64 Tryz.underlying3 h1
 obtain rfl := one_eq e0
 obtain rfl := one_eq e1
 exact ⟨⟨n0, n1⟩, rfl, i0, i1⟩
theorem open_seg (h : DataW.trod enc Tryz.prog w base spare held fuel 133 cs = some x) (hw : Wt Tryz.prog 133 x.1) : ∃ a, SegR cs a := by
 obtain ⟨n, rfl, hl, hf⟩ := open_field Tryz.underlying133 h hw
 rw [cSeg] at hl
 obtain ⟨a, b, c, d, e, f, rfl⟩ := len6 hl
 obtain ⟨y0, h0, _⟩ := hf 0 _ 3 0 1 rfl rfl rfl cI
 obtain ⟨y1, h1, w1⟩ := hf 1 _ 45 1 2 rfl rfl rfl cArg
 obtain ⟨y2, h2, w2⟩ := hf 2 _ 45 3 2 rfl rfl rfl cArg
 obtain ⟨y3, h3, _⟩ := hf 3 _ 4 5 1 rfl rfl rfl cB
 obtain ⟨n0, e0, i0⟩ := open_i64 Tryz.underlying3 h0
 obtain ⟨a1, e1, i1, j1⟩ := open_arg h1 w1
 obtain ⟨a2, e2, i2, j2⟩ := open_arg h2 w2
 obtain ⟨b3, e3⟩ := open_boolw Tryz.underlying4 h3
 obtain rfl := one_eq e0
 obtain rfl := one_eq e3
 have e1' : [b, c] = [Value.int .i64 a1.kind, .int .i64 a1.n] := e1
 have e2' : [d, e] = [Value.int .i64 a2.kind, .int .i64 a2.n] := e2
 simp only [List.cons.injEq, and_true] at e1' e2'
 obtain ⟨rfl, rfl⟩ := e1'
 obtain ⟨rfl, rfl⟩ := e2'
 exact ⟨⟨n0, a1, a2, b3⟩, rfl, i0, i1, j1, i2, j2⟩
theorem open_func (h : DataW.trod enc Tryz.prog w base spare held fuel 81 cs = some x) (hw : Wt Tryz.prog 81 x.1) : ∃ a, FuncR cs a := by
 obtain ⟨n, rfl, hl, hf⟩ := open_field Tryz.underlying81 h hw
 rw [cFunc] at hl
 obtain ⟨a, b, c, d, rfl⟩ := len4 hl
 obtain ⟨y0, h0, _⟩ := hf 0 _ 9 0 1 rfl rfl rfl cS
 obtain ⟨y1, h1, _⟩ := hf 1 _ 3 1 1 rfl rfl rfl cI
 obtain ⟨y2, h2, _⟩ := hf 2 _ 4 2 1 rfl rfl rfl cB
 obtain ⟨y3, h3, _⟩ := hf 3 _ 3 3 1 rfl rfl rfl cI
 obtain ⟨s0, e0, i0⟩ := open_str Tryz.underlying9 h0
 obtain ⟨n1, e1, i1⟩ := open_i64 Tryz.underlying3 h1
 obtain ⟨b2, e2⟩ := open_boolw Tryz.underlying4 h2
 obtain ⟨n3, e3, i3⟩ := open_i64 Tryz.underlying3 h3
 obtain rfl := one_eq e0
 obtain rfl := one_eq e1
 obtain rfl := one_eq e2
 obtain rfl := one_eq e3
 exact ⟨⟨s0, n1, b2, n3⟩, rfl, i0, i1, i3⟩
theorem open_fun (h : DataW.trod enc Tryz.prog w base spare held fuel 84 cs = some x) (hw : Wt Tryz.prog 84 x.1) : ∃ a, FunR cs a := by
 obtain ⟨n, rfl, hl, hf⟩ := open_field Tryz.underlying84 h hw
 rw [cFun] at hl
 obtain ⟨a, b, c, rfl⟩ := len3 hl
 obtain ⟨y0, h0, _⟩ := hf 0 _ 3 0 1 rfl rfl rfl cI
 obtain ⟨y1, h1, _⟩ := hf 1 _ 3 1 1 rfl rfl rfl cI
 obtain ⟨y2, h2, _⟩ := hf 2 _ 3 2 1 rfl rfl rfl cI
 obtain ⟨n0, e0, i0⟩ := open_i64 Tryz.underlying3 h0
 obtain ⟨n1, e1, i1⟩ := open_i64 Tryz.underlying3 h1
 obtain ⟨n2, e2, i2⟩ := open_i64 Tryz.underlying3 h2
 obtain rfl := one_eq e0
 obtain rfl := one_eq e1
 obtain rfl := one_eq e2
 exact ⟨⟨n0, n1, n2⟩, rfl, i0, i1, i2⟩
/-- An instruction, its name within the reach. -/
def InsN (w : World) (cs : List Value) (x : RIns) : Prop := InsR w cs x ∧ x.name.size ≤ 140737488351232
theorem open_ins (h : DataW.trod enc Tryz.prog w base spare held fuel 50 cs = some x) (hw : Wt Tryz.prog 50 x.1) : ∃ a, InsN w cs a := by
 obtain ⟨n, rfl, hl, hf⟩ := open_field Tryz.underlying50 h hw
 rw [cIns] at hl
 obtain ⟨a, b, c, d, e, f, g, i, j, k, rfl⟩ := len10 hl
 obtain ⟨y0, h0, _⟩ := hf 0 _ 3 0 1 rfl rfl rfl cI
 obtain ⟨y1, h1, w1⟩ := hf 1 _ 45 1 2 rfl rfl rfl cArg
 obtain ⟨y2, h2, w2⟩ := hf 2 _ 46 3 1 rfl rfl rfl cArgs
 obtain ⟨y3, h3, _⟩ := hf 3 _ 3 4 1 rfl rfl rfl cI
 obtain ⟨y4, h4, _⟩ := hf 4 _ 3 5 1 rfl rfl rfl cI
 obtain ⟨y5, h5, _⟩ := hf 5 _ 3 6 1 rfl rfl rfl cI
 obtain ⟨y6, h6, w6⟩ := hf 6 _ 9 7 1 rfl rfl rfl cS
 obtain ⟨y7, h7, w7⟩ := hf 7 _ 47 8 1 rfl rfl rfl cCases
 obtain ⟨y8, h8, w8⟩ := hf 8 _ 48 9 1 rfl rfl rfl cSegs
 obtain ⟨n0, e0, i0⟩ := open_i64 Tryz.underlying3 h0
 obtain ⟨a1, e1, i1, j1⟩ := open_arg h1 w1
 obtain ⟨so, sc, l2, e2, s2, b2⟩ := open_slw ArgR Tryz.underlying46 cArg (by decide) h2 w2 (fun n cs' y _ _ hy wy => open_arg hy wy)
 obtain ⟨n3, e3, i3⟩ := open_i64 Tryz.underlying3 h3
 obtain ⟨n4, e4, i4⟩ := open_i64 Tryz.underlying3 h4
 obtain ⟨n5, e5, i5⟩ := open_i64 Tryz.underlying3 h5
 obtain ⟨s6, e6, i6⟩ := open_strw Tryz.underlying9 h6 w6
 obtain ⟨co, cc, l7, e7, s7, b7⟩ := open_slw CaseR Tryz.underlying47 cCase (by decide) h7 w7 (fun n cs' y _ _ hy wy => open_case hy wy)
 obtain ⟨go, gc, l8, e8, s8, b8⟩ := open_slw SegR Tryz.underlying48 cSeg (by decide) h8 w8 (fun n cs' y _ _ hy wy => open_seg hy wy)
 obtain rfl := one_eq e0
 obtain rfl := one_eq e2
 obtain rfl := one_eq e3
 obtain rfl := one_eq e4
 obtain rfl := one_eq e5
 obtain rfl := one_eq e6
 obtain rfl := one_eq e7
 obtain rfl := one_eq e8
 have e1' : [b, c] = [Value.int .i64 a1.kind, .int .i64 a1.n] := e1
 simp only [List.cons.injEq, and_true] at e1'
 obtain ⟨rfl, rfl⟩ := e1'
 exact ⟨⟨n0, a1, l2, n3, n4, n5, s6, l7, l8⟩, ⟨⟨so, sc, co, cc, go, gc, rfl, s2, s7, s8⟩, i0, i1, j1, b2, i3, i4, i5, Nat.le_trans i6 (by decide), b7, b8⟩, i6⟩
end
section
variable {H : Type} {enc : TypeId × Value → H} {w : World} {base : Nat} {spare : Nat → Bool} {held : Bool}
theorem open_tm : ∀ (fuel : Nat) {cs : List Value} {x : DataW H × List MemPlace}, DataW.trod enc Tryz.prog w base spare held fuel 78 cs = some x → Wt Tryz.prog 78 x.1 → ∃ t, TmA w cs t := by
 intro fuel
 induction fuel using Nat.strongRecOn with
 | _ fuel ih =>
  intro cs x h hw
  obtain ⟨n, rfl, hl, hf⟩ := open_field Tryz.underlying78 h hw
  rw [cTerm] at hl
  obtain ⟨a, b, c, d, e, f, g, i, j, rfl⟩ := len9 hl
  obtain ⟨y0, h0, _⟩ := hf 0 _ 3 0 1 rfl rfl rfl cI
  obtain ⟨y1, h1, _⟩ := hf 1 _ 2 1 1 rfl rfl rfl cI64
  obtain ⟨y2, h2, _⟩ := hf 2 _ 2 2 1 rfl rfl rfl cI64
  obtain ⟨y3, h3, _⟩ := hf 3 _ 9 3 1 rfl rfl rfl cS
  obtain ⟨y4, h4, _⟩ := hf 4 _ 9 4 1 rfl rfl rfl cS
  obtain ⟨y5, h5, _⟩ := hf 5 _ 3 5 1 rfl rfl rfl cI
  obtain ⟨y6, h6, w6⟩ := hf 6 _ 22 6 1 rfl rfl rfl cTerms
  obtain ⟨y7, h7, _⟩ := hf 7 _ 9 7 1 rfl rfl rfl cS
  obtain ⟨y8, h8, _⟩ := hf 8 _ 3 8 1 rfl rfl rfl cI
  obtain ⟨n0, e0, i0⟩ := open_i64 Tryz.underlying3 h0
  obtain ⟨n1, e1, i1⟩ := open_i64 Tryz.underlying2 h1
  obtain ⟨n2, e2, i2⟩ := open_i64 Tryz.underlying2 h2
  obtain ⟨s3, e3, i3⟩ := open_str Tryz.underlying9 h3
  obtain ⟨s4, e4, i4⟩ := open_str Tryz.underlying9 h4
  obtain ⟨n5, e5, i5⟩ := open_i64 Tryz.underlying3 h5
  obtain ⟨ao, ac, l6, e6, s6, b6⟩ := open_slw (TmA w) Tryz.underlying22 cTerm (by decide) h6 w6 (fun m cs' y hm _ hy wy => ih m (by omega) hy wy)
  obtain ⟨s7, e7, i7⟩ := open_str Tryz.underlying9 h7
  obtain ⟨n8, e8, i8⟩ := open_i64 Tryz.underlying3 h8
  obtain rfl := one_eq e0
  obtain rfl := one_eq e1
  obtain rfl := one_eq e2
  obtain rfl := one_eq e3
  obtain rfl := one_eq e4
  obtain rfl := one_eq e5
  obtain rfl := one_eq e6
  obtain rfl := one_eq e7
  obtain rfl := one_eq e8
  obtain ⟨q, hq⟩ := tms_depth s6
  exact ⟨.mk n0 n1 n2 s3 s4 n5 l6 s7 n8, q + 1, ⟨ao, ac, rfl, hq⟩, i0, i1, i2, i3, i4, i5, b6, i7, i8⟩
end
set_option maxRecDepth 100000 in
/-- A unit that came in: its parts in memory, its names within the reach. -/
theorem open_unit {H : Type} {enc : TypeId × Value → H} {W : World} {base b0 : Nat} {spare : Nat → Bool} {held : Bool} {r : Reach} {v : Value} {d : DataW H} {p : List MemPlace}
  (hv : Value.okWide Tryz.prog W r b0 27 v) (h : DataW.Trod enc Tryz.prog W base spare held 27 v d p) (hw : Wt Tryz.prog 27 d) :
  ∃ (u : RUnit) (lo fo go co : Option Addr) (lc fc gc cc : Nat), v = .agg #[.string u.mdl, .int .i64 u.vsn, .slice lo u.lits.length lc, .slice fo u.funcs.length fc, .slice go u.funs.length gc, .slice co u.code.length cc] ∧ UP W u lo fo go co ∧ ∀ x ∈ u.code, x.name.size ≤ 140737488351232 := by
 obtain ⟨cs, rfl, _⟩ : ∃ cs, v = .agg cs ∧ True := by
  unfold Value.okWide at hv
  simp only [Tryz.underlying27] at hv
  obtain ⟨cs, e, _⟩ := hv
  exact ⟨cs, e, trivial⟩
 obtain ⟨fuel, hf0⟩ := h
 obtain ⟨n, rfl, hl, hf⟩ := open_field Tryz.underlying27 hf0 hw
 rw [cUnit] at hl
 have hcs : (Value.agg cs).cells.toList = cs.toList := rfl
 rw [hcs] at hl hf
 obtain ⟨a, b, c, e, f, g, hcl⟩ := len6 hl
 obtain rfl : cs = #[a, b, c, e, f, g] := Array.toList_inj.1 hcl
 obtain ⟨y0, h0, w0⟩ := hf 0 _ 9 0 1 rfl rfl rfl cS
 obtain ⟨y1, h1, _⟩ := hf 1 _ 2 1 1 rfl rfl rfl cI64
 obtain ⟨y2, h2, w2⟩ := hf 2 _ 22 2 1 rfl rfl rfl cTerms
 obtain ⟨y3, h3, w3⟩ := hf 3 _ 23 3 1 rfl rfl rfl cFuncs
 obtain ⟨y4, h4, w4⟩ := hf 4 _ 24 4 1 rfl rfl rfl cFuns
 obtain ⟨y5, h5, w5⟩ := hf 5 _ 25 5 1 rfl rfl rfl cCode
 obtain ⟨s0, e0, i0⟩ := open_str Tryz.underlying9 h0
 obtain ⟨n1, e1, i1⟩ := open_i64 Tryz.underlying2 h1
 obtain ⟨lo, lc, l2, e2, s2, b2⟩ := open_slw (TmA W) Tryz.underlying22 cTerm (by decide) h2 w2 (fun m cs' y hm _ hy wy => open_tm m hy wy)
 obtain ⟨fo, fc, l3, e3, s3, b3⟩ := open_slw FuncR Tryz.underlying23 cFunc (by decide) h3 w3 (fun m cs' y hm _ hy wy => open_func hy wy)
 obtain ⟨go, gc, l4, e4, s4, b4⟩ := open_slw FunR Tryz.underlying24 cFun (by decide) h4 w4 (fun m cs' y hm _ hy wy => open_fun hy wy)
 obtain ⟨co, cc, l5, e5, s5, b5⟩ := open_slw (InsN W) Tryz.underlying25 cIns (by decide) h5 w5 (fun m cs' y hm _ hy wy => open_ins hy wy)
 obtain rfl := one_eq e0
 obtain rfl := one_eq e1
 obtain rfl := one_eq e2
 obtain rfl := one_eq e3
 obtain rfl := one_eq e4
 obtain rfl := one_eq e5
 refine ⟨⟨s0, n1, l2, l3, l4, l5⟩, lo, fo, go, co, lc, fc, gc, cc, rfl, ⟨s2, s3, s4, s5.imp fun _ _ h => h.1, i0, i1, b2, b3, b4, b5⟩, fun x hx => ?_⟩
 obtain ⟨j, hj, rfl⟩ := List.getElem_of_mem hx
 obtain ⟨_, _, _, _, hr⟩ := s5.row hj
 obtain ⟨_, _, _, hr2⟩ := hr j hj
 exact hr2.2
end Go.Proofs.YtghgbikmlbildaaGreatDoor
namespace Go.Proofs.YtghgbikmlbildaaGreatDoor.codeRounds
open Go.ChangeShapes Go.WideShapes Go.ChangeAt Go.RowKit
open Go.ChangeMaps (open_string shut_string)
open Go.Proofs.YtghgbikmlbildaaGreatDoor
set_option linter.unusedVariables false
set_option linter.unusedSimpArgs false

theorem own : ownKnob Tryz.prog.godebug = none := by kernel_rfl
theorem laidOut : laidOutB Tryz.prog = true := by kernel_rfl

theorem laid_met (os : Os) : laidMet Tryz.prog Rows.codeRoundsRow.laid ((laidWorld os).forCall (fun _ _ => 0) ⟨#[], #[.agg #[.string ByteArray.empty, .int .i64 0, .slice none 0 0, .slice none 0 0, .slice none 0 0, .slice none 0 0], .int .i64 0, .int .u8 0], []⟩).memory :=
 laidMet_of_run3 8 (by kernel_rfl) (by kernel_rfl) (by kernel_rfl)
theorem reads (os : Os) {H : Type} (enc : TypeId × Value → H) : ∃ ds places, DataW.whole enc Tryz.prog ((laidWorld os).forCall (fun _ _ => 0) ⟨#[], #[.agg #[.string ByteArray.empty, .int .i64 0, .slice none 0 0, .slice none 0 0, .slice none 0 0, .slice none 0 0], .int .i64 0, .int .u8 0], []⟩).memory Tryz.f6.params.toList Rows.codeRoundsSpec.vars false (#[.agg #[.string ByteArray.empty, .int .i64 0, .slice none 0 0, .slice none 0 0, .slice none 0 0, .slice none 0 0], .int .i64 0, .int .u8 0] : Array Value).toList 8 = some (ds, [], places) :=
 ⟨[.agg [.lit (.string []), .lit (.int .i64 0), .nil, .nil, .nil, .nil], .lit (.int .i64 0), .lit (.int .u8 0)], [], by kernel_rfl⟩

set_option maxRecDepth 100000 in
theorem lifted (os : Os) (started : os.Started) (H : Type) (enc : TypeId × Value → H) (F : Stop.Interp) :
  ReturnsInHanded {} Tryz.checked os 6 .any ((OpenSpec.ofChange Rows.codeRoundsSpec).preRow enc Tryz.prog Tryz.f6 Rows.codeRoundsRow.domain false Rows.codeRoundsRow.laid) (((OpenSpec.ofChange Rows.codeRoundsSpec).at F).post enc Tryz.prog Tryz.f6 false true false false) := by
 obtain ⟨ds0, places, hx⟩ := reads os enc
 refine returnsInHanded_of_row (C := Tryz.checked) (s := OpenSpec.ofChange Rows.codeRoundsSpec) own started (by kernel_rfl) Tryz.func6
  (witness_row_atRef (enc := enc) (C := Tryz.checked) false (laidWorld os) #[.agg #[.string ByteArray.empty, .int .i64 0, .slice none 0 0, .slice none 0 0, .slice none 0 0, .slice none 0 0], .int .i64 0, .int .u8 0] rfl (by kernel_rfl) (by kernel_rfl) (by kernel_rfl)
   (OpenSpec.preRow_of_cond 8 hx (by kernel_rfl) (fun k hk => by cases hk) (by kernel_rfl) (laid_met os))) ?_
 intro W base args ds gs before hval0 hW _ _ hsz hL _ _
 have hval : ∀ (j : Nat) t v, Tryz.f6.params[j]? = some t → args[j]? = some v → Value.okWide Tryz.prog W .any base t v := hval0
 have hW' := hW
 obtain ⟨p, q, hA0, hV, rfl, hfz, hnd⟩ := hW
 have hA : DataW.TrodAll enc Tryz.prog W 0 (fun _ => true) true Tryz.f6.params.toList args.toList ds p := hA0
 rw [Tryz.params6] at hA hval hsz
 obtain ⟨v0, vs0, d0, ds0, p0, q0, hargs, rfl, rfl, h0, r0⟩ := trodAll_cons hA
 obtain ⟨v1, vs1, d1, ds1, p1, q1, rfl, rfl, rfl, h1, r1⟩ := trodAll_cons r0
 obtain ⟨v2, vs2, d2, ds2, p2, q2, rfl, rfl, rfl, h2, r2⟩ := trodAll_cons r1
 obtain ⟨rfl, rfl, rfl⟩ := trodAll_nil r2
 obtain rfl : args = #[v0, v1, v2] := by cases args; simp_all
 obtain ⟨rfl, rfl⟩ := trodVars_none hV
 have k0 := h0
 have k1 := h1
 have k2 := h2
 obtain ⟨u0, lo0, fo0, go0, co0, lc0, fc0, gc0, cc0, rfl, hup0, hnm0⟩ := open_unit (hval 0 27 v0 rfl rfl) h0 (wt_each _ _ hsz 0 _ _ rfl rfl)
 obtain ⟨a1, rfl, rfl, rfl, w1⟩ := open_int Tryz.underlying3 (hval 1 3 v1 rfl rfl) h1
 obtain ⟨a2, rfl, rfl, rfl, w2⟩ := open_int Tryz.underlying5 (hval 2 5 v2 rfl rfl) h2
 obtain ⟨c2, rfl⟩ : ∃ c : UInt8, a2 = (c.toNat : Int) := ⟨UInt8.ofNat a2.toNat, by have := bounds_u8 w2; rw [UInt8.toNat_ofNat']; omega⟩
 clear hA0 hval0
 simp only [List.append_nil, List.nil_append] at hW'
 refine (rounds_walk u0 lo0 fo0 go0 co0 lc0 fc0 gc0 cc0 a1 c2 W hup0 (rows_at hL (.tail _ (.tail _ (.head _)))) (space_at hL) hnm0 (bounds_i64 w1)).mono fun e W' ⟨he, bel⟩ => ?_
 subst he
 exact ⟨_, rfl, _, _, _, [], _, [], hW', trodAll_mk1 (shut_bool Tryz.underlying4 _), (trodAll_cons_mk (Below.trod laidOut (by kernel_rfl) (of_decide_eq_true (by kernel_rfl)) k0 bel (fun x hx => by first | exact absurd hx List.not_mem_nil | simpa using hW'.lt x (by simp [hx]))) (trodAll_cons_mk (Below.trod laidOut (by kernel_rfl) (of_decide_eq_true (by kernel_rfl)) k1 bel (fun x hx => by first | exact absurd hx List.not_mem_nil | simpa using hW'.lt x (by simp [hx]))) (trodAll_cons_mk (Below.trod laidOut (by kernel_rfl) (of_decide_eq_true (by kernel_rfl)) k2 bel (fun x hx => by first | exact absurd hx List.not_mem_nil | simpa using hW'.lt x (by simp [hx]))) trodAll_mk0))), rfl, bel.frame _, fun h => by cases h⟩

theorem said : Rows.CodeRoundsSaid :=
 OpenClaim.holds_of_cond 6 Tryz.f6 rfl rfl rfl rfl rfl rfl rfl ⟨rfl, rfl, rfl, rfl, rfl⟩ rfl rfl rfl rfl rfl (by kernel_rfl) Tryz.func6 (by kernel_rfl)
  (of_decide_eq_true (by kernel_rfl)) (by unfold Func.isWrapper; first | (rw [if_pos (by decide +kernel)]; kernel_rfl) | (rw [if_neg (by decide +kernel)]; exact ⟨rfl, rfl⟩))
  (fun os started H enc _ F => by rw [OpenClaim.pre_eq_preRow]; exact lifted os started H enc F)

/-- No parameter wants a stand-in; the program's own looks are off: what the card asks. -/
theorem plain (f : FuncId) (fn : Func) (hf : Tryz.pinned.checked.prog.funcNamed "stagehand/stagehandlaw16.CodeRounds" = some f) (hfn : Tryz.pinned.checked.prog.funcs[f]? = some fn) :
  true = Tryz.pinned.checked.prog.looks [] ∧ ∀ (j : Nat) t, fn.params[j]? = some t → Tryz.pinned.checked.prog.wantsStandIn t = false := by
 obtain rfl : f = 6 := Option.some.inj ((show Tryz.prog.funcNamed "stagehand/stagehandlaw16.CodeRounds" = some 6 by kernel_rfl).symm.trans hf) |>.symm
 obtain rfl : fn = Tryz.f6 := (Option.some.inj (Tryz.func6.symm.trans hfn)).symm
 refine ⟨by kernel_rfl, fun j t ht => ?_⟩
 rw [Tryz.params6] at ht
 have hm := Array.mem_of_getElem? ht
 have hc : t = 27 ∨ t = 3 ∨ t = 5 := by simpa using hm
 rcases hc with rfl | rfl | rfl
 ·exact (show Tryz.prog.wantsStandIn 27 = false by kernel_rfl)
 ·exact (show Tryz.prog.wantsStandIn 3 = false by kernel_rfl)
 ·exact (show Tryz.prog.wantsStandIn 5 = false by kernel_rfl)

theorem proved : Rows.CodeRoundsCardSaid :=
 Claim7.holds_tied_plain_at .later [] _ _ _ _ said (fun _ h => by cases h) (by kernel_rfl) (fun _ h => by cases h) codeRounds_row_tie rfl ⟨rfl, rfl⟩ (by kernel_rfl) rfl plain (by kernel_rfl)
#print axioms proved
end Go.Proofs.YtghgbikmlbildaaGreatDoor.codeRounds
