/-
  terms.Same, terms.alike: the walks (printed by gen_same.py). What the closures of terms.kinds leave, in one form (printed by gen_of1.py).
-/
import Derived.Deep.RegionHeld3
import Derived.Test.YtghgbikmlbildaaGreatDoorRoundsAll01
import Derived.Test.YtghgbikmlbildaaGreatDoorRoundsAll04
namespace Go.Proofs.YtghgbikmlbildaaGreatDoor
open Go.RowKit
set_option linter.unusedVariables false
set_option linter.unusedSimpArgs false

def sameL (rec : Tm → Tm → Bool) : List Tm → List Tm → Bool
 | [], [] => true
 | x :: l, y :: m => rec x y && sameL rec l m
 | _, _ => false
def flatB (a b : Tm) : Bool := (a.kind == b.kind) && ((a.int == b.int) && ((a.gen == b.gen) && ((a.name.toList == b.name.toList) && ((a.func.toList == b.func.toList) && ((a.arity == b.arity) && ((a.bytes.toList == b.bytes.toList) && (a.bits == b.bits)))))))
def sameF : Nat → Tm → Tm → Bool
 | 0, _, _ => false
 | f + 1, a, b => flatB a b && sameL (sameF f) a.items b.items
theorem sameL_len {rec : Tm → Tm → Bool} : ∀ {l m : List Tm}, l.length ≠ m.length → sameL rec l m = false
 | [], [], h => absurd rfl h
 | _ :: l, _ :: m, h => by
  unfold sameL
  rw [sameL_len (l := l) (m := m) (by simpa using h)]
  exact Bool.and_false _
 | [], _ :: _, _ => rfl
 | _ :: _, [], _ => rfl
theorem sameL_step {rec : Tm → Tm → Bool} {l m : List Tm} {k : Nat} (h : k < l.length) (h' : k < m.length) : sameL rec (l.drop k) (m.drop k) = (rec l[k] m[k] && sameL rec (l.drop (k + 1)) (m.drop (k + 1))) := by
 rw [List.drop_eq_getElem_cons h, List.drop_eq_getElem_cons h', sameL]
theorem sameL_end {rec : Tm → Tm → Bool} {l m : List Tm} {k : Nat} (h : l.length ≤ k) (h' : m.length ≤ k) : sameL rec (l.drop k) (m.drop k) = true := by
 rw [List.drop_eq_nil_of_le h, List.drop_eq_nil_of_le h', sameL]

/-- terms.alike on lists of terms of a depth. -/
def AlikeP (f : Nat) : Prop := ∀ (ao bo : Option Addr) (c d : Nat) (l m : List Tm) (w : World), SlAt w 9 (TmAt w f) ao l → SlAt w 9 (TmAt w f) bo m → l.length ≤ maxLen → m.length ≤ maxLen →
 Calls Tryz.prog 248 #[.slice ao l.length c, .slice bo m.length d, .func (.func 231) #[] #[]] w fun e w' => e = .returned (.bool (sameL (sameF f) l m)) ∧ Below w.heap.size w w'
/-- terms.Same on terms whose items are of a depth. -/
def SameP (f : Nat) : Prop := ∀ (a b : Tm) (ao bo : Option Addr) (c d : Nat) (w : World), SlAt w 9 (TmAt w f) ao a.items → SlAt w 9 (TmAt w f) bo b.items → a.items.length ≤ maxLen → b.items.length ≤ maxLen →
 Calls Tryz.prog 231 #[.agg #[.int .i64 a.kind, .int .i64 a.int, .int .i64 a.gen, .string a.name, .string a.func, .int .i64 a.arity, .slice ao a.items.length c, .string a.bytes, .int .i64 a.bits],
   .agg #[.int .i64 b.kind, .int .i64 b.int, .int .i64 b.gen, .string b.name, .string b.func, .int .i64 b.arity, .slice bo b.items.length d, .string b.bytes, .int .i64 b.bits]] w fun e w' => e = .returned (.bool (sameF (f + 1) a b)) ∧ Below w.heap.size w w'

set_option maxRecDepth 100000 in
set_option maxHeartbeats 8000000 in
theorem same_of {f : Nat} (HP : Hid (AlikeP f)) : SameP f := by
 intro a b ao bo c d w ha hb hla hlb
 have hA : ∀ wx, Below w.heap.size w wx → Calls Tryz.prog 248 #[.slice ao a.items.length c, .slice bo b.items.length d, .func (.func 231) #[] #[]] wx fun e w' => e = .returned (.bool (sameL (sameF f) a.items b.items)) ∧ Below w.heap.size w w' :=
  fun wx hx => (HP.out ao bo c d a.items b.items wx (ha.tms hx) (hb.tms hx) hla hlb).mono fun _ _ ⟨h1, h2⟩ => ⟨h1, below_next hx h2⟩
 have E0 : Hid (sameF (f + 1) a b = (flatB a b && sameL (sameF f) a.items b.items)) := Lib.hid rfl
 unfold flatB at E0
 clear ha hb hla hlb
 generalize sameL (sameF f) a.items b.items = sl at *
 generalize sameF (f + 1) a b = r at *
 obtain ⟨ak, ai, ag, an, af, aa, al, ay, az⟩ := a
 obtain ⟨bk, bi, bg, bn, bf, ba, bl, by', bz⟩ := b
 simp only [Tm.kind, Tm.int, Tm.gen, Tm.name, Tm.func, Tm.arity, Tm.items, Tm.bytes, Tm.bits] at *
 have hbe : Below w.heap.size w ((w.alloc (.cells #[.int .i64 ak, .int .i64 ai, .int .i64 ag, .string an, .string af, .int .i64 aa, .slice ao al.length c, .string ay, .int .i64 az] 78)).alloc (.cells #[.int .i64 bk, .int .i64 bi, .int .i64 bg, .string bn, .string bf, .int .i64 ba, .slice bo bl.length d, .string by', .int .i64 bz] 78)) := two_below _ _ _
 have HA := hA _ hbe
 have HBE := Lib.hid hbe
 clear hA hbe
 cases t0 : (ak == bk) with
 | false =>
  simp only [t0] at E0
  simp only [Bool.true_and, Bool.false_and, Bool.and_true, Bool.and_false] at E0
  go_enter Tryz.func231, Tryz.ntmps231
  go_wp2_with fail
  go_ret
  exact ⟨retb E0.out.symm, HBE.out⟩
 | true =>
  simp only [t0] at E0
  cases t1 : (ai == bi) with
  | false =>
   simp only [t1] at E0
   simp only [Bool.true_and, Bool.false_and, Bool.and_true, Bool.and_false] at E0
   go_enter Tryz.func231, Tryz.ntmps231
   go_wp2_with fail
   go_ret
   exact ⟨retb E0.out.symm, HBE.out⟩
  | true =>
   simp only [t1] at E0
   cases t2 : (ag == bg) with
   | false =>
    simp only [t2] at E0
    simp only [Bool.true_and, Bool.false_and, Bool.and_true, Bool.and_false] at E0
    go_enter Tryz.func231, Tryz.ntmps231
    go_wp2_with fail
    go_ret
    exact ⟨retb E0.out.symm, HBE.out⟩
   | true =>
    simp only [t2] at E0
    cases t3 : (an.toList == bn.toList) with
    | false =>
     simp only [t3] at E0
     simp only [Bool.true_and, Bool.false_and, Bool.and_true, Bool.and_false] at E0
     go_enter Tryz.func231, Tryz.ntmps231
     go_wp2_with fail
     go_ret
     exact ⟨retb E0.out.symm, HBE.out⟩
    | true =>
     simp only [t3] at E0
     cases t4 : (af.toList == bf.toList) with
     | false =>
      simp only [t4] at E0
      simp only [Bool.true_and, Bool.false_and, Bool.and_true, Bool.and_false] at E0
      go_enter Tryz.func231, Tryz.ntmps231
      go_wp2_with fail
      go_ret
      exact ⟨retb E0.out.symm, HBE.out⟩
     | true =>
      simp only [t4] at E0
      cases t5 : (aa == ba) with
      | false =>
       simp only [t5] at E0
       simp only [Bool.true_and, Bool.false_and, Bool.and_true, Bool.and_false] at E0
       go_enter Tryz.func231, Tryz.ntmps231
       go_wp2_with fail
       go_ret
       exact ⟨retb E0.out.symm, HBE.out⟩
      | true =>
       simp only [t5] at E0
       cases t6 : (ay.toList == by'.toList) with
       | false =>
        simp only [t6] at E0
        simp only [Bool.true_and, Bool.false_and, Bool.and_true, Bool.and_false] at E0
        go_enter Tryz.func231, Tryz.ntmps231
        go_wp2_with fail
        go_ret
        exact ⟨retb E0.out.symm, HBE.out⟩
       | true =>
        simp only [t6] at E0
        cases t7 : (az == bz) with
        | false =>
         simp only [t7] at E0
         simp only [Bool.true_and, Bool.false_and, Bool.and_true, Bool.and_false] at E0
         go_enter Tryz.func231, Tryz.ntmps231
         go_wp2_with fail
         go_ret
         exact ⟨retb E0.out.symm, HBE.out⟩
        | true =>
         simp only [t7] at E0
         simp only [Bool.true_and, Bool.false_and, Bool.and_true, Bool.and_false] at E0
         go_enter Tryz.func231, Tryz.ntmps231
         go_wp2_with fail
         refine HA.mono ?_
         rintro e w5 ⟨rfl, hb5⟩
         go_wp2_with fail
         go_ret
         exact ⟨retb E0.out.symm, hb5⟩

set_option maxRecDepth 100000 in
set_option maxHeartbeats 8000000 in
theorem alike_zero : AlikeP 0 := by
 intro ao bo c d l m w ha hb hla hlb
 obtain rfl := ha.zero
 obtain rfl := hb.zero
 go_enter Tryz.func248, Tryz.ntmps248
 go_wp2_with fail
 go_loop [16] (fun i => i = .int .i64 0) (fun _ => 0)
 case atStart => rfl
 case round =>
  obtain rfl := hrel
  go_wp2_with fail
  go_ret
  exact ⟨rfl, Below.refl _ _⟩
set_option maxRecDepth 100000 in
set_option maxHeartbeats 8000000 in
theorem alike_succ {f : Nat} (HQ : Hid (SameP f)) : AlikeP (f + 1) := by
 intro ao bo c d l m w ha hb hla hlb
 unfold maxLen at hla hlb
 by_cases hlm : l.length = m.length
 ·have HA := Lib.hid ha; have HB := Lib.hid hb
  have HLM := Lib.hid hlm
  have hlmb : ((l.length : Int) != (m.length : Int)) = false := by rw [hlm]; simp
  have HS : Hid (sameL (sameF (f + 1)) l m = sameL (sameF (f + 1)) (l.drop 0) (m.drop 0)) := Lib.hid rfl
  clear ha hb hlm
  go_enter Tryz.func248, Tryz.ntmps248
  go_wp2_with fail
  go_loopw [7, 8, 16] (fun _ _ i wr => ∃ k : Nat, k ≤ l.length ∧ i = .int .i64 k ∧ Hid (sameL (sameF (f + 1)) l m = sameL (sameF (f + 1)) (l.drop k) (m.drop k)) ∧ Below w.heap.size w wr) (fun _ _ i _ => l.length - (intOf i).toNat)
  case atStart => exact ⟨0, Nat.zero_le _, rfl, HS, Below.refl _ _⟩
  case round =>
   obtain ⟨k, hk, rfl, HK, hBw⟩ := hrel
   rename World => wr
   by_cases hlt : k < l.length
   ·have hlt' : k < m.length := by have := HLM.out; omega
    have hsa := HA.out.tms hBw
    have hsb := HB.out.tms hBw
    obtain ⟨b1, off1, ai, ci, hao, hb1, q0, q1, q2, q3, q4, q5, q6, q7, q8, hit, hok⟩ := hsa.tm hlt
    obtain ⟨b2, off2, bi, di, hbo, hb2, p0, p1, p2, p3, p4, p5, p6, p7, p8, hit2, hok2⟩ := hsb.tm hlt'
    subst hao; subst hbo
    have HST := Lib.hid (sameL_step (rec := sameF (f + 1)) hlt hlt')
    have hbx : Below wr.heap.size wr (wr.alloc (.cells #[.int .i64 l[k].kind, .int .i64 l[k].int, .int .i64 l[k].gen, .string l[k].name, .string l[k].func, .int .i64 l[k].arity, .slice ai l[k].items.length ci, .string l[k].bytes, .int .i64 l[k].bits] 78)) := (Below.refl _ _).alloc (Nat.le_refl _) _
    have hSM := HQ.out l[k] m[k] ai bi ci di (wr.alloc (.cells #[.int .i64 l[k].kind, .int .i64 l[k].int, .int .i64 l[k].gen, .string l[k].name, .string l[k].func, .int .i64 l[k].arity, .slice ai l[k].items.length ci, .string l[k].bytes, .int .i64 l[k].bits] 78)).drew (hit.tms hbx.drew) (hit2.tms hbx.drew) hok.2.2.2.2.2.2.1 hok2.2.2.2.2.2.2.1
    have HBX := Lib.hid (hBw.trans (hbx.mono hBw.size))
    have hbs : w.heap.size ≤ (wr.alloc (.cells #[.int .i64 l[k].kind, .int .i64 l[k].int, .int .i64 l[k].gen, .string l[k].name, .string l[k].func, .int .i64 l[k].arity, .slice ai l[k].items.length ci, .string l[k].bytes, .int .i64 l[k].bits] 78)).heap.size := HBX.out.size
    have hca := heap_alloc_new wr (.cells #[.int .i64 l[k].kind, .int .i64 l[k].int, .int .i64 l[k].gen, .string l[k].name, .string l[k].func, .int .i64 l[k].arity, .slice ai l[k].items.length ci, .string l[k].bytes, .int .i64 l[k].bits] 78)
    have hb2' : b2 < (wr.alloc (.cells #[.int .i64 l[k].kind, .int .i64 l[k].int, .int .i64 l[k].gen, .string l[k].name, .string l[k].func, .int .i64 l[k].arity, .slice ai l[k].items.length ci, .string l[k].bytes, .int .i64 l[k].bits] 78)).heap.size := Nat.lt_of_lt_of_le hb2 hbx.size
    have p0' := (hbx.cell (p := ⟨b2, off2 + k * 9, none⟩) hb2).trans p0
    have p1' := (hbx.cell (p := ⟨b2, off2 + k * 9 + 1, none⟩) hb2).trans p1
    have p2' := (hbx.cell (p := ⟨b2, off2 + k * 9 + 2, none⟩) hb2).trans p2
    have p3' := (hbx.cell (p := ⟨b2, off2 + k * 9 + 3, none⟩) hb2).trans p3
    have p4' := (hbx.cell (p := ⟨b2, off2 + k * 9 + 4, none⟩) hb2).trans p4
    have p5' := (hbx.cell (p := ⟨b2, off2 + k * 9 + 5, none⟩) hb2).trans p5
    have p6' := (hbx.cell (p := ⟨b2, off2 + k * 9 + 6, none⟩) hb2).trans p6
    have p7' := (hbx.cell (p := ⟨b2, off2 + k * 9 + 7, none⟩) hb2).trans p7
    have p8' := (hbx.cell (p := ⟨b2, off2 + k * 9 + 8, none⟩) hb2).trans p8
    clear hit hit2 hok hok2 hsa hsb hbx
    generalize l[k] = x at *
    generalize m[k] = y at *
    cases hr : sameF (f + 1) x y with
    | true =>
     have HK2 : Hid (sameL (sameF (f + 1)) l m = sameL (sameF (f + 1)) (l.drop (k + 1)) (m.drop (k + 1))) := Lib.hid (by rw [HK.out, HST.out, hr, Bool.true_and])
     rw [hr] at hSM
     clear hr
     have HBS := Lib.hid hbs; clear hbs
     go_wp2_with fail
     generalize (wr.alloc (.cells #[.int .i64 x.kind, .int .i64 x.int, .int .i64 x.gen, .string x.name, .string x.func, .int .i64 x.arity, .slice ai x.items.length ci, .string x.bytes, .int .i64 x.bits] 78)) = wa at *
     generalize wr.heap.size = C at *
     obtain ⟨q0', q1', q2', q3', q4', q5', q6', q7', q8', z1⟩ := term_cells hca
     have hCs := lt_of_row hca
     have HCA := Lib.hid hca; clear hca z1 q0 q1 q2 q3 q4 q5 q6 q7 q8 p0 p1 p2 p3 p4 p5 p6 p7 p8
     first | go_region_held3 (fun w' => ((w'.cell? ⟨C, 0, none⟩ = some (.int .i64 x.kind) ∧ w'.cell? ⟨C, 1, none⟩ = some (.int .i64 x.int) ∧ w'.cell? ⟨C, 2, none⟩ = some (.int .i64 x.gen) ∧ w'.cell? ⟨C, 3, none⟩ = some (.string x.name) ∧ w'.cell? ⟨C, 4, none⟩ = some (.string x.func) ∧ w'.cell? ⟨C, 5, none⟩ = some (.int .i64 x.arity) ∧ w'.cell? ⟨C, 6, none⟩ = some (.slice ai x.items.length ci) ∧ w'.cell? ⟨C, 7, none⟩ = some (.string x.bytes) ∧ w'.cell? ⟨C, 8, none⟩ = some (.int .i64 x.bits)) ∧ (w'.cell? ⟨b2, off2 + k * 9, none⟩ = some (.int .i64 y.kind) ∧ w'.cell? ⟨b2, off2 + k * 9 + 1, none⟩ = some (.int .i64 y.int) ∧ w'.cell? ⟨b2, off2 + k * 9 + 2, none⟩ = some (.int .i64 y.gen) ∧ w'.cell? ⟨b2, off2 + k * 9 + 3, none⟩ = some (.string y.name) ∧ w'.cell? ⟨b2, off2 + k * 9 + 4, none⟩ = some (.string y.func) ∧ w'.cell? ⟨b2, off2 + k * 9 + 5, none⟩ = some (.int .i64 y.arity) ∧ w'.cell? ⟨b2, off2 + k * 9 + 6, none⟩ = some (.slice bi y.items.length di) ∧ w'.cell? ⟨b2, off2 + k * 9 + 7, none⟩ = some (.string y.bytes) ∧ w'.cell? ⟨b2, off2 + k * 9 + 8, none⟩ = some (.int .i64 y.bits)))) (((repeat' apply And.intro) <;> assumption)) ((go_at_call 231; refine hSM.mono ?_; rintro e w5 ⟨rfl, hb5⟩; obtain ⟨r0, r1, r2, r3, r4, r5, r6, r7, r8, _⟩ := term_cells ((hb5.block C hCs).trans HCA.out); have s0 := (hb5.cell (p := ⟨b2, off2 + k * 9, none⟩) hb2').trans p0'; have s1 := (hb5.cell (p := ⟨b2, off2 + k * 9 + 1, none⟩) hb2').trans p1'; have s2 := (hb5.cell (p := ⟨b2, off2 + k * 9 + 2, none⟩) hb2').trans p2'; have s3 := (hb5.cell (p := ⟨b2, off2 + k * 9 + 3, none⟩) hb2').trans p3'; have s4 := (hb5.cell (p := ⟨b2, off2 + k * 9 + 4, none⟩) hb2').trans p4'; have s5 := (hb5.cell (p := ⟨b2, off2 + k * 9 + 5, none⟩) hb2').trans p5'; have s6 := (hb5.cell (p := ⟨b2, off2 + k * 9 + 6, none⟩) hb2').trans p6'; have s7 := (hb5.cell (p := ⟨b2, off2 + k * 9 + 7, none⟩) hb2').trans p7'; have s8 := (hb5.cell (p := ⟨b2, off2 + k * 9 + 8, none⟩) hb2').trans p8')) | fail
     go_wp2_with fail
     go_roundw
     case rel => exact ⟨k + 1, by omega, by go_num, HK2, HBX.out.drew.trans (hb5.mono HBS.out)⟩
     case measure => simp [intOf]; omega
    | false =>
     have E : Hid (sameL (sameF (f + 1)) l m = false) := Lib.hid (by rw [HK.out, HST.out, hr, Bool.false_and])
     rw [hr] at hSM
     clear hr
     have HBS := Lib.hid hbs; clear hbs
     go_wp2_with fail
     generalize (wr.alloc (.cells #[.int .i64 x.kind, .int .i64 x.int, .int .i64 x.gen, .string x.name, .string x.func, .int .i64 x.arity, .slice ai x.items.length ci, .string x.bytes, .int .i64 x.bits] 78)) = wa at *
     generalize wr.heap.size = C at *
     obtain ⟨q0', q1', q2', q3', q4', q5', q6', q7', q8', z1⟩ := term_cells hca
     have hCs := lt_of_row hca
     have HCA := Lib.hid hca; clear hca z1 q0 q1 q2 q3 q4 q5 q6 q7 q8 p0 p1 p2 p3 p4 p5 p6 p7 p8
     first | go_region_held3 (fun w' => ((w'.cell? ⟨C, 0, none⟩ = some (.int .i64 x.kind) ∧ w'.cell? ⟨C, 1, none⟩ = some (.int .i64 x.int) ∧ w'.cell? ⟨C, 2, none⟩ = some (.int .i64 x.gen) ∧ w'.cell? ⟨C, 3, none⟩ = some (.string x.name) ∧ w'.cell? ⟨C, 4, none⟩ = some (.string x.func) ∧ w'.cell? ⟨C, 5, none⟩ = some (.int .i64 x.arity) ∧ w'.cell? ⟨C, 6, none⟩ = some (.slice ai x.items.length ci) ∧ w'.cell? ⟨C, 7, none⟩ = some (.string x.bytes) ∧ w'.cell? ⟨C, 8, none⟩ = some (.int .i64 x.bits)) ∧ (w'.cell? ⟨b2, off2 + k * 9, none⟩ = some (.int .i64 y.kind) ∧ w'.cell? ⟨b2, off2 + k * 9 + 1, none⟩ = some (.int .i64 y.int) ∧ w'.cell? ⟨b2, off2 + k * 9 + 2, none⟩ = some (.int .i64 y.gen) ∧ w'.cell? ⟨b2, off2 + k * 9 + 3, none⟩ = some (.string y.name) ∧ w'.cell? ⟨b2, off2 + k * 9 + 4, none⟩ = some (.string y.func) ∧ w'.cell? ⟨b2, off2 + k * 9 + 5, none⟩ = some (.int .i64 y.arity) ∧ w'.cell? ⟨b2, off2 + k * 9 + 6, none⟩ = some (.slice bi y.items.length di) ∧ w'.cell? ⟨b2, off2 + k * 9 + 7, none⟩ = some (.string y.bytes) ∧ w'.cell? ⟨b2, off2 + k * 9 + 8, none⟩ = some (.int .i64 y.bits)))) (((repeat' apply And.intro) <;> assumption)) ((go_at_call 231; refine hSM.mono ?_; rintro e w5 ⟨rfl, hb5⟩; obtain ⟨r0, r1, r2, r3, r4, r5, r6, r7, r8, _⟩ := term_cells ((hb5.block C hCs).trans HCA.out); have s0 := (hb5.cell (p := ⟨b2, off2 + k * 9, none⟩) hb2').trans p0'; have s1 := (hb5.cell (p := ⟨b2, off2 + k * 9 + 1, none⟩) hb2').trans p1'; have s2 := (hb5.cell (p := ⟨b2, off2 + k * 9 + 2, none⟩) hb2').trans p2'; have s3 := (hb5.cell (p := ⟨b2, off2 + k * 9 + 3, none⟩) hb2').trans p3'; have s4 := (hb5.cell (p := ⟨b2, off2 + k * 9 + 4, none⟩) hb2').trans p4'; have s5 := (hb5.cell (p := ⟨b2, off2 + k * 9 + 5, none⟩) hb2').trans p5'; have s6 := (hb5.cell (p := ⟨b2, off2 + k * 9 + 6, none⟩) hb2').trans p6'; have s7 := (hb5.cell (p := ⟨b2, off2 + k * 9 + 7, none⟩) hb2').trans p7'; have s8 := (hb5.cell (p := ⟨b2, off2 + k * 9 + 8, none⟩) hb2').trans p8')) | fail
     go_wp2_with fail
     go_ret
     exact ⟨retb E.out.symm, HBX.out.drew.trans (hb5.mono HBS.out)⟩
   ·have E : Hid (sameL (sameF (f + 1)) l m = true) := Lib.hid (by rw [HK.out]; exact sameL_end (by omega) (by have := HLM.out; omega))
    go_wp2_with fail
    go_ret
    exact ⟨retb E.out.symm, hBw⟩
 ·have hlmb : ((l.length : Int) != (m.length : Int)) = true := by rw [bne_iff_ne]; omega
  have E : Hid (sameL (sameF (f + 1)) l m = false) := Lib.hid (sameL_len hlm)
  clear ha hb hlm
  go_enter Tryz.func248, Tryz.ntmps248
  go_wp2_with fail
  go_ret
  exact ⟨retb E.out.symm, Below.refl _ _⟩
theorem alike_all : ∀ f, AlikeP f
 | 0 => alike_zero
 | f + 1 => alike_succ (Lib.hid (same_of (Lib.hid (alike_all f))))
theorem same_any (f : Nat) : SameP f := same_of (Lib.hid (alike_all f))
end Go.Proofs.YtghgbikmlbildaaGreatDoor
namespace Go.Proofs.YtghgbikmlbildaaGreatDoor
open Go.RowKit
set_option linter.unusedVariables false
set_option linter.unusedSimpArgs false

/-- A term without the fields that its kind uses. -/
def leftT (t : Tm) : Tm :=
 if t.kind = 1 then .mk t.kind 0 t.gen t.name t.func t.arity t.items t.bytes t.bits else if t.kind = 2 then .mk t.kind t.int t.gen ⟨#[]⟩ t.func t.arity t.items t.bytes t.bits else if t.kind = 3 then .mk t.kind 0 0 ⟨#[]⟩ t.func t.arity t.items t.bytes t.bits else if t.kind = 4 then .mk t.kind 0 0 ⟨#[]⟩ t.func 0 [] t.bytes t.bits else if t.kind = 5 then .mk t.kind t.int t.gen ⟨#[]⟩ ⟨#[]⟩ 0 t.items t.bytes t.bits else if t.kind = 6 then .mk t.kind 0 0 ⟨#[]⟩ t.func t.arity t.items t.bytes t.bits else if t.kind = 7 then .mk t.kind t.int t.gen t.name t.func t.arity [] t.bytes t.bits else if t.kind = 8 then .mk t.kind t.int t.gen t.name t.func t.arity t.items t.bytes t.bits else if t.kind = 9 then .mk t.kind t.int t.gen t.name t.func t.arity [] t.bytes t.bits else if t.kind = 10 then .mk t.kind t.int t.gen t.name t.func t.arity t.items ⟨#[]⟩ 0 else t
def zeroTm : Tm := .mk 0 0 0 ⟨#[]⟩ ⟨#[]⟩ 0 [] ⟨#[]⟩ 0
/-- The same with the kind 0. -/
def left0 (t : Tm) : Tm := .mk 0 (leftT t).int (leftT t).gen (leftT t).name (leftT t).func (leftT t).arity (leftT t).items (leftT t).bytes (leftT t).bits
theorem zS_is (s : ByteArray) : (s.toList == (ByteArray.mk #[]).toList) = zS s := by
 unfold zS
 rw [ByteArray.toList_eq, ByteArray.toList_eq]
 rw [Bool.eq_iff_iff, beq_iff_eq, decide_eq_true_eq]
 constructor
 ·intro h
  have h2 : s.data.toList.length = 0 := congrArg List.length h
  rw [Array.length_toList] at h2; exact h2
 ·intro h
  have : s.data.size = 0 := h
  have : s.data = #[] := Array.eq_empty_of_size_eq_zero this
  rw [this]
theorem zI_is (n : Int) : (n == 0) = zI n := by unfold zI; rw [Bool.eq_iff_iff, beq_iff_eq, decide_eq_true_eq]
theorem zL_is (rec : Tm → Tm → Bool) (l : List Tm) : sameL rec l [] = zL l := by cases l <;> rfl
theorem zS_nil : zS (ByteArray.mk #[]) = true := rfl
theorem zI_nil : zI 0 = true := rfl
theorem zL_nil : zL [] = true := rfl
theorem same_zero (f : Nat) (a : Tm) : sameF (f + 1) a zeroTm = (zI a.kind && (zI a.int && (zI a.gen && (zS a.name && (zS a.func && (zI a.arity && (zS a.bytes && zI a.bits)))))) && zL a.items) := by
 unfold sameF flatB zeroTm
 simp only [Tm.kind, Tm.int, Tm.gen, Tm.name, Tm.func, Tm.arity, Tm.items, Tm.bytes, Tm.bits, zS_is, zI_is, zL_is]
theorem okK_none {t : Tm} (h : ¬ (t.kind = 1 ∨ t.kind = 2 ∨ t.kind = 3 ∨ t.kind = 4 ∨ t.kind = 5 ∨ t.kind = 6 ∨ t.kind = 7 ∨ t.kind = 8 ∨ t.kind = 9 ∨ t.kind = 10)) : okK t = false := by
 unfold okK
 simp only [not_or] at h
 obtain ⟨h1, h2, h3, h4, h5, h6, h7, h8, h9, h10⟩ := h
 rw [if_neg h1, if_neg h2, if_neg (by omega), if_neg h4, if_neg h5, if_neg h7, if_neg h8, if_neg h9, if_neg h10]
theorem nat_le (n m : Nat) : decide (n ≤ m) = decide ((n : Int) ≤ (m : Int)) := by rw [Bool.eq_iff_iff, decide_eq_true_eq, decide_eq_true_eq]; omega
theorem loc_of (f : Nat) (t : Tm) : (okK t && sameF (f + 1) (left0 t) zeroTm) = locB t := by
 rw [same_zero]
 obtain ⟨tk, ti, tg, tn, tf, ta, tl, ty, tz⟩ := t
 by_cases h : tk = 1 ∨ tk = 2 ∨ tk = 3 ∨ tk = 4 ∨ tk = 5 ∨ tk = 6 ∨ tk = 7 ∨ tk = 8 ∨ tk = 9 ∨ tk = 10
 ·unfold left0 locB
  rcases h with rfl | rfl | rfl | rfl | rfl | rfl | rfl | rfl | rfl | rfl
  all_goals
   generalize okK (Tm.mk _ ti tg tn tf ta tl ty tz) = q
   simp only [leftT, zeroK, Tm.kind, Tm.int, Tm.gen, Tm.name, Tm.func, Tm.arity, Tm.items, Tm.bytes, Tm.bits]
   simp [zS_nil, zI_nil, zL_nil]
   try (cases q <;> cases zI ti <;> cases zI tg <;> cases zS tn <;> cases zS tf <;> cases zI ta <;> cases zL tl <;> cases zS ty <;> cases zI tz <;> rfl)
 ·have : okK (Tm.mk tk ti tg tn tf ta tl ty tz) = false := okK_none h
  unfold locB
  rw [this, Bool.false_and, Bool.false_and]

/-- What a closure of terms.kinds tells of a term. -/
def KindQ (w0 w : World) (f : Nat) (t : Tm) (e : Ending) (w' : World) : Prop := ∃ so' c', e = .returned (.tuple #[.agg #[.int .i64 (leftT t).kind, .int .i64 (leftT t).int, .int .i64 (leftT t).gen, .string (leftT t).name, .string (leftT t).func, .int .i64 (leftT t).arity, .slice so' (leftT t).items.length c', .string (leftT t).bytes, .int .i64 (leftT t).bits], .bool (okK t)]) ∧
 SlAt w0 9 (TmAt w0 f) so' (leftT t).items ∧ Below w.heap.size w w'
section
variable (t : Tm) (so : Option Addr) (c f : Nat) (w0 w : World)

theorem kindQ_0 (hs : SlAt w0 9 (TmAt w0 f) so t.items) (hk : t.kind = 0) : Calls Tryz.prog 222 #[.agg #[.int .i64 t.kind, .int .i64 t.int, .int .i64 t.gen, .string t.name, .string t.func, .int .i64 t.arity, .slice so t.items.length c, .string t.bytes, .int .i64 t.bits]] w (KindQ w0 w f t) := by
 have e1 : leftT t = t := by unfold leftT; simp [hk]
 have e2 : okK t = false := by unfold okK; simp [hk]
 refine (kind_none t.kind t.int t.gen t.name t.func t.arity so t.items.length c t.bytes t.bits w).mono ?_
 rintro e w' ⟨rfl, hb'⟩
 refine ⟨so, c, ?_, ?_, hb'⟩
 ·(rw [e1, e2]) <;> rfl
 ·rw [e1]; exact hs
theorem kindQ_1 (hs : SlAt w0 9 (TmAt w0 f) so t.items) (hk : t.kind = 1) : Calls Tryz.prog 223 #[.agg #[.int .i64 t.kind, .int .i64 t.int, .int .i64 t.gen, .string t.name, .string t.func, .int .i64 t.arity, .slice so t.items.length c, .string t.bytes, .int .i64 t.bits]] w (KindQ w0 w f t) := by
 have e1 : leftT t = .mk t.kind 0 t.gen t.name t.func t.arity t.items t.bytes t.bits := by unfold leftT; simp [hk]
 have e2 : okK t = true := by unfold okK; simp [hk]
 refine (kind_int t.kind t.int t.gen t.name t.func t.arity so t.items.length c t.bytes t.bits w).mono ?_
 rintro e w' ⟨rfl, hb'⟩
 refine ⟨so, c, ?_, ?_, hb'⟩
 ·(rw [e1, e2]) <;> rfl
 ·rw [e1]; exact hs
theorem kindQ_2 (hs : SlAt w0 9 (TmAt w0 f) so t.items) (hk : t.kind = 2) : Calls Tryz.prog 224 #[.agg #[.int .i64 t.kind, .int .i64 t.int, .int .i64 t.gen, .string t.name, .string t.func, .int .i64 t.arity, .slice so t.items.length c, .string t.bytes, .int .i64 t.bits]] w (KindQ w0 w f t) := by
 have e1 : leftT t = .mk t.kind t.int t.gen ⟨#[]⟩ t.func t.arity t.items t.bytes t.bits := by unfold leftT; simp [hk]
 have e2 : okK t = nameB t.name := by unfold okK; simp [hk]
 refine (kind_atom t.kind t.int t.gen t.name t.func t.arity so t.items.length c t.bytes t.bits w).mono ?_
 rintro e w' ⟨rfl, hb'⟩
 refine ⟨so, c, ?_, ?_, hb'⟩
 ·(rw [e1, e2]) <;> rfl
 ·rw [e1]; exact hs
theorem kindQ_3 (hs : SlAt w0 9 (TmAt w0 f) so t.items) (hk : t.kind = 3) : Calls Tryz.prog 220 #[.agg #[.int .i64 t.kind, .int .i64 t.int, .int .i64 t.gen, .string t.name, .string t.func, .int .i64 t.arity, .slice so t.items.length c, .string t.bytes, .int .i64 t.bits]] w (KindQ w0 w f t) := by
 have e1 : leftT t = .mk t.kind 0 0 ⟨#[]⟩ t.func t.arity t.items t.bytes t.bits := by unfold leftT; simp [hk]
 have e2 : okK t = (wi t.int 1 2147483647 && wi t.gen 1 2147483647 && nameB t.name) := by unfold okK; simp [hk]
 refine (kind_num t.kind t.int t.gen t.name t.func t.arity so t.items.length c t.bytes t.bits w).mono ?_
 rintro e w' ⟨rfl, hb'⟩
 refine ⟨so, c, ?_, ?_, hb'⟩
 ·(rw [e1, e2]) <;> rfl
 ·rw [e1]; exact hs
theorem kindQ_4 (hs : SlAt w0 9 (TmAt w0 f) so t.items) (hk : t.kind = 4) : Calls Tryz.prog 225 #[.agg #[.int .i64 t.kind, .int .i64 t.int, .int .i64 t.gen, .string t.name, .string t.func, .int .i64 t.arity, .slice so t.items.length c, .string t.bytes, .int .i64 t.bits]] w (KindQ w0 w f t) := by
 have e1 : leftT t = .mk t.kind 0 0 ⟨#[]⟩ t.func 0 [] t.bytes t.bits := by unfold leftT; simp [hk]
 have e2 : okK t = (wi t.int 0 999 && wi t.gen 1 2147483647 && nameB t.name && wi t.arity 0 16 && decide ((t.items.length : Int) ≤ (200 : Nat))) := by rw [← nat_le]; unfold okK; simp [hk]
 refine (kind_closure t.kind t.int t.gen t.name t.func t.arity so t.items.length c t.bytes t.bits w).mono ?_
 rintro e w' ⟨rfl, hb'⟩
 refine ⟨none, 0, ?_, ?_, hb'⟩
 ·(rw [e1, e2]) <;> rfl
 ·rw [e1]; exact SlAt.nil w0 9 _ none
theorem kindQ_5 (hs : SlAt w0 9 (TmAt w0 f) so t.items) (hk : t.kind = 5) : Calls Tryz.prog 226 #[.agg #[.int .i64 t.kind, .int .i64 t.int, .int .i64 t.gen, .string t.name, .string t.func, .int .i64 t.arity, .slice so t.items.length c, .string t.bytes, .int .i64 t.bits]] w (KindQ w0 w f t) := by
 have e1 : leftT t = .mk t.kind t.int t.gen ⟨#[]⟩ ⟨#[]⟩ 0 t.items t.bytes t.bits := by unfold leftT; simp [hk]
 have e2 : okK t = (nameB t.name && nameB t.func && wi t.arity 0 16) := by unfold okK; simp [hk]
 refine (kind_export t.kind t.int t.gen t.name t.func t.arity so t.items.length c t.bytes t.bits w).mono ?_
 rintro e w' ⟨rfl, hb'⟩
 refine ⟨so, c, ?_, ?_, hb'⟩
 ·(rw [e1, e2]) <;> rfl
 ·rw [e1]; exact hs
theorem kindQ_6 (hs : SlAt w0 9 (TmAt w0 f) so t.items) (hk : t.kind = 6) : Calls Tryz.prog 220 #[.agg #[.int .i64 t.kind, .int .i64 t.int, .int .i64 t.gen, .string t.name, .string t.func, .int .i64 t.arity, .slice so t.items.length c, .string t.bytes, .int .i64 t.bits]] w (KindQ w0 w f t) := by
 have e1 : leftT t = .mk t.kind 0 0 ⟨#[]⟩ t.func t.arity t.items t.bytes t.bits := by unfold leftT; simp [hk]
 have e2 : okK t = (wi t.int 1 2147483647 && wi t.gen 1 2147483647 && nameB t.name) := by unfold okK; simp [hk]
 refine (kind_num t.kind t.int t.gen t.name t.func t.arity so t.items.length c t.bytes t.bits w).mono ?_
 rintro e w' ⟨rfl, hb'⟩
 refine ⟨so, c, ?_, ?_, hb'⟩
 ·(rw [e1, e2]) <;> rfl
 ·rw [e1]; exact hs
theorem kindQ_7 (hs : SlAt w0 9 (TmAt w0 f) so t.items) (hk : t.kind = 7) : Calls Tryz.prog 227 #[.agg #[.int .i64 t.kind, .int .i64 t.int, .int .i64 t.gen, .string t.name, .string t.func, .int .i64 t.arity, .slice so t.items.length c, .string t.bytes, .int .i64 t.bits]] w (KindQ w0 w f t) := by
 have e1 : leftT t = .mk t.kind t.int t.gen t.name t.func t.arity [] t.bytes t.bits := by unfold leftT; simp [hk]
 have e2 : okK t = decide ((t.items.length : Int) ≤ (255 : Nat)) := by rw [← nat_le]; unfold okK; simp [hk]
 refine (kind_tuple t.kind t.int t.gen t.name t.func t.arity so t.items.length c t.bytes t.bits w).mono ?_
 rintro e w' ⟨rfl, hb'⟩
 refine ⟨none, 0, ?_, ?_, hb'⟩
 ·(rw [e1, e2]) <;> rfl
 ·rw [e1]; exact SlAt.nil w0 9 _ none
theorem kindQ_8 (hs : SlAt w0 9 (TmAt w0 f) so t.items) (hk : t.kind = 8) : Calls Tryz.prog 228 #[.agg #[.int .i64 t.kind, .int .i64 t.int, .int .i64 t.gen, .string t.name, .string t.func, .int .i64 t.arity, .slice so t.items.length c, .string t.bytes, .int .i64 t.bits]] w (KindQ w0 w f t) := by
 have e1 : leftT t = .mk t.kind t.int t.gen t.name t.func t.arity t.items t.bytes t.bits := by unfold leftT; simp [hk]
 have e2 : okK t = true := by unfold okK; simp [hk]
 refine (kind_nil t.kind t.int t.gen t.name t.func t.arity so t.items.length c t.bytes t.bits w).mono ?_
 rintro e w' ⟨rfl, hb'⟩
 refine ⟨so, c, ?_, ?_, hb'⟩
 ·(rw [e1, e2]) <;> rfl
 ·rw [e1]; exact hs
theorem kindQ_9 (hs : SlAt w0 9 (TmAt w0 f) so t.items) (hb : Below w0.heap.size w0 w) (hl : t.items.length ≤ maxLen) (hk : t.kind = 9) : Calls Tryz.prog 229 #[.agg #[.int .i64 t.kind, .int .i64 t.int, .int .i64 t.gen, .string t.name, .string t.func, .int .i64 t.arity, .slice so t.items.length c, .string t.bytes, .int .i64 t.bits]] w (KindQ w0 w f t) := by
 have e1 : leftT t = .mk t.kind t.int t.gen t.name t.func t.arity [] t.bytes t.bits := by unfold leftT; simp [hk]
 have e2 : okK t = (decide (2 ≤ t.items.length) && decide (lastK t.items ≠ 9)) := by unfold okK; simp [hk]
 by_cases h2 : t.items.length < 2
 ·refine (kind_list0 t.kind t.int t.gen t.name t.func t.arity so t.items.length c t.bytes t.bits w h2).mono ?_
  rintro e w' ⟨rfl, hb'⟩
  refine ⟨none, 0, ?_, ?_, hb'⟩
  ·rw [e1, e2, decide_eq_false (by omega)]; rfl
  ·rw [e1]; exact SlAt.nil w0 9 _ none
 ·obtain ⟨m, hm⟩ : ∃ m, t.items.length = m + 2 := ⟨t.items.length - 2, by omega⟩
  have hm1 : m + 1 < t.items.length := by omega
  have hbf := hs.row hm1
  obtain ⟨b, off, rfl, hbl, hrow⟩ := hbf
  obtain ⟨cs, _, hcs, hR⟩ := hrow (m + 1) hm1
  have hcell : w.cell? ⟨b, off + (m + 1) * 9, none⟩ = some (.int .i64 (t.items[m + 1]).kind) := by
   refine (hb.cell (p := ⟨b, off + (m + 1) * 9, none⟩) hbl).trans ?_
   rw [show off + (m + 1) * 9 = off + (m + 1) * 9 + 0 by rfl, hcs 0 (by decide)]
   cases f with
   | zero => exact hR.elim
   | succ f => obtain ⟨⟨ai, ci, rfl, _⟩, _⟩ := hR; rfl
  have hk9 : lastK t.items = (t.items[m + 1]).kind := by
   unfold lastK
   rw [List.getLast?_eq_getElem?, hm, show m + 2 - 1 = m + 1 by rfl, List.getElem?_eq_getElem hm1]
  unfold maxLen at hl
  have h := kind_list2 t.kind t.int t.gen t.name t.func t.arity c t.bytes t.bits w b off m (t.items[m + 1]).kind (by omega) (Nat.lt_of_lt_of_le hbl hb.size) hcell
  rw [← hm] at h
  refine h.mono ?_
  rintro e w' ⟨rfl, hb'⟩
  refine ⟨none, 0, ?_, ?_, hb'⟩
  ·rw [e1, e2, decide_eq_true (by omega), hk9, Bool.true_and, show (t.items[m + 1].kind != 9) = decide (t.items[m + 1].kind ≠ 9) by (rw [Bool.eq_iff_iff, bne_iff_ne, decide_eq_true_eq])]; rfl
  ·rw [e1]; exact SlAt.nil w0 9 _ none
theorem kindQ_10 (hs : SlAt w0 9 (TmAt w0 f) so t.items) (hy : t.bytes.size ≤ maxLen) (hz : I64 t.bits) (hk : t.kind = 10) : Calls Tryz.prog 230 #[.agg #[.int .i64 t.kind, .int .i64 t.int, .int .i64 t.gen, .string t.name, .string t.func, .int .i64 t.arity, .slice so t.items.length c, .string t.bytes, .int .i64 t.bits]] w (KindQ w0 w f t) := by
 have e1 : leftT t = .mk t.kind t.int t.gen t.name t.func t.arity t.items ⟨#[]⟩ 0 := by unfold leftT; simp [hk]
 have e2 : okK t = bitsV t.bytes t.bits := by unfold okK bitsB; simp [hk]
 refine (kind_bits t.kind t.int t.gen t.name t.func t.arity so t.items.length c t.bytes t.bits w hy hz).mono ?_
 rintro e w' ⟨rfl, hb'⟩
 refine ⟨so, c, ?_, ?_, hb'⟩
 ·(rw [e1, e2]) <;> rfl
 ·rw [e1]; exact hs
end
end Go.Proofs.YtghgbikmlbildaaGreatDoor
