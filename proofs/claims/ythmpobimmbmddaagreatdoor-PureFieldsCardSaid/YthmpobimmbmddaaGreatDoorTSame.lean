/-
  terms.Same, terms.alike: the walks (printed by gen_same.py).
-/
import Derived.Test.YthmpobimmbmddaaGreatDoorTKinds
import Derived.Test.YthmpobimmbmddaaGreatDoorURow
import Derived.Deep.RegionHeld3
namespace Go.Proofs.YthmpobimmbmddaaGreatDoor
open Go.RowKit
set_option linter.unusedVariables false
set_option linter.unusedSimpArgs false

def sameL (rec : Tm → Tm → Bool) : List Tm → List Tm → Bool
  | [], [] => true
  | x :: l, y :: m => rec x y && sameL rec l m
  | _, _ => false
def flatB (a b : Tm) : Bool := (a.kind == b.kind) && ((a.int == b.int) && ((a.gen == b.gen) && ((a.name.toList == b.name.toList) && ((a.func.toList == b.func.toList) && ((a.arity == b.arity) && ((a.bytes.toList == b.bytes.toList) && (a.bits == b.bits)))))))
def sameF : Nat → Tm → Tm → Bool
  | 0, _, _ => false
  | f + 1, a, b => flatB a b && sameL (sameF f) a.items b.items
theorem sameL_len {rec : Tm → Tm → Bool} : ∀ {l m : List Tm}, l.length ≠ m.length → sameL rec l m = false
  | [], [], h => absurd rfl h
  | _ :: l, _ :: m, h => by
    unfold sameL
    rw [sameL_len (l := l) (m := m) (by simpa using h)]
    exact Bool.and_false _
  | [], _ :: _, _ => rfl
  | _ :: _, [], _ => rfl
theorem sameL_step {rec : Tm → Tm → Bool} {l m : List Tm} {k : Nat} (h : k < l.length) (h' : k < m.length) : sameL rec (l.drop k) (m.drop k) = (rec l[k] m[k] && sameL rec (l.drop (k + 1)) (m.drop (k + 1))) := by
  rw [List.drop_eq_getElem_cons h, List.drop_eq_getElem_cons h', sameL]
theorem sameL_end {rec : Tm → Tm → Bool} {l m : List Tm} {k : Nat} (h : l.length ≤ k) (h' : m.length ≤ k) : sameL rec (l.drop k) (m.drop k) = true := by
  rw [List.drop_eq_nil_of_le h, List.drop_eq_nil_of_le h', sameL]

/-- terms.alike on lists of terms of a depth. -/
def AlikeP (f : Nat) : Prop := ∀ (ao bo : Option Addr) (c d : Nat) (l m : List Tm) (w : World), SlAt w 9 (TmAt w f) ao l → SlAt w 9 (TmAt w f) bo m → l.length ≤ maxLen → m.length ≤ maxLen →
  Calls Tryz.prog 175 #[.slice ao l.length c, .slice bo m.length d, .func (.func 164) #[] #[]] w fun e w' => e = .returned (.bool (sameL (sameF f) l m)) ∧ Below w.heap.size w w'
/-- terms.Same on terms whose items are of a depth. -/
def SameP (f : Nat) : Prop := ∀ (a b : Tm) (ao bo : Option Addr) (c d : Nat) (w : World), SlAt w 9 (TmAt w f) ao a.items → SlAt w 9 (TmAt w f) bo b.items → a.items.length ≤ maxLen → b.items.length ≤ maxLen →
  Calls Tryz.prog 164 #[.agg #[.int .i64 a.kind, .int .i64 a.int, .int .i64 a.gen, .string a.name, .string a.func, .int .i64 a.arity, .slice ao a.items.length c, .string a.bytes, .int .i64 a.bits],
      .agg #[.int .i64 b.kind, .int .i64 b.int, .int .i64 b.gen, .string b.name, .string b.func, .int .i64 b.arity, .slice bo b.items.length d, .string b.bytes, .int .i64 b.bits]] w fun e w' => e = .returned (.bool (sameF (f + 1) a b)) ∧ Below w.heap.size w w'

set_option maxRecDepth 100000 in
set_option maxHeartbeats 8000000 in
theorem same_of {f : Nat} (HP : Hid (AlikeP f)) : SameP f := by
  intro a b ao bo c d w ha hb hla hlb
  have hA : ∀ wx, Below w.heap.size w wx → Calls Tryz.prog 175 #[.slice ao a.items.length c, .slice bo b.items.length d, .func (.func 164) #[] #[]] wx fun e w' => e = .returned (.bool (sameL (sameF f) a.items b.items)) ∧ Below w.heap.size w w' :=
    fun wx hx => (HP.out ao bo c d a.items b.items wx (ha.tms hx) (hb.tms hx) hla hlb).mono fun _ _ ⟨h1, h2⟩ => ⟨h1, below_next hx h2⟩
  have E0 : Hid (sameF (f + 1) a b = (flatB a b && sameL (sameF f) a.items b.items)) := Lib.hid rfl
  unfold flatB at E0
  clear ha hb hla hlb
  generalize sameL (sameF f) a.items b.items = sl at *
  generalize sameF (f + 1) a b = r at *
  obtain ⟨ak, ai, ag, an, af, aa, al, ay, az⟩ := a
  obtain ⟨bk, bi, bg, bn, bf, ba, bl, by', bz⟩ := b
  simp only [Tm.kind, Tm.int, Tm.gen, Tm.name, Tm.func, Tm.arity, Tm.items, Tm.bytes, Tm.bits] at *
  have hbe : Below w.heap.size w ((w.alloc (.cells #[.int .i64 ak, .int .i64 ai, .int .i64 ag, .string an, .string af, .int .i64 aa, .slice ao al.length c, .string ay, .int .i64 az] 28)).alloc (.cells #[.int .i64 bk, .int .i64 bi, .int .i64 bg, .string bn, .string bf, .int .i64 ba, .slice bo bl.length d, .string by', .int .i64 bz] 28)) := two_below _ _ _
  have HA := hA _ hbe
  have HBE := Lib.hid hbe
  clear hA hbe
  cases t0 : (ak == bk) with
  | false =>
    simp only [t0] at E0
    simp only [Bool.true_and, Bool.false_and, Bool.and_true, Bool.and_false] at E0
    go_enter Tryz.func164, Tryz.ntmps164
    go_wp2_with fail
    go_ret
    exact ⟨retb E0.out.symm, HBE.out⟩
  | true =>
    simp only [t0] at E0
    cases t1 : (ai == bi) with
    | false =>
      simp only [t1] at E0
      simp only [Bool.true_and, Bool.false_and, Bool.and_true, Bool.and_false] at E0
      go_enter Tryz.func164, Tryz.ntmps164
      go_wp2_with fail
      go_ret
      exact ⟨retb E0.out.symm, HBE.out⟩
    | true =>
      simp only [t1] at E0
      cases t2 : (ag == bg) with
      | false =>
        simp only [t2] at E0
        simp only [Bool.true_and, Bool.false_and, Bool.and_true, Bool.and_false] at E0
        go_enter Tryz.func164, Tryz.ntmps164
        go_wp2_with fail
        go_ret
        exact ⟨retb E0.out.symm, HBE.out⟩
      | true =>
        simp only [t2] at E0
        cases t3 : (an.toList == bn.toList) with
        | false =>
          simp only [t3] at E0
          simp only [Bool.true_and, Bool.false_and, Bool.and_true, Bool.and_false] at E0
          go_enter Tryz.func164, Tryz.ntmps164
          go_wp2_with fail
          go_ret
          exact ⟨retb E0.out.symm, HBE.out⟩
        | true =>
          simp only [t3] at E0
          cases t4 : (af.toList == bf.toList) with
          | false =>
            simp only [t4] at E0
            simp only [Bool.true_and, Bool.false_and, Bool.and_true, Bool.and_false] at E0
            go_enter Tryz.func164, Tryz.ntmps164
            go_wp2_with fail
            go_ret
            exact ⟨retb E0.out.symm, HBE.out⟩
          | true =>
            simp only [t4] at E0
            cases t5 : (aa == ba) with
            | false =>
              simp only [t5] at E0
              simp only [Bool.true_and, Bool.false_and, Bool.and_true, Bool.and_false] at E0
              go_enter Tryz.func164, Tryz.ntmps164
              go_wp2_with fail
              go_ret
              exact ⟨retb E0.out.symm, HBE.out⟩
            | true =>
              simp only [t5] at E0
              cases t6 : (ay.toList == by'.toList) with
              | false =>
                simp only [t6] at E0
                simp only [Bool.true_and, Bool.false_and, Bool.and_true, Bool.and_false] at E0
                go_enter Tryz.func164, Tryz.ntmps164
                go_wp2_with fail
                go_ret
                exact ⟨retb E0.out.symm, HBE.out⟩
              | true =>
                simp only [t6] at E0
                cases t7 : (az == bz) with
                | false =>
                  simp only [t7] at E0
                  simp only [Bool.true_and, Bool.false_and, Bool.and_true, Bool.and_false] at E0
                  go_enter Tryz.func164, Tryz.ntmps164
                  go_wp2_with fail
                  go_ret
                  exact ⟨retb E0.out.symm, HBE.out⟩
                | true =>
                  simp only [t7] at E0
                  simp only [Bool.true_and, Bool.false_and, Bool.and_true, Bool.and_false] at E0
                  go_enter Tryz.func164, Tryz.ntmps164
                  go_wp2_with fail
                  refine HA.mono ?_
                  rintro e w5 ⟨rfl, hb5⟩
                  go_wp2_with fail
                  go_ret
                  exact ⟨retb E0.out.symm, hb5⟩

set_option maxRecDepth 100000 in
set_option maxHeartbeats 8000000 in
theorem alike_zero : AlikeP 0 := by
  intro ao bo c d l m w ha hb hla hlb
  obtain rfl := ha.zero
  obtain rfl := hb.zero
  go_enter Tryz.func175, Tryz.ntmps175
  go_wp2_with fail
  go_loop [16] (fun i => i = .int .i64 0) (fun _ => 0)
  case atStart => rfl
  case round =>
    obtain rfl := hrel
    go_wp2_with fail
    go_ret
    exact ⟨rfl, Below.refl _ _⟩
set_option maxRecDepth 100000 in
set_option maxHeartbeats 8000000 in
theorem alike_succ {f : Nat} (HQ : Hid (SameP f)) : AlikeP (f + 1) := by
  intro ao bo c d l m w ha hb hla hlb
  unfold maxLen at hla hlb
  by_cases hlm : l.length = m.length
  · have HA := Lib.hid ha; have HB := Lib.hid hb
    have HLM := Lib.hid hlm
    have hlmb : ((l.length : Int) != (m.length : Int)) = false := by rw [hlm]; simp
    have HS : Hid (sameL (sameF (f + 1)) l m = sameL (sameF (f + 1)) (l.drop 0) (m.drop 0)) := Lib.hid rfl
    clear ha hb hlm
    go_enter Tryz.func175, Tryz.ntmps175
    go_wp2_with fail
    go_loopw [7, 8, 16] (fun _ _ i wr => ∃ k : Nat, k ≤ l.length ∧ i = .int .i64 k ∧ Hid (sameL (sameF (f + 1)) l m = sameL (sameF (f + 1)) (l.drop k) (m.drop k)) ∧ Below w.heap.size w wr) (fun _ _ i _ => l.length - (intOf i).toNat)
    case atStart => exact ⟨0, Nat.zero_le _, rfl, HS, Below.refl _ _⟩
    case round =>
      obtain ⟨k, hk, rfl, HK, hBw⟩ := hrel
      rename World => wr
      by_cases hlt : k < l.length
      · have hlt' : k < m.length := by have := HLM.out; omega
        have hsa := HA.out.tms hBw
        have hsb := HB.out.tms hBw
        obtain ⟨b1, off1, ai, ci, hao, hb1, q0, q1, q2, q3, q4, q5, q6, q7, q8, hit, hok⟩ := hsa.tm hlt
        obtain ⟨b2, off2, bi, di, hbo, hb2, p0, p1, p2, p3, p4, p5, p6, p7, p8, hit2, hok2⟩ := hsb.tm hlt'
        subst hao; subst hbo
        have HST := Lib.hid (sameL_step (rec := sameF (f + 1)) hlt hlt')
        have hbx : Below wr.heap.size wr (wr.alloc (.cells #[.int .i64 l[k].kind, .int .i64 l[k].int, .int .i64 l[k].gen, .string l[k].name, .string l[k].func, .int .i64 l[k].arity, .slice ai l[k].items.length ci, .string l[k].bytes, .int .i64 l[k].bits] 28)) := (Below.refl _ _).alloc (Nat.le_refl _) _
        have hSM := HQ.out l[k] m[k] ai bi ci di (wr.alloc (.cells #[.int .i64 l[k].kind, .int .i64 l[k].int, .int .i64 l[k].gen, .string l[k].name, .string l[k].func, .int .i64 l[k].arity, .slice ai l[k].items.length ci, .string l[k].bytes, .int .i64 l[k].bits] 28)).drew (hit.tms hbx.drew) (hit2.tms hbx.drew) hok.2.2.2.2.2.2.1 hok2.2.2.2.2.2.2.1
        have HBX := Lib.hid (hBw.trans (hbx.mono hBw.size))
        have hbs : w.heap.size ≤ (wr.alloc (.cells #[.int .i64 l[k].kind, .int .i64 l[k].int, .int .i64 l[k].gen, .string l[k].name, .string l[k].func, .int .i64 l[k].arity, .slice ai l[k].items.length ci, .string l[k].bytes, .int .i64 l[k].bits] 28)).heap.size := HBX.out.size
        have hca := heap_alloc_new wr (.cells #[.int .i64 l[k].kind, .int .i64 l[k].int, .int .i64 l[k].gen, .string l[k].name, .string l[k].func, .int .i64 l[k].arity, .slice ai l[k].items.length ci, .string l[k].bytes, .int .i64 l[k].bits] 28)
        have hb2' : b2 < (wr.alloc (.cells #[.int .i64 l[k].kind, .int .i64 l[k].int, .int .i64 l[k].gen, .string l[k].name, .string l[k].func, .int .i64 l[k].arity, .slice ai l[k].items.length ci, .string l[k].bytes, .int .i64 l[k].bits] 28)).heap.size := Nat.lt_of_lt_of_le hb2 hbx.size
        have p0' := (hbx.cell (p := ⟨b2, off2 + k * 9, none⟩) hb2).trans p0
        have p1' := (hbx.cell (p := ⟨b2, off2 + k * 9 + 1, none⟩) hb2).trans p1
        have p2' := (hbx.cell (p := ⟨b2, off2 + k * 9 + 2, none⟩) hb2).trans p2
        have p3' := (hbx.cell (p := ⟨b2, off2 + k * 9 + 3, none⟩) hb2).trans p3
        have p4' := (hbx.cell (p := ⟨b2, off2 + k * 9 + 4, none⟩) hb2).trans p4
        have p5' := (hbx.cell (p := ⟨b2, off2 + k * 9 + 5, none⟩) hb2).trans p5
        have p6' := (hbx.cell (p := ⟨b2, off2 + k * 9 + 6, none⟩) hb2).trans p6
        have p7' := (hbx.cell (p := ⟨b2, off2 + k * 9 + 7, none⟩) hb2).trans p7
        have p8' := (hbx.cell (p := ⟨b2, off2 + k * 9 + 8, none⟩) hb2).trans p8
        clear hit hit2 hok hok2 hsa hsb hbx
        generalize l[k] = x at *
        generalize m[k] = y at *
        cases hr : sameF (f + 1) x y with
        | true =>
          have HK2 : Hid (sameL (sameF (f + 1)) l m = sameL (sameF (f + 1)) (l.drop (k + 1)) (m.drop (k + 1))) := Lib.hid (by rw [HK.out, HST.out, hr, Bool.true_and])
          rw [hr] at hSM
          clear hr
          have HBS := Lib.hid hbs; clear hbs
          go_wp2_with fail
          generalize (wr.alloc (.cells #[.int .i64 x.kind, .int .i64 x.int, .int .i64 x.gen, .string x.name, .string x.func, .int .i64 x.arity, .slice ai x.items.length ci, .string x.bytes, .int .i64 x.bits] 28)) = wa at *
          generalize wr.heap.size = C at *
          obtain ⟨q0', q1', q2', q3', q4', q5', q6', q7', q8', z1⟩ := term_cells hca
          have hCs := lt_of_row hca
          have HCA := Lib.hid hca; clear hca z1 q0 q1 q2 q3 q4 q5 q6 q7 q8 p0 p1 p2 p3 p4 p5 p6 p7 p8
          first | go_region_held3 (fun w' => ((w'.cell? ⟨C, 0, none⟩ = some (.int .i64 x.kind) ∧ w'.cell? ⟨C, 1, none⟩ = some (.int .i64 x.int) ∧ w'.cell? ⟨C, 2, none⟩ = some (.int .i64 x.gen) ∧ w'.cell? ⟨C, 3, none⟩ = some (.string x.name) ∧ w'.cell? ⟨C, 4, none⟩ = some (.string x.func) ∧ w'.cell? ⟨C, 5, none⟩ = some (.int .i64 x.arity) ∧ w'.cell? ⟨C, 6, none⟩ = some (.slice ai x.items.length ci) ∧ w'.cell? ⟨C, 7, none⟩ = some (.string x.bytes) ∧ w'.cell? ⟨C, 8, none⟩ = some (.int .i64 x.bits)) ∧ (w'.cell? ⟨b2, off2 + k * 9, none⟩ = some (.int .i64 y.kind) ∧ w'.cell? ⟨b2, off2 + k * 9 + 1, none⟩ = some (.int .i64 y.int) ∧ w'.cell? ⟨b2, off2 + k * 9 + 2, none⟩ = some (.int .i64 y.gen) ∧ w'.cell? ⟨b2, off2 + k * 9 + 3, none⟩ = some (.string y.name) ∧ w'.cell? ⟨b2, off2 + k * 9 + 4, none⟩ = some (.string y.func) ∧ w'.cell? ⟨b2, off2 + k * 9 + 5, none⟩ = some (.int .i64 y.arity) ∧ w'.cell? ⟨b2, off2 + k * 9 + 6, none⟩ = some (.slice bi y.items.length di) ∧ w'.cell? ⟨b2, off2 + k * 9 + 7, none⟩ = some (.string y.bytes) ∧ w'.cell? ⟨b2, off2 + k * 9 + 8, none⟩ = some (.int .i64 y.bits)))) (((repeat' apply And.intro) <;> assumption)) ((go_at_call 164; refine hSM.mono ?_; rintro e w5 ⟨rfl, hb5⟩; obtain ⟨r0, r1, r2, r3, r4, r5, r6, r7, r8, _⟩ := term_cells ((hb5.block C hCs).trans HCA.out); have s0 := (hb5.cell (p := ⟨b2, off2 + k * 9, none⟩) hb2').trans p0'; have s1 := (hb5.cell (p := ⟨b2, off2 + k * 9 + 1, none⟩) hb2').trans p1'; have s2 := (hb5.cell (p := ⟨b2, off2 + k * 9 + 2, none⟩) hb2').trans p2'; have s3 := (hb5.cell (p := ⟨b2, off2 + k * 9 + 3, none⟩) hb2').trans p3'; have s4 := (hb5.cell (p := ⟨b2, off2 + k * 9 + 4, none⟩) hb2').trans p4'; have s5 := (hb5.cell (p := ⟨b2, off2 + k * 9 + 5, none⟩) hb2').trans p5'; have s6 := (hb5.cell (p := ⟨b2, off2 + k * 9 + 6, none⟩) hb2').trans p6'; have s7 := (hb5.cell (p := ⟨b2, off2 + k * 9 + 7, none⟩) hb2').trans p7'; have s8 := (hb5.cell (p := ⟨b2, off2 + k * 9 + 8, none⟩) hb2').trans p8')) | fail
          go_wp2_with fail
          go_roundw
          case rel => exact ⟨k + 1, by omega, by go_num, HK2, HBX.out.drew.trans (hb5.mono HBS.out)⟩
          case measure => simp [intOf]; omega
        | false =>
          have E : Hid (sameL (sameF (f + 1)) l m = false) := Lib.hid (by rw [HK.out, HST.out, hr, Bool.false_and])
          rw [hr] at hSM
          clear hr
          have HBS := Lib.hid hbs; clear hbs
          go_wp2_with fail
          generalize (wr.alloc (.cells #[.int .i64 x.kind, .int .i64 x.int, .int .i64 x.gen, .string x.name, .string x.func, .int .i64 x.arity, .slice ai x.items.length ci, .string x.bytes, .int .i64 x.bits] 28)) = wa at *
          generalize wr.heap.size = C at *
          obtain ⟨q0', q1', q2', q3', q4', q5', q6', q7', q8', z1⟩ := term_cells hca
          have hCs := lt_of_row hca
          have HCA := Lib.hid hca; clear hca z1 q0 q1 q2 q3 q4 q5 q6 q7 q8 p0 p1 p2 p3 p4 p5 p6 p7 p8
          first | go_region_held3 (fun w' => ((w'.cell? ⟨C, 0, none⟩ = some (.int .i64 x.kind) ∧ w'.cell? ⟨C, 1, none⟩ = some (.int .i64 x.int) ∧ w'.cell? ⟨C, 2, none⟩ = some (.int .i64 x.gen) ∧ w'.cell? ⟨C, 3, none⟩ = some (.string x.name) ∧ w'.cell? ⟨C, 4, none⟩ = some (.string x.func) ∧ w'.cell? ⟨C, 5, none⟩ = some (.int .i64 x.arity) ∧ w'.cell? ⟨C, 6, none⟩ = some (.slice ai x.items.length ci) ∧ w'.cell? ⟨C, 7, none⟩ = some (.string x.bytes) ∧ w'.cell? ⟨C, 8, none⟩ = some (.int .i64 x.bits)) ∧ (w'.cell? ⟨b2, off2 + k * 9, none⟩ = some (.int .i64 y.kind) ∧ w'.cell? ⟨b2, off2 + k * 9 + 1, none⟩ = some (.int .i64 y.int) ∧ w'.cell? ⟨b2, off2 + k * 9 + 2, none⟩ = some (.int .i64 y.gen) ∧ w'.cell? ⟨b2, off2 + k * 9 + 3, none⟩ = some (.string y.name) ∧ w'.cell? ⟨b2, off2 + k * 9 + 4, none⟩ = some (.string y.func) ∧ w'.cell? ⟨b2, off2 + k * 9 + 5, none⟩ = some (.int .i64 y.arity) ∧ w'.cell? ⟨b2, off2 + k * 9 + 6, none⟩ = some (.slice bi y.items.length di) ∧ w'.cell? ⟨b2, off2 + k * 9 + 7, none⟩ = some (.string y.bytes) ∧ w'.cell? ⟨b2, off2 + k * 9 + 8, none⟩ = some (.int .i64 y.bits)))) (((repeat' apply And.intro) <;> assumption)) ((go_at_call 164; refine hSM.mono ?_; rintro e w5 ⟨rfl, hb5⟩; obtain ⟨r0, r1, r2, r3, r4, r5, r6, r7, r8, _⟩ := term_cells ((hb5.block C hCs).trans HCA.out); have s0 := (hb5.cell (p := ⟨b2, off2 + k * 9, none⟩) hb2').trans p0'; have s1 := (hb5.cell (p := ⟨b2, off2 + k * 9 + 1, none⟩) hb2').trans p1'; have s2 := (hb5.cell (p := ⟨b2, off2 + k * 9 + 2, none⟩) hb2').trans p2'; have s3 := (hb5.cell (p := ⟨b2, off2 + k * 9 + 3, none⟩) hb2').trans p3'; have s4 := (hb5.cell (p := ⟨b2, off2 + k * 9 + 4, none⟩) hb2').trans p4'; have s5 := (hb5.cell (p := ⟨b2, off2 + k * 9 + 5, none⟩) hb2').trans p5'; have s6 := (hb5.cell (p := ⟨b2, off2 + k * 9 + 6, none⟩) hb2').trans p6'; have s7 := (hb5.cell (p := ⟨b2, off2 + k * 9 + 7, none⟩) hb2').trans p7'; have s8 := (hb5.cell (p := ⟨b2, off2 + k * 9 + 8, none⟩) hb2').trans p8')) | fail
          go_wp2_with fail
          go_ret
          exact ⟨retb E.out.symm, HBX.out.drew.trans (hb5.mono HBS.out)⟩
      · have E : Hid (sameL (sameF (f + 1)) l m = true) := Lib.hid (by rw [HK.out]; exact sameL_end (by omega) (by have := HLM.out; omega))
        go_wp2_with fail
        go_ret
        exact ⟨retb E.out.symm, hBw⟩
  · have hlmb : ((l.length : Int) != (m.length : Int)) = true := by rw [bne_iff_ne]; omega
    have E : Hid (sameL (sameF (f + 1)) l m = false) := Lib.hid (sameL_len hlm)
    clear ha hb hlm
    go_enter Tryz.func175, Tryz.ntmps175
    go_wp2_with fail
    go_ret
    exact ⟨retb E.out.symm, Below.refl _ _⟩
theorem alike_all : ∀ f, AlikeP f
  | 0 => alike_zero
  | f + 1 => alike_succ (Lib.hid (same_of (Lib.hid (alike_all f))))
theorem same_any (f : Nat) : SameP f := same_of (Lib.hid (alike_all f))
end Go.Proofs.YthmpobimmbmddaaGreatDoor
