/-
  terms.kinds, sum, Check, Valid: the walks (printed by gen_of4.py). pure.classes, pure.Class: the walks (printed by gen_classes.py). Apply at an operator of two integers: the walks (printed by gen_papply.py). Apply at a name that is not known: the walk. A region that draws its order, by an invariant over what has come up. No program in sight.
-/
import Derived.Laws.EntriesVeiled
import Derived.Great.BuildSlice
import Derived.Below
import Derived.Orders
import Derived.WalkKit
import Derived.Test.YthmpobimmbmddaaGreatDoorB07
import Derived.Test.YthmpobimmbmddaaGreatDoorB08
import Derived.Test.YthmpobimmbmddaaGreatDoorB10
namespace Go.Proofs.YthmpobimmbmddaaGreatDoor
open Go.RowKit
set_option linter.unusedVariables false
set_option linter.unusedSimpArgs false

set_option maxRecDepth 100000 in
set_option maxHeartbeats 4000000 in
theorem kinds_any (w : World) : Calls Tryz.prog 181 #[] w fun e w' => e = .returned (.agg #[.func (.func 206) #[] #[], .func (.func 207) #[] #[], .func (.func 208) #[] #[], .func (.func 203) #[] #[], .func (.func 209) #[] #[], .func (.func 210) #[] #[], .func (.func 203) #[] #[], .func (.func 211) #[] #[], .func (.func 212) #[] #[], .func (.func 213) #[] #[], .func (.func 214) #[] #[]]) ∧ Below w.heap.size w w' := by
  go_enter Tryz.func181, Tryz.ntmps181
  go_wp2_with fail
  exact bodyPost_ret (v := .agg #[.func (.func 206) #[] #[], .func (.func 207) #[] #[], .func (.func 208) #[] #[], .func (.func 203) #[] #[], .func (.func 209) #[] #[], .func (.func 210) #[] #[], .func (.func 203) #[] #[], .func (.func 211) #[] #[], .func (.func 212) #[] #[], .func (.func 213) #[] #[], .func (.func 214) #[] #[]]) (by simp [results, Tryz.results181, go_sem]) rfl ⟨rfl, (Below.refl _ _).alloc (Nat.le_refl _) _⟩

theorem ret_ib' {k : IntKind} {a b : Int} {c d : Bool} (h : a = b) (h' : c = d) : Ending.returned (.tuple #[.int k a, .bool c]) = .returned (.tuple #[.int k b, .bool d]) := by rw [h, h']
/-- What terms.sum tells. -/
def SumQ (w : World) (ok : Bool) (n : Int) (e : Ending) (w' : World) : Prop := e = .returned (.tuple #[.int .i64 (if ok = true then n else 0), .bool ok]) ∧ Below w.heap.size w w'
theorem sumQ_no {w w' : World} {ok : Bool} {n : Int} (h : ok = false) (hb : Below w.heap.size w w') : SumQ w ok n (.returned (.tuple #[.int .i64 0, .bool false])) w' := by subst h; exact ⟨rfl, hb⟩
theorem sumQ_yes {w w' : World} {ok : Bool} {n m : Int} (h : ok = true) (hn : m = n) (hb : Below w.heap.size w w') : SumQ w ok n (.returned (.tuple #[.int .i64 m, .bool true])) w' := by subst h; subst hn; exact ⟨rfl, hb⟩
set_option maxRecDepth 100000 in
set_option maxHeartbeats 4000000 in
theorem sum_any (f : Nat) (l : List Tm) (ao : Option Addr) (c : Nat) (w : World) (ht : SlAt w 9 (TmAt w (f + 1)) ao l) (hl : l.length ≤ maxLen) (hs1 : (sumN (l.map (capF (f + 1))) : Int) ≤ 1152921504606846976) :
    Calls Tryz.prog 168 #[.slice ao l.length c] w (SumQ w (l.all (formF (f + 1))) (sumI (l.map (wholeF (f + 1))))) := by
  unfold maxLen at hl
  have HT := Lib.hid ht
  clear ht
  go_enter Tryz.func168, Tryz.ntmps168
  go_wp2_with fail
  refine (kinds_any _).mono ?_
  rintro e w1 ⟨rfl, hb1⟩
  go_wp2_with fail
  have hm := heap_alloc_new w1 (.cells #[.func (.func 206) #[] #[], .func (.func 207) #[] #[], .func (.func 208) #[] #[], .func (.func 203) #[] #[], .func (.func 209) #[] #[], .func (.func 210) #[] #[], .func (.func 203) #[] #[], .func (.func 211) #[] #[], .func (.func 212) #[] #[], .func (.func 213) #[] #[], .func (.func 214) #[] #[], .int .i64 0] 168)
  have hb2 : Below w.heap.size w (w1.alloc (.cells #[.func (.func 206) #[] #[], .func (.func 207) #[] #[], .func (.func 208) #[] #[], .func (.func 203) #[] #[], .func (.func 209) #[] #[], .func (.func 210) #[] #[], .func (.func 203) #[] #[], .func (.func 211) #[] #[], .func (.func 212) #[] #[], .func (.func 213) #[] #[], .func (.func 214) #[] #[], .int .i64 0] 168)) := hb1.alloc hb1.size _
  have hM : w.heap.size ≤ w1.heap.size := hb1.size
  generalize w1.alloc (.cells #[.func (.func 206) #[] #[], .func (.func 207) #[] #[], .func (.func 208) #[] #[], .func (.func 203) #[] #[], .func (.func 209) #[] #[], .func (.func 210) #[] #[], .func (.func 203) #[] #[], .func (.func 211) #[] #[], .func (.func 212) #[] #[], .func (.func 213) #[] #[], .func (.func 214) #[] #[], .int .i64 0] 168) = W at *
  generalize w1.heap.size = M at *
  have HM : Hid (MeasAt M 0 W) := Lib.hid hm
  have HG : Hid (GoQ M 0 (f + 1) l 0 W W) := Lib.hid ⟨grownBy_refl _ _, 0, Int.le_refl _, by rw [List.drop_zero]; omega, hm, rfl, by rw [List.drop_zero]⟩
  have HB := Lib.hid hb2
  clear hm hb2 hb1
  go_loopw [7, 15] (fun _ i wr => ∃ k : Nat, k ≤ l.length ∧ i = .int .i64 k ∧ Hid (GoQ M 0 (f + 1) l k W wr)) (fun _ i _ => l.length - (intOf i).toNat)
  case atStart => exact ⟨0, Nat.zero_le _, rfl, HG⟩
  case round =>
    obtain ⟨k, hk, rfl, HK⟩ := hrel
    rename World => wr
    obtain ⟨g1, s', z1, z2, z3, z4, z5⟩ := HK.out
    have hB0r : Below w.heap.size w wr := below_grown HB.out g1 hM
    by_cases hlt : k < l.length
    · have hsa := HT.out.tms hB0r
      obtain ⟨b1, off1, ai, ci, hao, hb1, q0, q1, q2, q3, q4, q5, q6, q7, q8, hit, hok⟩ := hsa.tm hlt
      obtain ⟨b1', off1', ai', ci', hao', hb1', q0', q1', q2', q3', q4', q5', q6', q7', q8', hit', hok'⟩ := HT.out.tm hlt
      subst hao
      obtain ⟨rfl, rfl⟩ : b1 = b1' ∧ off1 = off1' := by injection hao' with h; injection h with h1 h2; exact ⟨h1, h2⟩
      have hai : ai = ai' := by
        have h := (hB0r.cell (p := ⟨b1, off1 + k * 9 + 6, none⟩) hb1').symm.trans q6
        rw [q6'] at h; injection h with h; injection h with h1 h2; exact h1.symm
      subst hai
      rw [sumN_drop hlt] at z2
      rw [all_drop hlt] at z4
      rw [sumI_drop hlt] at z5
      have hbx : Below wr.heap.size wr (wr.alloc (.cells #[.int .i64 l[k].kind, .int .i64 l[k].int, .int .i64 l[k].gen, .string l[k].name, .string l[k].func, .int .i64 l[k].arity, .slice ai l[k].items.length ci, .string l[k].bytes, .int .i64 l[k].bits] 28)) := (Below.refl _ _).alloc (Nat.le_refl _) _
      have HGX : Hid (W.grownBy (wr.alloc (.cells #[.int .i64 l[k].kind, .int .i64 l[k].int, .int .i64 l[k].gen, .string l[k].name, .string l[k].func, .int .i64 l[k].arity, .slice ai l[k].items.length ci, .string l[k].bytes, .int .i64 l[k].bits] 28)) (some M)) := Lib.hid (grownBy_trans g1 (grownBy_below hbx _))
      have hO := of_all f l[k] ai ci M s' w (wr.alloc (.cells #[.int .i64 l[k].kind, .int .i64 l[k].int, .int .i64 l[k].gen, .string l[k].name, .string l[k].func, .int .i64 l[k].arity, .slice ai l[k].items.length ci, .string l[k].bytes, .int .i64 l[k].bits] 28)) hit' hok' (hB0r.trans (hbx.mono hB0r.size)) hM (z3.below hbx) (by omega) (by omega)
      have Z2 := Lib.hid z2; have Z4 := Lib.hid z4; have Z5 := Lib.hid z5
      clear hao' q0' q1' q2' q3' q4' q5' q6' q7' q8' hit' hok' hit hok hsa z2 z4 z5 hbx
      generalize l[k] = x at *
      cases hr : formF (f + 1) x with
      | true =>
        rw [hr] at hO
        have Z4' : Hid (l.all (formF (f + 1)) = (l.drop (k + 1)).all (formF (f + 1))) := Lib.hid (by rw [Z4.out, hr, Bool.true_and])
        clear hr
        go_wp2_with fail
        refine hO.mono ?_
        rintro e w5 ⟨rfl, g5, s5, y1, y2, y3, y4⟩
        have HG5 : Hid (GoQ M 0 (f + 1) l (k + 1) W w5) := Lib.hid ⟨grownBy_trans HGX.out g5, s5, by omega, by have := Z2.out; omega, y3, Z4'.out, by have := Z5.out; have := y4 rfl; omega⟩
        go_wp2_with fail
        go_roundw
        case rel => exact ⟨k + 1, by omega, by go_num, HG5⟩
        case measure => simp [intOf]; omega
      | false =>
        rw [hr] at hO
        have Z4' : Hid (l.all (formF (f + 1)) = false) := Lib.hid (by rw [Z4.out, hr, Bool.false_and])
        clear hr
        go_wp2_with fail
        refine hO.mono ?_
        rintro e w5 ⟨rfl, g5, s5, y1, y2, y3, y4⟩
        have HF : Hid (Below w.heap.size w w5) := Lib.hid (below_grown HB.out (grownBy_trans HGX.out g5) hM)
        go_wp2_with fail
        go_ret2
        exact sumQ_no Z4'.out HF.out
    · have hke : l.drop k = [] := List.drop_eq_nil_of_le (by omega)
      rw [hke] at z4 z5
      have E1 : Hid (l.all (formF (f + 1)) = true) := Lib.hid z4
      have E2 : Hid (s' = sumI (l.map (wholeF (f + 1)))) := Lib.hid (by simp only [List.map_nil, sumI] at z5; omega)
      obtain ⟨m11, mz⟩ := z3.cell
      clear z2 z4 z5 hke z3
      go_wp2_with fail
      go_ret2
      exact sumQ_yes E1.out E2.out hB0r

/-- What terms.Check returns. -/
def checkF (f : Nat) (t : Tm) : Int := if formF f t = true then (if 2000 < wholeF f t then 3 else 0) else 2
set_option maxRecDepth 100000 in
set_option maxHeartbeats 4000000 in
theorem tcheck_any (f : Nat) (t : Tm) (so : Option Addr) (c : Nat) (w : World) (ht : SlAt w 9 (TmAt w f) so t.items) (hok : t.Ok) (hs1 : (capF (f + 1) t : Int) ≤ 1152921504606846976) :
    Calls Tryz.prog 123 #[.agg #[.int .i64 t.kind, .int .i64 t.int, .int .i64 t.gen, .string t.name, .string t.func, .int .i64 t.arity, .slice so t.items.length c, .string t.bytes, .int .i64 t.bits]] w fun e w' => e = .returned (.int .i64 (checkF (f + 1) t)) ∧ Below w.heap.size w w' := by
  have hB := two_below w (.cells #[.int .i64 t.kind, .int .i64 t.int, .int .i64 t.gen, .string t.name, .string t.func, .int .i64 t.arity, .slice so t.items.length c, .string t.bytes, .int .i64 t.bits] 28) (.cells #[.int .i64 t.kind, .int .i64 t.int, .int .i64 t.gen, .string t.name, .string t.func, .int .i64 t.arity, .slice so t.items.length c, .string t.bytes, .int .i64 t.bits] 28)
  have hr := two1 w (.cells #[.int .i64 t.kind, .int .i64 t.int, .int .i64 t.gen, .string t.name, .string t.func, .int .i64 t.arity, .slice so t.items.length c, .string t.bytes, .int .i64 t.bits] 28) (.cells #[.int .i64 t.kind, .int .i64 t.int, .int .i64 t.gen, .string t.name, .string t.func, .int .i64 t.arity, .slice so t.items.length c, .string t.bytes, .int .i64 t.bits] 28)
  have hS := sum_any f [t] (some ⟨w.heap.size + 1, 0, none⟩) 1 ((w.alloc (.cells #[.int .i64 t.kind, .int .i64 t.int, .int .i64 t.gen, .string t.name, .string t.func, .int .i64 t.arity, .slice so t.items.length c, .string t.bytes, .int .i64 t.bits] 28)).alloc (.cells #[.int .i64 t.kind, .int .i64 t.int, .int .i64 t.gen, .string t.name, .string t.func, .int .i64 t.arity, .slice so t.items.length c, .string t.bytes, .int .i64 t.bits] 28)) (.inr ⟨w.heap.size + 1, 0, rfl, by simp, fun j hj => by
    obtain rfl : j = 0 := by simpa using hj
    refine ⟨[.int .i64 t.kind, .int .i64 t.int, .int .i64 t.gen, .string t.name, .string t.func, .int .i64 t.arity, .slice so t.items.length c, .string t.bytes, .int .i64 t.bits], rfl, fun i hi => ?_, ⟨so, c, rfl, ht.tms hB⟩, hok⟩
    rw [show 0 + 0 * 9 + i = i by omega, cell_of_row _ _ _ _ _ _ hr]; simp⟩) (by unfold maxLen; simp) (by simp [sumN]; omega)
  have e1 : [t].all (formF (f + 1)) = formF (f + 1) t := by simp
  have e2 : sumI ([t].map (wholeF (f + 1))) = wholeF (f + 1) t := by simp [sumI]
  rw [e1, e2] at hS
  unfold SumQ at hS
  have E : Hid (checkF (f + 1) t = if formF (f + 1) t = true then (if 2000 < wholeF (f + 1) t then 3 else 0) else 2) := Lib.hid rfl
  have HB := Lib.hid hB
  clear e1 e2 hr hB ht hok hs1
  generalize formF (f + 1) t = r at *
  generalize wholeF (f + 1) t = n at *
  cases r with
  | false =>
    rw [if_neg (by decide)] at E hS
    go_enter Tryz.func123, Tryz.ntmps123
    go_wp2_with fail
    refine hS.mono ?_
    rintro e w5 ⟨rfl, hb5⟩
    go_wp2_with fail
    go_ret
    exact ⟨ret1 E.out.symm, below_next HB.out hb5⟩
  | true =>
    rw [if_pos rfl] at E hS
    by_cases hn : 2000 < n
    · rw [if_pos hn] at E
      go_enter Tryz.func123, Tryz.ntmps123
      go_wp2_with fail
      refine hS.mono ?_
      rintro e w5 ⟨rfl, hb5⟩
      go_wp2_with fail
      go_ret
      exact ⟨ret1 E.out.symm, below_next HB.out hb5⟩
    · rw [if_neg hn] at E
      have hn' : n ≤ 2000 := by omega
      clear hn
      go_enter Tryz.func123, Tryz.ntmps123
      go_wp2_with fail
      refine hS.mono ?_
      rintro e w5 ⟨rfl, hb5⟩
      go_wp2_with fail
      go_ret
      exact ⟨ret1 E.out.symm, below_next HB.out hb5⟩
set_option maxRecDepth 100000 in
set_option maxHeartbeats 4000000 in
theorem tvalid_any (f : Nat) (t : Tm) (so : Option Addr) (c : Nat) (w : World) (ht : SlAt w 9 (TmAt w f) so t.items) (hok : t.Ok) (hs1 : (capF (f + 1) t : Int) ≤ 1152921504606846976) :
    Calls Tryz.prog 43 #[.agg #[.int .i64 t.kind, .int .i64 t.int, .int .i64 t.gen, .string t.name, .string t.func, .int .i64 t.arity, .slice so t.items.length c, .string t.bytes, .int .i64 t.bits]] w fun e w' => e = .returned (.bool (validF (f + 1) t)) ∧ Below w.heap.size w w' := by
  have hB : Below w.heap.size w (w.alloc (.cells #[.int .i64 t.kind, .int .i64 t.int, .int .i64 t.gen, .string t.name, .string t.func, .int .i64 t.arity, .slice so t.items.length c, .string t.bytes, .int .i64 t.bits] 28)) := (Below.refl _ _).alloc (Nat.le_refl _) _
  have hC := tcheck_any f t so c (w.alloc (.cells #[.int .i64 t.kind, .int .i64 t.int, .int .i64 t.gen, .string t.name, .string t.func, .int .i64 t.arity, .slice so t.items.length c, .string t.bytes, .int .i64 t.bits] 28)) (ht.tms hB) hok hs1
  have E : Hid ((checkF (f + 1) t == 0) = validF (f + 1) t) := Lib.hid (by
    unfold checkF validF
    cases formF (f + 1) t
    · rfl
    · rw [if_pos rfl, Bool.true_and]
      by_cases h : 2000 < wholeF (f + 1) t
      · rw [if_pos h, decide_eq_false (by omega)]; rfl
      · rw [if_neg h, decide_eq_true (by omega)]; rfl)
  have HB := Lib.hid hB
  clear hB ht hok hs1
  generalize checkF (f + 1) t = n at *
  go_enter Tryz.func43, Tryz.ntmps43
  go_wp2_with fail
  refine hC.mono ?_
  rintro e w5 ⟨rfl, hb5⟩
  go_wp2_with fail
  go_ret
  exact ⟨retb E.out, below_next HB.out hb5⟩
end Go.Proofs.YthmpobimmbmddaaGreatDoor
namespace Go.Proofs.YthmpobimmbmddaaGreatDoor
open Go.RowKit Go.Maps Go.WideMaps
set_option linter.unusedVariables false
set_option linter.unusedSimpArgs false

def words1 : List (List UInt8) := [[105, 115, 95, 105, 110, 116, 101, 103, 101, 114, 47, 49], [105, 115, 95, 97, 116, 111, 109, 47, 49], [105, 115, 95, 98, 111, 111, 108, 101, 97, 110, 47, 49], [105, 115, 95, 116, 117, 112, 108, 101, 47, 49], [105, 115, 95, 112, 105, 100, 47, 49], [105, 115, 95, 114, 101, 102, 47, 49], [105, 115, 95, 108, 105, 115, 116, 47, 49], [105, 115, 95, 98, 105, 116, 115, 47, 49], [105, 115, 95, 98, 121, 116, 101, 115, 47, 49], [105, 115, 95, 102, 117, 110, 47, 49], [105, 115, 95, 102, 117, 110, 47, 50], [101, 108, 101, 109, 101, 110, 116, 47, 50], [115, 105, 122, 101, 47, 49], [104, 100, 47, 49], [116, 108, 47, 49], [108, 101, 110, 103, 116, 104, 47, 49], [98, 105, 116, 95, 115, 105, 122, 101, 47, 49], [98, 121, 116, 101, 95, 115, 105, 122, 101, 47, 49], [97, 98, 115, 47, 49], [109, 105, 110, 47, 50], [109, 97, 120, 47, 50], [115, 101, 108, 102, 47, 48], [110, 111, 100, 101, 47, 48], [110, 111, 100, 101, 47, 49]]
def wordsS1 : List UInt8 := [105, 115, 95, 105, 110, 116, 101, 103, 101, 114, 47, 49, 32, 105, 115, 95, 97, 116, 111, 109, 47, 49, 32, 105, 115, 95, 98, 111, 111, 108, 101, 97, 110, 47, 49, 32, 105, 115, 95, 116, 117, 112, 108, 101, 47, 49, 32, 105, 115, 95, 112, 105, 100, 47, 49, 32, 105, 115, 95, 114, 101, 102, 47, 49, 32, 105, 115, 95, 108, 105, 115, 116, 47, 49, 32, 105, 115, 95, 98, 105, 116, 115, 47, 49, 32, 105, 115, 95, 98, 121, 116, 101, 115, 47, 49, 32, 105, 115, 95, 102, 117, 110, 47, 49, 32, 105, 115, 95, 102, 117, 110, 47, 50, 32, 101, 108, 101, 109, 101, 110, 116, 47, 50, 32, 115, 105, 122, 101, 47, 49, 32, 104, 100, 47, 49, 32, 116, 108, 47, 49, 32, 108, 101, 110, 103, 116, 104, 47, 49, 32, 98, 105, 116, 95, 115, 105, 122, 101, 47, 49, 32, 98, 121, 116, 101, 95, 115, 105, 122, 101, 47, 49, 32, 97, 98, 115, 47, 49, 32, 109, 105, 110, 47, 50, 32, 109, 97, 120, 47, 50, 32, 115, 101, 108, 102, 47, 48, 32, 110, 111, 100, 101, 47, 48, 32, 110, 111, 100, 101, 47, 49]
def words2 : List (List UInt8) := [[115, 101, 116, 101, 108, 101, 109, 101, 110, 116, 47, 51], [116, 111, 95, 108, 105, 115, 116, 47, 49], [116, 111, 95, 116, 117, 112, 108, 101, 47, 49], [116, 111, 95, 98, 121, 116, 101, 115, 47, 49], [102, 114, 111, 109, 95, 98, 121, 116, 101, 115, 47, 49], [114, 101, 118, 101, 114, 115, 101, 47, 49], [109, 101, 109, 98, 101, 114, 47, 50], [115, 111, 114, 116, 47, 49], [112, 97, 99, 107, 47, 49], [117, 110, 112, 97, 99, 107, 47, 49], [101, 114, 114, 111, 114, 47, 49], [101, 120, 105, 116, 47, 49], [116, 104, 114, 111, 119, 47, 49], [114, 97, 105, 115, 101, 47, 50]]
def wordsS2 : List UInt8 := [115, 101, 116, 101, 108, 101, 109, 101, 110, 116, 47, 51, 32, 116, 111, 95, 108, 105, 115, 116, 47, 49, 32, 116, 111, 95, 116, 117, 112, 108, 101, 47, 49, 32, 116, 111, 95, 98, 121, 116, 101, 115, 47, 49, 32, 102, 114, 111, 109, 95, 98, 121, 116, 101, 115, 47, 49, 32, 114, 101, 118, 101, 114, 115, 101, 47, 49, 32, 109, 101, 109, 98, 101, 114, 47, 50, 32, 115, 111, 114, 116, 47, 49, 32, 112, 97, 99, 107, 47, 49, 32, 117, 110, 112, 97, 99, 107, 47, 49, 32, 101, 114, 114, 111, 114, 47, 49, 32, 101, 120, 105, 116, 47, 49, 32, 116, 104, 114, 111, 119, 47, 49, 32, 114, 97, 105, 115, 101, 47, 50]
def words3 : List (List UInt8) := [[115, 112, 97, 119, 110, 47, 49], [115, 112, 97, 119, 110, 47, 51], [115, 112, 97, 119, 110, 95, 108, 105, 110, 107, 47, 49], [115, 112, 97, 119, 110, 95, 108, 105, 110, 107, 47, 51], [115, 112, 97, 119, 110, 95, 109, 111, 110, 105, 116, 111, 114, 47, 49], [115, 112, 97, 119, 110, 95, 109, 111, 110, 105, 116, 111, 114, 47, 51], [114, 101, 113, 117, 101, 115, 116, 47, 52], [108, 105, 110, 107, 47, 49], [117, 110, 108, 105, 110, 107, 47, 49], [109, 111, 110, 105, 116, 111, 114, 47, 49], [100, 101, 109, 111, 110, 105, 116, 111, 114, 47, 49], [101, 120, 105, 116, 47, 50], [116, 114, 97, 112, 47, 49], [112, 114, 105, 111, 114, 105, 116, 121, 47, 49], [114, 101, 103, 105, 115, 116, 101, 114, 47, 50], [117, 110, 114, 101, 103, 105, 115, 116, 101, 114, 47, 49], [119, 104, 101, 114, 101, 105, 115, 47, 49], [115, 101, 110, 100, 95, 97, 102, 116, 101, 114, 47, 51], [99, 97, 110, 99, 101, 108, 47, 49], [109, 97, 107, 101, 95, 114, 101, 102, 47, 48], [99, 108, 111, 99, 107, 47, 48], [115, 97, 121, 47, 49], [110, 111, 100, 101, 115, 47, 48], [119, 97, 116, 99, 104, 47, 49], [117, 110, 119, 97, 116, 99, 104, 47, 49], [116, 97, 98, 95, 110, 101, 119, 47, 49], [116, 97, 98, 95, 112, 117, 116, 47, 51], [116, 97, 98, 95, 103, 101, 116, 47, 50], [116, 97, 98, 95, 100, 101, 108, 47, 50], [116, 97, 98, 95, 110, 101, 120, 116, 47, 50], [116, 97, 98, 95, 115, 105, 122, 101, 47, 49], [116, 97, 98, 95, 100, 114, 111, 112, 47, 49]]
def wordsS3 : List UInt8 := [115, 112, 97, 119, 110, 47, 49, 32, 115, 112, 97, 119, 110, 47, 51, 32, 115, 112, 97, 119, 110, 95, 108, 105, 110, 107, 47, 49, 32, 115, 112, 97, 119, 110, 95, 108, 105, 110, 107, 47, 51, 32, 115, 112, 97, 119, 110, 95, 109, 111, 110, 105, 116, 111, 114, 47, 49, 32, 115, 112, 97, 119, 110, 95, 109, 111, 110, 105, 116, 111, 114, 47, 51, 32, 114, 101, 113, 117, 101, 115, 116, 47, 52, 32, 108, 105, 110, 107, 47, 49, 32, 117, 110, 108, 105, 110, 107, 47, 49, 32, 109, 111, 110, 105, 116, 111, 114, 47, 49, 32, 100, 101, 109, 111, 110, 105, 116, 111, 114, 47, 49, 32, 101, 120, 105, 116, 47, 50, 32, 116, 114, 97, 112, 47, 49, 32, 112, 114, 105, 111, 114, 105, 116, 121, 47, 49, 32, 114, 101, 103, 105, 115, 116, 101, 114, 47, 50, 32, 117, 110, 114, 101, 103, 105, 115, 116, 101, 114, 47, 49, 32, 119, 104, 101, 114, 101, 105, 115, 47, 49, 32, 115, 101, 110, 100, 95, 97, 102, 116, 101, 114, 47, 51, 32, 99, 97, 110, 99, 101, 108, 47, 49, 32, 109, 97, 107, 101, 95, 114, 101, 102, 47, 48, 32, 99, 108, 111, 99, 107, 47, 48, 32, 115, 97, 121, 47, 49, 32, 110, 111, 100, 101, 115, 47, 48, 32, 119, 97, 116, 99, 104, 47, 49, 32, 117, 110, 119, 97, 116, 99, 104, 47, 49, 32, 116, 97, 98, 95, 110, 101, 119, 47, 49, 32, 116, 97, 98, 95, 112, 117, 116, 47, 51, 32, 116, 97, 98, 95, 103, 101, 116, 47, 50, 32, 116, 97, 98, 95, 100, 101, 108, 47, 50, 32, 116, 97, 98, 95, 110, 101, 120, 116, 47, 50, 32, 116, 97, 98, 95, 115, 105, 122, 101, 47, 49, 32, 116, 97, 98, 95, 100, 114, 111, 112, 47, 49]
def words4 : List (List UInt8) := [[97, 112, 112, 108, 121, 47, 50], [97, 112, 112, 108, 121, 47, 51]]
def wordsS4 : List UInt8 := [97, 112, 112, 108, 121, 47, 50, 32, 97, 112, 112, 108, 121, 47, 51]
def classT : List UInt8 → Int := tabAll 4 words4 (tabAll 3 words3 (tabAll 2 words2 (tabAll 1 words1 (fun _ => 0))))
theorem ascii_of {l : List UInt8} (h : l.all (fun b => decide (b.toNat < 128)) = true) : ∀ (j : Nat) b, l[j]? = some b → b.toNat < 128 := fun j b hb => by
  have := List.all_eq_true.1 h b (List.mem_of_getElem? hb)
  simpa using this
theorem lens_of {ws : List (List UInt8)} (h : ws.all (fun x => decide (x.length ≤ 1000)) = true) : ∀ x ∈ ws, x.length ≤ 1000 := fun x hx => by
  have := List.all_eq_true.1 h x hx
  simpa using this

theorem words1_is : Lib.fields wordsS1 = words1 := by kernel_rfl
theorem words2_is : Lib.fields wordsS2 = words2 := by kernel_rfl
theorem words3_is : Lib.fields wordsS3 = words3 := by kernel_rfl
theorem words4_is : Lib.fields wordsS4 = words4 := by kernel_rfl

def SpaceAt (w : World) : Prop := Lib.TabIs Tryz.prog w "strings.asciiSpace" .u8 Lib.asciiSpaceTab
theorem SpaceAt.below {w w' : World} (h : SpaceAt w) (hb : Below w.heap.size w w') : SpaceAt w' := Joins.tab_stays (g := 0) (by kernel_rfl) h hb (Nat.le_refl _)
set_option maxRecDepth 100000 in
set_option maxHeartbeats 4000000 in
theorem classes_any (w : World) (hsp : SpaceAt w) : Calls Tryz.prog 21 #[] w fun e w' => ∃ M, e = .returned (.map (some M)) ∧ MapIs w' M 72 classT ∧ Below w.heap.size w w' := by
  have hmm := @run_makeMap Tryz.prog
  have HS := Lib.hid hsp
  go_enter Tryz.func21, Tryz.ntmps21
  go_wp2_with fail
  have hC0 : ((w.alloc (.map #[] 0)).alloc (.cells #[.map (some w.heap.size)] 46)).heap[w.heap.size + 1]? = some (.cells #[.map (some w.heap.size)] 46 (0, 0)) := by
    have h := heap_alloc_new (w.alloc (.map #[] 0)) (.cells #[.map (some w.heap.size)] 46)
    rwa [show (w.alloc (.map #[] 0)).heap.size = w.heap.size + 1 by simp] at h
  have hM0 : MapIs ((w.alloc (.map #[] 0)).alloc (.cells #[.map (some w.heap.size)] 46)) w.heap.size 0 (fun _ => 0) := ⟨_, (World.ownsMap_made _ _ _ _).alloc _, fun k => rfl⟩
  have hB0 : Below w.heap.size w ((w.alloc (.map #[] 0)).alloc (.cells #[.map (some w.heap.size)] 46)) := ((Below.refl _ _).alloc (Nat.le_refl _) _).alloc (by simp) _
  have hS0 := Lib.hid (hsp.below hB0)
  have hsz : w.heap.size ≤ ((w.alloc (.map #[] 0)).alloc (.cells #[.map (some w.heap.size)] 46)).heap.size := hB0.size
  generalize (w.alloc (.map #[] 0)).alloc (.cells #[.map (some w.heap.size)] 46) = w0 at *
  clear hmm
  refine (add_any 1 _ words1 w.heap.size (w.heap.size + 1) w.heap.size 0 (fun _ => 0) w0 words1_is (by decide) (by decide) (by decide) (lens_of (by kernel_rfl)) (by decide) (by decide) (ascii_of (l := wordsS1) (by kernel_rfl)) hS0.out hsz (by omega) (Nat.le_refl _) (by omega) hC0 hM0).mono ?_
  rintro e w1 ⟨rfl, hM1, hC1, hB1'⟩
  have hB1 : Below w.heap.size w w1 := hB0.trans hB1'
  have hsz1 : w.heap.size ≤ w1.heap.size := hB1.size
  have hS1 := Lib.hid (hsp.below hB1)
  change MapIs w1 w.heap.size 24 _ at hM1
  generalize ht1 : tabAll 1 words1 (fun _ => 0) = t1 at hM1
  have HT1 := Lib.hid ht1
  clear ht1 hM0 hC0 hB1' hB0 hsz
  go_wp2_with fail
  refine (add_any 2 _ words2 w.heap.size (w.heap.size + 1) w.heap.size 24 t1 w1 words2_is (by decide) (by decide) (by decide) (lens_of (by kernel_rfl)) (by decide) (by decide) (ascii_of (l := wordsS2) (by kernel_rfl)) hS1.out hsz1 (by omega) (Nat.le_refl _) (by omega) hC1 hM1).mono ?_
  rintro e w2 ⟨rfl, hM2, hC2, hB2'⟩
  have hB2 : Below w.heap.size w w2 := hB1.trans hB2'
  have hsz2 : w.heap.size ≤ w2.heap.size := hB2.size
  have hS2 := Lib.hid (hsp.below hB2)
  change MapIs w2 w.heap.size 38 _ at hM2
  generalize ht2 : tabAll 2 words2 t1 = t2 at hM2
  have HT2 := Lib.hid ht2
  clear ht2 hM1 hC1 hB2' hB1 hsz1
  go_wp2_with fail
  refine (add_any 3 _ words3 w.heap.size (w.heap.size + 1) w.heap.size 38 t2 w2 words3_is (by decide) (by decide) (by decide) (lens_of (by kernel_rfl)) (by decide) (by decide) (ascii_of (l := wordsS3) (by kernel_rfl)) hS2.out hsz2 (by omega) (Nat.le_refl _) (by omega) hC2 hM2).mono ?_
  rintro e w3 ⟨rfl, hM3, hC3, hB3'⟩
  have hB3 : Below w.heap.size w w3 := hB2.trans hB3'
  have hsz3 : w.heap.size ≤ w3.heap.size := hB3.size
  have hS3 := Lib.hid (hsp.below hB3)
  change MapIs w3 w.heap.size 70 _ at hM3
  generalize ht3 : tabAll 3 words3 t2 = t3 at hM3
  have HT3 := Lib.hid ht3
  clear ht3 hM2 hC2 hB3' hB2 hsz2
  go_wp2_with fail
  refine (add_any 4 _ words4 w.heap.size (w.heap.size + 1) w.heap.size 70 t3 w3 words4_is (by decide) (by decide) (by decide) (lens_of (by kernel_rfl)) (by decide) (by decide) (ascii_of (l := wordsS4) (by kernel_rfl)) hS3.out hsz3 (by omega) (Nat.le_refl _) (by omega) hC3 hM3).mono ?_
  rintro e w4 ⟨rfl, hM4, hC4, hB4'⟩
  have hB4 : Below w.heap.size w w4 := hB3.trans hB4'
  have hsz4 : w.heap.size ≤ w4.heap.size := hB4.size
  have hS4 := Lib.hid (hsp.below hB4)
  change MapIs w4 w.heap.size 72 _ at hM4
  generalize ht4 : tabAll 4 words4 t3 = t4 at hM4
  have HT4 := Lib.hid ht4
  clear ht4 hM3 hC3 hB4' hB3 hsz3
  have hc4 : w4.cell? ⟨w.heap.size + 1, 0, none⟩ = some (.map (some w.heap.size)) := by rw [cell_of_row _ _ _ _ _ _ hC4]; rfl
  go_wp2_with fail
  go_ret
  have e : classT = t4 := by unfold classT; rw [HT1.out, HT2.out, HT3.out, HT4.out]
  exact ⟨_, rfl, by rw [e]; exact hM4, hB4⟩

/-- The class of a built-in function. -/
def classB (s : ByteArray) (n : Int) : Int := if n < 0 ∨ 0 ≤ Lib.indexByte s.data.toList 47 then 0 else classT (s.data.toList ++ [47] ++ txt n)
theorem txt_len {n : Int} (h : I64 n) : (txt n).length ≤ 21 := by
  unfold I64 at h
  have := dig_len20 (m := n.natAbs) (by omega)
  unfold txt; split <;> simp <;> omega
set_option maxRecDepth 100000 in
set_option maxHeartbeats 4000000 in
theorem class_any (s : ByteArray) (n : Int) (w : World) (hsp : SpaceAt w) (hs : s.size ≤ 140737488355328) (hn : I64 n) : Calls Tryz.prog 7 #[.string s, .int .i64 n] w fun e w' => e = .returned (.int .i64 (classB s n)) ∧ Below w.heap.size w w' := by
  by_cases hneg : n < 0
  · have E : Hid (classB s n = 0) := Lib.hid (by unfold classB; rw [if_pos (.inl hneg)])
    go_enter Tryz.func7, Tryz.ntmps7
    go_wp2_with fail
    go_ret
    exact ⟨ret1 E.out.symm, Below.refl _ _⟩
  · have HC := Tryz.strings_Contains_one s 47
    by_cases hsl : 0 ≤ Lib.indexByte s.data.toList 47
    · have E : Hid (classB s n = 0) := Lib.hid (by unfold classB; rw [if_pos (.inr hsl)])
      rw [decide_eq_true hsl] at HC
      go_enter Tryz.func7, Tryz.ntmps7
      go_wp2_with (go_at_call 20; refine (HC _).mono ?_; rintro e w1 ⟨rfl, rfl⟩)
      go_ret
      exact ⟨ret1 E.out.symm, Below.refl _ _⟩
    · have E : Hid (classB s n = classT (s.data.toList ++ [47] ++ txt n)) := Lib.hid (by unfold classB; rw [if_neg (by omega)])
      rw [decide_eq_false hsl] at HC
      have HL := Lib.hid (txt_len hn)
      go_enter Tryz.func7, Tryz.ntmps7
      have hsz : s.size + 1 + (txt n).length ≤ 9223372036854775807 := by have := HL.out; omega
      have HL2 : Hid ((ByteArray.mk (s.data.toList ++ [47] ++ txt n).toArray).size ≤ maxLen) := Lib.hid (by
        have h1 : (ByteArray.mk (s.data.toList ++ [47] ++ txt n).toArray).size = s.size + 1 + (txt n).length := by
          show (s.data.toList ++ [47] ++ txt n).toArray.size = _
          rw [List.size_toArray, List.length_append, List.length_append]; rfl
        rw [h1]; unfold maxLen; omega)
      have hky : keyOf Tryz.prog 9 (.string (s ++ ⟨#[47]⟩ ++ ⟨(txt n).toArray⟩)) = some (.string (s.data.toList ++ [47] ++ txt n)) := by
        have h := keyOf_string_mk (P := Tryz.prog) (k := 9) (s := ⟨(s.data.toList ++ [47] ++ txt n).toArray⟩) Tryz.underlying9 (HL2.out)
        have e : (⟨(s.data.toList ++ [47] ++ txt n).toArray⟩ : ByteArray) = s ++ ⟨#[47]⟩ ++ ⟨(txt n).toArray⟩ := by
          apply ByteArray.ext; simp
        rwa [e] at h
      have HK := Lib.hid hky
      clear hky
      go_wp2_with (go_at_call 20; refine (HC _).mono ?_; rintro e w0 ⟨rfl, rfl⟩)
      refine (classes_any _ hsp).mono ?_
      rintro e w1 ⟨M, rfl, ⟨D, hown, hD⟩, hB1⟩
      go_wp2_with (go_at_call 22; refine (text_any n _ hn).mono ?_)
      rintro e w2 ⟨rfl, hB2⟩
      have hown2 : w2.ownsMap Tryz.prog 9 (plainElem Tryz.prog 3) M _ D := hown.kept (row := none) ⟨hB2.os, hB2.tape, hB2.output, hB2.size, fun k hk _ => hB2.block k hk⟩ (by simp)
      have hB12 : Below w0.heap.size w0 w2 := below_next hB1 hB2
      have HD := Lib.hid (hD (s.data.toList ++ [47] ++ txt n))
      clear hown hD HC
      go_wp2_with (at_lookup; refine wpList_lookup_own_int _ rfl _ _ 46 rfl 9 3 .i64 strLaw Tryz.underlying46 Tryz.underlying3 (zeroInt _) M 72 D rfl hown2 _ (.string (s.data.toList ++ [47] ++ txt n)) rfl HK.out ?_)
      intro c hat hwc
      have E2 : Hid (c = classB s n) := Lib.hid (by
        rw [E.out]; have h1 := HD.out; simp only [List.append_assoc, List.singleton_append] at h1 hat ⊢; have h := h1.symm.trans hat; injection h with h; injection h with _ h; exact h.symm)
      clear hat hwc
      go_wp2_with fail
      go_ret
      exact ⟨ret1 E2.out, hB12⟩
end Go.Proofs.YthmpobimmbmddaaGreatDoor
namespace Go.Proofs.YthmpobimmbmddaaGreatDoor
open Go.RowKit Go.Maps Go.WideMaps
set_option linter.unusedVariables false
set_option linter.unusedSimpArgs false

/-- A look-up of a key whose value is known. -/
theorem wpList_look_is {P : Program} {w : World} {ops : Array Oper} {rest : List Oper} {o : Oper} {a : Act} {Q : Exit → Act → World → Prop} (hg : o.guard = none) (m xo : Operand) (ty K E : TypeId) (hop : o.op = Op.lookup ty m xo false) (law : Keyed P K) (ht : P.underlying ty = some (.map K E)) {z : Value} (hz : (zeroValue E).run P w = .ok z w)
    {M n : Nat} {t : List UInt8 → Value} (hm : a.eval m = .map (some M)) (hM : MapVP P w K M n z t) (key : Value) (x : List UInt8) (hx : a.eval xo = key) (hkey : keyOf P K key = some (.string x)) {v : Value} (hv : t x = v)
    (hK : wpList P ops Q rest (a.put o.dst v) w) : wpList P ops Q (o :: rest) a w := wpList_look_V hg m xo ty K E hop law ht hz hm hM key x hx hkey (by rw [hv]; exact hK)
theorem neq_fn (fn : Fn) (a b : Array Value) (w : World) : (binOp .neq 70 (.func fn a b) .nilFunc).run Tryz.prog w = .ok (.bool true) w := by kernel_rfl
theorem eql_fn (fn : Fn) (a b : Array Value) (w : World) : (binOp .eql 70 (.func fn a b) .nilFunc).run Tryz.prog w = .ok (.bool false) w := by kernel_rfl
theorem neq_nil (w : World) : (binOp .neq 70 .nilFunc .nilFunc).run Tryz.prog w = .ok (.bool false) w := by kernel_rfl
theorem eql_nil (w : World) : (binOp .eql 70 .nilFunc .nilFunc).run Tryz.prog w = .ok (.bool true) w := by kernel_rfl

set_option maxRecDepth 100000 in
set_option maxHeartbeats 8000000 in
theorem apply_add (l : List Tm) (so : Option Addr) (c : Nat) (w : World) (hs : SlAt w 9 (TmAt w 1) so l) (hl : l.length = 2) (hk : ∀ t ∈ l, t.kind = 1) (hv : ∀ t ∈ l, validF 1 t = true) (hc : ∀ t ∈ l, capF 1 t ≤ 1000) (h1 : firstI l l.length = 1) (h2 : lastI l l.length = 2) :
    Calls Tryz.prog 19 #[zeroV, .string ⟨#[43]⟩, .slice so l.length c] w fun e w' => e = .returned (.tuple #[intV 3, noneV]) ∧ Below w.heap.size w w' := by
  have HT := Lib.hid (two_newP w (.cells zRow9 28)); have HB := Lib.hid (two_belowP w (.cells zRow9 28))
  have hSB : (((w.alloc (.cells zRow9 28)).alloc (.cells zRow9 28)).alloc (.cells zRow10 34)).heap[w.heap.size]? = some (.cells zRow9 28 (0, 0)) := by
    rw [Below.heap_alloc _ _ _ (by simp; omega), Below.heap_alloc _ _ _ (by simp)]; exact heap_alloc_new _ _
  have HSB := Lib.hid hSB
  have HS := Lib.hid (hs.tms HB.out); have HK := Lib.hid hk; have HV := Lib.hid hv; have HCp := Lib.hid hc
  have H1 := Lib.hid h1; have H2 := Lib.hid h2; have HL := Lib.hid hl
  have HCn := Tryz.strings_Contains_one ⟨#[43]⟩ 47
  rw [decide_eq_false (by decide)] at HCn
  have hn1 := neq_fn; have hn2 := eql_fn
  have KY := keyS [43] (by decide)
  rw [hl]
  clear hs hk hv hc h1 h2 hl hSB
  go_enter Tryz.func19, Tryz.ntmps19
  generalize hW : ((w.alloc (.cells zRow9 28)).alloc (.cells zRow9 28)).alloc (.cells zRow10 34) = W at *
  go_upto_region 20 with (first | (go_at_call 20; refine (HCn _).mono ?_; rintro e w0 ⟨rfl, rfl⟩) | (go_at_call 22; refine (text_any 2 _ (by unfold I64; omega)).mono ?_; rintro e w1 ⟨rfl, hb1⟩) | (go_at_call 40; refine (operators_any _).mono ?_; rintro e w2 ⟨rfl, hO⟩) | (at_lookup; refine wpList_look_is rfl _ _ 71 9 70 rfl opLaw Tryz.underlying71 (zeroF _) rfl hO.map _ [43] rfl KY (v := .func (.func 137) #[] #[.pointer (some ⟨w1.heap.size + 1, 0, none⟩)]) rfl ?_) | fail)
  have HB2 := Lib.hid (below_next hb1 hO.below)
  have HX := Lib.hid (hO.box 0 (by decide) (by decide))
  rw [show w1.heap.size + 1 + 0 = w1.heap.size + 1 by omega] at HX
  clear hO hb1 HCn KY hn1 hn2
  generalize w1.heap.size + 1 = C at *
  have HSf := Lib.hid (fun wx (hx : Below w0.heap.size w0 wx) => reckon_add l so c C wx)
  go_wp2_with fail
  go_loopw [66] (fun vk wr => ∃ j : Nat, j ≤ 2 ∧ vk = .int .i64 j ∧ Hid (Below w2.heap.size w2 wr)) (fun vk _ => 2 - (intOf vk).toNat)
  case atStart => exact ⟨0, by omega, rfl, Lib.hid (Below.refl _ _)⟩
  case round =>
    obtain ⟨j, hj, rfl, HBr⟩ := hrel
    rename World => wr
    by_cases hlt : j < 2
    · have hlt2 : j < l.length := by have := HL.out; omega
      have HBw := Lib.hid (below_next HB2.out HBr.out)
      obtain ⟨b, off, ai, c', hao, hb, q0, q1, q2, q3, q4, q5, q6, q7, q8, hit, hok⟩ := (HS.out.tms HBw.out).tm hlt2
      subst hao
      have hmem := List.getElem_mem hlt2
      have hva := HV.out _ hmem
      have hcp := HCp.out _ hmem
      generalize l[j] = t at *
      have hvd : Calls Tryz.prog 43 #[.agg #[.int .i64 t.kind, .int .i64 t.int, .int .i64 t.gen, .string t.name, .string t.func, .int .i64 t.arity, .slice ai t.items.length c', .string t.bytes, .int .i64 t.bits]] (wr.alloc (.cells #[.int .i64 t.kind, .int .i64 t.int, .int .i64 t.gen, .string t.name, .string t.func, .int .i64 t.arity, .slice ai t.items.length c', .string t.bytes, .int .i64 t.bits] 28)) fun e w' => e = .returned (.bool true) ∧ Below wr.heap.size wr w' :=
        (tvalid_any 0 t ai c' _ (hit.tms ((Below.refl _ _).alloc (Nat.le_refl _) _)) hok (by have : capF (0 + 1) t = capF 1 t := rfl; omega)).mono fun e w' h => ⟨by rw [h.1, hva], ((Below.refl _ _).alloc (Nat.le_refl _) _).trans (h.2.mono (by simp))⟩
      clear hit hok hva hcp hmem HSf
      go_wp2_with (first | (go_at_call 43; refine hvd.mono ?_; rintro e w5 ⟨rfl, hb5⟩) | fail)
      go_roundw
      case rel => exact ⟨j + 1, by omega, by go_num, Lib.hid (below_next HBr.out hb5)⟩
      case measure => simp [intOf]; omega
    · obtain rfl : j = 2 := by omega
      have HBw := Lib.hid (below_next HB2.out HBr.out)
      have hTB := HT.out.below HBw.out
      have hSBr := (HBw.out.block _ (lt_of_row HSB.out)).trans HSB.out
      have hCC : wr.heap[C]? = some (.cells #[.func (.func 65) #[] #[]] 96 (0, 0)) := (HBr.out.block _ (lt_of_row HX.out)).trans HX.out
      have hrk := reckon_add l so c C wr (HS.out.tms HBw.out) (by rw [HL.out]; unfold maxLen; omega) HK.out H1.out H2.out hCC
      rw [HL.out] at hrk
      obtain ⟨s0, s1, s2, s3, s4, s5, s6, s7, s8⟩ := term_cells hSBr
      clear hSBr hCC HSf
      go_wp2_with (first | (go_at_call 137; refine hrk.mono ?_; rintro e w5 ⟨rfl, hb5⟩; have hT := hTB.below hb5) | (refine wpList_store_row rfl 28 _ _ rfl (w.heap.size + 1) _ rfl rfl 28 _ hT.1 (by kernel_rfl) rfl (by simp [Value.oneCell']) ?_) | (refine wpList_store_row rfl 34 _ _ rfl (w.heap.size + 2) _ rfl rfl 34 _ (two_other hT (by omega) _) (by kernel_rfl) rfl (by simp [Value.oneCell']) ?_) | fail)
      obtain ⟨q1, q2, q3⟩ := two_set hT (by omega) (HB.out.trans ((below_next HBw.out hb5).mono HB.out.size)) (by omega) (by omega) #[.int .i64 1, .int .i64 3, .int .i64 0, .string ⟨#[]⟩, .string ⟨#[]⟩, .int .i64 0, .slice none 0 0, .string ⟨#[]⟩, .int .i64 0] zRow10
      refine bodyPost_ret (results_two_rows rfl _ _ _ (w.heap.size + 1) (w.heap.size + 2) _ _ _ _ _ _ _ _ rfl q1 rfl q2 Tryz.underlying28 (by kernel_rfl) Tryz.underlying34 (by kernel_rfl)) rfl ?_
      exact ⟨rfl, q3⟩
set_option maxRecDepth 100000 in
set_option maxHeartbeats 8000000 in
theorem apply_div (l : List Tm) (so : Option Addr) (c : Nat) (w : World) (hs : SlAt w 9 (TmAt w 1) so l) (hl : l.length = 2) (hk : ∀ t ∈ l, t.kind = 1) (hv : ∀ t ∈ l, validF 1 t = true) (hc : ∀ t ∈ l, capF 1 t ≤ 1000) (h1 : firstI l l.length = 1) (h2 : lastI l l.length = 0) :
    Calls Tryz.prog 19 #[zeroV, .string ⟨#[100, 105, 118]⟩, .slice so l.length c] w fun e w' => e = .returned (.tuple #[zeroV, failV ⟨#[98, 97, 100, 97, 114, 105, 116, 104]⟩]) ∧ Below w.heap.size w w' := by
  have HT := Lib.hid (two_newP w (.cells zRow9 28)); have HB := Lib.hid (two_belowP w (.cells zRow9 28))
  have hSB : (((w.alloc (.cells zRow9 28)).alloc (.cells zRow9 28)).alloc (.cells zRow10 34)).heap[w.heap.size]? = some (.cells zRow9 28 (0, 0)) := by
    rw [Below.heap_alloc _ _ _ (by simp; omega), Below.heap_alloc _ _ _ (by simp)]; exact heap_alloc_new _ _
  have HSB := Lib.hid hSB
  have HS := Lib.hid (hs.tms HB.out); have HK := Lib.hid hk; have HV := Lib.hid hv; have HCp := Lib.hid hc
  have H1 := Lib.hid h1; have H2 := Lib.hid h2; have HL := Lib.hid hl
  have HCn := Tryz.strings_Contains_one ⟨#[100, 105, 118]⟩ 47
  rw [decide_eq_false (by decide)] at HCn
  have hn1 := neq_fn; have hn2 := eql_fn
  have KY := keyS [100, 105, 118] (by decide)
  rw [hl]
  clear hs hk hv hc h1 h2 hl hSB
  go_enter Tryz.func19, Tryz.ntmps19
  generalize hW : ((w.alloc (.cells zRow9 28)).alloc (.cells zRow9 28)).alloc (.cells zRow10 34) = W at *
  go_upto_region 20 with (first | (go_at_call 20; refine (HCn _).mono ?_; rintro e w0 ⟨rfl, rfl⟩) | (go_at_call 22; refine (text_any 2 _ (by unfold I64; omega)).mono ?_; rintro e w1 ⟨rfl, hb1⟩) | (go_at_call 40; refine (operators_any _).mono ?_; rintro e w2 ⟨rfl, hO⟩) | (at_lookup; refine wpList_look_is rfl _ _ 71 9 70 rfl opLaw Tryz.underlying71 (zeroF _) rfl hO.map _ [100, 105, 118] rfl KY (v := .func (.func 137) #[] #[.pointer (some ⟨w1.heap.size + 4, 0, none⟩)]) rfl ?_) | fail)
  have HB2 := Lib.hid (below_next hb1 hO.below)
  have HX := Lib.hid (hO.box 3 (by decide) (by decide))
  rw [show w1.heap.size + 1 + 3 = w1.heap.size + 4 by omega] at HX
  clear hO hb1 HCn KY hn1 hn2
  generalize w1.heap.size + 4 = C at *
  have HSf := Lib.hid (fun wx (hx : Below w0.heap.size w0 wx) => reckon_div l so c C wx)
  go_wp2_with fail
  go_loopw [66] (fun vk wr => ∃ j : Nat, j ≤ 2 ∧ vk = .int .i64 j ∧ Hid (Below w2.heap.size w2 wr)) (fun vk _ => 2 - (intOf vk).toNat)
  case atStart => exact ⟨0, by omega, rfl, Lib.hid (Below.refl _ _)⟩
  case round =>
    obtain ⟨j, hj, rfl, HBr⟩ := hrel
    rename World => wr
    by_cases hlt : j < 2
    · have hlt2 : j < l.length := by have := HL.out; omega
      have HBw := Lib.hid (below_next HB2.out HBr.out)
      obtain ⟨b, off, ai, c', hao, hb, q0, q1, q2, q3, q4, q5, q6, q7, q8, hit, hok⟩ := (HS.out.tms HBw.out).tm hlt2
      subst hao
      have hmem := List.getElem_mem hlt2
      have hva := HV.out _ hmem
      have hcp := HCp.out _ hmem
      generalize l[j] = t at *
      have hvd : Calls Tryz.prog 43 #[.agg #[.int .i64 t.kind, .int .i64 t.int, .int .i64 t.gen, .string t.name, .string t.func, .int .i64 t.arity, .slice ai t.items.length c', .string t.bytes, .int .i64 t.bits]] (wr.alloc (.cells #[.int .i64 t.kind, .int .i64 t.int, .int .i64 t.gen, .string t.name, .string t.func, .int .i64 t.arity, .slice ai t.items.length c', .string t.bytes, .int .i64 t.bits] 28)) fun e w' => e = .returned (.bool true) ∧ Below wr.heap.size wr w' :=
        (tvalid_any 0 t ai c' _ (hit.tms ((Below.refl _ _).alloc (Nat.le_refl _) _)) hok (by have : capF (0 + 1) t = capF 1 t := rfl; omega)).mono fun e w' h => ⟨by rw [h.1, hva], ((Below.refl _ _).alloc (Nat.le_refl _) _).trans (h.2.mono (by simp))⟩
      clear hit hok hva hcp hmem HSf
      go_wp2_with (first | (go_at_call 43; refine hvd.mono ?_; rintro e w5 ⟨rfl, hb5⟩) | fail)
      go_roundw
      case rel => exact ⟨j + 1, by omega, by go_num, Lib.hid (below_next HBr.out hb5)⟩
      case measure => simp [intOf]; omega
    · obtain rfl : j = 2 := by omega
      have HBw := Lib.hid (below_next HB2.out HBr.out)
      have hTB := HT.out.below HBw.out
      have hSBr := (HBw.out.block _ (lt_of_row HSB.out)).trans HSB.out
      have hCC : wr.heap[C]? = some (.cells #[.func (.func 68) #[] #[]] 96 (0, 0)) := (HBr.out.block _ (lt_of_row HX.out)).trans HX.out
      have hrk := reckon_div l so c C wr (HS.out.tms HBw.out) (by rw [HL.out]; unfold maxLen; omega) HK.out H1.out H2.out hCC
      rw [HL.out] at hrk
      obtain ⟨s0, s1, s2, s3, s4, s5, s6, s7, s8⟩ := term_cells hSBr
      clear hSBr hCC HSf
      go_wp2_with (first | (go_at_call 137; refine hrk.mono ?_; rintro e w5 ⟨rfl, hb5⟩; have hT := hTB.below hb5) | (refine wpList_store_row rfl 28 _ _ rfl (w.heap.size + 1) _ rfl rfl 28 _ hT.1 (by kernel_rfl) rfl (by simp [Value.oneCell']) ?_) | (refine wpList_store_row rfl 34 _ _ rfl (w.heap.size + 2) _ rfl rfl 34 _ (two_other hT (by omega) _) (by kernel_rfl) rfl (by simp [Value.oneCell']) ?_) | fail)
      obtain ⟨q1, q2, q3⟩ := two_set hT (by omega) (HB.out.trans ((below_next HBw.out hb5).mono HB.out.size)) (by omega) (by omega) zRow9 #[.string ⟨#[101, 114, 114, 111, 114]⟩, .int .i64 2, .int .i64 0, .int .i64 0, .string ⟨#[98, 97, 100, 97, 114, 105, 116, 104]⟩, .string ⟨#[]⟩, .int .i64 0, .slice none 0 0, .string ⟨#[]⟩, .int .i64 0]
      refine bodyPost_ret (results_two_rows rfl _ _ _ (w.heap.size + 1) (w.heap.size + 2) _ _ _ _ _ _ _ _ rfl q1 rfl q2 Tryz.underlying28 (by kernel_rfl) Tryz.underlying34 (by kernel_rfl)) rfl ?_
      exact ⟨rfl, q3⟩
end Go.Proofs.YthmpobimmbmddaaGreatDoor
namespace Go.Proofs.YthmpobimmbmddaaGreatDoor
open Go.RowKit Go.Maps Go.WideMaps
set_option linter.unusedVariables false
set_option linter.unusedSimpArgs false

set_option maxRecDepth 100000 in
theorem class_foo : classB ⟨#[102, 111, 111]⟩ 0 = 0 := by kernel_rfl
set_option maxRecDepth 100000 in
set_option maxHeartbeats 8000000 in
theorem apply_foo (w : World) (hsp : SpaceAt w) :
    Calls Tryz.prog 19 #[zeroV, .string ⟨#[102, 111, 111]⟩, .slice none 0 0] w fun e w' => e = .returned (.tuple #[zeroV, failV ⟨#[117, 110, 100, 101, 102]⟩]) ∧ Below w.heap.size w w' := by
  have HT := Lib.hid (two_newP w (.cells zRow9 28)); have HB := Lib.hid (two_belowP w (.cells zRow9 28))
  have HSp := Lib.hid (hsp.below HB.out)
  have HCn := Tryz.strings_Contains_one ⟨#[102, 111, 111]⟩ 47
  rw [decide_eq_false (by decide)] at HCn
  have hn1 := neq_nil; have hn2 := eql_nil
  clear hsp
  go_enter Tryz.func19, Tryz.ntmps19
  generalize hW : ((w.alloc (.cells zRow9 28)).alloc (.cells zRow9 28)).alloc (.cells zRow10 34) = W at *
  go_wp2_with (first | (go_at_call 20; refine (HCn _).mono ?_; rintro e w0 ⟨rfl, rfl⟩) | (go_at_call 22; refine (text_any 0 _ (by unfold I64; omega)).mono ?_; rintro e w1 ⟨rfl, hb1⟩) | (go_at_call 7; refine (class_any ⟨#[102, 111, 111]⟩ 0 _ (HSp.out.below hb1) (by decide) (by unfold I64; omega)).mono ?_; rintro e w2 ⟨rfl, hb2⟩; rw [class_foo]) | (go_at_call 29; refine (none_any _ _).mono ?_; rintro e w3 ⟨rfl, hb3⟩; have hb13 := below_next (below_next hb1 hb2) hb3; have hT := HT.out.below hb13) | (refine wpList_store_row rfl 28 _ _ rfl (w.heap.size + 1) _ rfl rfl 28 _ hT.1 (by kernel_rfl) rfl (by simp [Value.oneCell']) ?_) | (refine wpList_store_row rfl 34 _ _ rfl (w.heap.size + 2) _ rfl rfl 34 _ (two_other hT (by omega) _) (by kernel_rfl) rfl (by simp [Value.oneCell']) ?_) | fail)
  obtain ⟨q1, q2, q3⟩ := two_set hT (by omega) (HB.out.trans (hb13.mono HB.out.size)) (by omega) (by omega) zRow9 #[.string ⟨#[101, 114, 114, 111, 114]⟩, .int .i64 2, .int .i64 0, .int .i64 0, .string ⟨#[117, 110, 100, 101, 102]⟩, .string ⟨#[]⟩, .int .i64 0, .slice none 0 0, .string ⟨#[]⟩, .int .i64 0]
  refine bodyPost_ret (results_two_rows rfl _ _ _ (w.heap.size + 1) (w.heap.size + 2) _ _ _ _ _ _ _ _ rfl q1 rfl q2 Tryz.underlying28 (by kernel_rfl) Tryz.underlying34 (by kernel_rfl)) rfl ?_
  exact ⟨rfl, q3⟩
end Go.Proofs.YthmpobimmbmddaaGreatDoor
namespace Go.Proofs.YthmpobimmbmddaaGreatDoor
open Go.RowKit
set_option linter.unusedVariables false
set_option linter.unusedSimpArgs false

def leftOf : List Bool → Nat
  | [] => 0
  | b :: l => (if b then 0 else 1) + leftOf l
theorem leftOf_set : ∀ (l : List Bool) (i : Nat), l[i]? = some false → leftOf (l.set i true) + 1 = leftOf l
  | [], i, h => by simp at h
  | b :: l, 0, h => by
    simp at h
    subst h
    show 0 + leftOf l + 1 = 1 + leftOf l
    omega
  | b :: l, i + 1, h => by
    have := leftOf_set l i (by simpa using h)
    show (if b then 0 else 1) + leftOf (l.set i true) + 1 = (if b then 0 else 1) + leftOf l
    omega
theorem leftOf_zero : ∀ (l : List Bool), leftOf l = 0 → ∀ (i : Nat) b, l[i]? = some b → b = true
  | [], _, i, b, h => by simp at h
  | b :: l, h0, 0, c, h => by
    simp at h
    subst h
    cases b with
    | true => rfl
    | false => have : 1 + leftOf l = 0 := h0; omega
  | b :: l, h0, i + 1, c, h => leftOf_zero l (by have : (if b then 0 else 1) + leftOf l = 0 := h0; omega) i c (by simpa using h)
theorem leftOf_rep : ∀ n : Nat, leftOf (List.replicate n false) = n
  | 0 => rfl
  | n + 1 => by
    show 1 + leftOf (List.replicate n false) = n + 1
    rw [leftOf_rep n]; omega
section
variable {P : Program} {ops : Array Oper} {Q : Exit → Act → World → Prop} {md : Region.Mode}
theorem ready_mem {listed : Array Bool} {i : Nat} (h : i ∈ Region.ready md ops listed) : i < ops.size ∧ listed.getD i true = false ∧ ∀ o, ops[i]? = some o → ∀ e ∈ o.after, Region.binds md e = true → listed.getD e.on false = true := by
  unfold Region.ready at h
  obtain ⟨h1, h2⟩ := List.mem_filter.1 h
  rw [Bool.and_eq_true] at h2
  refine ⟨List.mem_range.1 h1, by simpa using h2.1, fun o ho e he hb => ?_⟩
  have h3 := h2.2
  rw [ho] at h3
  have h4 := Array.all_eq_true_iff_forall_mem.1 (show o.after.all (fun e => !Region.binds md e || listed.getD e.on false) = true from h3) e he
  rw [hb] at h4
  exact h4
theorem mem_ready {listed : Array Bool} {i : Nat} {o : Oper} (hi : ops[i]? = some o) (h1 : listed.getD i true = false) (h2 : ∀ e ∈ o.after, Region.binds md e = true → listed.getD e.on false = true) : i ∈ Region.ready md ops listed := by
  unfold Region.ready
  refine List.mem_filter.2 ⟨List.mem_range.2 (Array.getElem?_eq_some_iff.1 hi).1, ?_⟩
  rw [Bool.and_eq_true, hi]
  refine ⟨by rw [h1]; rfl, ?_⟩
  show o.after.all _ = true
  refine Array.all_eq_true_iff_forall_mem.2 fun e he => ?_
  cases hb : Region.binds md e with
  | false => rfl
  | true => rw [h2 e he hb]; rfl
/-- THE LAW: what holds at the start and is kept by each operation that may come up holds at the end. -/
theorem wpAny_inv (Inv : Array Bool → Act → World → Prop)
    (hstep : ∀ listed a w i, listed.size = ops.size → Inv listed a w → i ∈ Region.ready md ops listed → wpOp P ops Q i (fun a' w' => Inv (listed.setIfInBounds i true) a' w') a w)
    (hend : ∀ listed a w, listed.size = ops.size → Inv listed a w → Region.ready md ops listed = [] → Q .normal a w) :
    ∀ (fuel : Nat) (listed : Array Bool) (a : Act) (w : World), listed.size = ops.size → leftOf listed.toList ≤ fuel → Inv listed a w → wpAny P md ops Q fuel listed a w
  | 0, listed, a, w, hs, hl, hi => by
    have hr : Region.ready md ops listed = [] := List.eq_nil_iff_forall_not_mem.2 fun i hi => by
      obtain ⟨h1, h2, -⟩ := ready_mem hi
      have h3 : listed[i]? = some false := by
        rw [← hs] at h1
        rw [Array.getElem?_eq_getElem h1]
        rw [Array.getD_eq_getD_getElem?, Array.getElem?_eq_getElem h1] at h2
        exact congrArg some h2
      have := leftOf_zero listed.toList (Nat.le_zero.1 hl) i false (by rw [Array.getElem?_toList]; exact h3)
      cases this
    exact ⟨hr, hend _ _ _ hs hi hr⟩
  | fuel + 1, listed, a, w, hs, hl, hi => by
    refine ⟨fun h => hend _ _ _ hs hi h, fun i hr => ?_⟩
    refine wpOp_mono (fun a' w' h' => ?_) (hstep _ _ _ _ hs hi hr)
    obtain ⟨h1, h2, -⟩ := ready_mem hr
    have h3 : listed[i]? = some false := by
      rw [← hs] at h1
      rw [Array.getElem?_eq_getElem h1]
      rw [Array.getD_eq_getD_getElem?, Array.getElem?_eq_getElem h1] at h2
      exact congrArg some h2
    refine wpAny_inv Inv hstep hend fuel _ a' w' (by simpa using hs) ?_ h'
    have h4 := leftOf_set listed.toList i (by rw [Array.getElem?_toList]; exact h3)
    rw [Array.toList_setIfInBounds]
    omega
/-- Each operation waits for earlier ones alone. -/
def backOk (md : Region.Mode) (ops : Array Oper) : Bool := (List.range ops.size).all fun i => match ops[i]? with
  | some o => o.after.all fun e => !Region.binds md e || decide (e.on < i)
  | none => true
theorem all_listed {listed : Array Bool} (hb : backOk md ops = true) (hs : listed.size = ops.size) (hr : Region.ready md ops listed = []) : ∀ i, i < ops.size → listed.getD i false = true := by
  intro i
  induction i using Nat.strongRecOn with
  | _ i ih =>
    intro hi
    cases h : listed.getD i false with
    | true => rfl
    | false =>
      exfalso
      have h1 : listed.getD i true = false := by
        rw [Array.getD_eq_getD_getElem?, Array.getElem?_eq_getElem (by omega)] at h ⊢
        exact h
      have ho : ops[i]? = some ops[i] := Array.getElem?_eq_getElem hi
      have hm : i ∈ Region.ready md ops listed := mem_ready ho h1 fun e he hbe => by
        have h2 := List.all_eq_true.1 hb i (List.mem_range.2 hi)
        rw [ho] at h2
        have h3 := Array.all_eq_true_iff_forall_mem.1 (show ops[i].after.all (fun e => !Region.binds md e || decide (e.on < i)) = true from h2) e he
        rw [hbe] at h3
        have h4 : e.on < i := of_decide_eq_true h3
        exact ih _ h4 (Nat.lt_trans h4 hi)
      rw [hr] at hm
      cases hm
/-- The region, by an invariant. -/
theorem wp_region_inv {id : Nat} {ops' : Array Oper} {a : Act} {w : World} (Inv : Array Bool → Act → World → Prop) (hm : P.follows .mixedOrders = true) (he : ops' = ops) (hb : backOk .any ops = true)
    (h0 : Inv (Array.replicate ops.size false) a w.drew)
    (hstep : ∀ listed a w i, listed.size = ops.size → Inv listed a w → i ∈ Region.ready .any ops listed → wpOp P ops Q i (fun a' w' => Inv (listed.setIfInBounds i true) a' w') a w)
    (hend : ∀ listed a w, Inv listed a w → (∀ i, i < ops.size → listed.getD i false = true) → Q .normal a w) : (Code.region id ops' true).wp P Q a w := by
  subst he
  refine wp_region_any hm ?_
  refine wpAny_inv Inv hstep (fun l a w hs hi hr => hend l a w hi (all_listed hb hs hr)) _ _ _ _ (by simp) ?_ h0
  rw [Array.toList_replicate, leftOf_rep]
  exact Nat.le_refl _
theorem wpOp_of {i : Nat} {o : Oper} {K : Act → World → Prop} {a : Act} {w : World} (ho : ops[i]? = some o) (hg : o.guard = none) (h : o.wp P a w K Q) : wpOp P ops Q i K a w := by
  unfold wpOp
  rw [ho]
  have hw : Region.wanted o (yielded ops a.tmps) = true := by simp [Region.wanted, hg]
  simp only [hw, if_true]
  exact .inl h
theorem wp_move {o : Oper} {a : Act} {w : World} {K : Act → World → Prop} (x : Operand) (ho : o.op = .move x) (h : K (a.put o.dst (a.eval x)) w) : o.wp P a w K Q := by
  unfold Oper.wp
  have : (execOp a.eval o).run P w = .ok (.value (a.eval x)) w := by simp [execOp, ho]
  rw [this]
  exact h
theorem wp_assign {o : Oper} {a : Act} {w : World} {K : Act → World → Prop} (x : Operand) (ho : o.op = .assign x) (h : K (a.put o.dst (a.eval x)) w) : o.wp P a w K Q := by
  unfold Oper.wp
  have : (execOp a.eval o).run P w = .ok (.value (a.eval x)) w := by simp [execOp, ho]
  rw [this]
  exact h
theorem wp_build' {o : Oper} {a : Act} {w : World} {K : Act → World → Prop} (t : TypeId) (parts : Array (Nat × Operand)) (ho : o.op = .build t parts) (cells : Array Value) (hb : P.built t (parts.map fun (i, x) => (i, a.eval x)).toList = some cells) (h : K (a.put o.dst (.agg cells)) w) : o.wp P a w K Q := by
  unfold Oper.wp execOp
  simp only [ho, Sem.run_bind, run_build w t _ _ hb, Result.andThen_ok]
  exact h
theorem wp_call' {o : Oper} {a : Act} {w : World} {K : Act → World → Prop} (f : FuncId) (args : Array Value) (hrun : (execOp a.eval o).run P w = .ok (.enter f args) w) (R : Value → World → Prop)
    (hc : Calls P f args w fun e w'' => ∃ v, e = .returned v ∧ R v w'') (h : ∀ v w'', R v w'' → K (a.put o.dst v) w'') : o.wp P a w K Q := by
  unfold Oper.wp
  rw [hrun, Oper.upon_enter]
  refine hc.mono fun e w'' hh => ?_
  obtain ⟨v, rfl, hv⟩ := hh
  exact h _ _ hv
theorem eval_put (a : Act) (d t : Tmp) (v : Value) (h : d < a.tmps.size) : (a.put (some d) v).eval (.tmp t) = if t = d then v else a.eval (.tmp t) := by
  show (a.tmps.setIfInBounds d v).getD t undef = if t = d then v else a.tmps.getD t undef
  rw [Array.getD_eq_getD_getElem?, Array.getD_eq_getD_getElem?, Array.getElem?_setIfInBounds]
  by_cases c : d = t
  · subst c; simp [h]
  · rw [if_neg c, if_neg (fun e => c e.symm)]
/-- The operations of a region, read off the code. -/
def regOps (id : Nat) : Code → Array Oper
  | .region i ops _ => if i = id then ops else #[]
  | .seq a b => let x := regOps id a; if x.size = 0 then regOps id b else x
  | .block _ b => regOps id b
  | _ => #[]
end
end Go.Proofs.YthmpobimmbmddaaGreatDoor
