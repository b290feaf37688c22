/-
  terms.kinds, sum, Check, Valid: the walks (printed by gen_of4.py).
-/
import Derived.Test.YthmpobimmbmddaaGreatDoorTOf3
import Derived.Laws.EntriesVeiled
namespace Go.Proofs.YthmpobimmbmddaaGreatDoor
open Go.RowKit
set_option linter.unusedVariables false
set_option linter.unusedSimpArgs false

set_option maxRecDepth 100000 in
set_option maxHeartbeats 4000000 in
theorem kinds_any (w : World) : Calls Tryz.prog 181 #[] w fun e w' => e = .returned (.agg #[.func (.func 206) #[] #[], .func (.func 207) #[] #[], .func (.func 208) #[] #[], .func (.func 203) #[] #[], .func (.func 209) #[] #[], .func (.func 210) #[] #[], .func (.func 203) #[] #[], .func (.func 211) #[] #[], .func (.func 212) #[] #[], .func (.func 213) #[] #[], .func (.func 214) #[] #[]]) ∧ Below w.heap.size w w' := by
  go_enter Tryz.func181, Tryz.ntmps181
  go_wp2_with fail
  exact bodyPost_ret (v := .agg #[.func (.func 206) #[] #[], .func (.func 207) #[] #[], .func (.func 208) #[] #[], .func (.func 203) #[] #[], .func (.func 209) #[] #[], .func (.func 210) #[] #[], .func (.func 203) #[] #[], .func (.func 211) #[] #[], .func (.func 212) #[] #[], .func (.func 213) #[] #[], .func (.func 214) #[] #[]]) (by simp [results, Tryz.results181, go_sem]) rfl ⟨rfl, (Below.refl _ _).alloc (Nat.le_refl _) _⟩

theorem ret_ib' {k : IntKind} {a b : Int} {c d : Bool} (h : a = b) (h' : c = d) : Ending.returned (.tuple #[.int k a, .bool c]) = .returned (.tuple #[.int k b, .bool d]) := by rw [h, h']
/-- What terms.sum tells. -/
def SumQ (w : World) (ok : Bool) (n : Int) (e : Ending) (w' : World) : Prop := e = .returned (.tuple #[.int .i64 (if ok = true then n else 0), .bool ok]) ∧ Below w.heap.size w w'
theorem sumQ_no {w w' : World} {ok : Bool} {n : Int} (h : ok = false) (hb : Below w.heap.size w w') : SumQ w ok n (.returned (.tuple #[.int .i64 0, .bool false])) w' := by subst h; exact ⟨rfl, hb⟩
theorem sumQ_yes {w w' : World} {ok : Bool} {n m : Int} (h : ok = true) (hn : m = n) (hb : Below w.heap.size w w') : SumQ w ok n (.returned (.tuple #[.int .i64 m, .bool true])) w' := by subst h; subst hn; exact ⟨rfl, hb⟩
set_option maxRecDepth 100000 in
set_option maxHeartbeats 4000000 in
theorem sum_any (f : Nat) (l : List Tm) (ao : Option Addr) (c : Nat) (w : World) (ht : SlAt w 9 (TmAt w (f + 1)) ao l) (hl : l.length ≤ maxLen) (hs1 : (sumN (l.map (capF (f + 1))) : Int) ≤ 1152921504606846976) :
    Calls Tryz.prog 168 #[.slice ao l.length c] w (SumQ w (l.all (formF (f + 1))) (sumI (l.map (wholeF (f + 1))))) := by
  unfold maxLen at hl
  have HT := Lib.hid ht
  clear ht
  go_enter Tryz.func168, Tryz.ntmps168
  go_wp2_with fail
  refine (kinds_any _).mono ?_
  rintro e w1 ⟨rfl, hb1⟩
  go_wp2_with fail
  have hm := heap_alloc_new w1 (.cells #[.func (.func 206) #[] #[], .func (.func 207) #[] #[], .func (.func 208) #[] #[], .func (.func 203) #[] #[], .func (.func 209) #[] #[], .func (.func 210) #[] #[], .func (.func 203) #[] #[], .func (.func 211) #[] #[], .func (.func 212) #[] #[], .func (.func 213) #[] #[], .func (.func 214) #[] #[], .int .i64 0] 168)
  have hb2 : Below w.heap.size w (w1.alloc (.cells #[.func (.func 206) #[] #[], .func (.func 207) #[] #[], .func (.func 208) #[] #[], .func (.func 203) #[] #[], .func (.func 209) #[] #[], .func (.func 210) #[] #[], .func (.func 203) #[] #[], .func (.func 211) #[] #[], .func (.func 212) #[] #[], .func (.func 213) #[] #[], .func (.func 214) #[] #[], .int .i64 0] 168)) := hb1.alloc hb1.size _
  have hM : w.heap.size ≤ w1.heap.size := hb1.size
  generalize w1.alloc (.cells #[.func (.func 206) #[] #[], .func (.func 207) #[] #[], .func (.func 208) #[] #[], .func (.func 203) #[] #[], .func (.func 209) #[] #[], .func (.func 210) #[] #[], .func (.func 203) #[] #[], .func (.func 211) #[] #[], .func (.func 212) #[] #[], .func (.func 213) #[] #[], .func (.func 214) #[] #[], .int .i64 0] 168) = W at *
  generalize w1.heap.size = M at *
  have HM : Hid (MeasAt M 0 W) := Lib.hid hm
  have HG : Hid (GoQ M 0 (f + 1) l 0 W W) := Lib.hid ⟨grownBy_refl _ _, 0, Int.le_refl _, by rw [List.drop_zero]; omega, hm, rfl, by rw [List.drop_zero]⟩
  have HB := Lib.hid hb2
  clear hm hb2 hb1
  go_loopw [7, 15] (fun _ i wr => ∃ k : Nat, k ≤ l.length ∧ i = .int .i64 k ∧ Hid (GoQ M 0 (f + 1) l k W wr)) (fun _ i _ => l.length - (intOf i).toNat)
  case atStart => exact ⟨0, Nat.zero_le _, rfl, HG⟩
  case round =>
    obtain ⟨k, hk, rfl, HK⟩ := hrel
    rename World => wr
    obtain ⟨g1, s', z1, z2, z3, z4, z5⟩ := HK.out
    have hB0r : Below w.heap.size w wr := below_grown HB.out g1 hM
    by_cases hlt : k < l.length
    · have hsa := HT.out.tms hB0r
      obtain ⟨b1, off1, ai, ci, hao, hb1, q0, q1, q2, q3, q4, q5, q6, q7, q8, hit, hok⟩ := hsa.tm hlt
      obtain ⟨b1', off1', ai', ci', hao', hb1', q0', q1', q2', q3', q4', q5', q6', q7', q8', hit', hok'⟩ := HT.out.tm hlt
      subst hao
      obtain ⟨rfl, rfl⟩ : b1 = b1' ∧ off1 = off1' := by injection hao' with h; injection h with h1 h2; exact ⟨h1, h2⟩
      have hai : ai = ai' := by
        have h := (hB0r.cell (p := ⟨b1, off1 + k * 9 + 6, none⟩) hb1').symm.trans q6
        rw [q6'] at h; injection h with h; injection h with h1 h2; exact h1.symm
      subst hai
      rw [sumN_drop hlt] at z2
      rw [all_drop hlt] at z4
      rw [sumI_drop hlt] at z5
      have hbx : Below wr.heap.size wr (wr.alloc (.cells #[.int .i64 l[k].kind, .int .i64 l[k].int, .int .i64 l[k].gen, .string l[k].name, .string l[k].func, .int .i64 l[k].arity, .slice ai l[k].items.length ci, .string l[k].bytes, .int .i64 l[k].bits] 28)) := (Below.refl _ _).alloc (Nat.le_refl _) _
      have HGX : Hid (W.grownBy (wr.alloc (.cells #[.int .i64 l[k].kind, .int .i64 l[k].int, .int .i64 l[k].gen, .string l[k].name, .string l[k].func, .int .i64 l[k].arity, .slice ai l[k].items.length ci, .string l[k].bytes, .int .i64 l[k].bits] 28)) (some M)) := Lib.hid (grownBy_trans g1 (grownBy_below hbx _))
      have hO := of_all f l[k] ai ci M s' w (wr.alloc (.cells #[.int .i64 l[k].kind, .int .i64 l[k].int, .int .i64 l[k].gen, .string l[k].name, .string l[k].func, .int .i64 l[k].arity, .slice ai l[k].items.length ci, .string l[k].bytes, .int .i64 l[k].bits] 28)) hit' hok' (hB0r.trans (hbx.mono hB0r.size)) hM (z3.below hbx) (by omega) (by omega)
      have Z2 := Lib.hid z2; have Z4 := Lib.hid z4; have Z5 := Lib.hid z5
      clear hao' q0' q1' q2' q3' q4' q5' q6' q7' q8' hit' hok' hit hok hsa z2 z4 z5 hbx
      generalize l[k] = x at *
      cases hr : formF (f + 1) x with
      | true =>
        rw [hr] at hO
        have Z4' : Hid (l.all (formF (f + 1)) = (l.drop (k + 1)).all (formF (f + 1))) := Lib.hid (by rw [Z4.out, hr, Bool.true_and])
        clear hr
        go_wp2_with fail
        refine hO.mono ?_
        rintro e w5 ⟨rfl, g5, s5, y1, y2, y3, y4⟩
        have HG5 : Hid (GoQ M 0 (f + 1) l (k + 1) W w5) := Lib.hid ⟨grownBy_trans HGX.out g5, s5, by omega, by have := Z2.out; omega, y3, Z4'.out, by have := Z5.out; have := y4 rfl; omega⟩
        go_wp2_with fail
        go_roundw
        case rel => exact ⟨k + 1, by omega, by go_num, HG5⟩
        case measure => simp [intOf]; omega
      | false =>
        rw [hr] at hO
        have Z4' : Hid (l.all (formF (f + 1)) = false) := Lib.hid (by rw [Z4.out, hr, Bool.false_and])
        clear hr
        go_wp2_with fail
        refine hO.mono ?_
        rintro e w5 ⟨rfl, g5, s5, y1, y2, y3, y4⟩
        have HF : Hid (Below w.heap.size w w5) := Lib.hid (below_grown HB.out (grownBy_trans HGX.out g5) hM)
        go_wp2_with fail
        go_ret2
        exact sumQ_no Z4'.out HF.out
    · have hke : l.drop k = [] := List.drop_eq_nil_of_le (by omega)
      rw [hke] at z4 z5
      have E1 : Hid (l.all (formF (f + 1)) = true) := Lib.hid z4
      have E2 : Hid (s' = sumI (l.map (wholeF (f + 1)))) := Lib.hid (by simp only [List.map_nil, sumI] at z5; omega)
      obtain ⟨m11, mz⟩ := z3.cell
      clear z2 z4 z5 hke z3
      go_wp2_with fail
      go_ret2
      exact sumQ_yes E1.out E2.out hB0r

/-- What terms.Check returns. -/
def checkF (f : Nat) (t : Tm) : Int := if formF f t = true then (if 2000 < wholeF f t then 3 else 0) else 2
set_option maxRecDepth 100000 in
set_option maxHeartbeats 4000000 in
theorem tcheck_any (f : Nat) (t : Tm) (so : Option Addr) (c : Nat) (w : World) (ht : SlAt w 9 (TmAt w f) so t.items) (hok : t.Ok) (hs1 : (capF (f + 1) t : Int) ≤ 1152921504606846976) :
    Calls Tryz.prog 123 #[.agg #[.int .i64 t.kind, .int .i64 t.int, .int .i64 t.gen, .string t.name, .string t.func, .int .i64 t.arity, .slice so t.items.length c, .string t.bytes, .int .i64 t.bits]] w fun e w' => e = .returned (.int .i64 (checkF (f + 1) t)) ∧ Below w.heap.size w w' := by
  have hB := two_below w (.cells #[.int .i64 t.kind, .int .i64 t.int, .int .i64 t.gen, .string t.name, .string t.func, .int .i64 t.arity, .slice so t.items.length c, .string t.bytes, .int .i64 t.bits] 28) (.cells #[.int .i64 t.kind, .int .i64 t.int, .int .i64 t.gen, .string t.name, .string t.func, .int .i64 t.arity, .slice so t.items.length c, .string t.bytes, .int .i64 t.bits] 28)
  have hr := two1 w (.cells #[.int .i64 t.kind, .int .i64 t.int, .int .i64 t.gen, .string t.name, .string t.func, .int .i64 t.arity, .slice so t.items.length c, .string t.bytes, .int .i64 t.bits] 28) (.cells #[.int .i64 t.kind, .int .i64 t.int, .int .i64 t.gen, .string t.name, .string t.func, .int .i64 t.arity, .slice so t.items.length c, .string t.bytes, .int .i64 t.bits] 28)
  have hS := sum_any f [t] (some ⟨w.heap.size + 1, 0, none⟩) 1 ((w.alloc (.cells #[.int .i64 t.kind, .int .i64 t.int, .int .i64 t.gen, .string t.name, .string t.func, .int .i64 t.arity, .slice so t.items.length c, .string t.bytes, .int .i64 t.bits] 28)).alloc (.cells #[.int .i64 t.kind, .int .i64 t.int, .int .i64 t.gen, .string t.name, .string t.func, .int .i64 t.arity, .slice so t.items.length c, .string t.bytes, .int .i64 t.bits] 28)) (.inr ⟨w.heap.size + 1, 0, rfl, by simp, fun j hj => by
    obtain rfl : j = 0 := by simpa using hj
    refine ⟨[.int .i64 t.kind, .int .i64 t.int, .int .i64 t.gen, .string t.name, .string t.func, .int .i64 t.arity, .slice so t.items.length c, .string t.bytes, .int .i64 t.bits], rfl, fun i hi => ?_, ⟨so, c, rfl, ht.tms hB⟩, hok⟩
    rw [show 0 + 0 * 9 + i = i by omega, cell_of_row _ _ _ _ _ _ hr]; simp⟩) (by unfold maxLen; simp) (by simp [sumN]; omega)
  have e1 : [t].all (formF (f + 1)) = formF (f + 1) t := by simp
  have e2 : sumI ([t].map (wholeF (f + 1))) = wholeF (f + 1) t := by simp [sumI]
  rw [e1, e2] at hS
  unfold SumQ at hS
  have E : Hid (checkF (f + 1) t = if formF (f + 1) t = true then (if 2000 < wholeF (f + 1) t then 3 else 0) else 2) := Lib.hid rfl
  have HB := Lib.hid hB
  clear e1 e2 hr hB ht hok hs1
  generalize formF (f + 1) t = r at *
  generalize wholeF (f + 1) t = n at *
  cases r with
  | false =>
    rw [if_neg (by decide)] at E hS
    go_enter Tryz.func123, Tryz.ntmps123
    go_wp2_with fail
    refine hS.mono ?_
    rintro e w5 ⟨rfl, hb5⟩
    go_wp2_with fail
    go_ret
    exact ⟨ret1 E.out.symm, below_next HB.out hb5⟩
  | true =>
    rw [if_pos rfl] at E hS
    by_cases hn : 2000 < n
    · rw [if_pos hn] at E
      go_enter Tryz.func123, Tryz.ntmps123
      go_wp2_with fail
      refine hS.mono ?_
      rintro e w5 ⟨rfl, hb5⟩
      go_wp2_with fail
      go_ret
      exact ⟨ret1 E.out.symm, below_next HB.out hb5⟩
    · rw [if_neg hn] at E
      have hn' : n ≤ 2000 := by omega
      clear hn
      go_enter Tryz.func123, Tryz.ntmps123
      go_wp2_with fail
      refine hS.mono ?_
      rintro e w5 ⟨rfl, hb5⟩
      go_wp2_with fail
      go_ret
      exact ⟨ret1 E.out.symm, below_next HB.out hb5⟩
set_option maxRecDepth 100000 in
set_option maxHeartbeats 4000000 in
theorem tvalid_any (f : Nat) (t : Tm) (so : Option Addr) (c : Nat) (w : World) (ht : SlAt w 9 (TmAt w f) so t.items) (hok : t.Ok) (hs1 : (capF (f + 1) t : Int) ≤ 1152921504606846976) :
    Calls Tryz.prog 43 #[.agg #[.int .i64 t.kind, .int .i64 t.int, .int .i64 t.gen, .string t.name, .string t.func, .int .i64 t.arity, .slice so t.items.length c, .string t.bytes, .int .i64 t.bits]] w fun e w' => e = .returned (.bool (validF (f + 1) t)) ∧ Below w.heap.size w w' := by
  have hB : Below w.heap.size w (w.alloc (.cells #[.int .i64 t.kind, .int .i64 t.int, .int .i64 t.gen, .string t.name, .string t.func, .int .i64 t.arity, .slice so t.items.length c, .string t.bytes, .int .i64 t.bits] 28)) := (Below.refl _ _).alloc (Nat.le_refl _) _
  have hC := tcheck_any f t so c (w.alloc (.cells #[.int .i64 t.kind, .int .i64 t.int, .int .i64 t.gen, .string t.name, .string t.func, .int .i64 t.arity, .slice so t.items.length c, .string t.bytes, .int .i64 t.bits] 28)) (ht.tms hB) hok hs1
  have E : Hid ((checkF (f + 1) t == 0) = validF (f + 1) t) := Lib.hid (by
    unfold checkF validF
    cases formF (f + 1) t
    · rfl
    · rw [if_pos rfl, Bool.true_and]
      by_cases h : 2000 < wholeF (f + 1) t
      · rw [if_pos h, decide_eq_false (by omega)]; rfl
      · rw [if_neg h, decide_eq_true (by omega)]; rfl)
  have HB := Lib.hid hB
  clear hB ht hok hs1
  generalize checkF (f + 1) t = n at *
  go_enter Tryz.func43, Tryz.ntmps43
  go_wp2_with fail
  refine hC.mono ?_
  rintro e w5 ⟨rfl, hb5⟩
  go_wp2_with fail
  go_ret
  exact ⟨retb E.out, below_next HB.out hb5⟩
end Go.Proofs.YthmpobimmbmddaaGreatDoor
