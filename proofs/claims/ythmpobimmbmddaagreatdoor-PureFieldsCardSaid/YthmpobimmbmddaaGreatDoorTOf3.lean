/-
  slices.ContainsFunc over terms, terms.sum, Check, Valid: the walks.
-/
import Derived.Test.YthmpobimmbmddaaGreatDoorTOf2
namespace Go.Proofs.YthmpobimmbmddaaGreatDoor
open Go.RowKit
set_option linter.unusedVariables false
set_option linter.unusedSimpArgs false

theorem of_any {f : Nat} (HC : Hid (CfP f)) : OfP f := fun t so c M s w0 w ht hok hb hM hm hs0 hs1 => by
  by_cases hk : 0 ≤ t.kind ∧ t.kind < 11
  · exact of_in HC t so c M s w0 w ht hok hb hM hm hs0 hs1 hk.1 hk.2
  · exact of_out t so c M s w0 w hm hk
theorem cnt_after {M : Nat} {s : Int} {c1 : Nat} {o1 : Bool} {a1 : Int} {w w1 w2 : World} (h : Below w.heap.size w w1) (h1 : CntQ M s c1 o1 a1 w1 w2) : CntQ M s c1 o1 a1 w w2 := ⟨grownBy_trans (grownBy_below h _) h1.1, h1.2⟩
theorem cnt_step {M : Nat} {s : Int} {c1 c2 : Nat} {o1 o2 : Bool} {a1 a2 : Int} {w w1 w2 : World} (h1 : CntQ M s c1 o1 a1 w w1) (ho : o1 = true) (h2 : ∀ s', MeasAt M s' w1 → s' = s + a1 → CntQ M s' c2 o2 a2 w1 w2) (ha : 0 ≤ s) : CntQ M s (c1 + c2) o2 (a1 + a2) w w2 := by
  obtain ⟨g1, s1, x1, x2, x3, x4⟩ := h1
  obtain ⟨g2, s2, y1, y2, y3, y4⟩ := h2 s1 x3 (x4 ho)
  have := x4 ho
  exact ⟨grownBy_trans g1 g2, s2, by omega, by omega, y3, fun h => by have := y4 h; omega⟩

set_option maxRecDepth 100000 in
set_option maxHeartbeats 4000000 in
/-- The closure of (*measure).of. -/
theorem of1_any {f : Nat} (HO : Hid (OfP f)) (t : Tm) (so : Option Addr) (c M mb : Nat) (s : Int) (w0 w : World) (ht : SlAt w0 9 (TmAt w0 f) so t.items) (hok : t.Ok) (hb : Below w0.heap.size w0 w) (hM : w0.heap.size ≤ M) (hm : MeasAt M s w) (hmb : w.heap[mb]? = some (.cells #[.pointer (some ⟨M, 0, none⟩)] 164 (0, 0))) (hs0 : 0 ≤ s) (hs1 : s + capF (f + 1) t ≤ 1152921504606846976) :
    Calls Tryz.prog 216 #[.agg #[.int .i64 t.kind, .int .i64 t.int, .int .i64 t.gen, .string t.name, .string t.func, .int .i64 t.arity, .slice so t.items.length c, .string t.bytes, .int .i64 t.bits], .pointer (some ⟨mb, 0, none⟩)] w fun e w' => e = .returned (.bool (!(formF (f + 1) t))) ∧ CntQ M s (capF (f + 1) t) (formF (f + 1) t) (wholeF (f + 1) t) w w' := by
  have hB : Below w.heap.size w (w.alloc (.cells #[.int .i64 t.kind, .int .i64 t.int, .int .i64 t.gen, .string t.name, .string t.func, .int .i64 t.arity, .slice so t.items.length c, .string t.bytes, .int .i64 t.bits] 28)) := (Below.refl _ _).alloc (Nat.le_refl _) _
  have hO := HO.out t so c M s w0 (w.alloc (.cells #[.int .i64 t.kind, .int .i64 t.int, .int .i64 t.gen, .string t.name, .string t.func, .int .i64 t.arity, .slice so t.items.length c, .string t.bytes, .int .i64 t.bits] 28)) ht hok (hb.trans (hB.mono hb.size)) hM (hm.below hB) hs0 hs1
  have c0 : w.cell? ⟨mb, 0, none⟩ = some (.pointer (some ⟨M, 0, none⟩)) := by rw [cell_of_row _ _ _ _ _ _ hmb]; rfl
  have hl := lt_of_row hmb
  have HBB := Lib.hid hB
  clear hmb hB hm hb ht hok hs0 hs1
  generalize formF (f + 1) t = r at *
  cases r
  all_goals
    go_enter Tryz.func216, Tryz.ntmps216
    go_wp2_with fail
    refine hO.mono ?_
    rintro e w5 ⟨rfl, hq⟩
    have HQ := Lib.hid hq
    clear hq
    go_wp2_with fail
    go_ret
    exact ⟨rfl, cnt_after HBB.out HQ.out⟩

/-- What is counted of the first k, and the rest. -/
theorem sumN_drop {f : Nat} {l : List Tm} {k : Nat} (h : k < l.length) : sumN ((l.drop k).map (capF f)) = capF f l[k] + sumN ((l.drop (k + 1)).map (capF f)) := by
  rw [List.drop_eq_getElem_cons h, List.map_cons, sumN]
theorem sumI_drop {f : Nat} {l : List Tm} {k : Nat} (h : k < l.length) : sumI ((l.drop k).map (wholeF f)) = wholeF f l[k] + sumI ((l.drop (k + 1)).map (wholeF f)) := by
  rw [List.drop_eq_getElem_cons h, List.map_cons, sumI]
theorem all_drop {p : Tm → Bool} {l : List Tm} {k : Nat} (h : k < l.length) : (l.drop k).all p = (p l[k] && (l.drop (k + 1)).all p) := by
  rw [List.drop_eq_getElem_cons h, List.all_cons]

/-- What slices.IndexFunc tells. -/
def IdxQ (M : Nat) (s : Int) (cap : Nat) (ok : Bool) (add : Int) (w : World) (e : Ending) (w' : World) : Prop := (∃ i : Int, e = .returned (.int .i64 i) ∧ decide (0 ≤ i) = !ok) ∧ CntQ M s cap ok add w w'
/-- Going on from the first k. -/
def GoQ (M : Nat) (s : Int) (f : Nat) (l : List Tm) (k : Nat) (w wr : World) : Prop := w.grownBy wr (some M) ∧ ∃ s', s ≤ s' ∧ s' + sumN ((l.drop k).map (capF f)) ≤ s + sumN (l.map (capF f)) ∧ MeasAt M s' wr ∧ l.all (formF f) = (l.drop k).all (formF f) ∧ s' + sumI ((l.drop k).map (wholeF f)) = s + sumI (l.map (wholeF f))
set_option maxRecDepth 100000 in
set_option maxHeartbeats 4000000 in
theorem idx_succ {f : Nat} (HO : Hid (OfP f)) (l : List Tm) (ao : Option Addr) (c M mb : Nat) (s : Int) (w0 w : World) (ht : SlAt w0 9 (TmAt w0 (f + 1)) ao l) (hl : l.length ≤ maxLen) (hb : Below w0.heap.size w0 w) (hM : w0.heap.size ≤ M) (hm : MeasAt M s w) (hmb : w.heap[mb]? = some (.cells #[.pointer (some ⟨M, 0, none⟩)] 164 (0, 0))) (hne : mb ≠ M) (hs0 : 0 ≤ s) (hs1 : s + sumN (l.map (capF (f + 1))) ≤ 1152921504606846976) :
    Calls Tryz.prog 232 #[.slice ao l.length c, .func (.func 216) #[] #[.pointer (some ⟨mb, 0, none⟩)]] w (IdxQ M s (sumN (l.map (capF (f + 1)))) (l.all (formF (f + 1))) (sumI (l.map (wholeF (f + 1)))) w) := by
  unfold maxLen at hl
  have HT := Lib.hid ht; have HB := Lib.hid hb; have HMB := Lib.hid hmb
  have HG : Hid (GoQ M s (f + 1) l 0 w w) := Lib.hid ⟨grownBy_refl _ _, s, Int.le_refl _, by rw [List.drop_zero]; omega, hm, rfl, by rw [List.drop_zero]⟩
  have HML := Lib.hid (lt_of_row hmb)
  clear ht hb hmb hm
  go_enter Tryz.func232, Tryz.ntmps232
  go_wp2_with fail
  go_loopw [5, 8] (fun _ i wr => ∃ k : Nat, k ≤ l.length ∧ i = .int .i64 k ∧ Hid (GoQ M s (f + 1) l k w wr)) (fun _ i _ => l.length - (intOf i).toNat)
  case atStart => exact ⟨0, Nat.zero_le _, rfl, HG⟩
  case round =>
    obtain ⟨k, hk, rfl, HK⟩ := hrel
    rename World => wr
    obtain ⟨g1, s', z1, z2, z3, z4, z5⟩ := HK.out
    have hB0r : Below w0.heap.size w0 wr := below_grown HB.out g1 hM
    have hmbr := (g1.block mb HML.out (fun e => hne (Option.some.inj e))).trans HMB.out
    by_cases hlt : k < l.length
    · have hsa := HT.out.tms hB0r
      obtain ⟨b1, off1, ai, ci, hao, hb1, q0, q1, q2, q3, q4, q5, q6, q7, q8, hit, hok⟩ := hsa.tm hlt
      obtain ⟨b1', off1', ai', ci', hao', hb1', q0', q1', q2', q3', q4', q5', q6', q7', q8', hit', hok'⟩ := HT.out.tm hlt
      subst hao
      obtain ⟨rfl, rfl⟩ : b1 = b1' ∧ off1 = off1' := by injection hao' with h; injection h with h1 h2; exact ⟨h1, h2⟩
      have hai : ai = ai' := by
        have h := (hB0r.cell (p := ⟨b1, off1 + k * 9 + 6, none⟩) hb1').symm.trans q6
        rw [q6'] at h; injection h with h; injection h with h1 h2; exact h1.symm
      subst hai
      rw [sumN_drop hlt] at z2
      rw [all_drop hlt] at z4
      rw [sumI_drop hlt] at z5
      have hO := of1_any HO l[k] ai ci M mb s' w0 wr hit' hok hB0r hM z3 hmbr (by omega) (by omega)
      have Z2 := Lib.hid z2; have Z4 := Lib.hid z4; have Z5 := Lib.hid z5
      clear hao' q0' q1' q2' q3' q4' q5' q6' q7' q8' hit' hok' hit hok hsa z2 z4 z5
      generalize l[k] = x at *
      cases hr : formF (f + 1) x with
      | true =>
        rw [hr] at hO
        have Z4' : Hid (l.all (formF (f + 1)) = (l.drop (k + 1)).all (formF (f + 1))) := Lib.hid (by rw [Z4.out, hr, Bool.true_and])
        clear hr
        go_wp2_with fail
        refine hO.mono ?_
        rintro e w5 ⟨rfl, g5, s5, y1, y2, y3, y4⟩
        have HG5 : Hid (GoQ M s (f + 1) l (k + 1) w w5) := Lib.hid ⟨grownBy_trans g1 g5, s5, by omega, by have := Z2.out; omega, y3, Z4'.out, by have := Z5.out; have := y4 rfl; omega⟩
        go_wp2_with fail
        go_roundw
        case rel => exact ⟨k + 1, by omega, by go_num, HG5⟩
        case measure => simp [intOf]; omega
      | false =>
        rw [hr] at hO
        have Z4' : Hid (l.all (formF (f + 1)) = false) := Lib.hid (by rw [Z4.out, hr, Bool.false_and])
        clear hr
        go_wp2_with fail
        refine hO.mono ?_
        rintro e w5 ⟨rfl, g5, s5, y1, y2, y3, y4⟩
        have HF : Hid (CntQ M s (sumN (l.map (capF (f + 1)))) (l.all (formF (f + 1))) (sumI (l.map (wholeF (f + 1)))) w w5) := Lib.hid ⟨grownBy_trans g1 g5, s5, by omega, by have := Z2.out; omega, y3, fun h => absurd (Z4'.out.symm.trans h) (by decide)⟩
        have HE : Hid (decide (0 ≤ (k : Int)) = !(l.all (formF (f + 1)))) := Lib.hid (by rw [Z4'.out, decide_eq_true (by omega)]; rfl)
        go_wp2_with fail
        go_ret
        exact ⟨⟨_, rfl, HE.out⟩, HF.out⟩
    · have hke : l.drop k = [] := List.drop_eq_nil_of_le (by omega)
      rw [hke] at z2 z4 z5
      have HF : Hid (CntQ M s (sumN (l.map (capF (f + 1)))) (l.all (formF (f + 1))) (sumI (l.map (wholeF (f + 1)))) w wr) := Lib.hid ⟨g1, s', z1, by simp only [List.map_nil, sumN] at z2; omega, z3, fun _ => by simp only [List.map_nil, sumI] at z5; omega⟩
      have HE : Hid (decide (0 ≤ (-1 : Int)) = !(l.all (formF (f + 1)))) := Lib.hid (by rw [z4]; rfl)
      clear z2 z4 z5 hke
      go_wp2_with fail
      go_ret
      exact ⟨⟨_, rfl, HE.out⟩, HF.out⟩
set_option maxRecDepth 100000 in
set_option maxHeartbeats 4000000 in
theorem idx_zero (ao : Option Addr) (c M mb : Nat) (s : Int) (w : World) (hm : MeasAt M s w) :
    Calls Tryz.prog 232 #[.slice ao 0 c, .func (.func 216) #[] #[.pointer (some ⟨mb, 0, none⟩)]] w (IdxQ M s 0 true 0 w) := by
  have HF : Hid (CntQ M s 0 true 0 w w) := Lib.hid ⟨grownBy_refl _ _, s, Int.le_refl _, by omega, hm, fun _ => by omega⟩
  clear hm
  go_enter Tryz.func232, Tryz.ntmps232
  go_wp2_with fail
  go_loop [8] (fun i => i = .int .i64 0) (fun _ => 0)
  case atStart => rfl
  case round =>
    obtain rfl := hrel
    go_wp2_with fail
    go_ret
    exact ⟨⟨_, rfl, rfl⟩, HF.out⟩
set_option maxRecDepth 100000 in
set_option maxHeartbeats 4000000 in
theorem cf_of (l : List Tm) (ao : Option Addr) (c M mb : Nat) (s : Int) (cap : Nat) (ok : Bool) (add : Int) (w : World)
    (h : Calls Tryz.prog 232 #[.slice ao l.length c, .func (.func 216) #[] #[.pointer (some ⟨mb, 0, none⟩)]] w (IdxQ M s cap ok add w)) :
    Calls Tryz.prog 215 #[.slice ao l.length c, .func (.func 216) #[] #[.pointer (some ⟨mb, 0, none⟩)]] w fun e w' => e = .returned (.bool (!ok)) ∧ CntQ M s cap ok add w w' := by
  go_enter Tryz.func215, Tryz.ntmps215
  go_wp2_with fail
  refine h.mono ?_
  rintro e w5 ⟨⟨i, rfl, hi⟩, hq⟩
  have HI := Lib.hid hi; have HQ := Lib.hid hq
  clear hi hq
  go_wp2_with fail
  go_ret
  exact ⟨retb HI.out, HQ.out⟩
theorem cf_all : ∀ f, CfP f
  | 0 => fun l ao c M mb s w0 w ht hl hb hM hm hmb hne hs0 hs1 => by
    obtain rfl := ht.zero
    exact cf_of [] ao c M mb s 0 true 0 w (idx_zero ao c M mb s w hm)
  | f + 1 => fun l ao c M mb s w0 w ht hl hb hM hm hmb hne hs0 hs1 =>
    cf_of l ao c M mb s _ _ _ w (idx_succ (Lib.hid (of_any (Lib.hid (cf_all f)))) l ao c M mb s w0 w ht hl hb hM hm hmb hne hs0 hs1)
theorem of_all (f : Nat) : OfP f := of_any (Lib.hid (cf_all f))
end Go.Proofs.YthmpobimmbmddaaGreatDoor
