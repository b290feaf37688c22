/-
  order.Less on integers, atoms and nil: the walks (printed by gen_order.py). lists: the walk (printed by gen_lists.py).
-/
import Derived.Deep.RegionHeld3
import Derived.Test.YtghgbikmlbildaaGreatDoorRoundsAll02
import Derived.Test.YtghgbikmlbildaaGreatDoorRoundsAll07
import Derived.Test.YtghgbikmlbildaaGreatDoorRoundsAll09
namespace Go.Proofs.YtghgbikmlbildaaGreatDoor
open Go.RowKit
set_option linter.unusedVariables false
set_option linter.unusedSimpArgs false

set_option maxHeartbeats 4000000 in
theorem isNaN64_any (x : Int) (w : World) : Calls Tryz.prog 243 #[.int .i64 x] w fun e w' => e = .returned (.bool false) ∧ w = w' := by
 go_enter Tryz.func243, Tryz.ntmps243
 go_wp2
 go_ret
 exact ⟨rfl, rfl⟩
set_option maxRecDepth 100000 in
set_option maxHeartbeats 4000000 in
theorem cmp64_any (x y : Int) (w : World) : Calls Tryz.prog 194 #[.int .i64 x, .int .i64 y] w fun e w' => e = .returned (.int .i64 (Lib.compareInt x y)) ∧ w = w' := by
 by_cases h1 : x < y
 ·have E : Hid (Lib.compareInt x y = -1) := Lib.hid (by unfold Lib.compareInt; rw [if_pos h1])
  go_enter Tryz.func194, Tryz.ntmps194
  go_wp2_with (go_at_call 243; refine (isNaN64_any _ _).mono ?_; rintro e w1 ⟨rfl, rfl⟩)
  go_ret
  exact ⟨ret1 E.out.symm, rfl⟩
 ·by_cases h2 : y < x
  ·have E : Hid (Lib.compareInt x y = 1) := Lib.hid (by unfold Lib.compareInt; rw [if_neg h1, if_pos h2])
   have h1' : y ≤ x := by omega
   clear h1
   go_enter Tryz.func194, Tryz.ntmps194
   go_wp2_with (go_at_call 243; refine (isNaN64_any _ _).mono ?_; rintro e w1 ⟨rfl, rfl⟩)
   go_ret
   exact ⟨ret1 E.out.symm, rfl⟩
  ·obtain rfl : x = y := by omega
   have E : Hid (Lib.compareInt x x = 0) := Lib.hid (by unfold Lib.compareInt; rw [if_neg h1, if_neg h1])
   clear h1 h2
   go_enter Tryz.func194, Tryz.ntmps194
   go_wp2_with (go_at_call 243; refine (isNaN64_any _ _).mono ?_; rintro e w1 ⟨rfl, rfl⟩)
   go_ret
   exact ⟨ret1 E.out.symm, rfl⟩

/-- The first that is not 0. -/
def orL : List Int → Int
 | [] => 0
 | x :: l => if x = 0 then orL l else x
theorem orL_drop {l : List Int} {k : Nat} (h : k < l.length) : orL (l.drop k) = if l[k] = 0 then orL (l.drop (k + 1)) else l[k] := by rw [List.drop_eq_getElem_cons h, orL]
set_option maxRecDepth 100000 in
set_option maxHeartbeats 4000000 in
theorem or_any (l : List Int) (hl : l.length ≤ 1000) (B c : Nat) (w : World) (hc : ∀ k (h : k < l.length), w.cell? ⟨B, k, none⟩ = some (.int .i64 l[k])) :
  Calls Tryz.prog 192 #[.slice (some ⟨B, 0, none⟩) l.length c] w fun e w' => e = .returned (.int .i64 (orL l)) ∧ w = w' := by
 have HC := Lib.hid hc
 have HI : Hid (orL l = orL (l.drop 0)) := Lib.hid rfl
 clear hc
 go_enter Tryz.func192, Tryz.ntmps192
 go_wp2_with fail
 go_loop [5, 8] (fun _ i => ∃ k : Nat, k ≤ l.length ∧ i = .int .i64 k ∧ Hid (orL l = orL (l.drop k))) (fun _ i => l.length - (intOf i).toNat)
 case atStart => exact ⟨0, Nat.zero_le _, rfl, HI⟩
 case round =>
  obtain ⟨k, hk, rfl, HK⟩ := hrel
  by_cases hlt : k < l.length
  ·have hcell := HC.out k hlt
   have HD := Lib.hid (orL_drop hlt)
   generalize l[k] = x at *
   by_cases hx : x = 0
   ·have HK2 : Hid (orL l = orL (l.drop (k + 1))) := Lib.hid (by rw [HK.out, HD.out, if_pos hx])
    have hb : (x != 0) = false := by rw [hx]; rfl
    clear hx
    go_wp2
    go_round
    case rel => exact ⟨k + 1, by omega, by go_num, HK2⟩
    case measure => simp [intOf]; omega
   ·have E : Hid (orL l = x) := Lib.hid (by rw [HK.out, HD.out, if_neg hx])
    have hb : (x != 0) = true := by rw [bne_iff_ne]; exact hx
    clear hx
    go_wp2
    go_ret
    exact ⟨ret1 E.out.symm, rfl⟩
  ·have E : Hid (orL l = 0) := Lib.hid (by rw [HK.out, List.drop_eq_nil_of_le (by omega)]; rfl)
   go_wp2
   go_ret
   exact ⟨ret1 E.out.symm, rfl⟩
set_option maxRecDepth 100000 in
set_option maxHeartbeats 4000000 in
theorem each_nil (ao bo : Option Addr) (c d : Nat) (v : Value) (w : World) :
  Calls Tryz.prog 240 #[.slice ao 0 c, .slice bo 0 d, v] w fun e w' => e = .returned (.int .i64 0) ∧ w = w' := by
 go_enter Tryz.func240, Tryz.ntmps240
 go_wp2_with fail
 go_loop [11] (fun i => i = .int .i64 0) (fun _ => 0)
 case atStart => rfl
 case round =>
  obtain rfl := hrel
  go_wp2_with fail
  go_ret
  exact ⟨rfl, rfl⟩
set_option maxRecDepth 100000 in
set_option maxHeartbeats 4000000 in
theorem items_nil (ao bo : Option Addr) (c d : Nat) (w : World) :
  Calls Tryz.prog 189 #[.slice ao 0 c, .slice bo 0 d] w fun e w' => e = .returned (.int .i64 0) ∧ w = w' := by
 have hc := Tryz.cmp_Compare_int 0 0 w
 rw [show Lib.compareInt 0 0 = 0 by decide] at hc
 go_enter Tryz.func189, Tryz.ntmps189
 go_wp2_with fail
 refine hc.mono ?_
 rintro e w1 ⟨rfl, rfl⟩
 go_wp2_with (go_at_call 240; refine (each_nil _ _ _ _ _ _).mono ?_; rintro e w2 ⟨rfl, rfl⟩)
 go_ret
 exact ⟨rfl, rfl⟩

theorem or_cells (w : World) (x1 x2 x3 x4 x5 : Int) : ∀ k (h : k < [x1, x2, x3, x4, x5].length), (w.alloc (.cells #[.int .i64 x1, .int .i64 x2, .int .i64 x3, .int .i64 x4, .int .i64 x5] 3)).drew.cell? ⟨w.heap.size, k, none⟩ = some (.int .i64 [x1, x2, x3, x4, x5][k]) := fun k h => by
 have hr := heap_alloc_new w (.cells #[.int .i64 x1, .int .i64 x2, .int .i64 x3, .int .i64 x4, .int .i64 x5] 3)
 have hc := cell_of_row _ _ k _ _ _ hr
 refine Eq.trans (show _ = (w.alloc (.cells #[.int .i64 x1, .int .i64 x2, .int .i64 x3, .int .i64 x4, .int .i64 x5] 3)).cell? ⟨w.heap.size, k, none⟩ from rfl) (hc.trans ?_)
 match k, h with
 | 0, _ => rfl
 | 1, _ => rfl
 | 2, _ => rfl
 | 3, _ => rfl
 | 4, _ => rfl
 | k + 5, h => exact absurd h (by simp)
/-- The order of two terms without parts. -/
def cmpS (a b : Tm) : Int := if Lib.compareInt a.kind b.kind = 0 then orL [Lib.compareBytes a.name.data.toList b.name.data.toList, Lib.compareBytes a.func.data.toList b.func.data.toList, Lib.compareInt a.gen b.gen, Lib.compareInt a.int b.int, Lib.compareInt a.arity b.arity] else Lib.compareInt a.kind b.kind
set_option maxRecDepth 100000 in
set_option maxHeartbeats 8000000 in
theorem valid_simple (a b : Tm) (ao bo : Option Addr) (c d : Nat) (w : World) (ha : a.items = []) (hb : b.items = []) (h7 : a.kind ≠ 7) (h9 : a.kind ≠ 9) (h10 : a.kind ≠ 10) :
  Calls Tryz.prog 160 #[.agg #[.int .i64 a.kind, .int .i64 a.int, .int .i64 a.gen, .string a.name, .string a.func, .int .i64 a.arity, .slice ao a.items.length c, .string a.bytes, .int .i64 a.bits], .agg #[.int .i64 b.kind, .int .i64 b.int, .int .i64 b.gen, .string b.name, .string b.func, .int .i64 b.arity, .slice bo b.items.length d, .string b.bytes, .int .i64 b.bits]] w fun e w' => e = .returned (.int .i64 (cmpS a b)) ∧ Below w.heap.size w w' := by
 have hla : a.items.length = 0 := by rw [ha]; rfl
 have hlb : b.items.length = 0 := by rw [hb]; rfl
 rw [hla, hlb]
 have hB := two_below w (.cells #[.int .i64 a.kind, .int .i64 a.int, .int .i64 a.gen, .string a.name, .string a.func, .int .i64 a.arity, .slice ao 0 c, .string a.bytes, .int .i64 a.bits] 78) (.cells #[.int .i64 b.kind, .int .i64 b.int, .int .i64 b.gen, .string b.name, .string b.func, .int .i64 b.arity, .slice bo 0 d, .string b.bytes, .int .i64 b.bits] 78)
 have r0 := two0 w (.cells #[.int .i64 a.kind, .int .i64 a.int, .int .i64 a.gen, .string a.name, .string a.func, .int .i64 a.arity, .slice ao 0 c, .string a.bytes, .int .i64 a.bits] 78) (.cells #[.int .i64 b.kind, .int .i64 b.int, .int .i64 b.gen, .string b.name, .string b.func, .int .i64 b.arity, .slice bo 0 d, .string b.bytes, .int .i64 b.bits] 78)
 have r1 := two1 w (.cells #[.int .i64 a.kind, .int .i64 a.int, .int .i64 a.gen, .string a.name, .string a.func, .int .i64 a.arity, .slice ao 0 c, .string a.bytes, .int .i64 a.bits] 78) (.cells #[.int .i64 b.kind, .int .i64 b.int, .int .i64 b.gen, .string b.name, .string b.func, .int .i64 b.arity, .slice bo 0 d, .string b.bytes, .int .i64 b.bits] 78)
 have hcmp := fun wx => Tryz.cmp_Compare_int a.kind b.kind wx
 have E0 : Hid (cmpS a b = if Lib.compareInt a.kind b.kind = 0 then orL [Lib.compareBytes a.name.data.toList b.name.data.toList, Lib.compareBytes a.func.data.toList b.func.data.toList, Lib.compareInt a.gen b.gen, Lib.compareInt a.int b.int, Lib.compareInt a.arity b.arity] else Lib.compareInt a.kind b.kind) := Lib.hid rfl
 have HB := Lib.hid hB
 clear hla hlb ha hb
 generalize hk : Lib.compareInt a.kind b.kind = kk at *
 by_cases hz : kk = 0
 ·subst hz
  rw [if_pos rfl] at E0
  have hs1 : ∀ wx, Calls Tryz.prog 193 #[.string a.name, .string b.name] wx fun e w' => e = .returned (.int .i64 (Lib.compareBytes a.name.data.toList b.name.data.toList)) ∧ wx = w' := fun wx => (Tryz.strings_Compare _ _ wx).mono fun _ _ ⟨h, h'⟩ => ⟨h, h'.symm⟩
  have hs2 : ∀ wx, Calls Tryz.prog 193 #[.string a.func, .string b.func] wx fun e w' => e = .returned (.int .i64 (Lib.compareBytes a.func.data.toList b.func.data.toList)) ∧ wx = w' := fun wx => (Tryz.strings_Compare _ _ wx).mono fun _ _ ⟨h, h'⟩ => ⟨h, h'.symm⟩
  have hs3 := fun wx => cmp64_any a.gen b.gen wx
  have hs4 := fun wx => cmp64_any a.int b.int wx
  have hs5 : ∀ wx, Calls Tryz.prog 188 #[.int .i64 a.arity, .int .i64 b.arity] wx fun e w' => e = .returned (.int .i64 (Lib.compareInt a.arity b.arity)) ∧ wx = w' := fun wx => (Tryz.cmp_Compare_int _ _ wx).mono fun _ _ ⟨h, h'⟩ => ⟨h, h'.symm⟩
  generalize Lib.compareBytes a.name.data.toList b.name.data.toList = x1 at *
  generalize Lib.compareBytes a.func.data.toList b.func.data.toList = x2 at *
  generalize Lib.compareInt a.gen b.gen = x3 at *
  generalize Lib.compareInt a.int b.int = x4 at *
  generalize Lib.compareInt a.arity b.arity = x5 at *
  have t7 : (a.kind == 7) = false := beq_eq_false_iff_ne.2 h7
  have t9 : (a.kind == 9) = false := beq_eq_false_iff_ne.2 h9
  have t10 : (a.kind == 10) = false := beq_eq_false_iff_ne.2 h10
  clear h7 h9 h10 hk
  go_enter Tryz.func160, Tryz.ntmps160
  go_upto_region 11 with ((go_at_call 188; refine (hcmp _).mono ?_; rintro e w1 ⟨rfl, rfl⟩))
  generalize (w.alloc (.cells #[.int .i64 a.kind, .int .i64 a.int, .int .i64 a.gen, .string a.name, .string a.func, .int .i64 a.arity, .slice ao 0 c, .string a.bytes, .int .i64 a.bits] 78)).alloc (.cells #[.int .i64 b.kind, .int .i64 b.int, .int .i64 b.gen, .string b.name, .string b.func, .int .i64 b.arity, .slice bo 0 d, .string b.bytes, .int .i64 b.bits] 78) = W at *
  obtain ⟨q0, q1, q2, q3, q4, q5, q6, q7, q8, zq⟩ := term_cells r0
  obtain ⟨p0, p1, p2, p3, p4, p5, p6, p7, p8, zp⟩ := term_cells r1
  have hl0 := lt_of_row r0
  have hl1 := lt_of_row r1
  clear zq zp r0 r1
  generalize hBe : w.heap.size = B at *
  have HBE := Lib.hid hBe
  clear hBe
  have SK0 := Lib.hid (sk_of (Below.refl W.heap.size W).drew)
  have SK1 := Lib.hid (sk_of ((Below.refl W.heap.size W).alloc (Nat.le_refl _) (.cells #[.int .i64 x1, .int .i64 x2, .int .i64 x3, .int .i64 x4, .int .i64 x5] 3)).drew)
  have HC := Lib.hid (or_cells W x1 x2 x3 x4 x5)
  have hor := fun (B c : Nat) (wx : World) hc => or_any [x1, x2, x3, x4, x5] (by simp) B c wx hc
  generalize orL [x1, x2, x3, x4, x5] = r at *
  have HOR := Lib.hid hor
  clear hor
  first | go_region_held3 (fun w' => W.heap.size ≤ w'.heap.size ∧ ∀ b o, b < W.heap.size → w'.cell? ⟨b, o, none⟩ = W.cell? ⟨b, o, none⟩) (first | with_reducible exact SK0.out | with_reducible exact SK1.out)
   (first
    | (go_at_call 193; (first | (with_reducible refine (hs1 _).mono ?_) | (with_reducible refine (hs2 _).mono ?_)); rintro e w1 ⟨rfl, rfl⟩)
    | (go_at_call 194; (first | (with_reducible refine (hs3 _).mono ?_) | (with_reducible refine (hs4 _).mono ?_)); rintro e w1 ⟨rfl, rfl⟩)
    | (go_at_call 188; (with_reducible refine (hs5 _).mono ?_); rintro e w1 ⟨rfl, rfl⟩)
    | (go_at_call 192; refine (HOR.out _ _ _ HC.out).mono ?_; rintro e w1 ⟨rfl, rfl⟩)) | fail
  by_cases hr : r = 0
  ·have hrb : (r != 0) = false := by rw [hr]; rfl
   have ER : Hid (cmpS a b = 0) := Lib.hid (E0.out.trans hr)
   clear hr
   go_wp2_with (go_at_call 189; refine (items_nil _ _ _ _ _).mono ?_; rintro e w2 ⟨rfl, rfl⟩)
   go_ret
   exact ⟨ret1 ER.out.symm, (by rw [HBE.out]; exact (HB.out.alloc (by rw [← HBE.out]; exact HB.out.size) _).drew)⟩
  ·have hrb : (r != 0) = true := by rw [bne_iff_ne]; exact hr
   clear hr
   go_wp2_with fail
   go_ret
   exact ⟨ret1 E0.out.symm, (by rw [HBE.out]; exact (HB.out.alloc (by rw [← HBE.out]; exact HB.out.size) _).drew)⟩
 ·have hnb : (kk != 0) = true := by rw [bne_iff_ne]; exact hz
  rw [if_neg hz] at E0
  clear hz hk
  go_enter Tryz.func160, Tryz.ntmps160
  go_wp2_with ((go_at_call 188; refine (hcmp _).mono ?_; rintro e w1 ⟨rfl, hw1⟩; rw [hw1]))
  go_ret
  exact ⟨ret1 E0.out.symm, HB.out⟩
set_option maxRecDepth 100000 in
set_option maxHeartbeats 8000000 in
/-- The order of two valid terms without parts. -/
theorem compare_simple (f : Nat) (a b : Tm) (ao bo : Option Addr) (c d : Nat) (w : World) (hta : SlAt w 9 (TmAt w f) ao a.items) (htb : SlAt w 9 (TmAt w f) bo b.items) (oa : a.Ok) (ob : b.Ok) (ca : (capF (f + 1) a : Int) ≤ 1152921504606846976) (cb : (capF (f + 1) b : Int) ≤ 1152921504606846976)
  (va : validF (f + 1) a = true) (vb : validF (f + 1) b = true) (ha : a.items = []) (hb : b.items = []) (h7 : a.kind ≠ 7) (h9 : a.kind ≠ 9) (h10 : a.kind ≠ 10) :
  Calls Tryz.prog 133 #[.agg #[.int .i64 a.kind, .int .i64 a.int, .int .i64 a.gen, .string a.name, .string a.func, .int .i64 a.arity, .slice ao a.items.length c, .string a.bytes, .int .i64 a.bits], .agg #[.int .i64 b.kind, .int .i64 b.int, .int .i64 b.gen, .string b.name, .string b.func, .int .i64 b.arity, .slice bo b.items.length d, .string b.bytes, .int .i64 b.bits]] w fun e w' => e = .returned (.int .i64 (cmpS a b)) ∧ Below w.heap.size w w' := by
 have hB := two_below w (.cells #[.int .i64 a.kind, .int .i64 a.int, .int .i64 a.gen, .string a.name, .string a.func, .int .i64 a.arity, .slice ao a.items.length c, .string a.bytes, .int .i64 a.bits] 78) (.cells #[.int .i64 b.kind, .int .i64 b.int, .int .i64 b.gen, .string b.name, .string b.func, .int .i64 b.arity, .slice bo b.items.length d, .string b.bytes, .int .i64 b.bits] 78)
 have r0 := two0 w (.cells #[.int .i64 a.kind, .int .i64 a.int, .int .i64 a.gen, .string a.name, .string a.func, .int .i64 a.arity, .slice ao a.items.length c, .string a.bytes, .int .i64 a.bits] 78) (.cells #[.int .i64 b.kind, .int .i64 b.int, .int .i64 b.gen, .string b.name, .string b.func, .int .i64 b.arity, .slice bo b.items.length d, .string b.bytes, .int .i64 b.bits] 78)
 have r1 := two1 w (.cells #[.int .i64 a.kind, .int .i64 a.int, .int .i64 a.gen, .string a.name, .string a.func, .int .i64 a.arity, .slice ao a.items.length c, .string a.bytes, .int .i64 a.bits] 78) (.cells #[.int .i64 b.kind, .int .i64 b.int, .int .i64 b.gen, .string b.name, .string b.func, .int .i64 b.arity, .slice bo b.items.length d, .string b.bytes, .int .i64 b.bits] 78)
 have hva : ∀ wx, Below w.heap.size w wx → Calls Tryz.prog 78 #[.agg #[.int .i64 a.kind, .int .i64 a.int, .int .i64 a.gen, .string a.name, .string a.func, .int .i64 a.arity, .slice ao a.items.length c, .string a.bytes, .int .i64 a.bits]] wx fun e w' => e = .returned (.bool true) ∧ Below wx.heap.size wx w' := fun wx hx => by have h := tvalid_any f a ao c wx (hta.tms hx) oa ca; rwa [va] at h
 have hvb : ∀ wx, Below w.heap.size w wx → Calls Tryz.prog 78 #[.agg #[.int .i64 b.kind, .int .i64 b.int, .int .i64 b.gen, .string b.name, .string b.func, .int .i64 b.arity, .slice bo b.items.length d, .string b.bytes, .int .i64 b.bits]] wx fun e w' => e = .returned (.bool true) ∧ Below wx.heap.size wx w' := fun wx hx => by have h := tvalid_any f b bo d wx (htb.tms hx) ob cb; rwa [vb] at h
 have hvs := fun wx => valid_simple a b ao bo c d wx ha hb h7 h9 h10
 have HB := Lib.hid hB
 clear hta htb oa ob ca cb va vb ha hb h7 h9 h10 hB
 generalize cmpS a b = r at *
 go_enter Tryz.func133, Tryz.ntmps133
 go_wp2_with fail
 generalize (w.alloc (.cells #[.int .i64 a.kind, .int .i64 a.int, .int .i64 a.gen, .string a.name, .string a.func, .int .i64 a.arity, .slice ao a.items.length c, .string a.bytes, .int .i64 a.bits] 78)).alloc (.cells #[.int .i64 b.kind, .int .i64 b.int, .int .i64 b.gen, .string b.name, .string b.func, .int .i64 b.arity, .slice bo b.items.length d, .string b.bytes, .int .i64 b.bits] 78) = W at *
 obtain ⟨q0, q1, q2, q3, q4, q5, q6, q7, q8, zq⟩ := term_cells r0
 obtain ⟨p0, p1, p2, p3, p4, p5, p6, p7, p8, zp⟩ := term_cells r1
 have hl0 := lt_of_row r0
 have hl1 := lt_of_row r1
 have R0 := Lib.hid r0; have R1 := Lib.hid r1
 clear zq zp r0 r1
 have HW := Lib.hid HB.out
 generalize hBe : w.heap.size = B at *
 have HBE := Lib.hid hBe
 have HB' : Hid (Below w.heap.size w W) := Lib.hid (by rw [hBe]; exact HB.out)
 have hva' : ∀ wx, Below W.heap.size W wx → Calls Tryz.prog 78 #[.agg #[.int .i64 a.kind, .int .i64 a.int, .int .i64 a.gen, .string a.name, .string a.func, .int .i64 a.arity, .slice ao a.items.length c, .string a.bytes, .int .i64 a.bits]] wx fun e w' => e = .returned (.bool true) ∧ Below W.heap.size W w' := fun wx hx => (hva wx (by rw [← hBe]; exact below_next HB'.out hx)).mono fun _ _ ⟨h, h'⟩ => ⟨h, below_next hx h'⟩
 have hvb' : ∀ wx, Below W.heap.size W wx → Calls Tryz.prog 78 #[.agg #[.int .i64 b.kind, .int .i64 b.int, .int .i64 b.gen, .string b.name, .string b.func, .int .i64 b.arity, .slice bo b.items.length d, .string b.bytes, .int .i64 b.bits]] wx fun e w' => e = .returned (.bool true) ∧ Below W.heap.size W w' := fun wx hx => (hvb wx (by rw [← hBe]; exact below_next HB'.out hx)).mono fun _ _ ⟨h, h'⟩ => ⟨h, below_next hx h'⟩
 clear hBe hva hvb
 have HDR := Lib.hid ((Below.refl W.heap.size W).drew)
 have SK0 := Lib.hid (sk_of HDR.out)
 first | go_region_held3 (fun w' => W.heap.size ≤ w'.heap.size ∧ ∀ b o, b < W.heap.size → w'.cell? ⟨b, o, none⟩ = W.cell? ⟨b, o, none⟩) (first | with_reducible exact SK0.out | with_reducible exact HK5.out | with_reducible exact HK6.out)
  (first
   | (go_at_call 78; (first | (with_reducible refine (hva' _ HDR.out).mono ?_) | (with_reducible refine (hvb' _ HDR.out).mono ?_)); rintro e w5 ⟨rfl, hb5⟩; have HK5 := Lib.hid (sk_of hb5))
   | (go_at_call 78; (first | (with_reducible refine (hva' _ hb5).mono ?_) | (with_reducible refine (hvb' _ hb5).mono ?_)); rintro e w6 ⟨rfl, hb6⟩; have HK6 := Lib.hid (sk_of hb6))) | fail
 all_goals
  obtain ⟨s0, s1, s2, s3, s4, s5, s6, s7, s8, zs⟩ := term_cells ((hb6.block B hl0).trans R0.out)
  obtain ⟨u0, u1, u2, u3, u4, u5, u6, u7, u8, zu⟩ := term_cells ((hb6.block (B + 1) hl1).trans R1.out)
  go_wp2_with (go_at_call 160; refine (hvs _).mono ?_; rintro e w8 ⟨rfl, hb8⟩)
  go_ret
  exact ⟨rfl, below_next HB'.out (below_next hb6 hb8)⟩
set_option maxRecDepth 100000 in
set_option maxHeartbeats 4000000 in
theorem less_simple (f : Nat) (a b : Tm) (ao bo : Option Addr) (c d : Nat) (w : World) (hta : SlAt w 9 (TmAt w f) ao a.items) (htb : SlAt w 9 (TmAt w f) bo b.items) (oa : a.Ok) (ob : b.Ok) (ca : (capF (f + 1) a : Int) ≤ 1152921504606846976) (cb : (capF (f + 1) b : Int) ≤ 1152921504606846976)
  (va : validF (f + 1) a = true) (vb : validF (f + 1) b = true) (ha : a.items = []) (hb : b.items = []) (h7 : a.kind ≠ 7) (h9 : a.kind ≠ 9) (h10 : a.kind ≠ 10) :
  Calls Tryz.prog 83 #[.agg #[.int .i64 a.kind, .int .i64 a.int, .int .i64 a.gen, .string a.name, .string a.func, .int .i64 a.arity, .slice ao a.items.length c, .string a.bytes, .int .i64 a.bits], .agg #[.int .i64 b.kind, .int .i64 b.int, .int .i64 b.gen, .string b.name, .string b.func, .int .i64 b.arity, .slice bo b.items.length d, .string b.bytes, .int .i64 b.bits]] w fun e w' => e = .returned (.bool (decide (cmpS a b < 0))) ∧ Below w.heap.size w w' := by
 have hB := two_below w (.cells #[.int .i64 a.kind, .int .i64 a.int, .int .i64 a.gen, .string a.name, .string a.func, .int .i64 a.arity, .slice ao a.items.length c, .string a.bytes, .int .i64 a.bits] 78) (.cells #[.int .i64 b.kind, .int .i64 b.int, .int .i64 b.gen, .string b.name, .string b.func, .int .i64 b.arity, .slice bo b.items.length d, .string b.bytes, .int .i64 b.bits] 78)
 have hC := compare_simple f a b ao bo c d _ (hta.tms hB) (htb.tms hB) oa ob ca cb va vb ha hb h7 h9 h10
 have HB := Lib.hid hB
 clear hta htb oa ob ca cb va vb ha hb h7 h9 h10 hB
 generalize cmpS a b = r at *
 go_enter Tryz.func83, Tryz.ntmps83
 go_wp2_with fail
 refine hC.mono ?_
 rintro e w5 ⟨rfl, hb5⟩
 go_wp2_with fail
 go_ret
 exact ⟨rfl, below_next HB.out hb5⟩
end Go.Proofs.YtghgbikmlbildaaGreatDoor
namespace Go.Proofs.YtghgbikmlbildaaGreatDoor
open Go.RowKit
set_option linter.unusedVariables false
set_option linter.unusedSimpArgs false

def litAt (lits : List Tm) (i : Int) : Tm := (lits[i.toNat]?).getD zeroTm
def clit (cases : List RCase) (k : Nat) : Int := ((cases[k]?).map RCase.lit).getD 0
def kindOk (t : Tm) : Bool := decide (t.kind = 1 ∨ t.kind = 2 ∨ t.kind = 8)
def caseOk (lits : List Tm) (cases : List RCase) (k : Nat) : Bool := wi (clit cases k) 0 ((lits.length : Int) - 1) && (kindOk (litAt lits (clit cases k)) && (decide (k = 0) || decide (cmpS (litAt lits (clit cases (k - 1))) (litAt lits (clit cases k)) < 0)))
def casesB (lits : List Tm) (cases : List RCase) : Bool := decide (∀ k, k < cases.length → caseOk lits cases k = true)
def segB (nl : Nat) (g : RSeg) : Bool := wi g.type 1 3 && (opdB nl g.val && (((decide (g.size.kind = 0) && decide (g.size.n = 0)) || opdB nl g.size) && (!g.little || g.type == 1)))
/-- Are the cases and segments of an instruction allowed? -/
def listsB (lits : List Tm) (x : RIns) : Bool := ((!(x.op == 12) || wi x.cases.length 1 1000) && decide ((x.segs.length : Int) ≤ 60)) && (casesB lits x.cases && x.segs.all (segB lits.length))
theorem casesB_no {lits : List Tm} {cases : List RCase} {k : Nat} (h : k < cases.length) (e : caseOk lits cases k = false) : casesB lits cases = false := by
 unfold casesB; exact decide_eq_false (fun hh => by rw [hh k h] at e; cases e)
theorem casesB_yes {lits : List Tm} {cases : List RCase} (h : ∀ k, k < cases.length → caseOk lits cases k = true) : casesB lits cases = true := decide_eq_true h
theorem clit_at {cases : List RCase} {k : Nat} (h : k < cases.length) : clit cases k = cases[k].lit := by unfold clit; rw [List.getElem?_eq_getElem h]; rfl
theorem litAt_at {lits : List Tm} {m : Nat} (h : m < lits.length) : litAt lits (m : Int) = lits[m] := by unfold litAt; rw [Int.toNat_natCast, List.getElem?_eq_getElem h]; rfl
theorem valid_items {f : Nat} {t : Tm} (h : validF (f + 1) t = true) (hk : t.kind = 1 ∨ t.kind = 2 ∨ t.kind = 8) : t.items = [] := by
 unfold validF formF locB zeroK at h
 have h4 : decide (t.kind = 4 ∨ t.kind = 7 ∨ t.kind = 9) = false := decide_eq_false (by omega)
 simp only [h4, Bool.and_eq_true, Bool.false_or] at h
 have := h.1.1.2.1.1.2
 unfold zL at this
 exact List.eq_nil_of_length_eq_zero (of_decide_eq_true this)

/-- The literals of a unit, each valid. -/
structure LitsOk (w : World) (f : Nat) (lo : Option Addr) (lits : List Tm) : Prop where
 at' : SlAt w 9 (TmAt w (f + 1)) lo lits
 ok : ∀ t ∈ lits, validF (f + 1) t = true ∧ (capF (f + 1) t : Int) ≤ 1152921504606846976
theorem LitsOk.below {w w' : World} {f : Nat} {lo : Option Addr} {lits : List Tm} (h : LitsOk w f lo lits) (hb : Below w.heap.size w w') : LitsOk w' f lo lits := ⟨h.at'.tms hb, h.ok⟩
/-- Two literals without parts by order.Less. -/
theorem less_lits {w : World} {f : Nat} {lo : Option Addr} {lits : List Tm} (h : LitsOk w f lo lits) {i j : Nat} (hi : i < lits.length) (hj : j < lits.length) (ki : kindOk lits[i] = true) (kj : kindOk lits[j] = true) {ai aj : Option Addr} {ci cj : Nat}
  (si : SlAt w 9 (TmAt w f) ai lits[i].items) (sj : SlAt w 9 (TmAt w f) aj lits[j].items) (oi : lits[i].Ok) (oj : lits[j].Ok) (wx : World) (hx : Below w.heap.size w wx) :
  Calls Tryz.prog 83 #[.agg #[.int .i64 lits[i].kind, .int .i64 lits[i].int, .int .i64 lits[i].gen, .string lits[i].name, .string lits[i].func, .int .i64 lits[i].arity, .slice ai lits[i].items.length ci, .string lits[i].bytes, .int .i64 lits[i].bits], .agg #[.int .i64 lits[j].kind, .int .i64 lits[j].int, .int .i64 lits[j].gen, .string lits[j].name, .string lits[j].func, .int .i64 lits[j].arity, .slice aj lits[j].items.length cj, .string lits[j].bytes, .int .i64 lits[j].bits]] wx fun e w' => e = .returned (.bool (decide (cmpS lits[i] lits[j] < 0))) ∧ Below wx.heap.size wx w' := by
 obtain ⟨vi, bi⟩ := h.ok _ (List.getElem_mem hi)
 obtain ⟨vj, bj⟩ := h.ok _ (List.getElem_mem hj)
 have ki' := of_decide_eq_true ki
 have kj' := of_decide_eq_true kj
 exact less_simple f lits[i] lits[j] ai aj ci cj wx (si.tms hx) (sj.tms hx) oi oj bi bj vi vj (valid_items vi ki') (valid_items vj kj') (by omega) (by omega) (by omega)
end Go.Proofs.YtghgbikmlbildaaGreatDoor
