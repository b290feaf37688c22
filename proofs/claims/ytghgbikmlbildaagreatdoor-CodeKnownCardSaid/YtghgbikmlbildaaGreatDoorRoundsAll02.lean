/-
  large, Find, Raises: the walks. within, Raises, operand, the rows: the walks. The table of the operations; rowOf; the closure of fields. fields: the walk. A set of names with arities, as the map that tables makes: the laws of its look-up and its store.
-/
import Derived.Laws.ResultCell
import Derived.Laws.Rows
import Derived.Deep.RegionHeld3
import Derived.Deep.DeepCutAuto
import Derived.Deep.CutBlock
import Derived.Maps.OwnOps
import Derived.Maps.OwnSet
import Derived.Maps.Views
import Derived.DeepKeys4
import Derived.WideKeyPair
import Derived.Test.YtghgbikmlbildaaGreatDoorRoundsAll01
namespace Go.Proofs.YtghgbikmlbildaaGreatDoor
open Go.RowKit
set_option linter.unusedVariables false

/-- A unit's parts in memory, its slices' addresses told. -/
structure UP (w : World) (u : RUnit) (lo fo go co : Option Addr) : Prop where
 lits : SlAt w 9 (TmA w) lo u.lits
 funcs : SlAt w 4 FuncR fo u.funcs
 funs : SlAt w 3 FunR go u.funs
 code : SlAt w 10 (InsR w) co u.code
 mdlLen : u.mdl.size ≤ 9223372036854775807
 vsn : I64 u.vsn
 litsLen : u.lits.length ≤ 9223372036854775807
 funcsLen : u.funcs.length ≤ 9223372036854775807
 funsLen : u.funs.length ≤ 9223372036854775807
 codeLen : u.code.length ≤ 9223372036854775807
theorem UP.below {w w' : World} {u : RUnit} {lo fo go co : Option Addr} (h : UP w u lo fo go co) (hb : Below w.heap.size w w') : UP w' u lo fo go co :=
 ⟨h.lits.mono hb fun _ _ h => h.below hb, h.funcs.mono hb fun _ _ h => h, h.funs.mono hb fun _ _ h => h, h.code.mono hb fun _ _ h => h.below hb, h.mdlLen, h.vsn, h.litsLen, h.funcsLen, h.funsLen, h.codeLen⟩
/-- Block B holds a unit. -/
structure UBox (w : World) (B : Nat) (u : RUnit) (lo fo go co : Option Addr) (lc fc gc cc : Nat) : Prop where
 box : w.heap[B]? = some (.cells #[.string u.mdl, .int .i64 u.vsn, .slice lo u.lits.length lc, .slice fo u.funcs.length fc, .slice go u.funs.length gc, .slice co u.code.length cc] 27 (0, 0))
theorem ret_ib {k : IntKind} {a b : Int} {c d : Bool} (h : a = b) (h' : c = d) : Ending.returned (.tuple #[.int k a, .bool c]) = .returned (.tuple #[.int k b, .bool d]) := by rw [h, h']
theorem lt_of_row {w : World} {C : Nat} {o : Obj} (h : w.heap[C]? = some o) : C < w.heap.size := (Array.getElem?_eq_some_iff.1 h).1
section
variable {w : World} {B : Nat} {u : RUnit} {lo fo go co : Option Addr} {lc fc gc cc : Nat}
theorem UBox.lt (h : UBox w B u lo fo go co lc fc gc cc) : B < w.heap.size := lt_of_row h.box
theorem UBox.below {w' : World} (h : UBox w B u lo fo go co lc fc gc cc) (hb : Below w.heap.size w w') : UBox w' B u lo fo go co lc fc gc cc := ⟨(hb.block B h.lt).trans h.box⟩
theorem UBox.c0 (h : UBox w B u lo fo go co lc fc gc cc) : w.cell? ⟨B, 0, none⟩ = some (.string u.mdl) := by rw [cell_of_row _ _ _ _ _ _ h.box]; rfl
theorem UBox.c1 (h : UBox w B u lo fo go co lc fc gc cc) : w.cell? ⟨B, 1, none⟩ = some (.int .i64 u.vsn) := by rw [cell_of_row _ _ _ _ _ _ h.box]; rfl
theorem UBox.c2 (h : UBox w B u lo fo go co lc fc gc cc) : w.cell? ⟨B, 2, none⟩ = some (.slice lo u.lits.length lc) := by rw [cell_of_row _ _ _ _ _ _ h.box]; rfl
theorem UBox.c3 (h : UBox w B u lo fo go co lc fc gc cc) : w.cell? ⟨B, 3, none⟩ = some (.slice fo u.funcs.length fc) := by rw [cell_of_row _ _ _ _ _ _ h.box]; rfl
theorem UBox.c4 (h : UBox w B u lo fo go co lc fc gc cc) : w.cell? ⟨B, 4, none⟩ = some (.slice go u.funs.length gc) := by rw [cell_of_row _ _ _ _ _ _ h.box]; rfl
theorem UBox.c5 (h : UBox w B u lo fo go co lc fc gc cc) : w.cell? ⟨B, 5, none⟩ = some (.slice co u.code.length cc) := by rw [cell_of_row _ _ _ _ _ _ h.box]; rfl
end
theorem ubox_new (w : World) (u : RUnit) (lo fo go co : Option Addr) (lc fc gc cc : Nat) : UBox (w.alloc (.cells #[.string u.mdl, .int .i64 u.vsn, .slice lo u.lits.length lc, .slice fo u.funcs.length fc, .slice go u.funs.length gc, .slice co u.code.length cc] 27)) w.heap.size u lo fo go co lc fc gc cc := ⟨heap_alloc_new _ _⟩

/-- What a call tells of a unit that is not too large. -/
def LargeP (w : World) (lo : Option Addr) (u : RUnit) (e : Ending) (w' : World) : Prop :=
 ∃ b, e = .returned (.bool b) ∧ Below w.heap.size w w' ∧ (b = false → u.lits.length ≤ 400 ∧ ∃ f, SlAt w 9 (TmAt w f) lo u.lits ∧ 0 ≤ leftF f u.lits 4000)

set_option maxRecDepth 100000 in
set_option maxHeartbeats 4000000 in
theorem large_any (u : RUnit) (lo fo go co : Option Addr) (lc fc gc cc : Nat) (w : World) (h : UP w u lo fo go co) :
  Calls Tryz.prog 11 #[.agg #[.string u.mdl, .int .i64 u.vsn, .slice lo u.lits.length lc, .slice fo u.funcs.length fc, .slice go u.funs.length gc, .slice co u.code.length cc]] w (LargeP w lo u) := by
 obtain ⟨f, hf⟩ := tms_depth h.lits
 have HF := Lib.hid hf; have HU := Lib.hid h
 clear hf
 have r1 := h.litsLen; have r2 := h.funcsLen; have r3 := h.funsLen; have r4 := h.codeLen
 clear h
 go_enter Tryz.func11, Tryz.ntmps11
 go_wp2_with fail
 have hbx := ubox_new w u lo fo go co lc fc gc cc
 have hba : Below w.heap.size w (w.alloc (.cells #[.string u.mdl, .int .i64 u.vsn, .slice lo u.lits.length lc, .slice fo u.funcs.length fc, .slice go u.funs.length gc, .slice co u.code.length cc] 27)) := (Below.refl _ _).alloc (Nat.le_refl _) _
 generalize w.alloc (.cells #[.string u.mdl, .int .i64 u.vsn, .slice lo u.lits.length lc, .slice fo u.funcs.length fc, .slice go u.funs.length gc, .slice co u.code.length cc] 27) = Wa at *
 have HUa := Lib.hid (HU.out.below hba)
 have HBA := Lib.hid hba
 generalize w.heap.size = B at hbx ⊢
 have HBX := Lib.hid hbx; clear hbx hba
 go_loopw [3, 4] (fun nv iv wr => ∃ (k : Nat) (z : Int), k ≤ u.code.length ∧ iv = .int .i64 k ∧ nv = .int .i64 z ∧ Below Wa.heap.size Wa wr) (fun _ iv _ => u.code.length - (intOf iv).toNat)
 case atStart => exact ⟨0, _, Nat.zero_le _, rfl, rfl, Below.refl _ _⟩
 case round =>
  obtain ⟨k, z, hk, rfl, rfl, hB⟩ := hrel
  rename World => wr
  have hbw := HBX.out.below hB
  have b2 := hbw.c2; have b3 := hbw.c3; have b4 := hbw.c4; have b5 := hbw.c5
  clear hbw
  by_cases hlt : k < u.code.length
  ·obtain ⟨b, off, so, sc, co', cc', go', gc', hao, hb, q0, q1, q2, q3, q4, q5, q6, q7, q8, q9, _, _, _, _, _, _, s1, _, _, _, _, s2, s3⟩ := (HUa.out.below hB).code.ins hlt
   subst hao
   unfold maxLen at s1 s2 s3
   generalize u.code[k] = x at *
   go_wp2_with fail
   go_quiet (fail)
   go_wp2_with fail
   go_roundw
   case rel => exact ⟨k + 1, _, by omega, by go_num, rfl, below_drewN hB _⟩
   case measure => simp [intOf]; omega
  ·by_cases c1 : 4000 < z
   ·go_wp2_with fail
    all_goals go_ret
    all_goals exact ⟨_, rfl, HBA.out.trans (hB.mono HBA.out.size), fun e => by cases e⟩
   ·by_cases c2 : 400 < u.lits.length
    ·go_wp2_with fail
     all_goals go_ret
     all_goals exact ⟨_, rfl, HBA.out.trans (hB.mono HBA.out.size), fun e => by cases e⟩
    ·have hd4 : decide ((400 : Int) < (u.lits.length : Int)) = false := decide_eq_false (by omega)
     have hG := great_any f lo lc u.lits 4000 wr ((HF.out.tms HBA.out).tms hB) (by unfold maxLen; omega) (by decide) (by decide)
     have HD : Hid (decide (leftF f u.lits 4000 < 0) = false → 0 ≤ leftF f u.lits 4000) := Lib.hid (fun e => by have := of_decide_eq_false e; omega)
     generalize decide (leftF f u.lits 4000 < 0) = q at *
     go_wp2_with fail
     refine hG.mono ?_
     rintro e w5 ⟨rfl, hb5⟩
     go_wp2_with fail
     go_ret
     exact ⟨q, rfl, HBA.out.trans ((hB.mono HBA.out.size).trans (hb5.mono (Nat.le_trans HBA.out.size hB.size))), fun e => ⟨by omega, f, HF.out, HD.out e⟩⟩

set_option maxRecDepth 100000 in
set_option maxHeartbeats 4000000 in
theorem find_any (u : RUnit) (lo fo go co : Option Addr) (lc fc gc cc : Nat) (n : ByteArray) (ar : Int) (w : World) (h : UP w u lo fo go co) :
  Calls Tryz.prog 21 #[.agg #[.string u.mdl, .int .i64 u.vsn, .slice lo u.lits.length lc, .slice fo u.funcs.length fc, .slice go u.funs.length gc, .slice co u.code.length cc], .string n, .int .i64 ar] w fun e w' =>
   e = .returned (.tuple #[.int .i64 (findI n ar u.funcs), .bool (findB n ar u.funcs)]) ∧ Below w.heap.size w w' := by
 have HU := Lib.hid h
 have r2 := h.funcsLen
 have HI : Hid (findL n ar u.funcs 0 = findL n ar (u.funcs.drop 0) 0) := Lib.hid rfl
 clear h
 go_enter Tryz.func21, Tryz.ntmps21
 go_wp2_with fail
 have hbx := ubox_new w u lo fo go co lc fc gc cc
 have hba : Below w.heap.size w (w.alloc (.cells #[.string u.mdl, .int .i64 u.vsn, .slice lo u.lits.length lc, .slice fo u.funcs.length fc, .slice go u.funs.length gc, .slice co u.code.length cc] 27)) := (Below.refl _ _).alloc (Nat.le_refl _) _
 generalize w.alloc (.cells #[.string u.mdl, .int .i64 u.vsn, .slice lo u.lits.length lc, .slice fo u.funcs.length fc, .slice go u.funs.length gc, .slice co u.code.length cc] 27) = Wa at *
 have HUa := Lib.hid (HU.out.below hba)
 have HBA := Lib.hid hba
 generalize w.heap.size = B at hbx ⊢
 clear hbx hba
 go_loopw [6, 7, 13] (fun rv sv iv wr => ∃ k : Nat, k ≤ u.funcs.length ∧ iv = .int .i64 k ∧ rv = .int .i64 0 ∧ sv = .bool false ∧ Hid (findL n ar u.funcs 0 = findL n ar (u.funcs.drop k) k) ∧ Below Wa.heap.size Wa wr) (fun _ _ iv _ => u.funcs.length - (intOf iv).toNat)
 case atStart => exact ⟨0, Nat.zero_le _, rfl, rfl, rfl, HI, Below.refl _ _⟩
 case round =>
  obtain ⟨k, hk, rfl, rfl, rfl, HK, hB⟩ := hrel
  rename World => wr
  by_cases hlt : k < u.funcs.length
  ·obtain ⟨b, off, hao, hb, q0, q1, q2, q3, s1, s2, s3⟩ := (HUa.out.below hB).funcs.func hlt
   subst hao
   unfold maxLen at s1
   have hhit := findL_hit (n := n) (a := ar) (i := k) hlt
   have hmiss := findL_miss (n := n) (a := ar) (i := k) hlt
   have HH := Lib.hid hhit; have HM := Lib.hid hmiss
   clear hhit hmiss
   generalize u.funcs[k] = x at *
   by_cases c1 : x.name = n
   ·have hn : (x.name.toList == n.toList) = true := by rw [c1]; exact beq_self_eq_true _
    by_cases c2 : x.arity = ar
    ·have ha : (x.arity == ar) = true := by rw [c2]; exact beq_self_eq_true _
     have E1 : Hid (findI n ar u.funcs = k) := Lib.hid (by unfold findI; rw [HK.out, HH.out ⟨c1, c2⟩])
     have E2 : Hid (findB n ar u.funcs = true) := Lib.hid (by unfold findB; rw [HK.out, HH.out ⟨c1, c2⟩]; rfl)
     clear c1 c2
     go_wp2_with fail
     go_ret2
     exact ⟨ret_ib E1.out.symm E2.out.symm, HBA.out.trans ((hB.alloc hB.size _).mono HBA.out.size)⟩
    ·have ha : (x.arity == ar) = false := beq_eq_false_iff_ne.2 c2
     have HK2 : Hid (findL n ar u.funcs 0 = findL n ar (u.funcs.drop (k + 1)) (k + 1)) := Lib.hid (by rw [HK.out, HM.out (fun h => c2 h.2)])
     clear c1 c2
     go_wp2_with fail
     go_roundw
     case rel => exact ⟨k + 1, by omega, by go_num, rfl, rfl, HK2, hB.alloc hB.size _⟩
     case measure => simp [intOf]; omega
   ·have hn : (x.name.toList == n.toList) = false := by
     rw [ByteArray.toList_eq, ByteArray.toList_eq, beq_eq_false_iff_ne]
     exact fun e => c1 (ByteArray.ext (by simpa using e))
    have HK2 : Hid (findL n ar u.funcs 0 = findL n ar (u.funcs.drop (k + 1)) (k + 1)) := Lib.hid (by rw [HK.out, HM.out (fun h => c1 h.1)])
    clear c1
    go_wp2_with fail
    go_roundw
    case rel => exact ⟨k + 1, by omega, by go_num, rfl, rfl, HK2, hB.alloc hB.size _⟩
    case measure => simp [intOf]; omega
  ·have E : Hid (findL n ar u.funcs 0 = none) := Lib.hid (by rw [HK.out, List.drop_eq_nil_of_le (by omega)]; rfl)
   have E1 : Hid (findI n ar u.funcs = 0) := Lib.hid (by unfold findI; rw [E.out])
   have E2 : Hid (findB n ar u.funcs = false) := Lib.hid (by unfold findB; rw [E.out]; rfl)
   go_wp2_with fail
   go_ret2
   exact ⟨ret_ib E1.out.symm E2.out.symm, HBA.out.trans (hB.mono HBA.out.size)⟩

set_option maxRecDepth 100000 in
set_option maxHeartbeats 4000000 in
theorem rfind_any (u : RUnit) (lo fo go co : Option Addr) (lc fc gc cc : Nat) (n : ByteArray) (ar : Int) (w : World) (h : UP w u lo fo go co) :
  Calls Tryz.prog 87 #[.agg #[.string u.mdl, .int .i64 u.vsn, .slice lo u.lits.length lc, .slice fo u.funcs.length fc, .slice go u.funs.length gc, .slice co u.code.length cc], .string n, .int .i64 ar] w fun e w' =>
   e = .returned (.tuple #[.int .i64 (findI n ar u.funcs), .bool (findB n ar u.funcs)]) ∧ Below w.heap.size w w' := by
 have HU := Lib.hid h
 have r2 := h.funcsLen
 have HI : Hid (findL n ar u.funcs 0 = findL n ar (u.funcs.drop 0) 0) := Lib.hid rfl
 clear h
 go_enter Tryz.func87, Tryz.ntmps87
 go_wp2_with fail
 have hbx := ubox_new w u lo fo go co lc fc gc cc
 have hba : Below w.heap.size w (w.alloc (.cells #[.string u.mdl, .int .i64 u.vsn, .slice lo u.lits.length lc, .slice fo u.funcs.length fc, .slice go u.funs.length gc, .slice co u.code.length cc] 27)) := (Below.refl _ _).alloc (Nat.le_refl _) _
 generalize w.alloc (.cells #[.string u.mdl, .int .i64 u.vsn, .slice lo u.lits.length lc, .slice fo u.funcs.length fc, .slice go u.funs.length gc, .slice co u.code.length cc] 27) = Wa at *
 have HUa := Lib.hid (HU.out.below hba)
 have HBA := Lib.hid hba
 generalize w.heap.size = B at hbx ⊢
 have b3 := hbx.c3
 clear hbx hba
 go_loop [6, 7, 8] (fun rv sv iv => ∃ k : Nat, k ≤ u.funcs.length ∧ iv = .int .i64 k ∧ rv = .int .i64 0 ∧ sv = .bool false ∧ Hid (findL n ar u.funcs 0 = findL n ar (u.funcs.drop k) k)) (fun _ _ iv => u.funcs.length - (intOf iv).toNat)
 case atStart => exact ⟨0, Nat.zero_le _, rfl, rfl, rfl, HI⟩
 case round =>
  obtain ⟨k, hk, rfl, rfl, rfl, HK⟩ := hrel
  by_cases hlt : k < u.funcs.length
  ·obtain ⟨b, off, hao, hb, q0, q1, q2, q3, s1, s2, s3⟩ := HUa.out.funcs.func hlt
   subst hao
   unfold maxLen at s1
   have hhit := findL_hit (n := n) (a := ar) (i := k) hlt
   have hmiss := findL_miss (n := n) (a := ar) (i := k) hlt
   have HH := Lib.hid hhit; have HM := Lib.hid hmiss
   clear hhit hmiss
   generalize u.funcs[k] = x at *
   by_cases c1 : x.name = n
   ·have hn : (x.name.toList == n.toList) = true := by rw [c1]; exact beq_self_eq_true _
    by_cases c2 : x.arity = ar
    ·have ha : (x.arity == ar) = true := by rw [c2]; exact beq_self_eq_true _
     have E1 : Hid (findI n ar u.funcs = k) := Lib.hid (by unfold findI; rw [HK.out, HH.out ⟨c1, c2⟩])
     have E2 : Hid (findB n ar u.funcs = true) := Lib.hid (by unfold findB; rw [HK.out, HH.out ⟨c1, c2⟩]; rfl)
     clear c1 c2
     go_wp2_with fail
     go_ret2
     exact ⟨ret_ib E1.out.symm E2.out.symm, HBA.out⟩
    ·have ha : (x.arity == ar) = false := beq_eq_false_iff_ne.2 c2
     have HK2 : Hid (findL n ar u.funcs 0 = findL n ar (u.funcs.drop (k + 1)) (k + 1)) := Lib.hid (by rw [HK.out, HM.out (fun h => c2 h.2)])
     clear c1 c2
     go_wp2_with fail
     go_round
     case rel => exact ⟨k + 1, by omega, by go_num, rfl, rfl, HK2⟩
     case measure => simp [intOf]; omega
   ·have hn : (x.name.toList == n.toList) = false := by
     rw [ByteArray.toList_eq, ByteArray.toList_eq, beq_eq_false_iff_ne]
     exact fun e => c1 (ByteArray.ext (by simpa using e))
    have HK2 : Hid (findL n ar u.funcs 0 = findL n ar (u.funcs.drop (k + 1)) (k + 1)) := Lib.hid (by rw [HK.out, HM.out (fun h => c1 h.1)])
    clear c1
    go_wp2_with fail
    go_round
    case rel => exact ⟨k + 1, by omega, by go_num, rfl, rfl, HK2⟩
    case measure => simp [intOf]; omega
  ·have E : Hid (findL n ar u.funcs 0 = none) := Lib.hid (by rw [HK.out, List.drop_eq_nil_of_le (by omega)]; rfl)
   have E1 : Hid (findI n ar u.funcs = 0) := Lib.hid (by unfold findI; rw [E.out])
   have E2 : Hid (findB n ar u.funcs = false) := Lib.hid (by unfold findB; rw [E.out]; rfl)
   go_wp2_with fail
   go_ret2
   exact ⟨ret_ib E1.out.symm E2.out.symm, HBA.out⟩

end Go.Proofs.YtghgbikmlbildaaGreatDoor
namespace Go.Proofs.YtghgbikmlbildaaGreatDoor
open Go.RowKit
set_option linter.unusedVariables false

def wi (n a b : Int) : Bool := decide (a ≤ n) && decide (n ≤ b)
theorem wi_yes {n a b : Int} (h : a ≤ n) (h' : n ≤ b) : wi n a b = true := by unfold wi; rw [decide_eq_true h, decide_eq_true h']; rfl
theorem wi_no {n a b : Int} (h : ¬ (a ≤ n ∧ n ≤ b)) : wi n a b = false := by
 unfold wi
 by_cases h1 : a ≤ n
 ·rw [decide_eq_true h1, decide_eq_false (fun h2 => h ⟨h1, h2⟩)]; rfl
 ·rw [decide_eq_false h1]; rfl
set_option maxRecDepth 100000 in
set_option maxHeartbeats 2000000 in
theorem within_any (n a b : Int) (w : World) :
  Calls Tryz.prog 68 #[.int .i64 n, .int .i64 a, .int .i64 b] w fun e w' => e = .returned (.bool (wi n a b)) ∧ w = w' := by
 by_cases h1 : a ≤ n
 ·by_cases h2 : n ≤ b
  ·have E := Lib.hid (wi_yes h1 h2)
   have d1 : decide (a ≤ n) = true := decide_eq_true h1
   have d2 : decide (n ≤ b) = true := decide_eq_true h2
   go_enter Tryz.func68, Tryz.ntmps68
   go_wp2
   go_ret
   exact ⟨retb E.out.symm, rfl⟩
  ·have E := Lib.hid (wi_no (n := n) (a := a) (b := b) (fun h => h2 h.2))
   have d1 : decide (a ≤ n) = true := decide_eq_true h1
   have d2 : decide (n ≤ b) = false := decide_eq_false h2
   go_enter Tryz.func68, Tryz.ntmps68
   go_wp2
   go_ret
   exact ⟨retb E.out.symm, rfl⟩
 ·have E := Lib.hid (wi_no (n := n) (a := a) (b := b) (fun h => h1 h.1))
  have d1 : decide (a ≤ n) = false := decide_eq_false h1
  go_enter Tryz.func68, Tryz.ntmps68
  go_wp2
  go_ret
  exact ⟨retb E.out.symm, rfl⟩

theorem raises_mid (op : Int) (h : ¬ (op = 2 ∨ op = 3 ∨ op = 4 ∨ op = 14 ∨ op = 15 ∨ op = 27 ∨ op = 35 ∨ op = 36)) : raises op = wi op 16 23 := by
 unfold raises wi
 by_cases c : 16 ≤ op ∧ op ≤ 23
 ·have hm : op ∈ ([2, 3, 4, 14, 15, 16, 17, 18, 19, 20, 21, 22, 23, 27, 35, 36] : List Int) := by simp; omega
  rw [decide_eq_true hm, decide_eq_true c.1, decide_eq_true c.2]; rfl
 ·have hm : op ∉ ([2, 3, 4, 14, 15, 16, 17, 18, 19, 20, 21, 22, 23, 27, 35, 36] : List Int) := by simp; omega
  rw [decide_eq_false hm]
  by_cases c1 : 16 ≤ op
  ·rw [decide_eq_true c1, decide_eq_false (fun h => c ⟨c1, h⟩)]; rfl
  ·rw [decide_eq_false c1]; rfl
set_option maxRecDepth 100000 in
set_option maxHeartbeats 4000000 in
theorem raises_any (op : Int) (w : World) :
  Calls Tryz.prog 22 #[.int .i64 op] w fun e w' => e = .returned (.bool (raises op)) ∧ w = w' := by
 by_cases h : op = 2 ∨ op = 3 ∨ op = 4 ∨ op = 14 ∨ op = 15 ∨ op = 27 ∨ op = 35 ∨ op = 36
 ·rcases h with rfl | rfl | rfl | rfl | rfl | rfl | rfl | rfl
  all_goals
   go_enter Tryz.func22, Tryz.ntmps22
   go_wp2
   go_ret
   exact ⟨rfl, rfl⟩
 ·have E := Lib.hid (raises_mid op h)
  have t1 : (op == 2) = false := by rw [beq_eq_false_iff_ne]; omega
  have t2 : (op == 3) = false := by rw [beq_eq_false_iff_ne]; omega
  have t3 : (op == 4) = false := by rw [beq_eq_false_iff_ne]; omega
  have t4 : (op == 14) = false := by rw [beq_eq_false_iff_ne]; omega
  have t5 : (op == 15) = false := by rw [beq_eq_false_iff_ne]; omega
  have t6 : (op == 27) = false := by rw [beq_eq_false_iff_ne]; omega
  have t7 : (op == 35) = false := by rw [beq_eq_false_iff_ne]; omega
  have t8 : (op == 36) = false := by rw [beq_eq_false_iff_ne]; omega
  clear h
  go_enter Tryz.func22, Tryz.ntmps22
  go_wp2_with (go_at_call 68; refine (within_any _ _ _ _).mono ?_; rintro e w1 ⟨rfl, rfl⟩)
  go_ret
  exact ⟨retb E.out.symm, rfl⟩

/-- An operand of the unit. -/
def opdB (nl : Nat) (a : RArg) : Bool := if a.kind = 1 then wi a.n 0 255 else if a.kind = 2 then wi a.n 0 8191 else if a.kind = 3 then wi a.n 0 ((nl : Int) - 1) else false
set_option maxRecDepth 100000 in
set_option maxHeartbeats 4000000 in
theorem operand_any (B : Nat) (u : RUnit) (lo fo go co : Option Addr) (lc fc gc cc : Nat) (a : RArg) (w : World) (hb : UBox w B u lo fo go co lc fc gc cc) (hl : u.lits.length ≤ 9223372036854775807) (ha : I64 a.kind ∧ I64 a.n) :
  Calls Tryz.prog 80 #[.pointer (some ⟨B, 0, none⟩), .agg #[.int .i64 a.kind, .int .i64 a.n]] w fun e w' => e = .returned (.bool (opdB u.lits.length a)) ∧ Below w.heap.size w w' := by
 have hbe : Below w.heap.size w (w.alloc (.cells #[.int .i64 a.kind, .int .i64 a.n] 45)) := (Below.refl _ _).alloc (Nat.le_refl _) _
 have b2 := (hb.below hbe).c2
 have hlt := hb.lt
 obtain ⟨⟨x1, x2⟩, ⟨y1, y2⟩⟩ := ha
 obtain ⟨ak, an⟩ := a
 simp only at x1 x2 y1 y2
 by_cases k1 : ak = 1
 ·subst k1
  have E : Hid (opdB u.lits.length ⟨1, an⟩ = wi an 0 255) := Lib.hid rfl
  go_enter Tryz.func80, Tryz.ntmps80
  go_wp2_with (go_at_call 68; refine (within_any _ _ _ _).mono ?_; rintro e w1 ⟨rfl, rfl⟩)
  go_ret
  exact ⟨retb E.out.symm, hbe⟩
 ·by_cases k2 : ak = 2
  ·subst k2
   have E : Hid (opdB u.lits.length ⟨2, an⟩ = wi an 0 8191) := Lib.hid rfl
   clear k1
   go_enter Tryz.func80, Tryz.ntmps80
   go_wp2_with (go_at_call 68; refine (within_any _ _ _ _).mono ?_; rintro e w1 ⟨rfl, rfl⟩)
   go_ret
   exact ⟨retb E.out.symm, hbe⟩
  ·by_cases k3 : ak = 3
   ·subst k3
    have E : Hid (opdB u.lits.length ⟨3, an⟩ = wi an 0 ((u.lits.length : Int) - 1)) := Lib.hid rfl
    clear k1 k2
    generalize u.lits.length = nl at *
    have hw1 : IntKind.i64.wrap ((nl : Int) - 1) = (nl : Int) - 1 := by rw [IntKind.wrap_i64]; omega
    go_enter Tryz.func80, Tryz.ntmps80
    go_wp2_with fail
    go_quiet ((go_at_call 68; exact Calls.quiet_of_same ((within_any _ _ _ _).mono fun _ _ ⟨a, b⟩ => ⟨a, b.symm⟩)))
    go_wp2_with fail
    go_ret
    exact ⟨retb E.out.symm, below_drewN hbe _⟩
   ·have E : Hid (opdB u.lits.length ⟨ak, an⟩ = false) := Lib.hid (by unfold opdB; rw [if_neg k1, if_neg k2, if_neg k3])
    have t1 : (ak == 1) = false := beq_eq_false_iff_ne.2 k1
    have t2 : (ak == 2) = false := beq_eq_false_iff_ne.2 k2
    have t3 : (ak == 3) = false := beq_eq_false_iff_ne.2 k3
    clear k1 k2 k3
    go_enter Tryz.func80, Tryz.ntmps80
    go_wp2_with fail
    go_ret
    exact ⟨retb E.out.symm, hbe⟩

end Go.Proofs.YtghgbikmlbildaaGreatDoor
namespace Go.Proofs.YtghgbikmlbildaaGreatDoor
open Go.RowKit
set_option linter.unusedVariables false

/-- Of each operation: which fields, how few operands, how many. -/
def rowT : List (Int × Int × Int) := [(0, 0, 0), (3, 1, 1), (131, 0, 255), (131, 2, 2), (135, 0, 200), (7, 1, 1), (3, 1, 1), (3, 1, 1), (64, 0, 0), (70, 1, 1), (66, 1, 1), (66, 2, 2), (82, 1, 1), (203, 0, 255), (139, 0, 3), (12, 0, 0), (4, 0, 0), (4, 0, 0), (6, 2, 2), (6, 2, 2), (6, 1, 1), (6, 1, 1), (2, 2, 3), (2, 2, 3), (4, 0, 0), (0, 0, 0), (0, 0, 0), (2, 2, 2), (64, 0, 0), (0, 0, 0), (66, 1, 1), (199, 1, 1), (199, 1, 1), (197, 0, 0), (64, 0, 0), (161, 0, 0), (2, 0, 1), (64, 0, 0), (0, 0, 0), (64, 0, 0), (64, 0, 0)]
def RowsAt (w : World) : Prop := 0 < w.heap.size ∧ ∀ k (h : k < 41), w.cell? ⟨0, k * 3, none⟩ = some (.int .i64 (rowT[k]'h).1) ∧ w.cell? ⟨0, k * 3 + 1, none⟩ = some (.int .i64 (rowT[k]'h).2.1) ∧ w.cell? ⟨0, k * 3 + 2, none⟩ = some (.int .i64 (rowT[k]'h).2.2)
theorem RowsAt.below {w w' : World} (h : RowsAt w) (hb : Below w.heap.size w w') : RowsAt w' :=
 ⟨Nat.lt_of_lt_of_le h.1 hb.size, fun k hk => by
  obtain ⟨a, b, c⟩ := h.2 k hk
  exact ⟨(hb.cell (p := ⟨0, k * 3, none⟩) h.1).trans a, (hb.cell (p := ⟨0, k * 3 + 1, none⟩) h.1).trans b, (hb.cell (p := ⟨0, k * 3 + 2, none⟩) h.1).trans c⟩⟩
theorem results_row_tmp {fn : Func} {p u : Tmp} {ty : TypeId} (h : fn.results = #[.cell p ty, .tmp u]) (tmps : Array Value) (P : Program) (w : World) (g : Nat) (t : TypeId) (cs : Array Value) (fr : Nat × Nat) (fs : Array Field)
  (hp : tmps.getD p undef = .pointer (some ⟨g, 0, none⟩)) (hg : w.heap[g]? = some (.cells cs t fr))
  (hu : P.underlying ty = some (.struct fs)) (hi : (P.info? ty).map (·.size) = some cs.size) :
  (results fn tmps).run P w = .ok (.tuple #[.agg cs, tmps.getD u undef]) w := by
 have hl := run_loadVar_row w g t ty cs fr (.struct fs) hg hu rfl hi
 rw [results_cell_tmp h, hp]
 simp [asAddr, hl, Result.andThen]

set_option maxRecDepth 100000 in
set_option maxHeartbeats 2000000 in
theorem rowOf_yes (k : Nat) (h1 : 1 ≤ k) (h2 : k < 41) (w : World) (hr : RowsAt w) :
  Calls Tryz.prog 31 #[.int .i64 k] w fun e w' => e = .returned (.tuple #[.agg #[.int .i64 (rowT[k]'h2).1, .int .i64 (rowT[k]'h2).2.1, .int .i64 (rowT[k]'h2).2.2], .bool true]) ∧ Below w.heap.size w w' := by
 obtain ⟨c0, c1, c2⟩ := hr.2 k h2
 have hlt := hr.1
 generalize rowT[k]'h2 = x at *
 obtain ⟨x0, x1, x2⟩ := x
 simp only at c0 c1 c2
 go_enter Tryz.func31, Tryz.ntmps31
 go_wp2
 refine bodyPost_ret (results_row_tmp rfl _ _ _ w.heap.size _ _ _ _ rfl (heap_alloc_new _ _) Tryz.underlying57 (by kernel_rfl)) rfl ?_
 exact ⟨rfl, (Below.refl _ _).alloc (Nat.le_refl _) _⟩
set_option maxRecDepth 100000 in
set_option maxHeartbeats 2000000 in
theorem rowOf_no (op : Int) (h : ¬ (1 ≤ op ∧ op ≤ 40)) (w : World) :
  Calls Tryz.prog 31 #[.int .i64 op] w fun e w' => e = .returned (.tuple #[.agg #[.int .i64 0, .int .i64 0, .int .i64 0], .bool false]) ∧ Below w.heap.size w w' := by
 by_cases h1 : op < 1
 ·go_enter Tryz.func31, Tryz.ntmps31
  go_wp2
  refine bodyPost_ret (results_row_tmp rfl _ _ _ w.heap.size _ _ _ _ rfl (heap_alloc_new _ _) Tryz.underlying57 (by kernel_rfl)) rfl ?_
  exact ⟨rfl, (Below.refl _ _).alloc (Nat.le_refl _) _⟩
 ·have h2 : 40 < op := by omega
  go_enter Tryz.func31, Tryz.ntmps31
  go_wp2
  refine bodyPost_ret (results_row_tmp rfl _ _ _ w.heap.size _ _ _ _ rfl (heap_alloc_new _ _) Tryz.underlying57 (by kernel_rfl)) rfl ?_
  exact ⟨rfl, (Below.refl _ _).alloc (Nat.le_refl _) _⟩

/-- Has a row the field with this bit? -/
def hasB (h f : Nat) : Bool := decide (h &&& f ≠ 0)
theorem and_i64 (a b : Nat) (ha : a < 9223372036854775808) (hb : b < 9223372036854775808) : bits .and .i64 (a : Int) (b : Int) = ((a &&& b : Nat) : Int) := by
 have hx : a &&& b < 2 ^ 63 := Nat.and_lt_two_pow _ (by omega)
 have h1 : (BitVec.ofInt 64 (a : Int)).toNat = a := by
  rw [BitVec.ofInt_natCast, BitVec.toNat_ofNat]; exact Nat.mod_eq_of_lt (by omega)
 have h2 : (BitVec.ofInt 64 (b : Int)).toNat = b := by
  rw [BitVec.ofInt_natCast, BitVec.toNat_ofNat]; exact Nat.mod_eq_of_lt (by omega)
 show IntKind.i64.wrap ((BitVec.ofInt 64 (a : Int) &&& BitVec.ofInt 64 (b : Int)).toNat : Int) = _
 rw [BitVec.toNat_and, h1, h2, IntKind.wrap_i64]
 omega
set_option maxRecDepth 100000 in
set_option maxHeartbeats 2000000 in
theorem has_any (h f : Nat) (z : Int) (hz : z = f) (C : Nat) (w : World) (hc : w.cell? ⟨C, 0, none⟩ = some (.int .i64 h)) (h1 : h < 1000) (h2 : f < 1000) :
  Calls Tryz.prog 79 #[.int .i64 z, .pointer (some ⟨C, 0, none⟩)] w fun e w' => e = .returned (.bool (hasB h f)) ∧ w = w' := by
 subst hz
 have ha := and_i64 h f (by omega) (by omega)
 have E : Hid ((((h &&& f : Nat) : Int) != 0) = hasB h f) := Lib.hid (by
  unfold hasB
  by_cases c : h &&& f = 0
  ·rw [c]; rfl
  ·rw [decide_eq_true c]; rw [bne_iff_ne]; omega)
 generalize h &&& f = x at *
 go_enter Tryz.func79, Tryz.ntmps79
 go_wp2
 go_ret
 exact ⟨retb E.out, rfl⟩

end Go.Proofs.YtghgbikmlbildaaGreatDoor
namespace Go.Proofs.YtghgbikmlbildaaGreatDoor
open Go.RowKit
set_option linter.unusedVariables false
set_option linter.unusedSimpArgs false

/-- From ⟨b, o⟩ on lie the cells of an instruction. -/
structure IBox (w : World) (b o : Nat) (x : RIns) (so co go : Option Addr) (sc cc gc : Nat) : Prop where
 lt : b < w.heap.size
 c0 : w.cell? ⟨b, o, none⟩ = some (.int .i64 x.op)
 c1 : w.cell? ⟨b, o + 1, none⟩ = some (.int .i64 x.dst.kind)
 c2 : w.cell? ⟨b, o + 2, none⟩ = some (.int .i64 x.dst.n)
 c3 : w.cell? ⟨b, o + 3, none⟩ = some (.slice so x.src.length sc)
 c4 : w.cell? ⟨b, o + 4, none⟩ = some (.int .i64 x.to)
 c5 : w.cell? ⟨b, o + 5, none⟩ = some (.int .i64 x.n)
 c6 : w.cell? ⟨b, o + 6, none⟩ = some (.int .i64 x.live)
 c7 : w.cell? ⟨b, o + 7, none⟩ = some (.string x.name)
 c8 : w.cell? ⟨b, o + 8, none⟩ = some (.slice co x.cases.length cc)
 c9 : w.cell? ⟨b, o + 9, none⟩ = some (.slice go x.segs.length gc)
 src : SlAt w 2 ArgR so x.src
 cases : SlAt w 2 CaseR co x.cases
 segs : SlAt w 6 SegR go x.segs
 rop : I64 x.op
 rdk : I64 x.dst.kind
 rdn : I64 x.dst.n
 rsrc : x.src.length ≤ 9223372036854775807
 rto : I64 x.to
 rn : I64 x.n
 rlive : I64 x.live
 rname : x.name.size ≤ 9223372036854775807
 rcases : x.cases.length ≤ 9223372036854775807
 rsegs : x.segs.length ≤ 9223372036854775807
theorem IBox.below {w w' : World} {b o : Nat} {x : RIns} {so co go : Option Addr} {sc cc gc : Nat} (h : IBox w b o x so co go sc cc gc) (hb : Below w.heap.size w w') : IBox w' b o x so co go sc cc gc :=
 ⟨Nat.lt_of_lt_of_le h.lt hb.size, (hb.cell (p := ⟨b, o, none⟩) h.lt).trans h.c0, (hb.cell (p := ⟨b, o + 1, none⟩) h.lt).trans h.c1, (hb.cell (p := ⟨b, o + 2, none⟩) h.lt).trans h.c2, (hb.cell (p := ⟨b, o + 3, none⟩) h.lt).trans h.c3, (hb.cell (p := ⟨b, o + 4, none⟩) h.lt).trans h.c4,
  (hb.cell (p := ⟨b, o + 5, none⟩) h.lt).trans h.c5, (hb.cell (p := ⟨b, o + 6, none⟩) h.lt).trans h.c6, (hb.cell (p := ⟨b, o + 7, none⟩) h.lt).trans h.c7, (hb.cell (p := ⟨b, o + 8, none⟩) h.lt).trans h.c8, (hb.cell (p := ⟨b, o + 9, none⟩) h.lt).trans h.c9,
  h.src.mono hb fun _ _ h => h, h.cases.mono hb fun _ _ h => h, h.segs.mono hb fun _ _ h => h, h.rop, h.rdk, h.rdn, h.rsrc, h.rto, h.rn, h.rlive, h.rname, h.rcases, h.rsegs⟩
theorem ibox_of {w : World} {ao : Option Addr} {l : List RIns} (h : SlAt w 10 (InsR w) ao l) {k : Nat} (hk : k < l.length) : ∃ b off so co go sc cc gc, ao = some ⟨b, off, none⟩ ∧ IBox w b (off + k * 10) l[k] so co go sc cc gc := by
 obtain ⟨b, off, so, sc, co, cc, go, gc, e, hb, c0, c1, c2, c3, c4, c5, c6, c7, c8, c9, s1, s2, s3, r1, r2, r3, r4, r5, r6, r7, r8, r9, r10⟩ := h.ins hk
 exact ⟨b, off, so, co, go, sc, cc, gc, e, hb, c0, c1, c2, c3, c4, c5, c6, c7, c8, c9, s1, s2, s3, r1, r2, r3, r4, r5, r6, r7, r8, r9, r10⟩

def dstB (nl : Nat) (x : RIns) (h : Nat) : Bool := if hasB h 1 = true then !decide (x.dst.kind = 3) && opdB nl x.dst else decide (x.dst.kind = 0) && decide (x.dst.n = 0)
/-- Has an instruction the fields of its row, and no others? -/
def fieldsB (nl : Nat) (x : RIns) (h lo hi : Nat) : Bool :=
 dstB nl x h && (x.src.all (opdB nl) && (wi x.src.length lo hi && (wi x.live 0 256 && ((hasB h 4 || x.n == 0) && ((hasB h 8 || x.name.toList.isEmpty) && ((hasB h 64 || x.to == 0) && ((hasB h 128 || x.live == 0) && ((hasB h 16 || x.cases.length == 0) && (hasB h 32 || x.segs.length == 0)))))))))

set_option maxRecDepth 100000 in
set_option maxHeartbeats 8000000 in
theorem fields_any (B : Nat) (u : RUnit) (lo' fo go' co' : Option Addr) (lc fc gc' cc' : Nat) (b o : Nat) (x : RIns) (so co go : Option Addr) (sc cc gc : Nat) (h lo hi : Nat) (w : World) (hu : UBox w B u lo' fo go' co' lc fc gc' cc') (hl : u.lits.length ≤ 9223372036854775807) (hx : IBox w b o x so co go sc cc gc) (h1 : h < 1000) (h2 : lo < 1000) (h3 : hi < 1000) :
  Calls Tryz.prog 32 #[.pointer (some ⟨B, 0, none⟩), .pointer (some ⟨b, o, none⟩), .agg #[.int .i64 h, .int .i64 lo, .int .i64 hi]] w fun e w' => e = .returned (.bool (fieldsB u.lits.length x h lo hi)) ∧ Below w.heap.size w w' := by
 have hbe : Below w.heap.size w (w.alloc (.cells #[.int .i64 h, .int .i64 lo, .int .i64 hi] 57)) := (Below.refl _ _).alloc (Nat.le_refl _) _
 have HU := Lib.hid (hu.below hbe); have HX := Lib.hid (hx.below hbe)
 have hlt := hx.lt
 have hC : (w.alloc (.cells #[.int .i64 h, .int .i64 lo, .int .i64 hi] 57)).heap[w.heap.size]? = some (.cells #[.int .i64 h, .int .i64 lo, .int .i64 hi] 57 (0, 0)) := heap_alloc_new _ _
 clear hu hx
 go_enter Tryz.func32, Tryz.ntmps32
 go_wp2_with fail
 generalize w.alloc (.cells #[.int .i64 h, .int .i64 lo, .int .i64 hi] 57) = Wa at *
 have HBA := Lib.hid hbe
 generalize hCC : w.heap.size = C at hC ⊢
 have hc0 : Wa.cell? ⟨C, 0, none⟩ = some (.int .i64 h) := by rw [cell_of_row _ _ _ _ _ _ hC]; rfl
 have i1 := HX.out.c1; have i2 := HX.out.c2; have i3 := HX.out.c3
 have hs3 := HX.out.rsrc
 refine (has_any h 1 _ rfl C _ hc0 (by omega) (by omega)).mono ?_
 rintro e w' ⟨rfl, rfl⟩
 have HD1 : Hid (hasB h 1 = hasB h 1) := Lib.hid rfl
 generalize hq1 : hasB h 1 = q1 at *
 have HQ1 := Lib.hid hq1; clear hq1
 go_upto_if 12 with (fail)
 go_cut [] (fun wx => Hid (dstB u.lits.length x h = true) ∧ Below Wa.heap.size Wa wx)
 case first =>
  cases q1 with
  | true =>
   cases hd2 : decide (x.dst.kind = 3) with
   | true =>
    have E : Hid (fieldsB u.lits.length x h lo hi = false) := Lib.hid (by unfold fieldsB dstB; rw [HQ1.out, hd2]; rfl)
    have hk : (x.dst.kind == 3) = true := by rw [of_decide_eq_true hd2]; rfl
    clear hd2
    go_wp2_with fail
    go_ret
    exact ⟨retb E.out.symm, hbe⟩
   | false =>
    have hk : (x.dst.kind == 3) = false := by rw [beq_eq_false_iff_ne]; exact of_decide_eq_false hd2
    have hop := operand_any B u lo' fo go' co' lc fc gc' cc' x.dst _ HU.out hl ⟨HX.out.rdk, HX.out.rdn⟩
    cases hq : opdB u.lits.length x.dst with
    | false =>
     have E : Hid (fieldsB u.lits.length x h lo hi = false) := Lib.hid (by unfold fieldsB dstB; rw [HQ1.out, hd2, hq]; rfl)
     rw [hq] at hop
     clear hd2 hq
     go_wp2_with fail
     refine hop.mono ?_
     rintro e w5 ⟨rfl, hb5⟩
     go_wp2_with fail
     go_ret
     exact ⟨retb E.out.symm, hbe.trans (hb5.mono hbe.size)⟩
    | true =>
     have HDST : Hid (dstB u.lits.length x h = true) := Lib.hid (by unfold dstB; rw [HQ1.out, hd2, hq]; rfl)
     rw [hq] at hop
     clear hd2 hq
     go_wp2_with fail
     refine hop.mono ?_
     rintro e w5 ⟨rfl, hB0⟩
     go_wp2_with fail
     go_meet
     case rel => exact ⟨HDST, hB0⟩
  | false =>
   by_cases z1 : x.dst.kind = 0
   ·have y1 : (x.dst.kind == 0) = true := by rw [z1]; rfl
    by_cases z2 : x.dst.n = 0
    ·have y2 : (x.dst.n == 0) = true := by rw [z2]; rfl
     have HDST : Hid (dstB u.lits.length x h = true) := Lib.hid (by unfold dstB; rw [HQ1.out, decide_eq_true z1, decide_eq_true z2]; rfl)
     clear z1 z2
     go_wp2_with fail
     go_meet
     case rel => exact ⟨HDST, Below.refl _ _⟩
    ·have y2 : (x.dst.n == 0) = false := beq_eq_false_iff_ne.2 z2
     have E : Hid (fieldsB u.lits.length x h lo hi = false) := Lib.hid (by unfold fieldsB dstB; rw [HQ1.out, decide_eq_true z1, decide_eq_false z2]; rfl)
     clear z1 z2
     go_wp2_with fail
     go_ret
     exact ⟨retb E.out.symm, hbe⟩
   ·have y1 : (x.dst.kind == 0) = false := beq_eq_false_iff_ne.2 z1
    have E : Hid (fieldsB u.lits.length x h lo hi = false) := Lib.hid (by unfold fieldsB dstB; rw [HQ1.out, decide_eq_false z1]; rfl)
    clear z1
    go_wp2_with fail
    go_ret
    exact ⟨retb E.out.symm, hbe⟩
 case rest =>
  obtain ⟨HDST, hB0⟩ := hcut
  rename_i w5
  have i3 := (HX.out.below hB0).c3
  go_wp2_with fail
  go_loopw [39] (fun iv wr => ∃ k : Nat, k ≤ x.src.length ∧ iv = .int .i64 k ∧ Hid (∀ j (h : j < x.src.length), j < k → opdB u.lits.length x.src[j] = true) ∧ Below Wa.heap.size Wa wr) (fun iv _ => x.src.length - (intOf iv).toNat)
  case atStart => exact ⟨0, Nat.zero_le _, rfl, Lib.hid (fun j _ h => absurd h (Nat.not_lt_zero _)), hB0⟩
  case round =>
   obtain ⟨k, hk, rfl, HK, hB⟩ := hrel
   rename World => wr
   have ib := HX.out.below hB
   have ub := HU.out.below hB
   by_cases hlt : k < x.src.length
   ·obtain ⟨b2, off, hao, hb2, q0, q1, r0, r1⟩ := ib.src.arg hlt
    subst hao
    have HE : Hid (opdB u.lits.length x.src[k] = false → fieldsB u.lits.length x h lo hi = false) := Lib.hid (fun hf => by
     unfold fieldsB
     have : x.src.all (opdB u.lits.length) = false := by
      rw [List.all_eq_false]; exact ⟨x.src[k], List.getElem_mem hlt, by rw [hf]; decide⟩
     rw [this]; simp)
    have HN : Hid (opdB u.lits.length x.src[k] = true → ∀ j (h : j < x.src.length), j < k + 1 → opdB u.lits.length x.src[j] = true) := Lib.hid (fun hne j h hj => by
     rcases Nat.eq_or_lt_of_le (Nat.le_of_lt_succ hj) with e | e
     ·subst e; exact hne
     ·exact HK.out j h e)
    generalize x.src[k] = a at *
    have hba := (Below.refl wr.heap.size wr).alloc (Nat.le_refl _) (.cells #[.int .i64 a.kind, .int .i64 a.n] 45)
    have hop := operand_any B u lo' fo go' co' lc fc gc' cc' a _ (ub.below hba) hl ⟨r0, r1⟩
    clear ib ub
    cases hq : opdB u.lits.length a with
    | false =>
     have E := Lib.hid (HE.out hq)
     rw [hq] at hop
     clear hq
     go_wp2_with fail
     refine hop.mono ?_
     rintro e w5 ⟨rfl, hb5⟩
     go_wp2_with fail
     go_ret
     exact ⟨retb E.out.symm, HBA.out.trans ((hB.trans ((hba.trans (hb5.mono (by simp))).mono hB.size)).mono HBA.out.size)⟩
    | true =>
     have HN2 := Lib.hid (HN.out hq)
     rw [hq] at hop
     clear hq
     go_wp2_with fail
     refine hop.mono ?_
     rintro e w5 ⟨rfl, hb5⟩
     go_wp2_with fail
     go_roundw
     case rel => exact ⟨k + 1, by omega, by go_num, HN2, hB.trans ((hba.trans (hb5.mono (by simp))).mono hB.size)⟩
     case measure => simp [intOf]; omega
   ·have HALL : Hid (x.src.all (opdB u.lits.length) = true) := Lib.hid (by
     rw [List.all_eq_true]
     intro a ha
     obtain ⟨j, hj, rfl⟩ := List.getElem_of_mem ha
     exact HK.out j hj (by omega))
    have hC2 := (hB.block C (lt_of_row hC)).trans hC
    have hcW : wr.cell? ⟨C, 0, none⟩ = some (.int .i64 h) := by rw [cell_of_row _ _ _ _ _ _ hC2]; rfl
    have hcL : wr.cell? ⟨C, 1, none⟩ = some (.int .i64 lo) := by rw [cell_of_row _ _ _ _ _ _ hC2]; rfl
    have hcH : wr.cell? ⟨C, 2, none⟩ = some (.int .i64 hi) := by rw [cell_of_row _ _ _ _ _ _ hC2]; rfl
    have d3 := ib.c3; have d4 := ib.c4; have d5 := ib.c5; have d6 := ib.c6; have d7 := ib.c7; have d8 := ib.c8; have d9 := ib.c9
    have hsrc := ib.rsrc
    clear ib ub hC2
    have HF : Hid (fieldsB u.lits.length x h lo hi = (wi x.src.length lo hi && (wi x.live 0 256 && ((hasB h 4 || x.n == 0) && ((hasB h 8 || x.name.toList.isEmpty) && ((hasB h 64 || x.to == 0) && ((hasB h 128 || x.live == 0) && ((hasB h 16 || x.cases.length == 0) && (hasB h 32 || x.segs.length == 0))))))))) := Lib.hid (by
     unfold fieldsB; rw [HDST.out, HALL.out]; rfl)
    have hBZ := HBA.out.trans (hB.mono HBA.out.size)
    cases hw1 : wi x.src.length lo hi with
    | false =>
     have E : Hid (fieldsB u.lits.length x h lo hi = false) := Lib.hid (by rw [HF.out, hw1]; rfl)
     go_wp2_with fail
     go_quiet ((go_at_call 68; exact Calls.quiet_of_same ((within_any _ _ _ _).mono fun _ _ ⟨a, b⟩ => ⟨a, b.symm⟩)))
     go_wp2_with fail
     go_ret
     exact ⟨retb E.out.symm, below_drewN hBZ _⟩
    | true =>
     go_wp2_with fail
     go_quiet ((go_at_call 68; exact Calls.quiet_of_same ((within_any _ _ _ _).mono fun _ _ ⟨a, b⟩ => ⟨a, b.symm⟩)))
     have HBQ := Lib.hid hBZ
     cases hw2 : wi x.live 0 256 with
     | false =>
      have E : Hid (fieldsB u.lits.length x h lo hi = false) := Lib.hid (by rw [HF.out, hw1, hw2]; rfl)
      go_wp2_with (go_at_call 68; refine (within_any _ _ _ _).mono ?_; rintro e w1 ⟨rfl, rfl⟩)
      go_ret
      exact ⟨retb E.out.symm, below_drewN hBZ _⟩
     | true =>
      have HF2 : Hid (fieldsB u.lits.length x h lo hi = ((hasB h 4 || x.n == 0) && ((hasB h 8 || x.name.toList.isEmpty) && ((hasB h 64 || x.to == 0) && ((hasB h 128 || x.live == 0) && ((hasB h 16 || x.cases.length == 0) && (hasB h 32 || x.segs.length == 0))))))) := Lib.hid (by rw [HF.out, hw1, hw2]; rfl)
      clear HF
      have HQ0 := Lib.hid hcW
      go_upto_region 16 with (go_at_call 68; refine (within_any _ _ _ _).mono ?_; rintro e w1 ⟨rfl, rfl⟩)
      have hBW := below_drewN hBZ nq
      have d3' := Lib.hid d3
      have d4' := Lib.hid d4
      have d5' := Lib.hid d5
      have d6' := Lib.hid d6
      have d7' := Lib.hid d7
      have d8' := Lib.hid d8
      have d9' := Lib.hid d9
      clear d3 d4 d5 d6 d7 d8 d9 hcW hcL hcH
      generalize hWQ : wr.drewN nq = Wq at *
      have hcW : Wq.cell? ⟨C, 0, none⟩ = some (.int .i64 h) := by rw [← hWQ]; exact HQ0.out
      have d4 := d4'.out
      rw [show wr.cell? = Wq.cell? from by rw [← hWQ]; rfl] at d4
      have d5 := d5'.out
      rw [show wr.cell? = Wq.cell? from by rw [← hWQ]; rfl] at d5
      have d6 := d6'.out
      rw [show wr.cell? = Wq.cell? from by rw [← hWQ]; rfl] at d6
      have d7 := d7'.out
      rw [show wr.cell? = Wq.cell? from by rw [← hWQ]; rfl] at d7
      have d8 := d8'.out
      rw [show wr.cell? = Wq.cell? from by rw [← hWQ]; rfl] at d8
      have d9 := d9'.out
      rw [show wr.cell? = Wq.cell? from by rw [← hWQ]; rfl] at d9
      clear hWQ
      have HG0 : Hid (fieldsB u.lits.length x h lo hi = ((hasB h 4 || x.n == 0) && ((hasB h 8 || x.name.toList.isEmpty) && ((hasB h 64 || x.to == 0) && ((hasB h 128 || x.live == 0) && ((hasB h 16 || x.cases.length == 0) && (hasB h 32 || x.segs.length == 0))))))) := Lib.hid (by rw [HF2.out])
      have hh := fun wx (hc : wx.cell? ⟨C, 0, none⟩ = some (.int .i64 h)) => has_any h 4 4 rfl C wx hc (by omega) (by omega)
      go_cut [66] (fun sv wx => ∃ v : Bool, sv = .bool v ∧ Hid ((hasB h 4 || x.n == 0) = !v) ∧ Wq = wx)
      case first =>
       go_wp2_with fail
       refine (hh _ hcW).mono ?_
       rintro e w1 ⟨rfl, rfl⟩
       cases hq4 : hasB h 4
       ·go_wp2_with fail
        go_meet
        case rel => exact ⟨_, rfl, Lib.hid (by rw [hq4]; first | rfl | (simp; done) | (simp [bne]; done) | (rw [Bool.eq_iff_iff]; simp; done) | (rw [Bool.eq_iff_iff]; simp; omega)), rfl⟩
       ·go_wp2_with fail
        go_meet
        case rel => exact ⟨_, rfl, Lib.hid (by rw [hq4]; first | rfl | (simp; done) | (simp [bne]; done) | (rw [Bool.eq_iff_iff]; simp; done) | (rw [Bool.eq_iff_iff]; simp; omega)), rfl⟩
      case rest =>
       obtain ⟨v, rfl, HV00, rfl⟩ := hcut
       clear hh
       cases v with
       | true =>
        have E : Hid (fieldsB u.lits.length x h lo hi = false) := Lib.hid (by rw [HG0.out, HV00.out]; rfl)
        go_wp2_with fail
        go_ret
        exact ⟨retb E.out.symm, hBW⟩
       | false =>
        have HV0 : Hid ((hasB h 4 || x.n == 0) = true) := Lib.hid (by rw [HV00.out]; rfl)
        go_upto_region 17 with fail
        have HG1 : Hid (fieldsB u.lits.length x h lo hi = ((hasB h 8 || x.name.toList.isEmpty) && ((hasB h 64 || x.to == 0) && ((hasB h 128 || x.live == 0) && ((hasB h 16 || x.cases.length == 0) && (hasB h 32 || x.segs.length == 0)))))) := Lib.hid (by rw [HG0.out, HV0.out, Bool.true_and])
        have hh := fun wx (hc : wx.cell? ⟨C, 0, none⟩ = some (.int .i64 h)) => has_any h 8 8 rfl C wx hc (by omega) (by omega)
        go_cut [66] (fun sv wx => ∃ v : Bool, sv = .bool v ∧ Hid ((hasB h 8 || x.name.toList.isEmpty) = !v) ∧ Wq = wx)
        case first =>
         go_wp2_with fail
         refine (hh _ hcW).mono ?_
         rintro e w1 ⟨rfl, rfl⟩
         cases hq4 : hasB h 8
         ·go_wp2_with fail
          go_meet
          case rel => exact ⟨_, rfl, Lib.hid (by rw [hq4]; first | rfl | (simp; done) | (simp [bne]; done) | (rw [Bool.eq_iff_iff]; simp; done) | (rw [Bool.eq_iff_iff]; simp; omega)), rfl⟩
         ·go_wp2_with fail
          go_meet
          case rel => exact ⟨_, rfl, Lib.hid (by rw [hq4]; first | rfl | (simp; done) | (simp [bne]; done) | (rw [Bool.eq_iff_iff]; simp; done) | (rw [Bool.eq_iff_iff]; simp; omega)), rfl⟩
        case rest =>
         obtain ⟨v, rfl, HV10, rfl⟩ := hcut
         clear hh
         cases v with
         | true =>
          have E : Hid (fieldsB u.lits.length x h lo hi = false) := Lib.hid (by rw [HG1.out, HV10.out]; rfl)
          go_wp2_with fail
          go_ret
          exact ⟨retb E.out.symm, hBW⟩
         | false =>
          have HV1 : Hid ((hasB h 8 || x.name.toList.isEmpty) = true) := Lib.hid (by rw [HV10.out]; rfl)
          go_upto_region 18 with fail
          have HG2 : Hid (fieldsB u.lits.length x h lo hi = ((hasB h 64 || x.to == 0) && ((hasB h 128 || x.live == 0) && ((hasB h 16 || x.cases.length == 0) && (hasB h 32 || x.segs.length == 0))))) := Lib.hid (by rw [HG1.out, HV1.out, Bool.true_and])
          have hh := fun wx (hc : wx.cell? ⟨C, 0, none⟩ = some (.int .i64 h)) => has_any h 64 64 rfl C wx hc (by omega) (by omega)
          go_cut [66] (fun sv wx => ∃ v : Bool, sv = .bool v ∧ Hid ((hasB h 64 || x.to == 0) = !v) ∧ Wq = wx)
          case first =>
           go_wp2_with fail
           refine (hh _ hcW).mono ?_
           rintro e w1 ⟨rfl, rfl⟩
           cases hq4 : hasB h 64
           ·go_wp2_with fail
            go_meet
            case rel => exact ⟨_, rfl, Lib.hid (by rw [hq4]; first | rfl | (simp; done) | (simp [bne]; done) | (rw [Bool.eq_iff_iff]; simp; done) | (rw [Bool.eq_iff_iff]; simp; omega)), rfl⟩
           ·go_wp2_with fail
            go_meet
            case rel => exact ⟨_, rfl, Lib.hid (by rw [hq4]; first | rfl | (simp; done) | (simp [bne]; done) | (rw [Bool.eq_iff_iff]; simp; done) | (rw [Bool.eq_iff_iff]; simp; omega)), rfl⟩
          case rest =>
           obtain ⟨v, rfl, HV20, rfl⟩ := hcut
           clear hh
           cases v with
           | true =>
            have E : Hid (fieldsB u.lits.length x h lo hi = false) := Lib.hid (by rw [HG2.out, HV20.out]; rfl)
            go_wp2_with fail
            go_ret
            exact ⟨retb E.out.symm, hBW⟩
           | false =>
            have HV2 : Hid ((hasB h 64 || x.to == 0) = true) := Lib.hid (by rw [HV20.out]; rfl)
            go_upto_region 19 with fail
            have HG3 : Hid (fieldsB u.lits.length x h lo hi = ((hasB h 128 || x.live == 0) && ((hasB h 16 || x.cases.length == 0) && (hasB h 32 || x.segs.length == 0)))) := Lib.hid (by rw [HG2.out, HV2.out, Bool.true_and])
            have hh := fun wx (hc : wx.cell? ⟨C, 0, none⟩ = some (.int .i64 h)) => has_any h 128 128 rfl C wx hc (by omega) (by omega)
            go_cut [66] (fun sv wx => ∃ v : Bool, sv = .bool v ∧ Hid ((hasB h 128 || x.live == 0) = !v) ∧ Wq = wx)
            case first =>
             go_wp2_with fail
             refine (hh _ hcW).mono ?_
             rintro e w1 ⟨rfl, rfl⟩
             cases hq4 : hasB h 128
             ·go_wp2_with fail
              go_meet
              case rel => exact ⟨_, rfl, Lib.hid (by rw [hq4]; first | rfl | (simp; done) | (simp [bne]; done) | (rw [Bool.eq_iff_iff]; simp; done) | (rw [Bool.eq_iff_iff]; simp; omega)), rfl⟩
             ·go_wp2_with fail
              go_meet
              case rel => exact ⟨_, rfl, Lib.hid (by rw [hq4]; first | rfl | (simp; done) | (simp [bne]; done) | (rw [Bool.eq_iff_iff]; simp; done) | (rw [Bool.eq_iff_iff]; simp; omega)), rfl⟩
            case rest =>
             obtain ⟨v, rfl, HV30, rfl⟩ := hcut
             clear hh
             cases v with
             | true =>
              have E : Hid (fieldsB u.lits.length x h lo hi = false) := Lib.hid (by rw [HG3.out, HV30.out]; rfl)
              go_wp2_with fail
              go_ret
              exact ⟨retb E.out.symm, hBW⟩
             | false =>
              have HV3 : Hid ((hasB h 128 || x.live == 0) = true) := Lib.hid (by rw [HV30.out]; rfl)
              go_upto_region 21 with fail
              have HG4 : Hid (fieldsB u.lits.length x h lo hi = ((hasB h 16 || x.cases.length == 0) && (hasB h 32 || x.segs.length == 0))) := Lib.hid (by rw [HG3.out, HV3.out, Bool.true_and])
              have hh := fun wx (hc : wx.cell? ⟨C, 0, none⟩ = some (.int .i64 h)) => has_any h 16 16 rfl C wx hc (by omega) (by omega)
              go_cut [107] (fun sv wx => ∃ v : Bool, sv = .bool v ∧ Hid ((hasB h 16 || x.cases.length == 0) = !v) ∧ Wq = wx)
              case first =>
               go_wp2_with fail
               refine (hh _ hcW).mono ?_
               rintro e w1 ⟨rfl, rfl⟩
               cases hq4 : hasB h 16
               ·go_wp2_with fail
                go_meet
                case rel => exact ⟨_, rfl, Lib.hid (by rw [hq4]; first | rfl | (simp; done) | (simp [bne]; done) | (rw [Bool.eq_iff_iff]; simp; done) | (rw [Bool.eq_iff_iff]; simp; omega)), rfl⟩
               ·go_wp2_with fail
                go_meet
                case rel => exact ⟨_, rfl, Lib.hid (by rw [hq4]; first | rfl | (simp; done) | (simp [bne]; done) | (rw [Bool.eq_iff_iff]; simp; done) | (rw [Bool.eq_iff_iff]; simp; omega)), rfl⟩
              case rest =>
               obtain ⟨v, rfl, HV40, rfl⟩ := hcut
               clear hh
               cases v with
               | true =>
                have E : Hid (fieldsB u.lits.length x h lo hi = false) := Lib.hid (by rw [HG4.out, HV40.out]; rfl)
                go_wp2_with fail
                go_ret
                exact ⟨retb E.out.symm, hBW⟩
               | false =>
                have HV4 : Hid ((hasB h 16 || x.cases.length == 0) = true) := Lib.hid (by rw [HV40.out]; rfl)
                go_upto_region 22 with fail
                have HG5 : Hid (fieldsB u.lits.length x h lo hi = (hasB h 32 || x.segs.length == 0)) := Lib.hid (by rw [HG4.out, HV4.out, Bool.true_and])
                have hh := fun wx (hc : wx.cell? ⟨C, 0, none⟩ = some (.int .i64 h)) => has_any h 32 32 rfl C wx hc (by omega) (by omega)
                go_cut [107] (fun sv wx => ∃ v : Bool, sv = .bool v ∧ Hid ((hasB h 32 || x.segs.length == 0) = !v) ∧ Wq = wx)
                case first =>
                 go_wp2_with fail
                 refine (hh _ hcW).mono ?_
                 rintro e w1 ⟨rfl, rfl⟩
                 cases hq4 : hasB h 32
                 ·go_wp2_with fail
                  go_meet
                  case rel => exact ⟨_, rfl, Lib.hid (by rw [hq4]; first | rfl | (simp; done) | (simp [bne]; done) | (rw [Bool.eq_iff_iff]; simp; done) | (rw [Bool.eq_iff_iff]; simp; omega)), rfl⟩
                 ·go_wp2_with fail
                  go_meet
                  case rel => exact ⟨_, rfl, Lib.hid (by rw [hq4]; first | rfl | (simp; done) | (simp [bne]; done) | (rw [Bool.eq_iff_iff]; simp; done) | (rw [Bool.eq_iff_iff]; simp; omega)), rfl⟩
                case rest =>
                 obtain ⟨v, rfl, HV50, rfl⟩ := hcut
                 clear hh
                 cases v with
                 | true =>
                  have E : Hid (fieldsB u.lits.length x h lo hi = false) := Lib.hid (by rw [HG5.out, HV50.out]; rfl)
                  go_wp2_with fail
                  go_ret
                  exact ⟨retb E.out.symm, hBW⟩
                 | false =>
                  have HV5 : Hid ((hasB h 32 || x.segs.length == 0) = true) := Lib.hid (by rw [HV50.out]; rfl)
                  have E : Hid (fieldsB u.lits.length x h lo hi = true) := Lib.hid (by rw [HG5.out, HV5.out])
                  go_wp2_with fail
                  go_ret
                  exact ⟨retb E.out.symm, hBW⟩

end Go.Proofs.YtghgbikmlbildaaGreatDoor
namespace Go.Proofs.YtghgbikmlbildaaGreatDoor
open Go.RowKit Go.Maps Go.WideMaps
set_option linter.unusedVariables false
set_option linter.unusedSimpArgs false

theorem sigLaid : laidOutB Tryz.prog = true := by kernel_rfl
theorem sigLaw : Keyed Tryz.prog 125 := Keyed.of_law (deep_law_laid sigLaid (m := 2) (by omega) (of_decide_eq_true (by kernel_rfl)) (by kernel_rfl) (by rw [Tryz.underlying125]))
theorem zeroBool (w : World) : (zeroValue 4).run Tryz.prog w = .ok (.bool false) w := by kernel_rfl
/-- The key of a name with an arity. -/
def sigKey (s : ByteArray) (a : Int) : Lit := .string (keyBytes [.string s.data.toList, .int .i64 a])
theorem sigKeyType : Tryz.prog.keyType 125 = true := by kernel_rfl
theorem sigCells : Tryz.prog.cellsOf 125 = 2 := by kernel_rfl
theorem strCells1 : Tryz.prog.cellsOf 9 = 1 := by kernel_rfl
theorem intCells1 : Tryz.prog.cellsOf 3 = 1 := by kernel_rfl
theorem sigTypes : ∃ m, Tryz.prog.types.size + 1 = m + 1 + 1 := ⟨Tryz.prog.types.size - 1, by have : 0 < Tryz.prog.types.size := of_decide_eq_true (by kernel_rfl); omega⟩
theorem keyOf_sig {s : ByteArray} {a : Int} (hs : s.size ≤ maxLen) (ha : I64 a) : keyOf Tryz.prog 125 (.agg #[.string s, .int .i64 a]) = some (sigKey s a) := by
 have hwf : (Lit.int .i64 a).wf = true := by
  obtain ⟨h1, h2⟩ := ha
  simp [Lit.wf, IntKind.min, IntKind.max, IntKind.bits, IntKind.signed]; omega
 unfold keyOf sigKey
 simp only [Tryz.underlying125]
 rw [if_pos (by simp [sigKeyType, Value.formed, Tryz.underlying125, sigCells])]
 obtain ⟨m, hm⟩ := sigTypes
 rw [hm]
 unfold Program.keyLits
 simp only [Tryz.underlying125, Value.cells]
 simp [Program.keyLits, Tryz.underlying9, Tryz.underlying3, strCells1, intCells1, hs, hwf]
 exact sigCells.symm
theorem sigKey_inj {s s' : ByteArray} {a a' : Int} (hs : s.size ≤ maxLen) (hs' : s'.size ≤ maxLen) (ha : I64 a) (ha' : I64 a') (h : sigKey s a = sigKey s' a') : s = s' ∧ a = a' := by
 have h1 := keyOf_sig hs ha
 have h2 := keyOf_sig hs' ha'
 rw [← h] at h2
 have h3 := sigLaw.inj h1 h2
 injection h3 with h3
 have h4 := congrArg Array.toList h3
 simp at h4
 exact h4
/-- Block M is a map of at most n entries that holds these names with arities. -/
def SigIs (w : World) (M n : Nat) (S : ByteArray → Int → Bool) : Prop := ∃ D : DataW Unit, w.ownsMap Tryz.prog 125 (plainElem Tryz.prog 4) M n D ∧ ∀ (s : ByteArray) (a : Int), s.size ≤ maxLen → I64 a → D.atKey (sigKey s a) (.lit (.bool false)) = .lit (.bool (S s a))
theorem SigIs.kept {w w' : World} {M n : Nat} {S : ByteArray → Int → Bool} (h : SigIs w M n S) (hb : Below w.heap.size w w') : SigIs w' M n S := by
 obtain ⟨D, h1, h2⟩ := h
 exact ⟨D, h1.kept (row := none) ⟨hb.os, hb.tape, hb.output, hb.size, fun k hk _ => hb.block k hk⟩ (by simp), h2⟩
theorem SigIs.lt {w : World} {M n : Nat} {S : ByteArray → Int → Bool} (h : SigIs w M n S) : M < w.heap.size := h.elim fun _ h => h.1.lt
theorem sig_made (w : World) : SigIs (w.alloc (.map #[] 0)) w.heap.size 0 (fun _ _ => false) := ⟨_, World.ownsMap_made w _ _ _, fun s a _ _ => rfl⟩
theorem plainElem_bool_inv {P : Program} {e : TypeId} (he : P.underlying e = some .bool) {v : Value} {z : DataW Unit × List MemPlace} (h : plainElem P e v = some z) : ∃ c, v = .bool c ∧ z = (.lit (.bool c), []) := by
 unfold plainElem at h
 rw [he] at h
 cases v <;> simp at h
 exact ⟨_, rfl, h.symm⟩
set_option maxRecDepth 100000 in
theorem sig_look {w : World} {M n : Nat} {S : ByteArray → Int → Bool} (h : SigIs w M n S) {s : ByteArray} {a : Int} (hs : s.size ≤ maxLen) (ha : I64 a) :
  (Instr.lookup 123 (.map (some M)) (.agg #[.string s, .int .i64 a]) false).run Tryz.prog w = .ok (.bool (S s a)) w := by
 obtain ⟨D, h1, h2⟩ := h
 obtain ⟨v, ps, hrun, hv⟩ := h1.lookup sigLaw Tryz.underlying123 (zeroBool w) (plainElem_bool Tryz.underlying4 false) (keyOf_sig hs ha)
 obtain ⟨c, rfl, hc⟩ := plainElem_bool_inv Tryz.underlying4 hv
 rw [h2 s a hs ha] at hc
 have e1 : (DataW.lit (.bool (S s a)) : DataW Unit) = .lit (.bool c) := congrArg Prod.fst hc
 have e2 : S s a = c := by injection e1 with e1; injection e1
 rw [hrun, e2]
theorem sig_put {w w' : World} {M n : Nat} {S : ByteArray → Int → Bool} {D : DataW Unit} (h1 : w.ownsMap Tryz.prog 125 (plainElem Tryz.prog 4) M n D) (h2 : ∀ (s : ByteArray) (a : Int), s.size ≤ maxLen → I64 a → D.atKey (sigKey s a) (.lit (.bool false)) = .lit (.bool (S s a)))
  {s : ByteArray} {a : Int} (hs : s.size ≤ maxLen) (ha : I64 a) (h3 : w'.ownsMap Tryz.prog 125 (plainElem Tryz.prog 4) M (n + 1) (D.put (sigKey s a) (.lit (.bool true)))) : SigIs w' M (n + 1) (fun s' a' => (s.data.toList == s'.data.toList && a == a') || S s' a') := by
 refine ⟨_, h3, fun s' a' hs' ha' => ?_⟩
 by_cases e : s' = s ∧ a' = a
 ·obtain ⟨rfl, rfl⟩ := e
  rw [atKey_put_same h1.isMap (sigLaw.key (keyOf_sig hs ha))]
  simp
 ·rw [atKey_put_other (fun h => e (sigKey_inj hs' hs ha' ha h)), h2 s' a' hs' ha']
  have : (s.data.toList == s'.data.toList && a == a') = false := by
   cases h : (s.data.toList == s'.data.toList && a == a') with
   | false => rfl
   | true =>
    rw [Bool.and_eq_true, beq_iff_eq, beq_iff_eq] at h
    exact absurd ⟨ByteArray.ext (Array.toList_inj.1 h.1.symm), h.2.symm⟩ e
  simp only [this, Bool.false_or]
end Go.Proofs.YtghgbikmlbildaaGreatDoor
