/-
  large, Find, Raises: the walks.
-/
import Derived.Test.YtghgbikmlbildaaDoorCWalk1
namespace Go.Proofs.YtghgbikmlbildaaDoor
open Go.RowKit
set_option linter.unusedVariables false

/-- A unit's parts in memory, its slices' addresses told. -/
structure UP (w : World) (u : RUnit) (lo fo go co : Option Addr) : Prop where
  lits : SlAt w 9 (TmA w) lo u.lits
  funcs : SlAt w 4 FuncR fo u.funcs
  funs : SlAt w 3 FunR go u.funs
  code : SlAt w 10 (InsR w) co u.code
  mdlLen : u.mdl.size ≤ 9223372036854775807
  vsn : I64 u.vsn
  litsLen : u.lits.length ≤ 9223372036854775807
  funcsLen : u.funcs.length ≤ 9223372036854775807
  funsLen : u.funs.length ≤ 9223372036854775807
  codeLen : u.code.length ≤ 9223372036854775807
theorem UP.below {w w' : World} {u : RUnit} {lo fo go co : Option Addr} (h : UP w u lo fo go co) (hb : Below w.heap.size w w') : UP w' u lo fo go co :=
  ⟨h.lits.mono hb fun _ _ h => h.below hb, h.funcs.mono hb fun _ _ h => h, h.funs.mono hb fun _ _ h => h, h.code.mono hb fun _ _ h => h.below hb, h.mdlLen, h.vsn, h.litsLen, h.funcsLen, h.funsLen, h.codeLen⟩
/-- Block B holds a unit. -/
structure UBox (w : World) (B : Nat) (u : RUnit) (lo fo go co : Option Addr) (lc fc gc cc : Nat) : Prop where
  box : w.heap[B]? = some (.cells #[.string u.mdl, .int .i64 u.vsn, .slice lo u.lits.length lc, .slice fo u.funcs.length fc, .slice go u.funs.length gc, .slice co u.code.length cc] 27 (0, 0))
theorem ret_ib {k : IntKind} {a b : Int} {c d : Bool} (h : a = b) (h' : c = d) : Ending.returned (.tuple #[.int k a, .bool c]) = .returned (.tuple #[.int k b, .bool d]) := by rw [h, h']
theorem lt_of_row {w : World} {C : Nat} {o : Obj} (h : w.heap[C]? = some o) : C < w.heap.size := (Array.getElem?_eq_some_iff.1 h).1
section
variable {w : World} {B : Nat} {u : RUnit} {lo fo go co : Option Addr} {lc fc gc cc : Nat}
theorem UBox.lt (h : UBox w B u lo fo go co lc fc gc cc) : B < w.heap.size := lt_of_row h.box
theorem UBox.below {w' : World} (h : UBox w B u lo fo go co lc fc gc cc) (hb : Below w.heap.size w w') : UBox w' B u lo fo go co lc fc gc cc := ⟨(hb.block B h.lt).trans h.box⟩
theorem UBox.c0 (h : UBox w B u lo fo go co lc fc gc cc) : w.cell? ⟨B, 0, none⟩ = some (.string u.mdl) := by rw [cell_of_row _ _ _ _ _ _ h.box]; rfl
theorem UBox.c1 (h : UBox w B u lo fo go co lc fc gc cc) : w.cell? ⟨B, 1, none⟩ = some (.int .i64 u.vsn) := by rw [cell_of_row _ _ _ _ _ _ h.box]; rfl
theorem UBox.c2 (h : UBox w B u lo fo go co lc fc gc cc) : w.cell? ⟨B, 2, none⟩ = some (.slice lo u.lits.length lc) := by rw [cell_of_row _ _ _ _ _ _ h.box]; rfl
theorem UBox.c3 (h : UBox w B u lo fo go co lc fc gc cc) : w.cell? ⟨B, 3, none⟩ = some (.slice fo u.funcs.length fc) := by rw [cell_of_row _ _ _ _ _ _ h.box]; rfl
theorem UBox.c4 (h : UBox w B u lo fo go co lc fc gc cc) : w.cell? ⟨B, 4, none⟩ = some (.slice go u.funs.length gc) := by rw [cell_of_row _ _ _ _ _ _ h.box]; rfl
theorem UBox.c5 (h : UBox w B u lo fo go co lc fc gc cc) : w.cell? ⟨B, 5, none⟩ = some (.slice co u.code.length cc) := by rw [cell_of_row _ _ _ _ _ _ h.box]; rfl
end
theorem ubox_new (w : World) (u : RUnit) (lo fo go co : Option Addr) (lc fc gc cc : Nat) : UBox (w.alloc (.cells #[.string u.mdl, .int .i64 u.vsn, .slice lo u.lits.length lc, .slice fo u.funcs.length fc, .slice go u.funs.length gc, .slice co u.code.length cc] 27)) w.heap.size u lo fo go co lc fc gc cc := ⟨heap_alloc_new _ _⟩

/-- What a call tells of a unit that is not too large. -/
def LargeP (w : World) (lo : Option Addr) (u : RUnit) (e : Ending) (w' : World) : Prop :=
  ∃ b, e = .returned (.bool b) ∧ Below w.heap.size w w' ∧ (b = false → u.lits.length ≤ 400 ∧ ∃ f, SlAt w 9 (TmAt w f) lo u.lits ∧ 0 ≤ leftF f u.lits 4000)

set_option maxRecDepth 100000 in
set_option maxHeartbeats 4000000 in
theorem large_any (u : RUnit) (lo fo go co : Option Addr) (lc fc gc cc : Nat) (w : World) (h : UP w u lo fo go co) :
    Calls Tryd.prog 5 #[.agg #[.string u.mdl, .int .i64 u.vsn, .slice lo u.lits.length lc, .slice fo u.funcs.length fc, .slice go u.funs.length gc, .slice co u.code.length cc]] w (LargeP w lo u) := by
  obtain ⟨f, hf⟩ := tms_depth h.lits
  have HF := Lib.hid hf; have HU := Lib.hid h
  clear hf
  have r1 := h.litsLen; have r2 := h.funcsLen; have r3 := h.funsLen; have r4 := h.codeLen
  clear h
  go_enter Tryd.func5, Tryd.ntmps5
  go_wp2_with fail
  have hbx := ubox_new w u lo fo go co lc fc gc cc
  have hba : Below w.heap.size w (w.alloc (.cells #[.string u.mdl, .int .i64 u.vsn, .slice lo u.lits.length lc, .slice fo u.funcs.length fc, .slice go u.funs.length gc, .slice co u.code.length cc] 27)) := (Below.refl _ _).alloc (Nat.le_refl _) _
  generalize w.alloc (.cells #[.string u.mdl, .int .i64 u.vsn, .slice lo u.lits.length lc, .slice fo u.funcs.length fc, .slice go u.funs.length gc, .slice co u.code.length cc] 27) = Wa at *
  have HUa := Lib.hid (HU.out.below hba)
  have HBA := Lib.hid hba
  generalize w.heap.size = B at hbx ⊢
  have HBX := Lib.hid hbx; clear hbx hba
  go_loopw [3, 4] (fun nv iv wr => ∃ (k : Nat) (z : Int), k ≤ u.code.length ∧ iv = .int .i64 k ∧ nv = .int .i64 z ∧ Below Wa.heap.size Wa wr) (fun _ iv _ => u.code.length - (intOf iv).toNat)
  case atStart => exact ⟨0, _, Nat.zero_le _, rfl, rfl, Below.refl _ _⟩
  case round =>
    obtain ⟨k, z, hk, rfl, rfl, hB⟩ := hrel
    rename World => wr
    have hbw := HBX.out.below hB
    have b2 := hbw.c2; have b3 := hbw.c3; have b4 := hbw.c4; have b5 := hbw.c5
    clear hbw
    by_cases hlt : k < u.code.length
    · obtain ⟨b, off, so, sc, co', cc', go', gc', hao, hb, q0, q1, q2, q3, q4, q5, q6, q7, q8, q9, _, _, _, _, _, _, s1, _, _, _, _, s2, s3⟩ := (HUa.out.below hB).code.ins hlt
      subst hao
      unfold maxLen at s1 s2 s3
      generalize u.code[k] = x at *
      go_wp2_with fail
      go_quiet (fail)
      go_wp2_with fail
      go_roundw
      case rel => exact ⟨k + 1, _, by omega, by go_num, rfl, below_drewN hB _⟩
      case measure => simp [intOf]; omega
    · by_cases c1 : 4000 < z
      · go_wp2_with fail
        all_goals go_ret
        all_goals exact ⟨_, rfl, HBA.out.trans (hB.mono HBA.out.size), fun e => by cases e⟩
      · by_cases c2 : 400 < u.lits.length
        · go_wp2_with fail
          all_goals go_ret
          all_goals exact ⟨_, rfl, HBA.out.trans (hB.mono HBA.out.size), fun e => by cases e⟩
        · have hd4 : decide ((400 : Int) < (u.lits.length : Int)) = false := decide_eq_false (by omega)
          have hG := great_any f lo lc u.lits 4000 wr ((HF.out.tms HBA.out).tms hB) (by unfold maxLen; omega) (by decide) (by decide)
          have HD : Hid (decide (leftF f u.lits 4000 < 0) = false → 0 ≤ leftF f u.lits 4000) := Lib.hid (fun e => by have := of_decide_eq_false e; omega)
          generalize decide (leftF f u.lits 4000 < 0) = q at *
          go_wp2_with fail
          refine hG.mono ?_
          rintro e w5 ⟨rfl, hb5⟩
          go_wp2_with fail
          go_ret
          exact ⟨q, rfl, HBA.out.trans ((hB.mono HBA.out.size).trans (hb5.mono (Nat.le_trans HBA.out.size hB.size))), fun e => ⟨by omega, f, HF.out, HD.out e⟩⟩

set_option maxRecDepth 100000 in
set_option maxHeartbeats 4000000 in
theorem find_any (u : RUnit) (lo fo go co : Option Addr) (lc fc gc cc : Nat) (n : ByteArray) (ar : Int) (w : World) (h : UP w u lo fo go co) :
    Calls Tryd.prog 8 #[.agg #[.string u.mdl, .int .i64 u.vsn, .slice lo u.lits.length lc, .slice fo u.funcs.length fc, .slice go u.funs.length gc, .slice co u.code.length cc], .string n, .int .i64 ar] w fun e w' =>
      e = .returned (.tuple #[.int .i64 (findI n ar u.funcs), .bool (findB n ar u.funcs)]) ∧ Below w.heap.size w w' := by
  have HU := Lib.hid h
  have r2 := h.funcsLen
  have HI : Hid (findL n ar u.funcs 0 = findL n ar (u.funcs.drop 0) 0) := Lib.hid rfl
  clear h
  go_enter Tryd.func8, Tryd.ntmps8
  go_wp2_with fail
  have hbx := ubox_new w u lo fo go co lc fc gc cc
  have hba : Below w.heap.size w (w.alloc (.cells #[.string u.mdl, .int .i64 u.vsn, .slice lo u.lits.length lc, .slice fo u.funcs.length fc, .slice go u.funs.length gc, .slice co u.code.length cc] 27)) := (Below.refl _ _).alloc (Nat.le_refl _) _
  generalize w.alloc (.cells #[.string u.mdl, .int .i64 u.vsn, .slice lo u.lits.length lc, .slice fo u.funcs.length fc, .slice go u.funs.length gc, .slice co u.code.length cc] 27) = Wa at *
  have HUa := Lib.hid (HU.out.below hba)
  have HBA := Lib.hid hba
  generalize w.heap.size = B at hbx ⊢
  clear hbx hba
  go_loopw [6, 7, 13] (fun rv sv iv wr => ∃ k : Nat, k ≤ u.funcs.length ∧ iv = .int .i64 k ∧ rv = .int .i64 0 ∧ sv = .bool false ∧ Hid (findL n ar u.funcs 0 = findL n ar (u.funcs.drop k) k) ∧ Below Wa.heap.size Wa wr) (fun _ _ iv _ => u.funcs.length - (intOf iv).toNat)
  case atStart => exact ⟨0, Nat.zero_le _, rfl, rfl, rfl, HI, Below.refl _ _⟩
  case round =>
    obtain ⟨k, hk, rfl, rfl, rfl, HK, hB⟩ := hrel
    rename World => wr
    by_cases hlt : k < u.funcs.length
    · obtain ⟨b, off, hao, hb, q0, q1, q2, q3, s1, s2, s3⟩ := (HUa.out.below hB).funcs.func hlt
      subst hao
      unfold maxLen at s1
      have hhit := findL_hit (n := n) (a := ar) (i := k) hlt
      have hmiss := findL_miss (n := n) (a := ar) (i := k) hlt
      have HH := Lib.hid hhit; have HM := Lib.hid hmiss
      clear hhit hmiss
      generalize u.funcs[k] = x at *
      by_cases c1 : x.name = n
      · have hn : (x.name.toList == n.toList) = true := by rw [c1]; exact beq_self_eq_true _
        by_cases c2 : x.arity = ar
        · have ha : (x.arity == ar) = true := by rw [c2]; exact beq_self_eq_true _
          have E1 : Hid (findI n ar u.funcs = k) := Lib.hid (by unfold findI; rw [HK.out, HH.out ⟨c1, c2⟩])
          have E2 : Hid (findB n ar u.funcs = true) := Lib.hid (by unfold findB; rw [HK.out, HH.out ⟨c1, c2⟩]; rfl)
          clear c1 c2
          go_wp2_with fail
          go_ret2
          exact ⟨ret_ib E1.out.symm E2.out.symm, HBA.out.trans ((hB.alloc hB.size _).mono HBA.out.size)⟩
        · have ha : (x.arity == ar) = false := beq_eq_false_iff_ne.2 c2
          have HK2 : Hid (findL n ar u.funcs 0 = findL n ar (u.funcs.drop (k + 1)) (k + 1)) := Lib.hid (by rw [HK.out, HM.out (fun h => c2 h.2)])
          clear c1 c2
          go_wp2_with fail
          go_roundw
          case rel => exact ⟨k + 1, by omega, by go_num, rfl, rfl, HK2, hB.alloc hB.size _⟩
          case measure => simp [intOf]; omega
      · have hn : (x.name.toList == n.toList) = false := by
          rw [ByteArray.toList_eq, ByteArray.toList_eq, beq_eq_false_iff_ne]
          exact fun e => c1 (ByteArray.ext (by simpa using e))
        have HK2 : Hid (findL n ar u.funcs 0 = findL n ar (u.funcs.drop (k + 1)) (k + 1)) := Lib.hid (by rw [HK.out, HM.out (fun h => c1 h.1)])
        clear c1
        go_wp2_with fail
        go_roundw
        case rel => exact ⟨k + 1, by omega, by go_num, rfl, rfl, HK2, hB.alloc hB.size _⟩
        case measure => simp [intOf]; omega
    · have E : Hid (findL n ar u.funcs 0 = none) := Lib.hid (by rw [HK.out, List.drop_eq_nil_of_le (by omega)]; rfl)
      have E1 : Hid (findI n ar u.funcs = 0) := Lib.hid (by unfold findI; rw [E.out])
      have E2 : Hid (findB n ar u.funcs = false) := Lib.hid (by unfold findB; rw [E.out]; rfl)
      go_wp2_with fail
      go_ret2
      exact ⟨ret_ib E1.out.symm E2.out.symm, HBA.out.trans (hB.mono HBA.out.size)⟩

set_option maxRecDepth 100000 in
set_option maxHeartbeats 4000000 in
theorem rfind_any (u : RUnit) (lo fo go co : Option Addr) (lc fc gc cc : Nat) (n : ByteArray) (ar : Int) (w : World) (h : UP w u lo fo go co) :
    Calls Tryd.prog 9 #[.agg #[.string u.mdl, .int .i64 u.vsn, .slice lo u.lits.length lc, .slice fo u.funcs.length fc, .slice go u.funs.length gc, .slice co u.code.length cc], .string n, .int .i64 ar] w fun e w' =>
      e = .returned (.tuple #[.int .i64 (findI n ar u.funcs), .bool (findB n ar u.funcs)]) ∧ Below w.heap.size w w' := by
  have HU := Lib.hid h
  have r2 := h.funcsLen
  have HI : Hid (findL n ar u.funcs 0 = findL n ar (u.funcs.drop 0) 0) := Lib.hid rfl
  clear h
  go_enter Tryd.func9, Tryd.ntmps9
  go_wp2_with fail
  have hbx := ubox_new w u lo fo go co lc fc gc cc
  have hba : Below w.heap.size w (w.alloc (.cells #[.string u.mdl, .int .i64 u.vsn, .slice lo u.lits.length lc, .slice fo u.funcs.length fc, .slice go u.funs.length gc, .slice co u.code.length cc] 27)) := (Below.refl _ _).alloc (Nat.le_refl _) _
  generalize w.alloc (.cells #[.string u.mdl, .int .i64 u.vsn, .slice lo u.lits.length lc, .slice fo u.funcs.length fc, .slice go u.funs.length gc, .slice co u.code.length cc] 27) = Wa at *
  have HUa := Lib.hid (HU.out.below hba)
  have HBA := Lib.hid hba
  generalize w.heap.size = B at hbx ⊢
  have b3 := hbx.c3
  clear hbx hba
  go_loop [6, 7, 8] (fun rv sv iv => ∃ k : Nat, k ≤ u.funcs.length ∧ iv = .int .i64 k ∧ rv = .int .i64 0 ∧ sv = .bool false ∧ Hid (findL n ar u.funcs 0 = findL n ar (u.funcs.drop k) k)) (fun _ _ iv => u.funcs.length - (intOf iv).toNat)
  case atStart => exact ⟨0, Nat.zero_le _, rfl, rfl, rfl, HI⟩
  case round =>
    obtain ⟨k, hk, rfl, rfl, rfl, HK⟩ := hrel
    by_cases hlt : k < u.funcs.length
    · obtain ⟨b, off, hao, hb, q0, q1, q2, q3, s1, s2, s3⟩ := HUa.out.funcs.func hlt
      subst hao
      unfold maxLen at s1
      have hhit := findL_hit (n := n) (a := ar) (i := k) hlt
      have hmiss := findL_miss (n := n) (a := ar) (i := k) hlt
      have HH := Lib.hid hhit; have HM := Lib.hid hmiss
      clear hhit hmiss
      generalize u.funcs[k] = x at *
      by_cases c1 : x.name = n
      · have hn : (x.name.toList == n.toList) = true := by rw [c1]; exact beq_self_eq_true _
        by_cases c2 : x.arity = ar
        · have ha : (x.arity == ar) = true := by rw [c2]; exact beq_self_eq_true _
          have E1 : Hid (findI n ar u.funcs = k) := Lib.hid (by unfold findI; rw [HK.out, HH.out ⟨c1, c2⟩])
          have E2 : Hid (findB n ar u.funcs = true) := Lib.hid (by unfold findB; rw [HK.out, HH.out ⟨c1, c2⟩]; rfl)
          clear c1 c2
          go_wp2_with fail
          go_ret2
          exact ⟨ret_ib E1.out.symm E2.out.symm, HBA.out⟩
        · have ha : (x.arity == ar) = false := beq_eq_false_iff_ne.2 c2
          have HK2 : Hid (findL n ar u.funcs 0 = findL n ar (u.funcs.drop (k + 1)) (k + 1)) := Lib.hid (by rw [HK.out, HM.out (fun h => c2 h.2)])
          clear c1 c2
          go_wp2_with fail
          go_round
          case rel => exact ⟨k + 1, by omega, by go_num, rfl, rfl, HK2⟩
          case measure => simp [intOf]; omega
      · have hn : (x.name.toList == n.toList) = false := by
          rw [ByteArray.toList_eq, ByteArray.toList_eq, beq_eq_false_iff_ne]
          exact fun e => c1 (ByteArray.ext (by simpa using e))
        have HK2 : Hid (findL n ar u.funcs 0 = findL n ar (u.funcs.drop (k + 1)) (k + 1)) := Lib.hid (by rw [HK.out, HM.out (fun h => c1 h.1)])
        clear c1
        go_wp2_with fail
        go_round
        case rel => exact ⟨k + 1, by omega, by go_num, rfl, rfl, HK2⟩
        case measure => simp [intOf]; omega
    · have E : Hid (findL n ar u.funcs 0 = none) := Lib.hid (by rw [HK.out, List.drop_eq_nil_of_le (by omega)]; rfl)
      have E1 : Hid (findI n ar u.funcs = 0) := Lib.hid (by unfold findI; rw [E.out])
      have E2 : Hid (findB n ar u.funcs = false) := Lib.hid (by unfold findB; rw [E.out]; rfl)
      go_wp2_with fail
      go_ret2
      exact ⟨ret_ib E1.out.symm E2.out.symm, HBA.out⟩

end Go.Proofs.YtghgbikmlbildaaDoor
