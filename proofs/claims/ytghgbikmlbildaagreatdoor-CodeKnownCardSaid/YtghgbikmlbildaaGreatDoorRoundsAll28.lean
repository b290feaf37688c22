/-
  The reference's SameInstr and Same of equal units: the walks (printed by gen_sunit.py). CodeRounds: the walk. From the row's listed variables to the tables that the walks ask for; the witness' heap.
-/
import Derived.Deep.QuietTactic
import Derived.BigQuiet
import Derived.Deep.RegionWith
import Derived.Test.YtghgbikmlbildaaGreatDoorRows
import Derived.Lib.LaidU8
import Derived.Stop.LaidErr
import Derived.Test.YtghgbikmlbildaaGreatDoorRoundsAll02
import Derived.Test.YtghgbikmlbildaaGreatDoorRoundsAll10
import Derived.Test.YtghgbikmlbildaaGreatDoorRoundsAll15
import Derived.Test.YtghgbikmlbildaaGreatDoorRoundsAll19
import Derived.Test.YtghgbikmlbildaaGreatDoorRoundsAll27
namespace Go.Proofs.YtghgbikmlbildaaGreatDoor
open Go.RowKit
set_option linter.unusedVariables false
set_option linter.unusedSimpArgs false

theorem ins_cells10 {w : World} {b : Nat} {v0 v1 v2 v3 v4 v5 v6 v7 v8 v9 : Value} {t : TypeId} (h : w.heap[b]? = some (.cells #[v0, v1, v2, v3, v4, v5, v6, v7, v8, v9] t (0, 0))) :
  w.cell? ⟨b, 0, none⟩ = some v0 ∧ w.cell? ⟨b, 1, none⟩ = some v1 ∧ w.cell? ⟨b, 2, none⟩ = some v2 ∧ w.cell? ⟨b, 3, none⟩ = some v3 ∧ w.cell? ⟨b, 4, none⟩ = some v4 ∧ w.cell? ⟨b, 5, none⟩ = some v5 ∧ w.cell? ⟨b, 6, none⟩ = some v6 ∧ w.cell? ⟨b, 7, none⟩ = some v7 ∧ w.cell? ⟨b, 8, none⟩ = some v8 ∧ w.cell? ⟨b, 9, none⟩ = some v9 := by
 have hc := fun j => cell_of_row w b j _ _ _ h
 exact ⟨hc 0, hc 1, hc 2, hc 3, hc 4, hc 5, hc 6, hc 7, hc 8, hc 9⟩
theorem unit_cells6 {w : World} {b : Nat} {v0 v1 v2 v3 v4 v5 : Value} {t : TypeId} (h : w.heap[b]? = some (.cells #[v0, v1, v2, v3, v4, v5] t (0, 0))) :
  w.cell? ⟨b, 0, none⟩ = some v0 ∧ w.cell? ⟨b, 1, none⟩ = some v1 ∧ w.cell? ⟨b, 2, none⟩ = some v2 ∧ w.cell? ⟨b, 3, none⟩ = some v3 ∧ w.cell? ⟨b, 4, none⟩ = some v4 ∧ w.cell? ⟨b, 5, none⟩ = some v5 := by
 have hc := fun j => cell_of_row w b j _ _ _ h
 exact ⟨hc 0, hc 1, hc 2, hc 3, hc 4, hc 5⟩
set_option maxRecDepth 100000 in
set_option maxHeartbeats 8000000 in
theorem rsinstr_eq (x : RIns) (so co go so' co' go' : Option Addr) (sc cc gc sc' cc' gc' : Nat) (w : World) (s1 : SlAt w 2 ArgR so x.src) (s2 : SlAt w 2 CaseR co x.cases) (s3 : SlAt w 6 SegR go x.segs) (t1 : SlAt w 2 ArgR so' x.src) (t2 : SlAt w 2 CaseR co' x.cases) (t3 : SlAt w 6 SegR go' x.segs)
  (r1 : x.src.length ≤ maxLen) (r2 : x.cases.length ≤ maxLen) (r3 : x.segs.length ≤ maxLen) :
  Calls Tryz.prog 67 #[.agg #[.int .i64 x.op, .int .i64 x.dst.kind, .int .i64 x.dst.n, .slice so x.src.length sc, .int .i64 x.to, .int .i64 x.n, .int .i64 x.live, .string x.name, .slice co x.cases.length cc, .slice go x.segs.length gc], .agg #[.int .i64 x.op, .int .i64 x.dst.kind, .int .i64 x.dst.n, .slice so' x.src.length sc', .int .i64 x.to, .int .i64 x.n, .int .i64 x.live, .string x.name, .slice co' x.cases.length cc', .slice go' x.segs.length gc']] w fun e w' => e = .returned (.bool true) ∧ Below w.heap.size w w' := by
 unfold maxLen at r1 r2 r3
 have hbe := two_below w (.cells #[.int .i64 x.op, .int .i64 x.dst.kind, .int .i64 x.dst.n, .slice so x.src.length sc, .int .i64 x.to, .int .i64 x.n, .int .i64 x.live, .string x.name, .slice co x.cases.length cc, .slice go x.segs.length gc] 50) (.cells #[.int .i64 x.op, .int .i64 x.dst.kind, .int .i64 x.dst.n, .slice so' x.src.length sc', .int .i64 x.to, .int .i64 x.n, .int .i64 x.live, .string x.name, .slice co' x.cases.length cc', .slice go' x.segs.length gc'] 50)
 have e0 := two0 w (.cells #[.int .i64 x.op, .int .i64 x.dst.kind, .int .i64 x.dst.n, .slice so x.src.length sc, .int .i64 x.to, .int .i64 x.n, .int .i64 x.live, .string x.name, .slice co x.cases.length cc, .slice go x.segs.length gc] 50) (.cells #[.int .i64 x.op, .int .i64 x.dst.kind, .int .i64 x.dst.n, .slice so' x.src.length sc', .int .i64 x.to, .int .i64 x.n, .int .i64 x.live, .string x.name, .slice co' x.cases.length cc', .slice go' x.segs.length gc'] 50)
 have e1 := two1 w (.cells #[.int .i64 x.op, .int .i64 x.dst.kind, .int .i64 x.dst.n, .slice so x.src.length sc, .int .i64 x.to, .int .i64 x.n, .int .i64 x.live, .string x.name, .slice co x.cases.length cc, .slice go x.segs.length gc] 50) (.cells #[.int .i64 x.op, .int .i64 x.dst.kind, .int .i64 x.dst.n, .slice so' x.src.length sc', .int .i64 x.to, .int .i64 x.n, .int .i64 x.live, .string x.name, .slice co' x.cases.length cc', .slice go' x.segs.length gc'] 50)
 have S1 := Lib.hid (s1.mono hbe fun _ _ h => h); have S2 := Lib.hid (s2.mono hbe fun _ _ h => h); have S3 := Lib.hid (s3.mono hbe fun _ _ h => h)
 have T1 := Lib.hid (t1.mono hbe fun _ _ h => h); have T2 := Lib.hid (t2.mono hbe fun _ _ h => h); have T3 := Lib.hid (t3.mono hbe fun _ _ h => h)
 have E0 := Lib.hid e0; have E1 := Lib.hid e1; have HBE := Lib.hid hbe
 clear s1 s2 s3 t1 t2 t3 e0 e1 hbe
 go_enter Tryz.func67, Tryz.ntmps67
 go_wp2_with fail
 generalize World.alloc _ _ = Wx at *
 have HX0 := Lib.hid (show w.heap.size ≤ Wx.heap.size from HBE.out.size)
 go_loopw [5] (fun iv wr => ∃ k : Nat, k ≤ x.src.length ∧ iv = .int .i64 k ∧ Below Wx.heap.size Wx wr) (fun iv _ => x.src.length - (intOf iv).toNat)
 case atStart => exact ⟨0, Nat.zero_le _, rfl, Below.refl _ _⟩
 case round =>
  obtain ⟨k, hk, rfl, hbr⟩ := hrel
  rename World => wr
  have HBR := Lib.hid hbr
  clear hbr
  obtain ⟨q0, q1, q2, q3, q4, q5, q6, q7, q8, q9⟩ := ins_cells10 ((HBR.out.block _ (lt_of_row E0.out)).trans E0.out)
  obtain ⟨p0, p1, p2, p3, p4, p5, p6, p7, p8, p9⟩ := ins_cells10 ((HBR.out.block _ (lt_of_row E1.out)).trans E1.out)
  have hl0 : w.heap.size < wr.heap.size := Nat.lt_of_lt_of_le (lt_of_row E0.out) HBR.out.size
  have hl1 : w.heap.size + 1 < wr.heap.size := Nat.lt_of_lt_of_le (lt_of_row E1.out) HBR.out.size
  by_cases hlt : k < x.src.length
  ·obtain ⟨b1, o1, hao, hb1, c0, c1, -, -⟩ := (S1.out.mono HBR.out fun _ _ h => h).arg hlt
   obtain ⟨b2, o2, hbo, hb2, d0, d1, -, -⟩ := (T1.out.mono HBR.out fun _ _ h => h).arg hlt
   subst hao; subst hbo
   generalize x.src[k] = a at *
   go_wp2_with fail
   go_quiet (fail)
   go_wp2_with fail
   go_roundw
   case rel => exact ⟨k + 1, by omega, by go_num, below_drewN HBR.out _⟩
   case measure => simp [intOf]; omega
  ·go_wp2_with fail
   go_loopw [6] (fun iv wr => ∃ k : Nat, k ≤ x.cases.length ∧ iv = .int .i64 k ∧ Below Wx.heap.size Wx wr) (fun iv _ => x.cases.length - (intOf iv).toNat)
   case atStart => exact ⟨0, Nat.zero_le _, rfl, HBR.out⟩
   case round =>
    clear HBR q0 q1 q2 q3 q4 q5 q6 q7 q8 q9 p0 p1 p2 p3 p4 p5 p6 p7 p8 p9 hl0 hl1 hk hlt
    obtain ⟨k, hk, rfl, hbr⟩ := hrel
    rename World => wr
    have HBR := Lib.hid hbr
    clear hbr
    obtain ⟨q0, q1, q2, q3, q4, q5, q6, q7, q8, q9⟩ := ins_cells10 ((HBR.out.block _ (lt_of_row E0.out)).trans E0.out)
    obtain ⟨p0, p1, p2, p3, p4, p5, p6, p7, p8, p9⟩ := ins_cells10 ((HBR.out.block _ (lt_of_row E1.out)).trans E1.out)
    have hl0 : w.heap.size < wr.heap.size := Nat.lt_of_lt_of_le (lt_of_row E0.out) HBR.out.size
    have hl1 : w.heap.size + 1 < wr.heap.size := Nat.lt_of_lt_of_le (lt_of_row E1.out) HBR.out.size
    by_cases hlt : k < x.cases.length
    ·obtain ⟨b1, o1, hao, hb1, c0, c1, -, -⟩ := (S2.out.mono HBR.out fun _ _ h => h).case hlt
     obtain ⟨b2, o2, hbo, hb2, d0, d1, -, -⟩ := (T2.out.mono HBR.out fun _ _ h => h).case hlt
     subst hao; subst hbo
     generalize x.cases[k] = a at *
     go_wp2_with fail
     go_quiet (fail)
     go_wp2_with fail
     go_roundw
     case rel => exact ⟨k + 1, by omega, by go_num, below_drewN HBR.out _⟩
     case measure => simp [intOf]; omega
    ·go_wp2_with fail
     go_loopw [7] (fun iv wr => ∃ k : Nat, k ≤ x.segs.length ∧ iv = .int .i64 k ∧ Below Wx.heap.size Wx wr) (fun iv _ => x.segs.length - (intOf iv).toNat)
     case atStart => exact ⟨0, Nat.zero_le _, rfl, HBR.out⟩
     case round =>
      clear HBR q0 q1 q2 q3 q4 q5 q6 q7 q8 q9 p0 p1 p2 p3 p4 p5 p6 p7 p8 p9 hl0 hl1 hk hlt
      obtain ⟨k, hk, rfl, hbr⟩ := hrel
      rename World => wr
      have HBR := Lib.hid hbr
      clear hbr
      obtain ⟨q0, q1, q2, q3, q4, q5, q6, q7, q8, q9⟩ := ins_cells10 ((HBR.out.block _ (lt_of_row E0.out)).trans E0.out)
      obtain ⟨p0, p1, p2, p3, p4, p5, p6, p7, p8, p9⟩ := ins_cells10 ((HBR.out.block _ (lt_of_row E1.out)).trans E1.out)
      have hl0 : w.heap.size < wr.heap.size := Nat.lt_of_lt_of_le (lt_of_row E0.out) HBR.out.size
      have hl1 : w.heap.size + 1 < wr.heap.size := Nat.lt_of_lt_of_le (lt_of_row E1.out) HBR.out.size
      by_cases hlt : k < x.segs.length
      ·obtain ⟨b1, o1, hao, hb1, c0, c1, c2, c3, c4, c5, -, -, -, -, -⟩ := (S3.out.mono HBR.out fun _ _ h => h).seg hlt
       obtain ⟨b2, o2, hbo, hb2, d0, d1, d2, d3, d4, d5, -, -, -, -, -⟩ := (T3.out.mono HBR.out fun _ _ h => h).seg hlt
       subst hao; subst hbo
       generalize x.segs[k] = a at *
       go_wp2_with fail
       go_quiet (fail)
       go_wp2_with fail
       go_roundw
       case rel => exact ⟨k + 1, by omega, by go_num, below_drewN HBR.out _⟩
       case measure => simp [intOf]; omega
      ·go_wp2_with fail
       go_ret
       exact ⟨rfl, HBE.out.trans (HBR.out.mono HX0.out)⟩
set_option maxRecDepth 100000 in
set_option maxHeartbeats 8000000 in
theorem rsunit_eq (f : Nat) (u : RUnit) (lo fo go co lo' fo' go' co' : Option Addr) (lc fc gc cc lc' fc' gc' cc' : Nat) (w : World) (h1 : UP w u lo fo go co) (h2 : UP w u lo' fo' go' co') (l1 : SlAt w 9 (TmAt w (f + 1)) lo u.lits) (l2 : SlAt w 9 (TmAt w (f + 1)) lo' u.lits) :
  Calls Tryz.prog 19 #[.agg #[.string u.mdl, .int .i64 u.vsn, .slice lo u.lits.length lc, .slice fo u.funcs.length fc, .slice go u.funs.length gc, .slice co u.code.length cc], .agg #[.string u.mdl, .int .i64 u.vsn, .slice lo' u.lits.length lc', .slice fo' u.funcs.length fc', .slice go' u.funs.length gc', .slice co' u.code.length cc']] w fun e w' => e = .returned (.bool true) ∧ Below w.heap.size w w' := by
 have g1 := h1.litsLen; have g2 := h1.funcsLen; have g3 := h1.funsLen; have g4 := h1.codeLen
 have hbe := two_below w (.cells #[.string u.mdl, .int .i64 u.vsn, .slice lo u.lits.length lc, .slice fo u.funcs.length fc, .slice go u.funs.length gc, .slice co u.code.length cc] 27) (.cells #[.string u.mdl, .int .i64 u.vsn, .slice lo' u.lits.length lc', .slice fo' u.funcs.length fc', .slice go' u.funs.length gc', .slice co' u.code.length cc'] 27)
 have e0 := two0 w (.cells #[.string u.mdl, .int .i64 u.vsn, .slice lo u.lits.length lc, .slice fo u.funcs.length fc, .slice go u.funs.length gc, .slice co u.code.length cc] 27) (.cells #[.string u.mdl, .int .i64 u.vsn, .slice lo' u.lits.length lc', .slice fo' u.funcs.length fc', .slice go' u.funs.length gc', .slice co' u.code.length cc'] 27)
 have e1 := two1 w (.cells #[.string u.mdl, .int .i64 u.vsn, .slice lo u.lits.length lc, .slice fo u.funcs.length fc, .slice go u.funs.length gc, .slice co u.code.length cc] 27) (.cells #[.string u.mdl, .int .i64 u.vsn, .slice lo' u.lits.length lc', .slice fo' u.funcs.length fc', .slice go' u.funs.length gc', .slice co' u.code.length cc'] 27)
 have S1 := Lib.hid (l1.tms hbe); have S2 := Lib.hid (h1.below hbe).funcs; have S3 := Lib.hid (h1.below hbe).funs; have S4 := Lib.hid (h1.below hbe).code
 have T1 := Lib.hid (l2.tms hbe); have T2 := Lib.hid (h2.below hbe).funcs; have T3 := Lib.hid (h2.below hbe).funs; have T4 := Lib.hid (h2.below hbe).code
 have E0 := Lib.hid e0; have E1 := Lib.hid e1; have HBE := Lib.hid hbe
 clear h1 h2 l1 l2 e0 e1 hbe
 go_enter Tryz.func19, Tryz.ntmps19
 go_wp2_with fail
 generalize World.alloc _ _ = Wx at *
 have HX0 := Lib.hid (show w.heap.size ≤ Wx.heap.size from HBE.out.size)
 go_loopw [5] (fun iv wr => ∃ k : Nat, k ≤ u.lits.length ∧ iv = .int .i64 k ∧ Below Wx.heap.size Wx wr) (fun iv _ => u.lits.length - (intOf iv).toNat)
 case atStart => exact ⟨0, Nat.zero_le _, rfl, Below.refl _ _⟩
 case round =>
  obtain ⟨k, hk, rfl, hbr⟩ := hrel
  rename World => wr
  have HBR := Lib.hid hbr
  clear hbr
  obtain ⟨q0, q1, q2, q3, q4, q5⟩ := unit_cells6 ((HBR.out.block _ (lt_of_row E0.out)).trans E0.out)
  obtain ⟨p0, p1, p2, p3, p4, p5⟩ := unit_cells6 ((HBR.out.block _ (lt_of_row E1.out)).trans E1.out)
  have hl0 : w.heap.size < wr.heap.size := Nat.lt_of_lt_of_le (lt_of_row E0.out) HBR.out.size
  have hl1 : w.heap.size + 1 < wr.heap.size := Nat.lt_of_lt_of_le (lt_of_row E1.out) HBR.out.size
  by_cases hlt : k < u.lits.length
  ·obtain ⟨b1, o1, ai, ci, hao, hb1, c0, c1, c2, c3, c4, c5, c6, c7, c8, hit, hok⟩ := (S1.out.tms HBR.out).tm hlt
   obtain ⟨b2, o2, bi, di, hbo, hb2, d0, d1, d2, d3, d4, d5, d6, d7, d8, hit2, -⟩ := (T1.out.tms HBR.out).tm hlt
   subst hao; subst hbo
   have hSM := rsame_any f u.lits[k] ai bi ci di wr.drew (hit.tms (Below.refl _ _).drew) (hit2.tms (Below.refl _ _).drew) hok.2.2.2.2.2.2.1
   clear hit hit2 hok
   generalize hx : u.lits[k] = x at *
   clear hx
   go_wp2_with fail
   have hs0 := hl0; have hs1 := hl1
   first | go_region_held3 (fun w' => (w'.cell? ⟨w.heap.size, 2, none⟩ = some (.slice (some ⟨b1, o1, none⟩) u.lits.length lc) ∧ w'.cell? ⟨w.heap.size + 1, 2, none⟩ = some (.slice (some ⟨b2, o2, none⟩) u.lits.length lc')) ∧ (w'.cell? ⟨b1, o1 + k * 9, none⟩ = some (.int .i64 x.kind) ∧ w'.cell? ⟨b1, o1 + k * 9 + 1, none⟩ = some (.int .i64 x.int) ∧ w'.cell? ⟨b1, o1 + k * 9 + 2, none⟩ = some (.int .i64 x.gen) ∧ w'.cell? ⟨b1, o1 + k * 9 + 3, none⟩ = some (.string x.name) ∧ w'.cell? ⟨b1, o1 + k * 9 + 4, none⟩ = some (.string x.func) ∧ w'.cell? ⟨b1, o1 + k * 9 + 5, none⟩ = some (.int .i64 x.arity) ∧ w'.cell? ⟨b1, o1 + k * 9 + 6, none⟩ = some (.slice ai x.items.length ci) ∧ w'.cell? ⟨b1, o1 + k * 9 + 7, none⟩ = some (.string x.bytes) ∧ w'.cell? ⟨b1, o1 + k * 9 + 8, none⟩ = some (.int .i64 x.bits)) ∧ (w'.cell? ⟨b2, o2 + k * 9, none⟩ = some (.int .i64 x.kind) ∧ w'.cell? ⟨b2, o2 + k * 9 + 1, none⟩ = some (.int .i64 x.int) ∧ w'.cell? ⟨b2, o2 + k * 9 + 2, none⟩ = some (.int .i64 x.gen) ∧ w'.cell? ⟨b2, o2 + k * 9 + 3, none⟩ = some (.string x.name) ∧ w'.cell? ⟨b2, o2 + k * 9 + 4, none⟩ = some (.string x.func) ∧ w'.cell? ⟨b2, o2 + k * 9 + 5, none⟩ = some (.int .i64 x.arity) ∧ w'.cell? ⟨b2, o2 + k * 9 + 6, none⟩ = some (.slice bi x.items.length di) ∧ w'.cell? ⟨b2, o2 + k * 9 + 7, none⟩ = some (.string x.bytes) ∧ w'.cell? ⟨b2, o2 + k * 9 + 8, none⟩ = some (.int .i64 x.bits))) (((repeat' apply And.intro) <;> assumption)) ((go_at_call 66; refine hSM.mono ?_; rintro e w5 ⟨rfl, hb5⟩; have s0 := (hb5.cell (p := ⟨b1, o1 + k * 9, none⟩) hb1).trans c0; have s1 := (hb5.cell (p := ⟨b1, o1 + k * 9 + 1, none⟩) hb1).trans c1; have s2 := (hb5.cell (p := ⟨b1, o1 + k * 9 + 2, none⟩) hb1).trans c2; have s3 := (hb5.cell (p := ⟨b1, o1 + k * 9 + 3, none⟩) hb1).trans c3; have s4 := (hb5.cell (p := ⟨b1, o1 + k * 9 + 4, none⟩) hb1).trans c4; have s5 := (hb5.cell (p := ⟨b1, o1 + k * 9 + 5, none⟩) hb1).trans c5; have s6 := (hb5.cell (p := ⟨b1, o1 + k * 9 + 6, none⟩) hb1).trans c6; have s7 := (hb5.cell (p := ⟨b1, o1 + k * 9 + 7, none⟩) hb1).trans c7; have s8 := (hb5.cell (p := ⟨b1, o1 + k * 9 + 8, none⟩) hb1).trans c8; have t0 := (hb5.cell (p := ⟨b2, o2 + k * 9, none⟩) hb2).trans d0; have t1 := (hb5.cell (p := ⟨b2, o2 + k * 9 + 1, none⟩) hb2).trans d1; have t2 := (hb5.cell (p := ⟨b2, o2 + k * 9 + 2, none⟩) hb2).trans d2; have t3 := (hb5.cell (p := ⟨b2, o2 + k * 9 + 3, none⟩) hb2).trans d3; have t4 := (hb5.cell (p := ⟨b2, o2 + k * 9 + 4, none⟩) hb2).trans d4; have t5 := (hb5.cell (p := ⟨b2, o2 + k * 9 + 5, none⟩) hb2).trans d5; have t6 := (hb5.cell (p := ⟨b2, o2 + k * 9 + 6, none⟩) hb2).trans d6; have t7 := (hb5.cell (p := ⟨b2, o2 + k * 9 + 7, none⟩) hb2).trans d7; have t8 := (hb5.cell (p := ⟨b2, o2 + k * 9 + 8, none⟩) hb2).trans d8; have r0 := (hb5.cell (p := ⟨w.heap.size, 2, none⟩) hs0).trans q2; have r1 := (hb5.cell (p := ⟨w.heap.size + 1, 2, none⟩) hs1).trans p2)) | fail
   go_wp2_with fail
   go_roundw
   case rel => exact ⟨k + 1, by omega, by go_num, HBR.out.drew.trans (hb5.mono HBR.out.size)⟩
   case measure => simp [intOf]; omega
  ·go_wp2_with fail
   go_loopw [6] (fun iv wr => ∃ k : Nat, k ≤ u.funcs.length ∧ iv = .int .i64 k ∧ Below Wx.heap.size Wx wr) (fun iv _ => u.funcs.length - (intOf iv).toNat)
   case atStart => exact ⟨0, Nat.zero_le _, rfl, HBR.out⟩
   case round =>
    clear HBR q0 q1 q2 q3 q4 q5 p0 p1 p2 p3 p4 p5 hl0 hl1 hk hlt
    obtain ⟨k, hk, rfl, hbr⟩ := hrel
    rename World => wr
    have HBR := Lib.hid hbr
    clear hbr
    obtain ⟨q0, q1, q2, q3, q4, q5⟩ := unit_cells6 ((HBR.out.block _ (lt_of_row E0.out)).trans E0.out)
    obtain ⟨p0, p1, p2, p3, p4, p5⟩ := unit_cells6 ((HBR.out.block _ (lt_of_row E1.out)).trans E1.out)
    have hl0 : w.heap.size < wr.heap.size := Nat.lt_of_lt_of_le (lt_of_row E0.out) HBR.out.size
    have hl1 : w.heap.size + 1 < wr.heap.size := Nat.lt_of_lt_of_le (lt_of_row E1.out) HBR.out.size
    by_cases hlt : k < u.funcs.length
    ·obtain ⟨b1, o1, hao, hb1, c0, c1, c2, c3, -, -, -⟩ := (S2.out.mono HBR.out fun _ _ h => h).func hlt
     obtain ⟨b2, o2, hbo, hb2, d0, d1, d2, d3, -, -, -⟩ := (T2.out.mono HBR.out fun _ _ h => h).func hlt
     subst hao; subst hbo
     generalize u.funcs[k] = a at *
     go_wp2_with fail
     go_quiet (fail)
     go_wp2_with fail
     go_roundw
     case rel => exact ⟨k + 1, by omega, by go_num, below_drewN HBR.out _⟩
     case measure => simp [intOf]; omega
    ·go_wp2_with fail
     go_loopw [7] (fun iv wr => ∃ k : Nat, k ≤ u.funs.length ∧ iv = .int .i64 k ∧ Below Wx.heap.size Wx wr) (fun iv _ => u.funs.length - (intOf iv).toNat)
     case atStart => exact ⟨0, Nat.zero_le _, rfl, HBR.out⟩
     case round =>
      clear HBR q0 q1 q2 q3 q4 q5 p0 p1 p2 p3 p4 p5 hl0 hl1 hk hlt
      obtain ⟨k, hk, rfl, hbr⟩ := hrel
      rename World => wr
      have HBR := Lib.hid hbr
      clear hbr
      obtain ⟨q0, q1, q2, q3, q4, q5⟩ := unit_cells6 ((HBR.out.block _ (lt_of_row E0.out)).trans E0.out)
      obtain ⟨p0, p1, p2, p3, p4, p5⟩ := unit_cells6 ((HBR.out.block _ (lt_of_row E1.out)).trans E1.out)
      have hl0 : w.heap.size < wr.heap.size := Nat.lt_of_lt_of_le (lt_of_row E0.out) HBR.out.size
      have hl1 : w.heap.size + 1 < wr.heap.size := Nat.lt_of_lt_of_le (lt_of_row E1.out) HBR.out.size
      by_cases hlt : k < u.funs.length
      ·obtain ⟨b1, o1, hao, hb1, c0, c1, c2, -, -, -⟩ := (S3.out.mono HBR.out fun _ _ h => h).fn hlt
       obtain ⟨b2, o2, hbo, hb2, d0, d1, d2, -, -, -⟩ := (T3.out.mono HBR.out fun _ _ h => h).fn hlt
       subst hao; subst hbo
       generalize u.funs[k] = a at *
       go_wp2_with fail
       go_quiet (fail)
       go_wp2_with fail
       go_roundw
       case rel => exact ⟨k + 1, by omega, by go_num, below_drewN HBR.out _⟩
       case measure => simp [intOf]; omega
      ·go_wp2_with fail
       go_loopw [8] (fun iv wr => ∃ k : Nat, k ≤ u.code.length ∧ iv = .int .i64 k ∧ Below Wx.heap.size Wx wr) (fun iv _ => u.code.length - (intOf iv).toNat)
       case atStart => exact ⟨0, Nat.zero_le _, rfl, HBR.out⟩
       case round =>
        clear HBR q0 q1 q2 q3 q4 q5 p0 p1 p2 p3 p4 p5 hl0 hl1 hk hlt
        obtain ⟨k, hk, rfl, hbr⟩ := hrel
        rename World => wr
        have HBR := Lib.hid hbr
        clear hbr
        obtain ⟨q0, q1, q2, q3, q4, q5⟩ := unit_cells6 ((HBR.out.block _ (lt_of_row E0.out)).trans E0.out)
        obtain ⟨p0, p1, p2, p3, p4, p5⟩ := unit_cells6 ((HBR.out.block _ (lt_of_row E1.out)).trans E1.out)
        have hl0 : w.heap.size < wr.heap.size := Nat.lt_of_lt_of_le (lt_of_row E0.out) HBR.out.size
        have hl1 : w.heap.size + 1 < wr.heap.size := Nat.lt_of_lt_of_le (lt_of_row E1.out) HBR.out.size
        by_cases hlt : k < u.code.length
        ·obtain ⟨b1, o1, so, sc, co2, cc2, go2, gc2, hao, hb1, c0, c1, c2, c3, c4, c5, c6, c7, c8, c9, s1, s2, s3, r1, r2, r3, r4, r5, r6, r7, r8, r9, r10⟩ := (S4.out.mono HBR.out fun _ _ h => h.below HBR.out).ins hlt
         obtain ⟨b2, o2, so', sc', co2', cc2', go2', gc2', hbo, hb2, d0, d1, d2, d3, d4, d5, d6, d7, d8, d9, t1, t2, t3, -⟩ := (T4.out.mono HBR.out fun _ _ h => h.below HBR.out).ins hlt
         subst hao; subst hbo
         have hdr : Below wr.heap.size wr wr.drew := (Below.refl _ _).drew
         have hSM := rsinstr_eq u.code[k] so co2 go2 so' co2' go2' sc cc2 gc2 sc' cc2' gc2' wr.drew (s1.mono hdr fun _ _ h => h) (s2.mono hdr fun _ _ h => h) (s3.mono hdr fun _ _ h => h) (t1.mono hdr fun _ _ h => h) (t2.mono hdr fun _ _ h => h) (t3.mono hdr fun _ _ h => h) r4 r9 r10
         clear s1 s2 s3 t1 t2 t3 r1 r2 r3 r4 r5 r6 r7 r8 r9 r10 hdr
         generalize hx : u.code[k] = x at *
         clear hx
         go_wp2_with fail
         have hs0 := hl0; have hs1 := hl1
         first | go_region_held3 (fun w' => (w'.cell? ⟨w.heap.size, 5, none⟩ = some (.slice (some ⟨b1, o1, none⟩) u.code.length cc) ∧ w'.cell? ⟨w.heap.size + 1, 5, none⟩ = some (.slice (some ⟨b2, o2, none⟩) u.code.length cc')) ∧ (w'.cell? ⟨b1, o1 + k * 10, none⟩ = some (.int .i64 x.op) ∧ w'.cell? ⟨b1, o1 + k * 10 + 1, none⟩ = some (.int .i64 x.dst.kind) ∧ w'.cell? ⟨b1, o1 + k * 10 + 2, none⟩ = some (.int .i64 x.dst.n) ∧ w'.cell? ⟨b1, o1 + k * 10 + 3, none⟩ = some (.slice so x.src.length sc) ∧ w'.cell? ⟨b1, o1 + k * 10 + 4, none⟩ = some (.int .i64 x.to) ∧ w'.cell? ⟨b1, o1 + k * 10 + 5, none⟩ = some (.int .i64 x.n) ∧ w'.cell? ⟨b1, o1 + k * 10 + 6, none⟩ = some (.int .i64 x.live) ∧ w'.cell? ⟨b1, o1 + k * 10 + 7, none⟩ = some (.string x.name) ∧ w'.cell? ⟨b1, o1 + k * 10 + 8, none⟩ = some (.slice co2 x.cases.length cc2) ∧ w'.cell? ⟨b1, o1 + k * 10 + 9, none⟩ = some (.slice go2 x.segs.length gc2)) ∧ (w'.cell? ⟨b2, o2 + k * 10, none⟩ = some (.int .i64 x.op) ∧ w'.cell? ⟨b2, o2 + k * 10 + 1, none⟩ = some (.int .i64 x.dst.kind) ∧ w'.cell? ⟨b2, o2 + k * 10 + 2, none⟩ = some (.int .i64 x.dst.n) ∧ w'.cell? ⟨b2, o2 + k * 10 + 3, none⟩ = some (.slice so' x.src.length sc') ∧ w'.cell? ⟨b2, o2 + k * 10 + 4, none⟩ = some (.int .i64 x.to) ∧ w'.cell? ⟨b2, o2 + k * 10 + 5, none⟩ = some (.int .i64 x.n) ∧ w'.cell? ⟨b2, o2 + k * 10 + 6, none⟩ = some (.int .i64 x.live) ∧ w'.cell? ⟨b2, o2 + k * 10 + 7, none⟩ = some (.string x.name) ∧ w'.cell? ⟨b2, o2 + k * 10 + 8, none⟩ = some (.slice co2' x.cases.length cc2') ∧ w'.cell? ⟨b2, o2 + k * 10 + 9, none⟩ = some (.slice go2' x.segs.length gc2'))) (((repeat' apply And.intro) <;> assumption)) ((go_at_call 67; refine hSM.mono ?_; rintro e w5 ⟨rfl, hb5⟩; have s0 := (hb5.cell (p := ⟨b1, o1 + k * 10, none⟩) hb1).trans c0; have s1 := (hb5.cell (p := ⟨b1, o1 + k * 10 + 1, none⟩) hb1).trans c1; have s2 := (hb5.cell (p := ⟨b1, o1 + k * 10 + 2, none⟩) hb1).trans c2; have s3 := (hb5.cell (p := ⟨b1, o1 + k * 10 + 3, none⟩) hb1).trans c3; have s4 := (hb5.cell (p := ⟨b1, o1 + k * 10 + 4, none⟩) hb1).trans c4; have s5 := (hb5.cell (p := ⟨b1, o1 + k * 10 + 5, none⟩) hb1).trans c5; have s6 := (hb5.cell (p := ⟨b1, o1 + k * 10 + 6, none⟩) hb1).trans c6; have s7 := (hb5.cell (p := ⟨b1, o1 + k * 10 + 7, none⟩) hb1).trans c7; have s8 := (hb5.cell (p := ⟨b1, o1 + k * 10 + 8, none⟩) hb1).trans c8; have s9 := (hb5.cell (p := ⟨b1, o1 + k * 10 + 9, none⟩) hb1).trans c9; have t0 := (hb5.cell (p := ⟨b2, o2 + k * 10, none⟩) hb2).trans d0; have t1 := (hb5.cell (p := ⟨b2, o2 + k * 10 + 1, none⟩) hb2).trans d1; have t2 := (hb5.cell (p := ⟨b2, o2 + k * 10 + 2, none⟩) hb2).trans d2; have t3 := (hb5.cell (p := ⟨b2, o2 + k * 10 + 3, none⟩) hb2).trans d3; have t4 := (hb5.cell (p := ⟨b2, o2 + k * 10 + 4, none⟩) hb2).trans d4; have t5 := (hb5.cell (p := ⟨b2, o2 + k * 10 + 5, none⟩) hb2).trans d5; have t6 := (hb5.cell (p := ⟨b2, o2 + k * 10 + 6, none⟩) hb2).trans d6; have t7 := (hb5.cell (p := ⟨b2, o2 + k * 10 + 7, none⟩) hb2).trans d7; have t8 := (hb5.cell (p := ⟨b2, o2 + k * 10 + 8, none⟩) hb2).trans d8; have t9 := (hb5.cell (p := ⟨b2, o2 + k * 10 + 9, none⟩) hb2).trans d9; have r0 := (hb5.cell (p := ⟨w.heap.size, 5, none⟩) hs0).trans q5; have r1 := (hb5.cell (p := ⟨w.heap.size + 1, 5, none⟩) hs1).trans p5)) | fail
         go_wp2_with fail
         go_roundw
         case rel => exact ⟨k + 1, by omega, by go_num, HBR.out.drew.trans (hb5.mono HBR.out.size)⟩
         case measure => simp [intOf]; omega
        ·go_wp2_with fail
         go_ret
         exact ⟨rfl, HBE.out.trans (HBR.out.mono HX0.out)⟩
end Go.Proofs.YtghgbikmlbildaaGreatDoor
namespace Go.Proofs.YtghgbikmlbildaaGreatDoor
open Go.RowKit
set_option linter.unusedVariables false
set_option linter.unusedSimpArgs false

theorem cap_deep {u : RUnit} {f : Nat} (hv : ∀ t ∈ u.lits, validF f t = true) (ho : ∀ t ∈ u.lits, OkF f t) : ∀ t ∈ u.lits, (capF 2000 t : Int) ≤ 1152921504606846976 := fun t ht => by
 have h1 := valid_deep (hv t ht)
 have h2 := cap_nodes 2000 t (h1.2.2 (ho t ht))
 have h3 := h1.1
 unfold validF at h3
 rw [Bool.and_eq_true, decide_eq_true_eq] at h3
 have h4 := nodes_whole 2000 t h3.1
 omega
/-- An index in range made of any number. -/
theorem cut_in {c : Int} {n : Nat} (hn : 0 < n) : ∃ k : Nat, k < n ∧ ((0 ≤ c.tmod n ∧ c.tmod n = k) ∨ (c.tmod n < 0 ∧ c.tmod n + n = k)) := by
 have h1 := Int.tmod_lt_of_pos c (b := (n : Int)) (by omega)
 have h2 : -(n : Int) < c.tmod n := by
  have := Int.neg_tmod c n
  have h3 := Int.tmod_lt_of_pos (-c) (b := (n : Int)) (by omega)
  rw [Int.neg_tmod] at h3; omega
 by_cases h : 0 ≤ c.tmod n
 ·exact ⟨(c.tmod n).toNat, by omega, .inl ⟨h, by omega⟩⟩
 ·exact ⟨(c.tmod n + n).toNat, by omega, .inr ⟨by omega, by omega⟩⟩
theorem conv_one (w : World) (x : UInt8) (T : TypeId) : (convert 39 9 (.slice (some ⟨w.heap.size, 0, none⟩) 1 1)).run Tryz.prog (w.alloc (.cells #[.int .u8 (x.toNat : Int)] T)) = .ok (.string ⟨[x].toArray⟩) (w.alloc (.cells #[.int .u8 (x.toNat : Int)] T)) :=
 run_convert_bytes_back (P := Tryz.prog) _ 39 9 5 ⟨w.heap.size, 0, none⟩ 1 [x] Tryz.underlying39 Tryz.underlying5 Tryz.underlying9 (fun j hj => by
  obtain rfl : j = 0 := by simp at hj; exact hj
  exact lit_news (w := w) (T := T) [x] #[.int .u8 (x.toNat : Int)] rfl 0 _ rfl)
theorem one_list (s : ByteArray) (x : UInt8) : (s ++ ⟨#[x]⟩).data.toList = s.data.toList ++ [x] := by simp
theorem one_size (s : ByteArray) (x : UInt8) : (s ++ ⟨#[x]⟩).size = s.size + 1 := by
 have := congrArg List.length (one_list s x)
 rw [List.length_append, Array.length_toList, Array.length_toList] at this; exact this
def zeroUnit : RUnit := ⟨⟨#[]⟩, 0, [], [], [], []⟩
theorem zero_up (w : World) : UP w zeroUnit none none none none := ⟨.inl rfl, .inl rfl, .inl rfl, .inl rfl, by decide, by unfold I64 zeroUnit; simp, by decide, by decide, by decide, by decide⟩
theorem same_zeroU (w : World) : Calls Tryz.prog 19 #[.agg zeroU, .agg zeroU] w fun e w' => e = .returned (.bool true) ∧ Below w.heap.size w w' :=
 rsunit_eq 0 zeroUnit none none none none none none none none 0 0 0 0 0 0 0 0 w (zero_up w) (zero_up w) (.inl rfl) (.inl rfl)
set_option maxRecDepth 100000 in
set_option maxHeartbeats 40000000 in
theorem rounds_walk (u : RUnit) (lo fo go co : Option Addr) (lc fc gc cc : Nat) (cut : Int) (more : UInt8) (w : World) (hup : UP w u lo fo go co) (hrows : RowsAt w) (hsp : SpaceAt w) (hnm : ∀ x ∈ u.code, x.name.size ≤ 140737488351232) (hcut : I64 cut) :
  Calls Tryz.prog 6 #[.agg #[.string u.mdl, .int .i64 u.vsn, .slice lo u.lits.length lc, .slice fo u.funcs.length fc, .slice go u.funs.length gc, .slice co u.code.length cc], .int .i64 cut, .int .u8 (more.toNat : Int)] w fun e w' => e = .returned (.bool true) ∧ Below w.heap.size w w' := by
 have HUP := Lib.hid hup; have HR := Lib.hid hrows; have HS := Lib.hid hsp; have HNM := Lib.hid hnm
 clear hup hrows hsp hnm hcut
 go_enter Tryz.func6, Tryz.ntmps6
 go_upto_region 1 with fail
 have hbx := ubox_new w u lo fo go co lc fc gc cc
 have hba : Below w.heap.size w (w.alloc (.cells #[.string u.mdl, .int .i64 u.vsn, .slice lo u.lits.length lc, .slice fo u.funcs.length fc, .slice go u.funs.length gc, .slice co u.code.length cc] 27)) := (Below.refl _ _).alloc (Nat.le_refl _) _
 generalize w.alloc (.cells #[.string u.mdl, .int .i64 u.vsn, .slice lo u.lits.length lc, .slice fo u.funcs.length fc, .slice go u.funs.length gc, .slice co u.code.length cc] 27) = Wa at *
 have HBA := Lib.hid hba; have HBX := Lib.hid hbx
 generalize hB : w.heap.size = B at *
 have HBE := Lib.hid hB
 clear hB hba
 have HUa : Hid (UP Wa u lo fo go co) := Lib.hid (HUP.out.below (by rw [HBE.out]; exact HBA.out))
 have HRa : Hid (RowsAt Wa) := Lib.hid (HR.out.below (by rw [HBE.out]; exact HBA.out))
 have HSa : Hid (SpaceAt Wa) := Lib.hid (HS.out.below (by rw [HBE.out]; exact HBA.out))
 have HFIN : Hid (∀ wx, Below Wa.heap.size Wa wx → Below B w wx) := Lib.hid (fun wx h => HBA.out.trans (h.mono (by have := HBA.out.size; have := HBE.out; omega)))
 have d0 := hbx.c0; have d1 := hbx.c1; have d2 := hbx.c2; have d3 := hbx.c3; have d4 := hbx.c4; have d5 := hbx.c5
 have hbl := hbx.lt
 clear hbx
 go_wp2_with fail
 refine (large_any u lo fo go co lc fc gc cc Wa HUa.out).mono ?_
 rintro e w1 ⟨b, rfl, hb1, hq⟩
 have HB1 := Lib.hid hb1; have HQ := Lib.hid hq
 clear hb1 hq d0 d1 d2 d3 d4 d5
 cases b with
 | true =>
  go_wp2_with fail
  refine (awake_any w1 (HRa.out.below HB1.out) (HSa.out.below HB1.out)).mono ?_
  rintro e w2 ⟨rfl, hb2⟩
  go_wp2_with fail
  go_ret
  exact ⟨rfl, by rw [HBE.out]; exact HFIN.out _ (below_next HB1.out hb2)⟩
 | false =>
  obtain ⟨hl4, f0, hf0, hp0⟩ := HQ.out rfl
  obtain ⟨f, hlits, hcap⟩ := depth_of hf0 hp0
  have hbw := HBX.out.below HB1.out
  have d0 := hbw.c0; have d1 := hbw.c1; have d2 := hbw.c2; have d3 := hbw.c3; have d4 := hbw.c4; have d5 := hbw.c5
  have hbl2 := hbw.lt
  have HNM2 : Hid (∀ x ∈ u.code, x.name.size ≤ 140737488355328) := Lib.hid (fun x hx => Nat.le_trans (HNM.out x hx) (by decide))
  have HCH : Hid (∀ wx, Below Wa.heap.size Wa wx → Calls Tryz.prog 13 #[.agg #[.string u.mdl, .int .i64 u.vsn, .slice lo u.lits.length lc, .slice fo u.funcs.length fc, .slice go u.funs.length gc, .slice co u.code.length cc]] wx fun en w' => en = .returned (.tuple #[.int .i64 (checkI (f + 1) u), .int .i64 (checkE (f + 1) u)]) ∧ Below wx.heap.size wx w') :=
   Lib.hid (fun wx hx => check_any f u lo fo go co lc fc gc cc wx (HRa.out.below hx) (HSa.out.below hx) (HUa.out.below hx) (hlits.tms hx) hcap HNM2.out)
  generalize checkI (f + 1) u = ci at *
  rcases checkE_two (f + 1) u with h | h
  rotate_left
  ·have HPN : Hid (∀ wx, Below Wa.heap.size Wa wx → Calls Tryz.prog 15 #[.agg #[.string u.mdl, .int .i64 u.vsn, .slice lo u.lits.length lc, .slice fo u.funcs.length fc, .slice go u.funs.length gc, .slice co u.code.length cc]] wx fun en w' => en = .returned (.tuple #[.string ⟨#[]⟩, .int .i64 6]) ∧ Below wx.heap.size wx w') :=
    Lib.hid (fun wx hx => put_no f u lo fo go co lc fc gc cc wx (HRa.out.below hx) (HSa.out.below hx) (HUa.out.below hx) (hlits.tms hx) hcap HNM2.out h)
   rw [h] at HCH
   clear hl4 hf0 hp0 hlits hcap hbw HQ h
   go_wp2_with fail
   refine (HPN.out _ HB1.out).mono ?_
   rintro e w2 ⟨rfl, hb2⟩
   have HB2 := Lib.hid (below_next HB1.out hb2)
   clear hb2 HPN d0 d1 d2 d3 d4 d5 hbl2
   have hbw := HBX.out.below HB2.out
   have d0 := hbw.c0; have d1 := hbw.c1; have d2 := hbw.c2; have d3 := hbw.c3; have d4 := hbw.c4; have d5 := hbw.c5
   have hbl2 := hbw.lt
   clear hbw
   go_wp2_with fail
   refine (HCH.out _ HB2.out).mono ?_
   rintro e w3 ⟨rfl, hb3⟩
   have HB3 := Lib.hid (below_next HB2.out hb3)
   clear hb3 HCH d0 d1 d2 d3 d4 d5 hbl2
   go_wp2_with fail
   refine (awake_any w3 (HRa.out.below HB3.out) (HSa.out.below HB3.out)).mono ?_
   rintro e w4 ⟨rfl, hb4⟩
   go_wp2_with fail
   go_ret
   exact ⟨rfl, by rw [HBE.out]; exact HFIN.out _ (below_next HB3.out hb4)⟩
  ·obtain ⟨-, htb, -⟩ := check_ok h
   have hv := lits_valid htb
   have hok := lits_okF hlits
   obtain ⟨hc2, hu2⟩ := unit_deep h
   have hok2 : ∀ t ∈ u.lits, OkF 2000 t := fun t ht => (valid_deep (hv t ht)).2.2 (hok t ht)
   have hlen := unitW_len hc2 hl4
   have hpos : 0 < (unitW (encW 2000) u).length := by
    rcases hz : unitW (encW 2000) u with _ | ⟨a, l⟩
    ·unfold unitW at hz; exact absurd (List.append_eq_nil_iff.1 hz).1 (textW_ne _)
    ·simp
   have hgz := ugetD_of hc2 hok2
   have hgc := fun k (hk : k < _) => uget_cut hc2 hok2 (k := k) hk
   have hgm := uget_more hc2 hok2
   have HPY : Hid (∀ wx, Below Wa.heap.size Wa wx → Calls Tryz.prog 15 #[.agg #[.string u.mdl, .int .i64 u.vsn, .slice lo u.lits.length lc, .slice fo u.funcs.length fc, .slice go u.funs.length gc, .slice co u.code.length cc]] wx fun en w' => en = .returned (.tuple #[.string ⟨(unitW (encW 2000) u).toArray⟩, .int .i64 0]) ∧ Below wx.heap.size wx w') :=
    Lib.hid (fun wx hx => by
     have := put_yes (encW (f + 1)) f u lo fo go co lc fc gc cc wx (HRa.out.below hx) (HSa.out.below hx) (HUa.out.below hx) (hlits.tms hx) hcap HNM2.out (wire_ok hv hcap) h
     rw [hu2] at this; exact this)
   have HSM : Hid (∀ (lo' fo' go' co' : Option Addr) (lc' fc' gc' cc' : Nat) (wx : World), Below Wa.heap.size Wa wx → UP wx u lo' fo' go' co' → SlAt wx 9 (TmAt wx 2000) lo' u.lits →
     Calls Tryz.prog 19 #[.agg #[.string u.mdl, .int .i64 u.vsn, .slice lo u.lits.length lc, .slice fo u.funcs.length fc, .slice go u.funs.length gc, .slice co u.code.length cc], .agg #[.string u.mdl, .int .i64 u.vsn, .slice lo' u.lits.length lc', .slice fo' u.funcs.length fc', .slice go' u.funs.length gc', .slice co' u.code.length cc']] wx fun e w' => e = .returned (.bool true) ∧ Below wx.heap.size wx w') :=
    Lib.hid (fun lo' fo' go' co' lc' fc' gc' cc' wx hx hup2 hl2 => rsunit_eq (f + 2000) u lo fo go co lo' fo' go' co' lc fc gc cc lc' fc' gc' cc' wx (HUa.out.below hx) hup2 ((hlits.tms hx).imp fun _ _ h => h.le (by omega)) (hl2.imp fun _ _ h => h.le (by omega)))
   have HGT : Hid (∀ (s : ByteArray) (wx : World), Below Wa.heap.size Wa wx → s.size ≤ 68719476736 → Calls Tryz.prog 17 #[.string s] wx (UGetQ s wx)) :=
    Lib.hid (fun s wx hx hs => uget_any s wx hs (HRa.out.below hx) (HSa.out.below hx))
   have hsz : (⟨(unitW (encW 2000) u).toArray⟩ : ByteArray).size = (unitW (encW 2000) u).length := by show (unitW (encW 2000) u).toArray.size = _; rw [List.size_toArray]
   have hdl : (⟨(unitW (encW 2000) u).toArray⟩ : ByteArray).data.toList = unitW (encW 2000) u := List.toList_toArray
   generalize hs : (⟨(unitW (encW 2000) u).toArray⟩ : ByteArray) = s at *
   rw [← hdl] at hgz hgc hgm
   rw [← hsz] at hlen hpos
   rw [Array.length_toList] at hgc
   have HGZ := Lib.hid hgz; have HGC : Hid (∀ k, k < s.size → ugetD (s.data.toList.take k) = none) := Lib.hid hgc; have HGM := Lib.hid hgm
   have HSL : Hid (s.size ≤ 60000000000) := Lib.hid hlen
   rw [h] at HCH
   clear hl4 hf0 hp0 hlits hcap hbw HQ h htb hv hok hc2 hu2 hok2 hlen hgz hgc hgm hsz hdl hs
   go_wp2_with fail
   refine (HPY.out _ HB1.out).mono ?_
   rintro e w2 ⟨rfl, hb2⟩
   have HB2 := Lib.hid (below_next HB1.out hb2)
   clear hb2 HPY d0 d1 d2 d3 d4 d5 hbl2
   have hbw := HBX.out.below HB2.out
   have d0 := hbw.c0; have d1 := hbw.c1; have d2 := hbw.c2; have d3 := hbw.c3; have d4 := hbw.c4; have d5 := hbw.c5
   have hbl2 := hbw.lt
   clear hbw
   go_wp2_with fail
   refine (HCH.out _ HB2.out).mono ?_
   rintro e w3 ⟨rfl, hb3⟩
   have HB3 := Lib.hid (below_next HB2.out hb3)
   clear hb3 HCH d0 d1 d2 d3 d4 d5 hbl2
   have hG := HGT.out s w3 HB3.out (by have := HSL.out; omega)
   unfold UGetQ at hG
   rw [HGZ.out] at hG
   clear HGZ
   go_upto_region 8 with (go_at_call 17; refine hG.mono ?_; rintro e w4 ⟨⟨lo', lc', fo', fc', go', gc', co', cc', rfl, hup4, hsl4⟩, hb4⟩)
   have hba := (Below.refl w4.heap.size w4).alloc (Nat.le_refl _) (.cells #[.string u.mdl, .int .i64 u.vsn, .slice lo' u.lits.length lc', .slice fo' u.funcs.length fc', .slice go' u.funs.length gc', .slice co' u.code.length cc'] 27)
   have hbx := ubox_new w4 u lo' fo' go' co' lc' fc' gc' cc'
   have HB4 := Lib.hid (below_next HB3.out (hb4.trans (hba.mono hb4.size)))
   have HUP4 := Lib.hid (hup4.below hba)
   have HSL4 := Lib.hid (hsl4.tms hba)
   clear hb4 hba hup4 hsl4
   generalize w4.alloc _ = w5 at *
   have c0 := hbx.c0; have c1 := hbx.c1; have c2 := hbx.c2; have c3 := hbx.c3; have c4 := hbx.c4; have c5 := hbx.c5
   have hbl4 := hbx.lt
   clear hbx
   have hbw := HBX.out.below HB4.out
   have d0 := hbw.c0; have d1 := hbw.c1; have d2 := hbw.c2; have d3 := hbw.c3; have d4 := hbw.c4; have d5 := hbw.c5
   have hbl2 := hbw.lt
   clear hbw
   have hne : ((s.size : Int) == 0) = false := beq_eq_false_iff_ne.2 (by omega)
   go_wp2_with fail
   refine (HSM.out lo' fo' go' co' lc' fc' gc' cc' w5 HB4.out HUP4.out HSL4.out).mono ?_
   rintro e w6 ⟨rfl, hb6⟩
   have HB6 := Lib.hid (below_next HB4.out hb6)
   clear hb6 HSM HUP4 HSL4 c0 c1 c2 c3 c4 c5 d0 d1 d2 d3 d4 d5 hbl2 hbl4
   obtain ⟨k, hk, hcase⟩ := cut_in (c := cut) hpos
   rcases hcase with ⟨hge, heq⟩ | ⟨hlz, heq⟩
   ·clear hge
    have hd0 : decide ((k : Int) < 0) = false := decide_eq_false (by omega)
    have hG2 := HGT.out (s.extract 0 k) w6 HB6.out (by have := HSL.out; rw [ByteArray.size_extract]; omega)
    unfold UGetQ at hG2
    rw [show (s.extract 0 k).data.toList = s.data.toList.take k by have := ext_list s 0 k; rw [Nat.zero_add, List.drop_zero] at this; exact this, HGC.out k hk] at hG2
    unfold zeroU at hG2
    have HG2 := Lib.hid hG2
    clear HGC hG2
    go_upto_region 13 with fail
    clear heq hd0 hG
    go_wp2_with fail
    refine HG2.out.mono ?_
    rintro e w7 ⟨rfl, hb7⟩
    have HB7 := Lib.hid (below_next HB6.out hb7)
    clear hb7 HG2
    go_upto_region 14 with fail
    have hz0 := heap_alloc_new w7 (.cells #[.string ⟨#[]⟩, .int .i64 0, .slice none 0 0, .slice none 0 0, .slice none 0 0, .slice none 0 0] 27)
    have hba := (Below.refl w7.heap.size w7).alloc (Nat.le_refl _) (.cells #[.string ⟨#[]⟩, .int .i64 0, .slice none 0 0, .slice none 0 0, .slice none 0 0, .slice none 0 0] 27)
    have HB8 := Lib.hid (HB7.out.trans (hba.mono HB7.out.size))
    have HZ0 := Lib.hid hz0
    clear hz0 hba
    generalize w7.alloc _ = w8 at *
    generalize w7.heap.size = X7 at *
    have hcv := conv_one w8 more 5
    have hsz1 : s.size ≤ 60000000000 := HSL.out
    have hss : (⟨#[more]⟩ : ByteArray).size = 1 := rfl
    have hb9 := (Below.refl w8.heap.size w8).alloc (Nat.le_refl _) (.cells #[.int .u8 (more.toNat : Int)] 5)
    have HB9 := Lib.hid (HB8.out.trans (hb9.mono HB8.out.size))
    have hG3 := HGT.out (s ++ ⟨#[more]⟩) _ HB9.out (by rw [one_size]; omega)
    unfold UGetQ at hG3
    rw [one_list, HGM.out more] at hG3
    unfold zeroU at hG3
    have HG3 := Lib.hid hG3
    have HZ9 := Lib.hid ((hb9.block X7 (lt_of_row HZ0.out)).trans HZ0.out)
    clear hG3 hb9 HGM HZ0
    go_wp2_with fail
    refine HG3.out.mono ?_
    rintro e w9 ⟨rfl, hb10⟩
    have HB10 := Lib.hid (below_next HB9.out hb10)
    have HZ10 := Lib.hid ((hb10.block X7 (lt_of_row HZ9.out)).trans HZ9.out)
    clear hb10 HG3 HZ9 hsz1 hss hcv
    go_upto_region 15 with fail
    have hz0 := heap_alloc_new w9 (.cells #[.string ⟨#[]⟩, .int .i64 0, .slice none 0 0, .slice none 0 0, .slice none 0 0, .slice none 0 0] 27)
    have hba := (Below.refl w9.heap.size w9).alloc (Nat.le_refl _) (.cells #[.string ⟨#[]⟩, .int .i64 0, .slice none 0 0, .slice none 0 0, .slice none 0 0, .slice none 0 0] 27)
    have HB11 := Lib.hid (HB10.out.trans (hba.mono HB10.out.size))
    have HY0 := Lib.hid hz0
    have HZ11 := Lib.hid ((hba.block X7 (lt_of_row HZ10.out)).trans HZ10.out)
    clear hz0 hba HZ10
    generalize w9.alloc _ = w11 at *
    generalize w9.heap.size = X9 at *
    obtain ⟨q0, q1, q2, q3, q4, q5⟩ := unit_cells6 HZ11.out
    have hq := lt_of_row HZ11.out
    have hS1 := same_zeroU w11
    unfold zeroU at hS1
    have HS1 := Lib.hid hS1
    clear hS1
    go_wp2_with fail
    refine HS1.out.mono ?_
    rintro e w12 ⟨rfl, hb12⟩
    have HB12 := Lib.hid (below_next HB11.out hb12)
    have HY12 := Lib.hid ((hb12.block X9 (lt_of_row HY0.out)).trans HY0.out)
    clear hb12 HS1 q0 q1 q2 q3 q4 q5 hq HZ11 HY0
    obtain ⟨q0, q1, q2, q3, q4, q5⟩ := unit_cells6 HY12.out
    have hq := lt_of_row HY12.out
    have hS1 := same_zeroU w12
    unfold zeroU at hS1
    have HS1 := Lib.hid hS1
    clear hS1
    go_wp2_with fail
    refine HS1.out.mono ?_
    rintro e w13 ⟨rfl, hb13⟩
    have HB13 := Lib.hid (below_next HB12.out hb13)
    clear hb13 HS1 q0 q1 q2 q3 q4 q5 hq HY12
    go_wp2_with fail
    refine (awake_any w13 (HRa.out.below HB13.out) (HSa.out.below HB13.out)).mono ?_
    rintro e w14 ⟨rfl, hb14⟩
    go_wp2_with fail
    go_ret
    exact ⟨rfl, by rw [HBE.out]; exact HFIN.out _ (below_next HB13.out hb14)⟩
   ·have heq2 : cut.tmod (s.size : Int) = (k : Int) - (s.size : Int) := by omega
    have hd0 : decide ((k : Int) - (s.size : Int) < 0) = true := decide_eq_true (by omega)
    have hadd : wrap64 (k : Int) = (k : Int) := by unfold wrap64; have := HSL.out; omega
    have hadd2 : (k : Int) - (s.size : Int) + (s.size : Int) = (k : Int) := by omega
    clear hlz heq
    have hG2 := HGT.out (s.extract 0 k) w6 HB6.out (by have := HSL.out; rw [ByteArray.size_extract]; omega)
    unfold UGetQ at hG2
    rw [show (s.extract 0 k).data.toList = s.data.toList.take k by have := ext_list s 0 k; rw [Nat.zero_add, List.drop_zero] at this; exact this, HGC.out k hk] at hG2
    unfold zeroU at hG2
    have HG2 := Lib.hid hG2
    clear HGC hG2
    go_upto_region 12 with fail
    clear hd0 heq2
    go_upto_region 13 with fail
    rw [hadd]
    clear hadd hadd2 hG
    go_wp2_with fail
    refine HG2.out.mono ?_
    rintro e w7 ⟨rfl, hb7⟩
    have HB7 := Lib.hid (below_next HB6.out hb7)
    clear hb7 HG2
    go_upto_region 14 with fail
    have hz0 := heap_alloc_new w7 (.cells #[.string ⟨#[]⟩, .int .i64 0, .slice none 0 0, .slice none 0 0, .slice none 0 0, .slice none 0 0] 27)
    have hba := (Below.refl w7.heap.size w7).alloc (Nat.le_refl _) (.cells #[.string ⟨#[]⟩, .int .i64 0, .slice none 0 0, .slice none 0 0, .slice none 0 0, .slice none 0 0] 27)
    have HB8 := Lib.hid (HB7.out.trans (hba.mono HB7.out.size))
    have HZ0 := Lib.hid hz0
    clear hz0 hba
    generalize w7.alloc _ = w8 at *
    generalize w7.heap.size = X7 at *
    have hcv := conv_one w8 more 5
    have hsz1 : s.size ≤ 60000000000 := HSL.out
    have hss : (⟨#[more]⟩ : ByteArray).size = 1 := rfl
    have hb9 := (Below.refl w8.heap.size w8).alloc (Nat.le_refl _) (.cells #[.int .u8 (more.toNat : Int)] 5)
    have HB9 := Lib.hid (HB8.out.trans (hb9.mono HB8.out.size))
    have hG3 := HGT.out (s ++ ⟨#[more]⟩) _ HB9.out (by rw [one_size]; omega)
    unfold UGetQ at hG3
    rw [one_list, HGM.out more] at hG3
    unfold zeroU at hG3
    have HG3 := Lib.hid hG3
    have HZ9 := Lib.hid ((hb9.block X7 (lt_of_row HZ0.out)).trans HZ0.out)
    clear hG3 hb9 HGM HZ0
    go_wp2_with fail
    refine HG3.out.mono ?_
    rintro e w9 ⟨rfl, hb10⟩
    have HB10 := Lib.hid (below_next HB9.out hb10)
    have HZ10 := Lib.hid ((hb10.block X7 (lt_of_row HZ9.out)).trans HZ9.out)
    clear hb10 HG3 HZ9 hsz1 hss hcv
    go_upto_region 15 with fail
    have hz0 := heap_alloc_new w9 (.cells #[.string ⟨#[]⟩, .int .i64 0, .slice none 0 0, .slice none 0 0, .slice none 0 0, .slice none 0 0] 27)
    have hba := (Below.refl w9.heap.size w9).alloc (Nat.le_refl _) (.cells #[.string ⟨#[]⟩, .int .i64 0, .slice none 0 0, .slice none 0 0, .slice none 0 0, .slice none 0 0] 27)
    have HB11 := Lib.hid (HB10.out.trans (hba.mono HB10.out.size))
    have HY0 := Lib.hid hz0
    have HZ11 := Lib.hid ((hba.block X7 (lt_of_row HZ10.out)).trans HZ10.out)
    clear hz0 hba HZ10
    generalize w9.alloc _ = w11 at *
    generalize w9.heap.size = X9 at *
    obtain ⟨q0, q1, q2, q3, q4, q5⟩ := unit_cells6 HZ11.out
    have hq := lt_of_row HZ11.out
    have hS1 := same_zeroU w11
    unfold zeroU at hS1
    have HS1 := Lib.hid hS1
    clear hS1
    go_wp2_with fail
    refine HS1.out.mono ?_
    rintro e w12 ⟨rfl, hb12⟩
    have HB12 := Lib.hid (below_next HB11.out hb12)
    have HY12 := Lib.hid ((hb12.block X9 (lt_of_row HY0.out)).trans HY0.out)
    clear hb12 HS1 q0 q1 q2 q3 q4 q5 hq HZ11 HY0
    obtain ⟨q0, q1, q2, q3, q4, q5⟩ := unit_cells6 HY12.out
    have hq := lt_of_row HY12.out
    have hS1 := same_zeroU w12
    unfold zeroU at hS1
    have HS1 := Lib.hid hS1
    clear hS1
    go_wp2_with fail
    refine HS1.out.mono ?_
    rintro e w13 ⟨rfl, hb13⟩
    have HB13 := Lib.hid (below_next HB12.out hb13)
    clear hb13 HS1 q0 q1 q2 q3 q4 q5 hq HY12
    go_wp2_with fail
    refine (awake_any w13 (HRa.out.below HB13.out) (HSa.out.below HB13.out)).mono ?_
    rintro e w14 ⟨rfl, hb14⟩
    go_wp2_with fail
    go_ret
    exact ⟨rfl, by rw [HBE.out]; exact HFIN.out _ (below_next HB13.out hb14)⟩
end Go.Proofs.YtghgbikmlbildaaGreatDoor
namespace Go.Proofs.YtghgbikmlbildaaGreatDoor
open Go.RowKit
set_option linter.unusedVariables false

theorem rows_datum : (Rows.laid_stagehand_code_rows : DataW Unit) = .agg (rowT.map fun r => .agg ([r.1, r.2.1, r.2.2].map fun z => .lit (.int .i64 z))) := rfl
theorem rowsName : Tryz.prog.globalNamed "stagehand/code.rows" = some 0 := by kernel_rfl
theorem rowsType : (Tryz.prog.globals[0]?).map (·.type) = some 126 := by kernel_rfl
theorem rowCells : Tryz.prog.cellsOf 57 = 3 := by kernel_rfl
theorem rowInt : Tryz.prog.cellsOf 3 = 1 := by kernel_rfl
theorem rows_of_reads {W : World} (h : Lib.VarReads Tryz.prog W "stagehand/code.rows" Rows.laid_stagehand_code_rows) : RowsAt W := by
 obtain ⟨g, t, cs, fuel, p, hg, ht, hv, hd⟩ := h
 obtain rfl := Option.some.inj (rowsName.symm.trans hg)
 obtain rfl := Option.some.inj (rowsType.symm.trans ht)
 rw [rows_datum] at hd
 have hlt : 0 < W.heap.size := by
  unfold World.var? at hv
  rw [hg] at hv
  simp only [Option.bind_some] at hv
  split at hv
  ·rename_i h; exact (Array.getElem?_eq_some_iff.1 h).1
  ·cases hv
 refine ⟨hlt, fun k hk => ?_⟩
 obtain ⟨f', d, q, h1, h2⟩ := Lib.array_elem Tryz.underlying126 hd k hk
 rw [List.getElem?_map, List.getElem?_eq_getElem (by exact hk)] at h1
 obtain rfl := Option.some.inj h1
 have h3 := Lib.ints_of_struct Tryz.underlying57 (fun i f hf => by
  have hi := (Array.getElem?_eq_some_iff.1 hf).1
  have hi : i < 3 := hi
  rcases (show i = 0 ∨ i = 1 ∨ i = 2 by omega) with rfl | rfl | rfl
  all_goals
   obtain rfl := Option.some.inj hf
   exact ⟨Tryz.underlying3, rfl, rowInt⟩) rowCells h2
 rw [rowCells] at h3
 have hc : ∀ i, i < 3 → cs[k * 3 + i]? = ([(rowT[k]'hk).1, (rowT[k]'hk).2.1, (rowT[k]'hk).2.2].map fun z => Value.int .i64 z)[i]? := fun i hi => by
  have h4 : ((cs.toList.drop (k * 3)).take 3)[i]? = ([(rowT[k]'hk).1, (rowT[k]'hk).2.1, (rowT[k]'hk).2.2].map fun z => Value.int .i64 z)[i]? := congrArg (fun l => l[i]?) h3
  rw [List.getElem?_take_of_lt hi, List.getElem?_drop, Array.getElem?_toList] at h4
  exact h4
 have hcell := World.var?_cell hg hv
 exact ⟨(hcell (k * 3)).trans (hc 0 (by decide)), (hcell (k * 3 + 1)).trans (hc 1 (by decide)), (hcell (k * 3 + 2)).trans (hc 2 (by decide))⟩
theorem spaceName : Tryz.prog.globalNamed "strings.asciiSpace" = some 1 := by kernel_rfl
theorem spaceType : (Tryz.prog.globals[1]?).map (·.type) = some 233 := by kernel_rfl
theorem spaceCells : Tryz.prog.cellsOf 5 = 1 := by kernel_rfl
theorem spacesCells : Tryz.prog.cellsOf 233 = 256 := by kernel_rfl
theorem space_datum : (Rows.laid_strings_asciiSpace : DataW Unit) = Lib.tabData .u8 Lib.asciiSpaceTab := by kernel_rfl
theorem rows_at {W : World} {l : List (String × DataW Unit)} (h : laidMet Tryz.prog l W) (hm : ("stagehand/code.rows", Rows.laid_stagehand_code_rows) ∈ l) : RowsAt W := rows_of_reads (Lib.laidMet.reads h hm)
theorem space_at {W : World} {a : String × DataW Unit} {rest : List (String × DataW Unit)} (h : laidMet Tryz.prog (a :: ("strings.asciiSpace", Rows.laid_strings_asciiSpace) :: rest) W) : SpaceAt W := by
 rw [space_datum] at h
 exact Lib.tabIs_of_head spaceName spaceType Tryz.underlying233 Tryz.underlying5 spaceCells spacesCells h.tail

/-- A world for the witness: the listed tables hold what their initialisers lay. -/
noncomputable def laidWorld (os : Os) : World :=
 let N := (World.settled Tryz.prog os).heap.size
 let w0 := World.holding Tryz.prog os ⟨#[.cells (Lib.whiteT.map fun (z : Nat) => Value.int .u16 (z : Int)).toArray 274, .cells #[.slice (some ⟨N, 0, none⟩) 7 7, .slice none 0 0, .int .i64 2] 271], #[], []⟩
 let put (h : Array Obj) (g : Nat) (cs : Array Value) : Array Obj := h.modify g fun
  | .cells _ t frozen => .cells cs t frozen
  | o => o
 let h1 := put w0.heap 1 (Lib.asciiSpaceTab.map fun z => Value.int .u8 z).toArray
 let h2 := put h1 3 #[.pointer (some ⟨N + 1, 0, none⟩)]
 let h3 := put h2 0 (rowT.flatMap fun r => [Value.int .i64 r.1, Value.int .i64 r.2.1, Value.int .i64 r.2.2]).toArray
 { w0 with heap := h3 }
end Go.Proofs.YtghgbikmlbildaaGreatDoor
