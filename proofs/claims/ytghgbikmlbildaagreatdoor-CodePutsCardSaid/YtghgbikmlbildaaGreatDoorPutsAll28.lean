/-
  The reference's formed: the walk (printed by gen_rformed.py).
-/
import Derived.Deep.RegionHeld3
import Derived.Deep.DeepCutAuto
import Derived.Test.YtghgbikmlbildaaGreatDoorPutsAll16
import Derived.Test.YtghgbikmlbildaaGreatDoorPutsAll18
namespace Go.Proofs.YtghgbikmlbildaaGreatDoor
open Go.RowKit
set_option linter.unusedVariables false
set_option linter.unusedSimpArgs false

def rdstB (nl : Nat) (x : RIns) (a : Bool) : Bool := if a = true then opdB nl x.dst && !(x.dst.kind == 3) else noneB x.dst
def restB (x : RIns) (r : RRow) : Bool := (r.c || x.n == 0) && ((r.d || x.name.toList.isEmpty) && ((r.e || (x.cases.length : Int) == 0) && ((r.f || (x.segs.length : Int) == 0) && (r.g || x.to == 0))))
def formedB (nl : Nat) (x : RIns) (r : RRow) : Bool := rdstB nl x r.a && ((wi x.src.length r.lo r.hi && ((r.h || x.live == 0) && wi x.live 0 256)) && (x.src.all (opdB nl) && restB x r))
theorem nat_beq (n : Nat) : ((n : Int) == 0) = (n == 0) := by rw [Bool.eq_iff_iff, beq_iff_eq, beq_iff_eq]; omega
theorem formed_fields (nl : Nat) (x : RIns) (h lo hi : Nat) : formedB nl x ⟨hasB h 1, hasB h 2, hasB h 4, hasB h 8, hasB h 16, hasB h 32, hasB h 64, hasB h 128, lo, hi⟩ = fieldsB nl x h lo hi := by
 unfold formedB fieldsB restB rdstB dstB noneB
 simp only [nat_beq]
 have e : (x.dst.kind == 3) = decide (x.dst.kind = 3) := by rw [Bool.eq_iff_iff, beq_iff_eq, decide_eq_true_eq]
 rw [e]
 have e2 : (if hasB h 1 = true then !decide (x.dst.kind = 3) && opdB nl x.dst else decide (x.dst.kind = 0) && decide (x.dst.n = 0)) = (if hasB h 1 = true then opdB nl x.dst && !decide (x.dst.kind = 3) else decide (x.dst.kind = 0) && decide (x.dst.n = 0)) := by
  split
  ·exact Bool.and_comm _ _
  ·rfl
 rw [e2]
 generalize (if hasB h 1 = true then opdB nl x.dst && !decide (x.dst.kind = 3) else decide (x.dst.kind = 0) && decide (x.dst.n = 0)) = q0
 ac_rfl
theorem three_boxes (w : World) (u : RUnit) (lo fo go co : Option Addr) (lc fc gc cc : Nat) (x : RIns) (so co' go' : Option Addr) (sc cc' gc' : Nat) (cs : Array Value) : UBox (((w.alloc (.cells #[.string u.mdl, .int .i64 u.vsn, .slice lo u.lits.length lc, .slice fo u.funcs.length fc, .slice go u.funs.length gc, .slice co u.code.length cc] 27)).alloc (.cells #[.int .i64 x.op, .int .i64 x.dst.kind, .int .i64 x.dst.n, .slice so x.src.length sc, .int .i64 x.to, .int .i64 x.n, .int .i64 x.live, .string x.name, .slice co' x.cases.length cc', .slice go' x.segs.length gc'] 50)).alloc (.cells cs 65)) w.heap.size u lo fo go co lc fc gc cc ∧ XBox (((w.alloc (.cells #[.string u.mdl, .int .i64 u.vsn, .slice lo u.lits.length lc, .slice fo u.funcs.length fc, .slice go u.funs.length gc, .slice co u.code.length cc] 27)).alloc (.cells #[.int .i64 x.op, .int .i64 x.dst.kind, .int .i64 x.dst.n, .slice so x.src.length sc, .int .i64 x.to, .int .i64 x.n, .int .i64 x.live, .string x.name, .slice co' x.cases.length cc', .slice go' x.segs.length gc'] 50)).alloc (.cells cs 65)) (w.heap.size + 1) x so co' go' sc cc' gc' ∧
  (((w.alloc (.cells #[.string u.mdl, .int .i64 u.vsn, .slice lo u.lits.length lc, .slice fo u.funcs.length fc, .slice go u.funs.length gc, .slice co u.code.length cc] 27)).alloc (.cells #[.int .i64 x.op, .int .i64 x.dst.kind, .int .i64 x.dst.n, .slice so x.src.length sc, .int .i64 x.to, .int .i64 x.n, .int .i64 x.live, .string x.name, .slice co' x.cases.length cc', .slice go' x.segs.length gc'] 50)).alloc (.cells cs 65)).heap[w.heap.size + 1 + 1]? = some (.cells cs 65 (0, 0)) ∧ Below w.heap.size w (((w.alloc (.cells #[.string u.mdl, .int .i64 u.vsn, .slice lo u.lits.length lc, .slice fo u.funcs.length fc, .slice go u.funs.length gc, .slice co u.code.length cc] 27)).alloc (.cells #[.int .i64 x.op, .int .i64 x.dst.kind, .int .i64 x.dst.n, .slice so x.src.length sc, .int .i64 x.to, .int .i64 x.n, .int .i64 x.live, .string x.name, .slice co' x.cases.length cc', .slice go' x.segs.length gc'] 50)).alloc (.cells cs 65)) := by
 obtain ⟨h1, h2, h3⟩ := two_boxes w u lo fo go co lc fc gc cc x so co' go' sc cc' gc'
 have s : ((w.alloc (.cells #[.string u.mdl, .int .i64 u.vsn, .slice lo u.lits.length lc, .slice fo u.funcs.length fc, .slice go u.funs.length gc, .slice co u.code.length cc] 27)).alloc (.cells #[.int .i64 x.op, .int .i64 x.dst.kind, .int .i64 x.dst.n, .slice so x.src.length sc, .int .i64 x.to, .int .i64 x.n, .int .i64 x.live, .string x.name, .slice co' x.cases.length cc', .slice go' x.segs.length gc'] 50)).heap.size = w.heap.size + 1 + 1 := by simp
 have hb := (Below.refl ((w.alloc (.cells #[.string u.mdl, .int .i64 u.vsn, .slice lo u.lits.length lc, .slice fo u.funcs.length fc, .slice go u.funs.length gc, .slice co u.code.length cc] 27)).alloc (.cells #[.int .i64 x.op, .int .i64 x.dst.kind, .int .i64 x.dst.n, .slice so x.src.length sc, .int .i64 x.to, .int .i64 x.n, .int .i64 x.live, .string x.name, .slice co' x.cases.length cc', .slice go' x.segs.length gc'] 50)).heap.size ((w.alloc (.cells #[.string u.mdl, .int .i64 u.vsn, .slice lo u.lits.length lc, .slice fo u.funcs.length fc, .slice go u.funs.length gc, .slice co u.code.length cc] 27)).alloc (.cells #[.int .i64 x.op, .int .i64 x.dst.kind, .int .i64 x.dst.n, .slice so x.src.length sc, .int .i64 x.to, .int .i64 x.n, .int .i64 x.live, .string x.name, .slice co' x.cases.length cc', .slice go' x.segs.length gc'] 50))).alloc (Nat.le_refl _) (.cells cs 65)
 refine ⟨h1.below hb, h2.below hb, ?_, h3.trans (hb.mono (by rw [s]; omega))⟩
 rw [← s]
 exact heap_alloc_new _ _
set_option maxRecDepth 100000 in
set_option maxHeartbeats 40000000 in
theorem rformed_any (u : RUnit) (lo fo go co : Option Addr) (lc fc gc cc : Nat) (x : RIns) (so co' go' : Option Addr) (sc cc' gc' : Nat) (r : RRow) (w : World) (hl : u.lits.length ≤ 9223372036854775807) (hsrc : SlAt w 2 ArgR so x.src) (hdk : I64 x.dst.kind ∧ I64 x.dst.n) (r2 : x.src.length ≤ 9223372036854775807) (r3 : x.cases.length ≤ 9223372036854775807) (r4 : x.segs.length ≤ 9223372036854775807) :
  Calls Tryz.prog 39 #[.agg #[.string u.mdl, .int .i64 u.vsn, .slice lo u.lits.length lc, .slice fo u.funcs.length fc, .slice go u.funs.length gc, .slice co u.code.length cc], .agg #[.int .i64 x.op, .int .i64 x.dst.kind, .int .i64 x.dst.n, .slice so x.src.length sc, .int .i64 x.to, .int .i64 x.n, .int .i64 x.live, .string x.name, .slice co' x.cases.length cc', .slice go' x.segs.length gc'], .agg r.val] w fun e w' => e = .returned (.bool (formedB u.lits.length x r)) ∧ Below w.heap.size w w' := by
 obtain ⟨a, b, c, d, e, f, g, h, l1, l2⟩ := r
 have HF : Hid (formedB u.lits.length x ⟨a, b, c, d, e, f, g, h, l1, l2⟩ = (rdstB u.lits.length x a && ((wi x.src.length l1 l2 && ((h || x.live == 0) && wi x.live 0 256)) && (x.src.all (opdB u.lits.length) && restB x ⟨a, b, c, d, e, f, g, h, l1, l2⟩)))) := Lib.hid rfl
 have HR : Hid (restB x ⟨a, b, c, d, e, f, g, h, l1, l2⟩ = ((c || x.n == 0) && ((d || x.name.toList.isEmpty) && ((e || (x.cases.length : Int) == 0) && ((f || (x.segs.length : Int) == 0) && (g || x.to == 0)))))) := Lib.hid rfl
 have HD1 : Hid (rdstB u.lits.length x true = (opdB u.lits.length x.dst && !(x.dst.kind == 3))) := Lib.hid rfl
 have HD2 : Hid (rdstB u.lits.length x false = noneB x.dst) := Lib.hid rfl
 have HSR := Lib.hid hsrc
 clear hsrc
 generalize formedB u.lits.length x ⟨a, b, c, d, e, f, g, h, l1, l2⟩ = fb at *
 generalize restB x ⟨a, b, c, d, e, f, g, h, l1, l2⟩ = rb at *
 go_enter Tryz.func39, Tryz.ntmps39
 go_upto_region 1 with fail
 obtain ⟨hU, hX, hR, hBW⟩ := three_boxes w u lo fo go co lc fc gc cc x so co' go' sc cc' gc' #[.bool a, .bool b, .bool c, .bool d, .bool e, .bool f, .bool g, .bool h, .int .i64 l1, .int .i64 l2]
 have HBW := Lib.hid hBW
 clear hBW
 simp only [RRow.val] at hR ⊢
 generalize ((w.alloc (.cells #[.string u.mdl, .int .i64 u.vsn, .slice lo u.lits.length lc, .slice fo u.funcs.length fc, .slice go u.funs.length gc, .slice co u.code.length cc] 27)).alloc (.cells #[.int .i64 x.op, .int .i64 x.dst.kind, .int .i64 x.dst.n, .slice so x.src.length sc, .int .i64 x.to, .int .i64 x.n, .int .i64 x.live, .string x.name, .slice co' x.cases.length cc', .slice go' x.segs.length gc'] 50)).alloc (.cells #[.bool a, .bool b, .bool c, .bool d, .bool e, .bool f, .bool g, .bool h, .int .i64 l1, .int .i64 l2] 65) = W at *
 generalize hBz : w.heap.size = B at *
 have HBZ := Lib.hid hBz
 clear hBz
 have HU := Lib.hid hU; have HX := Lib.hid hX; have HRB := Lib.hid hR
 clear hU hX hR
 have hU1 := HU.out.below (Below.refl W.heap.size W); have hX1 := HX.out.below (Below.refl W.heap.size W); have hR1 := ((Below.refl W.heap.size W).block _ (lt_of_row HRB.out)).trans HRB.out
 have b0 := hU1.c0; have b1 := hU1.c1; have b2 := hU1.c2; have b3 := hU1.c3; have b4 := hU1.c4; have b5 := hU1.c5
 have c0 := hX1.c0; have c1 := hX1.c1; have c2 := hX1.c2; have c3 := hX1.c3; have c4 := hX1.c4; have c5 := hX1.c5; have c6 := hX1.c6; have c7 := hX1.c7; have c8 := hX1.c8; have c9 := hX1.c9
 have q0 : W.cell? ⟨B + 1 + 1, 0, none⟩ = some (.bool a) := by rw [cell_of_row _ _ _ _ _ _ hR1]; rfl
 have q1 : W.cell? ⟨B + 1 + 1, 1, none⟩ = some (.bool b) := by rw [cell_of_row _ _ _ _ _ _ hR1]; rfl
 have q2 : W.cell? ⟨B + 1 + 1, 2, none⟩ = some (.bool c) := by rw [cell_of_row _ _ _ _ _ _ hR1]; rfl
 have q3 : W.cell? ⟨B + 1 + 1, 3, none⟩ = some (.bool d) := by rw [cell_of_row _ _ _ _ _ _ hR1]; rfl
 have q4 : W.cell? ⟨B + 1 + 1, 4, none⟩ = some (.bool e) := by rw [cell_of_row _ _ _ _ _ _ hR1]; rfl
 have q5 : W.cell? ⟨B + 1 + 1, 5, none⟩ = some (.bool f) := by rw [cell_of_row _ _ _ _ _ _ hR1]; rfl
 have q6 : W.cell? ⟨B + 1 + 1, 6, none⟩ = some (.bool g) := by rw [cell_of_row _ _ _ _ _ _ hR1]; rfl
 have q7 : W.cell? ⟨B + 1 + 1, 7, none⟩ = some (.bool h) := by rw [cell_of_row _ _ _ _ _ _ hR1]; rfl
 have q8 : W.cell? ⟨B + 1 + 1, 8, none⟩ = some (.int .i64 l1) := by rw [cell_of_row _ _ _ _ _ _ hR1]; rfl
 have q9 : W.cell? ⟨B + 1 + 1, 9, none⟩ = some (.int .i64 l2) := by rw [cell_of_row _ _ _ _ _ _ hR1]; rfl
 have hlu := hU1.lt; have hlx := hX1.lt; have hlr := lt_of_row hR1
 clear hU1 hX1 hR1
 go_cut [33] (fun sv wx => ∃ v : Bool, sv = .bool v ∧ Hid (rdstB u.lits.length x a = !v) ∧ Hid (Below W.heap.size W wx))
 case first =>
  cases a with
  | true =>
   have hop := roperand_any u lo fo go co lc fc gc cc x.dst W hl hdk
   cases hq : opdB u.lits.length x.dst with
   | false =>
    have E : Hid (rdstB u.lits.length x true = !true) := Lib.hid (by rw [HD1.out, hq]; rfl)
    rw [hq] at hop
    clear hq
    go_wp2_with fail
    refine hop.mono ?_
    rintro e9 w1 ⟨rfl, hb1⟩
    clear b0 b1 b2 b3 b4 b5 c0 c1 c2 c3 c4 c5 c6 c7 c8 c9 q0 q1 q2 q3 q4 q5 q6 q7 q8 q9 hlu hlx hlr
    have hU1 := HU.out.below hb1; have hX1 := HX.out.below hb1; have hR1 := (hb1.block _ (lt_of_row HRB.out)).trans HRB.out
    have b0 := hU1.c0; have b1 := hU1.c1; have b2 := hU1.c2; have b3 := hU1.c3; have b4 := hU1.c4; have b5 := hU1.c5
    have c0 := hX1.c0; have c1 := hX1.c1; have c2 := hX1.c2; have c3 := hX1.c3; have c4 := hX1.c4; have c5 := hX1.c5; have c6 := hX1.c6; have c7 := hX1.c7; have c8 := hX1.c8; have c9 := hX1.c9
    have q0 : w1.cell? ⟨B + 1 + 1, 0, none⟩ = some (.bool true) := by rw [cell_of_row _ _ _ _ _ _ hR1]; rfl
    have q1 : w1.cell? ⟨B + 1 + 1, 1, none⟩ = some (.bool b) := by rw [cell_of_row _ _ _ _ _ _ hR1]; rfl
    have q2 : w1.cell? ⟨B + 1 + 1, 2, none⟩ = some (.bool c) := by rw [cell_of_row _ _ _ _ _ _ hR1]; rfl
    have q3 : w1.cell? ⟨B + 1 + 1, 3, none⟩ = some (.bool d) := by rw [cell_of_row _ _ _ _ _ _ hR1]; rfl
    have q4 : w1.cell? ⟨B + 1 + 1, 4, none⟩ = some (.bool e) := by rw [cell_of_row _ _ _ _ _ _ hR1]; rfl
    have q5 : w1.cell? ⟨B + 1 + 1, 5, none⟩ = some (.bool f) := by rw [cell_of_row _ _ _ _ _ _ hR1]; rfl
    have q6 : w1.cell? ⟨B + 1 + 1, 6, none⟩ = some (.bool g) := by rw [cell_of_row _ _ _ _ _ _ hR1]; rfl
    have q7 : w1.cell? ⟨B + 1 + 1, 7, none⟩ = some (.bool h) := by rw [cell_of_row _ _ _ _ _ _ hR1]; rfl
    have q8 : w1.cell? ⟨B + 1 + 1, 8, none⟩ = some (.int .i64 l1) := by rw [cell_of_row _ _ _ _ _ _ hR1]; rfl
    have q9 : w1.cell? ⟨B + 1 + 1, 9, none⟩ = some (.int .i64 l2) := by rw [cell_of_row _ _ _ _ _ _ hR1]; rfl
    have hlu := hU1.lt; have hlx := hX1.lt; have hlr := lt_of_row hR1
    clear hU1 hX1 hR1
    go_wp2_with fail
    go_meet
    case rel => exact ⟨true, rfl, E, Lib.hid hb1⟩
   | true =>
    rw [hq] at hop
    cases hk : (x.dst.kind == 3) with
    | true =>
     have E : Hid (rdstB u.lits.length x true = !true) := Lib.hid (by rw [HD1.out, hq, hk]; rfl)
     clear hq
     go_wp2_with fail
     refine hop.mono ?_
     rintro e9 w1 ⟨rfl, hb1⟩
     clear b0 b1 b2 b3 b4 b5 c0 c1 c2 c3 c4 c5 c6 c7 c8 c9 q0 q1 q2 q3 q4 q5 q6 q7 q8 q9 hlu hlx hlr
     have hU1 := HU.out.below hb1; have hX1 := HX.out.below hb1; have hR1 := (hb1.block _ (lt_of_row HRB.out)).trans HRB.out
     have b0 := hU1.c0; have b1 := hU1.c1; have b2 := hU1.c2; have b3 := hU1.c3; have b4 := hU1.c4; have b5 := hU1.c5
     have c0 := hX1.c0; have c1 := hX1.c1; have c2 := hX1.c2; have c3 := hX1.c3; have c4 := hX1.c4; have c5 := hX1.c5; have c6 := hX1.c6; have c7 := hX1.c7; have c8 := hX1.c8; have c9 := hX1.c9
     have q0 : w1.cell? ⟨B + 1 + 1, 0, none⟩ = some (.bool true) := by rw [cell_of_row _ _ _ _ _ _ hR1]; rfl
     have q1 : w1.cell? ⟨B + 1 + 1, 1, none⟩ = some (.bool b) := by rw [cell_of_row _ _ _ _ _ _ hR1]; rfl
     have q2 : w1.cell? ⟨B + 1 + 1, 2, none⟩ = some (.bool c) := by rw [cell_of_row _ _ _ _ _ _ hR1]; rfl
     have q3 : w1.cell? ⟨B + 1 + 1, 3, none⟩ = some (.bool d) := by rw [cell_of_row _ _ _ _ _ _ hR1]; rfl
     have q4 : w1.cell? ⟨B + 1 + 1, 4, none⟩ = some (.bool e) := by rw [cell_of_row _ _ _ _ _ _ hR1]; rfl
     have q5 : w1.cell? ⟨B + 1 + 1, 5, none⟩ = some (.bool f) := by rw [cell_of_row _ _ _ _ _ _ hR1]; rfl
     have q6 : w1.cell? ⟨B + 1 + 1, 6, none⟩ = some (.bool g) := by rw [cell_of_row _ _ _ _ _ _ hR1]; rfl
     have q7 : w1.cell? ⟨B + 1 + 1, 7, none⟩ = some (.bool h) := by rw [cell_of_row _ _ _ _ _ _ hR1]; rfl
     have q8 : w1.cell? ⟨B + 1 + 1, 8, none⟩ = some (.int .i64 l1) := by rw [cell_of_row _ _ _ _ _ _ hR1]; rfl
     have q9 : w1.cell? ⟨B + 1 + 1, 9, none⟩ = some (.int .i64 l2) := by rw [cell_of_row _ _ _ _ _ _ hR1]; rfl
     have hlu := hU1.lt; have hlx := hX1.lt; have hlr := lt_of_row hR1
     clear hU1 hX1 hR1
     go_wp2_with fail
     go_meet
     case rel => exact ⟨true, rfl, E, Lib.hid hb1⟩
    | false =>
     have E : Hid (rdstB u.lits.length x true = !false) := Lib.hid (by rw [HD1.out, hq, hk]; rfl)
     clear hq
     go_wp2_with fail
     refine hop.mono ?_
     rintro e9 w1 ⟨rfl, hb1⟩
     clear b0 b1 b2 b3 b4 b5 c0 c1 c2 c3 c4 c5 c6 c7 c8 c9 q0 q1 q2 q3 q4 q5 q6 q7 q8 q9 hlu hlx hlr
     have hU1 := HU.out.below hb1; have hX1 := HX.out.below hb1; have hR1 := (hb1.block _ (lt_of_row HRB.out)).trans HRB.out
     have b0 := hU1.c0; have b1 := hU1.c1; have b2 := hU1.c2; have b3 := hU1.c3; have b4 := hU1.c4; have b5 := hU1.c5
     have c0 := hX1.c0; have c1 := hX1.c1; have c2 := hX1.c2; have c3 := hX1.c3; have c4 := hX1.c4; have c5 := hX1.c5; have c6 := hX1.c6; have c7 := hX1.c7; have c8 := hX1.c8; have c9 := hX1.c9
     have q0 : w1.cell? ⟨B + 1 + 1, 0, none⟩ = some (.bool true) := by rw [cell_of_row _ _ _ _ _ _ hR1]; rfl
     have q1 : w1.cell? ⟨B + 1 + 1, 1, none⟩ = some (.bool b) := by rw [cell_of_row _ _ _ _ _ _ hR1]; rfl
     have q2 : w1.cell? ⟨B + 1 + 1, 2, none⟩ = some (.bool c) := by rw [cell_of_row _ _ _ _ _ _ hR1]; rfl
     have q3 : w1.cell? ⟨B + 1 + 1, 3, none⟩ = some (.bool d) := by rw [cell_of_row _ _ _ _ _ _ hR1]; rfl
     have q4 : w1.cell? ⟨B + 1 + 1, 4, none⟩ = some (.bool e) := by rw [cell_of_row _ _ _ _ _ _ hR1]; rfl
     have q5 : w1.cell? ⟨B + 1 + 1, 5, none⟩ = some (.bool f) := by rw [cell_of_row _ _ _ _ _ _ hR1]; rfl
     have q6 : w1.cell? ⟨B + 1 + 1, 6, none⟩ = some (.bool g) := by rw [cell_of_row _ _ _ _ _ _ hR1]; rfl
     have q7 : w1.cell? ⟨B + 1 + 1, 7, none⟩ = some (.bool h) := by rw [cell_of_row _ _ _ _ _ _ hR1]; rfl
     have q8 : w1.cell? ⟨B + 1 + 1, 8, none⟩ = some (.int .i64 l1) := by rw [cell_of_row _ _ _ _ _ _ hR1]; rfl
     have q9 : w1.cell? ⟨B + 1 + 1, 9, none⟩ = some (.int .i64 l2) := by rw [cell_of_row _ _ _ _ _ _ hR1]; rfl
     have hlu := hU1.lt; have hlx := hX1.lt; have hlr := lt_of_row hR1
     clear hU1 hX1 hR1
     go_wp2_with fail
     go_meet
     case rel => exact ⟨false, rfl, E, Lib.hid hb1⟩
  | false =>
   have hno := rnone_any x.dst W
   cases hq : noneB x.dst with
   | false =>
    have E : Hid (rdstB u.lits.length x false = !true) := Lib.hid (by rw [HD2.out, hq]; rfl)
    rw [hq] at hno
    clear hq
    go_wp2_with fail
    refine hno.mono ?_
    rintro e9 w1 ⟨rfl, hb1⟩
    go_wp2_with fail
    go_meet
    case rel => exact ⟨true, rfl, E, Lib.hid hb1⟩
   | true =>
    have E : Hid (rdstB u.lits.length x false = !false) := Lib.hid (by rw [HD2.out, hq]; rfl)
    rw [hq] at hno
    clear hq
    go_wp2_with fail
    refine hno.mono ?_
    rintro e9 w1 ⟨rfl, hb1⟩
    go_wp2_with fail
    go_meet
    case rel => exact ⟨false, rfl, E, Lib.hid hb1⟩
 case rest =>
  obtain ⟨v, rfl, HV, HB1⟩ := hcut
  clear b0 b1 b2 b3 b4 b5 c0 c1 c2 c3 c4 c5 c6 c7 c8 c9 q0 q1 q2 q3 q4 q5 q6 q7 q8 q9 hlu hlx hlr
  have hl1 := HB1.out.size
  have HFIN : Hid (∀ wx, Below W.heap.size W wx → Below B w wx) := Lib.hid (fun wx hh => HBW.out.trans (hh.mono (by have := HBW.out.size; have := HBZ.out; omega)))
  cases v with
  | true =>
   have E : Hid (fb = false) := Lib.hid (by rw [HF.out, HV.out]; rfl)
   go_wp2_with fail
   go_ret
   exact ⟨retb E.out.symm, by rw [HBZ.out]; exact HFIN.out _ HB1.out⟩
  | false =>
   have HF1 : Hid (fb = ((wi x.src.length l1 l2 && ((h || x.live == 0) && wi x.live 0 256)) && (x.src.all (opdB u.lits.length) && rb))) := Lib.hid (by rw [HF.out, HV.out]; rfl)
   clear HF HV
   go_upto_region 3 with fail
   have hU1 := HU.out.below HB1.out; have hX1 := HX.out.below HB1.out; have hR1 := (HB1.out.block _ (lt_of_row HRB.out)).trans HRB.out
   have b0 := hU1.c0; have b1 := hU1.c1; have b2 := hU1.c2; have b3 := hU1.c3; have b4 := hU1.c4; have b5 := hU1.c5
   have c0 := hX1.c0; have c1 := hX1.c1; have c2 := hX1.c2; have c3 := hX1.c3; have c4 := hX1.c4; have c5 := hX1.c5; have c6 := hX1.c6; have c7 := hX1.c7; have c8 := hX1.c8; have c9 := hX1.c9
   have q0 : wc.cell? ⟨B + 1 + 1, 0, none⟩ = some (.bool a) := by rw [cell_of_row _ _ _ _ _ _ hR1]; rfl
   have q1 : wc.cell? ⟨B + 1 + 1, 1, none⟩ = some (.bool b) := by rw [cell_of_row _ _ _ _ _ _ hR1]; rfl
   have q2 : wc.cell? ⟨B + 1 + 1, 2, none⟩ = some (.bool c) := by rw [cell_of_row _ _ _ _ _ _ hR1]; rfl
   have q3 : wc.cell? ⟨B + 1 + 1, 3, none⟩ = some (.bool d) := by rw [cell_of_row _ _ _ _ _ _ hR1]; rfl
   have q4 : wc.cell? ⟨B + 1 + 1, 4, none⟩ = some (.bool e) := by rw [cell_of_row _ _ _ _ _ _ hR1]; rfl
   have q5 : wc.cell? ⟨B + 1 + 1, 5, none⟩ = some (.bool f) := by rw [cell_of_row _ _ _ _ _ _ hR1]; rfl
   have q6 : wc.cell? ⟨B + 1 + 1, 6, none⟩ = some (.bool g) := by rw [cell_of_row _ _ _ _ _ _ hR1]; rfl
   have q7 : wc.cell? ⟨B + 1 + 1, 7, none⟩ = some (.bool h) := by rw [cell_of_row _ _ _ _ _ _ hR1]; rfl
   have q8 : wc.cell? ⟨B + 1 + 1, 8, none⟩ = some (.int .i64 l1) := by rw [cell_of_row _ _ _ _ _ _ hR1]; rfl
   have q9 : wc.cell? ⟨B + 1 + 1, 9, none⟩ = some (.int .i64 l2) := by rw [cell_of_row _ _ _ _ _ _ hR1]; rfl
   have hlu := hU1.lt; have hlx := hX1.lt; have hlr := lt_of_row hR1
   clear hU1 hX1 hR1
   go_cut [58] (fun sv wx => ∃ v : Bool, sv = .bool v ∧ Hid ((wi x.src.length l1 l2 && ((h || x.live == 0) && wi x.live 0 256)) = !v) ∧ wc = wx)
   case first =>
    have hw1 := fun wx => rwithin_any x.src.length l1 l2 wx
    have hw2 := fun wx => rwithin_any x.live 0 256 wx
    have HW1 := Lib.hid hw1; have HW2 := Lib.hid hw2
    clear hw1 hw2
    cases hv1 : wi x.src.length l1 l2 with
    | false =>
     rw [hv1] at HW1
     go_wp2_with fail
     refine (HW1.out _).mono ?_
     rintro e9 w1 ⟨rfl, rfl⟩
     go_wp2_with fail
     go_meet
     case rel => exact ⟨true, rfl, Lib.hid (by rw [hv1]; rfl), rfl⟩
    | true =>
     rw [hv1] at HW1
     cases h with
     | true =>
      cases hv2 : wi x.live 0 256 with
      | false =>
       rw [hv2] at HW2
       go_wp2_with fail
       refine (HW1.out _).mono ?_
       rintro e9 w1 ⟨rfl, rfl⟩
       go_wp2_with fail
       refine (HW2.out _).mono ?_
       rintro e9 w1 ⟨rfl, rfl⟩
       go_wp2_with fail
       go_meet
       case rel => exact ⟨true, rfl, Lib.hid (by rw [hv1, hv2]; rfl), rfl⟩
      | true =>
       rw [hv2] at HW2
       go_wp2_with fail
       refine (HW1.out _).mono ?_
       rintro e9 w1 ⟨rfl, rfl⟩
       go_wp2_with fail
       refine (HW2.out _).mono ?_
       rintro e9 w1 ⟨rfl, rfl⟩
       go_wp2_with fail
       go_meet
       case rel => exact ⟨false, rfl, Lib.hid (by rw [hv1, hv2]; rfl), rfl⟩
     | false =>
      cases t0 : (x.live == 0) with
      | false =>
       have t0' : (x.live != 0) = true := by rw [bne_iff_ne]; exact beq_eq_false_iff_ne.1 t0
       go_wp2_with fail
       refine (HW1.out _).mono ?_
       rintro e9 w1 ⟨rfl, rfl⟩
       go_wp2_with fail
       go_meet
       case rel => exact ⟨true, rfl, Lib.hid (by rw [hv1, t0]; rfl), rfl⟩
      | true =>
       have t0' : (x.live != 0) = false := by rw [bne_eq_false_iff_eq]; exact eq_of_beq t0
       cases hv2 : wi x.live 0 256 with
       | false =>
        rw [hv2] at HW2
        go_wp2_with fail
        refine (HW1.out _).mono ?_
        rintro e9 w1 ⟨rfl, rfl⟩
        go_wp2_with fail
        refine (HW2.out _).mono ?_
        rintro e9 w1 ⟨rfl, rfl⟩
        go_wp2_with fail
        go_meet
        case rel => exact ⟨true, rfl, Lib.hid (by rw [hv1, hv2, t0]; rfl), rfl⟩
       | true =>
        rw [hv2] at HW2
        go_wp2_with fail
        refine (HW1.out _).mono ?_
        rintro e9 w1 ⟨rfl, rfl⟩
        go_wp2_with fail
        refine (HW2.out _).mono ?_
        rintro e9 w1 ⟨rfl, rfl⟩
        go_wp2_with fail
        go_meet
        case rel => exact ⟨false, rfl, Lib.hid (by rw [hv1, hv2, t0]; rfl), rfl⟩
   case rest =>
    obtain ⟨v, rfl, HV, rfl⟩ := hcut
    cases v with
    | true =>
     have E : Hid (fb = false) := Lib.hid (by rw [HF1.out, HV.out]; rfl)
     go_wp2_with fail
     go_ret
     exact ⟨retb E.out.symm, by rw [HBZ.out]; exact HFIN.out _ HB1.out⟩
    | false =>
     have HF2 : Hid (fb = (x.src.all (opdB u.lits.length) && rb)) := Lib.hid (by rw [HF1.out, HV.out]; rfl)
     clear HF1 HV
     go_wp2_with fail
     clear b0 b1 b2 b3 b4 b5 c0 c1 c2 c3 c4 c5 c6 c7 c8 c9 q0 q1 q2 q3 q4 q5 q6 q7 q8 q9 hlu hlx hlr
     go_loopw [7] (fun iv wr => ∃ k : Nat, k ≤ x.src.length ∧ iv = .int .i64 k ∧ Hid (∀ j (hj : j < x.src.length), j < k → opdB u.lits.length x.src[j] = true) ∧ Hid (Below W.heap.size W wr)) (fun iv _ => x.src.length - (intOf iv).toNat)
     case atStart => exact ⟨0, Nat.zero_le _, rfl, Lib.hid (fun j _ hj => absurd hj (Nat.not_lt_zero _)), HB1⟩
     case round =>
      obtain ⟨k, hk, rfl, HK, HBk⟩ := hrel
      rename World => wr
      have hU1 := HU.out.below HBk.out; have hX1 := HX.out.below HBk.out; have hR1 := (HBk.out.block _ (lt_of_row HRB.out)).trans HRB.out
      have b0 := hU1.c0; have b1 := hU1.c1; have b2 := hU1.c2; have b3 := hU1.c3; have b4 := hU1.c4; have b5 := hU1.c5
      have c0 := hX1.c0; have c1 := hX1.c1; have c2 := hX1.c2; have c3 := hX1.c3; have c4 := hX1.c4; have c5 := hX1.c5; have c6 := hX1.c6; have c7 := hX1.c7; have c8 := hX1.c8; have c9 := hX1.c9
      have q0 : wr.cell? ⟨B + 1 + 1, 0, none⟩ = some (.bool a) := by rw [cell_of_row _ _ _ _ _ _ hR1]; rfl
      have q1 : wr.cell? ⟨B + 1 + 1, 1, none⟩ = some (.bool b) := by rw [cell_of_row _ _ _ _ _ _ hR1]; rfl
      have q2 : wr.cell? ⟨B + 1 + 1, 2, none⟩ = some (.bool c) := by rw [cell_of_row _ _ _ _ _ _ hR1]; rfl
      have q3 : wr.cell? ⟨B + 1 + 1, 3, none⟩ = some (.bool d) := by rw [cell_of_row _ _ _ _ _ _ hR1]; rfl
      have q4 : wr.cell? ⟨B + 1 + 1, 4, none⟩ = some (.bool e) := by rw [cell_of_row _ _ _ _ _ _ hR1]; rfl
      have q5 : wr.cell? ⟨B + 1 + 1, 5, none⟩ = some (.bool f) := by rw [cell_of_row _ _ _ _ _ _ hR1]; rfl
      have q6 : wr.cell? ⟨B + 1 + 1, 6, none⟩ = some (.bool g) := by rw [cell_of_row _ _ _ _ _ _ hR1]; rfl
      have q7 : wr.cell? ⟨B + 1 + 1, 7, none⟩ = some (.bool h) := by rw [cell_of_row _ _ _ _ _ _ hR1]; rfl
      have q8 : wr.cell? ⟨B + 1 + 1, 8, none⟩ = some (.int .i64 l1) := by rw [cell_of_row _ _ _ _ _ _ hR1]; rfl
      have q9 : wr.cell? ⟨B + 1 + 1, 9, none⟩ = some (.int .i64 l2) := by rw [cell_of_row _ _ _ _ _ _ hR1]; rfl
      have hlu := hU1.lt; have hlx := hX1.lt; have hlr := lt_of_row hR1
      clear hU1 hX1 hR1
      by_cases hlt : k < x.src.length
      ·obtain ⟨b9, off, hao, hb9, p0, p1, i0, i1⟩ := (HSR.out.mono (by rw [HBZ.out]; exact HFIN.out _ HBk.out) fun _ _ hh => hh).arg hlt
       subst hao
       have HE : Hid (opdB u.lits.length x.src[k] = false → fb = false) := Lib.hid (fun hf => by
        have : x.src.all (opdB u.lits.length) = false := by
         rw [List.all_eq_false]; exact ⟨x.src[k], List.getElem_mem hlt, by rw [hf]; decide⟩
        rw [HF2.out, this]; rfl)
       have HN : Hid (opdB u.lits.length x.src[k] = true → ∀ j (hj : j < x.src.length), j < k + 1 → opdB u.lits.length x.src[j] = true) := Lib.hid (fun hne j hj hjk => by
        rcases Nat.eq_or_lt_of_le (Nat.le_of_lt_succ hjk) with e9 | e9
        ·subst e9; exact hne
        ·exact HK.out j hj e9)
       generalize x.src[k] = ar at *
       have hop := fun wx => roperand_any u lo fo go co lc fc gc cc ar wx hl ⟨i0, i1⟩
       have hdr : Below wr.heap.size wr wr.drew := (Below.refl _ _).drew
       cases hq : opdB u.lits.length ar with
       | false =>
        have E := Lib.hid (HE.out hq)
        rw [hq] at hop
        have HOP := Lib.hid hop
        clear hq hop HE HN
        go_wp2_with fail
        have HS0 := Lib.hid (show (fun w' => w'.cell? ⟨B, 0, none⟩ = some (.string u.mdl) ∧ w'.cell? ⟨B, 1, none⟩ = some (.int .i64 u.vsn) ∧ w'.cell? ⟨B, 2, none⟩ = some (.slice lo u.lits.length lc) ∧ w'.cell? ⟨B, 3, none⟩ = some (.slice fo u.funcs.length fc) ∧ w'.cell? ⟨B, 4, none⟩ = some (.slice go u.funs.length gc) ∧ w'.cell? ⟨B, 5, none⟩ = some (.slice co u.code.length cc) ∧ w'.cell? ⟨B + 1, 3, none⟩ = some (.slice (some ⟨b9, off, none⟩) x.src.length sc) ∧ w'.cell? ⟨b9, off + k * 2, none⟩ = some (.int .i64 ar.kind) ∧ w'.cell? ⟨b9, off + k * 2 + 1, none⟩ = some (.int .i64 ar.n)) wr.drew from ⟨(hdr.cell (p := ⟨B, 0, none⟩) hlu).trans b0, (hdr.cell (p := ⟨B, 1, none⟩) hlu).trans b1, (hdr.cell (p := ⟨B, 2, none⟩) hlu).trans b2, (hdr.cell (p := ⟨B, 3, none⟩) hlu).trans b3, (hdr.cell (p := ⟨B, 4, none⟩) hlu).trans b4, (hdr.cell (p := ⟨B, 5, none⟩) hlu).trans b5, (hdr.cell (p := ⟨B + 1, 3, none⟩) hlx).trans c3, (hdr.cell (p := ⟨b9, off + k * 2, none⟩) hb9).trans p0, (hdr.cell (p := ⟨b9, off + k * 2 + 1, none⟩) hb9).trans p1⟩)
        first | go_region_held3 (fun w' => w'.cell? ⟨B, 0, none⟩ = some (.string u.mdl) ∧ w'.cell? ⟨B, 1, none⟩ = some (.int .i64 u.vsn) ∧ w'.cell? ⟨B, 2, none⟩ = some (.slice lo u.lits.length lc) ∧ w'.cell? ⟨B, 3, none⟩ = some (.slice fo u.funcs.length fc) ∧ w'.cell? ⟨B, 4, none⟩ = some (.slice go u.funs.length gc) ∧ w'.cell? ⟨B, 5, none⟩ = some (.slice co u.code.length cc) ∧ w'.cell? ⟨B + 1, 3, none⟩ = some (.slice (some ⟨b9, off, none⟩) x.src.length sc) ∧ w'.cell? ⟨b9, off + k * 2, none⟩ = some (.int .i64 ar.kind) ∧ w'.cell? ⟨b9, off + k * 2 + 1, none⟩ = some (.int .i64 ar.n)) (first | with_reducible exact HS0.out | with_reducible exact HS5.out) ((go_at_call 90; refine (HOP.out _).mono ?_; rintro e9 w5 ⟨rfl, hb5⟩; have HS5 := Lib.hid (show (fun w' => w'.cell? ⟨B, 0, none⟩ = some (.string u.mdl) ∧ w'.cell? ⟨B, 1, none⟩ = some (.int .i64 u.vsn) ∧ w'.cell? ⟨B, 2, none⟩ = some (.slice lo u.lits.length lc) ∧ w'.cell? ⟨B, 3, none⟩ = some (.slice fo u.funcs.length fc) ∧ w'.cell? ⟨B, 4, none⟩ = some (.slice go u.funs.length gc) ∧ w'.cell? ⟨B, 5, none⟩ = some (.slice co u.code.length cc) ∧ w'.cell? ⟨B + 1, 3, none⟩ = some (.slice (some ⟨b9, off, none⟩) x.src.length sc) ∧ w'.cell? ⟨b9, off + k * 2, none⟩ = some (.int .i64 ar.kind) ∧ w'.cell? ⟨b9, off + k * 2 + 1, none⟩ = some (.int .i64 ar.n)) w5 from ⟨((below_next hdr hb5).cell (p := ⟨B, 0, none⟩) hlu).trans b0, ((below_next hdr hb5).cell (p := ⟨B, 1, none⟩) hlu).trans b1, ((below_next hdr hb5).cell (p := ⟨B, 2, none⟩) hlu).trans b2, ((below_next hdr hb5).cell (p := ⟨B, 3, none⟩) hlu).trans b3, ((below_next hdr hb5).cell (p := ⟨B, 4, none⟩) hlu).trans b4, ((below_next hdr hb5).cell (p := ⟨B, 5, none⟩) hlu).trans b5, ((below_next hdr hb5).cell (p := ⟨B + 1, 3, none⟩) hlx).trans c3, ((below_next hdr hb5).cell (p := ⟨b9, off + k * 2, none⟩) hb9).trans p0, ((below_next hdr hb5).cell (p := ⟨b9, off + k * 2 + 1, none⟩) hb9).trans p1⟩))) | fail
        go_wp2_with fail
        go_ret
        exact ⟨retb E.out.symm, by rw [HBZ.out]; exact HFIN.out _ (below_next HBk.out (below_next hdr hb5))⟩
       | true =>
        have HN2 := Lib.hid (HN.out hq)
        rw [hq] at hop
        have HOP := Lib.hid hop
        clear hq hop HE HN
        go_wp2_with fail
        have HS0 := Lib.hid (show (fun w' => w'.cell? ⟨B, 0, none⟩ = some (.string u.mdl) ∧ w'.cell? ⟨B, 1, none⟩ = some (.int .i64 u.vsn) ∧ w'.cell? ⟨B, 2, none⟩ = some (.slice lo u.lits.length lc) ∧ w'.cell? ⟨B, 3, none⟩ = some (.slice fo u.funcs.length fc) ∧ w'.cell? ⟨B, 4, none⟩ = some (.slice go u.funs.length gc) ∧ w'.cell? ⟨B, 5, none⟩ = some (.slice co u.code.length cc) ∧ w'.cell? ⟨B + 1, 3, none⟩ = some (.slice (some ⟨b9, off, none⟩) x.src.length sc) ∧ w'.cell? ⟨b9, off + k * 2, none⟩ = some (.int .i64 ar.kind) ∧ w'.cell? ⟨b9, off + k * 2 + 1, none⟩ = some (.int .i64 ar.n)) wr.drew from ⟨(hdr.cell (p := ⟨B, 0, none⟩) hlu).trans b0, (hdr.cell (p := ⟨B, 1, none⟩) hlu).trans b1, (hdr.cell (p := ⟨B, 2, none⟩) hlu).trans b2, (hdr.cell (p := ⟨B, 3, none⟩) hlu).trans b3, (hdr.cell (p := ⟨B, 4, none⟩) hlu).trans b4, (hdr.cell (p := ⟨B, 5, none⟩) hlu).trans b5, (hdr.cell (p := ⟨B + 1, 3, none⟩) hlx).trans c3, (hdr.cell (p := ⟨b9, off + k * 2, none⟩) hb9).trans p0, (hdr.cell (p := ⟨b9, off + k * 2 + 1, none⟩) hb9).trans p1⟩)
        first | go_region_held3 (fun w' => w'.cell? ⟨B, 0, none⟩ = some (.string u.mdl) ∧ w'.cell? ⟨B, 1, none⟩ = some (.int .i64 u.vsn) ∧ w'.cell? ⟨B, 2, none⟩ = some (.slice lo u.lits.length lc) ∧ w'.cell? ⟨B, 3, none⟩ = some (.slice fo u.funcs.length fc) ∧ w'.cell? ⟨B, 4, none⟩ = some (.slice go u.funs.length gc) ∧ w'.cell? ⟨B, 5, none⟩ = some (.slice co u.code.length cc) ∧ w'.cell? ⟨B + 1, 3, none⟩ = some (.slice (some ⟨b9, off, none⟩) x.src.length sc) ∧ w'.cell? ⟨b9, off + k * 2, none⟩ = some (.int .i64 ar.kind) ∧ w'.cell? ⟨b9, off + k * 2 + 1, none⟩ = some (.int .i64 ar.n)) (first | with_reducible exact HS0.out | with_reducible exact HS5.out) ((go_at_call 90; refine (HOP.out _).mono ?_; rintro e9 w5 ⟨rfl, hb5⟩; have HS5 := Lib.hid (show (fun w' => w'.cell? ⟨B, 0, none⟩ = some (.string u.mdl) ∧ w'.cell? ⟨B, 1, none⟩ = some (.int .i64 u.vsn) ∧ w'.cell? ⟨B, 2, none⟩ = some (.slice lo u.lits.length lc) ∧ w'.cell? ⟨B, 3, none⟩ = some (.slice fo u.funcs.length fc) ∧ w'.cell? ⟨B, 4, none⟩ = some (.slice go u.funs.length gc) ∧ w'.cell? ⟨B, 5, none⟩ = some (.slice co u.code.length cc) ∧ w'.cell? ⟨B + 1, 3, none⟩ = some (.slice (some ⟨b9, off, none⟩) x.src.length sc) ∧ w'.cell? ⟨b9, off + k * 2, none⟩ = some (.int .i64 ar.kind) ∧ w'.cell? ⟨b9, off + k * 2 + 1, none⟩ = some (.int .i64 ar.n)) w5 from ⟨((below_next hdr hb5).cell (p := ⟨B, 0, none⟩) hlu).trans b0, ((below_next hdr hb5).cell (p := ⟨B, 1, none⟩) hlu).trans b1, ((below_next hdr hb5).cell (p := ⟨B, 2, none⟩) hlu).trans b2, ((below_next hdr hb5).cell (p := ⟨B, 3, none⟩) hlu).trans b3, ((below_next hdr hb5).cell (p := ⟨B, 4, none⟩) hlu).trans b4, ((below_next hdr hb5).cell (p := ⟨B, 5, none⟩) hlu).trans b5, ((below_next hdr hb5).cell (p := ⟨B + 1, 3, none⟩) hlx).trans c3, ((below_next hdr hb5).cell (p := ⟨b9, off + k * 2, none⟩) hb9).trans p0, ((below_next hdr hb5).cell (p := ⟨b9, off + k * 2 + 1, none⟩) hb9).trans p1⟩))) | fail
        go_wp2_with fail
        go_roundw
        case rel => exact ⟨k + 1, by omega, by go_num, HN2, Lib.hid (below_next HBk.out (below_next hdr hb5))⟩
        case measure => simp [intOf]; omega
      ·have HALL : Hid (x.src.all (opdB u.lits.length) = true) := Lib.hid (by
        rw [List.all_eq_true]
        intro ar ha
        obtain ⟨j, hj, rfl⟩ := List.getElem_of_mem ha
        exact HK.out j hj (by omega))
       have HF3 : Hid (fb = ((c || x.n == 0) && ((d || x.name.toList.isEmpty) && ((e || (x.cases.length : Int) == 0) && ((f || (x.segs.length : Int) == 0) && (g || x.to == 0)))))) := Lib.hid (by rw [HF2.out, HALL.out, HR.out]; rfl)
       clear HALL HF2 HR
       cases c with
       | true =>
        cases d with
        | true =>
         cases e with
         | true =>
          cases f with
          | true =>
           cases g with
           | true =>
            have E : Hid (fb = true) := Lib.hid (by rw [HF3.out]; simp only [Bool.true_or, Bool.false_or, Bool.true_and, Bool.and_true, Bool.or_true, Bool.or_false])
            go_wp2_with fail
            go_ret
            exact ⟨retb E.out.symm, by rw [HBZ.out]; exact HFIN.out _ HBk.out⟩
           | false =>
            cases z4 : (x.to == 0) with
            | false =>
             have E : Hid (fb = false) := Lib.hid (by rw [HF3.out, z4]; simp only [Bool.true_or, Bool.false_or, Bool.true_and, Bool.and_true, Bool.false_and, Bool.and_false, Bool.or_self, Bool.or_false, Bool.or_true])
             go_wp2_with fail
             go_ret
             exact ⟨retb E.out.symm, by rw [HBZ.out]; exact HFIN.out _ HBk.out⟩
            | true =>
             have E : Hid (fb = true) := Lib.hid (by rw [HF3.out, z4]; simp only [Bool.true_or, Bool.false_or, Bool.true_and, Bool.and_true, Bool.or_true, Bool.or_false])
             go_wp2_with fail
             go_ret
             exact ⟨retb E.out.symm, by rw [HBZ.out]; exact HFIN.out _ HBk.out⟩
          | false =>
           cases z3 : ((x.segs.length : Int) == 0) with
           | false =>
            have E : Hid (fb = false) := Lib.hid (by rw [HF3.out, z3]; simp only [Bool.true_or, Bool.false_or, Bool.true_and, Bool.and_true, Bool.false_and, Bool.and_false, Bool.or_self, Bool.or_false, Bool.or_true])
            go_wp2_with fail
            go_ret
            exact ⟨retb E.out.symm, by rw [HBZ.out]; exact HFIN.out _ HBk.out⟩
           | true =>
            cases g with
            | true =>
             have E : Hid (fb = true) := Lib.hid (by rw [HF3.out, z3]; simp only [Bool.true_or, Bool.false_or, Bool.true_and, Bool.and_true, Bool.or_true, Bool.or_false])
             go_wp2_with fail
             go_ret
             exact ⟨retb E.out.symm, by rw [HBZ.out]; exact HFIN.out _ HBk.out⟩
            | false =>
             cases z4 : (x.to == 0) with
             | false =>
              have E : Hid (fb = false) := Lib.hid (by rw [HF3.out, z3, z4]; simp only [Bool.true_or, Bool.false_or, Bool.true_and, Bool.and_true, Bool.false_and, Bool.and_false, Bool.or_self, Bool.or_false, Bool.or_true])
              go_wp2_with fail
              go_ret
              exact ⟨retb E.out.symm, by rw [HBZ.out]; exact HFIN.out _ HBk.out⟩
             | true =>
              have E : Hid (fb = true) := Lib.hid (by rw [HF3.out, z3, z4]; simp only [Bool.true_or, Bool.false_or, Bool.true_and, Bool.and_true, Bool.or_true, Bool.or_false])
              go_wp2_with fail
              go_ret
              exact ⟨retb E.out.symm, by rw [HBZ.out]; exact HFIN.out _ HBk.out⟩
         | false =>
          cases z2 : ((x.cases.length : Int) == 0) with
          | false =>
           have E : Hid (fb = false) := Lib.hid (by rw [HF3.out, z2]; simp only [Bool.true_or, Bool.false_or, Bool.true_and, Bool.and_true, Bool.false_and, Bool.and_false, Bool.or_self, Bool.or_false, Bool.or_true])
           go_wp2_with fail
           go_ret
           exact ⟨retb E.out.symm, by rw [HBZ.out]; exact HFIN.out _ HBk.out⟩
          | true =>
           cases f with
           | true =>
            cases g with
            | true =>
             have E : Hid (fb = true) := Lib.hid (by rw [HF3.out, z2]; simp only [Bool.true_or, Bool.false_or, Bool.true_and, Bool.and_true, Bool.or_true, Bool.or_false])
             go_wp2_with fail
             go_ret
             exact ⟨retb E.out.symm, by rw [HBZ.out]; exact HFIN.out _ HBk.out⟩
            | false =>
             cases z4 : (x.to == 0) with
             | false =>
              have E : Hid (fb = false) := Lib.hid (by rw [HF3.out, z2, z4]; simp only [Bool.true_or, Bool.false_or, Bool.true_and, Bool.and_true, Bool.false_and, Bool.and_false, Bool.or_self, Bool.or_false, Bool.or_true])
              go_wp2_with fail
              go_ret
              exact ⟨retb E.out.symm, by rw [HBZ.out]; exact HFIN.out _ HBk.out⟩
             | true =>
              have E : Hid (fb = true) := Lib.hid (by rw [HF3.out, z2, z4]; simp only [Bool.true_or, Bool.false_or, Bool.true_and, Bool.and_true, Bool.or_true, Bool.or_false])
              go_wp2_with fail
              go_ret
              exact ⟨retb E.out.symm, by rw [HBZ.out]; exact HFIN.out _ HBk.out⟩
           | false =>
            cases z3 : ((x.segs.length : Int) == 0) with
            | false =>
             have E : Hid (fb = false) := Lib.hid (by rw [HF3.out, z2, z3]; simp only [Bool.true_or, Bool.false_or, Bool.true_and, Bool.and_true, Bool.false_and, Bool.and_false, Bool.or_self, Bool.or_false, Bool.or_true])
             go_wp2_with fail
             go_ret
             exact ⟨retb E.out.symm, by rw [HBZ.out]; exact HFIN.out _ HBk.out⟩
            | true =>
             cases g with
             | true =>
              have E : Hid (fb = true) := Lib.hid (by rw [HF3.out, z2, z3]; simp only [Bool.true_or, Bool.false_or, Bool.true_and, Bool.and_true, Bool.or_true, Bool.or_false])
              go_wp2_with fail
              go_ret
              exact ⟨retb E.out.symm, by rw [HBZ.out]; exact HFIN.out _ HBk.out⟩
             | false =>
              cases z4 : (x.to == 0) with
              | false =>
               have E : Hid (fb = false) := Lib.hid (by rw [HF3.out, z2, z3, z4]; simp only [Bool.true_or, Bool.false_or, Bool.true_and, Bool.and_true, Bool.false_and, Bool.and_false, Bool.or_self, Bool.or_false, Bool.or_true])
               go_wp2_with fail
               go_ret
               exact ⟨retb E.out.symm, by rw [HBZ.out]; exact HFIN.out _ HBk.out⟩
              | true =>
               have E : Hid (fb = true) := Lib.hid (by rw [HF3.out, z2, z3, z4]; simp only [Bool.true_or, Bool.false_or, Bool.true_and, Bool.and_true, Bool.or_true, Bool.or_false])
               go_wp2_with fail
               go_ret
               exact ⟨retb E.out.symm, by rw [HBZ.out]; exact HFIN.out _ HBk.out⟩
        | false =>
         cases z1 : x.name.toList.isEmpty with
         | false =>
          have z1' : (x.name.toList == []) = false := by rw [← z1]; cases x.name.toList <;> rfl
          have E : Hid (fb = false) := Lib.hid (by rw [HF3.out, z1]; simp only [Bool.true_or, Bool.false_or, Bool.true_and, Bool.and_true, Bool.false_and, Bool.and_false, Bool.or_self, Bool.or_false, Bool.or_true])
          go_wp2_with fail
          go_ret
          exact ⟨retb E.out.symm, by rw [HBZ.out]; exact HFIN.out _ HBk.out⟩
         | true =>
          have z1' : (x.name.toList == []) = true := by rw [← z1]; cases x.name.toList <;> rfl
          cases e with
          | true =>
           cases f with
           | true =>
            cases g with
            | true =>
             have E : Hid (fb = true) := Lib.hid (by rw [HF3.out, z1]; simp only [Bool.true_or, Bool.false_or, Bool.true_and, Bool.and_true, Bool.or_true, Bool.or_false])
             go_wp2_with fail
             go_ret
             exact ⟨retb E.out.symm, by rw [HBZ.out]; exact HFIN.out _ HBk.out⟩
            | false =>
             cases z4 : (x.to == 0) with
             | false =>
              have E : Hid (fb = false) := Lib.hid (by rw [HF3.out, z1, z4]; simp only [Bool.true_or, Bool.false_or, Bool.true_and, Bool.and_true, Bool.false_and, Bool.and_false, Bool.or_self, Bool.or_false, Bool.or_true])
              go_wp2_with fail
              go_ret
              exact ⟨retb E.out.symm, by rw [HBZ.out]; exact HFIN.out _ HBk.out⟩
             | true =>
              have E : Hid (fb = true) := Lib.hid (by rw [HF3.out, z1, z4]; simp only [Bool.true_or, Bool.false_or, Bool.true_and, Bool.and_true, Bool.or_true, Bool.or_false])
              go_wp2_with fail
              go_ret
              exact ⟨retb E.out.symm, by rw [HBZ.out]; exact HFIN.out _ HBk.out⟩
           | false =>
            cases z3 : ((x.segs.length : Int) == 0) with
            | false =>
             have E : Hid (fb = false) := Lib.hid (by rw [HF3.out, z1, z3]; simp only [Bool.true_or, Bool.false_or, Bool.true_and, Bool.and_true, Bool.false_and, Bool.and_false, Bool.or_self, Bool.or_false, Bool.or_true])
             go_wp2_with fail
             go_ret
             exact ⟨retb E.out.symm, by rw [HBZ.out]; exact HFIN.out _ HBk.out⟩
            | true =>
             cases g with
             | true =>
              have E : Hid (fb = true) := Lib.hid (by rw [HF3.out, z1, z3]; simp only [Bool.true_or, Bool.false_or, Bool.true_and, Bool.and_true, Bool.or_true, Bool.or_false])
              go_wp2_with fail
              go_ret
              exact ⟨retb E.out.symm, by rw [HBZ.out]; exact HFIN.out _ HBk.out⟩
             | false =>
              cases z4 : (x.to == 0) with
              | false =>
               have E : Hid (fb = false) := Lib.hid (by rw [HF3.out, z1, z3, z4]; simp only [Bool.true_or, Bool.false_or, Bool.true_and, Bool.and_true, Bool.false_and, Bool.and_false, Bool.or_self, Bool.or_false, Bool.or_true])
               go_wp2_with fail
               go_ret
               exact ⟨retb E.out.symm, by rw [HBZ.out]; exact HFIN.out _ HBk.out⟩
              | true =>
               have E : Hid (fb = true) := Lib.hid (by rw [HF3.out, z1, z3, z4]; simp only [Bool.true_or, Bool.false_or, Bool.true_and, Bool.and_true, Bool.or_true, Bool.or_false])
               go_wp2_with fail
               go_ret
               exact ⟨retb E.out.symm, by rw [HBZ.out]; exact HFIN.out _ HBk.out⟩
          | false =>
           cases z2 : ((x.cases.length : Int) == 0) with
           | false =>
            have E : Hid (fb = false) := Lib.hid (by rw [HF3.out, z1, z2]; simp only [Bool.true_or, Bool.false_or, Bool.true_and, Bool.and_true, Bool.false_and, Bool.and_false, Bool.or_self, Bool.or_false, Bool.or_true])
            go_wp2_with fail
            go_ret
            exact ⟨retb E.out.symm, by rw [HBZ.out]; exact HFIN.out _ HBk.out⟩
           | true =>
            cases f with
            | true =>
             cases g with
             | true =>
              have E : Hid (fb = true) := Lib.hid (by rw [HF3.out, z1, z2]; simp only [Bool.true_or, Bool.false_or, Bool.true_and, Bool.and_true, Bool.or_true, Bool.or_false])
              go_wp2_with fail
              go_ret
              exact ⟨retb E.out.symm, by rw [HBZ.out]; exact HFIN.out _ HBk.out⟩
             | false =>
              cases z4 : (x.to == 0) with
              | false =>
               have E : Hid (fb = false) := Lib.hid (by rw [HF3.out, z1, z2, z4]; simp only [Bool.true_or, Bool.false_or, Bool.true_and, Bool.and_true, Bool.false_and, Bool.and_false, Bool.or_self, Bool.or_false, Bool.or_true])
               go_wp2_with fail
               go_ret
               exact ⟨retb E.out.symm, by rw [HBZ.out]; exact HFIN.out _ HBk.out⟩
              | true =>
               have E : Hid (fb = true) := Lib.hid (by rw [HF3.out, z1, z2, z4]; simp only [Bool.true_or, Bool.false_or, Bool.true_and, Bool.and_true, Bool.or_true, Bool.or_false])
               go_wp2_with fail
               go_ret
               exact ⟨retb E.out.symm, by rw [HBZ.out]; exact HFIN.out _ HBk.out⟩
            | false =>
             cases z3 : ((x.segs.length : Int) == 0) with
             | false =>
              have E : Hid (fb = false) := Lib.hid (by rw [HF3.out, z1, z2, z3]; simp only [Bool.true_or, Bool.false_or, Bool.true_and, Bool.and_true, Bool.false_and, Bool.and_false, Bool.or_self, Bool.or_false, Bool.or_true])
              go_wp2_with fail
              go_ret
              exact ⟨retb E.out.symm, by rw [HBZ.out]; exact HFIN.out _ HBk.out⟩
             | true =>
              cases g with
              | true =>
               have E : Hid (fb = true) := Lib.hid (by rw [HF3.out, z1, z2, z3]; simp only [Bool.true_or, Bool.false_or, Bool.true_and, Bool.and_true, Bool.or_true, Bool.or_false])
               go_wp2_with fail
               go_ret
               exact ⟨retb E.out.symm, by rw [HBZ.out]; exact HFIN.out _ HBk.out⟩
              | false =>
               cases z4 : (x.to == 0) with
               | false =>
                have E : Hid (fb = false) := Lib.hid (by rw [HF3.out, z1, z2, z3, z4]; simp only [Bool.true_or, Bool.false_or, Bool.true_and, Bool.and_true, Bool.false_and, Bool.and_false, Bool.or_self, Bool.or_false, Bool.or_true])
                go_wp2_with fail
                go_ret
                exact ⟨retb E.out.symm, by rw [HBZ.out]; exact HFIN.out _ HBk.out⟩
               | true =>
                have E : Hid (fb = true) := Lib.hid (by rw [HF3.out, z1, z2, z3, z4]; simp only [Bool.true_or, Bool.false_or, Bool.true_and, Bool.and_true, Bool.or_true, Bool.or_false])
                go_wp2_with fail
                go_ret
                exact ⟨retb E.out.symm, by rw [HBZ.out]; exact HFIN.out _ HBk.out⟩
       | false =>
        cases z0 : (x.n == 0) with
        | false =>
         have E : Hid (fb = false) := Lib.hid (by rw [HF3.out, z0]; simp only [Bool.true_or, Bool.false_or, Bool.true_and, Bool.and_true, Bool.false_and, Bool.and_false, Bool.or_self, Bool.or_false, Bool.or_true])
         go_wp2_with fail
         go_ret
         exact ⟨retb E.out.symm, by rw [HBZ.out]; exact HFIN.out _ HBk.out⟩
        | true =>
         cases d with
         | true =>
          cases e with
          | true =>
           cases f with
           | true =>
            cases g with
            | true =>
             have E : Hid (fb = true) := Lib.hid (by rw [HF3.out, z0]; simp only [Bool.true_or, Bool.false_or, Bool.true_and, Bool.and_true, Bool.or_true, Bool.or_false])
             go_wp2_with fail
             go_ret
             exact ⟨retb E.out.symm, by rw [HBZ.out]; exact HFIN.out _ HBk.out⟩
            | false =>
             cases z4 : (x.to == 0) with
             | false =>
              have E : Hid (fb = false) := Lib.hid (by rw [HF3.out, z0, z4]; simp only [Bool.true_or, Bool.false_or, Bool.true_and, Bool.and_true, Bool.false_and, Bool.and_false, Bool.or_self, Bool.or_false, Bool.or_true])
              go_wp2_with fail
              go_ret
              exact ⟨retb E.out.symm, by rw [HBZ.out]; exact HFIN.out _ HBk.out⟩
             | true =>
              have E : Hid (fb = true) := Lib.hid (by rw [HF3.out, z0, z4]; simp only [Bool.true_or, Bool.false_or, Bool.true_and, Bool.and_true, Bool.or_true, Bool.or_false])
              go_wp2_with fail
              go_ret
              exact ⟨retb E.out.symm, by rw [HBZ.out]; exact HFIN.out _ HBk.out⟩
           | false =>
            cases z3 : ((x.segs.length : Int) == 0) with
            | false =>
             have E : Hid (fb = false) := Lib.hid (by rw [HF3.out, z0, z3]; simp only [Bool.true_or, Bool.false_or, Bool.true_and, Bool.and_true, Bool.false_and, Bool.and_false, Bool.or_self, Bool.or_false, Bool.or_true])
             go_wp2_with fail
             go_ret
             exact ⟨retb E.out.symm, by rw [HBZ.out]; exact HFIN.out _ HBk.out⟩
            | true =>
             cases g with
             | true =>
              have E : Hid (fb = true) := Lib.hid (by rw [HF3.out, z0, z3]; simp only [Bool.true_or, Bool.false_or, Bool.true_and, Bool.and_true, Bool.or_true, Bool.or_false])
              go_wp2_with fail
              go_ret
              exact ⟨retb E.out.symm, by rw [HBZ.out]; exact HFIN.out _ HBk.out⟩
             | false =>
              cases z4 : (x.to == 0) with
              | false =>
               have E : Hid (fb = false) := Lib.hid (by rw [HF3.out, z0, z3, z4]; simp only [Bool.true_or, Bool.false_or, Bool.true_and, Bool.and_true, Bool.false_and, Bool.and_false, Bool.or_self, Bool.or_false, Bool.or_true])
               go_wp2_with fail
               go_ret
               exact ⟨retb E.out.symm, by rw [HBZ.out]; exact HFIN.out _ HBk.out⟩
              | true =>
               have E : Hid (fb = true) := Lib.hid (by rw [HF3.out, z0, z3, z4]; simp only [Bool.true_or, Bool.false_or, Bool.true_and, Bool.and_true, Bool.or_true, Bool.or_false])
               go_wp2_with fail
               go_ret
               exact ⟨retb E.out.symm, by rw [HBZ.out]; exact HFIN.out _ HBk.out⟩
          | false =>
           cases z2 : ((x.cases.length : Int) == 0) with
           | false =>
            have E : Hid (fb = false) := Lib.hid (by rw [HF3.out, z0, z2]; simp only [Bool.true_or, Bool.false_or, Bool.true_and, Bool.and_true, Bool.false_and, Bool.and_false, Bool.or_self, Bool.or_false, Bool.or_true])
            go_wp2_with fail
            go_ret
            exact ⟨retb E.out.symm, by rw [HBZ.out]; exact HFIN.out _ HBk.out⟩
           | true =>
            cases f with
            | true =>
             cases g with
             | true =>
              have E : Hid (fb = true) := Lib.hid (by rw [HF3.out, z0, z2]; simp only [Bool.true_or, Bool.false_or, Bool.true_and, Bool.and_true, Bool.or_true, Bool.or_false])
              go_wp2_with fail
              go_ret
              exact ⟨retb E.out.symm, by rw [HBZ.out]; exact HFIN.out _ HBk.out⟩
             | false =>
              cases z4 : (x.to == 0) with
              | false =>
               have E : Hid (fb = false) := Lib.hid (by rw [HF3.out, z0, z2, z4]; simp only [Bool.true_or, Bool.false_or, Bool.true_and, Bool.and_true, Bool.false_and, Bool.and_false, Bool.or_self, Bool.or_false, Bool.or_true])
               go_wp2_with fail
               go_ret
               exact ⟨retb E.out.symm, by rw [HBZ.out]; exact HFIN.out _ HBk.out⟩
              | true =>
               have E : Hid (fb = true) := Lib.hid (by rw [HF3.out, z0, z2, z4]; simp only [Bool.true_or, Bool.false_or, Bool.true_and, Bool.and_true, Bool.or_true, Bool.or_false])
               go_wp2_with fail
               go_ret
               exact ⟨retb E.out.symm, by rw [HBZ.out]; exact HFIN.out _ HBk.out⟩
            | false =>
             cases z3 : ((x.segs.length : Int) == 0) with
             | false =>
              have E : Hid (fb = false) := Lib.hid (by rw [HF3.out, z0, z2, z3]; simp only [Bool.true_or, Bool.false_or, Bool.true_and, Bool.and_true, Bool.false_and, Bool.and_false, Bool.or_self, Bool.or_false, Bool.or_true])
              go_wp2_with fail
              go_ret
              exact ⟨retb E.out.symm, by rw [HBZ.out]; exact HFIN.out _ HBk.out⟩
             | true =>
              cases g with
              | true =>
               have E : Hid (fb = true) := Lib.hid (by rw [HF3.out, z0, z2, z3]; simp only [Bool.true_or, Bool.false_or, Bool.true_and, Bool.and_true, Bool.or_true, Bool.or_false])
               go_wp2_with fail
               go_ret
               exact ⟨retb E.out.symm, by rw [HBZ.out]; exact HFIN.out _ HBk.out⟩
              | false =>
               cases z4 : (x.to == 0) with
               | false =>
                have E : Hid (fb = false) := Lib.hid (by rw [HF3.out, z0, z2, z3, z4]; simp only [Bool.true_or, Bool.false_or, Bool.true_and, Bool.and_true, Bool.false_and, Bool.and_false, Bool.or_self, Bool.or_false, Bool.or_true])
                go_wp2_with fail
                go_ret
                exact ⟨retb E.out.symm, by rw [HBZ.out]; exact HFIN.out _ HBk.out⟩
               | true =>
                have E : Hid (fb = true) := Lib.hid (by rw [HF3.out, z0, z2, z3, z4]; simp only [Bool.true_or, Bool.false_or, Bool.true_and, Bool.and_true, Bool.or_true, Bool.or_false])
                go_wp2_with fail
                go_ret
                exact ⟨retb E.out.symm, by rw [HBZ.out]; exact HFIN.out _ HBk.out⟩
         | false =>
          cases z1 : x.name.toList.isEmpty with
          | false =>
           have z1' : (x.name.toList == []) = false := by rw [← z1]; cases x.name.toList <;> rfl
           have E : Hid (fb = false) := Lib.hid (by rw [HF3.out, z0, z1]; simp only [Bool.true_or, Bool.false_or, Bool.true_and, Bool.and_true, Bool.false_and, Bool.and_false, Bool.or_self, Bool.or_false, Bool.or_true])
           go_wp2_with fail
           go_ret
           exact ⟨retb E.out.symm, by rw [HBZ.out]; exact HFIN.out _ HBk.out⟩
          | true =>
           have z1' : (x.name.toList == []) = true := by rw [← z1]; cases x.name.toList <;> rfl
           cases e with
           | true =>
            cases f with
            | true =>
             cases g with
             | true =>
              have E : Hid (fb = true) := Lib.hid (by rw [HF3.out, z0, z1]; simp only [Bool.true_or, Bool.false_or, Bool.true_and, Bool.and_true, Bool.or_true, Bool.or_false])
              go_wp2_with fail
              go_ret
              exact ⟨retb E.out.symm, by rw [HBZ.out]; exact HFIN.out _ HBk.out⟩
             | false =>
              cases z4 : (x.to == 0) with
              | false =>
               have E : Hid (fb = false) := Lib.hid (by rw [HF3.out, z0, z1, z4]; simp only [Bool.true_or, Bool.false_or, Bool.true_and, Bool.and_true, Bool.false_and, Bool.and_false, Bool.or_self, Bool.or_false, Bool.or_true])
               go_wp2_with fail
               go_ret
               exact ⟨retb E.out.symm, by rw [HBZ.out]; exact HFIN.out _ HBk.out⟩
              | true =>
               have E : Hid (fb = true) := Lib.hid (by rw [HF3.out, z0, z1, z4]; simp only [Bool.true_or, Bool.false_or, Bool.true_and, Bool.and_true, Bool.or_true, Bool.or_false])
               go_wp2_with fail
               go_ret
               exact ⟨retb E.out.symm, by rw [HBZ.out]; exact HFIN.out _ HBk.out⟩
            | false =>
             cases z3 : ((x.segs.length : Int) == 0) with
             | false =>
              have E : Hid (fb = false) := Lib.hid (by rw [HF3.out, z0, z1, z3]; simp only [Bool.true_or, Bool.false_or, Bool.true_and, Bool.and_true, Bool.false_and, Bool.and_false, Bool.or_self, Bool.or_false, Bool.or_true])
              go_wp2_with fail
              go_ret
              exact ⟨retb E.out.symm, by rw [HBZ.out]; exact HFIN.out _ HBk.out⟩
             | true =>
              cases g with
              | true =>
               have E : Hid (fb = true) := Lib.hid (by rw [HF3.out, z0, z1, z3]; simp only [Bool.true_or, Bool.false_or, Bool.true_and, Bool.and_true, Bool.or_true, Bool.or_false])
               go_wp2_with fail
               go_ret
               exact ⟨retb E.out.symm, by rw [HBZ.out]; exact HFIN.out _ HBk.out⟩
              | false =>
               cases z4 : (x.to == 0) with
               | false =>
                have E : Hid (fb = false) := Lib.hid (by rw [HF3.out, z0, z1, z3, z4]; simp only [Bool.true_or, Bool.false_or, Bool.true_and, Bool.and_true, Bool.false_and, Bool.and_false, Bool.or_self, Bool.or_false, Bool.or_true])
                go_wp2_with fail
                go_ret
                exact ⟨retb E.out.symm, by rw [HBZ.out]; exact HFIN.out _ HBk.out⟩
               | true =>
                have E : Hid (fb = true) := Lib.hid (by rw [HF3.out, z0, z1, z3, z4]; simp only [Bool.true_or, Bool.false_or, Bool.true_and, Bool.and_true, Bool.or_true, Bool.or_false])
                go_wp2_with fail
                go_ret
                exact ⟨retb E.out.symm, by rw [HBZ.out]; exact HFIN.out _ HBk.out⟩
           | false =>
            cases z2 : ((x.cases.length : Int) == 0) with
            | false =>
             have E : Hid (fb = false) := Lib.hid (by rw [HF3.out, z0, z1, z2]; simp only [Bool.true_or, Bool.false_or, Bool.true_and, Bool.and_true, Bool.false_and, Bool.and_false, Bool.or_self, Bool.or_false, Bool.or_true])
             go_wp2_with fail
             go_ret
             exact ⟨retb E.out.symm, by rw [HBZ.out]; exact HFIN.out _ HBk.out⟩
            | true =>
             cases f with
             | true =>
              cases g with
              | true =>
               have E : Hid (fb = true) := Lib.hid (by rw [HF3.out, z0, z1, z2]; simp only [Bool.true_or, Bool.false_or, Bool.true_and, Bool.and_true, Bool.or_true, Bool.or_false])
               go_wp2_with fail
               go_ret
               exact ⟨retb E.out.symm, by rw [HBZ.out]; exact HFIN.out _ HBk.out⟩
              | false =>
               cases z4 : (x.to == 0) with
               | false =>
                have E : Hid (fb = false) := Lib.hid (by rw [HF3.out, z0, z1, z2, z4]; simp only [Bool.true_or, Bool.false_or, Bool.true_and, Bool.and_true, Bool.false_and, Bool.and_false, Bool.or_self, Bool.or_false, Bool.or_true])
                go_wp2_with fail
                go_ret
                exact ⟨retb E.out.symm, by rw [HBZ.out]; exact HFIN.out _ HBk.out⟩
               | true =>
                have E : Hid (fb = true) := Lib.hid (by rw [HF3.out, z0, z1, z2, z4]; simp only [Bool.true_or, Bool.false_or, Bool.true_and, Bool.and_true, Bool.or_true, Bool.or_false])
                go_wp2_with fail
                go_ret
                exact ⟨retb E.out.symm, by rw [HBZ.out]; exact HFIN.out _ HBk.out⟩
             | false =>
              cases z3 : ((x.segs.length : Int) == 0) with
              | false =>
               have E : Hid (fb = false) := Lib.hid (by rw [HF3.out, z0, z1, z2, z3]; simp only [Bool.true_or, Bool.false_or, Bool.true_and, Bool.and_true, Bool.false_and, Bool.and_false, Bool.or_self, Bool.or_false, Bool.or_true])
               go_wp2_with fail
               go_ret
               exact ⟨retb E.out.symm, by rw [HBZ.out]; exact HFIN.out _ HBk.out⟩
              | true =>
               cases g with
               | true =>
                have E : Hid (fb = true) := Lib.hid (by rw [HF3.out, z0, z1, z2, z3]; simp only [Bool.true_or, Bool.false_or, Bool.true_and, Bool.and_true, Bool.or_true, Bool.or_false])
                go_wp2_with fail
                go_ret
                exact ⟨retb E.out.symm, by rw [HBZ.out]; exact HFIN.out _ HBk.out⟩
               | false =>
                cases z4 : (x.to == 0) with
                | false =>
                 have E : Hid (fb = false) := Lib.hid (by rw [HF3.out, z0, z1, z2, z3, z4]; simp only [Bool.true_or, Bool.false_or, Bool.true_and, Bool.and_true, Bool.false_and, Bool.and_false, Bool.or_self, Bool.or_false, Bool.or_true])
                 go_wp2_with fail
                 go_ret
                 exact ⟨retb E.out.symm, by rw [HBZ.out]; exact HFIN.out _ HBk.out⟩
                | true =>
                 have E : Hid (fb = true) := Lib.hid (by rw [HF3.out, z0, z1, z2, z3, z4]; simp only [Bool.true_or, Bool.false_or, Bool.true_and, Bool.and_true, Bool.or_true, Bool.or_false])
                 go_wp2_with fail
                 go_ret
                 exact ⟨retb E.out.symm, by rw [HBZ.out]; exact HFIN.out _ HBk.out⟩
end Go.Proofs.YtghgbikmlbildaaGreatDoor
