/-
  The reference's number: the walk (printed by gen_rnumber.py).
-/
import Derived.Test.YtghgbikmlbildaaGreatDoorPutsAll08
import Derived.Test.YtghgbikmlbildaaGreatDoorPutsAll16
namespace Go.Proofs.YtghgbikmlbildaaGreatDoor
open Go.RowKit
set_option linter.unusedVariables false
set_option linter.unusedSimpArgs false

set_option maxRecDepth 100000 in
set_option maxHeartbeats 4000000 in
theorem rnumber_5 (u : RUnit) (lo fo go co : Option Addr) (lc fc gc cc : Nat) (x : RIns) (so co' go' : Option Addr) (sc cc' gc' : Nat) (w : World) (hl : u.funcs.length ≤ 9223372036854775807) (hl2 : u.funs.length ≤ 9223372036854775807) (hf : SlAt w 3 FunR go u.funs) (r1 : I64 x.n) (r2 : x.src.length ≤ 9223372036854775807) (hop : x.op = 5) :
  Calls Tryz.prog 40 #[.agg #[.string u.mdl, .int .i64 u.vsn, .slice lo u.lits.length lc, .slice fo u.funcs.length fc, .slice go u.funs.length gc, .slice co u.code.length cc], .agg #[.int .i64 x.op, .int .i64 x.dst.kind, .int .i64 x.dst.n, .slice so x.src.length sc, .int .i64 x.to, .int .i64 x.n, .int .i64 x.live, .string x.name, .slice co' x.cases.length cc', .slice go' x.segs.length gc']] w fun e w' => e = .returned (.bool (numberB u.funcs.length u.funs x)) ∧ Below w.heap.size w w' := by
 obtain ⟨r1a, r1b⟩ := r1
 have HF := Lib.hid hf
 have hw1 : IntKind.i64.wrap ((u.funcs.length : Int) - 1) = (u.funcs.length : Int) - 1 := by rw [IntKind.wrap_i64]; omega
 have hw2 : IntKind.i64.wrap ((u.funs.length : Int) - 1) = (u.funs.length : Int) - 1 := by rw [IntKind.wrap_i64]; omega
 clear hf
 have E : Hid (numberB u.funcs.length u.funs x = wi x.n 0 254) := Lib.hid (by unfold numberB; rw [hop]; rfl)
 have HOP := Lib.hid hop
 clear hop
 go_enter Tryz.func40, Tryz.ntmps40
 go_upto_region 1 with fail
 obtain ⟨hU, hX, hBW⟩ := two_boxes w u lo fo go co lc fc gc cc x so co' go' sc cc' gc'
 generalize hWW : (w.alloc (.cells #[.string u.mdl, .int .i64 u.vsn, .slice lo u.lits.length lc, .slice fo u.funcs.length fc, .slice go u.funs.length gc, .slice co u.code.length cc] 27)).alloc (.cells #[.int .i64 x.op, .int .i64 x.dst.kind, .int .i64 x.dst.n, .slice so x.src.length sc, .int .i64 x.to, .int .i64 x.n, .int .i64 x.live, .string x.name, .slice co' x.cases.length cc', .slice go' x.segs.length gc'] 50) = W at *
 have c0 := hX.c0; have c3 := hX.c3; have c5 := hX.c5
 have b3 := hU.c3; have b4 := hU.c4
 have hlu := hU.lt; have hlx := hX.lt
 have HBW := Lib.hid hBW
 clear hU hX hBW hWW
 rw [HOP.out] at c0
 go_wp2_with (go_at_call 85; refine (rwithin_any _ _ _ _).mono ?_; rintro e w1 ⟨rfl, rfl⟩)
 go_ret
 exact ⟨retb E.out.symm, HBW.out⟩
set_option maxRecDepth 100000 in
set_option maxHeartbeats 4000000 in
theorem rnumber_9 (u : RUnit) (lo fo go co : Option Addr) (lc fc gc cc : Nat) (x : RIns) (so co' go' : Option Addr) (sc cc' gc' : Nat) (w : World) (hl : u.funcs.length ≤ 9223372036854775807) (hl2 : u.funs.length ≤ 9223372036854775807) (hf : SlAt w 3 FunR go u.funs) (r1 : I64 x.n) (r2 : x.src.length ≤ 9223372036854775807) (hop : x.op = 9) :
  Calls Tryz.prog 40 #[.agg #[.string u.mdl, .int .i64 u.vsn, .slice lo u.lits.length lc, .slice fo u.funcs.length fc, .slice go u.funs.length gc, .slice co u.code.length cc], .agg #[.int .i64 x.op, .int .i64 x.dst.kind, .int .i64 x.dst.n, .slice so x.src.length sc, .int .i64 x.to, .int .i64 x.n, .int .i64 x.live, .string x.name, .slice co' x.cases.length cc', .slice go' x.segs.length gc']] w fun e w' => e = .returned (.bool (numberB u.funcs.length u.funs x)) ∧ Below w.heap.size w w' := by
 obtain ⟨r1a, r1b⟩ := r1
 have HF := Lib.hid hf
 have hw1 : IntKind.i64.wrap ((u.funcs.length : Int) - 1) = (u.funcs.length : Int) - 1 := by rw [IntKind.wrap_i64]; omega
 have hw2 : IntKind.i64.wrap ((u.funs.length : Int) - 1) = (u.funs.length : Int) - 1 := by rw [IntKind.wrap_i64]; omega
 clear hf
 have E : Hid (numberB u.funcs.length u.funs x = wi x.n 0 255) := Lib.hid (by unfold numberB; rw [hop]; rfl)
 have HOP := Lib.hid hop
 clear hop
 go_enter Tryz.func40, Tryz.ntmps40
 go_upto_region 1 with fail
 obtain ⟨hU, hX, hBW⟩ := two_boxes w u lo fo go co lc fc gc cc x so co' go' sc cc' gc'
 generalize hWW : (w.alloc (.cells #[.string u.mdl, .int .i64 u.vsn, .slice lo u.lits.length lc, .slice fo u.funcs.length fc, .slice go u.funs.length gc, .slice co u.code.length cc] 27)).alloc (.cells #[.int .i64 x.op, .int .i64 x.dst.kind, .int .i64 x.dst.n, .slice so x.src.length sc, .int .i64 x.to, .int .i64 x.n, .int .i64 x.live, .string x.name, .slice co' x.cases.length cc', .slice go' x.segs.length gc'] 50) = W at *
 have c0 := hX.c0; have c3 := hX.c3; have c5 := hX.c5
 have b3 := hU.c3; have b4 := hU.c4
 have hlu := hU.lt; have hlx := hX.lt
 have HBW := Lib.hid hBW
 clear hU hX hBW hWW
 rw [HOP.out] at c0
 go_wp2_with (go_at_call 85; refine (rwithin_any _ _ _ _).mono ?_; rintro e w1 ⟨rfl, rfl⟩)
 go_ret
 exact ⟨retb E.out.symm, HBW.out⟩
set_option maxRecDepth 100000 in
set_option maxHeartbeats 4000000 in
theorem rnumber_15 (u : RUnit) (lo fo go co : Option Addr) (lc fc gc cc : Nat) (x : RIns) (so co' go' : Option Addr) (sc cc' gc' : Nat) (w : World) (hl : u.funcs.length ≤ 9223372036854775807) (hl2 : u.funs.length ≤ 9223372036854775807) (hf : SlAt w 3 FunR go u.funs) (r1 : I64 x.n) (r2 : x.src.length ≤ 9223372036854775807) (hop : x.op = 15) :
  Calls Tryz.prog 40 #[.agg #[.string u.mdl, .int .i64 u.vsn, .slice lo u.lits.length lc, .slice fo u.funcs.length fc, .slice go u.funs.length gc, .slice co u.code.length cc], .agg #[.int .i64 x.op, .int .i64 x.dst.kind, .int .i64 x.dst.n, .slice so x.src.length sc, .int .i64 x.to, .int .i64 x.n, .int .i64 x.live, .string x.name, .slice co' x.cases.length cc', .slice go' x.segs.length gc']] w fun e w' => e = .returned (.bool (numberB u.funcs.length u.funs x)) ∧ Below w.heap.size w w' := by
 obtain ⟨r1a, r1b⟩ := r1
 have HF := Lib.hid hf
 have hw1 : IntKind.i64.wrap ((u.funcs.length : Int) - 1) = (u.funcs.length : Int) - 1 := by rw [IntKind.wrap_i64]; omega
 have hw2 : IntKind.i64.wrap ((u.funs.length : Int) - 1) = (u.funs.length : Int) - 1 := by rw [IntKind.wrap_i64]; omega
 clear hf
 have E : Hid (numberB u.funcs.length u.funs x = wi x.n 0 16) := Lib.hid (by unfold numberB; rw [hop]; rfl)
 have HOP := Lib.hid hop
 clear hop
 go_enter Tryz.func40, Tryz.ntmps40
 go_upto_region 1 with fail
 obtain ⟨hU, hX, hBW⟩ := two_boxes w u lo fo go co lc fc gc cc x so co' go' sc cc' gc'
 generalize hWW : (w.alloc (.cells #[.string u.mdl, .int .i64 u.vsn, .slice lo u.lits.length lc, .slice fo u.funcs.length fc, .slice go u.funs.length gc, .slice co u.code.length cc] 27)).alloc (.cells #[.int .i64 x.op, .int .i64 x.dst.kind, .int .i64 x.dst.n, .slice so x.src.length sc, .int .i64 x.to, .int .i64 x.n, .int .i64 x.live, .string x.name, .slice co' x.cases.length cc', .slice go' x.segs.length gc'] 50) = W at *
 have c0 := hX.c0; have c3 := hX.c3; have c5 := hX.c5
 have b3 := hU.c3; have b4 := hU.c4
 have hlu := hU.lt; have hlx := hX.lt
 have HBW := Lib.hid hBW
 clear hU hX hBW hWW
 rw [HOP.out] at c0
 go_wp2_with (go_at_call 85; refine (rwithin_any _ _ _ _).mono ?_; rintro e w1 ⟨rfl, rfl⟩)
 go_ret
 exact ⟨retb E.out.symm, HBW.out⟩
set_option maxRecDepth 100000 in
set_option maxHeartbeats 4000000 in
theorem rnumber_18 (u : RUnit) (lo fo go co : Option Addr) (lc fc gc cc : Nat) (x : RIns) (so co' go' : Option Addr) (sc cc' gc' : Nat) (w : World) (hl : u.funcs.length ≤ 9223372036854775807) (hl2 : u.funs.length ≤ 9223372036854775807) (hf : SlAt w 3 FunR go u.funs) (r1 : I64 x.n) (r2 : x.src.length ≤ 9223372036854775807) (hop : x.op = 18) :
  Calls Tryz.prog 40 #[.agg #[.string u.mdl, .int .i64 u.vsn, .slice lo u.lits.length lc, .slice fo u.funcs.length fc, .slice go u.funs.length gc, .slice co u.code.length cc], .agg #[.int .i64 x.op, .int .i64 x.dst.kind, .int .i64 x.dst.n, .slice so x.src.length sc, .int .i64 x.to, .int .i64 x.n, .int .i64 x.live, .string x.name, .slice co' x.cases.length cc', .slice go' x.segs.length gc']] w fun e w' => e = .returned (.bool (numberB u.funcs.length u.funs x)) ∧ Below w.heap.size w w' := by
 obtain ⟨r1a, r1b⟩ := r1
 have HF := Lib.hid hf
 have hw1 : IntKind.i64.wrap ((u.funcs.length : Int) - 1) = (u.funcs.length : Int) - 1 := by rw [IntKind.wrap_i64]; omega
 have hw2 : IntKind.i64.wrap ((u.funs.length : Int) - 1) = (u.funs.length : Int) - 1 := by rw [IntKind.wrap_i64]; omega
 clear hf
 have E : Hid (numberB u.funcs.length u.funs x = wi x.n 0 16) := Lib.hid (by unfold numberB; rw [hop]; rfl)
 have HOP := Lib.hid hop
 clear hop
 go_enter Tryz.func40, Tryz.ntmps40
 go_upto_region 1 with fail
 obtain ⟨hU, hX, hBW⟩ := two_boxes w u lo fo go co lc fc gc cc x so co' go' sc cc' gc'
 generalize hWW : (w.alloc (.cells #[.string u.mdl, .int .i64 u.vsn, .slice lo u.lits.length lc, .slice fo u.funcs.length fc, .slice go u.funs.length gc, .slice co u.code.length cc] 27)).alloc (.cells #[.int .i64 x.op, .int .i64 x.dst.kind, .int .i64 x.dst.n, .slice so x.src.length sc, .int .i64 x.to, .int .i64 x.n, .int .i64 x.live, .string x.name, .slice co' x.cases.length cc', .slice go' x.segs.length gc'] 50) = W at *
 have c0 := hX.c0; have c3 := hX.c3; have c5 := hX.c5
 have b3 := hU.c3; have b4 := hU.c4
 have hlu := hU.lt; have hlx := hX.lt
 have HBW := Lib.hid hBW
 clear hU hX hBW hWW
 rw [HOP.out] at c0
 go_wp2_with (go_at_call 85; refine (rwithin_any _ _ _ _).mono ?_; rintro e w1 ⟨rfl, rfl⟩)
 go_ret
 exact ⟨retb E.out.symm, HBW.out⟩
set_option maxRecDepth 100000 in
set_option maxHeartbeats 4000000 in
theorem rnumber_19 (u : RUnit) (lo fo go co : Option Addr) (lc fc gc cc : Nat) (x : RIns) (so co' go' : Option Addr) (sc cc' gc' : Nat) (w : World) (hl : u.funcs.length ≤ 9223372036854775807) (hl2 : u.funs.length ≤ 9223372036854775807) (hf : SlAt w 3 FunR go u.funs) (r1 : I64 x.n) (r2 : x.src.length ≤ 9223372036854775807) (hop : x.op = 19) :
  Calls Tryz.prog 40 #[.agg #[.string u.mdl, .int .i64 u.vsn, .slice lo u.lits.length lc, .slice fo u.funcs.length fc, .slice go u.funs.length gc, .slice co u.code.length cc], .agg #[.int .i64 x.op, .int .i64 x.dst.kind, .int .i64 x.dst.n, .slice so x.src.length sc, .int .i64 x.to, .int .i64 x.n, .int .i64 x.live, .string x.name, .slice co' x.cases.length cc', .slice go' x.segs.length gc']] w fun e w' => e = .returned (.bool (numberB u.funcs.length u.funs x)) ∧ Below w.heap.size w w' := by
 obtain ⟨r1a, r1b⟩ := r1
 have HF := Lib.hid hf
 have hw1 : IntKind.i64.wrap ((u.funcs.length : Int) - 1) = (u.funcs.length : Int) - 1 := by rw [IntKind.wrap_i64]; omega
 have hw2 : IntKind.i64.wrap ((u.funs.length : Int) - 1) = (u.funs.length : Int) - 1 := by rw [IntKind.wrap_i64]; omega
 clear hf
 have E : Hid (numberB u.funcs.length u.funs x = wi x.n 0 16) := Lib.hid (by unfold numberB; rw [hop]; rfl)
 have HOP := Lib.hid hop
 clear hop
 go_enter Tryz.func40, Tryz.ntmps40
 go_upto_region 1 with fail
 obtain ⟨hU, hX, hBW⟩ := two_boxes w u lo fo go co lc fc gc cc x so co' go' sc cc' gc'
 generalize hWW : (w.alloc (.cells #[.string u.mdl, .int .i64 u.vsn, .slice lo u.lits.length lc, .slice fo u.funcs.length fc, .slice go u.funs.length gc, .slice co u.code.length cc] 27)).alloc (.cells #[.int .i64 x.op, .int .i64 x.dst.kind, .int .i64 x.dst.n, .slice so x.src.length sc, .int .i64 x.to, .int .i64 x.n, .int .i64 x.live, .string x.name, .slice co' x.cases.length cc', .slice go' x.segs.length gc'] 50) = W at *
 have c0 := hX.c0; have c3 := hX.c3; have c5 := hX.c5
 have b3 := hU.c3; have b4 := hU.c4
 have hlu := hU.lt; have hlx := hX.lt
 have HBW := Lib.hid hBW
 clear hU hX hBW hWW
 rw [HOP.out] at c0
 go_wp2_with (go_at_call 85; refine (rwithin_any _ _ _ _).mono ?_; rintro e w1 ⟨rfl, rfl⟩)
 go_ret
 exact ⟨retb E.out.symm, HBW.out⟩
set_option maxRecDepth 100000 in
set_option maxHeartbeats 4000000 in
theorem rnumber_20 (u : RUnit) (lo fo go co : Option Addr) (lc fc gc cc : Nat) (x : RIns) (so co' go' : Option Addr) (sc cc' gc' : Nat) (w : World) (hl : u.funcs.length ≤ 9223372036854775807) (hl2 : u.funs.length ≤ 9223372036854775807) (hf : SlAt w 3 FunR go u.funs) (r1 : I64 x.n) (r2 : x.src.length ≤ 9223372036854775807) (hop : x.op = 20) :
  Calls Tryz.prog 40 #[.agg #[.string u.mdl, .int .i64 u.vsn, .slice lo u.lits.length lc, .slice fo u.funcs.length fc, .slice go u.funs.length gc, .slice co u.code.length cc], .agg #[.int .i64 x.op, .int .i64 x.dst.kind, .int .i64 x.dst.n, .slice so x.src.length sc, .int .i64 x.to, .int .i64 x.n, .int .i64 x.live, .string x.name, .slice co' x.cases.length cc', .slice go' x.segs.length gc']] w fun e w' => e = .returned (.bool (numberB u.funcs.length u.funs x)) ∧ Below w.heap.size w w' := by
 obtain ⟨r1a, r1b⟩ := r1
 have HF := Lib.hid hf
 have hw1 : IntKind.i64.wrap ((u.funcs.length : Int) - 1) = (u.funcs.length : Int) - 1 := by rw [IntKind.wrap_i64]; omega
 have hw2 : IntKind.i64.wrap ((u.funs.length : Int) - 1) = (u.funs.length : Int) - 1 := by rw [IntKind.wrap_i64]; omega
 clear hf
 have E : Hid (numberB u.funcs.length u.funs x = wi x.n 0 16) := Lib.hid (by unfold numberB; rw [hop]; rfl)
 have HOP := Lib.hid hop
 clear hop
 go_enter Tryz.func40, Tryz.ntmps40
 go_upto_region 1 with fail
 obtain ⟨hU, hX, hBW⟩ := two_boxes w u lo fo go co lc fc gc cc x so co' go' sc cc' gc'
 generalize hWW : (w.alloc (.cells #[.string u.mdl, .int .i64 u.vsn, .slice lo u.lits.length lc, .slice fo u.funcs.length fc, .slice go u.funs.length gc, .slice co u.code.length cc] 27)).alloc (.cells #[.int .i64 x.op, .int .i64 x.dst.kind, .int .i64 x.dst.n, .slice so x.src.length sc, .int .i64 x.to, .int .i64 x.n, .int .i64 x.live, .string x.name, .slice co' x.cases.length cc', .slice go' x.segs.length gc'] 50) = W at *
 have c0 := hX.c0; have c3 := hX.c3; have c5 := hX.c5
 have b3 := hU.c3; have b4 := hU.c4
 have hlu := hU.lt; have hlx := hX.lt
 have HBW := Lib.hid hBW
 clear hU hX hBW hWW
 rw [HOP.out] at c0
 go_wp2_with (go_at_call 85; refine (rwithin_any _ _ _ _).mono ?_; rintro e w1 ⟨rfl, rfl⟩)
 go_ret
 exact ⟨retb E.out.symm, HBW.out⟩
set_option maxRecDepth 100000 in
set_option maxHeartbeats 4000000 in
theorem rnumber_21 (u : RUnit) (lo fo go co : Option Addr) (lc fc gc cc : Nat) (x : RIns) (so co' go' : Option Addr) (sc cc' gc' : Nat) (w : World) (hl : u.funcs.length ≤ 9223372036854775807) (hl2 : u.funs.length ≤ 9223372036854775807) (hf : SlAt w 3 FunR go u.funs) (r1 : I64 x.n) (r2 : x.src.length ≤ 9223372036854775807) (hop : x.op = 21) :
  Calls Tryz.prog 40 #[.agg #[.string u.mdl, .int .i64 u.vsn, .slice lo u.lits.length lc, .slice fo u.funcs.length fc, .slice go u.funs.length gc, .slice co u.code.length cc], .agg #[.int .i64 x.op, .int .i64 x.dst.kind, .int .i64 x.dst.n, .slice so x.src.length sc, .int .i64 x.to, .int .i64 x.n, .int .i64 x.live, .string x.name, .slice co' x.cases.length cc', .slice go' x.segs.length gc']] w fun e w' => e = .returned (.bool (numberB u.funcs.length u.funs x)) ∧ Below w.heap.size w w' := by
 obtain ⟨r1a, r1b⟩ := r1
 have HF := Lib.hid hf
 have hw1 : IntKind.i64.wrap ((u.funcs.length : Int) - 1) = (u.funcs.length : Int) - 1 := by rw [IntKind.wrap_i64]; omega
 have hw2 : IntKind.i64.wrap ((u.funs.length : Int) - 1) = (u.funs.length : Int) - 1 := by rw [IntKind.wrap_i64]; omega
 clear hf
 have E : Hid (numberB u.funcs.length u.funs x = wi x.n 0 16) := Lib.hid (by unfold numberB; rw [hop]; rfl)
 have HOP := Lib.hid hop
 clear hop
 go_enter Tryz.func40, Tryz.ntmps40
 go_upto_region 1 with fail
 obtain ⟨hU, hX, hBW⟩ := two_boxes w u lo fo go co lc fc gc cc x so co' go' sc cc' gc'
 generalize hWW : (w.alloc (.cells #[.string u.mdl, .int .i64 u.vsn, .slice lo u.lits.length lc, .slice fo u.funcs.length fc, .slice go u.funs.length gc, .slice co u.code.length cc] 27)).alloc (.cells #[.int .i64 x.op, .int .i64 x.dst.kind, .int .i64 x.dst.n, .slice so x.src.length sc, .int .i64 x.to, .int .i64 x.n, .int .i64 x.live, .string x.name, .slice co' x.cases.length cc', .slice go' x.segs.length gc'] 50) = W at *
 have c0 := hX.c0; have c3 := hX.c3; have c5 := hX.c5
 have b3 := hU.c3; have b4 := hU.c4
 have hlu := hU.lt; have hlx := hX.lt
 have HBW := Lib.hid hBW
 clear hU hX hBW hWW
 rw [HOP.out] at c0
 go_wp2_with (go_at_call 85; refine (rwithin_any _ _ _ _).mono ?_; rintro e w1 ⟨rfl, rfl⟩)
 go_ret
 exact ⟨retb E.out.symm, HBW.out⟩
set_option maxRecDepth 100000 in
set_option maxHeartbeats 4000000 in
theorem rnumber_24 (u : RUnit) (lo fo go co : Option Addr) (lc fc gc cc : Nat) (x : RIns) (so co' go' : Option Addr) (sc cc' gc' : Nat) (w : World) (hl : u.funcs.length ≤ 9223372036854775807) (hl2 : u.funs.length ≤ 9223372036854775807) (hf : SlAt w 3 FunR go u.funs) (r1 : I64 x.n) (r2 : x.src.length ≤ 9223372036854775807) (hop : x.op = 24) :
  Calls Tryz.prog 40 #[.agg #[.string u.mdl, .int .i64 u.vsn, .slice lo u.lits.length lc, .slice fo u.funcs.length fc, .slice go u.funs.length gc, .slice co u.code.length cc], .agg #[.int .i64 x.op, .int .i64 x.dst.kind, .int .i64 x.dst.n, .slice so x.src.length sc, .int .i64 x.to, .int .i64 x.n, .int .i64 x.live, .string x.name, .slice co' x.cases.length cc', .slice go' x.segs.length gc']] w fun e w' => e = .returned (.bool (numberB u.funcs.length u.funs x)) ∧ Below w.heap.size w w' := by
 obtain ⟨r1a, r1b⟩ := r1
 have HF := Lib.hid hf
 have hw1 : IntKind.i64.wrap ((u.funcs.length : Int) - 1) = (u.funcs.length : Int) - 1 := by rw [IntKind.wrap_i64]; omega
 have hw2 : IntKind.i64.wrap ((u.funs.length : Int) - 1) = (u.funs.length : Int) - 1 := by rw [IntKind.wrap_i64]; omega
 clear hf
 have E : Hid (numberB u.funcs.length u.funs x = wi x.n 1 8192) := Lib.hid (by unfold numberB; rw [hop]; rfl)
 have HOP := Lib.hid hop
 clear hop
 go_enter Tryz.func40, Tryz.ntmps40
 go_upto_region 1 with fail
 obtain ⟨hU, hX, hBW⟩ := two_boxes w u lo fo go co lc fc gc cc x so co' go' sc cc' gc'
 generalize hWW : (w.alloc (.cells #[.string u.mdl, .int .i64 u.vsn, .slice lo u.lits.length lc, .slice fo u.funcs.length fc, .slice go u.funs.length gc, .slice co u.code.length cc] 27)).alloc (.cells #[.int .i64 x.op, .int .i64 x.dst.kind, .int .i64 x.dst.n, .slice so x.src.length sc, .int .i64 x.to, .int .i64 x.n, .int .i64 x.live, .string x.name, .slice co' x.cases.length cc', .slice go' x.segs.length gc'] 50) = W at *
 have c0 := hX.c0; have c3 := hX.c3; have c5 := hX.c5
 have b3 := hU.c3; have b4 := hU.c4
 have hlu := hU.lt; have hlx := hX.lt
 have HBW := Lib.hid hBW
 clear hU hX hBW hWW
 rw [HOP.out] at c0
 go_wp2_with (go_at_call 85; refine (rwithin_any _ _ _ _).mono ?_; rintro e w1 ⟨rfl, rfl⟩)
 go_ret
 exact ⟨retb E.out.symm, HBW.out⟩
set_option maxRecDepth 100000 in
set_option maxHeartbeats 4000000 in
theorem rnumber_31 (u : RUnit) (lo fo go co : Option Addr) (lc fc gc cc : Nat) (x : RIns) (so co' go' : Option Addr) (sc cc' gc' : Nat) (w : World) (hl : u.funcs.length ≤ 9223372036854775807) (hl2 : u.funs.length ≤ 9223372036854775807) (hf : SlAt w 3 FunR go u.funs) (r1 : I64 x.n) (r2 : x.src.length ≤ 9223372036854775807) (hop : x.op = 31) :
  Calls Tryz.prog 40 #[.agg #[.string u.mdl, .int .i64 u.vsn, .slice lo u.lits.length lc, .slice fo u.funcs.length fc, .slice go u.funs.length gc, .slice co u.code.length cc], .agg #[.int .i64 x.op, .int .i64 x.dst.kind, .int .i64 x.dst.n, .slice so x.src.length sc, .int .i64 x.to, .int .i64 x.n, .int .i64 x.live, .string x.name, .slice co' x.cases.length cc', .slice go' x.segs.length gc']] w fun e w' => e = .returned (.bool (numberB u.funcs.length u.funs x)) ∧ Below w.heap.size w w' := by
 obtain ⟨r1a, r1b⟩ := r1
 have HF := Lib.hid hf
 have hw1 : IntKind.i64.wrap ((u.funcs.length : Int) - 1) = (u.funcs.length : Int) - 1 := by rw [IntKind.wrap_i64]; omega
 have hw2 : IntKind.i64.wrap ((u.funs.length : Int) - 1) = (u.funs.length : Int) - 1 := by rw [IntKind.wrap_i64]; omega
 clear hf
 have E : Hid (numberB u.funcs.length u.funs x = wi x.n 0 3) := Lib.hid (by unfold numberB; rw [hop]; rfl)
 have HOP := Lib.hid hop
 clear hop
 go_enter Tryz.func40, Tryz.ntmps40
 go_upto_region 1 with fail
 obtain ⟨hU, hX, hBW⟩ := two_boxes w u lo fo go co lc fc gc cc x so co' go' sc cc' gc'
 generalize hWW : (w.alloc (.cells #[.string u.mdl, .int .i64 u.vsn, .slice lo u.lits.length lc, .slice fo u.funcs.length fc, .slice go u.funs.length gc, .slice co u.code.length cc] 27)).alloc (.cells #[.int .i64 x.op, .int .i64 x.dst.kind, .int .i64 x.dst.n, .slice so x.src.length sc, .int .i64 x.to, .int .i64 x.n, .int .i64 x.live, .string x.name, .slice co' x.cases.length cc', .slice go' x.segs.length gc'] 50) = W at *
 have c0 := hX.c0; have c3 := hX.c3; have c5 := hX.c5
 have b3 := hU.c3; have b4 := hU.c4
 have hlu := hU.lt; have hlx := hX.lt
 have HBW := Lib.hid hBW
 clear hU hX hBW hWW
 rw [HOP.out] at c0
 go_wp2_with (go_at_call 85; refine (rwithin_any _ _ _ _).mono ?_; rintro e w1 ⟨rfl, rfl⟩)
 go_ret
 exact ⟨retb E.out.symm, HBW.out⟩
set_option maxRecDepth 100000 in
set_option maxHeartbeats 4000000 in
theorem rnumber_16 (u : RUnit) (lo fo go co : Option Addr) (lc fc gc cc : Nat) (x : RIns) (so co' go' : Option Addr) (sc cc' gc' : Nat) (w : World) (hl : u.funcs.length ≤ 9223372036854775807) (hl2 : u.funs.length ≤ 9223372036854775807) (hf : SlAt w 3 FunR go u.funs) (r1 : I64 x.n) (r2 : x.src.length ≤ 9223372036854775807) (hop : x.op = 16) :
  Calls Tryz.prog 40 #[.agg #[.string u.mdl, .int .i64 u.vsn, .slice lo u.lits.length lc, .slice fo u.funcs.length fc, .slice go u.funs.length gc, .slice co u.code.length cc], .agg #[.int .i64 x.op, .int .i64 x.dst.kind, .int .i64 x.dst.n, .slice so x.src.length sc, .int .i64 x.to, .int .i64 x.n, .int .i64 x.live, .string x.name, .slice co' x.cases.length cc', .slice go' x.segs.length gc']] w fun e w' => e = .returned (.bool (numberB u.funcs.length u.funs x)) ∧ Below w.heap.size w w' := by
 obtain ⟨r1a, r1b⟩ := r1
 have HF := Lib.hid hf
 have hw1 : IntKind.i64.wrap ((u.funcs.length : Int) - 1) = (u.funcs.length : Int) - 1 := by rw [IntKind.wrap_i64]; omega
 have hw2 : IntKind.i64.wrap ((u.funs.length : Int) - 1) = (u.funs.length : Int) - 1 := by rw [IntKind.wrap_i64]; omega
 clear hf
 have E : Hid (numberB u.funcs.length u.funs x = wi x.n 0 ((u.funcs.length : Int) - 1)) := Lib.hid (by unfold numberB; rw [hop]; rfl)
 have HOP := Lib.hid hop
 clear hop
 go_enter Tryz.func40, Tryz.ntmps40
 go_upto_region 1 with fail
 obtain ⟨hU, hX, hBW⟩ := two_boxes w u lo fo go co lc fc gc cc x so co' go' sc cc' gc'
 generalize hWW : (w.alloc (.cells #[.string u.mdl, .int .i64 u.vsn, .slice lo u.lits.length lc, .slice fo u.funcs.length fc, .slice go u.funs.length gc, .slice co u.code.length cc] 27)).alloc (.cells #[.int .i64 x.op, .int .i64 x.dst.kind, .int .i64 x.dst.n, .slice so x.src.length sc, .int .i64 x.to, .int .i64 x.n, .int .i64 x.live, .string x.name, .slice co' x.cases.length cc', .slice go' x.segs.length gc'] 50) = W at *
 have c0 := hX.c0; have c3 := hX.c3; have c5 := hX.c5
 have b3 := hU.c3; have b4 := hU.c4
 have hlu := hU.lt; have hlx := hX.lt
 have HBW := Lib.hid hBW
 clear hU hX hBW hWW
 rw [HOP.out] at c0
 go_wp2_with (go_at_call 85; refine (rwithin_any _ _ _ _).mono ?_; rintro e w1 ⟨rfl, rfl⟩)
 go_ret
 exact ⟨retb E.out.symm, HBW.out⟩
set_option maxRecDepth 100000 in
set_option maxHeartbeats 4000000 in
theorem rnumber_17 (u : RUnit) (lo fo go co : Option Addr) (lc fc gc cc : Nat) (x : RIns) (so co' go' : Option Addr) (sc cc' gc' : Nat) (w : World) (hl : u.funcs.length ≤ 9223372036854775807) (hl2 : u.funs.length ≤ 9223372036854775807) (hf : SlAt w 3 FunR go u.funs) (r1 : I64 x.n) (r2 : x.src.length ≤ 9223372036854775807) (hop : x.op = 17) :
  Calls Tryz.prog 40 #[.agg #[.string u.mdl, .int .i64 u.vsn, .slice lo u.lits.length lc, .slice fo u.funcs.length fc, .slice go u.funs.length gc, .slice co u.code.length cc], .agg #[.int .i64 x.op, .int .i64 x.dst.kind, .int .i64 x.dst.n, .slice so x.src.length sc, .int .i64 x.to, .int .i64 x.n, .int .i64 x.live, .string x.name, .slice co' x.cases.length cc', .slice go' x.segs.length gc']] w fun e w' => e = .returned (.bool (numberB u.funcs.length u.funs x)) ∧ Below w.heap.size w w' := by
 obtain ⟨r1a, r1b⟩ := r1
 have HF := Lib.hid hf
 have hw1 : IntKind.i64.wrap ((u.funcs.length : Int) - 1) = (u.funcs.length : Int) - 1 := by rw [IntKind.wrap_i64]; omega
 have hw2 : IntKind.i64.wrap ((u.funs.length : Int) - 1) = (u.funs.length : Int) - 1 := by rw [IntKind.wrap_i64]; omega
 clear hf
 have E : Hid (numberB u.funcs.length u.funs x = wi x.n 0 ((u.funcs.length : Int) - 1)) := Lib.hid (by unfold numberB; rw [hop]; rfl)
 have HOP := Lib.hid hop
 clear hop
 go_enter Tryz.func40, Tryz.ntmps40
 go_upto_region 1 with fail
 obtain ⟨hU, hX, hBW⟩ := two_boxes w u lo fo go co lc fc gc cc x so co' go' sc cc' gc'
 generalize hWW : (w.alloc (.cells #[.string u.mdl, .int .i64 u.vsn, .slice lo u.lits.length lc, .slice fo u.funcs.length fc, .slice go u.funs.length gc, .slice co u.code.length cc] 27)).alloc (.cells #[.int .i64 x.op, .int .i64 x.dst.kind, .int .i64 x.dst.n, .slice so x.src.length sc, .int .i64 x.to, .int .i64 x.n, .int .i64 x.live, .string x.name, .slice co' x.cases.length cc', .slice go' x.segs.length gc'] 50) = W at *
 have c0 := hX.c0; have c3 := hX.c3; have c5 := hX.c5
 have b3 := hU.c3; have b4 := hU.c4
 have hlu := hU.lt; have hlx := hX.lt
 have HBW := Lib.hid hBW
 clear hU hX hBW hWW
 rw [HOP.out] at c0
 go_wp2_with (go_at_call 85; refine (rwithin_any _ _ _ _).mono ?_; rintro e w1 ⟨rfl, rfl⟩)
 go_ret
 exact ⟨retb E.out.symm, HBW.out⟩
set_option maxRecDepth 100000 in
set_option maxHeartbeats 4000000 in
theorem rnumber_32 (u : RUnit) (lo fo go co : Option Addr) (lc fc gc cc : Nat) (x : RIns) (so co' go' : Option Addr) (sc cc' gc' : Nat) (w : World) (hl : u.funcs.length ≤ 9223372036854775807) (hl2 : u.funs.length ≤ 9223372036854775807) (hf : SlAt w 3 FunR go u.funs) (r1 : I64 x.n) (r2 : x.src.length ≤ 9223372036854775807) (hop : x.op = 32) :
  Calls Tryz.prog 40 #[.agg #[.string u.mdl, .int .i64 u.vsn, .slice lo u.lits.length lc, .slice fo u.funcs.length fc, .slice go u.funs.length gc, .slice co u.code.length cc], .agg #[.int .i64 x.op, .int .i64 x.dst.kind, .int .i64 x.dst.n, .slice so x.src.length sc, .int .i64 x.to, .int .i64 x.n, .int .i64 x.live, .string x.name, .slice co' x.cases.length cc', .slice go' x.segs.length gc']] w fun e w' => e = .returned (.bool (numberB u.funcs.length u.funs x)) ∧ Below w.heap.size w w' := by
 obtain ⟨r1a, r1b⟩ := r1
 have HF := Lib.hid hf
 have hw1 : IntKind.i64.wrap ((u.funcs.length : Int) - 1) = (u.funcs.length : Int) - 1 := by rw [IntKind.wrap_i64]; omega
 have hw2 : IntKind.i64.wrap ((u.funs.length : Int) - 1) = (u.funs.length : Int) - 1 := by rw [IntKind.wrap_i64]; omega
 clear hf
 have E : Hid (numberB u.funcs.length u.funs x = (decide (x.n = 1) || decide (x.n = 8))) := Lib.hid (by unfold numberB; rw [hop]; rfl)
 have HOP := Lib.hid hop
 clear hop
 by_cases n1 : x.n = 1
 ·have t1 : (x.n == 1) = true := by rw [n1]; rfl
  have E2 : Hid (numberB u.funcs.length u.funs x = true) := Lib.hid (by rw [E.out, decide_eq_true n1]; rfl)
  clear n1
  go_enter Tryz.func40, Tryz.ntmps40
  go_upto_region 1 with fail
  obtain ⟨hU, hX, hBW⟩ := two_boxes w u lo fo go co lc fc gc cc x so co' go' sc cc' gc'
  generalize hWW : (w.alloc (.cells #[.string u.mdl, .int .i64 u.vsn, .slice lo u.lits.length lc, .slice fo u.funcs.length fc, .slice go u.funs.length gc, .slice co u.code.length cc] 27)).alloc (.cells #[.int .i64 x.op, .int .i64 x.dst.kind, .int .i64 x.dst.n, .slice so x.src.length sc, .int .i64 x.to, .int .i64 x.n, .int .i64 x.live, .string x.name, .slice co' x.cases.length cc', .slice go' x.segs.length gc'] 50) = W at *
  have c0 := hX.c0; have c3 := hX.c3; have c5 := hX.c5
  have b3 := hU.c3; have b4 := hU.c4
  have hlu := hU.lt; have hlx := hX.lt
  have HBW := Lib.hid hBW
  clear hU hX hBW hWW
  rw [HOP.out] at c0
  go_wp2_with fail
  go_ret
  exact ⟨retb E2.out.symm, HBW.out⟩
 ·have t1 : (x.n == 1) = false := beq_eq_false_iff_ne.2 n1
  by_cases n8 : x.n = 8
  ·have t2 : (x.n == 8) = true := by rw [n8]; rfl
   have E2 : Hid (numberB u.funcs.length u.funs x = true) := Lib.hid (by rw [E.out, decide_eq_true n8]; simp)
   clear n1 n8
   go_enter Tryz.func40, Tryz.ntmps40
   go_upto_region 1 with fail
   obtain ⟨hU, hX, hBW⟩ := two_boxes w u lo fo go co lc fc gc cc x so co' go' sc cc' gc'
   generalize hWW : (w.alloc (.cells #[.string u.mdl, .int .i64 u.vsn, .slice lo u.lits.length lc, .slice fo u.funcs.length fc, .slice go u.funs.length gc, .slice co u.code.length cc] 27)).alloc (.cells #[.int .i64 x.op, .int .i64 x.dst.kind, .int .i64 x.dst.n, .slice so x.src.length sc, .int .i64 x.to, .int .i64 x.n, .int .i64 x.live, .string x.name, .slice co' x.cases.length cc', .slice go' x.segs.length gc'] 50) = W at *
   have c0 := hX.c0; have c3 := hX.c3; have c5 := hX.c5
   have b3 := hU.c3; have b4 := hU.c4
   have hlu := hU.lt; have hlx := hX.lt
   have HBW := Lib.hid hBW
   clear hU hX hBW hWW
   rw [HOP.out] at c0
   go_wp2_with fail
   go_ret
   exact ⟨retb E2.out.symm, HBW.out⟩
  ·have t2 : (x.n == 8) = false := beq_eq_false_iff_ne.2 n8
   have E2 : Hid (numberB u.funcs.length u.funs x = false) := Lib.hid (by rw [E.out, decide_eq_false n1, decide_eq_false n8]; rfl)
   clear n1 n8
   go_enter Tryz.func40, Tryz.ntmps40
   go_upto_region 1 with fail
   obtain ⟨hU, hX, hBW⟩ := two_boxes w u lo fo go co lc fc gc cc x so co' go' sc cc' gc'
   generalize hWW : (w.alloc (.cells #[.string u.mdl, .int .i64 u.vsn, .slice lo u.lits.length lc, .slice fo u.funcs.length fc, .slice go u.funs.length gc, .slice co u.code.length cc] 27)).alloc (.cells #[.int .i64 x.op, .int .i64 x.dst.kind, .int .i64 x.dst.n, .slice so x.src.length sc, .int .i64 x.to, .int .i64 x.n, .int .i64 x.live, .string x.name, .slice co' x.cases.length cc', .slice go' x.segs.length gc'] 50) = W at *
   have c0 := hX.c0; have c3 := hX.c3; have c5 := hX.c5
   have b3 := hU.c3; have b4 := hU.c4
   have hlu := hU.lt; have hlx := hX.lt
   have HBW := Lib.hid hBW
   clear hU hX hBW hWW
   rw [HOP.out] at c0
   go_wp2_with fail
   go_ret
   exact ⟨retb E2.out.symm, HBW.out⟩
set_option maxRecDepth 100000 in
set_option maxHeartbeats 4000000 in
theorem rnumber_33 (u : RUnit) (lo fo go co : Option Addr) (lc fc gc cc : Nat) (x : RIns) (so co' go' : Option Addr) (sc cc' gc' : Nat) (w : World) (hl : u.funcs.length ≤ 9223372036854775807) (hl2 : u.funs.length ≤ 9223372036854775807) (hf : SlAt w 3 FunR go u.funs) (r1 : I64 x.n) (r2 : x.src.length ≤ 9223372036854775807) (hop : x.op = 33) :
  Calls Tryz.prog 40 #[.agg #[.string u.mdl, .int .i64 u.vsn, .slice lo u.lits.length lc, .slice fo u.funcs.length fc, .slice go u.funs.length gc, .slice co u.code.length cc], .agg #[.int .i64 x.op, .int .i64 x.dst.kind, .int .i64 x.dst.n, .slice so x.src.length sc, .int .i64 x.to, .int .i64 x.n, .int .i64 x.live, .string x.name, .slice co' x.cases.length cc', .slice go' x.segs.length gc']] w fun e w' => e = .returned (.bool (numberB u.funcs.length u.funs x)) ∧ Below w.heap.size w w' := by
 obtain ⟨r1a, r1b⟩ := r1
 have HF := Lib.hid hf
 have hw1 : IntKind.i64.wrap ((u.funcs.length : Int) - 1) = (u.funcs.length : Int) - 1 := by rw [IntKind.wrap_i64]; omega
 have hw2 : IntKind.i64.wrap ((u.funs.length : Int) - 1) = (u.funs.length : Int) - 1 := by rw [IntKind.wrap_i64]; omega
 clear hf
 have E : Hid (numberB u.funcs.length u.funs x = (decide (x.n = 1) || decide (x.n = 8))) := Lib.hid (by unfold numberB; rw [hop]; rfl)
 have HOP := Lib.hid hop
 clear hop
 by_cases n1 : x.n = 1
 ·have t1 : (x.n == 1) = true := by rw [n1]; rfl
  have E2 : Hid (numberB u.funcs.length u.funs x = true) := Lib.hid (by rw [E.out, decide_eq_true n1]; rfl)
  clear n1
  go_enter Tryz.func40, Tryz.ntmps40
  go_upto_region 1 with fail
  obtain ⟨hU, hX, hBW⟩ := two_boxes w u lo fo go co lc fc gc cc x so co' go' sc cc' gc'
  generalize hWW : (w.alloc (.cells #[.string u.mdl, .int .i64 u.vsn, .slice lo u.lits.length lc, .slice fo u.funcs.length fc, .slice go u.funs.length gc, .slice co u.code.length cc] 27)).alloc (.cells #[.int .i64 x.op, .int .i64 x.dst.kind, .int .i64 x.dst.n, .slice so x.src.length sc, .int .i64 x.to, .int .i64 x.n, .int .i64 x.live, .string x.name, .slice co' x.cases.length cc', .slice go' x.segs.length gc'] 50) = W at *
  have c0 := hX.c0; have c3 := hX.c3; have c5 := hX.c5
  have b3 := hU.c3; have b4 := hU.c4
  have hlu := hU.lt; have hlx := hX.lt
  have HBW := Lib.hid hBW
  clear hU hX hBW hWW
  rw [HOP.out] at c0
  go_wp2_with fail
  go_ret
  exact ⟨retb E2.out.symm, HBW.out⟩
 ·have t1 : (x.n == 1) = false := beq_eq_false_iff_ne.2 n1
  by_cases n8 : x.n = 8
  ·have t2 : (x.n == 8) = true := by rw [n8]; rfl
   have E2 : Hid (numberB u.funcs.length u.funs x = true) := Lib.hid (by rw [E.out, decide_eq_true n8]; simp)
   clear n1 n8
   go_enter Tryz.func40, Tryz.ntmps40
   go_upto_region 1 with fail
   obtain ⟨hU, hX, hBW⟩ := two_boxes w u lo fo go co lc fc gc cc x so co' go' sc cc' gc'
   generalize hWW : (w.alloc (.cells #[.string u.mdl, .int .i64 u.vsn, .slice lo u.lits.length lc, .slice fo u.funcs.length fc, .slice go u.funs.length gc, .slice co u.code.length cc] 27)).alloc (.cells #[.int .i64 x.op, .int .i64 x.dst.kind, .int .i64 x.dst.n, .slice so x.src.length sc, .int .i64 x.to, .int .i64 x.n, .int .i64 x.live, .string x.name, .slice co' x.cases.length cc', .slice go' x.segs.length gc'] 50) = W at *
   have c0 := hX.c0; have c3 := hX.c3; have c5 := hX.c5
   have b3 := hU.c3; have b4 := hU.c4
   have hlu := hU.lt; have hlx := hX.lt
   have HBW := Lib.hid hBW
   clear hU hX hBW hWW
   rw [HOP.out] at c0
   go_wp2_with fail
   go_ret
   exact ⟨retb E2.out.symm, HBW.out⟩
  ·have t2 : (x.n == 8) = false := beq_eq_false_iff_ne.2 n8
   have E2 : Hid (numberB u.funcs.length u.funs x = false) := Lib.hid (by rw [E.out, decide_eq_false n1, decide_eq_false n8]; rfl)
   clear n1 n8
   go_enter Tryz.func40, Tryz.ntmps40
   go_upto_region 1 with fail
   obtain ⟨hU, hX, hBW⟩ := two_boxes w u lo fo go co lc fc gc cc x so co' go' sc cc' gc'
   generalize hWW : (w.alloc (.cells #[.string u.mdl, .int .i64 u.vsn, .slice lo u.lits.length lc, .slice fo u.funcs.length fc, .slice go u.funs.length gc, .slice co u.code.length cc] 27)).alloc (.cells #[.int .i64 x.op, .int .i64 x.dst.kind, .int .i64 x.dst.n, .slice so x.src.length sc, .int .i64 x.to, .int .i64 x.n, .int .i64 x.live, .string x.name, .slice co' x.cases.length cc', .slice go' x.segs.length gc'] 50) = W at *
   have c0 := hX.c0; have c3 := hX.c3; have c5 := hX.c5
   have b3 := hU.c3; have b4 := hU.c4
   have hlu := hU.lt; have hlx := hX.lt
   have HBW := Lib.hid hBW
   clear hU hX hBW hWW
   rw [HOP.out] at c0
   go_wp2_with fail
   go_ret
   exact ⟨retb E2.out.symm, HBW.out⟩
set_option maxRecDepth 100000 in
set_option maxHeartbeats 4000000 in
theorem rnumber_rest (u : RUnit) (lo fo go co : Option Addr) (lc fc gc cc : Nat) (x : RIns) (so co' go' : Option Addr) (sc cc' gc' : Nat) (w : World) (hl : u.funcs.length ≤ 9223372036854775807) (hl2 : u.funs.length ≤ 9223372036854775807) (hf : SlAt w 3 FunR go u.funs) (r1 : I64 x.n) (r2 : x.src.length ≤ 9223372036854775807) (h5 : ¬ x.op = 5) (h9 : ¬ x.op = 9) (h15 : ¬ x.op = 15) (h18 : ¬ x.op = 18) (h19 : ¬ x.op = 19) (h20 : ¬ x.op = 20) (h21 : ¬ x.op = 21) (h24 : ¬ x.op = 24) (h31 : ¬ x.op = 31) (h16 : ¬ x.op = 16) (h17 : ¬ x.op = 17) (h32 : ¬ x.op = 32) (h33 : ¬ x.op = 33) (h4 : ¬ x.op = 4) :
  Calls Tryz.prog 40 #[.agg #[.string u.mdl, .int .i64 u.vsn, .slice lo u.lits.length lc, .slice fo u.funcs.length fc, .slice go u.funs.length gc, .slice co u.code.length cc], .agg #[.int .i64 x.op, .int .i64 x.dst.kind, .int .i64 x.dst.n, .slice so x.src.length sc, .int .i64 x.to, .int .i64 x.n, .int .i64 x.live, .string x.name, .slice co' x.cases.length cc', .slice go' x.segs.length gc']] w fun e w' => e = .returned (.bool (numberB u.funcs.length u.funs x)) ∧ Below w.heap.size w w' := by
 obtain ⟨r1a, r1b⟩ := r1
 have HF := Lib.hid hf
 have hw1 : IntKind.i64.wrap ((u.funcs.length : Int) - 1) = (u.funcs.length : Int) - 1 := by rw [IntKind.wrap_i64]; omega
 have hw2 : IntKind.i64.wrap ((u.funs.length : Int) - 1) = (u.funs.length : Int) - 1 := by rw [IntKind.wrap_i64]; omega
 clear hf
 have E : Hid (numberB u.funcs.length u.funs x = true) := Lib.hid (by unfold numberB; rw [if_neg h4, if_neg h5, if_neg h9, if_neg (by omega), if_neg (by omega), if_neg h24, if_neg h31, if_neg (by omega)])
 have t5 : (x.op == 5) = false := beq_eq_false_iff_ne.2 h5
 have t9 : (x.op == 9) = false := beq_eq_false_iff_ne.2 h9
 have t15 : (x.op == 15) = false := beq_eq_false_iff_ne.2 h15
 have t18 : (x.op == 18) = false := beq_eq_false_iff_ne.2 h18
 have t19 : (x.op == 19) = false := beq_eq_false_iff_ne.2 h19
 have t20 : (x.op == 20) = false := beq_eq_false_iff_ne.2 h20
 have t21 : (x.op == 21) = false := beq_eq_false_iff_ne.2 h21
 have t24 : (x.op == 24) = false := beq_eq_false_iff_ne.2 h24
 have t31 : (x.op == 31) = false := beq_eq_false_iff_ne.2 h31
 have t16 : (x.op == 16) = false := beq_eq_false_iff_ne.2 h16
 have t17 : (x.op == 17) = false := beq_eq_false_iff_ne.2 h17
 have t32 : (x.op == 32) = false := beq_eq_false_iff_ne.2 h32
 have t33 : (x.op == 33) = false := beq_eq_false_iff_ne.2 h33
 have t4 : (x.op == 4) = false := beq_eq_false_iff_ne.2 h4
 clear h5 h9 h15 h18 h19 h20 h21 h24 h31 h16 h17 h32 h33 h4
 go_enter Tryz.func40, Tryz.ntmps40
 go_upto_region 1 with fail
 obtain ⟨hU, hX, hBW⟩ := two_boxes w u lo fo go co lc fc gc cc x so co' go' sc cc' gc'
 generalize hWW : (w.alloc (.cells #[.string u.mdl, .int .i64 u.vsn, .slice lo u.lits.length lc, .slice fo u.funcs.length fc, .slice go u.funs.length gc, .slice co u.code.length cc] 27)).alloc (.cells #[.int .i64 x.op, .int .i64 x.dst.kind, .int .i64 x.dst.n, .slice so x.src.length sc, .int .i64 x.to, .int .i64 x.n, .int .i64 x.live, .string x.name, .slice co' x.cases.length cc', .slice go' x.segs.length gc'] 50) = W at *
 have c0 := hX.c0; have c3 := hX.c3; have c5 := hX.c5
 have b3 := hU.c3; have b4 := hU.c4
 have hlu := hU.lt; have hlx := hX.lt
 have HBW := Lib.hid hBW
 clear hU hX hBW hWW
 go_wp2_with fail
 go_ret
 exact ⟨retb E.out.symm, HBW.out⟩
set_option maxRecDepth 100000 in
set_option maxHeartbeats 4000000 in
theorem rnumber_4 (u : RUnit) (lo fo go co : Option Addr) (lc fc gc cc : Nat) (x : RIns) (so co' go' : Option Addr) (sc cc' gc' : Nat) (w : World) (hl : u.funcs.length ≤ 9223372036854775807) (hl2 : u.funs.length ≤ 9223372036854775807) (hf : SlAt w 3 FunR go u.funs) (r1 : I64 x.n) (r2 : x.src.length ≤ 9223372036854775807) (hop : x.op = 4) :
  Calls Tryz.prog 40 #[.agg #[.string u.mdl, .int .i64 u.vsn, .slice lo u.lits.length lc, .slice fo u.funcs.length fc, .slice go u.funs.length gc, .slice co u.code.length cc], .agg #[.int .i64 x.op, .int .i64 x.dst.kind, .int .i64 x.dst.n, .slice so x.src.length sc, .int .i64 x.to, .int .i64 x.n, .int .i64 x.live, .string x.name, .slice co' x.cases.length cc', .slice go' x.segs.length gc']] w fun e w' => e = .returned (.bool (numberB u.funcs.length u.funs x)) ∧ Below w.heap.size w w' := by
 obtain ⟨r1a, r1b⟩ := r1
 have HF := Lib.hid hf
 have hw1 : IntKind.i64.wrap ((u.funcs.length : Int) - 1) = (u.funcs.length : Int) - 1 := by rw [IntKind.wrap_i64]; omega
 have hw2 : IntKind.i64.wrap ((u.funs.length : Int) - 1) = (u.funs.length : Int) - 1 := by rw [IntKind.wrap_i64]; omega
 clear hf
 have E : Hid (numberB u.funcs.length u.funs x = (wi x.n 0 ((u.funs.length : Int) - 1) && (match u.funs[x.n.toNat]? with
   | some f => decide ((x.src.length : Int) = f.free)
   | none => false))) := Lib.hid (by unfold numberB; rw [hop]; rfl)
 have HOP := Lib.hid hop
 clear hop
 cases hw : wi x.n 0 ((u.funs.length : Int) - 1) with
 | false =>
  have E2 : Hid (numberB u.funcs.length u.funs x = false) := Lib.hid (by rw [E.out, hw]; rfl)
  have hwr : ∀ wx, Calls Tryz.prog 85 #[.int .i64 x.n, .int .i64 0, .int .i64 ((u.funs.length : Int) - 1)] wx fun e w' => e = .returned (.bool false) ∧ w' = wx := fun wx => by
   have := rwithin_any x.n 0 ((u.funs.length : Int) - 1) wx
   rw [hw] at this
   exact this.mono fun _ _ ⟨a, b⟩ => ⟨a, b.symm⟩
  clear hw E
  go_enter Tryz.func40, Tryz.ntmps40
  go_upto_region 1 with fail
  obtain ⟨hU, hX, hBW⟩ := two_boxes w u lo fo go co lc fc gc cc x so co' go' sc cc' gc'
  generalize hWW : (w.alloc (.cells #[.string u.mdl, .int .i64 u.vsn, .slice lo u.lits.length lc, .slice fo u.funcs.length fc, .slice go u.funs.length gc, .slice co u.code.length cc] 27)).alloc (.cells #[.int .i64 x.op, .int .i64 x.dst.kind, .int .i64 x.dst.n, .slice so x.src.length sc, .int .i64 x.to, .int .i64 x.n, .int .i64 x.live, .string x.name, .slice co' x.cases.length cc', .slice go' x.segs.length gc'] 50) = W at *
  have c0 := hX.c0; have c3 := hX.c3; have c5 := hX.c5
  have b3 := hU.c3; have b4 := hU.c4
  have hlu := hU.lt; have hlx := hX.lt
  have HBW := Lib.hid hBW
  clear hU hX hBW hWW
  rw [HOP.out] at c0
  go_wp2_with fail
  go_quiet ((go_at_call 85; exact Calls.quiet_of_same (hwr _)))
  go_wp2_with fail
  go_ret
  exact ⟨retb E2.out.symm, below_drewN HBW.out _⟩
 | true =>
  have hr : 0 ≤ x.n ∧ x.n ≤ (u.funs.length : Int) - 1 := by
   unfold wi at hw
   rw [Bool.and_eq_true, decide_eq_true_eq, decide_eq_true_eq] at hw
   exact hw
  obtain ⟨m, hm⟩ := Int.eq_ofNat_of_zero_le hr.1
  have hml : m < u.funs.length := by omega
  have E2 : Hid (numberB u.funcs.length u.funs x = decide ((x.src.length : Int) = u.funs[m].free)) := Lib.hid (by
   rw [E.out, hw, hm]
   have : u.funs[(((m : Nat) : Int)).toNat]? = some u.funs[m] := by rw [Int.toNat_natCast]; exact List.getElem?_eq_getElem hml
   rw [this]; rfl)
  have hwr : ∀ wx, Calls Tryz.prog 85 #[.int .i64 (m : Int), .int .i64 0, .int .i64 ((u.funs.length : Int) - 1)] wx fun e w' => e = .returned (.bool true) ∧ w' = wx := fun wx => by
   have := rwithin_any (m : Int) 0 ((u.funs.length : Int) - 1) wx
   rw [← hm, hw] at this
   rw [← hm]
   exact this.mono fun _ _ ⟨a, b⟩ => ⟨a, b.symm⟩
  have HM := Lib.hid hm
  clear hw hr E r1a r1b hm
  by_cases hz : (x.src.length : Int) = u.funs[m].free
  ·have E3 : Hid (numberB u.funcs.length u.funs x = true) := Lib.hid (by rw [E2.out, decide_eq_true hz])
   have t : ((x.src.length : Int) == u.funs[m].free) = true := by rw [hz]; exact beq_self_eq_true _
   clear hz E2
   go_enter Tryz.func40, Tryz.ntmps40
   go_upto_region 1 with fail
   obtain ⟨hU, hX, hBW⟩ := two_boxes w u lo fo go co lc fc gc cc x so co' go' sc cc' gc'
   generalize hWW : (w.alloc (.cells #[.string u.mdl, .int .i64 u.vsn, .slice lo u.lits.length lc, .slice fo u.funcs.length fc, .slice go u.funs.length gc, .slice co u.code.length cc] 27)).alloc (.cells #[.int .i64 x.op, .int .i64 x.dst.kind, .int .i64 x.dst.n, .slice so x.src.length sc, .int .i64 x.to, .int .i64 x.n, .int .i64 x.live, .string x.name, .slice co' x.cases.length cc', .slice go' x.segs.length gc'] 50) = W at *
   have c0 := hX.c0; have c3 := hX.c3; have c5 := hX.c5
   have b3 := hU.c3; have b4 := hU.c4
   have hlu := hU.lt; have hlx := hX.lt
   have HBW := Lib.hid hBW
   clear hU hX hBW hWW
   rw [HOP.out] at c0
   obtain ⟨b2, off, hao, hb2, q0, q1, q2, _, _, _⟩ := (HF.out.mono HBW.out fun _ _ h => h).fn hml
   subst hao
   rw [HM.out] at c5
   generalize u.funs[m].free = z at *
   go_wp2_with fail
   go_quiet ((go_at_call 85; exact Calls.quiet_of_same (hwr _)))
   go_wp2_with fail
   go_ret
   exact ⟨retb E3.out.symm, below_drewN HBW.out _⟩
  ·have E3 : Hid (numberB u.funcs.length u.funs x = false) := Lib.hid (by rw [E2.out, decide_eq_false hz])
   have t : ((x.src.length : Int) == u.funs[m].free) = false := beq_eq_false_iff_ne.2 hz
   clear hz E2
   go_enter Tryz.func40, Tryz.ntmps40
   go_upto_region 1 with fail
   obtain ⟨hU, hX, hBW⟩ := two_boxes w u lo fo go co lc fc gc cc x so co' go' sc cc' gc'
   generalize hWW : (w.alloc (.cells #[.string u.mdl, .int .i64 u.vsn, .slice lo u.lits.length lc, .slice fo u.funcs.length fc, .slice go u.funs.length gc, .slice co u.code.length cc] 27)).alloc (.cells #[.int .i64 x.op, .int .i64 x.dst.kind, .int .i64 x.dst.n, .slice so x.src.length sc, .int .i64 x.to, .int .i64 x.n, .int .i64 x.live, .string x.name, .slice co' x.cases.length cc', .slice go' x.segs.length gc'] 50) = W at *
   have c0 := hX.c0; have c3 := hX.c3; have c5 := hX.c5
   have b3 := hU.c3; have b4 := hU.c4
   have hlu := hU.lt; have hlx := hX.lt
   have HBW := Lib.hid hBW
   clear hU hX hBW hWW
   rw [HOP.out] at c0
   obtain ⟨b2, off, hao, hb2, q0, q1, q2, _, _, _⟩ := (HF.out.mono HBW.out fun _ _ h => h).fn hml
   subst hao
   rw [HM.out] at c5
   generalize u.funs[m].free = z at *
   go_wp2_with fail
   go_quiet ((go_at_call 85; exact Calls.quiet_of_same (hwr _)))
   go_wp2_with fail
   go_ret
   exact ⟨retb E3.out.symm, below_drewN HBW.out _⟩
theorem rnumber_any (u : RUnit) (lo fo go co : Option Addr) (lc fc gc cc : Nat) (x : RIns) (so co' go' : Option Addr) (sc cc' gc' : Nat) (w : World) (hl : u.funcs.length ≤ 9223372036854775807) (hl2 : u.funs.length ≤ 9223372036854775807) (hf : SlAt w 3 FunR go u.funs) (r1 : I64 x.n) (r2 : x.src.length ≤ 9223372036854775807) :
  Calls Tryz.prog 40 #[.agg #[.string u.mdl, .int .i64 u.vsn, .slice lo u.lits.length lc, .slice fo u.funcs.length fc, .slice go u.funs.length gc, .slice co u.code.length cc], .agg #[.int .i64 x.op, .int .i64 x.dst.kind, .int .i64 x.dst.n, .slice so x.src.length sc, .int .i64 x.to, .int .i64 x.n, .int .i64 x.live, .string x.name, .slice co' x.cases.length cc', .slice go' x.segs.length gc']] w fun e w' => e = .returned (.bool (numberB u.funcs.length u.funs x)) ∧ Below w.heap.size w w' := by
 by_cases h5 : x.op = 5
 ·exact rnumber_5 u lo fo go co lc fc gc cc x so co' go' sc cc' gc' w hl hl2 hf r1 r2 h5
 by_cases h9 : x.op = 9
 ·exact rnumber_9 u lo fo go co lc fc gc cc x so co' go' sc cc' gc' w hl hl2 hf r1 r2 h9
 by_cases h15 : x.op = 15
 ·exact rnumber_15 u lo fo go co lc fc gc cc x so co' go' sc cc' gc' w hl hl2 hf r1 r2 h15
 by_cases h18 : x.op = 18
 ·exact rnumber_18 u lo fo go co lc fc gc cc x so co' go' sc cc' gc' w hl hl2 hf r1 r2 h18
 by_cases h19 : x.op = 19
 ·exact rnumber_19 u lo fo go co lc fc gc cc x so co' go' sc cc' gc' w hl hl2 hf r1 r2 h19
 by_cases h20 : x.op = 20
 ·exact rnumber_20 u lo fo go co lc fc gc cc x so co' go' sc cc' gc' w hl hl2 hf r1 r2 h20
 by_cases h21 : x.op = 21
 ·exact rnumber_21 u lo fo go co lc fc gc cc x so co' go' sc cc' gc' w hl hl2 hf r1 r2 h21
 by_cases h24 : x.op = 24
 ·exact rnumber_24 u lo fo go co lc fc gc cc x so co' go' sc cc' gc' w hl hl2 hf r1 r2 h24
 by_cases h31 : x.op = 31
 ·exact rnumber_31 u lo fo go co lc fc gc cc x so co' go' sc cc' gc' w hl hl2 hf r1 r2 h31
 by_cases h16 : x.op = 16
 ·exact rnumber_16 u lo fo go co lc fc gc cc x so co' go' sc cc' gc' w hl hl2 hf r1 r2 h16
 by_cases h17 : x.op = 17
 ·exact rnumber_17 u lo fo go co lc fc gc cc x so co' go' sc cc' gc' w hl hl2 hf r1 r2 h17
 by_cases h32 : x.op = 32
 ·exact rnumber_32 u lo fo go co lc fc gc cc x so co' go' sc cc' gc' w hl hl2 hf r1 r2 h32
 by_cases h33 : x.op = 33
 ·exact rnumber_33 u lo fo go co lc fc gc cc x so co' go' sc cc' gc' w hl hl2 hf r1 r2 h33
 by_cases h4 : x.op = 4
 ·exact rnumber_4 u lo fo go co lc fc gc cc x so co' go' sc cc' gc' w hl hl2 hf r1 r2 h4
 exact rnumber_rest u lo fo go co lc fc gc cc x so co' go' sc cc' gc' w hl hl2 hf r1 r2 h5 h9 h15 h18 h19 h20 h21 h24 h31 h16 h17 h32 h33 h4
end Go.Proofs.YtghgbikmlbildaaGreatDoor
