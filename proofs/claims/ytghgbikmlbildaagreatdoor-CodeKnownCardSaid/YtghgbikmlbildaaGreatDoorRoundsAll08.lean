/-
  number: the walk. number: the walk, the rest. operator: the walk (printed by gen_operator.py). Decimal texts: the plain functions. No program in sight. ints.Text: the decimal text of a 64-bit integer.
-/
import Derived.Lib.Hide
import Derived.Test.YtghgbikmlbildaaGreatDoorRoundsAll01
import Derived.Test.YtghgbikmlbildaaGreatDoorRoundsAll02
namespace Go.Proofs.YtghgbikmlbildaaGreatDoor
open Go.RowKit
set_option linter.unusedVariables false
set_option linter.unusedSimpArgs false

/-- Is N in the range of the operation? -/
def numberB (nf : Nat) (funs : List RFun) (x : RIns) : Bool :=
 if x.op = 4 then wi x.n 0 ((funs.length : Int) - 1) && (match funs[x.n.toNat]? with
  | some f => decide ((x.src.length : Int) = f.free)
  | none => false)
 else if x.op = 5 then wi x.n 0 254 else if x.op = 9 then wi x.n 0 255 else if x.op = 16 ∨ x.op = 17 then wi x.n 0 ((nf : Int) - 1)
 else if x.op = 15 ∨ x.op = 18 ∨ x.op = 19 ∨ x.op = 20 ∨ x.op = 21 then wi x.n 0 16 else if x.op = 24 then wi x.n 1 8192 else if x.op = 31 then wi x.n 0 3
 else if x.op = 32 ∨ x.op = 33 then decide (x.n = 1) || decide (x.n = 8) else true

set_option maxRecDepth 100000 in
set_option maxHeartbeats 2000000 in
theorem number_5 (B : Nat) (u : RUnit) (lo' fo go' co' : Option Addr) (lc fc gc' cc' : Nat) (b o : Nat) (x : RIns) (so co go : Option Addr) (sc cc gc : Nat) (w : World) (hu : UBox w B u lo' fo go' co' lc fc gc' cc') (hl : u.funcs.length ≤ 9223372036854775807) (hl2 : u.funs.length ≤ 9223372036854775807) (hf : SlAt w 3 FunR go' u.funs) (hx : IBox w b o x so co go sc cc gc) (hop : x.op = 5) :
  Calls Tryz.prog 33 #[.pointer (some ⟨B, 0, none⟩), .pointer (some ⟨b, o, none⟩)] w fun e w' => e = .returned (.bool (numberB u.funcs.length u.funs x)) ∧ Below w.heap.size w w' := by
 have c0 := hx.c0; have c3 := hx.c3; have c5 := hx.c5
 have b3 := hu.c3; have b4 := hu.c4
 have r1 := hx.rn; have r2 := hx.rsrc
 obtain ⟨r1a, r1b⟩ := r1
 have HF := Lib.hid hf
 clear hu hx hf
 have hw1 : IntKind.i64.wrap ((u.funcs.length : Int) - 1) = (u.funcs.length : Int) - 1 := by rw [IntKind.wrap_i64]; omega
 have hw2 : IntKind.i64.wrap ((u.funs.length : Int) - 1) = (u.funs.length : Int) - 1 := by rw [IntKind.wrap_i64]; omega
 have E : Hid (numberB u.funcs.length u.funs x = wi x.n 0 254) := Lib.hid (by unfold numberB; rw [hop]; rfl)
 rw [hop] at c0
 clear hop
 go_enter Tryz.func33, Tryz.ntmps33
 go_wp2_with (go_at_call 68; refine (within_any _ _ _ _).mono ?_; rintro e w1 ⟨rfl, rfl⟩)
 go_ret
 exact ⟨retb E.out.symm, Below.refl _ _⟩
set_option maxRecDepth 100000 in
set_option maxHeartbeats 2000000 in
theorem number_9 (B : Nat) (u : RUnit) (lo' fo go' co' : Option Addr) (lc fc gc' cc' : Nat) (b o : Nat) (x : RIns) (so co go : Option Addr) (sc cc gc : Nat) (w : World) (hu : UBox w B u lo' fo go' co' lc fc gc' cc') (hl : u.funcs.length ≤ 9223372036854775807) (hl2 : u.funs.length ≤ 9223372036854775807) (hf : SlAt w 3 FunR go' u.funs) (hx : IBox w b o x so co go sc cc gc) (hop : x.op = 9) :
  Calls Tryz.prog 33 #[.pointer (some ⟨B, 0, none⟩), .pointer (some ⟨b, o, none⟩)] w fun e w' => e = .returned (.bool (numberB u.funcs.length u.funs x)) ∧ Below w.heap.size w w' := by
 have c0 := hx.c0; have c3 := hx.c3; have c5 := hx.c5
 have b3 := hu.c3; have b4 := hu.c4
 have r1 := hx.rn; have r2 := hx.rsrc
 obtain ⟨r1a, r1b⟩ := r1
 have HF := Lib.hid hf
 clear hu hx hf
 have hw1 : IntKind.i64.wrap ((u.funcs.length : Int) - 1) = (u.funcs.length : Int) - 1 := by rw [IntKind.wrap_i64]; omega
 have hw2 : IntKind.i64.wrap ((u.funs.length : Int) - 1) = (u.funs.length : Int) - 1 := by rw [IntKind.wrap_i64]; omega
 have E : Hid (numberB u.funcs.length u.funs x = wi x.n 0 255) := Lib.hid (by unfold numberB; rw [hop]; rfl)
 rw [hop] at c0
 clear hop
 go_enter Tryz.func33, Tryz.ntmps33
 go_wp2_with (go_at_call 68; refine (within_any _ _ _ _).mono ?_; rintro e w1 ⟨rfl, rfl⟩)
 go_ret
 exact ⟨retb E.out.symm, Below.refl _ _⟩
set_option maxRecDepth 100000 in
set_option maxHeartbeats 2000000 in
theorem number_15 (B : Nat) (u : RUnit) (lo' fo go' co' : Option Addr) (lc fc gc' cc' : Nat) (b o : Nat) (x : RIns) (so co go : Option Addr) (sc cc gc : Nat) (w : World) (hu : UBox w B u lo' fo go' co' lc fc gc' cc') (hl : u.funcs.length ≤ 9223372036854775807) (hl2 : u.funs.length ≤ 9223372036854775807) (hf : SlAt w 3 FunR go' u.funs) (hx : IBox w b o x so co go sc cc gc) (hop : x.op = 15) :
  Calls Tryz.prog 33 #[.pointer (some ⟨B, 0, none⟩), .pointer (some ⟨b, o, none⟩)] w fun e w' => e = .returned (.bool (numberB u.funcs.length u.funs x)) ∧ Below w.heap.size w w' := by
 have c0 := hx.c0; have c3 := hx.c3; have c5 := hx.c5
 have b3 := hu.c3; have b4 := hu.c4
 have r1 := hx.rn; have r2 := hx.rsrc
 obtain ⟨r1a, r1b⟩ := r1
 have HF := Lib.hid hf
 clear hu hx hf
 have hw1 : IntKind.i64.wrap ((u.funcs.length : Int) - 1) = (u.funcs.length : Int) - 1 := by rw [IntKind.wrap_i64]; omega
 have hw2 : IntKind.i64.wrap ((u.funs.length : Int) - 1) = (u.funs.length : Int) - 1 := by rw [IntKind.wrap_i64]; omega
 have E : Hid (numberB u.funcs.length u.funs x = wi x.n 0 16) := Lib.hid (by unfold numberB; rw [hop]; rfl)
 rw [hop] at c0
 clear hop
 go_enter Tryz.func33, Tryz.ntmps33
 go_wp2_with (go_at_call 68; refine (within_any _ _ _ _).mono ?_; rintro e w1 ⟨rfl, rfl⟩)
 go_ret
 exact ⟨retb E.out.symm, Below.refl _ _⟩
set_option maxRecDepth 100000 in
set_option maxHeartbeats 2000000 in
theorem number_18 (B : Nat) (u : RUnit) (lo' fo go' co' : Option Addr) (lc fc gc' cc' : Nat) (b o : Nat) (x : RIns) (so co go : Option Addr) (sc cc gc : Nat) (w : World) (hu : UBox w B u lo' fo go' co' lc fc gc' cc') (hl : u.funcs.length ≤ 9223372036854775807) (hl2 : u.funs.length ≤ 9223372036854775807) (hf : SlAt w 3 FunR go' u.funs) (hx : IBox w b o x so co go sc cc gc) (hop : x.op = 18) :
  Calls Tryz.prog 33 #[.pointer (some ⟨B, 0, none⟩), .pointer (some ⟨b, o, none⟩)] w fun e w' => e = .returned (.bool (numberB u.funcs.length u.funs x)) ∧ Below w.heap.size w w' := by
 have c0 := hx.c0; have c3 := hx.c3; have c5 := hx.c5
 have b3 := hu.c3; have b4 := hu.c4
 have r1 := hx.rn; have r2 := hx.rsrc
 obtain ⟨r1a, r1b⟩ := r1
 have HF := Lib.hid hf
 clear hu hx hf
 have hw1 : IntKind.i64.wrap ((u.funcs.length : Int) - 1) = (u.funcs.length : Int) - 1 := by rw [IntKind.wrap_i64]; omega
 have hw2 : IntKind.i64.wrap ((u.funs.length : Int) - 1) = (u.funs.length : Int) - 1 := by rw [IntKind.wrap_i64]; omega
 have E : Hid (numberB u.funcs.length u.funs x = wi x.n 0 16) := Lib.hid (by unfold numberB; rw [hop]; rfl)
 rw [hop] at c0
 clear hop
 go_enter Tryz.func33, Tryz.ntmps33
 go_wp2_with (go_at_call 68; refine (within_any _ _ _ _).mono ?_; rintro e w1 ⟨rfl, rfl⟩)
 go_ret
 exact ⟨retb E.out.symm, Below.refl _ _⟩
set_option maxRecDepth 100000 in
set_option maxHeartbeats 2000000 in
theorem number_19 (B : Nat) (u : RUnit) (lo' fo go' co' : Option Addr) (lc fc gc' cc' : Nat) (b o : Nat) (x : RIns) (so co go : Option Addr) (sc cc gc : Nat) (w : World) (hu : UBox w B u lo' fo go' co' lc fc gc' cc') (hl : u.funcs.length ≤ 9223372036854775807) (hl2 : u.funs.length ≤ 9223372036854775807) (hf : SlAt w 3 FunR go' u.funs) (hx : IBox w b o x so co go sc cc gc) (hop : x.op = 19) :
  Calls Tryz.prog 33 #[.pointer (some ⟨B, 0, none⟩), .pointer (some ⟨b, o, none⟩)] w fun e w' => e = .returned (.bool (numberB u.funcs.length u.funs x)) ∧ Below w.heap.size w w' := by
 have c0 := hx.c0; have c3 := hx.c3; have c5 := hx.c5
 have b3 := hu.c3; have b4 := hu.c4
 have r1 := hx.rn; have r2 := hx.rsrc
 obtain ⟨r1a, r1b⟩ := r1
 have HF := Lib.hid hf
 clear hu hx hf
 have hw1 : IntKind.i64.wrap ((u.funcs.length : Int) - 1) = (u.funcs.length : Int) - 1 := by rw [IntKind.wrap_i64]; omega
 have hw2 : IntKind.i64.wrap ((u.funs.length : Int) - 1) = (u.funs.length : Int) - 1 := by rw [IntKind.wrap_i64]; omega
 have E : Hid (numberB u.funcs.length u.funs x = wi x.n 0 16) := Lib.hid (by unfold numberB; rw [hop]; rfl)
 rw [hop] at c0
 clear hop
 go_enter Tryz.func33, Tryz.ntmps33
 go_wp2_with (go_at_call 68; refine (within_any _ _ _ _).mono ?_; rintro e w1 ⟨rfl, rfl⟩)
 go_ret
 exact ⟨retb E.out.symm, Below.refl _ _⟩
set_option maxRecDepth 100000 in
set_option maxHeartbeats 2000000 in
theorem number_20 (B : Nat) (u : RUnit) (lo' fo go' co' : Option Addr) (lc fc gc' cc' : Nat) (b o : Nat) (x : RIns) (so co go : Option Addr) (sc cc gc : Nat) (w : World) (hu : UBox w B u lo' fo go' co' lc fc gc' cc') (hl : u.funcs.length ≤ 9223372036854775807) (hl2 : u.funs.length ≤ 9223372036854775807) (hf : SlAt w 3 FunR go' u.funs) (hx : IBox w b o x so co go sc cc gc) (hop : x.op = 20) :
  Calls Tryz.prog 33 #[.pointer (some ⟨B, 0, none⟩), .pointer (some ⟨b, o, none⟩)] w fun e w' => e = .returned (.bool (numberB u.funcs.length u.funs x)) ∧ Below w.heap.size w w' := by
 have c0 := hx.c0; have c3 := hx.c3; have c5 := hx.c5
 have b3 := hu.c3; have b4 := hu.c4
 have r1 := hx.rn; have r2 := hx.rsrc
 obtain ⟨r1a, r1b⟩ := r1
 have HF := Lib.hid hf
 clear hu hx hf
 have hw1 : IntKind.i64.wrap ((u.funcs.length : Int) - 1) = (u.funcs.length : Int) - 1 := by rw [IntKind.wrap_i64]; omega
 have hw2 : IntKind.i64.wrap ((u.funs.length : Int) - 1) = (u.funs.length : Int) - 1 := by rw [IntKind.wrap_i64]; omega
 have E : Hid (numberB u.funcs.length u.funs x = wi x.n 0 16) := Lib.hid (by unfold numberB; rw [hop]; rfl)
 rw [hop] at c0
 clear hop
 go_enter Tryz.func33, Tryz.ntmps33
 go_wp2_with (go_at_call 68; refine (within_any _ _ _ _).mono ?_; rintro e w1 ⟨rfl, rfl⟩)
 go_ret
 exact ⟨retb E.out.symm, Below.refl _ _⟩
set_option maxRecDepth 100000 in
set_option maxHeartbeats 2000000 in
theorem number_21 (B : Nat) (u : RUnit) (lo' fo go' co' : Option Addr) (lc fc gc' cc' : Nat) (b o : Nat) (x : RIns) (so co go : Option Addr) (sc cc gc : Nat) (w : World) (hu : UBox w B u lo' fo go' co' lc fc gc' cc') (hl : u.funcs.length ≤ 9223372036854775807) (hl2 : u.funs.length ≤ 9223372036854775807) (hf : SlAt w 3 FunR go' u.funs) (hx : IBox w b o x so co go sc cc gc) (hop : x.op = 21) :
  Calls Tryz.prog 33 #[.pointer (some ⟨B, 0, none⟩), .pointer (some ⟨b, o, none⟩)] w fun e w' => e = .returned (.bool (numberB u.funcs.length u.funs x)) ∧ Below w.heap.size w w' := by
 have c0 := hx.c0; have c3 := hx.c3; have c5 := hx.c5
 have b3 := hu.c3; have b4 := hu.c4
 have r1 := hx.rn; have r2 := hx.rsrc
 obtain ⟨r1a, r1b⟩ := r1
 have HF := Lib.hid hf
 clear hu hx hf
 have hw1 : IntKind.i64.wrap ((u.funcs.length : Int) - 1) = (u.funcs.length : Int) - 1 := by rw [IntKind.wrap_i64]; omega
 have hw2 : IntKind.i64.wrap ((u.funs.length : Int) - 1) = (u.funs.length : Int) - 1 := by rw [IntKind.wrap_i64]; omega
 have E : Hid (numberB u.funcs.length u.funs x = wi x.n 0 16) := Lib.hid (by unfold numberB; rw [hop]; rfl)
 rw [hop] at c0
 clear hop
 go_enter Tryz.func33, Tryz.ntmps33
 go_wp2_with (go_at_call 68; refine (within_any _ _ _ _).mono ?_; rintro e w1 ⟨rfl, rfl⟩)
 go_ret
 exact ⟨retb E.out.symm, Below.refl _ _⟩
set_option maxRecDepth 100000 in
set_option maxHeartbeats 2000000 in
theorem number_24 (B : Nat) (u : RUnit) (lo' fo go' co' : Option Addr) (lc fc gc' cc' : Nat) (b o : Nat) (x : RIns) (so co go : Option Addr) (sc cc gc : Nat) (w : World) (hu : UBox w B u lo' fo go' co' lc fc gc' cc') (hl : u.funcs.length ≤ 9223372036854775807) (hl2 : u.funs.length ≤ 9223372036854775807) (hf : SlAt w 3 FunR go' u.funs) (hx : IBox w b o x so co go sc cc gc) (hop : x.op = 24) :
  Calls Tryz.prog 33 #[.pointer (some ⟨B, 0, none⟩), .pointer (some ⟨b, o, none⟩)] w fun e w' => e = .returned (.bool (numberB u.funcs.length u.funs x)) ∧ Below w.heap.size w w' := by
 have c0 := hx.c0; have c3 := hx.c3; have c5 := hx.c5
 have b3 := hu.c3; have b4 := hu.c4
 have r1 := hx.rn; have r2 := hx.rsrc
 obtain ⟨r1a, r1b⟩ := r1
 have HF := Lib.hid hf
 clear hu hx hf
 have hw1 : IntKind.i64.wrap ((u.funcs.length : Int) - 1) = (u.funcs.length : Int) - 1 := by rw [IntKind.wrap_i64]; omega
 have hw2 : IntKind.i64.wrap ((u.funs.length : Int) - 1) = (u.funs.length : Int) - 1 := by rw [IntKind.wrap_i64]; omega
 have E : Hid (numberB u.funcs.length u.funs x = wi x.n 1 8192) := Lib.hid (by unfold numberB; rw [hop]; rfl)
 rw [hop] at c0
 clear hop
 go_enter Tryz.func33, Tryz.ntmps33
 go_wp2_with (go_at_call 68; refine (within_any _ _ _ _).mono ?_; rintro e w1 ⟨rfl, rfl⟩)
 go_ret
 exact ⟨retb E.out.symm, Below.refl _ _⟩
set_option maxRecDepth 100000 in
set_option maxHeartbeats 2000000 in
theorem number_31 (B : Nat) (u : RUnit) (lo' fo go' co' : Option Addr) (lc fc gc' cc' : Nat) (b o : Nat) (x : RIns) (so co go : Option Addr) (sc cc gc : Nat) (w : World) (hu : UBox w B u lo' fo go' co' lc fc gc' cc') (hl : u.funcs.length ≤ 9223372036854775807) (hl2 : u.funs.length ≤ 9223372036854775807) (hf : SlAt w 3 FunR go' u.funs) (hx : IBox w b o x so co go sc cc gc) (hop : x.op = 31) :
  Calls Tryz.prog 33 #[.pointer (some ⟨B, 0, none⟩), .pointer (some ⟨b, o, none⟩)] w fun e w' => e = .returned (.bool (numberB u.funcs.length u.funs x)) ∧ Below w.heap.size w w' := by
 have c0 := hx.c0; have c3 := hx.c3; have c5 := hx.c5
 have b3 := hu.c3; have b4 := hu.c4
 have r1 := hx.rn; have r2 := hx.rsrc
 obtain ⟨r1a, r1b⟩ := r1
 have HF := Lib.hid hf
 clear hu hx hf
 have hw1 : IntKind.i64.wrap ((u.funcs.length : Int) - 1) = (u.funcs.length : Int) - 1 := by rw [IntKind.wrap_i64]; omega
 have hw2 : IntKind.i64.wrap ((u.funs.length : Int) - 1) = (u.funs.length : Int) - 1 := by rw [IntKind.wrap_i64]; omega
 have E : Hid (numberB u.funcs.length u.funs x = wi x.n 0 3) := Lib.hid (by unfold numberB; rw [hop]; rfl)
 rw [hop] at c0
 clear hop
 go_enter Tryz.func33, Tryz.ntmps33
 go_wp2_with (go_at_call 68; refine (within_any _ _ _ _).mono ?_; rintro e w1 ⟨rfl, rfl⟩)
 go_ret
 exact ⟨retb E.out.symm, Below.refl _ _⟩
set_option maxRecDepth 100000 in
set_option maxHeartbeats 2000000 in
theorem number_16 (B : Nat) (u : RUnit) (lo' fo go' co' : Option Addr) (lc fc gc' cc' : Nat) (b o : Nat) (x : RIns) (so co go : Option Addr) (sc cc gc : Nat) (w : World) (hu : UBox w B u lo' fo go' co' lc fc gc' cc') (hl : u.funcs.length ≤ 9223372036854775807) (hl2 : u.funs.length ≤ 9223372036854775807) (hf : SlAt w 3 FunR go' u.funs) (hx : IBox w b o x so co go sc cc gc) (hop : x.op = 16) :
  Calls Tryz.prog 33 #[.pointer (some ⟨B, 0, none⟩), .pointer (some ⟨b, o, none⟩)] w fun e w' => e = .returned (.bool (numberB u.funcs.length u.funs x)) ∧ Below w.heap.size w w' := by
 have c0 := hx.c0; have c3 := hx.c3; have c5 := hx.c5
 have b3 := hu.c3; have b4 := hu.c4
 have r1 := hx.rn; have r2 := hx.rsrc
 obtain ⟨r1a, r1b⟩ := r1
 have HF := Lib.hid hf
 clear hu hx hf
 have hw1 : IntKind.i64.wrap ((u.funcs.length : Int) - 1) = (u.funcs.length : Int) - 1 := by rw [IntKind.wrap_i64]; omega
 have hw2 : IntKind.i64.wrap ((u.funs.length : Int) - 1) = (u.funs.length : Int) - 1 := by rw [IntKind.wrap_i64]; omega
 have E : Hid (numberB u.funcs.length u.funs x = wi x.n 0 ((u.funcs.length : Int) - 1)) := Lib.hid (by unfold numberB; rw [hop]; rfl)
 rw [hop] at c0
 clear hop
 go_enter Tryz.func33, Tryz.ntmps33
 go_wp2_with fail
 go_quiet ((go_at_call 68; exact Calls.quiet_of_same ((within_any _ _ _ _).mono fun _ _ ⟨a, b⟩ => ⟨a, b.symm⟩)))
 go_wp2_with fail
 go_ret
 exact ⟨retb E.out.symm, below_drewN (Below.refl _ _) _⟩
set_option maxRecDepth 100000 in
set_option maxHeartbeats 2000000 in
theorem number_17 (B : Nat) (u : RUnit) (lo' fo go' co' : Option Addr) (lc fc gc' cc' : Nat) (b o : Nat) (x : RIns) (so co go : Option Addr) (sc cc gc : Nat) (w : World) (hu : UBox w B u lo' fo go' co' lc fc gc' cc') (hl : u.funcs.length ≤ 9223372036854775807) (hl2 : u.funs.length ≤ 9223372036854775807) (hf : SlAt w 3 FunR go' u.funs) (hx : IBox w b o x so co go sc cc gc) (hop : x.op = 17) :
  Calls Tryz.prog 33 #[.pointer (some ⟨B, 0, none⟩), .pointer (some ⟨b, o, none⟩)] w fun e w' => e = .returned (.bool (numberB u.funcs.length u.funs x)) ∧ Below w.heap.size w w' := by
 have c0 := hx.c0; have c3 := hx.c3; have c5 := hx.c5
 have b3 := hu.c3; have b4 := hu.c4
 have r1 := hx.rn; have r2 := hx.rsrc
 obtain ⟨r1a, r1b⟩ := r1
 have HF := Lib.hid hf
 clear hu hx hf
 have hw1 : IntKind.i64.wrap ((u.funcs.length : Int) - 1) = (u.funcs.length : Int) - 1 := by rw [IntKind.wrap_i64]; omega
 have hw2 : IntKind.i64.wrap ((u.funs.length : Int) - 1) = (u.funs.length : Int) - 1 := by rw [IntKind.wrap_i64]; omega
 have E : Hid (numberB u.funcs.length u.funs x = wi x.n 0 ((u.funcs.length : Int) - 1)) := Lib.hid (by unfold numberB; rw [hop]; rfl)
 rw [hop] at c0
 clear hop
 go_enter Tryz.func33, Tryz.ntmps33
 go_wp2_with fail
 go_quiet ((go_at_call 68; exact Calls.quiet_of_same ((within_any _ _ _ _).mono fun _ _ ⟨a, b⟩ => ⟨a, b.symm⟩)))
 go_wp2_with fail
 go_ret
 exact ⟨retb E.out.symm, below_drewN (Below.refl _ _) _⟩
set_option maxRecDepth 100000 in
set_option maxHeartbeats 2000000 in
theorem number_32 (B : Nat) (u : RUnit) (lo' fo go' co' : Option Addr) (lc fc gc' cc' : Nat) (b o : Nat) (x : RIns) (so co go : Option Addr) (sc cc gc : Nat) (w : World) (hu : UBox w B u lo' fo go' co' lc fc gc' cc') (hl : u.funcs.length ≤ 9223372036854775807) (hl2 : u.funs.length ≤ 9223372036854775807) (hf : SlAt w 3 FunR go' u.funs) (hx : IBox w b o x so co go sc cc gc) (hop : x.op = 32) :
  Calls Tryz.prog 33 #[.pointer (some ⟨B, 0, none⟩), .pointer (some ⟨b, o, none⟩)] w fun e w' => e = .returned (.bool (numberB u.funcs.length u.funs x)) ∧ Below w.heap.size w w' := by
 have c0 := hx.c0; have c3 := hx.c3; have c5 := hx.c5
 have b3 := hu.c3; have b4 := hu.c4
 have r1 := hx.rn; have r2 := hx.rsrc
 obtain ⟨r1a, r1b⟩ := r1
 have HF := Lib.hid hf
 clear hu hx hf
 have hw1 : IntKind.i64.wrap ((u.funcs.length : Int) - 1) = (u.funcs.length : Int) - 1 := by rw [IntKind.wrap_i64]; omega
 have hw2 : IntKind.i64.wrap ((u.funs.length : Int) - 1) = (u.funs.length : Int) - 1 := by rw [IntKind.wrap_i64]; omega
 have E : Hid (numberB u.funcs.length u.funs x = (decide (x.n = 1) || decide (x.n = 8))) := Lib.hid (by unfold numberB; rw [hop]; rfl)
 rw [hop] at c0
 clear hop
 by_cases n1 : x.n = 1
 ·have t1 : (x.n == 1) = true := by rw [n1]; rfl
  have E2 : Hid (numberB u.funcs.length u.funs x = true) := Lib.hid (by rw [E.out, decide_eq_true n1]; rfl)
  clear n1
  go_enter Tryz.func33, Tryz.ntmps33
  go_wp2_with fail
  go_ret
  exact ⟨retb E2.out.symm, Below.refl _ _⟩
 ·have t1 : (x.n == 1) = false := beq_eq_false_iff_ne.2 n1
  by_cases n8 : x.n = 8
  ·have t2 : (x.n == 8) = true := by rw [n8]; rfl
   have E2 : Hid (numberB u.funcs.length u.funs x = true) := Lib.hid (by rw [E.out, decide_eq_true n8]; simp)
   clear n1 n8
   go_enter Tryz.func33, Tryz.ntmps33
   go_wp2_with fail
   go_ret
   exact ⟨retb E2.out.symm, Below.refl _ _⟩
  ·have t2 : (x.n == 8) = false := beq_eq_false_iff_ne.2 n8
   have E2 : Hid (numberB u.funcs.length u.funs x = false) := Lib.hid (by rw [E.out, decide_eq_false n1, decide_eq_false n8]; rfl)
   clear n1 n8
   go_enter Tryz.func33, Tryz.ntmps33
   go_wp2_with fail
   go_ret
   exact ⟨retb E2.out.symm, Below.refl _ _⟩
set_option maxRecDepth 100000 in
set_option maxHeartbeats 2000000 in
theorem number_33 (B : Nat) (u : RUnit) (lo' fo go' co' : Option Addr) (lc fc gc' cc' : Nat) (b o : Nat) (x : RIns) (so co go : Option Addr) (sc cc gc : Nat) (w : World) (hu : UBox w B u lo' fo go' co' lc fc gc' cc') (hl : u.funcs.length ≤ 9223372036854775807) (hl2 : u.funs.length ≤ 9223372036854775807) (hf : SlAt w 3 FunR go' u.funs) (hx : IBox w b o x so co go sc cc gc) (hop : x.op = 33) :
  Calls Tryz.prog 33 #[.pointer (some ⟨B, 0, none⟩), .pointer (some ⟨b, o, none⟩)] w fun e w' => e = .returned (.bool (numberB u.funcs.length u.funs x)) ∧ Below w.heap.size w w' := by
 have c0 := hx.c0; have c3 := hx.c3; have c5 := hx.c5
 have b3 := hu.c3; have b4 := hu.c4
 have r1 := hx.rn; have r2 := hx.rsrc
 obtain ⟨r1a, r1b⟩ := r1
 have HF := Lib.hid hf
 clear hu hx hf
 have hw1 : IntKind.i64.wrap ((u.funcs.length : Int) - 1) = (u.funcs.length : Int) - 1 := by rw [IntKind.wrap_i64]; omega
 have hw2 : IntKind.i64.wrap ((u.funs.length : Int) - 1) = (u.funs.length : Int) - 1 := by rw [IntKind.wrap_i64]; omega
 have E : Hid (numberB u.funcs.length u.funs x = (decide (x.n = 1) || decide (x.n = 8))) := Lib.hid (by unfold numberB; rw [hop]; rfl)
 rw [hop] at c0
 clear hop
 by_cases n1 : x.n = 1
 ·have t1 : (x.n == 1) = true := by rw [n1]; rfl
  have E2 : Hid (numberB u.funcs.length u.funs x = true) := Lib.hid (by rw [E.out, decide_eq_true n1]; rfl)
  clear n1
  go_enter Tryz.func33, Tryz.ntmps33
  go_wp2_with fail
  go_ret
  exact ⟨retb E2.out.symm, Below.refl _ _⟩
 ·have t1 : (x.n == 1) = false := beq_eq_false_iff_ne.2 n1
  by_cases n8 : x.n = 8
  ·have t2 : (x.n == 8) = true := by rw [n8]; rfl
   have E2 : Hid (numberB u.funcs.length u.funs x = true) := Lib.hid (by rw [E.out, decide_eq_true n8]; simp)
   clear n1 n8
   go_enter Tryz.func33, Tryz.ntmps33
   go_wp2_with fail
   go_ret
   exact ⟨retb E2.out.symm, Below.refl _ _⟩
  ·have t2 : (x.n == 8) = false := beq_eq_false_iff_ne.2 n8
   have E2 : Hid (numberB u.funcs.length u.funs x = false) := Lib.hid (by rw [E.out, decide_eq_false n1, decide_eq_false n8]; rfl)
   clear n1 n8
   go_enter Tryz.func33, Tryz.ntmps33
   go_wp2_with fail
   go_ret
   exact ⟨retb E2.out.symm, Below.refl _ _⟩
set_option maxRecDepth 100000 in
set_option maxHeartbeats 2000000 in
theorem number_rest (B : Nat) (u : RUnit) (lo' fo go' co' : Option Addr) (lc fc gc' cc' : Nat) (b o : Nat) (x : RIns) (so co go : Option Addr) (sc cc gc : Nat) (w : World) (hu : UBox w B u lo' fo go' co' lc fc gc' cc') (hl : u.funcs.length ≤ 9223372036854775807) (hl2 : u.funs.length ≤ 9223372036854775807) (hf : SlAt w 3 FunR go' u.funs) (hx : IBox w b o x so co go sc cc gc) (h5 : ¬ x.op = 5) (h9 : ¬ x.op = 9) (h15 : ¬ x.op = 15) (h18 : ¬ x.op = 18) (h19 : ¬ x.op = 19) (h20 : ¬ x.op = 20) (h21 : ¬ x.op = 21) (h24 : ¬ x.op = 24) (h31 : ¬ x.op = 31) (h16 : ¬ x.op = 16) (h17 : ¬ x.op = 17) (h32 : ¬ x.op = 32) (h33 : ¬ x.op = 33) (h4 : ¬ x.op = 4) :
  Calls Tryz.prog 33 #[.pointer (some ⟨B, 0, none⟩), .pointer (some ⟨b, o, none⟩)] w fun e w' => e = .returned (.bool (numberB u.funcs.length u.funs x)) ∧ Below w.heap.size w w' := by
 have c0 := hx.c0; have c3 := hx.c3; have c5 := hx.c5
 have b3 := hu.c3; have b4 := hu.c4
 have r1 := hx.rn; have r2 := hx.rsrc
 obtain ⟨r1a, r1b⟩ := r1
 have HF := Lib.hid hf
 clear hu hx hf
 have hw1 : IntKind.i64.wrap ((u.funcs.length : Int) - 1) = (u.funcs.length : Int) - 1 := by rw [IntKind.wrap_i64]; omega
 have hw2 : IntKind.i64.wrap ((u.funs.length : Int) - 1) = (u.funs.length : Int) - 1 := by rw [IntKind.wrap_i64]; omega
 have E : Hid (numberB u.funcs.length u.funs x = true) := Lib.hid (by unfold numberB; rw [if_neg h4, if_neg h5, if_neg h9, if_neg (by omega), if_neg (by omega), if_neg h24, if_neg h31, if_neg (by omega)])
 have t5 : (x.op == 5) = false := beq_eq_false_iff_ne.2 h5
 have t9 : (x.op == 9) = false := beq_eq_false_iff_ne.2 h9
 have t15 : (x.op == 15) = false := beq_eq_false_iff_ne.2 h15
 have t18 : (x.op == 18) = false := beq_eq_false_iff_ne.2 h18
 have t19 : (x.op == 19) = false := beq_eq_false_iff_ne.2 h19
 have t20 : (x.op == 20) = false := beq_eq_false_iff_ne.2 h20
 have t21 : (x.op == 21) = false := beq_eq_false_iff_ne.2 h21
 have t24 : (x.op == 24) = false := beq_eq_false_iff_ne.2 h24
 have t31 : (x.op == 31) = false := beq_eq_false_iff_ne.2 h31
 have t16 : (x.op == 16) = false := beq_eq_false_iff_ne.2 h16
 have t17 : (x.op == 17) = false := beq_eq_false_iff_ne.2 h17
 have t32 : (x.op == 32) = false := beq_eq_false_iff_ne.2 h32
 have t33 : (x.op == 33) = false := beq_eq_false_iff_ne.2 h33
 have t4 : (x.op == 4) = false := beq_eq_false_iff_ne.2 h4
 clear h5 h9 h15 h18 h19 h20 h21 h24 h31 h16 h17 h32 h33 h4
 go_enter Tryz.func33, Tryz.ntmps33
 go_wp2_with fail
 go_ret
 exact ⟨retb E.out.symm, Below.refl _ _⟩

end Go.Proofs.YtghgbikmlbildaaGreatDoor
namespace Go.Proofs.YtghgbikmlbildaaGreatDoor
open Go.RowKit
set_option linter.unusedVariables false
set_option linter.unusedSimpArgs false

set_option maxRecDepth 100000 in
set_option maxHeartbeats 2000000 in
theorem number_4 (B : Nat) (u : RUnit) (lo' fo go' co' : Option Addr) (lc fc gc' cc' : Nat) (b o : Nat) (x : RIns) (so co go : Option Addr) (sc cc gc : Nat) (w : World) (hu : UBox w B u lo' fo go' co' lc fc gc' cc') (hl : u.funcs.length ≤ 9223372036854775807) (hl2 : u.funs.length ≤ 9223372036854775807) (hf : SlAt w 3 FunR go' u.funs) (hx : IBox w b o x so co go sc cc gc) (hop : x.op = 4) :
  Calls Tryz.prog 33 #[.pointer (some ⟨B, 0, none⟩), .pointer (some ⟨b, o, none⟩)] w fun e w' => e = .returned (.bool (numberB u.funcs.length u.funs x)) ∧ Below w.heap.size w w' := by
 have c0 := hx.c0; have c3 := hx.c3; have c5 := hx.c5
 have b3 := hu.c3; have b4 := hu.c4
 have r1 := hx.rn; have r2 := hx.rsrc
 obtain ⟨r1a, r1b⟩ := r1
 have HF := Lib.hid hf
 clear hu hx hf
 have hw1 : IntKind.i64.wrap ((u.funcs.length : Int) - 1) = (u.funcs.length : Int) - 1 := by rw [IntKind.wrap_i64]; omega
 have hw2 : IntKind.i64.wrap ((u.funs.length : Int) - 1) = (u.funs.length : Int) - 1 := by rw [IntKind.wrap_i64]; omega
 have E : Hid (numberB u.funcs.length u.funs x = (wi x.n 0 ((u.funs.length : Int) - 1) && (match u.funs[x.n.toNat]? with
   | some f => decide ((x.src.length : Int) = f.free)
   | none => false))) := Lib.hid (by unfold numberB; rw [hop]; rfl)
 rw [hop] at c0
 clear hop
 cases hw : wi x.n 0 ((u.funs.length : Int) - 1) with
 | false =>
  have E2 : Hid (numberB u.funcs.length u.funs x = false) := Lib.hid (by rw [E.out, hw]; rfl)
  have hwr : ∀ wx, Calls Tryz.prog 68 #[.int .i64 x.n, .int .i64 0, .int .i64 ((u.funs.length : Int) - 1)] wx fun e w' => e = .returned (.bool false) ∧ w' = wx := fun wx => by
   have := within_any x.n 0 ((u.funs.length : Int) - 1) wx
   rw [hw] at this
   exact this.mono fun _ _ ⟨a, b⟩ => ⟨a, b.symm⟩
  clear hw E
  go_enter Tryz.func33, Tryz.ntmps33
  go_wp2_with fail
  go_quiet ((go_at_call 68; exact Calls.quiet_of_same (hwr _)))
  go_wp2_with fail
  go_ret
  exact ⟨retb E2.out.symm, below_drewN (Below.refl _ _) _⟩
 | true =>
  have hr : 0 ≤ x.n ∧ x.n ≤ (u.funs.length : Int) - 1 := by
   unfold wi at hw
   rw [Bool.and_eq_true, decide_eq_true_eq, decide_eq_true_eq] at hw
   exact hw
  obtain ⟨m, hm⟩ := Int.eq_ofNat_of_zero_le hr.1
  have hml : m < u.funs.length := by omega
  obtain ⟨b2, off, hao, hb2, q0, q1, q2, _, _, _⟩ := HF.out.fn hml
  subst hao
  have E2 : Hid (numberB u.funcs.length u.funs x = decide ((x.src.length : Int) = u.funs[m].free)) := Lib.hid (by
   rw [E.out, hw, hm]
   have : u.funs[(((m : Nat) : Int)).toNat]? = some u.funs[m] := by rw [Int.toNat_natCast]; exact List.getElem?_eq_getElem hml
   rw [this]; rfl)
  have hwr : ∀ wx, Calls Tryz.prog 68 #[.int .i64 (m : Int), .int .i64 0, .int .i64 ((u.funs.length : Int) - 1)] wx fun e w' => e = .returned (.bool true) ∧ w' = wx := fun wx => by
   have := within_any (m : Int) 0 ((u.funs.length : Int) - 1) wx
   rw [← hm, hw] at this
   rw [← hm]
   exact this.mono fun _ _ ⟨a, b⟩ => ⟨a, b.symm⟩
  rw [hm] at c5
  clear hw hr E r1a r1b
  generalize u.funs[m].free = z at *
  generalize x.n = xn at *
  by_cases hz : (x.src.length : Int) = z
  ·have E3 : Hid (numberB u.funcs.length u.funs x = true) := Lib.hid (by rw [E2.out, decide_eq_true hz])
   have t : ((x.src.length : Int) == z) = true := by rw [hz]; exact beq_self_eq_true _
   clear hz hm
   go_enter Tryz.func33, Tryz.ntmps33
   go_wp2_with fail
   go_quiet ((go_at_call 68; exact Calls.quiet_of_same (hwr _)))
   go_wp2_with fail
   go_ret
   exact ⟨retb E3.out.symm, below_drewN (Below.refl _ _) _⟩
  ·have E3 : Hid (numberB u.funcs.length u.funs x = false) := Lib.hid (by rw [E2.out, decide_eq_false hz])
   have t : ((x.src.length : Int) == z) = false := beq_eq_false_iff_ne.2 hz
   clear hz hm
   go_enter Tryz.func33, Tryz.ntmps33
   go_wp2_with fail
   go_quiet ((go_at_call 68; exact Calls.quiet_of_same (hwr _)))
   go_wp2_with fail
   go_ret
   exact ⟨retb E3.out.symm, below_drewN (Below.refl _ _) _⟩
theorem number_any (B : Nat) (u : RUnit) (lo' fo go' co' : Option Addr) (lc fc gc' cc' : Nat) (b o : Nat) (x : RIns) (so co go : Option Addr) (sc cc gc : Nat) (w : World) (hu : UBox w B u lo' fo go' co' lc fc gc' cc') (hl : u.funcs.length ≤ 9223372036854775807) (hl2 : u.funs.length ≤ 9223372036854775807) (hf : SlAt w 3 FunR go' u.funs) (hx : IBox w b o x so co go sc cc gc) :
  Calls Tryz.prog 33 #[.pointer (some ⟨B, 0, none⟩), .pointer (some ⟨b, o, none⟩)] w fun e w' => e = .returned (.bool (numberB u.funcs.length u.funs x)) ∧ Below w.heap.size w w' := by
 by_cases h5 : x.op = 5
 ·exact number_5 B u lo' fo go' co' lc fc gc' cc' b o x so co go sc cc gc w hu hl hl2 hf hx h5
 by_cases h9 : x.op = 9
 ·exact number_9 B u lo' fo go' co' lc fc gc' cc' b o x so co go sc cc gc w hu hl hl2 hf hx h9
 by_cases h15 : x.op = 15
 ·exact number_15 B u lo' fo go' co' lc fc gc' cc' b o x so co go sc cc gc w hu hl hl2 hf hx h15
 by_cases h18 : x.op = 18
 ·exact number_18 B u lo' fo go' co' lc fc gc' cc' b o x so co go sc cc gc w hu hl hl2 hf hx h18
 by_cases h19 : x.op = 19
 ·exact number_19 B u lo' fo go' co' lc fc gc' cc' b o x so co go sc cc gc w hu hl hl2 hf hx h19
 by_cases h20 : x.op = 20
 ·exact number_20 B u lo' fo go' co' lc fc gc' cc' b o x so co go sc cc gc w hu hl hl2 hf hx h20
 by_cases h21 : x.op = 21
 ·exact number_21 B u lo' fo go' co' lc fc gc' cc' b o x so co go sc cc gc w hu hl hl2 hf hx h21
 by_cases h24 : x.op = 24
 ·exact number_24 B u lo' fo go' co' lc fc gc' cc' b o x so co go sc cc gc w hu hl hl2 hf hx h24
 by_cases h31 : x.op = 31
 ·exact number_31 B u lo' fo go' co' lc fc gc' cc' b o x so co go sc cc gc w hu hl hl2 hf hx h31
 by_cases h16 : x.op = 16
 ·exact number_16 B u lo' fo go' co' lc fc gc' cc' b o x so co go sc cc gc w hu hl hl2 hf hx h16
 by_cases h17 : x.op = 17
 ·exact number_17 B u lo' fo go' co' lc fc gc' cc' b o x so co go sc cc gc w hu hl hl2 hf hx h17
 by_cases h32 : x.op = 32
 ·exact number_32 B u lo' fo go' co' lc fc gc' cc' b o x so co go sc cc gc w hu hl hl2 hf hx h32
 by_cases h33 : x.op = 33
 ·exact number_33 B u lo' fo go' co' lc fc gc' cc' b o x so co go sc cc gc w hu hl hl2 hf hx h33
 by_cases h4 : x.op = 4
 ·exact number_4 B u lo' fo go' co' lc fc gc' cc' b o x so co go sc cc gc w hu hl hl2 hf hx h4
 exact number_rest B u lo' fo go' co' lc fc gc' cc' b o x so co go sc cc gc w hu hl hl2 hf hx h5 h9 h15 h18 h19 h20 h21 h24 h31 h16 h17 h32 h33 h4

end Go.Proofs.YtghgbikmlbildaaGreatDoor
namespace Go.Proofs.YtghgbikmlbildaaGreatDoor
open Go.RowKit
set_option linter.unusedVariables false
set_option linter.unusedSimpArgs false

def opTwo : List (List UInt8) := [[43], [42], [100, 105, 118], [114, 101, 109], [98, 97, 110, 100], [98, 111, 114], [98, 120, 111, 114], [98, 115, 108], [98, 115, 114], [97, 110, 100], [111, 114], [120, 111, 114], [61, 58, 61], [61, 47, 61], [60], [61, 60], [62], [62, 61], [43, 43]]
/-- Is this the name of an operator with n operands? -/
def operB (s : ByteArray) (n : Int) : Bool :=
 if s.toList == [45] then n == 1 || n == 2 else if s.toList == [98, 110, 111, 116] || s.toList == [110, 111, 116] then n == 1 else if opTwo.any (fun x => s.toList == x) then n == 2 else false

set_option maxRecDepth 100000 in
set_option maxHeartbeats 8000000 in
theorem operator_any (s : ByteArray) (n : Int) (w : World) : Calls Tryz.prog 81 #[.string s, .int .i64 n] w fun e w' => e = .returned (.bool (operB s n)) ∧ w = w' := by
 cases t0 : (s.toList == [45]) with
 | true =>
  have E : Hid (operB s n = (n == 1 || n == 2)) := Lib.hid (by unfold operB; rw [t0]; rfl)
  cases q1 : (n == 1) with
  | true =>
   rw [q1] at E
   go_enter Tryz.func81, Tryz.ntmps81
   go_wp2_with fail
   go_ret
   exact ⟨retb E.out.symm, rfl⟩
  | false =>
   rw [q1] at E
   go_enter Tryz.func81, Tryz.ntmps81
   go_wp2_with fail
   go_ret
   exact ⟨retb E.out.symm, rfl⟩
 | false =>
  cases t1 : (s.toList == [98, 110, 111, 116]) with
  | true =>
    have E : Hid (operB s n = (n == 1)) := Lib.hid (by unfold operB; rw [t0, t1]; rfl)
    go_enter Tryz.func81, Tryz.ntmps81
    go_wp2_with fail
    go_ret
    exact ⟨retb E.out.symm, rfl⟩
  | false =>
  cases t2 : (s.toList == [110, 111, 116]) with
  | true =>
   have E : Hid (operB s n = (n == 1)) := Lib.hid (by unfold operB; rw [t0, t1, t2]; rfl)
   go_enter Tryz.func81, Tryz.ntmps81
   go_wp2_with fail
   go_ret
   exact ⟨retb E.out.symm, rfl⟩
  | false =>
   cases t3 : (s.toList == [43]) with
   | true =>
     have E : Hid (operB s n = (n == 2)) := Lib.hid (by unfold operB opTwo; simp only [List.any_cons, List.any_nil, t0, t1, t2, t3, Bool.false_or, Bool.or_false, Bool.true_or, Bool.or_true, if_true]; rfl)
     go_enter Tryz.func81, Tryz.ntmps81
     go_wp2_with fail
     go_ret
     exact ⟨retb E.out.symm, rfl⟩
   | false =>
   cases t4 : (s.toList == [42]) with
   | true =>
    have E : Hid (operB s n = (n == 2)) := Lib.hid (by unfold operB opTwo; simp only [List.any_cons, List.any_nil, t0, t1, t2, t3, t4, Bool.false_or, Bool.or_false, Bool.true_or, Bool.or_true, if_true]; rfl)
    go_enter Tryz.func81, Tryz.ntmps81
    go_wp2_with fail
    go_ret
    exact ⟨retb E.out.symm, rfl⟩
   | false =>
    cases t5 : (s.toList == [100, 105, 118]) with
    | true =>
      have E : Hid (operB s n = (n == 2)) := Lib.hid (by unfold operB opTwo; simp only [List.any_cons, List.any_nil, t0, t1, t2, t3, t4, t5, Bool.false_or, Bool.or_false, Bool.true_or, Bool.or_true, if_true]; rfl)
      go_enter Tryz.func81, Tryz.ntmps81
      go_wp2_with fail
      go_ret
      exact ⟨retb E.out.symm, rfl⟩
    | false =>
    cases t6 : (s.toList == [114, 101, 109]) with
    | true =>
     have E : Hid (operB s n = (n == 2)) := Lib.hid (by unfold operB opTwo; simp only [List.any_cons, List.any_nil, t0, t1, t2, t3, t4, t5, t6, Bool.false_or, Bool.or_false, Bool.true_or, Bool.or_true, if_true]; rfl)
     go_enter Tryz.func81, Tryz.ntmps81
     go_wp2_with fail
     go_ret
     exact ⟨retb E.out.symm, rfl⟩
    | false =>
     cases t7 : (s.toList == [98, 97, 110, 100]) with
     | true =>
       have E : Hid (operB s n = (n == 2)) := Lib.hid (by unfold operB opTwo; simp only [List.any_cons, List.any_nil, t0, t1, t2, t3, t4, t5, t6, t7, Bool.false_or, Bool.or_false, Bool.true_or, Bool.or_true, if_true]; rfl)
       go_enter Tryz.func81, Tryz.ntmps81
       go_wp2_with fail
       go_ret
       exact ⟨retb E.out.symm, rfl⟩
     | false =>
     cases t8 : (s.toList == [98, 111, 114]) with
     | true =>
      have E : Hid (operB s n = (n == 2)) := Lib.hid (by unfold operB opTwo; simp only [List.any_cons, List.any_nil, t0, t1, t2, t3, t4, t5, t6, t7, t8, Bool.false_or, Bool.or_false, Bool.true_or, Bool.or_true, if_true]; rfl)
      go_enter Tryz.func81, Tryz.ntmps81
      go_wp2_with fail
      go_ret
      exact ⟨retb E.out.symm, rfl⟩
     | false =>
      cases t9 : (s.toList == [98, 120, 111, 114]) with
      | true =>
        have E : Hid (operB s n = (n == 2)) := Lib.hid (by unfold operB opTwo; simp only [List.any_cons, List.any_nil, t0, t1, t2, t3, t4, t5, t6, t7, t8, t9, Bool.false_or, Bool.or_false, Bool.true_or, Bool.or_true, if_true]; rfl)
        go_enter Tryz.func81, Tryz.ntmps81
        go_wp2_with fail
        go_ret
        exact ⟨retb E.out.symm, rfl⟩
      | false =>
      cases t10 : (s.toList == [98, 115, 108]) with
      | true =>
       have E : Hid (operB s n = (n == 2)) := Lib.hid (by unfold operB opTwo; simp only [List.any_cons, List.any_nil, t0, t1, t2, t3, t4, t5, t6, t7, t8, t9, t10, Bool.false_or, Bool.or_false, Bool.true_or, Bool.or_true, if_true]; rfl)
       go_enter Tryz.func81, Tryz.ntmps81
       go_wp2_with fail
       go_ret
       exact ⟨retb E.out.symm, rfl⟩
      | false =>
       cases t11 : (s.toList == [98, 115, 114]) with
       | true =>
         have E : Hid (operB s n = (n == 2)) := Lib.hid (by unfold operB opTwo; simp only [List.any_cons, List.any_nil, t0, t1, t2, t3, t4, t5, t6, t7, t8, t9, t10, t11, Bool.false_or, Bool.or_false, Bool.true_or, Bool.or_true, if_true]; rfl)
         go_enter Tryz.func81, Tryz.ntmps81
         go_wp2_with fail
         go_ret
         exact ⟨retb E.out.symm, rfl⟩
       | false =>
       cases t12 : (s.toList == [97, 110, 100]) with
       | true =>
        have E : Hid (operB s n = (n == 2)) := Lib.hid (by unfold operB opTwo; simp only [List.any_cons, List.any_nil, t0, t1, t2, t3, t4, t5, t6, t7, t8, t9, t10, t11, t12, Bool.false_or, Bool.or_false, Bool.true_or, Bool.or_true, if_true]; rfl)
        go_enter Tryz.func81, Tryz.ntmps81
        go_wp2_with fail
        go_ret
        exact ⟨retb E.out.symm, rfl⟩
       | false =>
        cases t13 : (s.toList == [111, 114]) with
        | true =>
          have E : Hid (operB s n = (n == 2)) := Lib.hid (by unfold operB opTwo; simp only [List.any_cons, List.any_nil, t0, t1, t2, t3, t4, t5, t6, t7, t8, t9, t10, t11, t12, t13, Bool.false_or, Bool.or_false, Bool.true_or, Bool.or_true, if_true]; rfl)
          go_enter Tryz.func81, Tryz.ntmps81
          go_wp2_with fail
          go_ret
          exact ⟨retb E.out.symm, rfl⟩
        | false =>
        cases t14 : (s.toList == [120, 111, 114]) with
        | true =>
         have E : Hid (operB s n = (n == 2)) := Lib.hid (by unfold operB opTwo; simp only [List.any_cons, List.any_nil, t0, t1, t2, t3, t4, t5, t6, t7, t8, t9, t10, t11, t12, t13, t14, Bool.false_or, Bool.or_false, Bool.true_or, Bool.or_true, if_true]; rfl)
         go_enter Tryz.func81, Tryz.ntmps81
         go_wp2_with fail
         go_ret
         exact ⟨retb E.out.symm, rfl⟩
        | false =>
         cases t15 : (s.toList == [61, 58, 61]) with
         | true =>
           have E : Hid (operB s n = (n == 2)) := Lib.hid (by unfold operB opTwo; simp only [List.any_cons, List.any_nil, t0, t1, t2, t3, t4, t5, t6, t7, t8, t9, t10, t11, t12, t13, t14, t15, Bool.false_or, Bool.or_false, Bool.true_or, Bool.or_true, if_true]; rfl)
           go_enter Tryz.func81, Tryz.ntmps81
           go_wp2_with fail
           go_ret
           exact ⟨retb E.out.symm, rfl⟩
         | false =>
         cases t16 : (s.toList == [61, 47, 61]) with
         | true =>
          have E : Hid (operB s n = (n == 2)) := Lib.hid (by unfold operB opTwo; simp only [List.any_cons, List.any_nil, t0, t1, t2, t3, t4, t5, t6, t7, t8, t9, t10, t11, t12, t13, t14, t15, t16, Bool.false_or, Bool.or_false, Bool.true_or, Bool.or_true, if_true]; rfl)
          go_enter Tryz.func81, Tryz.ntmps81
          go_wp2_with fail
          go_ret
          exact ⟨retb E.out.symm, rfl⟩
         | false =>
          cases t17 : (s.toList == [60]) with
          | true =>
            have E : Hid (operB s n = (n == 2)) := Lib.hid (by unfold operB opTwo; simp only [List.any_cons, List.any_nil, t0, t1, t2, t3, t4, t5, t6, t7, t8, t9, t10, t11, t12, t13, t14, t15, t16, t17, Bool.false_or, Bool.or_false, Bool.true_or, Bool.or_true, if_true]; rfl)
            go_enter Tryz.func81, Tryz.ntmps81
            go_wp2_with fail
            go_ret
            exact ⟨retb E.out.symm, rfl⟩
          | false =>
          cases t18 : (s.toList == [61, 60]) with
          | true =>
           have E : Hid (operB s n = (n == 2)) := Lib.hid (by unfold operB opTwo; simp only [List.any_cons, List.any_nil, t0, t1, t2, t3, t4, t5, t6, t7, t8, t9, t10, t11, t12, t13, t14, t15, t16, t17, t18, Bool.false_or, Bool.or_false, Bool.true_or, Bool.or_true, if_true]; rfl)
           go_enter Tryz.func81, Tryz.ntmps81
           go_wp2_with fail
           go_ret
           exact ⟨retb E.out.symm, rfl⟩
          | false =>
           cases t19 : (s.toList == [62]) with
           | true =>
             have E : Hid (operB s n = (n == 2)) := Lib.hid (by unfold operB opTwo; simp only [List.any_cons, List.any_nil, t0, t1, t2, t3, t4, t5, t6, t7, t8, t9, t10, t11, t12, t13, t14, t15, t16, t17, t18, t19, Bool.false_or, Bool.or_false, Bool.true_or, Bool.or_true, if_true]; rfl)
             go_enter Tryz.func81, Tryz.ntmps81
             go_wp2_with fail
             go_ret
             exact ⟨retb E.out.symm, rfl⟩
           | false =>
           cases t20 : (s.toList == [62, 61]) with
           | true =>
            have E : Hid (operB s n = (n == 2)) := Lib.hid (by unfold operB opTwo; simp only [List.any_cons, List.any_nil, t0, t1, t2, t3, t4, t5, t6, t7, t8, t9, t10, t11, t12, t13, t14, t15, t16, t17, t18, t19, t20, Bool.false_or, Bool.or_false, Bool.true_or, Bool.or_true, if_true]; rfl)
            go_enter Tryz.func81, Tryz.ntmps81
            go_wp2_with fail
            go_ret
            exact ⟨retb E.out.symm, rfl⟩
           | false =>
            cases t21 : (s.toList == [43, 43]) with
            | true =>
              have E : Hid (operB s n = (n == 2)) := Lib.hid (by unfold operB opTwo; simp only [List.any_cons, List.any_nil, t0, t1, t2, t3, t4, t5, t6, t7, t8, t9, t10, t11, t12, t13, t14, t15, t16, t17, t18, t19, t20, t21, Bool.false_or, Bool.or_false, Bool.true_or, Bool.or_true, if_true]; rfl)
              go_enter Tryz.func81, Tryz.ntmps81
              go_wp2_with fail
              go_ret
              exact ⟨retb E.out.symm, rfl⟩
            | false =>
            have E : Hid (operB s n = false) := Lib.hid (by unfold operB opTwo; simp only [List.any_cons, List.any_nil, t0, t1, t2, t3, t4, t5, t6, t7, t8, t9, t10, t11, t12, t13, t14, t15, t16, t17, t18, t19, t20, t21, Bool.false_or]; rfl)
            go_enter Tryz.func81, Tryz.ntmps81
            go_wp2_with fail
            go_ret
            exact ⟨retb E.out.symm, rfl⟩
end Go.Proofs.YtghgbikmlbildaaGreatDoor
namespace Go.Proofs.YtghgbikmlbildaaGreatDoor
open Go.RowKit

/-- The byte of a decimal digit. -/
def dgt (m : Nat) : UInt8 := UInt8.ofNat (48 + m % 10)
/-- The decimal digits of m (f bounds their number). -/
def digF : Nat → Nat → List UInt8
 | 0, _ => []
 | f + 1, m => if m < 10 then [dgt m] else digF f (m / 10) ++ [dgt m]
def dig (m : Nat) : List UInt8 := digF (m + 1) m
theorem digF_eq : ∀ (f g m : Nat), m < f → m < g → digF f m = digF g m
 | 0, _, _, h, _ => absurd h (Nat.not_lt_zero _)
 | _, 0, _, _, h => absurd h (Nat.not_lt_zero _)
 | f + 1, g + 1, m, h1, h2 => by
  unfold digF
  by_cases h : m < 10
  ·rw [if_pos h, if_pos h]
  ·rw [if_neg h, if_neg h, digF_eq f g (m / 10) (by omega) (by omega)]
theorem dig_small {m : Nat} (h : m < 10) : dig m = [dgt m] := by unfold dig digF; rw [if_pos h]
theorem dig_big {m : Nat} (h : ¬ m < 10) : dig m = dig (m / 10) ++ [dgt m] := by
 unfold dig
 rw [show digF (m + 1) m = digF m (m / 10) ++ [dgt m] by rw [digF, if_neg h], digF_eq m (m / 10 + 1) (m / 10) (by omega) (by omega)]
theorem dig_len : ∀ (k m : Nat), m < 10 ^ (k + 1) → (dig m).length ≤ k + 1
 | 0, m, h => by rw [dig_small (by omega)]; simp
 | k + 1, m, h => by
  by_cases hs : m < 10
  ·rw [dig_small hs]; simp
  ·have := dig_len k (m / 10) (by rw [Nat.pow_succ] at h; omega)
   rw [dig_big hs]; simp; omega
theorem dig_len20 {m : Nat} (h : m ≤ 18446744073709551616) : (dig m).length ≤ 20 := dig_len 19 m (by omega)
/-- The decimal text of an integer. -/
def txt (n : Int) : List UInt8 := if n < 0 then 45 :: dig n.natAbs else dig n.natAbs

/-! A row of bytes in memory. -/
def byteCells (cs : List UInt8) : Array Value := (cs.map fun b => Value.int .u8 (b.toNat : Int)).toArray
theorem byteCells_get {cs : List UInt8} {j : Nat} (h : j < cs.length) : (byteCells cs)[j]? = some (.int .u8 (cs[j].toNat : Int)) := by
 simp [byteCells, h]
theorem byteCells_set (cs : List UInt8) (j : Nat) (d : UInt8) : (byteCells cs).setIfInBounds j (.int .u8 (d.toNat : Int)) = byteCells (cs.set j d) := by
 simp [byteCells, List.map_set]
theorem dgt_toNat (m : Nat) : ((dgt m).toNat : Int) = 48 + (m : Int) % 10 := by
 unfold dgt
 have h : (UInt8.ofNat (48 + m % 10)).toNat = (48 + m % 10) % 256 := UInt8.toNat_ofNat'
 rw [h]; omega
theorem drop_set (cs : List UInt8) (k : Nat) (d : UInt8) (h : k < cs.length) : (cs.set k d).drop k = d :: cs.drop (k + 1) := by
 rw [List.drop_eq_getElem_cons (by simpa using h), List.drop_set_of_lt (by omega)]
 simp
theorem pow10 (j : Nat) : (10 : Nat) ^ (j + 1) = 10 ^ j * 10 := Nat.pow_succ ..

end Go.Proofs.YtghgbikmlbildaaGreatDoor
namespace Go.Proofs.YtghgbikmlbildaaGreatDoor
open Go.RowKit

set_option maxHeartbeats 400000 in
theorem size_any (a : Int) (w : World) (ha : I64 a) :
  Calls Tryz.prog 153 #[.int .i64 a] w fun e w' => e = .returned (.int .u64 a.natAbs) ∧ w = w' := by
 obtain ⟨a1, a2⟩ := ha
 go_enter Tryz.func153, Tryz.ntmps153
 go_wp2
 ·go_ret
  exact ⟨ret1 (by have : a < 0 := by assumption
                  rw [IntKind.wrap_u64, IntKind.wrap_u64]; omega), rfl⟩
 ·go_ret
  exact ⟨ret1 (by have : 0 ≤ a := by assumption
                  omega), rfl⟩

/-- b[l:] of the array of twenty bytes at block B. -/
theorem slice20 (B : Nat) (l : Int) (k : Nat) (hl : l = k) (hk : k < 20) (w : World) :
  (Instr.sliceAt 196 (.pointer (some ⟨B, 0, none⟩)) (some (.int .i64 l)) none none).run Tryz.prog w = .ok (.slice (some ⟨B, k, none⟩) (20 - k) (20 - k)) w := by
 subst hl
 have e : Tryz.prog.arrayLen 196 = 20 := by kernel_rfl
 have ee : Tryz.prog.elem 196 = 5 := by kernel_rfl
 rw [run_sliceAt_array_l w 196 ⟨B, 0, none⟩ (by rw [e, ee]; exact Tryz.underlying196) .i64 k (by omega) (by rw [e]; omega), e, ee]
 simp [go_sem, slicedAt, Addr.add]
 rw [if_neg (by omega)]
 split <;> simp_all
/-- string(b[k:]) where the bytes of block B are cs. -/
theorem conv20 (B k L : Nat) (hL : L = 20 - k) (l cs : List UInt8) (w : World) (hh : w.heap[B]? = some (.cells (byteCells cs) 196 (0, 0))) (hl : cs.length = 20) (e : l = cs.drop k) :
  (convert 39 9 (.slice (some ⟨B, k, none⟩) L L)).run Tryz.prog w = .ok (.string ⟨l.toArray⟩) w := by
 subst e hL
 have := run_convert_bytes_back (P := Tryz.prog) w 39 9 5 ⟨B, k, none⟩ (20 - k) (cs.drop k) Tryz.underlying39 Tryz.underlying5 Tryz.underlying9 (fun j hj => by
  have hp : (⟨B, k, none⟩ : Addr).add j = ⟨B, k + j, none⟩ := by unfold Addr.add; split <;> simp_all
  rw [hp, cell_of_row _ _ _ _ _ _ hh, byteCells_get (by simp at hj; omega)]
  simp)
 rw [List.length_drop, hl] at this
 exact this

set_option maxRecDepth 100000 in
set_option maxHeartbeats 1000000 in
theorem text_any (n : Int) (w : World) (hn : I64 n) :
  Calls Tryz.prog 122 #[.int .i64 n] w fun e w' => e = .returned (.string ⟨(txt n).toArray⟩) ∧ Below w.heap.size w w' := by
 go_enter Tryz.func122, Tryz.ntmps122
 go_wp2_with (go_at_call 153; refine (size_any _ _ hn).mono ?_; rintro e w1 ⟨rfl, rfl⟩)
 go_loopw [4, 5] (fun v l wr => ∃ (k m : Nat) (cs : List UInt8), v = .int .i64 k ∧ l = .int .u64 m ∧ 2 ≤ k ∧ k ≤ 20 ∧ m < 10 ^ (k - 1) ∧ m ≤ 9223372036854775808 ∧ cs.length = 20 ∧ wr.heap[w.heap.size]? = some (.cells (byteCells cs) 196 (0, 0)) ∧ Below w.heap.size w wr ∧ Hid (dig n.natAbs = dig m ++ cs.drop k)) (fun v _ _ => (intOf v).toNat)
 case atStart => exact ⟨20, n.natAbs, List.replicate 20 0, rfl, rfl, by omega, by omega, by have := hn.1; have := hn.2; omega, by have := hn.1; have := hn.2; omega, rfl, heap_alloc_new _ _, (Below.refl _ _).alloc (Nat.le_refl _) _, by simp [Hid]⟩
 case round =>
  obtain ⟨k, m, cs, rfl, rfl, hk1, hk2, hm, hm2, hl, hh, hB, HD⟩ := hrel
  obtain ⟨j, rfl⟩ : ∃ j, k = j + 2 := ⟨k - 2, by omega⟩
  rename World => wr
  have HM := Lib.hid hm; clear hm
  have HL := Lib.hid hl; clear hl
  have hcell : wr.cell? ⟨w.heap.size, j + 1, none⟩ = some (.int .u8 (cs[j + 1]'(by rw [HL.out]; omega)).toNat) := by rw [cell_of_row _ _ _ _ _ _ hh]; exact byteCells_get _
  have hcell0 : wr.cell? ⟨w.heap.size, j, none⟩ = some (.int .u8 (cs[j]'(by rw [HL.out]; omega)).toNat) := by rw [cell_of_row _ _ _ _ _ _ hh]; exact byteCells_get _
  have hfz0 : wr.frozen? ⟨w.heap.size, j, none⟩ = false := frozen_of_row _ _ _ _ _ hh
  have hfz : wr.frozen? ⟨w.heap.size, j + 1, none⟩ = false := frozen_of_row _ _ _ _ _ hh
  have hh1 : (wr.setCell ⟨w.heap.size, j + 1, none⟩ (.int .u8 (48 + (m : Int) % 10))).heap[w.heap.size]? = some (.cells (byteCells (cs.set (j + 1) (dgt m))) 196 (0, 0)) := by
   rw [heap_setCell_same _ _ _ _ _ _ hh, ← dgt_toNat, byteCells_set]
  have hd1 : (cs.set (j + 1) (dgt m)).drop (j + 1) = dgt m :: cs.drop (j + 2) := drop_set _ _ _ (by rw [HL.out]; omega)
  have hl1 : (cs.set (j + 1) (dgt m)).length = 20 := by rw [List.length_set]; exact HL.out
  have hB1 : Below w.heap.size w (wr.setCell ⟨w.heap.size, j + 1, none⟩ (.int .u8 (48 + (m : Int) % 10))) := hB.setCell (Nat.le_refl _) _
  have HH := Lib.hid hh; have HH1 := Lib.hid hh1; have HD1 := Lib.hid hd1; have HL1 := Lib.hid hl1; clear hh hh1 hd1 hl1
  by_cases small : m < 10
  ·have hdm := dig_small small
   have HDM := Lib.hid hdm; clear hdm
   have HT : Hid (dig n.natAbs = dgt m :: cs.drop (j + 2)) := by have := HD.out; rw [HDM.out] at this; exact this
   by_cases neg : n < 0
   ·have hh2 : ((wr.setCell ⟨w.heap.size, j + 1, none⟩ (.int .u8 (48 + (m : Int) % 10))).setCell ⟨w.heap.size, j, none⟩ (.int .u8 45)).heap[w.heap.size]? = some (.cells (byteCells ((cs.set (j + 1) (dgt m)).set j 45)) 196 (0, 0)) := by
     exact (heap_setCell_same _ _ _ _ _ _ HH1.out).trans (congrArg (fun x => some (Obj.cells x 196 (0, 0))) (byteCells_set _ j 45))
    have hcv := conv20 w.heap.size j (20 - j) rfl (txt n) _ _ hh2 (by rw [List.length_set]; exact HL1.out) (by rw [drop_set _ _ _ (by rw [HL1.out]; omega), HD1.out, txt, if_pos neg, HT.out])
    have hsl := slice20 w.heap.size ((j : Int) + 2 - 1 - 1) j (by omega) (by omega)
    clear hh2
    go_wp2
    go_ret
    exact ⟨rfl, hB1.setCell (Nat.le_refl _) _⟩
   ·have hcv := conv20 w.heap.size (j + 1) (19 - j) (by omega) (txt n) _ _ HH1.out HL1.out (by rw [HD1.out, txt, if_neg neg, HT.out])
    have hsl := slice20 w.heap.size ((j : Int) + 2 - 1) (j + 1) (by omega) (by omega)
    go_wp2
    go_ret
    exact ⟨rfl, hB1⟩
  ·have hdm := dig_big small
   have HDM := Lib.hid hdm; clear hdm
   go_wp2
   go_roundw
   case rel =>
    have hj : 1 ≤ j := by
     rcases Nat.eq_zero_or_pos j with h | h
     ·have := HM.out; subst h; omega
     ·exact h
    refine ⟨j + 1, m / 10, cs.set (j + 1) (dgt m), by go_num, by go_num, by omega, by omega, ?_, by omega, HL1.out, HH1.out, hB1, ?_⟩
    ·have := HM.out
     obtain ⟨i, rfl⟩ : ∃ i, j = i + 1 := ⟨j - 1, by omega⟩
     rw [show i + 1 + 2 - 1 = i + 1 + 1 by omega, pow10] at this
     rw [show i + 1 + 1 - 1 = i + 1 by omega]
     omega
    ·exact Lib.hid (by rw [HD.out, HDM.out, HD1.out, List.append_assoc]; rfl)
   case measure => simp [intOf]; omega

end Go.Proofs.YtghgbikmlbildaaGreatDoor
