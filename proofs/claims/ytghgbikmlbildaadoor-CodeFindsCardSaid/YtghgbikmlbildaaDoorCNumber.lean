/-
  number: the walk.
-/
import Derived.Test.YtghgbikmlbildaaDoorCFields
namespace Go.Proofs.YtghgbikmlbildaaDoor
open Go.RowKit
set_option linter.unusedVariables false
set_option linter.unusedSimpArgs false

/-- Is N in the range of the operation? -/
def numberB (nf : Nat) (funs : List RFun) (x : RIns) : Bool :=
  if x.op = 4 then wi x.n 0 ((funs.length : Int) - 1) && (match funs[x.n.toNat]? with
    | some f => decide ((x.src.length : Int) = f.free)
    | none => false)
  else if x.op = 5 then wi x.n 0 254 else if x.op = 9 then wi x.n 0 255 else if x.op = 16 ∨ x.op = 17 then wi x.n 0 ((nf : Int) - 1)
  else if x.op = 15 ∨ x.op = 18 ∨ x.op = 19 ∨ x.op = 20 ∨ x.op = 21 then wi x.n 0 16 else if x.op = 24 then wi x.n 1 8192 else if x.op = 31 then wi x.n 0 3
  else if x.op = 32 ∨ x.op = 33 then decide (x.n = 1) || decide (x.n = 8) else true

set_option maxRecDepth 100000 in
set_option maxHeartbeats 2000000 in
theorem number_5 (B : Nat) (u : RUnit) (lo' fo go' co' : Option Addr) (lc fc gc' cc' : Nat) (b o : Nat) (x : RIns) (so co go : Option Addr) (sc cc gc : Nat) (w : World) (hu : UBox w B u lo' fo go' co' lc fc gc' cc') (hl : u.funcs.length ≤ 9223372036854775807) (hl2 : u.funs.length ≤ 9223372036854775807) (hf : SlAt w 3 FunR go' u.funs) (hx : IBox w b o x so co go sc cc gc) (hop : x.op = 5) :
    Calls Tryd.prog 18 #[.pointer (some ⟨B, 0, none⟩), .pointer (some ⟨b, o, none⟩)] w fun e w' => e = .returned (.bool (numberB u.funcs.length u.funs x)) ∧ Below w.heap.size w w' := by
  have c0 := hx.c0; have c3 := hx.c3; have c5 := hx.c5
  have b3 := hu.c3; have b4 := hu.c4
  have r1 := hx.rn; have r2 := hx.rsrc
  obtain ⟨r1a, r1b⟩ := r1
  have HF := Lib.hid hf
  clear hu hx hf
  have hw1 : IntKind.i64.wrap ((u.funcs.length : Int) - 1) = (u.funcs.length : Int) - 1 := by rw [IntKind.wrap_i64]; omega
  have hw2 : IntKind.i64.wrap ((u.funs.length : Int) - 1) = (u.funs.length : Int) - 1 := by rw [IntKind.wrap_i64]; omega
  have E : Hid (numberB u.funcs.length u.funs x = wi x.n 0 254) := Lib.hid (by unfold numberB; rw [hop]; rfl)
  rw [hop] at c0
  clear hop
  go_enter Tryd.func18, Tryd.ntmps18
  go_wp2_with (go_at_call 22; refine (within_any _ _ _ _).mono ?_; rintro e w1 ⟨rfl, rfl⟩)
  go_ret
  exact ⟨retb E.out.symm, Below.refl _ _⟩
set_option maxRecDepth 100000 in
set_option maxHeartbeats 2000000 in
theorem number_9 (B : Nat) (u : RUnit) (lo' fo go' co' : Option Addr) (lc fc gc' cc' : Nat) (b o : Nat) (x : RIns) (so co go : Option Addr) (sc cc gc : Nat) (w : World) (hu : UBox w B u lo' fo go' co' lc fc gc' cc') (hl : u.funcs.length ≤ 9223372036854775807) (hl2 : u.funs.length ≤ 9223372036854775807) (hf : SlAt w 3 FunR go' u.funs) (hx : IBox w b o x so co go sc cc gc) (hop : x.op = 9) :
    Calls Tryd.prog 18 #[.pointer (some ⟨B, 0, none⟩), .pointer (some ⟨b, o, none⟩)] w fun e w' => e = .returned (.bool (numberB u.funcs.length u.funs x)) ∧ Below w.heap.size w w' := by
  have c0 := hx.c0; have c3 := hx.c3; have c5 := hx.c5
  have b3 := hu.c3; have b4 := hu.c4
  have r1 := hx.rn; have r2 := hx.rsrc
  obtain ⟨r1a, r1b⟩ := r1
  have HF := Lib.hid hf
  clear hu hx hf
  have hw1 : IntKind.i64.wrap ((u.funcs.length : Int) - 1) = (u.funcs.length : Int) - 1 := by rw [IntKind.wrap_i64]; omega
  have hw2 : IntKind.i64.wrap ((u.funs.length : Int) - 1) = (u.funs.length : Int) - 1 := by rw [IntKind.wrap_i64]; omega
  have E : Hid (numberB u.funcs.length u.funs x = wi x.n 0 255) := Lib.hid (by unfold numberB; rw [hop]; rfl)
  rw [hop] at c0
  clear hop
  go_enter Tryd.func18, Tryd.ntmps18
  go_wp2_with (go_at_call 22; refine (within_any _ _ _ _).mono ?_; rintro e w1 ⟨rfl, rfl⟩)
  go_ret
  exact ⟨retb E.out.symm, Below.refl _ _⟩
set_option maxRecDepth 100000 in
set_option maxHeartbeats 2000000 in
theorem number_15 (B : Nat) (u : RUnit) (lo' fo go' co' : Option Addr) (lc fc gc' cc' : Nat) (b o : Nat) (x : RIns) (so co go : Option Addr) (sc cc gc : Nat) (w : World) (hu : UBox w B u lo' fo go' co' lc fc gc' cc') (hl : u.funcs.length ≤ 9223372036854775807) (hl2 : u.funs.length ≤ 9223372036854775807) (hf : SlAt w 3 FunR go' u.funs) (hx : IBox w b o x so co go sc cc gc) (hop : x.op = 15) :
    Calls Tryd.prog 18 #[.pointer (some ⟨B, 0, none⟩), .pointer (some ⟨b, o, none⟩)] w fun e w' => e = .returned (.bool (numberB u.funcs.length u.funs x)) ∧ Below w.heap.size w w' := by
  have c0 := hx.c0; have c3 := hx.c3; have c5 := hx.c5
  have b3 := hu.c3; have b4 := hu.c4
  have r1 := hx.rn; have r2 := hx.rsrc
  obtain ⟨r1a, r1b⟩ := r1
  have HF := Lib.hid hf
  clear hu hx hf
  have hw1 : IntKind.i64.wrap ((u.funcs.length : Int) - 1) = (u.funcs.length : Int) - 1 := by rw [IntKind.wrap_i64]; omega
  have hw2 : IntKind.i64.wrap ((u.funs.length : Int) - 1) = (u.funs.length : Int) - 1 := by rw [IntKind.wrap_i64]; omega
  have E : Hid (numberB u.funcs.length u.funs x = wi x.n 0 16) := Lib.hid (by unfold numberB; rw [hop]; rfl)
  rw [hop] at c0
  clear hop
  go_enter Tryd.func18, Tryd.ntmps18
  go_wp2_with (go_at_call 22; refine (within_any _ _ _ _).mono ?_; rintro e w1 ⟨rfl, rfl⟩)
  go_ret
  exact ⟨retb E.out.symm, Below.refl _ _⟩
set_option maxRecDepth 100000 in
set_option maxHeartbeats 2000000 in
theorem number_18 (B : Nat) (u : RUnit) (lo' fo go' co' : Option Addr) (lc fc gc' cc' : Nat) (b o : Nat) (x : RIns) (so co go : Option Addr) (sc cc gc : Nat) (w : World) (hu : UBox w B u lo' fo go' co' lc fc gc' cc') (hl : u.funcs.length ≤ 9223372036854775807) (hl2 : u.funs.length ≤ 9223372036854775807) (hf : SlAt w 3 FunR go' u.funs) (hx : IBox w b o x so co go sc cc gc) (hop : x.op = 18) :
    Calls Tryd.prog 18 #[.pointer (some ⟨B, 0, none⟩), .pointer (some ⟨b, o, none⟩)] w fun e w' => e = .returned (.bool (numberB u.funcs.length u.funs x)) ∧ Below w.heap.size w w' := by
  have c0 := hx.c0; have c3 := hx.c3; have c5 := hx.c5
  have b3 := hu.c3; have b4 := hu.c4
  have r1 := hx.rn; have r2 := hx.rsrc
  obtain ⟨r1a, r1b⟩ := r1
  have HF := Lib.hid hf
  clear hu hx hf
  have hw1 : IntKind.i64.wrap ((u.funcs.length : Int) - 1) = (u.funcs.length : Int) - 1 := by rw [IntKind.wrap_i64]; omega
  have hw2 : IntKind.i64.wrap ((u.funs.length : Int) - 1) = (u.funs.length : Int) - 1 := by rw [IntKind.wrap_i64]; omega
  have E : Hid (numberB u.funcs.length u.funs x = wi x.n 0 16) := Lib.hid (by unfold numberB; rw [hop]; rfl)
  rw [hop] at c0
  clear hop
  go_enter Tryd.func18, Tryd.ntmps18
  go_wp2_with (go_at_call 22; refine (within_any _ _ _ _).mono ?_; rintro e w1 ⟨rfl, rfl⟩)
  go_ret
  exact ⟨retb E.out.symm, Below.refl _ _⟩
set_option maxRecDepth 100000 in
set_option maxHeartbeats 2000000 in
theorem number_19 (B : Nat) (u : RUnit) (lo' fo go' co' : Option Addr) (lc fc gc' cc' : Nat) (b o : Nat) (x : RIns) (so co go : Option Addr) (sc cc gc : Nat) (w : World) (hu : UBox w B u lo' fo go' co' lc fc gc' cc') (hl : u.funcs.length ≤ 9223372036854775807) (hl2 : u.funs.length ≤ 9223372036854775807) (hf : SlAt w 3 FunR go' u.funs) (hx : IBox w b o x so co go sc cc gc) (hop : x.op = 19) :
    Calls Tryd.prog 18 #[.pointer (some ⟨B, 0, none⟩), .pointer (some ⟨b, o, none⟩)] w fun e w' => e = .returned (.bool (numberB u.funcs.length u.funs x)) ∧ Below w.heap.size w w' := by
  have c0 := hx.c0; have c3 := hx.c3; have c5 := hx.c5
  have b3 := hu.c3; have b4 := hu.c4
  have r1 := hx.rn; have r2 := hx.rsrc
  obtain ⟨r1a, r1b⟩ := r1
  have HF := Lib.hid hf
  clear hu hx hf
  have hw1 : IntKind.i64.wrap ((u.funcs.length : Int) - 1) = (u.funcs.length : Int) - 1 := by rw [IntKind.wrap_i64]; omega
  have hw2 : IntKind.i64.wrap ((u.funs.length : Int) - 1) = (u.funs.length : Int) - 1 := by rw [IntKind.wrap_i64]; omega
  have E : Hid (numberB u.funcs.length u.funs x = wi x.n 0 16) := Lib.hid (by unfold numberB; rw [hop]; rfl)
  rw [hop] at c0
  clear hop
  go_enter Tryd.func18, Tryd.ntmps18
  go_wp2_with (go_at_call 22; refine (within_any _ _ _ _).mono ?_; rintro e w1 ⟨rfl, rfl⟩)
  go_ret
  exact ⟨retb E.out.symm, Below.refl _ _⟩
set_option maxRecDepth 100000 in
set_option maxHeartbeats 2000000 in
theorem number_20 (B : Nat) (u : RUnit) (lo' fo go' co' : Option Addr) (lc fc gc' cc' : Nat) (b o : Nat) (x : RIns) (so co go : Option Addr) (sc cc gc : Nat) (w : World) (hu : UBox w B u lo' fo go' co' lc fc gc' cc') (hl : u.funcs.length ≤ 9223372036854775807) (hl2 : u.funs.length ≤ 9223372036854775807) (hf : SlAt w 3 FunR go' u.funs) (hx : IBox w b o x so co go sc cc gc) (hop : x.op = 20) :
    Calls Tryd.prog 18 #[.pointer (some ⟨B, 0, none⟩), .pointer (some ⟨b, o, none⟩)] w fun e w' => e = .returned (.bool (numberB u.funcs.length u.funs x)) ∧ Below w.heap.size w w' := by
  have c0 := hx.c0; have c3 := hx.c3; have c5 := hx.c5
  have b3 := hu.c3; have b4 := hu.c4
  have r1 := hx.rn; have r2 := hx.rsrc
  obtain ⟨r1a, r1b⟩ := r1
  have HF := Lib.hid hf
  clear hu hx hf
  have hw1 : IntKind.i64.wrap ((u.funcs.length : Int) - 1) = (u.funcs.length : Int) - 1 := by rw [IntKind.wrap_i64]; omega
  have hw2 : IntKind.i64.wrap ((u.funs.length : Int) - 1) = (u.funs.length : Int) - 1 := by rw [IntKind.wrap_i64]; omega
  have E : Hid (numberB u.funcs.length u.funs x = wi x.n 0 16) := Lib.hid (by unfold numberB; rw [hop]; rfl)
  rw [hop] at c0
  clear hop
  go_enter Tryd.func18, Tryd.ntmps18
  go_wp2_with (go_at_call 22; refine (within_any _ _ _ _).mono ?_; rintro e w1 ⟨rfl, rfl⟩)
  go_ret
  exact ⟨retb E.out.symm, Below.refl _ _⟩
set_option maxRecDepth 100000 in
set_option maxHeartbeats 2000000 in
theorem number_21 (B : Nat) (u : RUnit) (lo' fo go' co' : Option Addr) (lc fc gc' cc' : Nat) (b o : Nat) (x : RIns) (so co go : Option Addr) (sc cc gc : Nat) (w : World) (hu : UBox w B u lo' fo go' co' lc fc gc' cc') (hl : u.funcs.length ≤ 9223372036854775807) (hl2 : u.funs.length ≤ 9223372036854775807) (hf : SlAt w 3 FunR go' u.funs) (hx : IBox w b o x so co go sc cc gc) (hop : x.op = 21) :
    Calls Tryd.prog 18 #[.pointer (some ⟨B, 0, none⟩), .pointer (some ⟨b, o, none⟩)] w fun e w' => e = .returned (.bool (numberB u.funcs.length u.funs x)) ∧ Below w.heap.size w w' := by
  have c0 := hx.c0; have c3 := hx.c3; have c5 := hx.c5
  have b3 := hu.c3; have b4 := hu.c4
  have r1 := hx.rn; have r2 := hx.rsrc
  obtain ⟨r1a, r1b⟩ := r1
  have HF := Lib.hid hf
  clear hu hx hf
  have hw1 : IntKind.i64.wrap ((u.funcs.length : Int) - 1) = (u.funcs.length : Int) - 1 := by rw [IntKind.wrap_i64]; omega
  have hw2 : IntKind.i64.wrap ((u.funs.length : Int) - 1) = (u.funs.length : Int) - 1 := by rw [IntKind.wrap_i64]; omega
  have E : Hid (numberB u.funcs.length u.funs x = wi x.n 0 16) := Lib.hid (by unfold numberB; rw [hop]; rfl)
  rw [hop] at c0
  clear hop
  go_enter Tryd.func18, Tryd.ntmps18
  go_wp2_with (go_at_call 22; refine (within_any _ _ _ _).mono ?_; rintro e w1 ⟨rfl, rfl⟩)
  go_ret
  exact ⟨retb E.out.symm, Below.refl _ _⟩
set_option maxRecDepth 100000 in
set_option maxHeartbeats 2000000 in
theorem number_24 (B : Nat) (u : RUnit) (lo' fo go' co' : Option Addr) (lc fc gc' cc' : Nat) (b o : Nat) (x : RIns) (so co go : Option Addr) (sc cc gc : Nat) (w : World) (hu : UBox w B u lo' fo go' co' lc fc gc' cc') (hl : u.funcs.length ≤ 9223372036854775807) (hl2 : u.funs.length ≤ 9223372036854775807) (hf : SlAt w 3 FunR go' u.funs) (hx : IBox w b o x so co go sc cc gc) (hop : x.op = 24) :
    Calls Tryd.prog 18 #[.pointer (some ⟨B, 0, none⟩), .pointer (some ⟨b, o, none⟩)] w fun e w' => e = .returned (.bool (numberB u.funcs.length u.funs x)) ∧ Below w.heap.size w w' := by
  have c0 := hx.c0; have c3 := hx.c3; have c5 := hx.c5
  have b3 := hu.c3; have b4 := hu.c4
  have r1 := hx.rn; have r2 := hx.rsrc
  obtain ⟨r1a, r1b⟩ := r1
  have HF := Lib.hid hf
  clear hu hx hf
  have hw1 : IntKind.i64.wrap ((u.funcs.length : Int) - 1) = (u.funcs.length : Int) - 1 := by rw [IntKind.wrap_i64]; omega
  have hw2 : IntKind.i64.wrap ((u.funs.length : Int) - 1) = (u.funs.length : Int) - 1 := by rw [IntKind.wrap_i64]; omega
  have E : Hid (numberB u.funcs.length u.funs x = wi x.n 1 8192) := Lib.hid (by unfold numberB; rw [hop]; rfl)
  rw [hop] at c0
  clear hop
  go_enter Tryd.func18, Tryd.ntmps18
  go_wp2_with (go_at_call 22; refine (within_any _ _ _ _).mono ?_; rintro e w1 ⟨rfl, rfl⟩)
  go_ret
  exact ⟨retb E.out.symm, Below.refl _ _⟩
set_option maxRecDepth 100000 in
set_option maxHeartbeats 2000000 in
theorem number_31 (B : Nat) (u : RUnit) (lo' fo go' co' : Option Addr) (lc fc gc' cc' : Nat) (b o : Nat) (x : RIns) (so co go : Option Addr) (sc cc gc : Nat) (w : World) (hu : UBox w B u lo' fo go' co' lc fc gc' cc') (hl : u.funcs.length ≤ 9223372036854775807) (hl2 : u.funs.length ≤ 9223372036854775807) (hf : SlAt w 3 FunR go' u.funs) (hx : IBox w b o x so co go sc cc gc) (hop : x.op = 31) :
    Calls Tryd.prog 18 #[.pointer (some ⟨B, 0, none⟩), .pointer (some ⟨b, o, none⟩)] w fun e w' => e = .returned (.bool (numberB u.funcs.length u.funs x)) ∧ Below w.heap.size w w' := by
  have c0 := hx.c0; have c3 := hx.c3; have c5 := hx.c5
  have b3 := hu.c3; have b4 := hu.c4
  have r1 := hx.rn; have r2 := hx.rsrc
  obtain ⟨r1a, r1b⟩ := r1
  have HF := Lib.hid hf
  clear hu hx hf
  have hw1 : IntKind.i64.wrap ((u.funcs.length : Int) - 1) = (u.funcs.length : Int) - 1 := by rw [IntKind.wrap_i64]; omega
  have hw2 : IntKind.i64.wrap ((u.funs.length : Int) - 1) = (u.funs.length : Int) - 1 := by rw [IntKind.wrap_i64]; omega
  have E : Hid (numberB u.funcs.length u.funs x = wi x.n 0 3) := Lib.hid (by unfold numberB; rw [hop]; rfl)
  rw [hop] at c0
  clear hop
  go_enter Tryd.func18, Tryd.ntmps18
  go_wp2_with (go_at_call 22; refine (within_any _ _ _ _).mono ?_; rintro e w1 ⟨rfl, rfl⟩)
  go_ret
  exact ⟨retb E.out.symm, Below.refl _ _⟩
set_option maxRecDepth 100000 in
set_option maxHeartbeats 2000000 in
theorem number_16 (B : Nat) (u : RUnit) (lo' fo go' co' : Option Addr) (lc fc gc' cc' : Nat) (b o : Nat) (x : RIns) (so co go : Option Addr) (sc cc gc : Nat) (w : World) (hu : UBox w B u lo' fo go' co' lc fc gc' cc') (hl : u.funcs.length ≤ 9223372036854775807) (hl2 : u.funs.length ≤ 9223372036854775807) (hf : SlAt w 3 FunR go' u.funs) (hx : IBox w b o x so co go sc cc gc) (hop : x.op = 16) :
    Calls Tryd.prog 18 #[.pointer (some ⟨B, 0, none⟩), .pointer (some ⟨b, o, none⟩)] w fun e w' => e = .returned (.bool (numberB u.funcs.length u.funs x)) ∧ Below w.heap.size w w' := by
  have c0 := hx.c0; have c3 := hx.c3; have c5 := hx.c5
  have b3 := hu.c3; have b4 := hu.c4
  have r1 := hx.rn; have r2 := hx.rsrc
  obtain ⟨r1a, r1b⟩ := r1
  have HF := Lib.hid hf
  clear hu hx hf
  have hw1 : IntKind.i64.wrap ((u.funcs.length : Int) - 1) = (u.funcs.length : Int) - 1 := by rw [IntKind.wrap_i64]; omega
  have hw2 : IntKind.i64.wrap ((u.funs.length : Int) - 1) = (u.funs.length : Int) - 1 := by rw [IntKind.wrap_i64]; omega
  have E : Hid (numberB u.funcs.length u.funs x = wi x.n 0 ((u.funcs.length : Int) - 1)) := Lib.hid (by unfold numberB; rw [hop]; rfl)
  rw [hop] at c0
  clear hop
  go_enter Tryd.func18, Tryd.ntmps18
  go_wp2_with fail
  go_quiet ((go_at_call 22; exact Calls.quiet_of_same ((within_any _ _ _ _).mono fun _ _ ⟨a, b⟩ => ⟨a, b.symm⟩)))
  go_wp2_with fail
  go_ret
  exact ⟨retb E.out.symm, below_drewN (Below.refl _ _) _⟩
set_option maxRecDepth 100000 in
set_option maxHeartbeats 2000000 in
theorem number_17 (B : Nat) (u : RUnit) (lo' fo go' co' : Option Addr) (lc fc gc' cc' : Nat) (b o : Nat) (x : RIns) (so co go : Option Addr) (sc cc gc : Nat) (w : World) (hu : UBox w B u lo' fo go' co' lc fc gc' cc') (hl : u.funcs.length ≤ 9223372036854775807) (hl2 : u.funs.length ≤ 9223372036854775807) (hf : SlAt w 3 FunR go' u.funs) (hx : IBox w b o x so co go sc cc gc) (hop : x.op = 17) :
    Calls Tryd.prog 18 #[.pointer (some ⟨B, 0, none⟩), .pointer (some ⟨b, o, none⟩)] w fun e w' => e = .returned (.bool (numberB u.funcs.length u.funs x)) ∧ Below w.heap.size w w' := by
  have c0 := hx.c0; have c3 := hx.c3; have c5 := hx.c5
  have b3 := hu.c3; have b4 := hu.c4
  have r1 := hx.rn; have r2 := hx.rsrc
  obtain ⟨r1a, r1b⟩ := r1
  have HF := Lib.hid hf
  clear hu hx hf
  have hw1 : IntKind.i64.wrap ((u.funcs.length : Int) - 1) = (u.funcs.length : Int) - 1 := by rw [IntKind.wrap_i64]; omega
  have hw2 : IntKind.i64.wrap ((u.funs.length : Int) - 1) = (u.funs.length : Int) - 1 := by rw [IntKind.wrap_i64]; omega
  have E : Hid (numberB u.funcs.length u.funs x = wi x.n 0 ((u.funcs.length : Int) - 1)) := Lib.hid (by unfold numberB; rw [hop]; rfl)
  rw [hop] at c0
  clear hop
  go_enter Tryd.func18, Tryd.ntmps18
  go_wp2_with fail
  go_quiet ((go_at_call 22; exact Calls.quiet_of_same ((within_any _ _ _ _).mono fun _ _ ⟨a, b⟩ => ⟨a, b.symm⟩)))
  go_wp2_with fail
  go_ret
  exact ⟨retb E.out.symm, below_drewN (Below.refl _ _) _⟩
set_option maxRecDepth 100000 in
set_option maxHeartbeats 2000000 in
theorem number_32 (B : Nat) (u : RUnit) (lo' fo go' co' : Option Addr) (lc fc gc' cc' : Nat) (b o : Nat) (x : RIns) (so co go : Option Addr) (sc cc gc : Nat) (w : World) (hu : UBox w B u lo' fo go' co' lc fc gc' cc') (hl : u.funcs.length ≤ 9223372036854775807) (hl2 : u.funs.length ≤ 9223372036854775807) (hf : SlAt w 3 FunR go' u.funs) (hx : IBox w b o x so co go sc cc gc) (hop : x.op = 32) :
    Calls Tryd.prog 18 #[.pointer (some ⟨B, 0, none⟩), .pointer (some ⟨b, o, none⟩)] w fun e w' => e = .returned (.bool (numberB u.funcs.length u.funs x)) ∧ Below w.heap.size w w' := by
  have c0 := hx.c0; have c3 := hx.c3; have c5 := hx.c5
  have b3 := hu.c3; have b4 := hu.c4
  have r1 := hx.rn; have r2 := hx.rsrc
  obtain ⟨r1a, r1b⟩ := r1
  have HF := Lib.hid hf
  clear hu hx hf
  have hw1 : IntKind.i64.wrap ((u.funcs.length : Int) - 1) = (u.funcs.length : Int) - 1 := by rw [IntKind.wrap_i64]; omega
  have hw2 : IntKind.i64.wrap ((u.funs.length : Int) - 1) = (u.funs.length : Int) - 1 := by rw [IntKind.wrap_i64]; omega
  have E : Hid (numberB u.funcs.length u.funs x = (decide (x.n = 1) || decide (x.n = 8))) := Lib.hid (by unfold numberB; rw [hop]; rfl)
  rw [hop] at c0
  clear hop
  by_cases n1 : x.n = 1
  · have t1 : (x.n == 1) = true := by rw [n1]; rfl
    have E2 : Hid (numberB u.funcs.length u.funs x = true) := Lib.hid (by rw [E.out, decide_eq_true n1]; rfl)
    clear n1
    go_enter Tryd.func18, Tryd.ntmps18
    go_wp2_with fail
    go_ret
    exact ⟨retb E2.out.symm, Below.refl _ _⟩
  · have t1 : (x.n == 1) = false := beq_eq_false_iff_ne.2 n1
    by_cases n8 : x.n = 8
    · have t2 : (x.n == 8) = true := by rw [n8]; rfl
      have E2 : Hid (numberB u.funcs.length u.funs x = true) := Lib.hid (by rw [E.out, decide_eq_true n8]; simp)
      clear n1 n8
      go_enter Tryd.func18, Tryd.ntmps18
      go_wp2_with fail
      go_ret
      exact ⟨retb E2.out.symm, Below.refl _ _⟩
    · have t2 : (x.n == 8) = false := beq_eq_false_iff_ne.2 n8
      have E2 : Hid (numberB u.funcs.length u.funs x = false) := Lib.hid (by rw [E.out, decide_eq_false n1, decide_eq_false n8]; rfl)
      clear n1 n8
      go_enter Tryd.func18, Tryd.ntmps18
      go_wp2_with fail
      go_ret
      exact ⟨retb E2.out.symm, Below.refl _ _⟩
set_option maxRecDepth 100000 in
set_option maxHeartbeats 2000000 in
theorem number_33 (B : Nat) (u : RUnit) (lo' fo go' co' : Option Addr) (lc fc gc' cc' : Nat) (b o : Nat) (x : RIns) (so co go : Option Addr) (sc cc gc : Nat) (w : World) (hu : UBox w B u lo' fo go' co' lc fc gc' cc') (hl : u.funcs.length ≤ 9223372036854775807) (hl2 : u.funs.length ≤ 9223372036854775807) (hf : SlAt w 3 FunR go' u.funs) (hx : IBox w b o x so co go sc cc gc) (hop : x.op = 33) :
    Calls Tryd.prog 18 #[.pointer (some ⟨B, 0, none⟩), .pointer (some ⟨b, o, none⟩)] w fun e w' => e = .returned (.bool (numberB u.funcs.length u.funs x)) ∧ Below w.heap.size w w' := by
  have c0 := hx.c0; have c3 := hx.c3; have c5 := hx.c5
  have b3 := hu.c3; have b4 := hu.c4
  have r1 := hx.rn; have r2 := hx.rsrc
  obtain ⟨r1a, r1b⟩ := r1
  have HF := Lib.hid hf
  clear hu hx hf
  have hw1 : IntKind.i64.wrap ((u.funcs.length : Int) - 1) = (u.funcs.length : Int) - 1 := by rw [IntKind.wrap_i64]; omega
  have hw2 : IntKind.i64.wrap ((u.funs.length : Int) - 1) = (u.funs.length : Int) - 1 := by rw [IntKind.wrap_i64]; omega
  have E : Hid (numberB u.funcs.length u.funs x = (decide (x.n = 1) || decide (x.n = 8))) := Lib.hid (by unfold numberB; rw [hop]; rfl)
  rw [hop] at c0
  clear hop
  by_cases n1 : x.n = 1
  · have t1 : (x.n == 1) = true := by rw [n1]; rfl
    have E2 : Hid (numberB u.funcs.length u.funs x = true) := Lib.hid (by rw [E.out, decide_eq_true n1]; rfl)
    clear n1
    go_enter Tryd.func18, Tryd.ntmps18
    go_wp2_with fail
    go_ret
    exact ⟨retb E2.out.symm, Below.refl _ _⟩
  · have t1 : (x.n == 1) = false := beq_eq_false_iff_ne.2 n1
    by_cases n8 : x.n = 8
    · have t2 : (x.n == 8) = true := by rw [n8]; rfl
      have E2 : Hid (numberB u.funcs.length u.funs x = true) := Lib.hid (by rw [E.out, decide_eq_true n8]; simp)
      clear n1 n8
      go_enter Tryd.func18, Tryd.ntmps18
      go_wp2_with fail
      go_ret
      exact ⟨retb E2.out.symm, Below.refl _ _⟩
    · have t2 : (x.n == 8) = false := beq_eq_false_iff_ne.2 n8
      have E2 : Hid (numberB u.funcs.length u.funs x = false) := Lib.hid (by rw [E.out, decide_eq_false n1, decide_eq_false n8]; rfl)
      clear n1 n8
      go_enter Tryd.func18, Tryd.ntmps18
      go_wp2_with fail
      go_ret
      exact ⟨retb E2.out.symm, Below.refl _ _⟩
set_option maxRecDepth 100000 in
set_option maxHeartbeats 2000000 in
theorem number_rest (B : Nat) (u : RUnit) (lo' fo go' co' : Option Addr) (lc fc gc' cc' : Nat) (b o : Nat) (x : RIns) (so co go : Option Addr) (sc cc gc : Nat) (w : World) (hu : UBox w B u lo' fo go' co' lc fc gc' cc') (hl : u.funcs.length ≤ 9223372036854775807) (hl2 : u.funs.length ≤ 9223372036854775807) (hf : SlAt w 3 FunR go' u.funs) (hx : IBox w b o x so co go sc cc gc) (h5 : ¬ x.op = 5) (h9 : ¬ x.op = 9) (h15 : ¬ x.op = 15) (h18 : ¬ x.op = 18) (h19 : ¬ x.op = 19) (h20 : ¬ x.op = 20) (h21 : ¬ x.op = 21) (h24 : ¬ x.op = 24) (h31 : ¬ x.op = 31) (h16 : ¬ x.op = 16) (h17 : ¬ x.op = 17) (h32 : ¬ x.op = 32) (h33 : ¬ x.op = 33) (h4 : ¬ x.op = 4) :
    Calls Tryd.prog 18 #[.pointer (some ⟨B, 0, none⟩), .pointer (some ⟨b, o, none⟩)] w fun e w' => e = .returned (.bool (numberB u.funcs.length u.funs x)) ∧ Below w.heap.size w w' := by
  have c0 := hx.c0; have c3 := hx.c3; have c5 := hx.c5
  have b3 := hu.c3; have b4 := hu.c4
  have r1 := hx.rn; have r2 := hx.rsrc
  obtain ⟨r1a, r1b⟩ := r1
  have HF := Lib.hid hf
  clear hu hx hf
  have hw1 : IntKind.i64.wrap ((u.funcs.length : Int) - 1) = (u.funcs.length : Int) - 1 := by rw [IntKind.wrap_i64]; omega
  have hw2 : IntKind.i64.wrap ((u.funs.length : Int) - 1) = (u.funs.length : Int) - 1 := by rw [IntKind.wrap_i64]; omega
  have E : Hid (numberB u.funcs.length u.funs x = true) := Lib.hid (by unfold numberB; rw [if_neg h4, if_neg h5, if_neg h9, if_neg (by omega), if_neg (by omega), if_neg h24, if_neg h31, if_neg (by omega)])
  have t5 : (x.op == 5) = false := beq_eq_false_iff_ne.2 h5
  have t9 : (x.op == 9) = false := beq_eq_false_iff_ne.2 h9
  have t15 : (x.op == 15) = false := beq_eq_false_iff_ne.2 h15
  have t18 : (x.op == 18) = false := beq_eq_false_iff_ne.2 h18
  have t19 : (x.op == 19) = false := beq_eq_false_iff_ne.2 h19
  have t20 : (x.op == 20) = false := beq_eq_false_iff_ne.2 h20
  have t21 : (x.op == 21) = false := beq_eq_false_iff_ne.2 h21
  have t24 : (x.op == 24) = false := beq_eq_false_iff_ne.2 h24
  have t31 : (x.op == 31) = false := beq_eq_false_iff_ne.2 h31
  have t16 : (x.op == 16) = false := beq_eq_false_iff_ne.2 h16
  have t17 : (x.op == 17) = false := beq_eq_false_iff_ne.2 h17
  have t32 : (x.op == 32) = false := beq_eq_false_iff_ne.2 h32
  have t33 : (x.op == 33) = false := beq_eq_false_iff_ne.2 h33
  have t4 : (x.op == 4) = false := beq_eq_false_iff_ne.2 h4
  clear h5 h9 h15 h18 h19 h20 h21 h24 h31 h16 h17 h32 h33 h4
  go_enter Tryd.func18, Tryd.ntmps18
  go_wp2_with fail
  go_ret
  exact ⟨retb E.out.symm, Below.refl _ _⟩

end Go.Proofs.YtghgbikmlbildaaDoor
