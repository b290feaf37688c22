/-
  number: the walk, the rest.
-/
import Derived.Test.YtghgbikmlbildaaDoorCNumber
namespace Go.Proofs.YtghgbikmlbildaaDoor
open Go.RowKit
set_option linter.unusedVariables false
set_option linter.unusedSimpArgs false

set_option maxRecDepth 100000 in
set_option maxHeartbeats 2000000 in
theorem number_4 (B : Nat) (u : RUnit) (lo' fo go' co' : Option Addr) (lc fc gc' cc' : Nat) (b o : Nat) (x : RIns) (so co go : Option Addr) (sc cc gc : Nat) (w : World) (hu : UBox w B u lo' fo go' co' lc fc gc' cc') (hl : u.funcs.length ≤ 9223372036854775807) (hl2 : u.funs.length ≤ 9223372036854775807) (hf : SlAt w 3 FunR go' u.funs) (hx : IBox w b o x so co go sc cc gc) (hop : x.op = 4) :
    Calls Tryd.prog 18 #[.pointer (some ⟨B, 0, none⟩), .pointer (some ⟨b, o, none⟩)] w fun e w' => e = .returned (.bool (numberB u.funcs.length u.funs x)) ∧ Below w.heap.size w w' := by
  have c0 := hx.c0; have c3 := hx.c3; have c5 := hx.c5
  have b3 := hu.c3; have b4 := hu.c4
  have r1 := hx.rn; have r2 := hx.rsrc
  obtain ⟨r1a, r1b⟩ := r1
  have HF := Lib.hid hf
  clear hu hx hf
  have hw1 : IntKind.i64.wrap ((u.funcs.length : Int) - 1) = (u.funcs.length : Int) - 1 := by rw [IntKind.wrap_i64]; omega
  have hw2 : IntKind.i64.wrap ((u.funs.length : Int) - 1) = (u.funs.length : Int) - 1 := by rw [IntKind.wrap_i64]; omega
  have E : Hid (numberB u.funcs.length u.funs x = (wi x.n 0 ((u.funs.length : Int) - 1) && (match u.funs[x.n.toNat]? with
      | some f => decide ((x.src.length : Int) = f.free)
      | none => false))) := Lib.hid (by unfold numberB; rw [hop]; rfl)
  rw [hop] at c0
  clear hop
  cases hw : wi x.n 0 ((u.funs.length : Int) - 1) with
  | false =>
    have E2 : Hid (numberB u.funcs.length u.funs x = false) := Lib.hid (by rw [E.out, hw]; rfl)
    have hwr : ∀ wx, Calls Tryd.prog 22 #[.int .i64 x.n, .int .i64 0, .int .i64 ((u.funs.length : Int) - 1)] wx fun e w' => e = .returned (.bool false) ∧ w' = wx := fun wx => by
      have := within_any x.n 0 ((u.funs.length : Int) - 1) wx
      rw [hw] at this
      exact this.mono fun _ _ ⟨a, b⟩ => ⟨a, b.symm⟩
    clear hw E
    go_enter Tryd.func18, Tryd.ntmps18
    go_wp2_with fail
    go_quiet ((go_at_call 22; exact Calls.quiet_of_same (hwr _)))
    go_wp2_with fail
    go_ret
    exact ⟨retb E2.out.symm, below_drewN (Below.refl _ _) _⟩
  | true =>
    have hr : 0 ≤ x.n ∧ x.n ≤ (u.funs.length : Int) - 1 := by
      unfold wi at hw
      rw [Bool.and_eq_true, decide_eq_true_eq, decide_eq_true_eq] at hw
      exact hw
    obtain ⟨m, hm⟩ := Int.eq_ofNat_of_zero_le hr.1
    have hml : m < u.funs.length := by omega
    obtain ⟨b2, off, hao, hb2, q0, q1, q2, _, _, _⟩ := HF.out.fn hml
    subst hao
    have E2 : Hid (numberB u.funcs.length u.funs x = decide ((x.src.length : Int) = u.funs[m].free)) := Lib.hid (by
      rw [E.out, hw, hm]
      have : u.funs[(((m : Nat) : Int)).toNat]? = some u.funs[m] := by rw [Int.toNat_natCast]; exact List.getElem?_eq_getElem hml
      rw [this]; rfl)
    have hwr : ∀ wx, Calls Tryd.prog 22 #[.int .i64 (m : Int), .int .i64 0, .int .i64 ((u.funs.length : Int) - 1)] wx fun e w' => e = .returned (.bool true) ∧ w' = wx := fun wx => by
      have := within_any (m : Int) 0 ((u.funs.length : Int) - 1) wx
      rw [← hm, hw] at this
      rw [← hm]
      exact this.mono fun _ _ ⟨a, b⟩ => ⟨a, b.symm⟩
    rw [hm] at c5
    clear hw hr E r1a r1b
    generalize u.funs[m].free = z at *
    generalize x.n = xn at *
    by_cases hz : (x.src.length : Int) = z
    · have E3 : Hid (numberB u.funcs.length u.funs x = true) := Lib.hid (by rw [E2.out, decide_eq_true hz])
      have t : ((x.src.length : Int) == z) = true := by rw [hz]; exact beq_self_eq_true _
      clear hz hm
      go_enter Tryd.func18, Tryd.ntmps18
      go_wp2_with fail
      go_quiet ((go_at_call 22; exact Calls.quiet_of_same (hwr _)))
      go_wp2_with fail
      go_ret
      exact ⟨retb E3.out.symm, below_drewN (Below.refl _ _) _⟩
    · have E3 : Hid (numberB u.funcs.length u.funs x = false) := Lib.hid (by rw [E2.out, decide_eq_false hz])
      have t : ((x.src.length : Int) == z) = false := beq_eq_false_iff_ne.2 hz
      clear hz hm
      go_enter Tryd.func18, Tryd.ntmps18
      go_wp2_with fail
      go_quiet ((go_at_call 22; exact Calls.quiet_of_same (hwr _)))
      go_wp2_with fail
      go_ret
      exact ⟨retb E3.out.symm, below_drewN (Below.refl _ _) _⟩
theorem number_any (B : Nat) (u : RUnit) (lo' fo go' co' : Option Addr) (lc fc gc' cc' : Nat) (b o : Nat) (x : RIns) (so co go : Option Addr) (sc cc gc : Nat) (w : World) (hu : UBox w B u lo' fo go' co' lc fc gc' cc') (hl : u.funcs.length ≤ 9223372036854775807) (hl2 : u.funs.length ≤ 9223372036854775807) (hf : SlAt w 3 FunR go' u.funs) (hx : IBox w b o x so co go sc cc gc) :
    Calls Tryd.prog 18 #[.pointer (some ⟨B, 0, none⟩), .pointer (some ⟨b, o, none⟩)] w fun e w' => e = .returned (.bool (numberB u.funcs.length u.funs x)) ∧ Below w.heap.size w w' := by
  by_cases h5 : x.op = 5
  · exact number_5 B u lo' fo go' co' lc fc gc' cc' b o x so co go sc cc gc w hu hl hl2 hf hx h5
  by_cases h9 : x.op = 9
  · exact number_9 B u lo' fo go' co' lc fc gc' cc' b o x so co go sc cc gc w hu hl hl2 hf hx h9
  by_cases h15 : x.op = 15
  · exact number_15 B u lo' fo go' co' lc fc gc' cc' b o x so co go sc cc gc w hu hl hl2 hf hx h15
  by_cases h18 : x.op = 18
  · exact number_18 B u lo' fo go' co' lc fc gc' cc' b o x so co go sc cc gc w hu hl hl2 hf hx h18
  by_cases h19 : x.op = 19
  · exact number_19 B u lo' fo go' co' lc fc gc' cc' b o x so co go sc cc gc w hu hl hl2 hf hx h19
  by_cases h20 : x.op = 20
  · exact number_20 B u lo' fo go' co' lc fc gc' cc' b o x so co go sc cc gc w hu hl hl2 hf hx h20
  by_cases h21 : x.op = 21
  · exact number_21 B u lo' fo go' co' lc fc gc' cc' b o x so co go sc cc gc w hu hl hl2 hf hx h21
  by_cases h24 : x.op = 24
  · exact number_24 B u lo' fo go' co' lc fc gc' cc' b o x so co go sc cc gc w hu hl hl2 hf hx h24
  by_cases h31 : x.op = 31
  · exact number_31 B u lo' fo go' co' lc fc gc' cc' b o x so co go sc cc gc w hu hl hl2 hf hx h31
  by_cases h16 : x.op = 16
  · exact number_16 B u lo' fo go' co' lc fc gc' cc' b o x so co go sc cc gc w hu hl hl2 hf hx h16
  by_cases h17 : x.op = 17
  · exact number_17 B u lo' fo go' co' lc fc gc' cc' b o x so co go sc cc gc w hu hl hl2 hf hx h17
  by_cases h32 : x.op = 32
  · exact number_32 B u lo' fo go' co' lc fc gc' cc' b o x so co go sc cc gc w hu hl hl2 hf hx h32
  by_cases h33 : x.op = 33
  · exact number_33 B u lo' fo go' co' lc fc gc' cc' b o x so co go sc cc gc w hu hl hl2 hf hx h33
  by_cases h4 : x.op = 4
  · exact number_4 B u lo' fo go' co' lc fc gc' cc' b o x so co go sc cc gc w hu hl hl2 hf hx h4
  exact number_rest B u lo' fo go' co' lc fc gc' cc' b o x so co go sc cc gc w hu hl hl2 hf hx h5 h9 h15 h18 h19 h20 h21 h24 h31 h16 h17 h32 h33 h4

end Go.Proofs.YtghgbikmlbildaaDoor
