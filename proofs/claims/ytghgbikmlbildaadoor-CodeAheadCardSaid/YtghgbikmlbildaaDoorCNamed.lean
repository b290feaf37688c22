/-
  named: the walk (printed by gen_named.py).
-/
import Derived.Test.YtghgbikmlbildaaDoorCFields
import Derived.Test.YtghgbikmlbildaaDoorCOper
import Derived.Test.YtghgbikmlbildaaDoorCClasses
import Derived.Deep.RegionHeld3
namespace Go.Proofs.YtghgbikmlbildaaDoor
open Go.RowKit
set_option linter.unusedVariables false
set_option linter.unusedSimpArgs false

/-- Is the name of an instruction allowed? -/
def namedB (x : RIns) : Bool :=
  if x.op = 13 then ((x.name.toList == [123, 125]) || ((x.name.toList == [124]) && ((x.src.length : Int) == 2))) || ((!(x.name.toList == [43, 43]) && operB x.name x.src.length) || (classB x.name x.src.length == 1))
  else if x.op = 14 then (operB x.name x.src.length || (classB x.name x.src.length == 1)) || (classB x.name x.src.length == 2)
  else if x.op = 15 then ((x.name.toList == [33]) && (x.n == 2)) || (classB x.name x.n == 3)
  else true

set_option maxRecDepth 100000 in
set_option maxHeartbeats 4000000 in
theorem named_13 (b o : Nat) (x : RIns) (so co go : Option Addr) (sc cc gc : Nat) (w : World) (hsp : SpaceAt w) (hx : IBox w b o x so co go sc cc gc) (hs : x.name.size ≤ 140737488355328) (hop : x.op = 13) :
    Calls Tryd.prog 19 #[.pointer (some ⟨b, o, none⟩)] w fun e w' => e = .returned (.bool (namedB x)) ∧ Below w.heap.size w w' := by
  have c0 := hx.c0; have c3 := hx.c3; have c5 := hx.c5; have c7 := hx.c7
  have r2 := hx.rsrc
  have hlt := hx.lt
  have hrn := hx.rn
  have hn1 : I64 (x.src.length : Int) := by unfold I64; omega
  have E0 : Hid (namedB x = (((x.name.toList == [123, 125]) || ((x.name.toList == [124]) && ((x.src.length : Int) == 2))) || ((!(x.name.toList == [43, 43]) && operB x.name x.src.length) || (classB x.name x.src.length == 1)))) := Lib.hid (by unfold namedB; rw [if_pos hop])
  rw [hop] at c0
  have hO := fun wx => operator_any x.name x.src.length wx
  have hCl := class_any x.name x.src.length w hsp hs hn1
  clear hop hx hsp
  generalize namedB x = r at *
  generalize operB x.name x.src.length = ob at *
  generalize classB x.name x.src.length = cl at *
  generalize x.name = nm at *
  generalize x.src.length = ln at *
  cases t1 : (nm.toList == [123, 125]) with
  | true =>
    simp only [t1] at E0
    simp only [Bool.true_or, Bool.or_true, Bool.false_or, Bool.or_false, Bool.and_true, Bool.and_false, Bool.true_and, Bool.false_and, Bool.not_true, Bool.not_false] at E0
    go_enter Tryd.func19, Tryd.ntmps19
    go_wp2_with (first | (go_at_call 33; refine (hO _).mono ?_; rintro e w1 ⟨rfl, rfl⟩) | (go_at_call 34; refine hCl.mono ?_; rintro e w5 ⟨rfl, hb5⟩))
    all_goals go_ret
    all_goals first
      | exact ⟨retb E0.out.symm, Below.refl _ _⟩
      | exact ⟨retb E0.out.symm, hb5⟩
  | false =>
    simp only [t1] at E0
    cases t2 : (nm.toList == [124]) with
    | true =>
      simp only [t2] at E0
      cases q2 : ((ln : Int) == 2) with
      | true =>
        simp only [q2] at E0
        simp only [Bool.true_or, Bool.or_true, Bool.false_or, Bool.or_false, Bool.and_true, Bool.and_false, Bool.true_and, Bool.false_and, Bool.not_true, Bool.not_false] at E0
        go_enter Tryd.func19, Tryd.ntmps19
        go_wp2_with (first | (go_at_call 33; refine (hO _).mono ?_; rintro e w1 ⟨rfl, rfl⟩) | (go_at_call 34; refine hCl.mono ?_; rintro e w5 ⟨rfl, hb5⟩))
        all_goals go_ret
        all_goals first
          | exact ⟨retb E0.out.symm, Below.refl _ _⟩
          | exact ⟨retb E0.out.symm, hb5⟩
      | false =>
        simp only [q2] at E0
        cases t3 : (nm.toList == [43, 43]) with
        | true =>
          simp only [t3] at E0
          cases q1 : (cl == 1) with
          | true =>
            simp only [q1] at E0
            simp only [Bool.true_or, Bool.or_true, Bool.false_or, Bool.or_false, Bool.and_true, Bool.and_false, Bool.true_and, Bool.false_and, Bool.not_true, Bool.not_false] at E0
            go_enter Tryd.func19, Tryd.ntmps19
            go_wp2_with (first | (go_at_call 33; refine (hO _).mono ?_; rintro e w1 ⟨rfl, rfl⟩) | (go_at_call 34; refine hCl.mono ?_; rintro e w5 ⟨rfl, hb5⟩))
            all_goals go_ret
            all_goals first
              | exact ⟨retb E0.out.symm, Below.refl _ _⟩
              | exact ⟨retb E0.out.symm, hb5⟩
          | false =>
            simp only [q1] at E0
            simp only [Bool.true_or, Bool.or_true, Bool.false_or, Bool.or_false, Bool.and_true, Bool.and_false, Bool.true_and, Bool.false_and, Bool.not_true, Bool.not_false] at E0
            go_enter Tryd.func19, Tryd.ntmps19
            go_wp2_with (first | (go_at_call 33; refine (hO _).mono ?_; rintro e w1 ⟨rfl, rfl⟩) | (go_at_call 34; refine hCl.mono ?_; rintro e w5 ⟨rfl, hb5⟩))
            all_goals go_ret
            all_goals first
              | exact ⟨retb E0.out.symm, Below.refl _ _⟩
              | exact ⟨retb E0.out.symm, hb5⟩
        | false =>
          simp only [t3] at E0
          cases ob with
          | true =>
            simp only [Bool.true_or, Bool.or_true, Bool.false_or, Bool.or_false, Bool.and_true, Bool.and_false, Bool.true_and, Bool.false_and, Bool.not_true, Bool.not_false] at E0
            go_enter Tryd.func19, Tryd.ntmps19
            go_wp2_with (first | (go_at_call 33; refine (hO _).mono ?_; rintro e w1 ⟨rfl, rfl⟩) | (go_at_call 34; refine hCl.mono ?_; rintro e w5 ⟨rfl, hb5⟩))
            all_goals go_ret
            all_goals first
              | exact ⟨retb E0.out.symm, Below.refl _ _⟩
              | exact ⟨retb E0.out.symm, hb5⟩
          | false =>
            cases q1 : (cl == 1) with
            | true =>
              simp only [q1] at E0
              simp only [Bool.true_or, Bool.or_true, Bool.false_or, Bool.or_false, Bool.and_true, Bool.and_false, Bool.true_and, Bool.false_and, Bool.not_true, Bool.not_false] at E0
              go_enter Tryd.func19, Tryd.ntmps19
              go_wp2_with (first | (go_at_call 33; refine (hO _).mono ?_; rintro e w1 ⟨rfl, rfl⟩) | (go_at_call 34; refine hCl.mono ?_; rintro e w5 ⟨rfl, hb5⟩))
              all_goals go_ret
              all_goals first
                | exact ⟨retb E0.out.symm, Below.refl _ _⟩
                | exact ⟨retb E0.out.symm, hb5⟩
            | false =>
              simp only [q1] at E0
              simp only [Bool.true_or, Bool.or_true, Bool.false_or, Bool.or_false, Bool.and_true, Bool.and_false, Bool.true_and, Bool.false_and, Bool.not_true, Bool.not_false] at E0
              go_enter Tryd.func19, Tryd.ntmps19
              go_wp2_with (first | (go_at_call 33; refine (hO _).mono ?_; rintro e w1 ⟨rfl, rfl⟩) | (go_at_call 34; refine hCl.mono ?_; rintro e w5 ⟨rfl, hb5⟩))
              all_goals go_ret
              all_goals first
                | exact ⟨retb E0.out.symm, Below.refl _ _⟩
                | exact ⟨retb E0.out.symm, hb5⟩
    | false =>
      simp only [t2] at E0
      cases t3 : (nm.toList == [43, 43]) with
      | true =>
        simp only [t3] at E0
        cases q1 : (cl == 1) with
        | true =>
          simp only [q1] at E0
          simp only [Bool.true_or, Bool.or_true, Bool.false_or, Bool.or_false, Bool.and_true, Bool.and_false, Bool.true_and, Bool.false_and, Bool.not_true, Bool.not_false] at E0
          go_enter Tryd.func19, Tryd.ntmps19
          go_wp2_with (first | (go_at_call 33; refine (hO _).mono ?_; rintro e w1 ⟨rfl, rfl⟩) | (go_at_call 34; refine hCl.mono ?_; rintro e w5 ⟨rfl, hb5⟩))
          all_goals go_ret
          all_goals first
            | exact ⟨retb E0.out.symm, Below.refl _ _⟩
            | exact ⟨retb E0.out.symm, hb5⟩
        | false =>
          simp only [q1] at E0
          simp only [Bool.true_or, Bool.or_true, Bool.false_or, Bool.or_false, Bool.and_true, Bool.and_false, Bool.true_and, Bool.false_and, Bool.not_true, Bool.not_false] at E0
          go_enter Tryd.func19, Tryd.ntmps19
          go_wp2_with (first | (go_at_call 33; refine (hO _).mono ?_; rintro e w1 ⟨rfl, rfl⟩) | (go_at_call 34; refine hCl.mono ?_; rintro e w5 ⟨rfl, hb5⟩))
          all_goals go_ret
          all_goals first
            | exact ⟨retb E0.out.symm, Below.refl _ _⟩
            | exact ⟨retb E0.out.symm, hb5⟩
      | false =>
        simp only [t3] at E0
        cases ob with
        | true =>
          simp only [Bool.true_or, Bool.or_true, Bool.false_or, Bool.or_false, Bool.and_true, Bool.and_false, Bool.true_and, Bool.false_and, Bool.not_true, Bool.not_false] at E0
          go_enter Tryd.func19, Tryd.ntmps19
          go_wp2_with (first | (go_at_call 33; refine (hO _).mono ?_; rintro e w1 ⟨rfl, rfl⟩) | (go_at_call 34; refine hCl.mono ?_; rintro e w5 ⟨rfl, hb5⟩))
          all_goals go_ret
          all_goals first
            | exact ⟨retb E0.out.symm, Below.refl _ _⟩
            | exact ⟨retb E0.out.symm, hb5⟩
        | false =>
          cases q1 : (cl == 1) with
          | true =>
            simp only [q1] at E0
            simp only [Bool.true_or, Bool.or_true, Bool.false_or, Bool.or_false, Bool.and_true, Bool.and_false, Bool.true_and, Bool.false_and, Bool.not_true, Bool.not_false] at E0
            go_enter Tryd.func19, Tryd.ntmps19
            go_wp2_with (first | (go_at_call 33; refine (hO _).mono ?_; rintro e w1 ⟨rfl, rfl⟩) | (go_at_call 34; refine hCl.mono ?_; rintro e w5 ⟨rfl, hb5⟩))
            all_goals go_ret
            all_goals first
              | exact ⟨retb E0.out.symm, Below.refl _ _⟩
              | exact ⟨retb E0.out.symm, hb5⟩
          | false =>
            simp only [q1] at E0
            simp only [Bool.true_or, Bool.or_true, Bool.false_or, Bool.or_false, Bool.and_true, Bool.and_false, Bool.true_and, Bool.false_and, Bool.not_true, Bool.not_false] at E0
            go_enter Tryd.func19, Tryd.ntmps19
            go_wp2_with (first | (go_at_call 33; refine (hO _).mono ?_; rintro e w1 ⟨rfl, rfl⟩) | (go_at_call 34; refine hCl.mono ?_; rintro e w5 ⟨rfl, hb5⟩))
            all_goals go_ret
            all_goals first
              | exact ⟨retb E0.out.symm, Below.refl _ _⟩
              | exact ⟨retb E0.out.symm, hb5⟩
set_option maxRecDepth 100000 in
set_option maxHeartbeats 4000000 in
theorem named_14 (b o : Nat) (x : RIns) (so co go : Option Addr) (sc cc gc : Nat) (w : World) (hsp : SpaceAt w) (hx : IBox w b o x so co go sc cc gc) (hs : x.name.size ≤ 140737488355328) (hop : x.op = 14) :
    Calls Tryd.prog 19 #[.pointer (some ⟨b, o, none⟩)] w fun e w' => e = .returned (.bool (namedB x)) ∧ Below w.heap.size w w' := by
  have c0 := hx.c0; have c3 := hx.c3; have c5 := hx.c5; have c7 := hx.c7
  have r2 := hx.rsrc
  have hlt := hx.lt
  have hrn := hx.rn
  have hn1 : I64 (x.src.length : Int) := by unfold I64; omega
  have E0 : Hid (namedB x = ((operB x.name x.src.length || (classB x.name x.src.length == 1)) || (classB x.name x.src.length == 2))) := Lib.hid (by unfold namedB; rw [if_neg (by omega), if_pos hop])
  rw [hop] at c0
  have hO := fun wx => operator_any x.name x.src.length wx
  have hCl := class_any x.name x.src.length w hsp hs hn1
  clear hop hsp
  have HX := Lib.hid hx
  clear hx
  generalize namedB x = r at *
  generalize operB x.name x.src.length = ob at *
  generalize classB x.name x.src.length = cl at *
  generalize x.src.length = ln at *
  cases ob with
  | true =>
    simp only [Bool.true_or, Bool.or_true, Bool.false_or, Bool.or_false] at E0
    go_enter Tryd.func19, Tryd.ntmps19
    go_wp2_with fail
    refine hCl.mono ?_
    rintro e w5 ⟨rfl, hb5⟩
    have d3 := (hb5.cell (p := ⟨b, o + 3, none⟩) hlt).trans c3
    have d7 := (hb5.cell (p := ⟨b, o + 7, none⟩) hlt).trans c7
    go_wp2_with (go_at_call 33; refine (hO _).mono ?_; rintro e w1 ⟨rfl, rfl⟩)
    all_goals go_ret
    all_goals exact ⟨retb E0.out.symm, hb5⟩
  | false =>
    cases q1 : (cl == 1) with
    | true =>
      simp only [q1] at E0
      simp only [Bool.true_or, Bool.or_true, Bool.false_or, Bool.or_false] at E0
      go_enter Tryd.func19, Tryd.ntmps19
      go_wp2_with fail
      refine hCl.mono ?_
      rintro e w5 ⟨rfl, hb5⟩
      have d3 := (hb5.cell (p := ⟨b, o + 3, none⟩) hlt).trans c3
      have d7 := (hb5.cell (p := ⟨b, o + 7, none⟩) hlt).trans c7
      go_wp2_with (go_at_call 33; refine (hO _).mono ?_; rintro e w1 ⟨rfl, rfl⟩)
      all_goals go_ret
      all_goals exact ⟨retb E0.out.symm, hb5⟩
    | false =>
      simp only [q1] at E0
      cases q2 : (cl == 2) with
      | true =>
        simp only [q2] at E0
        simp only [Bool.true_or, Bool.or_true, Bool.false_or, Bool.or_false] at E0
        go_enter Tryd.func19, Tryd.ntmps19
        go_wp2_with fail
        refine hCl.mono ?_
        rintro e w5 ⟨rfl, hb5⟩
        have d3 := (hb5.cell (p := ⟨b, o + 3, none⟩) hlt).trans c3
        have d7 := (hb5.cell (p := ⟨b, o + 7, none⟩) hlt).trans c7
        go_wp2_with (go_at_call 33; refine (hO _).mono ?_; rintro e w1 ⟨rfl, rfl⟩)
        all_goals go_ret
        all_goals exact ⟨retb E0.out.symm, hb5⟩
      | false =>
        simp only [q2] at E0
        simp only [Bool.true_or, Bool.or_true, Bool.false_or, Bool.or_false] at E0
        go_enter Tryd.func19, Tryd.ntmps19
        go_wp2_with fail
        refine hCl.mono ?_
        rintro e w5 ⟨rfl, hb5⟩
        have d3 := (hb5.cell (p := ⟨b, o + 3, none⟩) hlt).trans c3
        have d7 := (hb5.cell (p := ⟨b, o + 7, none⟩) hlt).trans c7
        go_wp2_with (go_at_call 33; refine (hO _).mono ?_; rintro e w1 ⟨rfl, rfl⟩)
        all_goals go_ret
        all_goals exact ⟨retb E0.out.symm, hb5⟩
set_option maxRecDepth 100000 in
set_option maxHeartbeats 4000000 in
theorem named_15 (b o : Nat) (x : RIns) (so co go : Option Addr) (sc cc gc : Nat) (w : World) (hsp : SpaceAt w) (hx : IBox w b o x so co go sc cc gc) (hs : x.name.size ≤ 140737488355328) (hop : x.op = 15) :
    Calls Tryd.prog 19 #[.pointer (some ⟨b, o, none⟩)] w fun e w' => e = .returned (.bool (namedB x)) ∧ Below w.heap.size w w' := by
  have c0 := hx.c0; have c3 := hx.c3; have c5 := hx.c5; have c7 := hx.c7
  have r2 := hx.rsrc
  have hlt := hx.lt
  have hrn := hx.rn
  have hn1 : I64 (x.src.length : Int) := by unfold I64; omega
  have E0 : Hid (namedB x = (((x.name.toList == [33]) && (x.n == 2)) || (classB x.name x.n == 3))) := Lib.hid (by unfold namedB; rw [if_neg (by omega), if_neg (by omega), if_pos hop])
  rw [hop] at c0
  have hCl : ∀ wx, Below w.heap.size w wx → Calls Tryd.prog 34 #[.string x.name, .int .i64 x.n] wx fun e w' => e = .returned (.int .i64 (classB x.name x.n)) ∧ Below w.heap.size w w' := fun wx hb => (class_any x.name x.n wx (hsp.below hb) hs hrn).mono fun _ _ ⟨h1, h2⟩ => ⟨h1, below_next hb h2⟩
  have hdr : Below w.heap.size w w.drew := (Below.refl _ _).drew
  have HDR := Lib.hid hdr; clear hdr
  clear hop hsp hx
  generalize namedB x = r at *
  generalize classB x.name x.n = cl at *
  generalize x.name = nm at *
  generalize x.n = ln at *
  cases t1 : (nm.toList == [33]) with
  | true =>
    simp only [t1] at E0
    cases q2 : (ln == 2) with
    | true =>
      simp only [q2] at E0
      simp only [Bool.true_or, Bool.or_true, Bool.false_or, Bool.or_false, Bool.and_true, Bool.and_false, Bool.true_and, Bool.false_and] at E0
      go_enter Tryd.func19, Tryd.ntmps19
      go_wp2_with fail
      go_quiet (fail)
      go_wp2_with fail
      go_ret
      exact ⟨retb E0.out.symm, below_drewN (Below.refl _ _) _⟩
    | false =>
      simp only [q2] at E0
      cases q3 : (cl == 3) with
      | true =>
        simp only [q3] at E0
        simp only [Bool.true_or, Bool.or_true, Bool.false_or, Bool.or_false, Bool.and_true, Bool.and_false, Bool.true_and, Bool.false_and] at E0
        go_enter Tryd.func19, Tryd.ntmps19
        go_wp2_with fail
        first | go_region_held3 (fun w' => w'.cell? ⟨b, o + 7, none⟩ = some (.string nm) ∧ w'.cell? ⟨b, o + 5, none⟩ = some (.int .i64 ln)) (exact ⟨by assumption, by assumption⟩)
          ((go_at_call 34; refine (hCl _ ?_).mono ?_; exact HDR.out; rintro e w5 ⟨rfl, hb5⟩; have d7 := (hb5.cell (p := ⟨b, o + 7, none⟩) hlt).trans c7; have d5 := (hb5.cell (p := ⟨b, o + 5, none⟩) hlt).trans c5)) | fail
        go_wp2_with fail
        go_ret
        first
          | exact ⟨retb E0.out.symm, hb5⟩
          | exact ⟨retb E0.out.symm, Below.refl _ _⟩
      | false =>
        simp only [q3] at E0
        simp only [Bool.true_or, Bool.or_true, Bool.false_or, Bool.or_false, Bool.and_true, Bool.and_false, Bool.true_and, Bool.false_and] at E0
        go_enter Tryd.func19, Tryd.ntmps19
        go_wp2_with fail
        first | go_region_held3 (fun w' => w'.cell? ⟨b, o + 7, none⟩ = some (.string nm) ∧ w'.cell? ⟨b, o + 5, none⟩ = some (.int .i64 ln)) (exact ⟨by assumption, by assumption⟩)
          ((go_at_call 34; refine (hCl _ ?_).mono ?_; exact HDR.out; rintro e w5 ⟨rfl, hb5⟩; have d7 := (hb5.cell (p := ⟨b, o + 7, none⟩) hlt).trans c7; have d5 := (hb5.cell (p := ⟨b, o + 5, none⟩) hlt).trans c5)) | fail
        go_wp2_with fail
        go_ret
        first
          | exact ⟨retb E0.out.symm, hb5⟩
          | exact ⟨retb E0.out.symm, Below.refl _ _⟩
  | false =>
    simp only [t1] at E0
    simp only [Bool.true_or, Bool.or_true, Bool.false_or, Bool.or_false, Bool.and_true, Bool.and_false, Bool.true_and, Bool.false_and] at E0
    go_enter Tryd.func19, Tryd.ntmps19
    go_wp2_with fail
    have HCL := Lib.hid hCl
    clear hCl c0 c3 r2 hrn hn1
    refine wp_region_held_drew (S := fun w' => w'.cell? ⟨b, o + 7, none⟩ = some (.string nm) ∧ w'.cell? ⟨b, o + 5, none⟩ = some (.int .i64 ln)) (by kernel_rfl) ⟨by simpa using c7, by simpa using c5⟩ (fun hHeld => ?_)
    refine wpAnyH_take (i := 0) (v := ?v0) rfl (by kernel_rfl) (by kernel_rfl) (by kernel_rfl) (fun _ _ _ h => h) (Or.inl ⟨by rfl, ?y0⟩) hHeld ?_
    case y0 => (intro w hSw; (try dsimp only at hSw); go_simp; try with_reducible rfl)
    simp only [Act.put, List.setIfInBounds_toArray, List.set_cons_zero, List.set_cons_succ, List.getElem_toArray, List.getElem_cons_zero, List.getElem_cons_succ]
    refine wpAnyH_take (i := 1) (v := ?v1) rfl (by kernel_rfl) (by kernel_rfl) (by kernel_rfl) (fun _ _ _ h => h) (Or.inl ⟨by rfl, ?y1⟩) hHeld ?_
    case y1 => (intro w hSw; (try dsimp only at hSw); go_simp; try with_reducible rfl)
    simp only [Act.put, List.setIfInBounds_toArray, List.set_cons_zero, List.set_cons_succ, List.getElem_toArray, List.getElem_cons_zero, List.getElem_cons_succ]
    refine wpAnyH_take (i := 2) (v := ?v2) rfl (by kernel_rfl) (by kernel_rfl) (by kernel_rfl) (fun _ _ _ h => h) (Or.inl ⟨by rfl, ?y2⟩) hHeld ?_
    case y2 => (intro w hSw; (try dsimp only at hSw); go_simp; try with_reducible rfl)
    simp only [Act.put, List.setIfInBounds_toArray, List.set_cons_zero, List.set_cons_succ, List.getElem_toArray, List.getElem_cons_zero, List.getElem_cons_succ]
    refine wpAnyH_take (i := 3) (v := ?v3) rfl (by kernel_rfl) (by kernel_rfl) (by kernel_rfl) (fun _ _ _ h => h) (Or.inl ⟨by rfl, ?y3⟩) hHeld ?_
    case y3 => (intro w hSw; (try dsimp only at hSw); go_simp; try with_reducible rfl)
    simp only [Act.put, List.setIfInBounds_toArray, List.set_cons_zero, List.set_cons_succ, List.getElem_toArray, List.getElem_cons_zero, List.getElem_cons_succ]
    refine wpAnyH_take (i := 4) (v := ?v4) rfl (by kernel_rfl) (by kernel_rfl) (by kernel_rfl) (fun _ _ _ h => h) (Or.inl ⟨by rfl, ?y4⟩) hHeld ?_
    case y4 => (intro w hSw; (try dsimp only at hSw); go_simp; try with_reducible rfl)
    simp only [Act.put, List.setIfInBounds_toArray, List.set_cons_zero, List.set_cons_succ, List.getElem_toArray, List.getElem_cons_zero, List.getElem_cons_succ]
    refine wpAnyH_take (i := 5) (v := ?v5) rfl (by kernel_rfl) (by kernel_rfl) (by kernel_rfl) (fun _ _ _ h => h) (Or.inl ⟨by rfl, ?y5⟩) hHeld ?_
    case y5 => (intro w hSw; (try dsimp only at hSw); go_simp; try with_reducible rfl)
    simp only [Act.put, List.setIfInBounds_toArray, List.set_cons_zero, List.set_cons_succ, List.getElem_toArray, List.getElem_cons_zero, List.getElem_cons_succ]
    refine wpAnyH_take (i := 6) (v := undef) rfl (by kernel_rfl) (by kernel_rfl) (by kernel_rfl) (fun _ _ _ h => h) (Or.inr ⟨by kernel_rfl, rfl⟩) hHeld ?_
    simp only [Act.put, List.setIfInBounds_toArray, List.set_cons_zero, List.set_cons_succ, List.getElem_toArray, List.getElem_cons_zero, List.getElem_cons_succ]
    refine wpAnyH_take (i := 7) (v := undef) rfl (by kernel_rfl) (by kernel_rfl) (by kernel_rfl) (fun _ _ _ h => h) (Or.inr ⟨by kernel_rfl, rfl⟩) hHeld ?_
    simp only [Act.put, List.setIfInBounds_toArray, List.set_cons_zero, List.set_cons_succ, List.getElem_toArray, List.getElem_cons_zero, List.getElem_cons_succ]
    refine wpAnyH_take (i := 8) (v := undef) rfl (by kernel_rfl) (by kernel_rfl) (by kernel_rfl) (fun _ _ _ h => h) (Or.inr ⟨by kernel_rfl, rfl⟩) hHeld ?_
    simp only [Act.put, List.setIfInBounds_toArray, List.set_cons_zero, List.set_cons_succ, List.getElem_toArray, List.getElem_cons_zero, List.getElem_cons_succ]
    refine wpAnyH_take (i := 9) (v := undef) rfl (by kernel_rfl) (by kernel_rfl) (by kernel_rfl) (fun _ _ _ h => h) (Or.inr ⟨by kernel_rfl, rfl⟩) hHeld ?_
    simp only [Act.put, List.setIfInBounds_toArray, List.set_cons_zero, List.set_cons_succ, List.getElem_toArray, List.getElem_cons_zero, List.getElem_cons_succ]
    refine wpAnyH_take (i := 10) (v := undef) rfl (by kernel_rfl) (by kernel_rfl) (by kernel_rfl) (fun _ _ _ h => h) (Or.inr ⟨by kernel_rfl, rfl⟩) hHeld ?_
    simp only [Act.put, List.setIfInBounds_toArray, List.set_cons_zero, List.set_cons_succ, List.getElem_toArray, List.getElem_cons_zero, List.getElem_cons_succ]
    refine wpAnyH_take (i := 11) (v := ?v11) rfl (by kernel_rfl) (by kernel_rfl) (by kernel_rfl) (fun _ _ _ h => h) (Or.inl ⟨by rfl, ?y11⟩) hHeld ?_
    case y11 => (intro w hSw; (try dsimp only at hSw); go_simp; try with_reducible rfl)
    simp only [Act.put, List.setIfInBounds_toArray, List.set_cons_zero, List.set_cons_succ, List.getElem_toArray, List.getElem_cons_zero, List.getElem_cons_succ]
    refine wpAnyH_take (i := 12) (v := ?v12) rfl (by kernel_rfl) (by kernel_rfl) (by kernel_rfl) (fun _ _ _ h => h) (Or.inl ⟨by rfl, ?y12⟩) hHeld ?_
    case y12 => (intro w hSw; (try dsimp only at hSw); go_simp; try with_reducible rfl)
    simp only [Act.put, List.setIfInBounds_toArray, List.set_cons_zero, List.set_cons_succ, List.getElem_toArray, List.getElem_cons_zero, List.getElem_cons_succ]
    refine wpAnyH_take (i := 13) (v := ?v13) rfl (by kernel_rfl) (by kernel_rfl) (by kernel_rfl) (fun _ _ _ h => h) (Or.inl ⟨by rfl, ?y13⟩) hHeld ?_
    case y13 => (intro w hSw; (try dsimp only at hSw); go_simp; try with_reducible rfl)
    simp only [Act.put, List.setIfInBounds_toArray, List.set_cons_zero, List.set_cons_succ, List.getElem_toArray, List.getElem_cons_zero, List.getElem_cons_succ]
    refine wpAnyH_take (i := 14) (v := ?v14) rfl (by kernel_rfl) (by kernel_rfl) (by kernel_rfl) (fun _ _ _ h => h) (Or.inl ⟨by rfl, ?y14⟩) hHeld ?_
    case y14 => (intro w hSw; (try dsimp only at hSw); go_simp; try with_reducible rfl)
    simp only [Act.put, List.setIfInBounds_toArray, List.set_cons_zero, List.set_cons_succ, List.getElem_toArray, List.getElem_cons_zero, List.getElem_cons_succ]
    refine wpAnyH_take (i := 15) (v := ?v15) rfl (by kernel_rfl) (by kernel_rfl) (by kernel_rfl) (fun _ _ _ h => h) (Or.inl ⟨by rfl, ?y15⟩) hHeld ?_
    case y15 => (intro w hSw; (try dsimp only at hSw); go_simp; try with_reducible rfl)
    simp only [Act.put, List.setIfInBounds_toArray, List.set_cons_zero, List.set_cons_succ, List.getElem_toArray, List.getElem_cons_zero, List.getElem_cons_succ]
    refine wpAnyH_take (i := 16) (v := ?v16) rfl (by kernel_rfl) (by kernel_rfl) (by kernel_rfl) (fun _ _ _ h => h) (Or.inl ⟨by rfl, ?y16⟩) hHeld ?_
    case y16 => (intro w hSw; (try dsimp only at hSw); go_simp; try with_reducible rfl)
    simp only [Act.put, List.setIfInBounds_toArray, List.set_cons_zero, List.set_cons_succ, List.getElem_toArray, List.getElem_cons_zero, List.getElem_cons_succ]
    refine wpAnyH_take (i := 17) (v := ?v17) rfl (by kernel_rfl) (by kernel_rfl) (by kernel_rfl) (fun _ _ _ h => h) (Or.inl ⟨by rfl, ?y17⟩) hHeld ?_
    case y17 => (intro w hSw; (try dsimp only at hSw); go_simp; try with_reducible rfl)
    simp only [Act.put, List.setIfInBounds_toArray, List.set_cons_zero, List.set_cons_succ, List.getElem_toArray, List.getElem_cons_zero, List.getElem_cons_succ]
    refine wpAnyH_take (i := 18) (v := ?v18) rfl (by kernel_rfl) (by kernel_rfl) (by kernel_rfl) (fun _ _ _ h => h) (Or.inl ⟨by rfl, ?y18⟩) hHeld ?_
    case y18 => (intro w hSw; (try dsimp only at hSw); go_simp; try with_reducible rfl)
    simp only [Act.put, List.setIfInBounds_toArray, List.set_cons_zero, List.set_cons_succ, List.getElem_toArray, List.getElem_cons_zero, List.getElem_cons_succ]
    refine wpAnyH_take (i := 19) (v := ?v19) rfl (by kernel_rfl) (by kernel_rfl) (by kernel_rfl) (fun _ _ _ h => h) (Or.inl ⟨by rfl, ?y19⟩) hHeld ?_
    case y19 => (intro w hSw; (try dsimp only at hSw); go_simp; try with_reducible rfl)
    simp only [Act.put, List.setIfInBounds_toArray, List.set_cons_zero, List.set_cons_succ, List.getElem_toArray, List.getElem_cons_zero, List.getElem_cons_succ]
    refine wpAnyH_take (i := 20) (v := ?v20) rfl (by kernel_rfl) (by kernel_rfl) (by kernel_rfl) (fun _ _ _ h => h) (Or.inl ⟨by rfl, ?y20⟩) hHeld ?_
    case y20 => (intro w hSw; (try dsimp only at hSw); go_simp; try with_reducible rfl)
    simp only [Act.put, List.setIfInBounds_toArray, List.set_cons_zero, List.set_cons_succ, List.getElem_toArray, List.getElem_cons_zero, List.getElem_cons_succ]
    refine wpAnyH_ready (rs := [21]) (by kernel_rfl) (by simp) ?_
    refine AllReadyH.cons rfl (fun K hK => ?_) AllReadyH.nil
    simp only [List.getElem_toArray, List.getElem_cons_zero, List.getElem_cons_succ]
    go_simp
    refine (HCL.out _ HDR.out).mono ?_
    rintro e w5 ⟨rfl, hb5⟩
    go_wp2_with fail
    refine hK.out _ _ ⟨(hb5.cell (p := ⟨b, o + 7, none⟩) hlt).trans c7, (hb5.cell (p := ⟨b, o + 5, none⟩) hlt).trans c5⟩ (fun hHeld2 => ?_)
    clear hK K hHeld
    try simp only [Act.put, List.setIfInBounds_toArray, List.set_cons_zero, List.set_cons_succ, List.getElem_toArray, List.getElem_cons_zero, List.getElem_cons_succ]
    refine wpAnyH_take (i := 22) (v := ?v22) rfl (by kernel_rfl) (by kernel_rfl) (by kernel_rfl) (fun _ _ _ h => h) (Or.inl ⟨by rfl, ?y22⟩) hHeld2 ?_
    case y22 => (intro w hSw; (try dsimp only at hSw); go_simp; try with_reducible rfl)
    simp only [Act.put, List.setIfInBounds_toArray, List.set_cons_zero, List.set_cons_succ, List.getElem_toArray, List.getElem_cons_zero, List.getElem_cons_succ]
    refine wpAnyH_take (i := 23) (v := ?v23) rfl (by kernel_rfl) (by kernel_rfl) (by kernel_rfl) (fun _ _ _ h => h) (Or.inl ⟨by rfl, ?y23⟩) hHeld2 ?_
    case y23 => (intro w hSw; (try dsimp only at hSw); go_simp; try with_reducible rfl)
    simp only [Act.put, List.setIfInBounds_toArray, List.set_cons_zero, List.set_cons_succ, List.getElem_toArray, List.getElem_cons_zero, List.getElem_cons_succ]
    refine wpAnyH_take (i := 24) (v := ?v24) rfl (by kernel_rfl) (by kernel_rfl) (by kernel_rfl) (fun _ _ _ h => h) (Or.inl ⟨by rfl, ?y24⟩) hHeld2 ?_
    case y24 => (intro w hSw; (try dsimp only at hSw); go_simp; try with_reducible rfl)
    simp only [Act.put, List.setIfInBounds_toArray, List.set_cons_zero, List.set_cons_succ, List.getElem_toArray, List.getElem_cons_zero, List.getElem_cons_succ]
    refine wpAnyH_done (by kernel_rfl) ?_ _
    go_wp2_with fail
    go_ret
    exact ⟨retb E0.out.symm, hb5⟩
set_option maxRecDepth 100000 in
set_option maxHeartbeats 4000000 in
theorem named_rest (b o : Nat) (x : RIns) (so co go : Option Addr) (sc cc gc : Nat) (w : World) (hsp : SpaceAt w) (hx : IBox w b o x so co go sc cc gc) (hs : x.name.size ≤ 140737488355328) (h13 : ¬ x.op = 13) (h14 : ¬ x.op = 14) (h15 : ¬ x.op = 15) :
    Calls Tryd.prog 19 #[.pointer (some ⟨b, o, none⟩)] w fun e w' => e = .returned (.bool (namedB x)) ∧ Below w.heap.size w w' := by
  have c0 := hx.c0; have c3 := hx.c3; have c5 := hx.c5; have c7 := hx.c7
  have r2 := hx.rsrc
  have hlt := hx.lt
  have hrn := hx.rn
  have hn1 : I64 (x.src.length : Int) := by unfold I64; omega
  have E0 : Hid (namedB x = true) := Lib.hid (by unfold namedB; rw [if_neg h13, if_neg h14, if_neg h15])
  have t13 : (x.op == 13) = false := beq_eq_false_iff_ne.2 h13
  have t14 : (x.op == 14) = false := beq_eq_false_iff_ne.2 h14
  have t15 : (x.op == 15) = false := beq_eq_false_iff_ne.2 h15
  clear h13 h14 h15 hx hsp
  go_enter Tryd.func19, Tryd.ntmps19
  go_wp2_with fail
  go_ret
  exact ⟨retb E0.out.symm, Below.refl _ _⟩
theorem named_any (b o : Nat) (x : RIns) (so co go : Option Addr) (sc cc gc : Nat) (w : World) (hsp : SpaceAt w) (hx : IBox w b o x so co go sc cc gc) (hs : x.name.size ≤ 140737488355328) :
    Calls Tryd.prog 19 #[.pointer (some ⟨b, o, none⟩)] w fun e w' => e = .returned (.bool (namedB x)) ∧ Below w.heap.size w w' := by
  by_cases h13 : x.op = 13
  · exact named_13 b o x so co go sc cc gc w hsp hx hs h13
  by_cases h14 : x.op = 14
  · exact named_14 b o x so co go sc cc gc w hsp hx hs h14
  by_cases h15 : x.op = 15
  · exact named_15 b o x so co go sc cc gc w hsp hx hs h15
  exact named_rest b o x so co go sc cc gc w hsp hx hs h13 h14 h15
end Go.Proofs.YtghgbikmlbildaaDoor
