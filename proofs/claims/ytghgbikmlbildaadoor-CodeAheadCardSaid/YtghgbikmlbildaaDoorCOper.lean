/-
  operator: the walk (printed by gen_operator.py).
-/
import Derived.Test.YtghgbikmlbildaaDoorCWalk1
namespace Go.Proofs.YtghgbikmlbildaaDoor
open Go.RowKit
set_option linter.unusedVariables false
set_option linter.unusedSimpArgs false

def opTwo : List (List UInt8) := [[43], [42], [100, 105, 118], [114, 101, 109], [98, 97, 110, 100], [98, 111, 114], [98, 120, 111, 114], [98, 115, 108], [98, 115, 114], [97, 110, 100], [111, 114], [120, 111, 114], [61, 58, 61], [61, 47, 61], [60], [61, 60], [62], [62, 61], [43, 43]]
/-- Is this the name of an operator with n operands? -/
def operB (s : ByteArray) (n : Int) : Bool :=
  if s.toList == [45] then n == 1 || n == 2 else if s.toList == [98, 110, 111, 116] || s.toList == [110, 111, 116] then n == 1 else if opTwo.any (fun x => s.toList == x) then n == 2 else false

set_option maxRecDepth 100000 in
set_option maxHeartbeats 8000000 in
theorem operator_any (s : ByteArray) (n : Int) (w : World) : Calls Tryd.prog 33 #[.string s, .int .i64 n] w fun e w' => e = .returned (.bool (operB s n)) ∧ w = w' := by
  cases t0 : (s.toList == [45]) with
  | true =>
    have E : Hid (operB s n = (n == 1 || n == 2)) := Lib.hid (by unfold operB; rw [t0]; rfl)
    cases q1 : (n == 1) with
    | true =>
      rw [q1] at E
      go_enter Tryd.func33, Tryd.ntmps33
      go_wp2_with fail
      go_ret
      exact ⟨retb E.out.symm, rfl⟩
    | false =>
      rw [q1] at E
      go_enter Tryd.func33, Tryd.ntmps33
      go_wp2_with fail
      go_ret
      exact ⟨retb E.out.symm, rfl⟩
  | false =>
   cases t1 : (s.toList == [98, 110, 111, 116]) with
   | true =>
     have E : Hid (operB s n = (n == 1)) := Lib.hid (by unfold operB; rw [t0, t1]; rfl)
     go_enter Tryd.func33, Tryd.ntmps33
     go_wp2_with fail
     go_ret
     exact ⟨retb E.out.symm, rfl⟩
   | false =>
    cases t2 : (s.toList == [110, 111, 116]) with
    | true =>
      have E : Hid (operB s n = (n == 1)) := Lib.hid (by unfold operB; rw [t0, t1, t2]; rfl)
      go_enter Tryd.func33, Tryd.ntmps33
      go_wp2_with fail
      go_ret
      exact ⟨retb E.out.symm, rfl⟩
    | false =>
     cases t3 : (s.toList == [43]) with
     | true =>
       have E : Hid (operB s n = (n == 2)) := Lib.hid (by unfold operB opTwo; simp only [List.any_cons, List.any_nil, t0, t1, t2, t3, Bool.false_or, Bool.or_false, Bool.true_or, Bool.or_true, if_true]; rfl)
       go_enter Tryd.func33, Tryd.ntmps33
       go_wp2_with fail
       go_ret
       exact ⟨retb E.out.symm, rfl⟩
     | false =>
      cases t4 : (s.toList == [42]) with
      | true =>
        have E : Hid (operB s n = (n == 2)) := Lib.hid (by unfold operB opTwo; simp only [List.any_cons, List.any_nil, t0, t1, t2, t3, t4, Bool.false_or, Bool.or_false, Bool.true_or, Bool.or_true, if_true]; rfl)
        go_enter Tryd.func33, Tryd.ntmps33
        go_wp2_with fail
        go_ret
        exact ⟨retb E.out.symm, rfl⟩
      | false =>
       cases t5 : (s.toList == [100, 105, 118]) with
       | true =>
         have E : Hid (operB s n = (n == 2)) := Lib.hid (by unfold operB opTwo; simp only [List.any_cons, List.any_nil, t0, t1, t2, t3, t4, t5, Bool.false_or, Bool.or_false, Bool.true_or, Bool.or_true, if_true]; rfl)
         go_enter Tryd.func33, Tryd.ntmps33
         go_wp2_with fail
         go_ret
         exact ⟨retb E.out.symm, rfl⟩
       | false =>
        cases t6 : (s.toList == [114, 101, 109]) with
        | true =>
          have E : Hid (operB s n = (n == 2)) := Lib.hid (by unfold operB opTwo; simp only [List.any_cons, List.any_nil, t0, t1, t2, t3, t4, t5, t6, Bool.false_or, Bool.or_false, Bool.true_or, Bool.or_true, if_true]; rfl)
          go_enter Tryd.func33, Tryd.ntmps33
          go_wp2_with fail
          go_ret
          exact ⟨retb E.out.symm, rfl⟩
        | false =>
         cases t7 : (s.toList == [98, 97, 110, 100]) with
         | true =>
           have E : Hid (operB s n = (n == 2)) := Lib.hid (by unfold operB opTwo; simp only [List.any_cons, List.any_nil, t0, t1, t2, t3, t4, t5, t6, t7, Bool.false_or, Bool.or_false, Bool.true_or, Bool.or_true, if_true]; rfl)
           go_enter Tryd.func33, Tryd.ntmps33
           go_wp2_with fail
           go_ret
           exact ⟨retb E.out.symm, rfl⟩
         | false =>
          cases t8 : (s.toList == [98, 111, 114]) with
          | true =>
            have E : Hid (operB s n = (n == 2)) := Lib.hid (by unfold operB opTwo; simp only [List.any_cons, List.any_nil, t0, t1, t2, t3, t4, t5, t6, t7, t8, Bool.false_or, Bool.or_false, Bool.true_or, Bool.or_true, if_true]; rfl)
            go_enter Tryd.func33, Tryd.ntmps33
            go_wp2_with fail
            go_ret
            exact ⟨retb E.out.symm, rfl⟩
          | false =>
           cases t9 : (s.toList == [98, 120, 111, 114]) with
           | true =>
             have E : Hid (operB s n = (n == 2)) := Lib.hid (by unfold operB opTwo; simp only [List.any_cons, List.any_nil, t0, t1, t2, t3, t4, t5, t6, t7, t8, t9, Bool.false_or, Bool.or_false, Bool.true_or, Bool.or_true, if_true]; rfl)
             go_enter Tryd.func33, Tryd.ntmps33
             go_wp2_with fail
             go_ret
             exact ⟨retb E.out.symm, rfl⟩
           | false =>
            cases t10 : (s.toList == [98, 115, 108]) with
            | true =>
              have E : Hid (operB s n = (n == 2)) := Lib.hid (by unfold operB opTwo; simp only [List.any_cons, List.any_nil, t0, t1, t2, t3, t4, t5, t6, t7, t8, t9, t10, Bool.false_or, Bool.or_false, Bool.true_or, Bool.or_true, if_true]; rfl)
              go_enter Tryd.func33, Tryd.ntmps33
              go_wp2_with fail
              go_ret
              exact ⟨retb E.out.symm, rfl⟩
            | false =>
             cases t11 : (s.toList == [98, 115, 114]) with
             | true =>
               have E : Hid (operB s n = (n == 2)) := Lib.hid (by unfold operB opTwo; simp only [List.any_cons, List.any_nil, t0, t1, t2, t3, t4, t5, t6, t7, t8, t9, t10, t11, Bool.false_or, Bool.or_false, Bool.true_or, Bool.or_true, if_true]; rfl)
               go_enter Tryd.func33, Tryd.ntmps33
               go_wp2_with fail
               go_ret
               exact ⟨retb E.out.symm, rfl⟩
             | false =>
              cases t12 : (s.toList == [97, 110, 100]) with
              | true =>
                have E : Hid (operB s n = (n == 2)) := Lib.hid (by unfold operB opTwo; simp only [List.any_cons, List.any_nil, t0, t1, t2, t3, t4, t5, t6, t7, t8, t9, t10, t11, t12, Bool.false_or, Bool.or_false, Bool.true_or, Bool.or_true, if_true]; rfl)
                go_enter Tryd.func33, Tryd.ntmps33
                go_wp2_with fail
                go_ret
                exact ⟨retb E.out.symm, rfl⟩
              | false =>
               cases t13 : (s.toList == [111, 114]) with
               | true =>
                 have E : Hid (operB s n = (n == 2)) := Lib.hid (by unfold operB opTwo; simp only [List.any_cons, List.any_nil, t0, t1, t2, t3, t4, t5, t6, t7, t8, t9, t10, t11, t12, t13, Bool.false_or, Bool.or_false, Bool.true_or, Bool.or_true, if_true]; rfl)
                 go_enter Tryd.func33, Tryd.ntmps33
                 go_wp2_with fail
                 go_ret
                 exact ⟨retb E.out.symm, rfl⟩
               | false =>
                cases t14 : (s.toList == [120, 111, 114]) with
                | true =>
                  have E : Hid (operB s n = (n == 2)) := Lib.hid (by unfold operB opTwo; simp only [List.any_cons, List.any_nil, t0, t1, t2, t3, t4, t5, t6, t7, t8, t9, t10, t11, t12, t13, t14, Bool.false_or, Bool.or_false, Bool.true_or, Bool.or_true, if_true]; rfl)
                  go_enter Tryd.func33, Tryd.ntmps33
                  go_wp2_with fail
                  go_ret
                  exact ⟨retb E.out.symm, rfl⟩
                | false =>
                 cases t15 : (s.toList == [61, 58, 61]) with
                 | true =>
                   have E : Hid (operB s n = (n == 2)) := Lib.hid (by unfold operB opTwo; simp only [List.any_cons, List.any_nil, t0, t1, t2, t3, t4, t5, t6, t7, t8, t9, t10, t11, t12, t13, t14, t15, Bool.false_or, Bool.or_false, Bool.true_or, Bool.or_true, if_true]; rfl)
                   go_enter Tryd.func33, Tryd.ntmps33
                   go_wp2_with fail
                   go_ret
                   exact ⟨retb E.out.symm, rfl⟩
                 | false =>
                  cases t16 : (s.toList == [61, 47, 61]) with
                  | true =>
                    have E : Hid (operB s n = (n == 2)) := Lib.hid (by unfold operB opTwo; simp only [List.any_cons, List.any_nil, t0, t1, t2, t3, t4, t5, t6, t7, t8, t9, t10, t11, t12, t13, t14, t15, t16, Bool.false_or, Bool.or_false, Bool.true_or, Bool.or_true, if_true]; rfl)
                    go_enter Tryd.func33, Tryd.ntmps33
                    go_wp2_with fail
                    go_ret
                    exact ⟨retb E.out.symm, rfl⟩
                  | false =>
                   cases t17 : (s.toList == [60]) with
                   | true =>
                     have E : Hid (operB s n = (n == 2)) := Lib.hid (by unfold operB opTwo; simp only [List.any_cons, List.any_nil, t0, t1, t2, t3, t4, t5, t6, t7, t8, t9, t10, t11, t12, t13, t14, t15, t16, t17, Bool.false_or, Bool.or_false, Bool.true_or, Bool.or_true, if_true]; rfl)
                     go_enter Tryd.func33, Tryd.ntmps33
                     go_wp2_with fail
                     go_ret
                     exact ⟨retb E.out.symm, rfl⟩
                   | false =>
                    cases t18 : (s.toList == [61, 60]) with
                    | true =>
                      have E : Hid (operB s n = (n == 2)) := Lib.hid (by unfold operB opTwo; simp only [List.any_cons, List.any_nil, t0, t1, t2, t3, t4, t5, t6, t7, t8, t9, t10, t11, t12, t13, t14, t15, t16, t17, t18, Bool.false_or, Bool.or_false, Bool.true_or, Bool.or_true, if_true]; rfl)
                      go_enter Tryd.func33, Tryd.ntmps33
                      go_wp2_with fail
                      go_ret
                      exact ⟨retb E.out.symm, rfl⟩
                    | false =>
                     cases t19 : (s.toList == [62]) with
                     | true =>
                       have E : Hid (operB s n = (n == 2)) := Lib.hid (by unfold operB opTwo; simp only [List.any_cons, List.any_nil, t0, t1, t2, t3, t4, t5, t6, t7, t8, t9, t10, t11, t12, t13, t14, t15, t16, t17, t18, t19, Bool.false_or, Bool.or_false, Bool.true_or, Bool.or_true, if_true]; rfl)
                       go_enter Tryd.func33, Tryd.ntmps33
                       go_wp2_with fail
                       go_ret
                       exact ⟨retb E.out.symm, rfl⟩
                     | false =>
                      cases t20 : (s.toList == [62, 61]) with
                      | true =>
                        have E : Hid (operB s n = (n == 2)) := Lib.hid (by unfold operB opTwo; simp only [List.any_cons, List.any_nil, t0, t1, t2, t3, t4, t5, t6, t7, t8, t9, t10, t11, t12, t13, t14, t15, t16, t17, t18, t19, t20, Bool.false_or, Bool.or_false, Bool.true_or, Bool.or_true, if_true]; rfl)
                        go_enter Tryd.func33, Tryd.ntmps33
                        go_wp2_with fail
                        go_ret
                        exact ⟨retb E.out.symm, rfl⟩
                      | false =>
                       cases t21 : (s.toList == [43, 43]) with
                       | true =>
                         have E : Hid (operB s n = (n == 2)) := Lib.hid (by unfold operB opTwo; simp only [List.any_cons, List.any_nil, t0, t1, t2, t3, t4, t5, t6, t7, t8, t9, t10, t11, t12, t13, t14, t15, t16, t17, t18, t19, t20, t21, Bool.false_or, Bool.or_false, Bool.true_or, Bool.or_true, if_true]; rfl)
                         go_enter Tryd.func33, Tryd.ntmps33
                         go_wp2_with fail
                         go_ret
                         exact ⟨retb E.out.symm, rfl⟩
                       | false =>
                        have E : Hid (operB s n = false) := Lib.hid (by unfold operB opTwo; simp only [List.any_cons, List.any_nil, t0, t1, t2, t3, t4, t5, t6, t7, t8, t9, t10, t11, t12, t13, t14, t15, t16, t17, t18, t19, t20, t21, Bool.false_or]; rfl)
                        go_enter Tryd.func33, Tryd.ntmps33
                        go_wp2_with fail
                        go_ret
                        exact ⟨retb E.out.symm, rfl⟩
end Go.Proofs.YtghgbikmlbildaaDoor
