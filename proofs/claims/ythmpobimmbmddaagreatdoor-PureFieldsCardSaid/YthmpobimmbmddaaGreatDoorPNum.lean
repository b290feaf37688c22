/-
  Operators on integers: the walks (those that the closed examples reach).
-/
import Derived.Test.YthmpobimmbmddaaGreatDoorPVal
import Derived.Test.YthmpobimmbmddaaGreatDoorPOps
import Derived.Test.YthmpobimmbmddaaGreatDoorTSpec
namespace Go.Proofs.YthmpobimmbmddaaGreatDoor
open Go.RowKit
set_option linter.unusedVariables false
set_option linter.unusedSimpArgs false

theorem tint_is (n : Int) (w : World) : Calls Tryz.prog 154 #[.int .i64 n] w fun e w' => e = .returned (intV n) ∧ Below w.heap.size w w' := by
  go_enter Tryz.func154, Tryz.ntmps154
  go_wp2_with fail
  refine bodyPost_ret (results_cell_row rfl _ _ w.heap.size _ _ _ _ rfl (heap_alloc_new _ _) Tryz.underlying28 rfl (by kernel_rfl)) rfl ?_
  exact ⟨rfl, (Below.refl _ _).alloc (Nat.le_refl _) _⟩
theorem add_12 (w : World) : Calls Tryz.prog 65 #[.int .i64 1, .int .i64 2] w fun e w' => e = .returned (.tuple #[.int .i64 3, .int .i64 0]) ∧ Below w.heap.size w w' := by
  have hmf : ∀ (fn : Fn) (first cap : Array Value) (w : World), (Instr.makeFunc fn first cap).run Tryz.prog w = .ok (.func fn first cap) w := fun _ _ _ _ => rfl
  go_enter Tryz.func65, Tryz.ntmps65
  go_wp2_with (first | go_in | fail)
  go_ret2
  exact ⟨rfl, (((Below.refl _ _).alloc (Nat.le_refl _) _).alloc (by simp) _).alloc (by simp; omega) _⟩
theorem div_10 (w : World) : Calls Tryz.prog 68 #[.int .i64 1, .int .i64 0] w fun e w' => e = .returned (.tuple #[.int .i64 0, .int .i64 2]) ∧ w = w' := by
  go_enter Tryz.func68, Tryz.ntmps68
  go_wp2_with fail
  go_ret2
  exact ⟨rfl, rfl⟩
set_option maxRecDepth 100000 in
set_option maxHeartbeats 4000000 in
theorem number_ok (n : Int) (w : World) : Calls Tryz.prog 139 #[.int .i64 n, .int .i64 0] w fun e w' => e = .returned (.tuple #[intV n, noneV]) ∧ Below w.heap.size w w' := by
  have HT := Lib.hid (two_new w); have HB := Lib.hid (two_belowE w)
  go_enter Tryz.func139, Tryz.ntmps139
  generalize hW : (w.alloc (.cells zRow9 28)).alloc (.cells zRow10 34) = W at *
  go_wp2_with (first | (go_at_call 154; refine (tint_is _ _).mono ?_; rintro e w1 ⟨rfl, hb1⟩) | (go_at_call 31; refine (some_any _ _ _ _ _ _ _ _ _ _ _ _).mono ?_; rintro e w2 ⟨rfl, hb2⟩; have hb12 := below_next hb1 hb2; have hT := HT.out.below hb12) | (refine wpList_store_row rfl 28 _ _ rfl w.heap.size _ rfl rfl 28 _ hT.1 (by kernel_rfl) rfl (by simp [Value.oneCell']) ?_) | (refine wpList_store_row rfl 34 _ _ rfl (w.heap.size + 1) _ rfl rfl 34 _ (two_other hT (by omega) _) (by kernel_rfl) rfl (by simp [Value.oneCell']) ?_) | fail)
  obtain ⟨q1, q2, q3⟩ := two_set hT (by omega) (HB.out.trans (hb12.mono HB.out.size)) (Nat.le_refl _) (Nat.le_succ _) #[.int .i64 1, .int .i64 n, .int .i64 0, .string ⟨#[]⟩, .string ⟨#[]⟩, .int .i64 0, .slice none 0 0, .string ⟨#[]⟩, .int .i64 0] zRow10
  refine bodyPost_ret (results_two_rows rfl _ _ _ w.heap.size (w.heap.size + 1) _ _ _ _ _ _ _ _ rfl q1 rfl q2 Tryz.underlying28 (by kernel_rfl) Tryz.underlying34 (by kernel_rfl)) rfl ?_
  exact ⟨rfl, q3⟩
set_option maxRecDepth 100000 in
set_option maxHeartbeats 4000000 in
theorem number_bad (n : Int) (w : World) : Calls Tryz.prog 139 #[.int .i64 n, .int .i64 2] w fun e w' => e = .returned (.tuple #[zeroV, failV ⟨#[98, 97, 100, 97, 114, 105, 116, 104]⟩]) ∧ Below w.heap.size w w' := by
  have HT := Lib.hid (two_new w); have HB := Lib.hid (two_belowE w)
  go_enter Tryz.func139, Tryz.ntmps139
  generalize hW : (w.alloc (.cells zRow9 28)).alloc (.cells zRow10 34) = W at *
  go_wp2_with (first | (go_at_call 29; refine (none_any _ _).mono ?_; rintro e w2 ⟨rfl, hb2⟩; have hT := HT.out.below hb2) | (refine wpList_store_row rfl 28 _ _ rfl w.heap.size _ rfl rfl 28 _ hT.1 (by kernel_rfl) rfl (by simp [Value.oneCell']) ?_) | (refine wpList_store_row rfl 34 _ _ rfl (w.heap.size + 1) _ rfl rfl 34 _ (two_other hT (by omega) _) (by kernel_rfl) rfl (by simp [Value.oneCell']) ?_) | fail)
  obtain ⟨q1, q2, q3⟩ := two_set hT (by omega) (HB.out.trans (hb2.mono HB.out.size)) (Nat.le_refl _) (Nat.le_succ _) zRow9 #[.string ⟨#[101, 114, 114, 111, 114]⟩, .int .i64 2, .int .i64 0, .int .i64 0, .string ⟨#[98, 97, 100, 97, 114, 105, 116, 104]⟩, .string ⟨#[]⟩, .int .i64 0, .slice none 0 0, .string ⟨#[]⟩, .int .i64 0]
  refine bodyPost_ret (results_two_rows rfl _ _ _ w.heap.size (w.heap.size + 1) _ _ _ _ _ _ _ _ rfl q1 rfl q2 Tryz.underlying28 (by kernel_rfl) Tryz.underlying34 (by kernel_rfl)) rfl ?_
  exact ⟨rfl, q3⟩
/-- All terms of a list are integers. -/
def lastI (l : List Tm) (k : Nat) : Int := if k = 0 then 0 else ((l[k - 1]?).map Tm.int).getD 0
def firstI (l : List Tm) (k : Nat) : Int := if k = 0 then 0 else ((l[0]?).map Tm.int).getD 0
set_option maxRecDepth 100000 in
set_option maxHeartbeats 4000000 in
theorem numbers_any (f : Nat) (l : List Tm) (so : Option Addr) (c : Nat) (k i g a z : Int) (n fn y : ByteArray) (io : Option Addr) (il ic : Nat) (w : World) (hs : SlAt w 9 (TmAt w (f + 1)) so l) (hl : l.length ≤ maxLen) (hk : ∀ t ∈ l, t.kind = 1) :
    Calls Tryz.prog 138 #[.agg #[.int .i64 k, .int .i64 i, .int .i64 g, .string n, .string fn, .int .i64 a, .slice io il ic, .string y, .int .i64 z, .slice so l.length c]] w fun e w' => e = .returned (.tuple #[.int .i64 (firstI l l.length), .int .i64 (lastI l l.length), .bool true]) ∧ Below w.heap.size w w' := by
  have hb0 : Below w.heap.size w (w.alloc (.cells #[.int .i64 k, .int .i64 i, .int .i64 g, .string n, .string fn, .int .i64 a, .slice io il ic, .string y, .int .i64 z, .slice so l.length c] 74)) := (Below.refl _ _).alloc (Nat.le_refl _) _
  have HS := Lib.hid (hs.tms hb0); have HB := Lib.hid hb0; have HK := Lib.hid hk
  unfold maxLen at hl
  clear hb0 hs hk
  go_enter Tryz.func138, Tryz.ntmps138
  go_wp2_with fail
  generalize w.alloc _ = W at *
  go_loopw [2, 3, 10] (fun va vb vk wr => ∃ j : Nat, j ≤ l.length ∧ vk = .int .i64 j ∧ va = .int .i64 (firstI l j) ∧ vb = .int .i64 (lastI l j) ∧ Hid (Below W.heap.size W wr)) (fun _ _ vk _ => l.length - (intOf vk).toNat)
  case atStart => exact ⟨0, Nat.zero_le _, rfl, rfl, rfl, Lib.hid (Below.refl _ _)⟩
  case round =>
    obtain ⟨j, hj, rfl, rfl, rfl, HBr⟩ := hrel
    rename World => wr
    by_cases hlt : j < l.length
    · obtain ⟨b, off, ai, c', hao, hb, q0, q1, q2, q3, q4, q5, q6, q7, q8, _, _⟩ := (HS.out.tms HBr.out).tm hlt
      subst hao
      have hkd := HK.out _ (List.getElem_mem hlt)
      rw [hkd] at q0
      have E1 : Hid (firstI l (j + 1) = if j = 0 then l[j].int else firstI l j) := Lib.hid (by
        unfold firstI; rw [if_neg (by omega)]
        by_cases h0 : j = 0
        · subst h0; rw [if_pos rfl, List.getElem?_eq_getElem hlt]; rfl
        · rw [if_neg h0, if_neg h0])
      have E2 : Hid (lastI l (j + 1) = l[j].int) := Lib.hid (by unfold lastI; rw [if_neg (by omega), show j + 1 - 1 = j by omega, List.getElem?_eq_getElem hlt]; rfl)
      generalize l[j] = t at *
      by_cases h0 : j = 0
      · rw [if_pos h0] at E1
        have t0 : ((j : Int) == 0) = true := beq_iff_eq.2 (by omega)
        clear h0
        go_wp2_with fail
        go_roundw
        case rel => exact ⟨j + 1, by omega, by go_num, by rw [E1.out], by rw [E2.out], Lib.hid ((HBr.out).alloc HBr.out.size _)⟩
        case measure => simp [intOf]; omega
      · rw [if_neg h0] at E1
        have t0 : ((j : Int) == 0) = false := beq_eq_false_iff_ne.2 (by omega)
        clear h0
        go_wp2_with fail
        go_roundw
        case rel => exact ⟨j + 1, by omega, by go_num, by rw [E1.out], by rw [E2.out], Lib.hid ((HBr.out).alloc HBr.out.size _)⟩
        case measure => simp [intOf]; omega
    · obtain rfl : j = l.length := by omega
      go_wp2_with fail
      go_ret3
      exact ⟨rfl, HB.out.trans (HBr.out.mono HB.out.size)⟩
end Go.Proofs.YthmpobimmbmddaaGreatDoor
