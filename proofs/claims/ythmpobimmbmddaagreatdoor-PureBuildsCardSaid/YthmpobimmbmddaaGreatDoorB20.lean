/-
  bits.Cut from the start; PutInt's failing ways: the walks.
-/
import Derived.Test.YthmpobimmbmddaaGreatDoorB19
namespace Go.Proofs.YthmpobimmbmddaaGreatDoor
open Go.RowKit
set_option linter.unusedVariables false
set_option linter.unusedSimpArgs false

set_option maxRecDepth 100000 in
set_option maxHeartbeats 8000000 in
theorem putint_no (v k : Int) (lt : Bool) (w : World) (h0 : 0 ≤ k) (hm : k ≤ 16384) (hbad : 64 < k ∨ (lt = true ∧ k % 8 ≠ 0)) :
    Calls Tryz.prog 50 #[.int .i64 v, .int .i64 k, .bool lt] w fun e w' => e = .returned (.tuple #[.agg #[.string ⟨#[]⟩, .int .i64 0], .int .i64 2]) ∧ Below w.heap.size w w' := by
  have HB0 := Lib.hid ((Below.refl w.heap.size w).alloc (Nat.le_refl _) (.cells #[.string ⟨#[]⟩, .int .i64 0] 56))
  have HR0 := Lib.hid (heap_alloc_new w (.cells #[.string ⟨#[]⟩, .int .i64 0] 56))
  have HBad := Lib.hid hbad
  have ht := Int.tmod_eq_emod_of_nonneg (b := 8) h0
  clear hbad
  go_enter Tryz.func50, Tryz.ntmps50
  generalize hW : w.alloc (.cells #[.string ⟨#[]⟩, .int .i64 0] 56) = W at *
  by_cases h64 : 64 < k
  · clear ht
    go_wp2_with (first | (refine wpList_store_row rfl 56 _ _ rfl w.heap.size _ rfl rfl 56 _ HR0.out (by kernel_rfl) rfl (by simp [Value.oneCell']) ?_) | fail)
    refine bodyPost_ret (results_row_tmp rfl _ _ _ w.heap.size _ _ _ _ rfl (setRow_heap _ _ _ #[.string ⟨#[]⟩, .int .i64 0] _ _ HR0.out) Tryz.underlying56 (by kernel_rfl)) rfl ?_
    exact ⟨rfl, below_setRow HB0.out (Nat.le_refl _) _⟩
  · obtain ⟨rfl, h8⟩ : lt = true ∧ k % 8 ≠ 0 := by rcases HBad.out with h | h; (exact absurd h h64); exact h
    have h8' : (k % 8 != 0) = true := by simpa using h8
    have h8t : (k.tmod 8 != 0) = true := by rw [ht]; exact h8'
    clear h8 ht
    go_wp2_with (first | (refine wpList_store_row rfl 56 _ _ rfl w.heap.size _ rfl rfl 56 _ HR0.out (by kernel_rfl) rfl (by simp [Value.oneCell']) ?_) | fail)
    refine bodyPost_ret (results_row_tmp rfl _ _ _ w.heap.size _ _ _ _ rfl (setRow_heap _ _ _ #[.string ⟨#[]⟩, .int .i64 0] _ _ HR0.out) Tryz.underlying56 (by kernel_rfl)) rfl ?_
    exact ⟨rfl, below_setRow HB0.out (Nat.le_refl _) _⟩
set_option maxRecDepth 100000 in
set_option maxHeartbeats 8000000 in
theorem cut_no (m : List Bool) (hm : m.length ≤ 16384) (n : Int) (hn : (m.length : Int) < n) (hn2 : n ≤ 1000000) (w : World) :
    Calls Tryz.prog 52 #[.agg #[.string (bstr m), .int .i64 m.length], .int .i64 0, .int .i64 n] w fun e w' => e = .returned (.tuple #[.agg #[.string ⟨#[]⟩, .int .i64 0], .int .i64 2]) ∧ Below w.heap.size w w' := by
  have HV := Lib.hid (fun wx => bvalid_any m (by omega) wx)
  generalize bstr m = y at *
  generalize m.length = z at *
  have HB := Lib.hid (two_below w (.cells #[.string y, .int .i64 z] 56) (.cells #[.string ⟨#[]⟩, .int .i64 0] 56))
  have HR1 := Lib.hid (two1 w (.cells #[.string y, .int .i64 z] 56) (.cells #[.string ⟨#[]⟩, .int .i64 0] 56))
  have HR0 := Lib.hid (two0 w (.cells #[.string y, .int .i64 z] 56) (.cells #[.string ⟨#[]⟩, .int .i64 0] 56))
  go_enter Tryz.func52, Tryz.ntmps52
  generalize hW : (w.alloc (.cells #[.string y, .int .i64 z] 56)).alloc (.cells #[.string ⟨#[]⟩, .int .i64 0] 56) = W at *
  have a0 := cell_of_row _ _ 0 _ _ _ HR0.out; have a1 := cell_of_row _ _ 1 _ _ _ HR0.out
  go_wp2_with (first | (go_at_call 54; refine (HV.out _).mono ?_; rintro e w1 ⟨rfl, hb1⟩; have hr0 := (hb1.block _ (lt_of_row HR0.out)).trans HR0.out; have c0 := cell_of_row _ _ 0 _ _ _ hr0; have c1 := cell_of_row _ _ 1 _ _ _ hr0; have hr1 := (hb1.block _ (lt_of_row HR1.out)).trans HR1.out) | (refine wpList_store_row rfl 56 _ _ rfl (w.heap.size + 1) _ rfl rfl 56 _ hr1 (by kernel_rfl) rfl (by simp [Value.oneCell']) ?_) | fail)
  refine bodyPost_ret (results_row_tmp rfl _ _ _ (w.heap.size + 1) _ _ _ _ rfl (setRow_heap _ _ _ #[.string ⟨#[]⟩, .int .i64 0] _ _ hr1) Tryz.underlying56 (by kernel_rfl)) rfl ?_
  exact ⟨rfl, below_setRow (HB.out.trans (hb1.mono HB.out.size)) (by omega) _⟩
set_option maxRecDepth 100000 in
set_option maxHeartbeats 8000000 in
theorem cut_any (m : List Bool) (hm : m.length ≤ 16384) (n : Nat) (hn : n ≤ m.length) (w : World) :
    Calls Tryz.prog 52 #[.agg #[.string (bstr m), .int .i64 m.length], .int .i64 0, .int .i64 n] w fun e w' => e = .returned (.tuple #[.agg #[.string (bstr (sub (bitsL (bstr m).data.toList) 0 n)), .int .i64 n], .int .i64 0]) ∧ Below w.heap.size w w' := by
  have HV := Lib.hid (fun wx => bvalid_any m (by omega) wx)
  have hys := bstr_size m
  generalize bstr m = y at *
  generalize m.length = z at *
  have hsl : (sub (bitsL y.data.toList) 0 n).length = n := sub_len _ _ _ (by rw [bits_size]; omega)
  have HADD := Lib.hid (fun (B r : Nat) (wx : World) (h : BwAt B r [] wx) => badd_any B r [] y 0 n wx h (by omega) (by omega) (by simp; omega))
  have HSL := Lib.hid hsl
  have HB := Lib.hid (two_below w (.cells #[.string y, .int .i64 z] 56) (.cells #[.string ⟨#[]⟩, .int .i64 0] 56))
  have HR1 := Lib.hid (two1 w (.cells #[.string y, .int .i64 z] 56) (.cells #[.string ⟨#[]⟩, .int .i64 0] 56))
  have HR0 := Lib.hid (two0 w (.cells #[.string y, .int .i64 z] 56) (.cells #[.string ⟨#[]⟩, .int .i64 0] 56))
  have hWs : ((w.alloc (.cells #[.string y, .int .i64 z] 56)).alloc (.cells #[.string ⟨#[]⟩, .int .i64 0] 56)).heap.size = w.heap.size + 2 := by simp
  clear hys
  generalize sub (bitsL y.data.toList) 0 n = S at *
  clear hsl
  go_enter Tryz.func52, Tryz.ntmps52
  generalize hW : (w.alloc (.cells #[.string y, .int .i64 z] 56)).alloc (.cells #[.string ⟨#[]⟩, .int .i64 0] 56) = W at *
  have a0 := cell_of_row _ _ 0 _ _ _ HR0.out; have a1 := cell_of_row _ _ 1 _ _ _ HR0.out
  go_upto_region 3 with (first | (go_at_call 54; refine (HV.out _).mono ?_; rintro e w1 ⟨rfl, hb1⟩; have hr0 := (hb1.block _ (lt_of_row HR0.out)).trans HR0.out; have c0 := cell_of_row _ _ 0 _ _ _ hr0; have c1 := cell_of_row _ _ 1 _ _ _ hr0) | fail)
  clear a0 a1 c0 c1
  have hba : Below w1.heap.size w1 (w1.alloc (.cells #[.string ⟨#[]⟩, .int .i64 0, .slice none 0 0] 90)) := (Below.refl _ _).alloc (Nat.le_refl _) _
  have hbw := bw_new (B := w.heap.size + 2) w1 (by have := hb1.size; omega)
  have hbA := below_next hb1 hba
  have hr0A := (hbA.block _ (lt_of_row HR0.out)).trans HR0.out
  have c0 := cell_of_row _ _ 0 _ _ _ hr0A
  have HBA := Lib.hid hbA
  have hadd := HADD.out _ _ _ hbw
  rw [List.nil_append] at hadd
  have HAD := Lib.hid hadd
  have HDN := Lib.hid (fun (B r : Nat) wx (h : BwAt B r S wx) => by have h := done_any B r S wx h; rw [HSL.out] at h; exact h)
  clear hadd hbw hba hbA hr0 hr0A HADD
  go_wp2_with (first | (go_at_call 55; refine HAD.out.mono ?_; rintro e w5 ⟨rfl, hbw5, hb5⟩; have HBW5 := Lib.hid hbw5) | (go_at_call 56; refine (HDN.out _ _ _ HBW5.out).mono ?_; rintro e w6 ⟨rfl, hb6⟩; have hb56 : Below W.heap.size W w6 := HBA.out.trans ((show W.heap.size = w.heap.size + 2 from hWs) ▸ hb5.trans hb6); have hr1 := (hb56.block _ (lt_of_row HR1.out)).trans HR1.out) | (refine wpList_store_row rfl 56 _ _ rfl (w.heap.size + 1) _ rfl rfl 56 _ hr1 (by kernel_rfl) rfl (by simp [Value.oneCell']) ?_) | fail)
  refine bodyPost_ret (results_row_tmp rfl _ _ _ (w.heap.size + 1) _ _ _ _ rfl (setRow_heap _ _ _ _ _ _ hr1) Tryz.underlying56 (by kernel_rfl)) rfl ?_
  exact ⟨rfl, below_setRow (HB.out.trans (hb56.mono HB.out.size)) (by omega) _⟩
end Go.Proofs.YthmpobimmbmddaaGreatDoor
