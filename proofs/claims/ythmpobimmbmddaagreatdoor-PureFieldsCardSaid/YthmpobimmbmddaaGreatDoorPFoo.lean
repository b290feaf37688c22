/-
  Apply at a name that is not known: the walk.
-/
import Derived.Test.YthmpobimmbmddaaGreatDoorPApply
namespace Go.Proofs.YthmpobimmbmddaaGreatDoor
open Go.RowKit Go.Maps Go.WideMaps
set_option linter.unusedVariables false
set_option linter.unusedSimpArgs false

set_option maxRecDepth 100000 in
theorem class_foo : classB ⟨#[102, 111, 111]⟩ 0 = 0 := by kernel_rfl
set_option maxRecDepth 100000 in
set_option maxHeartbeats 8000000 in
theorem apply_foo (w : World) (hsp : SpaceAt w) :
    Calls Tryz.prog 19 #[zeroV, .string ⟨#[102, 111, 111]⟩, .slice none 0 0] w fun e w' => e = .returned (.tuple #[zeroV, failV ⟨#[117, 110, 100, 101, 102]⟩]) ∧ Below w.heap.size w w' := by
  have HT := Lib.hid (two_newP w (.cells zRow9 28)); have HB := Lib.hid (two_belowP w (.cells zRow9 28))
  have HSp := Lib.hid (hsp.below HB.out)
  have HCn := Tryz.strings_Contains_one ⟨#[102, 111, 111]⟩ 47
  rw [decide_eq_false (by decide)] at HCn
  have hn1 := neq_nil; have hn2 := eql_nil
  clear hsp
  go_enter Tryz.func19, Tryz.ntmps19
  generalize hW : ((w.alloc (.cells zRow9 28)).alloc (.cells zRow9 28)).alloc (.cells zRow10 34) = W at *
  go_wp2_with (first | (go_at_call 20; refine (HCn _).mono ?_; rintro e w0 ⟨rfl, rfl⟩) | (go_at_call 22; refine (text_any 0 _ (by unfold I64; omega)).mono ?_; rintro e w1 ⟨rfl, hb1⟩) | (go_at_call 7; refine (class_any ⟨#[102, 111, 111]⟩ 0 _ (HSp.out.below hb1) (by decide) (by unfold I64; omega)).mono ?_; rintro e w2 ⟨rfl, hb2⟩; rw [class_foo]) | (go_at_call 29; refine (none_any _ _).mono ?_; rintro e w3 ⟨rfl, hb3⟩; have hb13 := below_next (below_next hb1 hb2) hb3; have hT := HT.out.below hb13) | (refine wpList_store_row rfl 28 _ _ rfl (w.heap.size + 1) _ rfl rfl 28 _ hT.1 (by kernel_rfl) rfl (by simp [Value.oneCell']) ?_) | (refine wpList_store_row rfl 34 _ _ rfl (w.heap.size + 2) _ rfl rfl 34 _ (two_other hT (by omega) _) (by kernel_rfl) rfl (by simp [Value.oneCell']) ?_) | fail)
  obtain ⟨q1, q2, q3⟩ := two_set hT (by omega) (HB.out.trans (hb13.mono HB.out.size)) (by omega) (by omega) zRow9 #[.string ⟨#[101, 114, 114, 111, 114]⟩, .int .i64 2, .int .i64 0, .int .i64 0, .string ⟨#[117, 110, 100, 101, 102]⟩, .string ⟨#[]⟩, .int .i64 0, .slice none 0 0, .string ⟨#[]⟩, .int .i64 0]
  refine bodyPost_ret (results_two_rows rfl _ _ _ (w.heap.size + 1) (w.heap.size + 2) _ _ _ _ _ _ _ _ rfl q1 rfl q2 Tryz.underlying28 (by kernel_rfl) Tryz.underlying34 (by kernel_rfl)) rfl ?_
  exact ⟨rfl, q3⟩
end Go.Proofs.YthmpobimmbmddaaGreatDoor
