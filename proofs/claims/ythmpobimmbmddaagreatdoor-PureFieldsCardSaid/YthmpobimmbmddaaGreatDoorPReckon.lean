/-
  Apply at an operator of two integers: the walks .
-/
import Derived.Test.YthmpobimmbmddaaGreatDoorPNum

namespace Go.Proofs.YthmpobimmbmddaaGreatDoor
open Go.RowKit
set_option linter.unusedVariables false
set_option linter.unusedSimpArgs false

abbrev jobR (so : Option Addr) (l c : Nat) : Array Value := #[.int .i64 0, .int .i64 0, .int .i64 0, .string ⟨#[]⟩, .string ⟨#[]⟩, .int .i64 0, .slice none 0 0, .string ⟨#[]⟩, .int .i64 0, .slice so l c]
set_option maxRecDepth 100000 in
set_option maxHeartbeats 4000000 in
theorem reckon_add (l : List Tm) (so : Option Addr) (c C : Nat) (w : World) (hs : SlAt w 9 (TmAt w 1) so l) (hl : l.length ≤ maxLen) (hk : ∀ t ∈ l, t.kind = 1) (h1 : firstI l l.length = 1) (h2 : lastI l l.length = 2)
    (hC : w.heap[C]? = some (.cells #[.func (.func 65) #[] #[]] 96 (0, 0))) :
    Calls Tryz.prog 137 #[.agg (jobR so l.length c), .pointer (some ⟨C, 0, none⟩)] w fun e w' => e = .returned (.tuple #[intV 3, noneV]) ∧ Below w.heap.size w w' := by
  have HT := Lib.hid (two_newP w (.cells (jobR so l.length c) 74)); have HB := Lib.hid (two_belowP w (.cells (jobR so l.length c) 74))
  have HC := Lib.hid ((HB.out.block C (lt_of_row hC)).trans hC)
  have HN := Lib.hid (numbers_any 0 l so c 0 0 0 0 0 ⟨#[]⟩ ⟨#[]⟩ ⟨#[]⟩ none 0 0 (((w.alloc (.cells (jobR so l.length c) 74)).alloc (.cells zRow9 28)).alloc (.cells zRow10 34)) (hs.tms HB.out) hl hk)
  rw [h1, h2] at HN
  clear hs hk h1 h2 hC hl
  go_enter Tryz.func137, Tryz.ntmps137
  generalize l.length = L at *
  go_wp2_with (first | (go_at_call 138; refine HN.out.mono ?_; rintro e w1 ⟨rfl, hb1⟩; have hcc := cell_of_row _ _ 0 _ _ _ ((hb1.block C (lt_of_row HC.out)).trans HC.out)) | (go_at_call 65; refine (add_12 _).mono ?_; rintro e w2 ⟨rfl, hb2⟩) | (go_at_call 139; refine (number_ok _ _).mono ?_; rintro e w3 ⟨rfl, hb3⟩; have hb13 := below_next (below_next hb1 hb2) hb3; have hT := HT.out.below hb13) | (refine wpList_store_row rfl 28 _ _ rfl (w.heap.size + 1) _ rfl rfl 28 _ hT.1 (by kernel_rfl) rfl (by simp [Value.oneCell']) ?_) | (refine wpList_store_row rfl 34 _ _ rfl (w.heap.size + 2) _ rfl rfl 34 _ (two_other hT (by omega) _) (by kernel_rfl) rfl (by simp [Value.oneCell']) ?_) | fail)
  obtain ⟨q1, q2, q3⟩ := two_set hT (by omega) (HB.out.trans (hb13.mono HB.out.size)) (by omega) (by omega) #[.int .i64 1, .int .i64 3, .int .i64 0, .string ⟨#[]⟩, .string ⟨#[]⟩, .int .i64 0, .slice none 0 0, .string ⟨#[]⟩, .int .i64 0] zRow10
  refine bodyPost_ret (results_two_rows rfl _ _ _ (w.heap.size + 1) (w.heap.size + 2) _ _ _ _ _ _ _ _ rfl q1 rfl q2 Tryz.underlying28 (by kernel_rfl) Tryz.underlying34 (by kernel_rfl)) rfl ?_
  exact ⟨rfl, q3⟩
set_option maxRecDepth 100000 in
set_option maxHeartbeats 4000000 in
theorem reckon_div (l : List Tm) (so : Option Addr) (c C : Nat) (w : World) (hs : SlAt w 9 (TmAt w 1) so l) (hl : l.length ≤ maxLen) (hk : ∀ t ∈ l, t.kind = 1) (h1 : firstI l l.length = 1) (h2 : lastI l l.length = 0)
    (hC : w.heap[C]? = some (.cells #[.func (.func 68) #[] #[]] 96 (0, 0))) :
    Calls Tryz.prog 137 #[.agg (jobR so l.length c), .pointer (some ⟨C, 0, none⟩)] w fun e w' => e = .returned (.tuple #[zeroV, failV ⟨#[98, 97, 100, 97, 114, 105, 116, 104]⟩]) ∧ Below w.heap.size w w' := by
  have HT := Lib.hid (two_newP w (.cells (jobR so l.length c) 74)); have HB := Lib.hid (two_belowP w (.cells (jobR so l.length c) 74))
  have HC := Lib.hid ((HB.out.block C (lt_of_row hC)).trans hC)
  have HN := Lib.hid (numbers_any 0 l so c 0 0 0 0 0 ⟨#[]⟩ ⟨#[]⟩ ⟨#[]⟩ none 0 0 (((w.alloc (.cells (jobR so l.length c) 74)).alloc (.cells zRow9 28)).alloc (.cells zRow10 34)) (hs.tms HB.out) hl hk)
  rw [h1, h2] at HN
  clear hs hk h1 h2 hC hl
  go_enter Tryz.func137, Tryz.ntmps137
  generalize l.length = L at *
  go_wp2_with (first | (go_at_call 138; refine HN.out.mono ?_; rintro e w1 ⟨rfl, hb1⟩; have hcc := cell_of_row _ _ 0 _ _ _ ((hb1.block C (lt_of_row HC.out)).trans HC.out)) | (go_at_call 68; refine (div_10 _).mono ?_; rintro e w2 ⟨rfl, rfl⟩) | (go_at_call 139; refine (number_bad _ _).mono ?_; rintro e w3 ⟨rfl, hb3⟩; have hb13 := below_next hb1 hb3; have hT := HT.out.below hb13) | (refine wpList_store_row rfl 28 _ _ rfl (w.heap.size + 1) _ rfl rfl 28 _ hT.1 (by kernel_rfl) rfl (by simp [Value.oneCell']) ?_) | (refine wpList_store_row rfl 34 _ _ rfl (w.heap.size + 2) _ rfl rfl 34 _ (two_other hT (by omega) _) (by kernel_rfl) rfl (by simp [Value.oneCell']) ?_) | fail)
  obtain ⟨q1, q2, q3⟩ := two_set hT (by omega) (HB.out.trans (hb13.mono HB.out.size)) (by omega) (by omega) zRow9 #[.string ⟨#[101, 114, 114, 111, 114]⟩, .int .i64 2, .int .i64 0, .int .i64 0, .string ⟨#[98, 97, 100, 97, 114, 105, 116, 104]⟩, .string ⟨#[]⟩, .int .i64 0, .slice none 0 0, .string ⟨#[]⟩, .int .i64 0]
  refine bodyPost_ret (results_two_rows rfl _ _ _ (w.heap.size + 1) (w.heap.size + 2) _ _ _ _ _ _ _ _ rfl q1 rfl q2 Tryz.underlying28 (by kernel_rfl) Tryz.underlying34 (by kernel_rfl)) rfl ?_
  exact ⟨rfl, q3⟩
end Go.Proofs.YthmpobimmbmddaaGreatDoor
