/-
  bits.Of, writer.done, bits.Term: the walks.
-/
import Derived.Test.YthmpobimmbmddaaGreatDoorPValid
import Derived.Test.YthmpobimmbmddaaGreatDoorPVal
import Derived.Test.YthmpobimmbmddaaGreatDoorTKinds
namespace Go.Proofs.YthmpobimmbmddaaGreatDoor
open Go.RowKit
set_option linter.unusedVariables false
set_option linter.unusedSimpArgs false

theorem conv_nil (w : World) : (convert 50 9 (.slice none 0 0)).run Tryz.prog w = .ok (.string ⟨#[]⟩) w := by kernel_rfl
/-- Bytes that the call itself has made, as a string. -/
theorem conv_owned {w : World} {B : Nat} {bv : Value} {L : List UInt8} (h : w.ownsRow B 5 1 bv L.length (byteC L)) : (convert 50 9 bv).run Tryz.prog w = .ok (.string ⟨L.toArray⟩) w := by
  rcases h.2 with ⟨rfl, h0⟩ | ⟨g, cap, cur, rfl, _, hg, hc, _, hs, ht⟩
  · obtain rfl : L = [] := List.eq_nil_of_length_eq_zero h0
    exact conv_nil w
  · refine run_convert_bytes_back (P := Tryz.prog) w 50 9 5 ⟨g, 0, none⟩ cap L Tryz.underlying50 Tryz.underlying5 Tryz.underlying9 (fun j hj => ?_)
    have ha : (⟨g, 0, none⟩ : Addr).add j = ⟨g, j, none⟩ := by unfold Addr.add; split <;> simp_all
    rw [ha, cell_of_row _ _ _ _ _ _ hg]
    have h1 : (byteC L)[j]? = some (.int .u8 (L[j].toNat : Int)) := by unfold byteC; rw [List.getElem?_map, List.getElem?_eq_getElem hj]; rfl
    rw [← ht, List.getElem?_take_of_lt (by omega), Array.getElem?_toList] at h1
    exact h1
set_option maxRecDepth 100000 in
set_option maxHeartbeats 4000000 in
theorem bof_any (y : ByteArray) (hy : y.size ≤ 70368744177664) (w : World) : Calls Tryz.prog 49 #[.string y] w fun e w' => e = .returned (.agg #[.string y, .int .i64 (8 * y.size : Nat)]) ∧ Below w.heap.size w w' := by
  go_enter Tryz.func49, Tryz.ntmps49
  go_wp2_with fail
  refine bodyPost_ret (results_cell_row rfl _ _ w.heap.size _ _ _ _ rfl (heap_alloc_new _ _) Tryz.underlying56 rfl (by kernel_rfl)) rfl ?_
  exact ⟨by simp, (Below.refl _ _).alloc (Nat.le_refl _) _⟩
set_option maxRecDepth 100000 in
set_option maxHeartbeats 4000000 in
theorem done_any (B r : Nat) (l : List Bool) (w : World) (h : BwAt B r l w) : Calls Tryz.prog 56 #[.pointer (some ⟨r, 0, none⟩)] w fun e w' => e = .returned (.agg #[.string (bstr l), .int .i64 l.length]) ∧ Below B w w' := by
  have hB0 : Below w.heap.size w (w.alloc (.cells #[.string ⟨#[]⟩, .int .i64 0] 56)) := (Below.refl _ _).alloc (Nat.le_refl _) _
  have hRS := Lib.hid (heap_alloc_new w (.cells #[.string ⟨#[]⟩, .int .i64 0] 56))
  have hBw := h.2.1
  obtain ⟨hBr, hBw1, bv, hbk, hown, hne⟩ := h.below hB0
  have HB := Lib.hid (hB0.mono hBw)
  have HC := conv_owned hown
  have c0 := cell_of_row _ _ 0 _ _ _ hbk
  have c1 := cell_of_row _ _ 1 _ _ _ hbk
  have c2 := cell_of_row _ _ 2 _ _ _ hbk
  have kf0 := Lib.frozen_of_heap hbk 0
  obtain ⟨ao, cap, rfl⟩ := slice_of_owns hown
  generalize (packB l).length = PL at *
  generalize l.length = LN at *
  have hrw : r ≠ w.heap.size := by
    intro e; rw [e, hRS.out] at hbk; injection hbk with hbk; injection hbk with _ hbk _; exact absurd hbk (by decide)
  go_enter Tryz.func56, Tryz.ntmps56
  generalize hW : w.alloc (.cells #[.string ⟨#[]⟩, .int .i64 0] 56) = W at *
  have HS : Hid (∀ v, (W.setCell ⟨r, 0, none⟩ v).heap[w.heap.size]? = some (.cells #[.string ⟨#[]⟩, .int .i64 0] 56 (0, 0))) := Lib.hid (fun v => (Below.heap_setCell W ⟨r, 0, none⟩ v w.heap.size (fun e => hrw e.symm)).trans hRS.out)
  go_wp2_with (first | (refine wpList_store_row rfl 56 _ _ rfl w.heap.size _ rfl rfl 56 _ (HS.out _) (by kernel_rfl) rfl (by simp [Value.oneCell']) ?_) | fail)
  refine bodyPost_ret (results_cell_row rfl _ _ w.heap.size _ _ _ _ rfl (setRow_heap _ _ _ _ _ _ (HS.out _)) Tryz.underlying56 rfl (by kernel_rfl)) rfl ?_
  exact ⟨rfl, below_setRow (HB.out.setCell (p := ⟨r, 0, none⟩) hBr _) hBw _⟩
/-- The term of a bit string. -/
abbrev bitsV' (m : List Bool) : Value := .agg #[.int .i64 10, .int .i64 0, .int .i64 0, .string ⟨#[]⟩, .string ⟨#[]⟩, .int .i64 0, .slice none 0 0, .string (bstr m), .int .i64 m.length]
set_option maxRecDepth 100000 in
set_option maxHeartbeats 4000000 in
theorem bterm_any (m : List Bool) (hm : m.length ≤ 16384) (w : World) : Calls Tryz.prog 32 #[.agg #[.string (bstr m), .int .i64 m.length]] w fun e w' => e = .returned (bitsV' m) ∧ Below w.heap.size w w' := by
  have HV := fun wx => bvalid_any m (by omega) wx
  unfold bitsV'
  generalize bstr m = y at *
  generalize m.length = n at *
  have hB0 : Below w.heap.size w ((w.alloc (.cells #[.string y, .int .i64 n] 56)).alloc (.cells zRow9 28)) := ((Below.refl _ _).alloc (Nat.le_refl _) _).alloc (by simp) _
  have hR1 := two1 w (.cells #[.string y, .int .i64 n] 56) (.cells zRow9 28)
  have hR0 := two0 w (.cells #[.string y, .int .i64 n] 56) (.cells zRow9 28)
  have HR1 := Lib.hid hR1; have HB := Lib.hid hB0; have HR0 := Lib.hid hR0
  clear hR1 hR0 hB0
  go_enter Tryz.func32, Tryz.ntmps32
  generalize hW : (w.alloc (.cells #[.string y, .int .i64 n] 56)).alloc (.cells zRow9 28) = W at *
  have a0 := cell_of_row _ _ 0 _ _ _ HR0.out; have a1 := cell_of_row _ _ 1 _ _ _ HR0.out
  go_wp2_with (first | (go_at_call 54; refine (HV _).mono ?_; rintro e w1 ⟨rfl, hb1⟩; have hr0 := (hb1.block _ (lt_of_row HR0.out)).trans HR0.out; have c0 := cell_of_row _ _ 0 _ _ _ hr0; have c1 := cell_of_row _ _ 1 _ _ _ hr0; have hr1 := (hb1.block _ (lt_of_row HR1.out)).trans HR1.out) | (refine wpList_store_row rfl 28 _ _ rfl (w.heap.size + 1) _ rfl rfl 28 _ hr1 (by kernel_rfl) rfl (by simp [Value.oneCell']) ?_) | fail)
  refine bodyPost_ret (results_cell_row rfl _ _ (w.heap.size + 1) _ _ _ _ rfl (setRow_heap _ _ _ _ _ _ hr1) Tryz.underlying28 rfl (by kernel_rfl)) rfl ?_
  exact ⟨rfl, below_setRow (HB.out.trans (hb1.mono HB.out.size)) (by omega) _⟩
end Go.Proofs.YthmpobimmbmddaaGreatDoor
