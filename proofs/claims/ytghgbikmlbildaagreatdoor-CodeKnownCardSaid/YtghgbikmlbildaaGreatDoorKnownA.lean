/-
  CodeKnown: the walk.
-/
import Derived.Test.YtghgbikmlbildaaGreatDoorRoundsAll28
namespace Go.Proofs.YtghgbikmlbildaaGreatDoor
open Go.RowKit
set_option linter.unusedVariables false
set_option linter.unusedSimpArgs false

/-- The small unit, some of its numbers turned, and what stands behind its code. -/
def kU (v n tg : Int) (l : List RIns) : RUnit := ⟨⟨#[109]⟩, v, [], [⟨⟨#[102]⟩, 1, true, 0⟩], [], ⟨1, ⟨1, n⟩, [⟨1, 0⟩], 0, 0, 0, ⟨#[]⟩, [], []⟩ :: ⟨26, ⟨0, 0⟩, [], tg, 0, 0, ⟨#[]⟩, [], []⟩ :: l⟩
def fRow : Obj := .cells #[.string ⟨#[102]⟩, .int .i64 1, .bool true, .int .i64 0] 81 (0, 0)
def sRow : Obj := .cells #[.int .i64 1, .int .i64 0] 45 (0, 0)
def cRow (b : Nat) (n tg : Int) : Obj := .cells #[.int .i64 1, .int .i64 1, .int .i64 n, .slice (some ⟨b, 0, none⟩) 1 1, .int .i64 0, .int .i64 0, .int .i64 0, .string ⟨#[]⟩, .slice none 0 0, .slice none 0 0,
      .int .i64 26, .int .i64 0, .int .i64 0, .slice none 0 0, .int .i64 tg, .int .i64 0, .int .i64 0, .string ⟨#[]⟩, .slice none 0 0, .slice none 0 0] 50 (0, 0)
/-- The three blocks of a small unit, f, f + 1, f + 2. -/
structure SmB (w : World) (f : Nat) (n tg : Int) : Prop where
  fr : w.heap[f]? = some fRow
  sr : w.heap[f + 1]? = some sRow
  cr : w.heap[f + 2]? = some (cRow (f + 1) n tg)
theorem SmB.up {w : World} {f : Nat} {n tg v : Int} (h : SmB w f n tg) (hn : -1000 ≤ n ∧ n ≤ 1000) (ht : -1000 ≤ tg ∧ tg ≤ 1000) (hv : -1000 ≤ v ∧ v ≤ 1000) : UP w (kU v n tg []) none (some ⟨f, 0, none⟩) none (some ⟨f + 2, 0, none⟩) := by
  obtain ⟨h1, h2, h3⟩ := h
  unfold fRow at h1; unfold sRow at h2; unfold cRow at h3
  have i : ∀ n : Int, -1000 ≤ n ∧ n ≤ 1000 → I64 n := fun n a => by unfold I64; omega
  have m : ∀ n : Nat, decide (n ≤ 100) = true → n ≤ maxLen := fun n a => by have := of_decide_eq_true a; unfold maxLen; omega
  have i0 := i 0 (by decide); have i1 := i 1 (by decide); have i26 := i 26 (by decide)
  refine ⟨.inl rfl, .inr ⟨f, 0, rfl, lt_of_row h1, fun j hj => ?_⟩, .inl rfl, .inr ⟨f + 2, 0, rfl, lt_of_row h3, fun j hj => ?_⟩, by show (1 : Nat) ≤ _; decide, i _ hv, by show (0 : Nat) ≤ _; decide, by show (1 : Nat) ≤ _; decide, by show (0 : Nat) ≤ _; decide, by show (2 : Nat) ≤ _; decide⟩
  · obtain rfl : j = 0 := by have hj : j < 1 := hj; omega
    refine ⟨[.string ⟨#[102]⟩, .int .i64 1, .bool true, .int .i64 0], rfl, fun k hk => ?_, rfl, m _ rfl, i1, i0⟩
    rw [cell_of_row _ _ _ _ _ _ h1, show 0 + 0 * 4 + k = k by omega]
    simp
  · have hj2 : j < 2 := hj
    rcases (show j = 0 ∨ j = 1 by omega) with rfl | rfl
    · refine ⟨[.int .i64 1, .int .i64 1, .int .i64 n, .slice (some ⟨f + 1, 0, none⟩) 1 1, .int .i64 0, .int .i64 0, .int .i64 0, .string ⟨#[]⟩, .slice none 0 0, .slice none 0 0], rfl, fun k hk => ?_,
        ⟨some ⟨f + 1, 0, none⟩, 1, none, 0, none, 0, rfl, .inr ⟨f + 1, 0, rfl, lt_of_row h2, fun j hj => ?_⟩, .inl rfl, .inl rfl⟩, i1, i1, i _ hn, m _ rfl, i0, i0, i0, m _ rfl, m _ rfl, m _ rfl⟩
      · rw [cell_of_row _ _ _ _ _ _ h3, show 0 + 0 * 10 + k = k by omega]
        rcases (show k = 0 ∨ k = 1 ∨ k = 2 ∨ k = 3 ∨ k = 4 ∨ k = 5 ∨ k = 6 ∨ k = 7 ∨ k = 8 ∨ k = 9 by omega) with rfl | rfl | rfl | rfl | rfl | rfl | rfl | rfl | rfl | rfl <;> rfl
      · obtain rfl : j = 0 := by have hj : j < 1 := hj; omega
        refine ⟨[.int .i64 1, .int .i64 0], rfl, fun k hk => ?_, rfl, i1, i0⟩
        rw [cell_of_row _ _ _ _ _ _ h2, show 0 + 0 * 2 + k = k by omega]
        simp
    · refine ⟨[.int .i64 26, .int .i64 0, .int .i64 0, .slice none 0 0, .int .i64 tg, .int .i64 0, .int .i64 0, .string ⟨#[]⟩, .slice none 0 0, .slice none 0 0], rfl, fun k hk => ?_,
        ⟨none, 0, none, 0, none, 0, rfl, .inl rfl, .inl rfl, .inl rfl⟩, i26, i0, i0, m _ rfl, i _ ht, i0, i0, m _ rfl, m _ rfl, m _ rfl⟩
      rw [cell_of_row _ _ _ _ _ _ h3]
      rcases (show k = 0 ∨ k = 1 ∨ k = 2 ∨ k = 3 ∨ k = 4 ∨ k = 5 ∨ k = 6 ∨ k = 7 ∨ k = 8 ∨ k = 9 by omega) with rfl | rfl | rfl | rfl | rfl | rfl | rfl | rfl | rfl | rfl <;> rfl
def SmQ (w : World) (e : Ending) (w' : World) : Prop := ∃ f, e = .returned (.agg #[.string ⟨#[109]⟩, .int .i64 1, .slice none 0 0, .slice (some ⟨f, 0, none⟩) 1 1, .slice none 0 0, .slice (some ⟨f + 2, 0, none⟩) 2 2]) ∧ w.heap.size ≤ f ∧ SmB w' f 1 0 ∧ Below w.heap.size w w'
set_option maxRecDepth 100000 in
set_option maxHeartbeats 4000000 in
theorem small_blocks (w : World) : Calls Tryz.prog 20 #[] w (SmQ w) := by
  go_enter Tryz.func20, Tryz.ntmps20
  go_wp2_with fail
  have h := four_allocs w
    (.cells #[.string ⟨#[109]⟩, .int .i64 1, .slice none 0 0, .slice (some ⟨w.heap.size + 1, 0, none⟩) 1 1, .slice none 0 0, .slice (some ⟨w.heap.size + 1 + 1 + 1, 0, none⟩) 2 2] 27)
    (.cells #[.string ⟨#[102]⟩, .int .i64 1, .bool true, .int .i64 0] 81) (.cells #[.int .i64 1, .int .i64 0] 45)
    (.cells #[.int .i64 1, .int .i64 1, .int .i64 1, .slice (some ⟨w.heap.size + 1 + 1, 0, none⟩) 1 1, .int .i64 0, .int .i64 0, .int .i64 0, .string ⟨#[]⟩, .slice none 0 0, .slice none 0 0,
      .int .i64 26, .int .i64 0, .int .i64 0, .slice none 0 0, .int .i64 0, .int .i64 0, .int .i64 0, .string ⟨#[]⟩, .slice none 0 0, .slice none 0 0] 50)
  obtain ⟨e0, e1, e2, e3, hb⟩ := h
  refine bodyPost_ret (results_cell_row rfl _ _ w.heap.size _ _ _ _ rfl e0 Tryz.underlying27 rfl (by kernel_rfl)) rfl ?_
  exact ⟨w.heap.size + 1, rfl, by omega, ⟨e1, e2, e3⟩, hb⟩
/-! ### The walk -/
theorem SmB.below {w w' : World} {f : Nat} {n tg : Int} (h : SmB w f n tg) (hb : Below w.heap.size w w') : SmB w' f n tg :=
  ⟨(hb.block f (lt_of_row h.fr)).trans h.fr, (hb.block _ (lt_of_row h.sr)).trans h.sr, (hb.block _ (lt_of_row h.cr)).trans h.cr⟩
theorem SmB.lt {w : World} {f : Nat} {n tg : Int} (h : SmB w f n tg) : f + 2 < w.heap.size := lt_of_row h.cr
theorem SmB.away {w : World} {f : Nat} {n tg : Int} (h : SmB w f n tg) {b j : Nat} {v : Value} (hb : f + 2 < b) : SmB (w.setCell ⟨b, j, none⟩ v) f n tg :=
  ⟨(heap_setCell_other _ _ _ _ (by simp <;> omega)).trans h.fr, (heap_setCell_other _ _ _ _ (by simp <;> omega)).trans h.sr, (heap_setCell_other _ _ _ _ (by simp <;> omega)).trans h.cr⟩
theorem SmB.setN {w : World} {f : Nat} {n tg : Int} (h : SmB w f n tg) (m : Int) : SmB (w.setCell ⟨f + 2, 2, none⟩ (.int .i64 m)) f m tg :=
  ⟨(heap_setCell_other _ _ _ _ (by simp <;> omega)).trans h.fr, (heap_setCell_other _ _ _ _ (by simp <;> omega)).trans h.sr, heap_setCell_same _ _ 2 _ _ _ h.cr⟩
theorem SmB.setT {w : World} {f : Nat} {n tg : Int} (h : SmB w f n tg) (m : Int) : SmB (w.setCell ⟨f + 2, 14, none⟩ (.int .i64 m)) f n m :=
  ⟨(heap_setCell_other _ _ _ _ (by simp <;> omega)).trans h.fr, (heap_setCell_other _ _ _ _ (by simp <;> omega)).trans h.sr, heap_setCell_same _ _ 14 _ _ _ h.cr⟩
theorem kcheck (v n tg ci ce : Int) (f : Nat) (w : World) (hrows : RowsAt w) (hsp : SpaceAt w) (hs : SmB w f n tg) (hn : -1000 ≤ n ∧ n ≤ 1000) (ht : -1000 ≤ tg ∧ tg ≤ 1000) (hv : -1000 ≤ v ∧ v ≤ 1000) (h1 : checkI 1 (kU v n tg []) = ci) (h2 : checkE 1 (kU v n tg []) = ce) :
    Calls Tryz.prog 13 #[.agg #[.string ⟨#[109]⟩, .int .i64 v, .slice none 0 0, .slice (some ⟨f, 0, none⟩) 1 1, .slice none 0 0, .slice (some ⟨f + 2, 0, none⟩) 2 2]] w fun e w' => e = .returned (.tuple #[.int .i64 ci, .int .i64 ce]) ∧ Below w.heap.size w w' := by
  have h := check_any 0 (kU v n tg []) none (some ⟨f, 0, none⟩) none (some ⟨f + 2, 0, none⟩) 0 1 0 2 w hrows hsp (hs.up hn ht hv) (.inl rfl) (fun t ht => by cases ht) (fun x hx => by
    rcases List.mem_cons.1 hx with rfl | hx
    · show (0 : Nat) ≤ _; omega
    · rcases List.mem_cons.1 hx with rfl | hx
      · show (0 : Nat) ≤ _; omega
      · cases hx)
  rw [h1, h2] at h; exact h
def c1L (f : Nat) : List Value := [.int .i64 1, .int .i64 1, .int .i64 1, .slice (some ⟨f + 1, 0, none⟩) 1 1, .int .i64 0, .int .i64 0, .int .i64 0, .string ⟨#[]⟩, .slice none 0 0, .slice none 0 0]
def c2L : List Value := [.int .i64 26, .int .i64 0, .int .i64 0, .slice none 0 0, .int .i64 0, .int .i64 0, .int .i64 0, .string ⟨#[]⟩, .slice none 0 0, .slice none 0 0]
theorem SmB.owns {w : World} {f : Nat} (h : SmB w f 1 0) : w.ownsRow 0 50 10 (.slice (some ⟨f + 2, 0, none⟩) 2 2) 2 (c1L f ++ c2L) :=
  ⟨rfl, .inr ⟨f + 2, 2, _, rfl, Nat.zero_le _, h.cr, Nat.le_refl _, by unfold maxLen; omega, rfl, rfl⟩⟩
/-- The unit with a third instruction. -/
theorem app_up {w : World} {f : Nat} {v : Value} {cs : List Value} {x : RIns} (hf : w.heap[f]? = some fRow) (hs : w.heap[f + 1]? = some sRow) (ho : w.ownsRow 0 50 10 v 3 ((c1L f ++ c2L) ++ cs)) (hl : cs.length = 10) (hx : InsR w cs x) :
    ∃ ao c, v = .slice ao 3 c ∧ UP w (kU 1 1 0 [x]) none (some ⟨f, 0, none⟩) none ao := by
  have i : ∀ n : Int, -1000 ≤ n ∧ n ≤ 1000 → I64 n := fun n a => by unfold I64; omega
  have m : ∀ n : Nat, decide (n ≤ 100) = true → n ≤ maxLen := fun n a => by have := of_decide_eq_true a; unfold maxLen; omega
  have i0 := i 0 (by decide); have i1 := i 1 (by decide); have i26 := i 26 (by decide)
  unfold fRow at hf; unfold sRow at hs
  have r1 : InsR w (c1L f) ⟨1, ⟨1, 1⟩, [⟨1, 0⟩], 0, 0, 0, ⟨#[]⟩, [], []⟩ := ⟨⟨some ⟨f + 1, 0, none⟩, 1, none, 0, none, 0, rfl, .inr ⟨f + 1, 0, rfl, lt_of_row hs, fun j hj => by
    obtain rfl : j = 0 := by have hj : j < 1 := hj; omega
    refine ⟨[.int .i64 1, .int .i64 0], rfl, fun k hk => ?_, rfl, i1, i0⟩
    rw [cell_of_row _ _ _ _ _ _ hs, show 0 + 0 * 2 + k = k by omega]
    simp⟩, .inl rfl, .inl rfl⟩, i1, i1, i1, m _ rfl, i0, i0, i0, m _ rfl, m _ rfl, m _ rfl⟩
  have r2 : InsR w c2L ⟨26, ⟨0, 0⟩, [], 0, 0, 0, ⟨#[]⟩, [], []⟩ := ⟨⟨none, 0, none, 0, none, 0, rfl, .inl rfl, .inl rfl, .inl rfl⟩, i26, i0, i0, m _ rfl, i0, i0, i0, m _ rfl, m _ rfl, m _ rfl⟩
  have hR : RowsIn 10 (InsR w) ((c1L f ++ c2L) ++ cs) (kU 1 1 0 [x]).code := ⟨c1L f, c2L ++ cs, List.append_assoc .., rfl, r1, c2L, cs, rfl, rfl, r2, cs, [], (List.append_nil _).symm, hl, hx, rfl⟩
  obtain ⟨ao, c, rfl, hsl⟩ := owns_slIn (ts := (kU 1 1 0 [x]).code) ho hR
  refine ⟨ao, c, rfl, .inl rfl, .inr ⟨f, 0, rfl, lt_of_row hf, fun j hj => ?_⟩, .inl rfl, hsl.at fun _ _ _ h => h, by show (1 : Nat) ≤ _; decide, i1, by show (0 : Nat) ≤ _; decide, by show (1 : Nat) ≤ _; decide, by show (0 : Nat) ≤ _; decide, by show (3 : Nat) ≤ _; decide⟩
  obtain rfl : j = 0 := by have hj : j < 1 := hj; omega
  refine ⟨[.string ⟨#[102]⟩, .int .i64 1, .bool true, .int .i64 0], rfl, fun k hk => ?_, rfl, m _ rfl, i1, i0⟩
  rw [cell_of_row _ _ _ _ _ _ hf, show 0 + 0 * 4 + k = k by omega]
  simp
theorem kcheck3 (x : RIns) (f : Nat) (ao : Option Addr) (c : Nat) (w : World) (hrows : RowsAt w) (hsp : SpaceAt w) (hu : UP w (kU 1 1 0 [x]) none (some ⟨f, 0, none⟩) none ao) (hx : x.name.size ≤ 100) (h1 : checkI 1 (kU 1 1 0 [x]) = 2) (h2 : checkE 1 (kU 1 1 0 [x]) = 6) :
    Calls Tryz.prog 13 #[.agg #[.string ⟨#[109]⟩, .int .i64 1, .slice none 0 0, .slice (some ⟨f, 0, none⟩) 1 1, .slice none 0 0, .slice ao 3 c]] w fun e w' => e = .returned (.tuple #[.int .i64 2, .int .i64 6]) ∧ Below w.heap.size w w' := by
  have h := check_any 0 (kU 1 1 0 [x]) none (some ⟨f, 0, none⟩) none ao 0 1 0 c w hrows hsp hu (.inl rfl) (fun t ht => by cases ht) (fun y hy => by
    rcases List.mem_cons.1 hy with rfl | hy
    · show (0 : Nat) ≤ _; omega
    · rcases List.mem_cons.1 hy with rfl | hy
      · show (0 : Nat) ≤ _; omega
      · rcases List.mem_cons.1 hy with rfl | hy
        · omega
        · cases hy)
  rw [h1, h2] at h; exact h
def insY : RIns := ⟨8, ⟨0, 0⟩, [], 0, 0, 0, ⟨#[]⟩, [], []⟩
def insZ : RIns := ⟨14, ⟨1, 0⟩, [⟨1, 0⟩], 0, 0, 0, ⟨#[115, 97, 121]⟩, [], []⟩
theorem kyI : checkI 1 (kU 1 1 0 [insY]) = 2 := by kernel_rfl
theorem kyE : checkE 1 (kU 1 1 0 [insY]) = 6 := by kernel_rfl
theorem kzI : checkI 1 (kU 1 1 0 [insZ]) = 2 := by kernel_rfl
theorem kzE : checkE 1 (kU 1 1 0 [insZ]) = 6 := by kernel_rfl
theorem infoInsN : (Tryz.prog.info? 50).map (fun i => (i.zero, i.size, i.bytes)) = some (some (.agg #[.int .i64 0, .int .i64 0, .int .i64 0, .slice none 0 0, .int .i64 0, .int .i64 0, .int .i64 0, .string ⟨#[]⟩, .slice none 0 0, .slice none 0 0]), 10, 136) := by kernel_rfl
theorem kfind (ar i : Int) (b : Bool) (f : Nat) (w : World) (hs : SmB w f 1 0) (h1 : findI ⟨#[102]⟩ ar (kU 1 1 0 []).funcs = i) (h2 : findB ⟨#[102]⟩ ar (kU 1 1 0 []).funcs = b) :
    Calls Tryz.prog 21 #[.agg #[.string ⟨#[109]⟩, .int .i64 1, .slice none 0 0, .slice (some ⟨f, 0, none⟩) 1 1, .slice none 0 0, .slice (some ⟨f + 2, 0, none⟩) 2 2], .string ⟨#[102]⟩, .int .i64 ar] w fun e w' => e = .returned (.tuple #[.int .i64 i, .bool b]) ∧ Below w.heap.size w w' := by
  have h := find_any (kU 1 1 0 []) none (some ⟨f, 0, none⟩) none (some ⟨f + 2, 0, none⟩) 0 1 0 2 ⟨#[102]⟩ ar w (hs.up (by decide) (by decide) (by decide))
  rw [h1, h2] at h; exact h
def kS : ByteArray := ⟨#[1, 109, 1, 0, 1, 1, 102, 1, 1, 0, 0, 2, 1, 5, 1, 1, 26]⟩
theorem kS_size : kS.size = 17 := by decide
theorem kS_list : kS.data.toList = unitW (encW 2000) smallU := by kernel_rfl
theorem kS_deep : checkE 2000 smallU = 0 := (unit_deep small_check).1
theorem kS_cut : ugetD (kS.data.toList.take 16) = none := by
  rw [kS_list]; exact uget_cut kS_deep (fun t ht => by cases ht) (by rw [← kS_list, Array.length_toList]; exact (show 16 < kS.size by rw [kS_size]; omega))
theorem kS_more : ugetD (kS.data.toList ++ [0]) = none := by
  rw [kS_list]; exact uget_more kS_deep (fun t ht => by cases ht) 0
theorem kput (f : Nat) (w : World) (hrows : RowsAt w) (hsp : SpaceAt w) (hs : SmB w f 1 0) :
    Calls Tryz.prog 15 #[.agg #[.string ⟨#[109]⟩, .int .i64 1, .slice none 0 0, .slice (some ⟨f, 0, none⟩) 1 1, .slice none 0 0, .slice (some ⟨f + 2, 0, none⟩) 2 2]] w fun e w' => e = .returned (.tuple #[.string kS, .int .i64 0]) ∧ Below w.heap.size w w' := by
  have h := put_yes noEnc 0 smallU none (some ⟨f, 0, none⟩) none (some ⟨f + 2, 0, none⟩) 0 1 0 2 w hrows hsp (hs.up (by decide) (by decide) (by decide)) (.inl rfl) (fun t ht => by cases ht) (fun x hx => by
    rcases List.mem_cons.1 hx with rfl | hx
    · decide
    · rcases List.mem_cons.1 hx with rfl | hx
      · decide
      · cases hx) (fun t ht => by cases ht) small_check
  rw [small_code] at h; exact h
theorem k1I : checkI 1 (kU 1 1 0 []) = 0 := by kernel_rfl
theorem k1E : checkE 1 (kU 1 1 0 []) = 0 := by kernel_rfl
theorem kvI : checkI 1 (kU 0 1 0 []) = -1 := by kernel_rfl
theorem kvE : checkE 1 (kU 0 1 0 []) = 6 := by kernel_rfl
theorem kwI : checkI 1 (kU 1 256 0 []) = 0 := by kernel_rfl
theorem kwE : checkE 1 (kU 1 256 0 []) = 6 := by kernel_rfl
theorem kxI : checkI 1 (kU 1 1 1 []) = 1 := by kernel_rfl
theorem kxE : checkE 1 (kU 1 1 1 []) = 6 := by kernel_rfl
set_option maxRecDepth 100000 in
set_option maxHeartbeats 40000000 in
theorem known_walk (w : World) (hrows : RowsAt w) (hsp : SpaceAt w) : Calls Tryz.prog 8 #[] w fun e w' => e = .returned (.bool true) ∧ Below w.heap.size w w' := by
  have HR := Lib.hid hrows; have HS := Lib.hid hsp
  clear hrows hsp
  have HB0 := Lib.hid (Below.refl w.heap.size w)
  go_enter Tryz.func8, Tryz.ntmps8
  go_wp2_with fail
  refine (small_blocks w).mono ?_
  rintro e w1a ⟨f1, rfl, hf, hs, hb⟩
  go_upto_region 2 with fail
  have hbx := heap_alloc_new w1a (.cells #[.string ⟨#[109]⟩, .int .i64 1, .slice none 0 0, .slice (some ⟨f1, 0, none⟩) 1 1, .slice none 0 0, .slice (some ⟨f1 + 2, 0, none⟩) 2 2] 27)
  have hba := (Below.refl w1a.heap.size w1a).alloc (Nat.le_refl _) (.cells #[.string ⟨#[109]⟩, .int .i64 1, .slice none 0 0, .slice (some ⟨f1, 0, none⟩) 1 1, .slice none 0 0, .slice (some ⟨f1 + 2, 0, none⟩) 2 2] 27)
  have hbb := hb.trans (hba.mono hb.size)
  have hlf := hs.lt
  have hs2 := hs.below hba
  have hgf : w.heap.size ≤ f1 := Nat.le_trans HB0.out.size hf
  have HB1 := Lib.hid (below_next HB0.out hbb)
  have HV1 := Lib.hid hs2; have HW1 := Lib.hid hbx; have HF1 := Lib.hid hgf; have HL1 := Lib.hid hlf
  clear hf hs hb hbx hba hbb hlf hs2 hgf
  generalize w1a.alloc _ = w1 at *
  generalize w1a.heap.size = b1 at *
  have HFIN : Hid (∀ wx, Below w1.heap.size w1 wx → Below w.heap.size w wx) := Lib.hid fun wx h => below_next HB1.out h
  have HR2 := Lib.hid (HR.out.below HB1.out); have HS2 := Lib.hid (HS.out.below HB1.out)
  clear HR HS
  have HR := HR2; have HS := HS2
  clear HR2 HS2
  have HBU := Lib.hid (Below.refl w1.heap.size w1)
  obtain ⟨q0, q1, q2, q3, q4, q5⟩ := unit_cells6 ((HBU.out.block _ (lt_of_row HW1.out)).trans HW1.out)
  have hq := lt_of_row ((HBU.out.block _ (lt_of_row HW1.out)).trans HW1.out)
  go_wp2_with fail
  refine (kcheck 1 1 0 0 0 f1 w1 (HR.out.below HBU.out) (HS.out.below HBU.out) (HV1.out.below HBU.out) (by decide) (by decide) (by decide) k1I k1E).mono ?_
  rintro e x2 ⟨rfl, hb⟩
  have HB2 := Lib.hid (below_next HBU.out hb)
  clear hb
  clear q0 q1 q2 q3 q4 q5 hq
  obtain ⟨q0, q1, q2, q3, q4, q5⟩ := unit_cells6 ((HB2.out.block _ (lt_of_row HW1.out)).trans HW1.out)
  have hq := lt_of_row ((HB2.out.block _ (lt_of_row HW1.out)).trans HW1.out)
  go_wp2_with fail
  refine (kfind 1 0 true f1 x2 (HV1.out.below HB2.out) rfl rfl).mono ?_
  rintro e x3 ⟨rfl, hb⟩
  have HB3 := Lib.hid (below_next HB2.out hb)
  clear hb
  clear q0 q1 q2 q3 q4 q5 hq
  obtain ⟨q0, q1, q2, q3, q4, q5⟩ := unit_cells6 ((HB3.out.block _ (lt_of_row HW1.out)).trans HW1.out)
  have hq := lt_of_row ((HB3.out.block _ (lt_of_row HW1.out)).trans HW1.out)
  go_wp2_with fail
  refine (kfind 0 0 false f1 x3 (HV1.out.below HB3.out) rfl rfl).mono ?_
  rintro e x4 ⟨rfl, hb⟩
  have HB4 := Lib.hid (below_next HB3.out hb)
  clear hb
  clear q0 q1 q2 q3 q4 q5 hq
  go_wp2_with fail
  refine (small_blocks x4).mono ?_
  rintro e w5a ⟨f5, rfl, hf, hs, hb⟩
  go_upto_region 8 with fail
  have hbx := heap_alloc_new w5a (.cells #[.string ⟨#[109]⟩, .int .i64 1, .slice none 0 0, .slice (some ⟨f5, 0, none⟩) 1 1, .slice none 0 0, .slice (some ⟨f5 + 2, 0, none⟩) 2 2] 27)
  have hba := (Below.refl w5a.heap.size w5a).alloc (Nat.le_refl _) (.cells #[.string ⟨#[109]⟩, .int .i64 1, .slice none 0 0, .slice (some ⟨f5, 0, none⟩) 1 1, .slice none 0 0, .slice (some ⟨f5 + 2, 0, none⟩) 2 2] 27)
  have hbb := hb.trans (hba.mono hb.size)
  have hlf := hs.lt
  have hs2 := hs.below hba
  have hgf : w1.heap.size ≤ f5 := Nat.le_trans HB4.out.size hf
  have HB5 := Lib.hid (below_next HB4.out hbb)
  have HV5 := Lib.hid hs2; have HW5 := Lib.hid hbx; have HF5 := Lib.hid hgf; have HL5 := Lib.hid hlf
  clear hf hs hb hbx hba hbb hlf hs2 hgf
  generalize w5a.alloc _ = w5 at *
  generalize w5a.heap.size = b5 at *
  obtain ⟨q0, q1, q2, q3, q4, q5⟩ := unit_cells6 (HW5.out)
  have hq := lt_of_row (HW5.out)
  have hz := frozen_of_row w5 b5 1 _ _ HW5.out
  go_upto_region 9 with fail
  have hv2 : SmB (w5.setCell ⟨b5, 1, none⟩ (.int .i64 0)) f5 1 0 := HV5.out.away (by have := HL5.out; omega)
  have hw2 : (w5.setCell ⟨b5, 1, none⟩ (.int .i64 0)).heap[b5]? = some (.cells #[.string ⟨#[109]⟩, .int .i64 0, .slice none 0 0, .slice (some ⟨f5, 0, none⟩) 1 1, .slice none 0 0, .slice (some ⟨f5 + 2, 0, none⟩) 2 2] 27 (0, 0)) := heap_setCell_same _ _ 1 _ _ _ HW5.out
  have hb2 : Below w1.heap.size w1 (w5.setCell ⟨b5, 1, none⟩ (.int .i64 0)) := HB5.out.setCell (by have := HF5.out; have := HL5.out; show _ ≤ b5; omega) _
  have HB6 := Lib.hid hb2; have HV6 := Lib.hid hv2; have HW6 := Lib.hid hw2
  clear q0 q1 q2 q3 q4 q5 hq
  clear hb2 hv2 hw2 hz
  generalize World.setCell _ _ _ = y6 at *
  obtain ⟨q0, q1, q2, q3, q4, q5⟩ := unit_cells6 (HW6.out)
  have hq := lt_of_row (HW6.out)
  go_wp2_with fail
  refine (kcheck 0 1 0 (-1) 6 f5 y6 (HR.out.below HB6.out) (HS.out.below HB6.out) HV6.out (by decide) (by decide) (by decide) kvI kvE).mono ?_
  rintro e x7 ⟨rfl, hb⟩
  have HB7 := Lib.hid (below_next HB6.out hb)
  clear hb
  clear q0 q1 q2 q3 q4 q5 hq
  go_wp2_with fail
  refine (small_blocks x7).mono ?_
  rintro e w8a ⟨f8, rfl, hf, hs, hb⟩
  go_upto_region 11 with fail
  have hbx := heap_alloc_new w8a (.cells #[.string ⟨#[109]⟩, .int .i64 1, .slice none 0 0, .slice (some ⟨f8, 0, none⟩) 1 1, .slice none 0 0, .slice (some ⟨f8 + 2, 0, none⟩) 2 2] 27)
  have hba := (Below.refl w8a.heap.size w8a).alloc (Nat.le_refl _) (.cells #[.string ⟨#[109]⟩, .int .i64 1, .slice none 0 0, .slice (some ⟨f8, 0, none⟩) 1 1, .slice none 0 0, .slice (some ⟨f8 + 2, 0, none⟩) 2 2] 27)
  have hbb := hb.trans (hba.mono hb.size)
  have hlf := hs.lt
  have hs2 := hs.below hba
  have hgf : w1.heap.size ≤ f8 := Nat.le_trans HB7.out.size hf
  have HB8 := Lib.hid (below_next HB7.out hbb)
  have HV8 := Lib.hid hs2; have HW8 := Lib.hid hbx; have HF8 := Lib.hid hgf; have HL8 := Lib.hid hlf
  clear hf hs hb hbx hba hbb hlf hs2 hgf
  generalize w8a.alloc _ = w8 at *
  generalize w8a.heap.size = b8 at *
  obtain ⟨q0, q1, q2, q3, q4, q5⟩ := unit_cells6 (HW8.out)
  have hq := lt_of_row (HW8.out)
  have hc0 := HV8.out.cr
  unfold cRow at hc0
  have hz := frozen_of_row w8 (f8 + 2) 2 _ _ hc0
  have hlc := HV8.out.lt
  have hcc : w8.cell? ⟨f8 + 2, 2, none⟩ = some (.int .i64 1) := by rw [cell_of_row _ _ _ _ _ _ hc0]; rfl
  clear hc0
  go_upto_region 12 with fail
  have hv2 := HV8.out.setN (256)
  have hw2 : (w8.setCell ⟨f8 + 2, 2, none⟩ (.int .i64 256)).heap[b8]? = some (.cells #[.string ⟨#[109]⟩, .int .i64 1, .slice none 0 0, .slice (some ⟨f8, 0, none⟩) 1 1, .slice none 0 0, .slice (some ⟨f8 + 2, 0, none⟩) 2 2] 27 (0, 0)) := (heap_setCell_other _ _ _ _ (by have := HL8.out; simp <;> omega)).trans HW8.out
  have hb2 : Below w1.heap.size w1 (w8.setCell ⟨f8 + 2, 2, none⟩ (.int .i64 256)) := HB8.out.setCell (by have := HF8.out; have := HL8.out; show _ ≤ f8 + 2; omega) _
  have HB9 := Lib.hid hb2; have HV9 := Lib.hid hv2; have HW9 := Lib.hid hw2
  clear q0 q1 q2 q3 q4 q5 hq
  clear hb2 hv2 hw2 hz hcc hlc
  generalize World.setCell _ _ _ = y9 at *
  obtain ⟨q0, q1, q2, q3, q4, q5⟩ := unit_cells6 (HW9.out)
  have hq := lt_of_row (HW9.out)
  go_wp2_with fail
  refine (kcheck 1 256 0 0 6 f8 y9 (HR.out.below HB9.out) (HS.out.below HB9.out) HV9.out (by decide) (by decide) (by decide) kwI kwE).mono ?_
  rintro e x10 ⟨rfl, hb⟩
  have HB10 := Lib.hid (below_next HB9.out hb)
  clear hb
  clear q0 q1 q2 q3 q4 q5 hq
  go_wp2_with fail
  refine (small_blocks x10).mono ?_
  rintro e w11a ⟨f11, rfl, hf, hs, hb⟩
  go_upto_region 14 with fail
  have hbx := heap_alloc_new w11a (.cells #[.string ⟨#[109]⟩, .int .i64 1, .slice none 0 0, .slice (some ⟨f11, 0, none⟩) 1 1, .slice none 0 0, .slice (some ⟨f11 + 2, 0, none⟩) 2 2] 27)
  have hba := (Below.refl w11a.heap.size w11a).alloc (Nat.le_refl _) (.cells #[.string ⟨#[109]⟩, .int .i64 1, .slice none 0 0, .slice (some ⟨f11, 0, none⟩) 1 1, .slice none 0 0, .slice (some ⟨f11 + 2, 0, none⟩) 2 2] 27)
  have hbb := hb.trans (hba.mono hb.size)
  have hlf := hs.lt
  have hs2 := hs.below hba
  have hgf : w1.heap.size ≤ f11 := Nat.le_trans HB10.out.size hf
  have HB11 := Lib.hid (below_next HB10.out hbb)
  have HV11 := Lib.hid hs2; have HW11 := Lib.hid hbx; have HF11 := Lib.hid hgf; have HL11 := Lib.hid hlf
  clear hf hs hb hbx hba hbb hlf hs2 hgf
  generalize w11a.alloc _ = w11 at *
  generalize w11a.heap.size = b11 at *
  obtain ⟨q0, q1, q2, q3, q4, q5⟩ := unit_cells6 (HW11.out)
  have hq := lt_of_row (HW11.out)
  have hc0 := HV11.out.cr
  unfold cRow at hc0
  have hz := frozen_of_row w11 (f11 + 2) 14 _ _ hc0
  have hlc := HV11.out.lt
  have hcc : w11.cell? ⟨f11 + 2, 14, none⟩ = some (.int .i64 0) := by rw [cell_of_row _ _ _ _ _ _ hc0]; rfl
  clear hc0
  go_upto_region 15 with fail
  have hv2 := HV11.out.setT (1)
  have hw2 : (w11.setCell ⟨f11 + 2, 14, none⟩ (.int .i64 1)).heap[b11]? = some (.cells #[.string ⟨#[109]⟩, .int .i64 1, .slice none 0 0, .slice (some ⟨f11, 0, none⟩) 1 1, .slice none 0 0, .slice (some ⟨f11 + 2, 0, none⟩) 2 2] 27 (0, 0)) := (heap_setCell_other _ _ _ _ (by have := HL11.out; simp <;> omega)).trans HW11.out
  have hb2 : Below w1.heap.size w1 (w11.setCell ⟨f11 + 2, 14, none⟩ (.int .i64 1)) := HB11.out.setCell (by have := HF11.out; have := HL11.out; show _ ≤ f11 + 2; omega) _
  have HB12 := Lib.hid hb2; have HV12 := Lib.hid hv2; have HW12 := Lib.hid hw2
  clear q0 q1 q2 q3 q4 q5 hq
  clear hb2 hv2 hw2 hz hcc hlc
  generalize World.setCell _ _ _ = y12 at *
  obtain ⟨q0, q1, q2, q3, q4, q5⟩ := unit_cells6 (HW12.out)
  have hq := lt_of_row (HW12.out)
  go_wp2_with fail
  refine (kcheck 1 1 1 1 6 f11 y12 (HR.out.below HB12.out) (HS.out.below HB12.out) HV12.out (by decide) (by decide) (by decide) kxI kxE).mono ?_
  rintro e x13 ⟨rfl, hb⟩
  have HB13 := Lib.hid (below_next HB12.out hb)
  clear hb
  clear q0 q1 q2 q3 q4 q5 hq
  go_wp2_with fail
  refine (small_blocks x13).mono ?_
  rintro e w14a ⟨f14, rfl, hf, hs, hb⟩
  go_upto_region 19 with fail
  have hbx := heap_alloc_new w14a (.cells #[.string ⟨#[109]⟩, .int .i64 1, .slice none 0 0, .slice (some ⟨f14, 0, none⟩) 1 1, .slice none 0 0, .slice (some ⟨f14 + 2, 0, none⟩) 2 2] 27)
  have hba := (Below.refl w14a.heap.size w14a).alloc (Nat.le_refl _) (.cells #[.string ⟨#[109]⟩, .int .i64 1, .slice none 0 0, .slice (some ⟨f14, 0, none⟩) 1 1, .slice none 0 0, .slice (some ⟨f14 + 2, 0, none⟩) 2 2] 27)
  have hbb := hb.trans (hba.mono hb.size)
  have hlf := hs.lt
  have hs2 := hs.below hba
  have hgf : w1.heap.size ≤ f14 := Nat.le_trans HB13.out.size hf
  have HB14 := Lib.hid (below_next HB13.out hbb)
  have HV14 := Lib.hid hs2; have HW14 := Lib.hid hbx; have HF14 := Lib.hid hgf; have HL14 := Lib.hid hlf
  clear hf hs hb hbx hba hbb hlf hs2 hgf
  generalize w14a.alloc _ = w14 at *
  generalize w14a.heap.size = b14 at *
  obtain ⟨i0, hi, hz0, hz1, hz2⟩ := info_parts infoInsN
  obtain ⟨q0, q1, q2, q3, q4, q5⟩ := unit_cells6 (HW14.out)
  have hq := lt_of_row (HW14.out)
  have hba : Below w14.heap.size w14 (w14.alloc (.cells #[.int .i64 8, .int .i64 0, .int .i64 0, .slice none 0 0, .int .i64 0, .int .i64 0, .int .i64 0, .string ⟨#[]⟩, .slice none 0 0, .slice none 0 0] 50)) := (Below.refl _ _).alloc (Nat.le_refl _) _
  have hnw := heap_alloc_new w14 (.cells #[.int .i64 8, .int .i64 0, .int .i64 0, .slice none 0 0, .int .i64 0, .int .i64 0, .int .i64 0, .string ⟨#[]⟩, .slice none 0 0, .slice none 0 0] 50)
  have ho := (HV14.out.below hba).owns
  have hxb := (hba.block _ (lt_of_row HW14.out)).trans HW14.out
  have hbf := HL14.out
  have hlb := lt_of_row HW14.out
  go_upto_region 20 with (at_builtin; refine wpList_append_lies _ rfl (.tmp 116) (.tmp 118) 25 rfl 0 50 i0 _ 10 136 Tryz.underlying25 hi hz0 hz1 hz2 rfl (by decide) _ 2 _ rfl ho ⟨w14.heap.size, 0, none⟩ 1 1 (#[.int .i64 8, .int .i64 0, .int .i64 0, .slice none 0 0, .int .i64 0, .int .i64 0, .int .i64 0, .string ⟨#[]⟩, .slice none 0 0, .slice none 0 0]).toList rfl rfl (World.news_of_block hnw) (by simp [Value.oneCell']) (by decide) (by unfold maxLen; omega) (by omega) (Nat.zero_le _) _ rfl ?_; intro g cap w3 ho3 hg3 hat hlt3; have hx3 := (hg3.block b14 (lt_of_row hxb) (fun e => by have : b14 = f14 + 2 := Option.some.inj e; omega)).trans hxb; obtain ⟨p0, p1, p2, p3, p4, p5⟩ := unit_cells6 hx3; have hzf := frozen_of_row w3 b14 5 _ _ hx3; have hl3 := lt_of_row hx3)
  have hgb : g ≠ b14 := hat.elim (fun e => by have : f14 + 2 = g := Option.some.inj e; omega) (fun e => by have := hba.size; omega)
  have hbase : w1.heap.size ≤ f14 + 2 := by have := HF14.out; omega
  have hb3 : Below w1.heap.size w1 w3 := below_grownB (below_next HB14.out hba) hg3 hbase (Nat.le_trans HB14.out.size hba.size)
  have hb4 : Below w1.heap.size w1 (w3.setCell ⟨b14, 5, none⟩ (.slice (some ⟨g, 0, none⟩) 3 cap)) := hb3.setCell (by show _ ≤ b14; omega) _
  have hx4 : (w3.setCell ⟨b14, 5, none⟩ (.slice (some ⟨g, 0, none⟩) 3 cap)).heap[b14]? = some (.cells #[.string ⟨#[109]⟩, .int .i64 1, .slice none 0 0, .slice (some ⟨f14, 0, none⟩) 1 1, .slice none 0 0, .slice (some ⟨g, 0, none⟩) 3 cap] 27 (0, 0)) := heap_setCell_same _ _ 5 _ _ _ hx3
  have ho4 := ho3.kept (grownBy_set w3 b14 5 (.slice (some ⟨g, 0, none⟩) 3 cap)) (.inr fun e => hgb (Option.some.inj e))
  have hlt0 := HV14.out.lt
  have hff : ∀ q o, q < (w14.alloc (.cells #[.int .i64 8, .int .i64 0, .int .i64 0, .slice none 0 0, .int .i64 0, .int .i64 0, .int .i64 0, .string ⟨#[]⟩, .slice none 0 0, .slice none 0 0] 50)).heap.size → q ≠ f14 + 2 → q ≠ b14 → (w14.alloc (.cells #[.int .i64 8, .int .i64 0, .int .i64 0, .slice none 0 0, .int .i64 0, .int .i64 0, .int .i64 0, .string ⟨#[]⟩, .slice none 0 0, .slice none 0 0] 50)).heap[q]? = some o → (w3.setCell ⟨b14, 5, none⟩ (.slice (some ⟨g, 0, none⟩) 3 cap)).heap[q]? = some o := fun q o h1 h2 h3 h4 => (heap_setCell_other _ _ _ _ (by simpa using h3)).trans ((hg3.block q h1 (fun e => h2 (Option.some.inj e))).trans h4)
  have hf4 := hff f14 _ (Nat.lt_of_lt_of_le (lt_of_row HV14.out.fr) hba.size) (by omega) (by omega) ((hba.block _ (lt_of_row HV14.out.fr)).trans HV14.out.fr)
  have hs4 := hff (f14 + 1) _ (Nat.lt_of_lt_of_le (lt_of_row HV14.out.sr) hba.size) (by omega) (by omega) ((hba.block _ (lt_of_row HV14.out.sr)).trans HV14.out.sr)
  have i0' : I64 0 := by unfold I64; omega
  have i1' : I64 1 := by unfold I64; omega
  have hin : InsR (w3.setCell ⟨b14, 5, none⟩ (.slice (some ⟨g, 0, none⟩) 3 cap)) ((#[.int .i64 8, .int .i64 0, .int .i64 0, .slice none 0 0, .int .i64 0, .int .i64 0, .int .i64 0, .string ⟨#[]⟩, .slice none 0 0, .slice none 0 0]).toList) insY := ⟨⟨none, 0, none, 0, none, 0, rfl, .inl rfl, .inl rfl, .inl rfl⟩, by show I64 8; unfold I64; omega, i0', i0', Nat.zero_le _, i0', i0', i0', Nat.zero_le _, Nat.zero_le _, Nat.zero_le _⟩
  obtain ⟨ao, c', hv, hup⟩ := app_up hf4 hs4 ho4 rfl hin
  simp only [Value.slice.injEq] at hv
  obtain ⟨rfl, -, rfl⟩ := hv
  have HB15 := Lib.hid hb4; have HU15 := Lib.hid hup; have HW15 := Lib.hid hx4
  clear hnw hgb hbase hb3 hb4 hx4 ho4 hlt0 hff hf4 hs4 i0' i1' hin hup hba ho hxb hbf hlb ho3 hg3 hat hlt3 hx3 p0 p1 p2 p3 p4 p5 hzf hl3 hi hz0 hz1 hz2
  clear q0 q1 q2 q3 q4 q5 hq
  generalize World.setCell _ _ _ = y15 at *
  obtain ⟨q0, q1, q2, q3, q4, q5⟩ := unit_cells6 (HW15.out)
  have hq := lt_of_row (HW15.out)
  go_wp2_with fail
  refine (kcheck3 insY f14 (some ⟨g, 0, none⟩) cap y15 (HR.out.below HB15.out) (HS.out.below HB15.out) HU15.out (by decide) kyI kyE).mono ?_
  rintro e x16 ⟨rfl, hb⟩
  have HB16 := Lib.hid (below_next HB15.out hb)
  clear hb
  clear q0 q1 q2 q3 q4 q5 hq
  clear HU15 HW15
  go_wp2_with fail
  refine (small_blocks x16).mono ?_
  rintro e w17a ⟨f17, rfl, hf, hs, hb⟩
  go_upto_region 22 with fail
  have hbx := heap_alloc_new w17a (.cells #[.string ⟨#[109]⟩, .int .i64 1, .slice none 0 0, .slice (some ⟨f17, 0, none⟩) 1 1, .slice none 0 0, .slice (some ⟨f17 + 2, 0, none⟩) 2 2] 27)
  have hba := (Below.refl w17a.heap.size w17a).alloc (Nat.le_refl _) (.cells #[.string ⟨#[109]⟩, .int .i64 1, .slice none 0 0, .slice (some ⟨f17, 0, none⟩) 1 1, .slice none 0 0, .slice (some ⟨f17 + 2, 0, none⟩) 2 2] 27)
  have hbb := hb.trans (hba.mono hb.size)
  have hlf := hs.lt
  have hs2 := hs.below hba
  have hgf : w1.heap.size ≤ f17 := Nat.le_trans HB16.out.size hf
  have HB17 := Lib.hid (below_next HB16.out hbb)
  have HV17 := Lib.hid hs2; have HW17 := Lib.hid hbx; have HF17 := Lib.hid hgf; have HL17 := Lib.hid hlf
  clear hf hs hb hbx hba hbb hlf hs2 hgf
  generalize w17a.alloc _ = w17 at *
  generalize w17a.heap.size = b17 at *
  obtain ⟨i0, hi, hz0, hz1, hz2⟩ := info_parts infoInsN
  obtain ⟨q0, q1, q2, q3, q4, q5⟩ := unit_cells6 (HW17.out)
  have hq := lt_of_row (HW17.out)
  have hba : Below w17.heap.size w17 ((w17.alloc (.cells #[.int .i64 1, .int .i64 0] 45)).alloc (.cells #[.int .i64 14, .int .i64 1, .int .i64 0, .slice (some ⟨w17.heap.size, 0, none⟩) 1 1, .int .i64 0, .int .i64 0, .int .i64 0, .string ⟨#[115, 97, 121]⟩, .slice none 0 0, .slice none 0 0] 50)) := two_below _ _ _
  have hp0 : ((w17.alloc (.cells #[.int .i64 1, .int .i64 0] 45)).alloc (.cells #[.int .i64 14, .int .i64 1, .int .i64 0, .slice (some ⟨w17.heap.size, 0, none⟩) 1 1, .int .i64 0, .int .i64 0, .int .i64 0, .string ⟨#[115, 97, 121]⟩, .slice none 0 0, .slice none 0 0] 50)).heap[w17.heap.size]? = some (.cells #[.int .i64 1, .int .i64 0] 45 (0, 0)) := two0 _ _ _
  have hnw := two1 w17 (.cells #[.int .i64 1, .int .i64 0] 45) (.cells #[.int .i64 14, .int .i64 1, .int .i64 0, .slice (some ⟨w17.heap.size, 0, none⟩) 1 1, .int .i64 0, .int .i64 0, .int .i64 0, .string ⟨#[115, 97, 121]⟩, .slice none 0 0, .slice none 0 0] 50)
  have ho := (HV17.out.below hba).owns
  have hxb := (hba.block _ (lt_of_row HW17.out)).trans HW17.out
  have hbf := HL17.out
  have hlb := lt_of_row HW17.out
  go_upto_region 23 with (at_builtin; refine wpList_append_lies _ rfl (.tmp 128) (.tmp 133) 25 rfl 0 50 i0 _ 10 136 Tryz.underlying25 hi hz0 hz1 hz2 rfl (by decide) _ 2 _ rfl ho ⟨w17.heap.size + 1, 0, none⟩ 1 1 (#[.int .i64 14, .int .i64 1, .int .i64 0, .slice (some ⟨w17.heap.size, 0, none⟩) 1 1, .int .i64 0, .int .i64 0, .int .i64 0, .string ⟨#[115, 97, 121]⟩, .slice none 0 0, .slice none 0 0]).toList rfl rfl (World.news_of_block hnw) (by simp [Value.oneCell']) (by decide) (by unfold maxLen; omega) (by omega) (Nat.zero_le _) _ rfl ?_; intro g cap w3 ho3 hg3 hat hlt3; have hx3 := (hg3.block b17 (lt_of_row hxb) (fun e => by have : b17 = f17 + 2 := Option.some.inj e; omega)).trans hxb; obtain ⟨p0, p1, p2, p3, p4, p5⟩ := unit_cells6 hx3; have hzf := frozen_of_row w3 b17 5 _ _ hx3; have hl3 := lt_of_row hx3)
  have hgb : g ≠ b17 := hat.elim (fun e => by have : f17 + 2 = g := Option.some.inj e; omega) (fun e => by have := hba.size; omega)
  have hbase : w1.heap.size ≤ f17 + 2 := by have := HF17.out; omega
  have hb3 : Below w1.heap.size w1 w3 := below_grownB (below_next HB17.out hba) hg3 hbase (Nat.le_trans HB17.out.size hba.size)
  have hb4 : Below w1.heap.size w1 (w3.setCell ⟨b17, 5, none⟩ (.slice (some ⟨g, 0, none⟩) 3 cap)) := hb3.setCell (by show _ ≤ b17; omega) _
  have hx4 : (w3.setCell ⟨b17, 5, none⟩ (.slice (some ⟨g, 0, none⟩) 3 cap)).heap[b17]? = some (.cells #[.string ⟨#[109]⟩, .int .i64 1, .slice none 0 0, .slice (some ⟨f17, 0, none⟩) 1 1, .slice none 0 0, .slice (some ⟨g, 0, none⟩) 3 cap] 27 (0, 0)) := heap_setCell_same _ _ 5 _ _ _ hx3
  have ho4 := ho3.kept (grownBy_set w3 b17 5 (.slice (some ⟨g, 0, none⟩) 3 cap)) (.inr fun e => hgb (Option.some.inj e))
  have hlt0 := HV17.out.lt
  have hff : ∀ q o, q < ((w17.alloc (.cells #[.int .i64 1, .int .i64 0] 45)).alloc (.cells #[.int .i64 14, .int .i64 1, .int .i64 0, .slice (some ⟨w17.heap.size, 0, none⟩) 1 1, .int .i64 0, .int .i64 0, .int .i64 0, .string ⟨#[115, 97, 121]⟩, .slice none 0 0, .slice none 0 0] 50)).heap.size → q ≠ f17 + 2 → q ≠ b17 → ((w17.alloc (.cells #[.int .i64 1, .int .i64 0] 45)).alloc (.cells #[.int .i64 14, .int .i64 1, .int .i64 0, .slice (some ⟨w17.heap.size, 0, none⟩) 1 1, .int .i64 0, .int .i64 0, .int .i64 0, .string ⟨#[115, 97, 121]⟩, .slice none 0 0, .slice none 0 0] 50)).heap[q]? = some o → (w3.setCell ⟨b17, 5, none⟩ (.slice (some ⟨g, 0, none⟩) 3 cap)).heap[q]? = some o := fun q o h1 h2 h3 h4 => (heap_setCell_other _ _ _ _ (by simpa using h3)).trans ((hg3.block q h1 (fun e => h2 (Option.some.inj e))).trans h4)
  have hf4 := hff f17 _ (Nat.lt_of_lt_of_le (lt_of_row HV17.out.fr) hba.size) (by omega) (by omega) ((hba.block _ (lt_of_row HV17.out.fr)).trans HV17.out.fr)
  have hs4 := hff (f17 + 1) _ (Nat.lt_of_lt_of_le (lt_of_row HV17.out.sr) hba.size) (by omega) (by omega) ((hba.block _ (lt_of_row HV17.out.sr)).trans HV17.out.sr)
  have i0' : I64 0 := by unfold I64; omega
  have i1' : I64 1 := by unfold I64; omega
  have hp4 := hff w17.heap.size _ (lt_of_row hp0) (by omega) (by omega) hp0
  have hin : InsR (w3.setCell ⟨b17, 5, none⟩ (.slice (some ⟨g, 0, none⟩) 3 cap)) ((#[.int .i64 14, .int .i64 1, .int .i64 0, .slice (some ⟨w17.heap.size, 0, none⟩) 1 1, .int .i64 0, .int .i64 0, .int .i64 0, .string ⟨#[115, 97, 121]⟩, .slice none 0 0, .slice none 0 0]).toList) insZ := ⟨⟨some ⟨w17.heap.size, 0, none⟩, 1, none, 0, none, 0, rfl, .inr ⟨w17.heap.size, 0, rfl, lt_of_row hp4, fun j hj => by
    obtain rfl : j = 0 := by have hj : j < 1 := hj; omega
    refine ⟨[.int .i64 1, .int .i64 0], rfl, fun q hq => ?_, rfl, i1', i0'⟩
    rw [cell_of_row _ _ _ _ _ _ hp4, show 0 + 0 * 2 + q = q by omega]
    simp⟩, .inl rfl, .inl rfl⟩, by show I64 14; unfold I64; omega, i1', i0', by show (1 : Nat) ≤ _; unfold maxLen; omega, i0', i0', i0', by show (3 : Nat) ≤ _; unfold maxLen; omega, Nat.zero_le _, Nat.zero_le _⟩
  obtain ⟨ao, c', hv, hup⟩ := app_up hf4 hs4 ho4 rfl hin
  simp only [Value.slice.injEq] at hv
  obtain ⟨rfl, -, rfl⟩ := hv
  have HB18 := Lib.hid hb4; have HU18 := Lib.hid hup; have HW18 := Lib.hid hx4
  clear hnw hgb hbase hb3 hb4 hx4 ho4 hlt0 hff hf4 hs4 i0' i1' hin hup hba ho hxb hbf hlb ho3 hg3 hat hlt3 hx3 p0 p1 p2 p3 p4 p5 hzf hl3 hi hz0 hz1 hz2 hp0 hp4
  clear q0 q1 q2 q3 q4 q5 hq
  generalize World.setCell _ _ _ = y18 at *
  obtain ⟨q0, q1, q2, q3, q4, q5⟩ := unit_cells6 (HW18.out)
  have hq := lt_of_row (HW18.out)
  go_wp2_with fail
  refine (kcheck3 insZ f17 (some ⟨g, 0, none⟩) cap y18 (HR.out.below HB18.out) (HS.out.below HB18.out) HU18.out (by decide) kzI kzE).mono ?_
  rintro e x19 ⟨rfl, hb⟩
  have HB19 := Lib.hid (below_next HB18.out hb)
  clear hb
  clear q0 q1 q2 q3 q4 q5 hq
  clear HU18 HW18
  obtain ⟨q0, q1, q2, q3, q4, q5⟩ := unit_cells6 ((HB19.out.block _ (lt_of_row HW1.out)).trans HW1.out)
  have hq := lt_of_row ((HB19.out.block _ (lt_of_row HW1.out)).trans HW1.out)
  have hput := kput f1 x19 (HR.out.below HB19.out) (HS.out.below HB19.out) (HV1.out.below HB19.out)
  have h1 := kS_cut; have h2 := kS_more; have h3 := kS_size
  generalize kS = S at *
  have HPT := Lib.hid hput
  have HC1 := Lib.hid h1; have HC2 := Lib.hid h2
  clear hput h1 h2
  have hne : ((S.size : Int) == 0) = false := by rw [h3]; rfl
  go_wp2_with fail
  refine HPT.out.mono ?_
  rintro e z1 ⟨rfl, hb⟩
  have HB20 := Lib.hid (below_next HB19.out hb)
  clear hb HPT
  clear q0 q1 q2 q3 q4 q5 hq
  have hl2 : (S.extract 0 16).data.toList = S.data.toList.take 16 := by have := ext_list S 0 16; rw [Nat.zero_add, List.drop_zero] at this; exact this
  have HL2 := Lib.hid hl2
  clear hl2
  go_upto_region 27 with fail
  have hG := uget_any (S.extract 0 16) z1 (by rw [ByteArray.size_extract]; omega) (HR.out.below HB20.out) (HS.out.below HB20.out)
  unfold UGetQ at hG
  rw [HL2.out, HC1.out] at hG
  unfold zeroU at hG
  have HG := Lib.hid hG
  clear hG
  go_wp2_with fail
  refine HG.out.mono ?_
  rintro e x21a ⟨rfl, hb⟩
  clear HG
  go_upto_region 28 with fail
  have hba := (Below.refl x21a.heap.size x21a).alloc (Nat.le_refl _) (.cells #[.string ⟨#[]⟩, .int .i64 0, .slice none 0 0, .slice none 0 0, .slice none 0 0, .slice none 0 0] 27)
  have hbb := hb.trans (hba.mono hb.size)
  have HB21 := Lib.hid (below_next HB20.out hbb)
  clear hb hba hbb
  generalize x21a.alloc _ = x21 at *
  have hG := uget_any (S ++ ⟨#[0]⟩) x21 (by have := congrArg List.length (show (S ++ ⟨#[0]⟩ : ByteArray).data.toList = S.data.toList ++ [0] by simp); rw [List.length_append, Array.length_toList, Array.length_toList] at this; have e2 : (S ++ ⟨#[0]⟩ : ByteArray).size = S.size + 1 := this; omega) (HR.out.below HB21.out) (HS.out.below HB21.out)
  unfold UGetQ at hG
  rw [show (S ++ ⟨#[0]⟩ : ByteArray).data.toList = S.data.toList ++ [0] by simp, HC2.out] at hG
  unfold zeroU at hG
  have HG := Lib.hid hG
  clear hG
  go_wp2_with fail
  refine HG.out.mono ?_
  rintro e x22a ⟨rfl, hb⟩
  clear HG
  go_upto_region 29 with fail
  have hba := (Below.refl x22a.heap.size x22a).alloc (Nat.le_refl _) (.cells #[.string ⟨#[]⟩, .int .i64 0, .slice none 0 0, .slice none 0 0, .slice none 0 0, .slice none 0 0] 27)
  have hbb := hb.trans (hba.mono hb.size)
  have HB22 := Lib.hid (below_next HB21.out hbb)
  clear hb hba hbb
  generalize x22a.alloc _ = x22 at *
  have hG := uget_any ⟨#[]⟩ x22 (by decide) (HR.out.below HB22.out) (HS.out.below HB22.out)
  unfold UGetQ at hG
  rw [show ugetD (⟨#[]⟩ : ByteArray).data.toList = none by decide] at hG
  unfold zeroU at hG
  have HG := Lib.hid hG
  clear hG
  go_wp2_with fail
  refine HG.out.mono ?_
  rintro e x23a ⟨rfl, hb⟩
  clear HG
  go_upto_region 30 with fail
  have hba := (Below.refl x23a.heap.size x23a).alloc (Nat.le_refl _) (.cells #[.string ⟨#[]⟩, .int .i64 0, .slice none 0 0, .slice none 0 0, .slice none 0 0, .slice none 0 0] 27)
  have hbb := hb.trans (hba.mono hb.size)
  have HB23 := Lib.hid (below_next HB22.out hbb)
  clear hb hba hbb
  generalize x23a.alloc _ = x23 at *
  have hr := raises_any 1 x23
  rw [show raises 1 = false by decide] at hr
  go_wp2_with fail
  refine hr.mono ?_
  rintro e w' ⟨rfl, rfl⟩
  clear hr
  have hr := raises_any 14 x23
  rw [show raises 14 = true by decide] at hr
  go_wp2_with fail
  refine hr.mono ?_
  rintro e w' ⟨rfl, rfl⟩
  clear hr
  have hr := raises_any 99 x23
  rw [show raises 99 = false by decide] at hr
  go_wp2_with fail
  refine hr.mono ?_
  rintro e w' ⟨rfl, rfl⟩
  clear hr
  go_wp2_with fail
  refine (awake_any x23 (HR.out.below HB23.out) (HS.out.below HB23.out)).mono ?_
  rintro e w9 ⟨rfl, hb9⟩
  go_wp2_with fail
  go_ret
  exact ⟨rfl, HFIN.out _ (below_next HB23.out hb9)⟩
end Go.Proofs.YtghgbikmlbildaaGreatDoor
