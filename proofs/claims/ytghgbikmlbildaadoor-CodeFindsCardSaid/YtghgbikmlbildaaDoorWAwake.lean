/-
  small, awake: the walks.
-/
import Derived.Test.YtghgbikmlbildaaDoorWPut
import Derived.Laws.NewBlocks
namespace Go.Proofs.YtghgbikmlbildaaDoor
open Go.RowKit
set_option linter.unusedVariables false
set_option linter.unusedSimpArgs false

def smallU : RUnit := ⟨⟨#[109]⟩, 1, [], [⟨⟨#[102]⟩, 1, true, 0⟩], [], [⟨1, ⟨1, 1⟩, [⟨1, 0⟩], 0, 0, 0, ⟨#[]⟩, [], []⟩, ⟨26, ⟨0, 0⟩, [], 0, 0, 0, ⟨#[]⟩, [], []⟩]⟩
def SmallQ (w : World) (e : Ending) (w' : World) : Prop := ∃ fo co, e = .returned (.agg #[.string smallU.mdl, .int .i64 smallU.vsn, .slice none smallU.lits.length 0, .slice fo smallU.funcs.length 1, .slice none smallU.funs.length 0, .slice co smallU.code.length 2]) ∧ UP w' smallU none fo none co ∧ Below w.heap.size w w'
theorem small_up {w : World} {b1 b2 b3 c2 : Nat} {t1 t2 t3 : TypeId} (h1 : w.heap[b1]? = some (.cells #[.string ⟨#[102]⟩, .int .i64 1, .bool true, .int .i64 0] t1 (0, 0)))
    (h2 : w.heap[b2]? = some (.cells #[.int .i64 1, .int .i64 0] t2 (0, 0)))
    (h3 : w.heap[b3]? = some (.cells #[.int .i64 1, .int .i64 1, .int .i64 1, .slice (some ⟨b2, 0, none⟩) 1 c2, .int .i64 0, .int .i64 0, .int .i64 0, .string ⟨#[]⟩, .slice none 0 0, .slice none 0 0,
      .int .i64 26, .int .i64 0, .int .i64 0, .slice none 0 0, .int .i64 0, .int .i64 0, .int .i64 0, .string ⟨#[]⟩, .slice none 0 0, .slice none 0 0] t3 (0, 0))) :
    UP w smallU none (some ⟨b1, 0, none⟩) none (some ⟨b3, 0, none⟩) := by
  have i : ∀ n : Int, decide (-10 ≤ n ∧ n ≤ 100) = true → I64 n := fun n a => by have := of_decide_eq_true a; unfold I64; omega
  have m : ∀ n : Nat, decide (n ≤ 100) = true → n ≤ maxLen := fun n a => by have := of_decide_eq_true a; unfold maxLen; omega
  refine ⟨.inl rfl, .inr ⟨b1, 0, rfl, lt_of_row h1, fun j hj => ?_⟩, .inl rfl, .inr ⟨b3, 0, rfl, lt_of_row h3, fun j hj => ?_⟩, by decide, i _ rfl, by decide, by decide, by decide, by decide⟩
  · obtain rfl : j = 0 := by simp [smallU] at hj; exact hj
    refine ⟨[.string ⟨#[102]⟩, .int .i64 1, .bool true, .int .i64 0], rfl, fun k hk => ?_, rfl, m _ rfl, i _ rfl, i _ rfl⟩
    rw [cell_of_row _ _ _ _ _ _ h1, show 0 + 0 * 4 + k = k by omega]
    simp
  · have hj2 : j < 2 := hj
    rcases (show j = 0 ∨ j = 1 by omega) with rfl | rfl
    · refine ⟨[.int .i64 1, .int .i64 1, .int .i64 1, .slice (some ⟨b2, 0, none⟩) 1 c2, .int .i64 0, .int .i64 0, .int .i64 0, .string ⟨#[]⟩, .slice none 0 0, .slice none 0 0], rfl, fun k hk => ?_,
        ⟨some ⟨b2, 0, none⟩, c2, none, 0, none, 0, rfl, .inr ⟨b2, 0, rfl, lt_of_row h2, fun j hj => ?_⟩, .inl rfl, .inl rfl⟩, i _ rfl, i _ rfl, i _ rfl, m _ rfl, i _ rfl, i _ rfl, i _ rfl, m _ rfl, m _ rfl, m _ rfl⟩
      · rw [cell_of_row _ _ _ _ _ _ h3, show 0 + 0 * 10 + k = k by omega]
        rcases (show k = 0 ∨ k = 1 ∨ k = 2 ∨ k = 3 ∨ k = 4 ∨ k = 5 ∨ k = 6 ∨ k = 7 ∨ k = 8 ∨ k = 9 by omega) with rfl | rfl | rfl | rfl | rfl | rfl | rfl | rfl | rfl | rfl <;> rfl
      · obtain rfl : j = 0 := by simp [smallU] at hj; exact hj
        refine ⟨[.int .i64 1, .int .i64 0], rfl, fun k hk => ?_, rfl, i _ rfl, i _ rfl⟩
        rw [cell_of_row _ _ _ _ _ _ h2, show 0 + 0 * 2 + k = k by omega]
        simp
    · refine ⟨[.int .i64 26, .int .i64 0, .int .i64 0, .slice none 0 0, .int .i64 0, .int .i64 0, .int .i64 0, .string ⟨#[]⟩, .slice none 0 0, .slice none 0 0], rfl, fun k hk => ?_,
        ⟨none, 0, none, 0, none, 0, rfl, .inl rfl, .inl rfl, .inl rfl⟩, i _ rfl, i _ rfl, i _ rfl, m _ rfl, i _ rfl, i _ rfl, i _ rfl, m _ rfl, m _ rfl, m _ rfl⟩
      rw [cell_of_row _ _ _ _ _ _ h3]
      rcases (show k = 0 ∨ k = 1 ∨ k = 2 ∨ k = 3 ∨ k = 4 ∨ k = 5 ∨ k = 6 ∨ k = 7 ∨ k = 8 ∨ k = 9 by omega) with rfl | rfl | rfl | rfl | rfl | rfl | rfl | rfl | rfl | rfl <;> rfl
theorem four_allocs (w : World) (o0 o1 o2 o3 : Obj) : ((((w.alloc o0).alloc o1).alloc o2).alloc o3).heap[w.heap.size]? = some o0 ∧ ((((w.alloc o0).alloc o1).alloc o2).alloc o3).heap[w.heap.size + 1]? = some o1 ∧
    ((((w.alloc o0).alloc o1).alloc o2).alloc o3).heap[w.heap.size + 1 + 1]? = some o2 ∧ ((((w.alloc o0).alloc o1).alloc o2).alloc o3).heap[w.heap.size + 1 + 1 + 1]? = some o3 ∧ Below w.heap.size w ((((w.alloc o0).alloc o1).alloc o2).alloc o3) := by
  have s : ∀ (x : World) (o : Obj), (x.alloc o).heap.size = x.heap.size + 1 := fun x o => by simp
  have n : ∀ (x : World) (o : Obj), (x.alloc o).heap[x.heap.size]? = some o := fun x o => heap_alloc_new x o
  have k : ∀ (x : World) (o : Obj) (j : Nat) (p : Obj), x.heap[j]? = some p → (x.alloc o).heap[j]? = some p := fun x o j p h => (Below.heap_alloc x o j (lt_of_row h)).trans h
  have e1 := n (w.alloc o0) o1; rw [s] at e1
  have e2 := n ((w.alloc o0).alloc o1) o2; rw [s, s] at e2
  have e3 := n (((w.alloc o0).alloc o1).alloc o2) o3; rw [s, s, s] at e3
  exact ⟨k _ _ _ _ (k _ _ _ _ (k _ _ _ _ (n w o0))), k _ _ _ _ (k _ _ _ _ e1), k _ _ _ _ e2, e3, ((((Below.refl _ _).alloc (Nat.le_refl _) _).alloc (by rw [s]; omega) _).alloc (by rw [s, s]; omega) _).alloc (by rw [s, s, s]; omega) _⟩
set_option maxRecDepth 100000 in
set_option maxHeartbeats 4000000 in
theorem small_any (w : World) : Calls Tryd.prog 14 #[] w (SmallQ w) := by
  go_enter Tryd.func14, Tryd.ntmps14
  go_wp2_with fail
  have h := four_allocs w
    (.cells #[.string ⟨#[109]⟩, .int .i64 1, .slice none 0 0, .slice (some ⟨w.heap.size + 1, 0, none⟩) 1 1, .slice none 0 0, .slice (some ⟨w.heap.size + 1 + 1 + 1, 0, none⟩) 2 2] 27)
    (.cells #[.string ⟨#[102]⟩, .int .i64 1, .bool true, .int .i64 0] 62) (.cells #[.int .i64 1, .int .i64 0] 34)
    (.cells #[.int .i64 1, .int .i64 1, .int .i64 1, .slice (some ⟨w.heap.size + 1 + 1, 0, none⟩) 1 1, .int .i64 0, .int .i64 0, .int .i64 0, .string ⟨#[]⟩, .slice none 0 0, .slice none 0 0,
      .int .i64 26, .int .i64 0, .int .i64 0, .slice none 0 0, .int .i64 0, .int .i64 0, .int .i64 0, .string ⟨#[]⟩, .slice none 0 0, .slice none 0 0] 39)
  obtain ⟨e0, e1, e2, e3, hb⟩ := h
  refine bodyPost_ret (results_cell_row rfl _ _ w.heap.size _ _ _ _ rfl e0 Tryd.underlying27 rfl (by kernel_rfl)) rfl ?_
  exact ⟨some ⟨w.heap.size + 1, 0, none⟩, some ⟨w.heap.size + 1 + 1 + 1, 0, none⟩, rfl, small_up e1 e2 e3, hb⟩

def noEnc : Tm → ByteArray := fun _ => ⟨#[]⟩
theorem small_check : checkE 1 smallU = 0 := by kernel_rfl
theorem small_code : unitW noEnc smallU = [1, 109, 1, 0, 1, 1, 102, 1, 1, 0, 0, 2, 1, 5, 1, 1, 26] := by kernel_rfl
set_option maxRecDepth 100000 in
set_option maxHeartbeats 4000000 in
theorem awake_any (w : World) (hrows : RowsAt w) (hsp : SpaceAt w) : Calls Tryd.prog 6 #[] w fun e w' => e = .returned (.bool true) ∧ Below w.heap.size w w' := by
  have HR := Lib.hid hrows; have HS := Lib.hid hsp
  clear hrows hsp
  have HC := Lib.hid small_code
  go_enter Tryd.func6, Tryd.ntmps6
  go_wp2_with fail
  refine (small_any w).mono ?_
  rintro e w1 ⟨fo, co, rfl, hup, hb1⟩
  have HB1 := Lib.hid hb1
  have hput := put_yes noEnc 0 smallU none fo none co 0 1 0 2 w1 (HR.out.below hb1) (HS.out.below hb1) hup (.inl rfl) (fun t ht => by cases ht) (fun x hx => by
    rcases List.mem_cons.1 hx with rfl | hx
    · decide
    · rcases List.mem_cons.1 hx with rfl | hx
      · decide
      · cases hx) (fun t ht => by cases ht) small_check
  rw [HC.out] at hput
  have HP := Lib.hid hput
  clear hput hup hb1
  generalize smallU = u at *
  go_wp2_with fail
  refine HP.out.mono ?_
  rintro e w2 ⟨rfl, hb2⟩
  go_wp2_with fail
  go_ret
  exact ⟨rfl, HB1.out.trans (hb2.mono HB1.out.size)⟩
end Go.Proofs.YtghgbikmlbildaaDoor
