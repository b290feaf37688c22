/-
  Values that the pure functions return: none, some, number: the walks.
-/
import Derived.Test.YthmpobimmbmddaaGreatDoorCWalk0
import Derived.Laws.Tables
import Derived.Laws.CopyOwn
namespace Go.Proofs.YthmpobimmbmddaaGreatDoor
open Go.RowKit
set_option linter.unusedVariables false
set_option linter.unusedSimpArgs false

abbrev zeroV : Value := .agg #[.int .i64 0, .int .i64 0, .int .i64 0, .string ⟨#[]⟩, .string ⟨#[]⟩, .int .i64 0, .slice none 0 0, .string ⟨#[]⟩, .int .i64 0]
abbrev intV (n : Int) : Value := .agg #[.int .i64 1, .int .i64 n, .int .i64 0, .string ⟨#[]⟩, .string ⟨#[]⟩, .int .i64 0, .slice none 0 0, .string ⟨#[]⟩, .int .i64 0]
abbrev atomV (s : ByteArray) : Value := .agg #[.int .i64 2, .int .i64 0, .int .i64 0, .string s, .string ⟨#[]⟩, .int .i64 0, .slice none 0 0, .string ⟨#[]⟩, .int .i64 0]
abbrev failV (s : ByteArray) : Value := .agg #[.string ⟨#[101, 114, 114, 111, 114]⟩, .int .i64 2, .int .i64 0, .int .i64 0, .string s, .string ⟨#[]⟩, .int .i64 0, .slice none 0 0, .string ⟨#[]⟩, .int .i64 0]
abbrev noneV : Value := .agg #[.string ⟨#[]⟩, .int .i64 0, .int .i64 0, .int .i64 0, .string ⟨#[]⟩, .string ⟨#[]⟩, .int .i64 0, .slice none 0 0, .string ⟨#[]⟩, .int .i64 0]

set_option maxRecDepth 100000 in
set_option maxHeartbeats 4000000 in
theorem fails_any (s : ByteArray) (w : World) : Calls Tryz.prog 53 #[.string s] w fun e w' => e = .returned (failV s) ∧ Below w.heap.size w w' := by
  go_enter Tryz.func53, Tryz.ntmps53
  go_wp2_with fail
  refine bodyPost_ret (results_cell_row rfl _ _ w.heap.size _ _ _ _ rfl (heap_alloc_new _ _) Tryz.underlying34 rfl (by kernel_rfl)) rfl ?_
  exact ⟨rfl, (Below.refl _ _).alloc (Nat.le_refl _) _⟩
theorem results_two_rows {fn : Func} {p q : Tmp} {ty ty2 : TypeId} (h : fn.results = #[.cell p ty, .cell q ty2]) (tmps : Array Value) (P : Program) (w : World) (g g2 : Nat) (t t2 : TypeId) (cs cs2 : Array Value) (fr fr2 : Nat × Nat) (fs fs2 : Array Field)
    (hp : tmps.getD p undef = .pointer (some ⟨g, 0, none⟩)) (hg : w.heap[g]? = some (.cells cs t fr)) (hp2 : tmps.getD q undef = .pointer (some ⟨g2, 0, none⟩)) (hg2 : w.heap[g2]? = some (.cells cs2 t2 fr2))
    (hu : P.underlying ty = some (.struct fs)) (hi : (P.info? ty).map (·.size) = some cs.size) (hu2 : P.underlying ty2 = some (.struct fs2)) (hi2 : (P.info? ty2).map (·.size) = some cs2.size) :
    (results fn tmps).run P w = .ok (.tuple #[.agg cs, .agg cs2]) w := by
  have hl := run_loadVar_row w g t ty cs fr (.struct fs) hg hu rfl hi
  have hl2 := run_loadVar_row w g2 t2 ty2 cs2 fr2 (.struct fs2) hg2 hu2 rfl hi2
  have hp' : tmps[p]?.getD undef = .pointer (some ⟨g, 0, none⟩) := by simpa using hp
  have hp2' : tmps[q]?.getD undef = .pointer (some ⟨g2, 0, none⟩) := by simpa using hp2
  simp [results, h, hp', hp2', asAddr, hl, hl2]
abbrev zRow9 : Array Value := #[.int .i64 0, .int .i64 0, .int .i64 0, .string ⟨#[]⟩, .string ⟨#[]⟩, .int .i64 0, .slice none 0 0, .string ⟨#[]⟩, .int .i64 0]
abbrev zRow10 : Array Value := #[.string ⟨#[]⟩, .int .i64 0, .int .i64 0, .int .i64 0, .string ⟨#[]⟩, .string ⟨#[]⟩, .int .i64 0, .slice none 0 0, .string ⟨#[]⟩, .int .i64 0]
/-- The two boxes that a function's results lie in, at blocks B and C. -/
def TwoAt (w : World) (B C : Nat) : Prop := w.heap[B]? = some (.cells zRow9 28 (0, 0)) ∧ w.heap[C]? = some (.cells zRow10 34 (0, 0))
theorem TwoAt.below {w w' : World} {B C : Nat} (h : TwoAt w B C) (hb : Below w.heap.size w w') : TwoAt w' B C :=
  ⟨(hb.block B (lt_of_row h.1)).trans h.1, (hb.block C (lt_of_row h.2)).trans h.2⟩
theorem two_new (w : World) : TwoAt ((w.alloc (.cells zRow9 28)).alloc (.cells zRow10 34)) w.heap.size (w.heap.size + 1) :=
  ⟨by rw [Below.heap_alloc _ _ _ (by simp)]; exact heap_alloc_new _ _, by have := heap_alloc_new (w.alloc (.cells zRow9 28)) (.cells zRow10 34); rwa [show (w.alloc (.cells zRow9 28)).heap.size = w.heap.size + 1 by simp] at this⟩
theorem two_belowE (w : World) : Below w.heap.size w ((w.alloc (.cells zRow9 28)).alloc (.cells zRow10 34)) := ((Below.refl _ _).alloc (Nat.le_refl _) _).alloc (by simp) _
theorem two_set {w w0 : World} {B C D : Nat} (h : TwoAt w B C) (hne : B ≠ C) (hb : Below D w0 w) (hB : D ≤ B) (hC : D ≤ C) (cs cs2 : Array Value) :
    ((w.setRow B cs).setRow C cs2).heap[B]? = some (.cells cs 28 (0, 0)) ∧ ((w.setRow B cs).setRow C cs2).heap[C]? = some (.cells cs2 34 (0, 0)) ∧ Below D w0 ((w.setRow B cs).setRow C cs2) :=
  ⟨by rw [setRow_other _ _ _ _ hne]; exact setRow_heap _ _ _ _ _ _ h.1, setRow_heap _ _ zRow10 _ _ _ (by rw [setRow_other _ _ _ _ (fun e => hne e.symm)]; exact h.2), below_setRow (below_setRow hb hB cs) hC cs2⟩
theorem two_other {w : World} {B C : Nat} (h : TwoAt w B C) (hne : B ≠ C) (cs : Array Value) : (w.setRow B cs).heap[C]? = some (.cells zRow10 34 (0, 0)) := by rw [setRow_other _ _ _ _ (fun e => hne e.symm)]; exact h.2
set_option maxRecDepth 100000 in
set_option maxHeartbeats 4000000 in
theorem none_any (s : ByteArray) (w : World) : Calls Tryz.prog 29 #[.string s] w fun e w' => e = .returned (.tuple #[zeroV, failV s]) ∧ Below w.heap.size w w' := by
  have HT := Lib.hid (two_new w); have HB := Lib.hid (two_belowE w)
  go_enter Tryz.func29, Tryz.ntmps29
  generalize hW : (w.alloc (.cells zRow9 28)).alloc (.cells zRow10 34) = W at *
  go_wp2_with (first | (go_at_call 53; refine (fails_any _ _).mono ?_; rintro e w1 ⟨rfl, hb1⟩; have hT := HT.out.below hb1) | (refine wpList_store_row rfl 28 _ _ rfl w.heap.size _ rfl rfl 28 _ hT.1 (by kernel_rfl) rfl (by simp [Value.oneCell']) ?_) | (refine wpList_store_row rfl 34 _ _ rfl (w.heap.size + 1) _ rfl rfl 34 _ (two_other hT (by omega) _) (by kernel_rfl) rfl (by simp [Value.oneCell']) ?_) | fail)

  obtain ⟨q1, q2, q3⟩ := two_set hT (by omega) (HB.out.trans (hb1.mono HB.out.size)) (Nat.le_refl _) (Nat.le_succ _) zRow9 #[.string ⟨#[101, 114, 114, 111, 114]⟩, .int .i64 2, .int .i64 0, .int .i64 0, .string s, .string ⟨#[]⟩, .int .i64 0, .slice none 0 0, .string ⟨#[]⟩, .int .i64 0]
  refine bodyPost_ret (results_two_rows rfl _ _ _ w.heap.size (w.heap.size + 1) _ _ _ _ _ _ _ _ rfl q1 rfl q2 Tryz.underlying28 (by kernel_rfl) Tryz.underlying34 (by kernel_rfl)) rfl ?_
  exact ⟨rfl, q3⟩
theorem two_belowP (w : World) (o : Obj) : Below w.heap.size w (((w.alloc o).alloc (.cells zRow9 28)).alloc (.cells zRow10 34)) := (((Below.refl _ _).alloc (Nat.le_refl _) _).alloc (by simp) _).alloc (by simp; omega) _
theorem two_newP (w : World) (o : Obj) : TwoAt (((w.alloc o).alloc (.cells zRow9 28)).alloc (.cells zRow10 34)) (w.heap.size + 1) (w.heap.size + 2) := by
  have := two_new (w.alloc o)
  rwa [show (w.alloc o).heap.size = w.heap.size + 1 by simp] at this
/-- A term is handed back without an exception. -/
theorem some_any (k i g a z : Int) (n f y : ByteArray) (so : Option Addr) (l c : Nat) (w : World) :
    Calls Tryz.prog 31 #[.agg #[.int .i64 k, .int .i64 i, .int .i64 g, .string n, .string f, .int .i64 a, .slice so l c, .string y, .int .i64 z]] w fun e w' => e = .returned (.tuple #[.agg #[.int .i64 k, .int .i64 i, .int .i64 g, .string n, .string f, .int .i64 a, .slice so l c, .string y, .int .i64 z], noneV]) ∧ Below w.heap.size w w' := by
  have HT := Lib.hid (two_newP w (.cells #[.int .i64 k, .int .i64 i, .int .i64 g, .string n, .string f, .int .i64 a, .slice so l c, .string y, .int .i64 z] 28))
  have HB := Lib.hid (two_belowP w (.cells #[.int .i64 k, .int .i64 i, .int .i64 g, .string n, .string f, .int .i64 a, .slice so l c, .string y, .int .i64 z] 28))
  go_enter Tryz.func31, Tryz.ntmps31
  go_wp2_with (first | (refine wpList_store_row rfl 28 _ _ rfl (w.heap.size + 1) _ rfl rfl 28 _ HT.out.1 (by kernel_rfl) rfl (by simp [Value.oneCell']) ?_) | (refine wpList_store_row rfl 34 _ _ rfl (w.heap.size + 2) _ rfl rfl 34 _ (two_other HT.out (by omega) _) (by kernel_rfl) rfl (by simp [Value.oneCell']) ?_) | fail)
  obtain ⟨q1, q2, q3⟩ := two_set HT.out (by omega) HB.out (by omega) (by omega) #[.int .i64 k, .int .i64 i, .int .i64 g, .string n, .string f, .int .i64 a, .slice so l c, .string y, .int .i64 z] zRow10
  refine bodyPost_ret (results_two_rows rfl _ _ _ (w.heap.size + 1) (w.heap.size + 2) _ _ _ _ _ _ _ _ rfl q1 rfl q2 Tryz.underlying28 (by kernel_rfl) Tryz.underlying34 (by kernel_rfl)) rfl ?_
  exact ⟨rfl, q3⟩
end Go.Proofs.YthmpobimmbmddaaGreatDoor
