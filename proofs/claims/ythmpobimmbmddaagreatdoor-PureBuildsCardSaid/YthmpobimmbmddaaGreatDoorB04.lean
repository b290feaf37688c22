/-
  terms.within, the closures of terms.kinds: the walks (printed by gen_kinds.py). bits.Of, writer.done, bits.Term: the walks.
-/
import Derived.Deep.DeepCutAuto
import Derived.Deep.CutBlock
import Derived.Test.YthmpobimmbmddaaGreatDoorB01
import Derived.Test.YthmpobimmbmddaaGreatDoorB02
import Derived.Test.YthmpobimmbmddaaGreatDoorB03
namespace Go.Proofs.YthmpobimmbmddaaGreatDoor
open Go.RowKit
set_option linter.unusedVariables false
set_option linter.unusedSimpArgs false

theorem bcell {W w1 : World} (hb : Below W.heap.size W w1) : (∀ b o, b < W.heap.size → w1.cell? ⟨b, o, none⟩ = W.cell? ⟨b, o, none⟩) ∧ (∀ b o, b < W.heap.size → w1.frozen? ⟨b, o, none⟩ = W.frozen? ⟨b, o, none⟩) :=
  ⟨fun b o h => hb.cell (p := ⟨b, o, none⟩) h, fun b o h => hb.frozen (p := ⟨b, o, none⟩) h⟩
set_option maxRecDepth 100000 in
set_option maxHeartbeats 4000000 in
theorem twithin_any (n a b : Int) (w : World) :
    Calls Tryz.prog 204 #[.int .i64 n, .int .i64 a, .int .i64 b] w fun e w' => e = .returned (.bool (wi n a b)) ∧ w = w' := by
  by_cases h1 : a ≤ n
  · by_cases h2 : n ≤ b
    · have E := Lib.hid (wi_yes h1 h2)
      have d1 : decide (a ≤ n) = true := decide_eq_true h1
      have d2 : decide (n ≤ b) = true := decide_eq_true h2
      go_enter Tryz.func204, Tryz.ntmps204
      go_wp2
      go_ret
      exact ⟨retb E.out.symm, rfl⟩
    · have E := Lib.hid (wi_no (n := n) (a := a) (b := b) (fun h => h2 h.2))
      have d1 : decide (a ≤ n) = true := decide_eq_true h1
      have d2 : decide (n ≤ b) = false := decide_eq_false h2
      go_enter Tryz.func204, Tryz.ntmps204
      go_wp2
      go_ret
      exact ⟨retb E.out.symm, rfl⟩
  · have E := Lib.hid (wi_no (n := n) (a := a) (b := b) (fun h => h1 h.1))
    have d1 : decide (a ≤ n) = false := decide_eq_false h1
    go_enter Tryz.func204, Tryz.ntmps204
    go_wp2
    go_ret
    exact ⟨retb E.out.symm, rfl⟩

def zeroRow : Array Value := #[.int .i64 0, .int .i64 0, .int .i64 0, .string ⟨#[]⟩, .string ⟨#[]⟩, .int .i64 0, .slice none 0 0, .string ⟨#[]⟩, .int .i64 0]
theorem two0 (w : World) (o p : Obj) : ((w.alloc o).alloc p).heap[w.heap.size]? = some o := by
  rw [Below.heap_alloc (w.alloc o) p w.heap.size (by simp)]; exact heap_alloc_new _ _
theorem two1 (w : World) (o p : Obj) : ((w.alloc o).alloc p).heap[w.heap.size + 1]? = some p := by
  have := heap_alloc_new (w.alloc o) p
  rwa [show (w.alloc o).heap.size = w.heap.size + 1 by simp] at this
theorem two_below (w : World) (o p : Obj) : Below w.heap.size w ((w.alloc o).alloc p) := ((Below.refl _ _).alloc (Nat.le_refl _) _).alloc (by simp) _
theorem term_cells {w : World} {B : Nat} {v0 v1 v2 v3 v4 v5 v6 v7 v8 : Value} (h : w.heap[B]? = some (.cells #[v0, v1, v2, v3, v4, v5, v6, v7, v8] 28 (0, 0))) :
    w.cell? ⟨B, 0, none⟩ = some v0 ∧ w.cell? ⟨B, 1, none⟩ = some v1 ∧ w.cell? ⟨B, 2, none⟩ = some v2 ∧ w.cell? ⟨B, 3, none⟩ = some v3 ∧ w.cell? ⟨B, 4, none⟩ = some v4 ∧ w.cell? ⟨B, 5, none⟩ = some v5 ∧ w.cell? ⟨B, 6, none⟩ = some v6 ∧ w.cell? ⟨B, 7, none⟩ = some v7 ∧ w.cell? ⟨B, 8, none⟩ = some v8 ∧
      (w.frozen? ⟨B, 0, none⟩ = false ∧ w.frozen? ⟨B, 1, none⟩ = false ∧ w.frozen? ⟨B, 2, none⟩ = false ∧ w.frozen? ⟨B, 3, none⟩ = false ∧ w.frozen? ⟨B, 4, none⟩ = false ∧ w.frozen? ⟨B, 5, none⟩ = false ∧ w.frozen? ⟨B, 6, none⟩ = false ∧ w.frozen? ⟨B, 7, none⟩ = false ∧ w.frozen? ⟨B, 8, none⟩ = false) := by
  have hc := fun j => cell_of_row w B j _ _ _ h
  have hf := fun j => frozen_of_row w B j _ _ h
  exact ⟨hc 0, hc 1, hc 2, hc 3, hc 4, hc 5, hc 6, hc 7, hc 8, hf 0, hf 1, hf 2, hf 3, hf 4, hf 5, hf 6, hf 7, hf 8⟩

theorem set9 {w : World} {B : Nat} (v0 v1 v2 v3 v4 v5 v6 v7 v8 : Value) (h : w.heap[B]? = some (.cells zeroRow 28 (0, 0))) :
    (((((((((w.setCell ⟨B, 0, none⟩ v0).setCell ⟨B, 1, none⟩ v1).setCell ⟨B, 2, none⟩ v2).setCell ⟨B, 3, none⟩ v3).setCell ⟨B, 4, none⟩ v4).setCell ⟨B, 5, none⟩ v5).setCell ⟨B, 6, none⟩ v6).setCell ⟨B, 7, none⟩ v7).setCell ⟨B, 8, none⟩ v8).heap[B]? = some (.cells #[v0, v1, v2, v3, v4, v5, v6, v7, v8] 28 (0, 0)) := by
  have h0 : (w.setCell ⟨B, 0, none⟩ v0).heap[B]? = some (.cells #[v0, .int .i64 0, .int .i64 0, .string ⟨#[]⟩, .string ⟨#[]⟩, .int .i64 0, .slice none 0 0, .string ⟨#[]⟩, .int .i64 0] 28 (0, 0)) := heap_setCell_same _ _ 0 _ _ v0 h
  have h1 : ((w.setCell ⟨B, 0, none⟩ v0).setCell ⟨B, 1, none⟩ v1).heap[B]? = some (.cells #[v0, v1, .int .i64 0, .string ⟨#[]⟩, .string ⟨#[]⟩, .int .i64 0, .slice none 0 0, .string ⟨#[]⟩, .int .i64 0] 28 (0, 0)) := heap_setCell_same _ _ 1 _ _ v1 h0
  have h2 : (((w.setCell ⟨B, 0, none⟩ v0).setCell ⟨B, 1, none⟩ v1).setCell ⟨B, 2, none⟩ v2).heap[B]? = some (.cells #[v0, v1, v2, .string ⟨#[]⟩, .string ⟨#[]⟩, .int .i64 0, .slice none 0 0, .string ⟨#[]⟩, .int .i64 0] 28 (0, 0)) := heap_setCell_same _ _ 2 _ _ v2 h1
  have h3 : ((((w.setCell ⟨B, 0, none⟩ v0).setCell ⟨B, 1, none⟩ v1).setCell ⟨B, 2, none⟩ v2).setCell ⟨B, 3, none⟩ v3).heap[B]? = some (.cells #[v0, v1, v2, v3, .string ⟨#[]⟩, .int .i64 0, .slice none 0 0, .string ⟨#[]⟩, .int .i64 0] 28 (0, 0)) := heap_setCell_same _ _ 3 _ _ v3 h2
  have h4 : (((((w.setCell ⟨B, 0, none⟩ v0).setCell ⟨B, 1, none⟩ v1).setCell ⟨B, 2, none⟩ v2).setCell ⟨B, 3, none⟩ v3).setCell ⟨B, 4, none⟩ v4).heap[B]? = some (.cells #[v0, v1, v2, v3, v4, .int .i64 0, .slice none 0 0, .string ⟨#[]⟩, .int .i64 0] 28 (0, 0)) := heap_setCell_same _ _ 4 _ _ v4 h3
  have h5 : ((((((w.setCell ⟨B, 0, none⟩ v0).setCell ⟨B, 1, none⟩ v1).setCell ⟨B, 2, none⟩ v2).setCell ⟨B, 3, none⟩ v3).setCell ⟨B, 4, none⟩ v4).setCell ⟨B, 5, none⟩ v5).heap[B]? = some (.cells #[v0, v1, v2, v3, v4, v5, .slice none 0 0, .string ⟨#[]⟩, .int .i64 0] 28 (0, 0)) := heap_setCell_same _ _ 5 _ _ v5 h4
  have h6 : (((((((w.setCell ⟨B, 0, none⟩ v0).setCell ⟨B, 1, none⟩ v1).setCell ⟨B, 2, none⟩ v2).setCell ⟨B, 3, none⟩ v3).setCell ⟨B, 4, none⟩ v4).setCell ⟨B, 5, none⟩ v5).setCell ⟨B, 6, none⟩ v6).heap[B]? = some (.cells #[v0, v1, v2, v3, v4, v5, v6, .string ⟨#[]⟩, .int .i64 0] 28 (0, 0)) := heap_setCell_same _ _ 6 _ _ v6 h5
  have h7 : ((((((((w.setCell ⟨B, 0, none⟩ v0).setCell ⟨B, 1, none⟩ v1).setCell ⟨B, 2, none⟩ v2).setCell ⟨B, 3, none⟩ v3).setCell ⟨B, 4, none⟩ v4).setCell ⟨B, 5, none⟩ v5).setCell ⟨B, 6, none⟩ v6).setCell ⟨B, 7, none⟩ v7).heap[B]? = some (.cells #[v0, v1, v2, v3, v4, v5, v6, v7, .int .i64 0] 28 (0, 0)) := heap_setCell_same _ _ 7 _ _ v7 h6
  have h8 : (((((((((w.setCell ⟨B, 0, none⟩ v0).setCell ⟨B, 1, none⟩ v1).setCell ⟨B, 2, none⟩ v2).setCell ⟨B, 3, none⟩ v3).setCell ⟨B, 4, none⟩ v4).setCell ⟨B, 5, none⟩ v5).setCell ⟨B, 6, none⟩ v6).setCell ⟨B, 7, none⟩ v7).setCell ⟨B, 8, none⟩ v8).heap[B]? = some (.cells #[v0, v1, v2, v3, v4, v5, v6, v7, v8] 28 (0, 0)) := heap_setCell_same _ _ 8 _ _ v8 h7
  exact h8
theorem below9 {w0 w : World} {B C : Nat} (hBC : B ≤ C) (h : Below B w0 w) (v0 v1 v2 v3 v4 v5 v6 v7 v8 : Value) :
    Below B w0 (((((((((w.setCell ⟨C, 0, none⟩ v0).setCell ⟨C, 1, none⟩ v1).setCell ⟨C, 2, none⟩ v2).setCell ⟨C, 3, none⟩ v3).setCell ⟨C, 4, none⟩ v4).setCell ⟨C, 5, none⟩ v5).setCell ⟨C, 6, none⟩ v6).setCell ⟨C, 7, none⟩ v7).setCell ⟨C, 8, none⟩ v8) :=
  ((((((((h.setCell hBC _).setCell hBC _).setCell hBC _).setCell hBC _).setCell hBC _).setCell hBC _).setCell hBC _).setCell hBC _).setCell hBC _


section
variable (k i g : Int) (n f : ByteArray) (a : Int) (so : Option Addr) (l c : Nat) (y : ByteArray) (z : Int) (w : World)
set_option maxRecDepth 100000 in
set_option maxHeartbeats 4000000 in
theorem kind_none : Calls Tryz.prog 206 #[.agg #[.int .i64 k, .int .i64 i, .int .i64 g, .string n, .string f, .int .i64 a, .slice so l c, .string y, .int .i64 z]] w fun e w' =>
    e = .returned (.tuple #[.agg #[.int .i64 k, .int .i64 i, .int .i64 g, .string n, .string f, .int .i64 a, .slice so l c, .string y, .int .i64 z], .bool (false)]) ∧ Below w.heap.size w w' := by
  go_enter Tryz.func206, Tryz.ntmps206
  go_wp2_with fail
  exact bodyPost_ret (v := .tuple #[.agg #[.int .i64 k, .int .i64 i, .int .i64 g, .string n, .string f, .int .i64 a, .slice so l c, .string y, .int .i64 z], .bool (false)]) (by simp [results, Tryz.results206, go_sem]) rfl ⟨rfl, two_below _ _ _⟩
set_option maxRecDepth 100000 in
set_option maxHeartbeats 4000000 in
theorem kind_int : Calls Tryz.prog 207 #[.agg #[.int .i64 k, .int .i64 i, .int .i64 g, .string n, .string f, .int .i64 a, .slice so l c, .string y, .int .i64 z]] w fun e w' =>
    e = .returned (.tuple #[.agg #[.int .i64 k, .int .i64 0, .int .i64 g, .string n, .string f, .int .i64 a, .slice so l c, .string y, .int .i64 z], .bool (true)]) ∧ Below w.heap.size w w' := by
  go_enter Tryz.func207, Tryz.ntmps207
  go_wp2_with fail
  exact bodyPost_ret (v := .tuple #[.agg #[.int .i64 k, .int .i64 0, .int .i64 g, .string n, .string f, .int .i64 a, .slice so l c, .string y, .int .i64 z], .bool (true)]) (by simp [results, Tryz.results207, go_sem]) rfl ⟨rfl, two_below _ _ _⟩
set_option maxRecDepth 100000 in
set_option maxHeartbeats 4000000 in
theorem kind_nil : Calls Tryz.prog 212 #[.agg #[.int .i64 k, .int .i64 i, .int .i64 g, .string n, .string f, .int .i64 a, .slice so l c, .string y, .int .i64 z]] w fun e w' =>
    e = .returned (.tuple #[.agg #[.int .i64 k, .int .i64 i, .int .i64 g, .string n, .string f, .int .i64 a, .slice so l c, .string y, .int .i64 z], .bool (true)]) ∧ Below w.heap.size w w' := by
  go_enter Tryz.func212, Tryz.ntmps212
  go_wp2_with fail
  exact bodyPost_ret (v := .tuple #[.agg #[.int .i64 k, .int .i64 i, .int .i64 g, .string n, .string f, .int .i64 a, .slice so l c, .string y, .int .i64 z], .bool (true)]) (by simp [results, Tryz.results212, go_sem]) rfl ⟨rfl, two_below _ _ _⟩
set_option maxRecDepth 100000 in
set_option maxHeartbeats 4000000 in
theorem kind_num : Calls Tryz.prog 203 #[.agg #[.int .i64 k, .int .i64 i, .int .i64 g, .string n, .string f, .int .i64 a, .slice so l c, .string y, .int .i64 z]] w fun e w' =>
    e = .returned (.tuple #[.agg #[.int .i64 k, .int .i64 0, .int .i64 0, .string ⟨#[]⟩, .string f, .int .i64 a, .slice so l c, .string y, .int .i64 z], .bool (wi i 1 2147483647 && wi g 1 2147483647 && nameB n)]) ∧ Below w.heap.size w w' := by
  have h0 := fun wx => twithin_any i 1 2147483647 wx
  have h1 := fun wx => twithin_any g 1 2147483647 wx
  have h2 := fun wx => names_any n wx
  generalize wi i 1 2147483647 = b0 at *
  generalize wi g 1 2147483647 = b1 at *
  generalize nameB n = b2 at *
  cases b0 with
  | false =>
    go_enter Tryz.func203, Tryz.ntmps203
    go_wp2_with (go_at_call 204; first | ((with_reducible refine (h0 _).mono ?_); rintro e w1 ⟨rfl, rfl⟩) | ((with_reducible refine (h1 _).mono ?_); rintro e w1 ⟨rfl, rfl⟩))
    exact bodyPost_ret (v := .tuple #[.agg #[.int .i64 k, .int .i64 0, .int .i64 0, .string ⟨#[]⟩, .string f, .int .i64 a, .slice so l c, .string y, .int .i64 z], .bool (false)]) (by simp [results, Tryz.results203, go_sem]) rfl ⟨rfl, two_below _ _ _⟩
  | true =>
    cases b1 with
    | false =>
      go_enter Tryz.func203, Tryz.ntmps203
      go_wp2_with (go_at_call 204; first | ((with_reducible refine (h0 _).mono ?_); rintro e w1 ⟨rfl, rfl⟩) | ((with_reducible refine (h1 _).mono ?_); rintro e w1 ⟨rfl, rfl⟩))
      exact bodyPost_ret (v := .tuple #[.agg #[.int .i64 k, .int .i64 0, .int .i64 0, .string ⟨#[]⟩, .string f, .int .i64 a, .slice so l c, .string y, .int .i64 z], .bool (false)]) (by simp [results, Tryz.results203, go_sem]) rfl ⟨rfl, two_below _ _ _⟩
    | true =>
      go_enter Tryz.func203, Tryz.ntmps203
      go_wp2_with (go_at_call 204; first | ((with_reducible refine (h0 _).mono ?_); rintro e w1 ⟨rfl, rfl⟩) | ((with_reducible refine (h1 _).mono ?_); rintro e w1 ⟨rfl, rfl⟩))
      refine (h2 _).mono ?_
      rintro e w7 ⟨rfl, hb5⟩
      have r0 : w7.heap[w.heap.size]? = some (.cells #[.int .i64 k, .int .i64 i, .int .i64 g, .string n, .string f, .int .i64 a, .slice so l c, .string y, .int .i64 z] 28 (0, 0)) := (hb5.block _ (by simp; omega)).trans (two0 _ _ _)
      have r1 : w7.heap[w.heap.size + 1]? = some (.cells zeroRow 28 (0, 0)) := (hb5.block _ (by simp)).trans (two1 _ _ _)
      have hB : Below w.heap.size w w7 := (two_below _ _ _).trans (hb5.mono (by simp; omega))
      clear hb5
      generalize hBe : w.heap.size = B at *
      have HBE := Lib.hid hBe
      clear hBe
      obtain ⟨q0, q1, q2, q3, q4, q5, q6, q7, q8, z0⟩ := term_cells r0
      go_upto_region 3 with (go_at_call 204; first | ((with_reducible refine (h0 _).mono ?_); rintro e w1 ⟨rfl, rfl⟩) | ((with_reducible refine (h1 _).mono ?_); rintro e w1 ⟨rfl, rfl⟩))
      have r0' : (((w7.setCell ⟨B, 1, none⟩ (.int .i64 0)).setCell ⟨B, 2, none⟩ (.int .i64 0)).setCell ⟨B, 3, none⟩ (.string ⟨#[]⟩)).heap[B]? = some (.cells #[.int .i64 k, .int .i64 0, .int .i64 0, .string ⟨#[]⟩, .string f, .int .i64 a, .slice so l c, .string y, .int .i64 z] 28 (0, 0)) := (heap_setCell_same _ _ 3 _ _ (.string ⟨#[]⟩) (heap_setCell_same _ _ 2 _ _ (.int .i64 0) (heap_setCell_same _ _ 1 _ _ (.int .i64 0) r0)))
      have r1' : (((w7.setCell ⟨B, 1, none⟩ (.int .i64 0)).setCell ⟨B, 2, none⟩ (.int .i64 0)).setCell ⟨B, 3, none⟩ (.string ⟨#[]⟩)).heap[B + 1]? = some (.cells zeroRow 28 (0, 0)) := ((heap_setCell_other _ _ _ _ (by simp)).trans ((heap_setCell_other _ _ _ _ (by simp)).trans ((heap_setCell_other _ _ _ _ (by simp)).trans r1)))
      have hB' : Below B w (((w7.setCell ⟨B, 1, none⟩ (.int .i64 0)).setCell ⟨B, 2, none⟩ (.int .i64 0)).setCell ⟨B, 3, none⟩ (.string ⟨#[]⟩)) := (((hB.setCell (Nat.le_refl _) _).setCell (Nat.le_refl _) _).setCell (Nat.le_refl _) _)
      clear q0 q1 q2 q3 q4 q5 q6 q7 q8 z0 r0 r1 hB
      generalize (((w7.setCell ⟨B, 1, none⟩ (.int .i64 0)).setCell ⟨B, 2, none⟩ (.int .i64 0)).setCell ⟨B, 3, none⟩ (.string ⟨#[]⟩)) = w9 at *
      obtain ⟨q0, q1, q2, q3, q4, q5, q6, q7, q8, z0⟩ := term_cells r0'
      obtain ⟨p0, p1, p2, p3, p4, p5, p6, p7, p8, z1⟩ := term_cells r1'
      go_wp2_with fail
      refine bodyPost_ret (results_row_tmp rfl _ _ _ (B + 1) _ _ _ _ rfl (set9 _ _ _ _ _ _ _ _ _ r1') Tryz.underlying28 (by kernel_rfl)) rfl ?_
      exact ⟨rfl, by rw [HBE.out]; exact below9 (Nat.le_succ _) hB' _ _ _ _ _ _ _ _ _⟩
set_option maxRecDepth 100000 in
set_option maxHeartbeats 4000000 in
theorem kind_atom : Calls Tryz.prog 208 #[.agg #[.int .i64 k, .int .i64 i, .int .i64 g, .string n, .string f, .int .i64 a, .slice so l c, .string y, .int .i64 z]] w fun e w' =>
    e = .returned (.tuple #[.agg #[.int .i64 k, .int .i64 i, .int .i64 g, .string ⟨#[]⟩, .string f, .int .i64 a, .slice so l c, .string y, .int .i64 z], .bool (nameB n)]) ∧ Below w.heap.size w w' := by
  have h0 := fun wx => names_any n wx
  generalize nameB n = b0 at *
  go_enter Tryz.func208, Tryz.ntmps208
  go_wp2_with fail
  refine (h0 _).mono ?_
  rintro e w5 ⟨rfl, hb5⟩
  have r0 : w5.heap[w.heap.size]? = some (.cells #[.int .i64 k, .int .i64 i, .int .i64 g, .string n, .string f, .int .i64 a, .slice so l c, .string y, .int .i64 z] 28 (0, 0)) := (hb5.block _ (by simp; omega)).trans (two0 _ _ _)
  have r1 : w5.heap[w.heap.size + 1]? = some (.cells zeroRow 28 (0, 0)) := (hb5.block _ (by simp)).trans (two1 _ _ _)
  have hB : Below w.heap.size w w5 := (two_below _ _ _).trans (hb5.mono (by simp; omega))
  clear hb5
  generalize hBe : w.heap.size = B at *
  have HBE := Lib.hid hBe
  clear hBe
  obtain ⟨q0, q1, q2, q3, q4, q5, q6, q7, q8, z0⟩ := term_cells r0
  go_upto_region 3 with fail
  have r0' : (w5.setCell ⟨B, 3, none⟩ (.string ⟨#[]⟩)).heap[B]? = some (.cells #[.int .i64 k, .int .i64 i, .int .i64 g, .string ⟨#[]⟩, .string f, .int .i64 a, .slice so l c, .string y, .int .i64 z] 28 (0, 0)) := (heap_setCell_same _ _ 3 _ _ (.string ⟨#[]⟩) r0)
  have r1' : (w5.setCell ⟨B, 3, none⟩ (.string ⟨#[]⟩)).heap[B + 1]? = some (.cells zeroRow 28 (0, 0)) := ((heap_setCell_other _ _ _ _ (by simp)).trans r1)
  have hB' : Below B w (w5.setCell ⟨B, 3, none⟩ (.string ⟨#[]⟩)) := (hB.setCell (Nat.le_refl _) _)
  clear q0 q1 q2 q3 q4 q5 q6 q7 q8 z0 r0 r1 hB
  generalize (w5.setCell ⟨B, 3, none⟩ (.string ⟨#[]⟩)) = w9 at *
  obtain ⟨q0, q1, q2, q3, q4, q5, q6, q7, q8, z0⟩ := term_cells r0'
  obtain ⟨p0, p1, p2, p3, p4, p5, p6, p7, p8, z1⟩ := term_cells r1'
  go_wp2_with fail
  refine bodyPost_ret (results_row_tmp rfl _ _ _ (B + 1) _ _ _ _ rfl (set9 _ _ _ _ _ _ _ _ _ r1') Tryz.underlying28 (by kernel_rfl)) rfl ?_
  exact ⟨rfl, by rw [HBE.out]; exact below9 (Nat.le_succ _) hB' _ _ _ _ _ _ _ _ _⟩
set_option maxRecDepth 100000 in
set_option maxHeartbeats 4000000 in
theorem kind_export : Calls Tryz.prog 210 #[.agg #[.int .i64 k, .int .i64 i, .int .i64 g, .string n, .string f, .int .i64 a, .slice so l c, .string y, .int .i64 z]] w fun e w' =>
    e = .returned (.tuple #[.agg #[.int .i64 k, .int .i64 i, .int .i64 g, .string ⟨#[]⟩, .string ⟨#[]⟩, .int .i64 0, .slice so l c, .string y, .int .i64 z], .bool (nameB n && nameB f && wi a 0 16)]) ∧ Below w.heap.size w w' := by
  have h0 := fun wx => names_any n wx
  have h1 := fun wx => names_any f wx
  have h2 := fun wx => twithin_any a 0 16 wx
  generalize nameB n = b0 at *
  generalize nameB f = b1 at *
  generalize wi a 0 16 = b2 at *
  go_enter Tryz.func210, Tryz.ntmps210
  go_wp2_with (go_at_call 204; first | ((with_reducible refine (h2 _).mono ?_); rintro e w1 ⟨rfl, rfl⟩))
  refine (h0 _).mono ?_
  rintro e w5 ⟨rfl, hb5⟩
  have r0 : w5.heap[w.heap.size]? = some (.cells #[.int .i64 k, .int .i64 i, .int .i64 g, .string n, .string f, .int .i64 a, .slice so l c, .string y, .int .i64 z] 28 (0, 0)) := (hb5.block _ (by simp; omega)).trans (two0 _ _ _)
  have r1 : w5.heap[w.heap.size + 1]? = some (.cells zeroRow 28 (0, 0)) := (hb5.block _ (by simp)).trans (two1 _ _ _)
  have hB : Below w.heap.size w w5 := (two_below _ _ _).trans (hb5.mono (by simp; omega))
  clear hb5
  generalize hBe : w.heap.size = B at *
  have HBE := Lib.hid hBe
  clear hBe
  obtain ⟨q0, q1, q2, q3, q4, q5, q6, q7, q8, z0⟩ := term_cells r0
  cases b0 with
  | false =>
    go_upto_region 3 with (go_at_call 204; first | ((with_reducible refine (h2 _).mono ?_); rintro e w1 ⟨rfl, rfl⟩))
    have r0' : (((w5.setCell ⟨B, 3, none⟩ (.string ⟨#[]⟩)).setCell ⟨B, 4, none⟩ (.string ⟨#[]⟩)).setCell ⟨B, 5, none⟩ (.int .i64 0)).heap[B]? = some (.cells #[.int .i64 k, .int .i64 i, .int .i64 g, .string ⟨#[]⟩, .string ⟨#[]⟩, .int .i64 0, .slice so l c, .string y, .int .i64 z] 28 (0, 0)) := (heap_setCell_same _ _ 5 _ _ (.int .i64 0) (heap_setCell_same _ _ 4 _ _ (.string ⟨#[]⟩) (heap_setCell_same _ _ 3 _ _ (.string ⟨#[]⟩) r0)))
    have r1' : (((w5.setCell ⟨B, 3, none⟩ (.string ⟨#[]⟩)).setCell ⟨B, 4, none⟩ (.string ⟨#[]⟩)).setCell ⟨B, 5, none⟩ (.int .i64 0)).heap[B + 1]? = some (.cells zeroRow 28 (0, 0)) := ((heap_setCell_other _ _ _ _ (by simp)).trans ((heap_setCell_other _ _ _ _ (by simp)).trans ((heap_setCell_other _ _ _ _ (by simp)).trans r1)))
    have hB' : Below B w (((w5.setCell ⟨B, 3, none⟩ (.string ⟨#[]⟩)).setCell ⟨B, 4, none⟩ (.string ⟨#[]⟩)).setCell ⟨B, 5, none⟩ (.int .i64 0)) := (((hB.setCell (Nat.le_refl _) _).setCell (Nat.le_refl _) _).setCell (Nat.le_refl _) _)
    clear q0 q1 q2 q3 q4 q5 q6 q7 q8 z0 r0 r1 hB
    generalize (((w5.setCell ⟨B, 3, none⟩ (.string ⟨#[]⟩)).setCell ⟨B, 4, none⟩ (.string ⟨#[]⟩)).setCell ⟨B, 5, none⟩ (.int .i64 0)) = w9 at *
    obtain ⟨q0, q1, q2, q3, q4, q5, q6, q7, q8, z0⟩ := term_cells r0'
    obtain ⟨p0, p1, p2, p3, p4, p5, p6, p7, p8, z1⟩ := term_cells r1'
    go_wp2_with fail
    refine bodyPost_ret (results_row_tmp rfl _ _ _ (B + 1) _ _ _ _ rfl (set9 _ _ _ _ _ _ _ _ _ r1') Tryz.underlying28 (by kernel_rfl)) rfl ?_
    exact ⟨rfl, by rw [HBE.out]; exact below9 (Nat.le_succ _) hB' _ _ _ _ _ _ _ _ _⟩
  | true =>
    go_wp2_with (go_at_call 204; first | ((with_reducible refine (h2 _).mono ?_); rintro e w1 ⟨rfl, rfl⟩))
    refine (h1 _).mono ?_
    rintro e w6 ⟨rfl, hb5⟩
    have r0n := (hb5.block B (lt_of_row r0)).trans r0
    have r1n := (hb5.block (B + 1) (lt_of_row r1)).trans r1
    have hBn : Below B w w6 := hB.trans (hb5.mono (Nat.le_of_lt (lt_of_row r0)))
    clear hb5 r0 r1 hB q0 q1 q2 q3 q4 q5 q6 q7 q8 z0
    have r0 := r0n
    have r1 := r1n
    have hB := hBn
    clear r0n r1n hBn
    obtain ⟨q0, q1, q2, q3, q4, q5, q6, q7, q8, z0⟩ := term_cells r0
    cases b1 with
    | false =>
      go_upto_region 3 with (go_at_call 204; first | ((with_reducible refine (h2 _).mono ?_); rintro e w1 ⟨rfl, rfl⟩))
      have r0' : (((w6.setCell ⟨B, 3, none⟩ (.string ⟨#[]⟩)).setCell ⟨B, 4, none⟩ (.string ⟨#[]⟩)).setCell ⟨B, 5, none⟩ (.int .i64 0)).heap[B]? = some (.cells #[.int .i64 k, .int .i64 i, .int .i64 g, .string ⟨#[]⟩, .string ⟨#[]⟩, .int .i64 0, .slice so l c, .string y, .int .i64 z] 28 (0, 0)) := (heap_setCell_same _ _ 5 _ _ (.int .i64 0) (heap_setCell_same _ _ 4 _ _ (.string ⟨#[]⟩) (heap_setCell_same _ _ 3 _ _ (.string ⟨#[]⟩) r0)))
      have r1' : (((w6.setCell ⟨B, 3, none⟩ (.string ⟨#[]⟩)).setCell ⟨B, 4, none⟩ (.string ⟨#[]⟩)).setCell ⟨B, 5, none⟩ (.int .i64 0)).heap[B + 1]? = some (.cells zeroRow 28 (0, 0)) := ((heap_setCell_other _ _ _ _ (by simp)).trans ((heap_setCell_other _ _ _ _ (by simp)).trans ((heap_setCell_other _ _ _ _ (by simp)).trans r1)))
      have hB' : Below B w (((w6.setCell ⟨B, 3, none⟩ (.string ⟨#[]⟩)).setCell ⟨B, 4, none⟩ (.string ⟨#[]⟩)).setCell ⟨B, 5, none⟩ (.int .i64 0)) := (((hB.setCell (Nat.le_refl _) _).setCell (Nat.le_refl _) _).setCell (Nat.le_refl _) _)
      clear q0 q1 q2 q3 q4 q5 q6 q7 q8 z0 r0 r1 hB
      generalize (((w6.setCell ⟨B, 3, none⟩ (.string ⟨#[]⟩)).setCell ⟨B, 4, none⟩ (.string ⟨#[]⟩)).setCell ⟨B, 5, none⟩ (.int .i64 0)) = w9 at *
      obtain ⟨q0, q1, q2, q3, q4, q5, q6, q7, q8, z0⟩ := term_cells r0'
      obtain ⟨p0, p1, p2, p3, p4, p5, p6, p7, p8, z1⟩ := term_cells r1'
      go_wp2_with fail
      refine bodyPost_ret (results_row_tmp rfl _ _ _ (B + 1) _ _ _ _ rfl (set9 _ _ _ _ _ _ _ _ _ r1') Tryz.underlying28 (by kernel_rfl)) rfl ?_
      exact ⟨rfl, by rw [HBE.out]; exact below9 (Nat.le_succ _) hB' _ _ _ _ _ _ _ _ _⟩
    | true =>
      cases b2 with
      | false =>
        go_upto_region 3 with (go_at_call 204; first | ((with_reducible refine (h2 _).mono ?_); rintro e w1 ⟨rfl, rfl⟩))
        have r0' : (((w6.setCell ⟨B, 3, none⟩ (.string ⟨#[]⟩)).setCell ⟨B, 4, none⟩ (.string ⟨#[]⟩)).setCell ⟨B, 5, none⟩ (.int .i64 0)).heap[B]? = some (.cells #[.int .i64 k, .int .i64 i, .int .i64 g, .string ⟨#[]⟩, .string ⟨#[]⟩, .int .i64 0, .slice so l c, .string y, .int .i64 z] 28 (0, 0)) := (heap_setCell_same _ _ 5 _ _ (.int .i64 0) (heap_setCell_same _ _ 4 _ _ (.string ⟨#[]⟩) (heap_setCell_same _ _ 3 _ _ (.string ⟨#[]⟩) r0)))
        have r1' : (((w6.setCell ⟨B, 3, none⟩ (.string ⟨#[]⟩)).setCell ⟨B, 4, none⟩ (.string ⟨#[]⟩)).setCell ⟨B, 5, none⟩ (.int .i64 0)).heap[B + 1]? = some (.cells zeroRow 28 (0, 0)) := ((heap_setCell_other _ _ _ _ (by simp)).trans ((heap_setCell_other _ _ _ _ (by simp)).trans ((heap_setCell_other _ _ _ _ (by simp)).trans r1)))
        have hB' : Below B w (((w6.setCell ⟨B, 3, none⟩ (.string ⟨#[]⟩)).setCell ⟨B, 4, none⟩ (.string ⟨#[]⟩)).setCell ⟨B, 5, none⟩ (.int .i64 0)) := (((hB.setCell (Nat.le_refl _) _).setCell (Nat.le_refl _) _).setCell (Nat.le_refl _) _)
        clear q0 q1 q2 q3 q4 q5 q6 q7 q8 z0 r0 r1 hB
        generalize (((w6.setCell ⟨B, 3, none⟩ (.string ⟨#[]⟩)).setCell ⟨B, 4, none⟩ (.string ⟨#[]⟩)).setCell ⟨B, 5, none⟩ (.int .i64 0)) = w9 at *
        obtain ⟨q0, q1, q2, q3, q4, q5, q6, q7, q8, z0⟩ := term_cells r0'
        obtain ⟨p0, p1, p2, p3, p4, p5, p6, p7, p8, z1⟩ := term_cells r1'
        go_wp2_with fail
        refine bodyPost_ret (results_row_tmp rfl _ _ _ (B + 1) _ _ _ _ rfl (set9 _ _ _ _ _ _ _ _ _ r1') Tryz.underlying28 (by kernel_rfl)) rfl ?_
        exact ⟨rfl, by rw [HBE.out]; exact below9 (Nat.le_succ _) hB' _ _ _ _ _ _ _ _ _⟩
      | true =>
        go_upto_region 3 with (go_at_call 204; first | ((with_reducible refine (h2 _).mono ?_); rintro e w1 ⟨rfl, rfl⟩))
        have r0' : (((w6.setCell ⟨B, 3, none⟩ (.string ⟨#[]⟩)).setCell ⟨B, 4, none⟩ (.string ⟨#[]⟩)).setCell ⟨B, 5, none⟩ (.int .i64 0)).heap[B]? = some (.cells #[.int .i64 k, .int .i64 i, .int .i64 g, .string ⟨#[]⟩, .string ⟨#[]⟩, .int .i64 0, .slice so l c, .string y, .int .i64 z] 28 (0, 0)) := (heap_setCell_same _ _ 5 _ _ (.int .i64 0) (heap_setCell_same _ _ 4 _ _ (.string ⟨#[]⟩) (heap_setCell_same _ _ 3 _ _ (.string ⟨#[]⟩) r0)))
        have r1' : (((w6.setCell ⟨B, 3, none⟩ (.string ⟨#[]⟩)).setCell ⟨B, 4, none⟩ (.string ⟨#[]⟩)).setCell ⟨B, 5, none⟩ (.int .i64 0)).heap[B + 1]? = some (.cells zeroRow 28 (0, 0)) := ((heap_setCell_other _ _ _ _ (by simp)).trans ((heap_setCell_other _ _ _ _ (by simp)).trans ((heap_setCell_other _ _ _ _ (by simp)).trans r1)))
        have hB' : Below B w (((w6.setCell ⟨B, 3, none⟩ (.string ⟨#[]⟩)).setCell ⟨B, 4, none⟩ (.string ⟨#[]⟩)).setCell ⟨B, 5, none⟩ (.int .i64 0)) := (((hB.setCell (Nat.le_refl _) _).setCell (Nat.le_refl _) _).setCell (Nat.le_refl _) _)
        clear q0 q1 q2 q3 q4 q5 q6 q7 q8 z0 r0 r1 hB
        generalize (((w6.setCell ⟨B, 3, none⟩ (.string ⟨#[]⟩)).setCell ⟨B, 4, none⟩ (.string ⟨#[]⟩)).setCell ⟨B, 5, none⟩ (.int .i64 0)) = w9 at *
        obtain ⟨q0, q1, q2, q3, q4, q5, q6, q7, q8, z0⟩ := term_cells r0'
        obtain ⟨p0, p1, p2, p3, p4, p5, p6, p7, p8, z1⟩ := term_cells r1'
        go_wp2_with fail
        refine bodyPost_ret (results_row_tmp rfl _ _ _ (B + 1) _ _ _ _ rfl (set9 _ _ _ _ _ _ _ _ _ r1') Tryz.underlying28 (by kernel_rfl)) rfl ?_
        exact ⟨rfl, by rw [HBE.out]; exact below9 (Nat.le_succ _) hB' _ _ _ _ _ _ _ _ _⟩
set_option maxRecDepth 100000 in
set_option maxHeartbeats 4000000 in
theorem kind_tuple : Calls Tryz.prog 211 #[.agg #[.int .i64 k, .int .i64 i, .int .i64 g, .string n, .string f, .int .i64 a, .slice so l c, .string y, .int .i64 z]] w fun e w' =>
    e = .returned (.tuple #[.agg #[.int .i64 k, .int .i64 i, .int .i64 g, .string n, .string f, .int .i64 a, .slice none 0 0, .string y, .int .i64 z], .bool (decide ((l : Int) ≤ 255))]) ∧ Below w.heap.size w w' := by
  cases hp : decide ((l : Int) ≤ 255) with
  | false =>
    go_enter Tryz.func211, Tryz.ntmps211
    go_wp2_with fail
    exact bodyPost_ret (v := .tuple #[.agg #[.int .i64 k, .int .i64 i, .int .i64 g, .string n, .string f, .int .i64 a, .slice none 0 0, .string y, .int .i64 z], .bool (false)]) (by simp [results, Tryz.results211, go_sem]) rfl ⟨rfl, two_below _ _ _⟩
  | true =>
    go_enter Tryz.func211, Tryz.ntmps211
    go_wp2_with fail
    exact bodyPost_ret (v := .tuple #[.agg #[.int .i64 k, .int .i64 i, .int .i64 g, .string n, .string f, .int .i64 a, .slice none 0 0, .string y, .int .i64 z], .bool (true)]) (by simp [results, Tryz.results211, go_sem]) rfl ⟨rfl, two_below _ _ _⟩
set_option maxRecDepth 100000 in
set_option maxHeartbeats 4000000 in
theorem kind_closure : Calls Tryz.prog 209 #[.agg #[.int .i64 k, .int .i64 i, .int .i64 g, .string n, .string f, .int .i64 a, .slice so l c, .string y, .int .i64 z]] w fun e w' =>
    e = .returned (.tuple #[.agg #[.int .i64 k, .int .i64 0, .int .i64 0, .string ⟨#[]⟩, .string f, .int .i64 0, .slice none 0 0, .string y, .int .i64 z], .bool (wi i 0 999 && wi g 1 2147483647 && nameB n && wi a 0 16 && decide ((l : Int) ≤ 200))]) ∧ Below w.heap.size w w' := by
  have h0 := fun wx => twithin_any i 0 999 wx
  have h1 := fun wx => twithin_any g 1 2147483647 wx
  have h2 := fun wx => names_any n wx
  have h3 := fun wx => twithin_any a 0 16 wx
  generalize wi i 0 999 = b0 at *
  generalize wi g 1 2147483647 = b1 at *
  generalize nameB n = b2 at *
  generalize wi a 0 16 = b3 at *
  cases hp : decide ((l : Int) ≤ 200) with
  | false =>
    cases b0 with
    | false =>
      go_enter Tryz.func209, Tryz.ntmps209
      go_wp2_with (go_at_call 204; first | ((with_reducible refine (h0 _).mono ?_); rintro e w1 ⟨rfl, rfl⟩) | ((with_reducible refine (h1 _).mono ?_); rintro e w1 ⟨rfl, rfl⟩) | ((with_reducible refine (h3 _).mono ?_); rintro e w1 ⟨rfl, rfl⟩))
      exact bodyPost_ret (v := .tuple #[.agg #[.int .i64 k, .int .i64 0, .int .i64 0, .string ⟨#[]⟩, .string f, .int .i64 0, .slice none 0 0, .string y, .int .i64 z], .bool (false)]) (by simp [results, Tryz.results209, go_sem]) rfl ⟨rfl, two_below _ _ _⟩
    | true =>
      cases b1 with
      | false =>
        go_enter Tryz.func209, Tryz.ntmps209
        go_wp2_with (go_at_call 204; first | ((with_reducible refine (h0 _).mono ?_); rintro e w1 ⟨rfl, rfl⟩) | ((with_reducible refine (h1 _).mono ?_); rintro e w1 ⟨rfl, rfl⟩) | ((with_reducible refine (h3 _).mono ?_); rintro e w1 ⟨rfl, rfl⟩))
        exact bodyPost_ret (v := .tuple #[.agg #[.int .i64 k, .int .i64 0, .int .i64 0, .string ⟨#[]⟩, .string f, .int .i64 0, .slice none 0 0, .string y, .int .i64 z], .bool (false)]) (by simp [results, Tryz.results209, go_sem]) rfl ⟨rfl, two_below _ _ _⟩
      | true =>
        go_enter Tryz.func209, Tryz.ntmps209
        go_wp2_with (go_at_call 204; first | ((with_reducible refine (h0 _).mono ?_); rintro e w1 ⟨rfl, rfl⟩) | ((with_reducible refine (h1 _).mono ?_); rintro e w1 ⟨rfl, rfl⟩) | ((with_reducible refine (h3 _).mono ?_); rintro e w1 ⟨rfl, rfl⟩))
        refine (h2 _).mono ?_
        rintro e w7 ⟨rfl, hb5⟩
        have r0 : w7.heap[w.heap.size]? = some (.cells #[.int .i64 k, .int .i64 i, .int .i64 g, .string n, .string f, .int .i64 a, .slice so l c, .string y, .int .i64 z] 28 (0, 0)) := (hb5.block _ (by simp; omega)).trans (two0 _ _ _)
        have r1 : w7.heap[w.heap.size + 1]? = some (.cells zeroRow 28 (0, 0)) := (hb5.block _ (by simp)).trans (two1 _ _ _)
        have hB : Below w.heap.size w w7 := (two_below _ _ _).trans (hb5.mono (by simp; omega))
        clear hb5
        generalize hBe : w.heap.size = B at *
        have HBE := Lib.hid hBe
        clear hBe
        obtain ⟨q0, q1, q2, q3, q4, q5, q6, q7, q8, z0⟩ := term_cells r0
        cases b2 with
        | false =>
          go_upto_region 3 with (go_at_call 204; first | ((with_reducible refine (h0 _).mono ?_); rintro e w1 ⟨rfl, rfl⟩) | ((with_reducible refine (h1 _).mono ?_); rintro e w1 ⟨rfl, rfl⟩) | ((with_reducible refine (h3 _).mono ?_); rintro e w1 ⟨rfl, rfl⟩))
          have r0' : (((((w7.setCell ⟨B, 1, none⟩ (.int .i64 0)).setCell ⟨B, 2, none⟩ (.int .i64 0)).setCell ⟨B, 3, none⟩ (.string ⟨#[]⟩)).setCell ⟨B, 5, none⟩ (.int .i64 0)).setCell ⟨B, 6, none⟩ (.slice none 0 0)).heap[B]? = some (.cells #[.int .i64 k, .int .i64 0, .int .i64 0, .string ⟨#[]⟩, .string f, .int .i64 0, .slice none 0 0, .string y, .int .i64 z] 28 (0, 0)) := (heap_setCell_same _ _ 6 _ _ (.slice none 0 0) (heap_setCell_same _ _ 5 _ _ (.int .i64 0) (heap_setCell_same _ _ 3 _ _ (.string ⟨#[]⟩) (heap_setCell_same _ _ 2 _ _ (.int .i64 0) (heap_setCell_same _ _ 1 _ _ (.int .i64 0) r0)))))
          have r1' : (((((w7.setCell ⟨B, 1, none⟩ (.int .i64 0)).setCell ⟨B, 2, none⟩ (.int .i64 0)).setCell ⟨B, 3, none⟩ (.string ⟨#[]⟩)).setCell ⟨B, 5, none⟩ (.int .i64 0)).setCell ⟨B, 6, none⟩ (.slice none 0 0)).heap[B + 1]? = some (.cells zeroRow 28 (0, 0)) := ((heap_setCell_other _ _ _ _ (by simp)).trans ((heap_setCell_other _ _ _ _ (by simp)).trans ((heap_setCell_other _ _ _ _ (by simp)).trans ((heap_setCell_other _ _ _ _ (by simp)).trans ((heap_setCell_other _ _ _ _ (by simp)).trans r1)))))
          have hB' : Below B w (((((w7.setCell ⟨B, 1, none⟩ (.int .i64 0)).setCell ⟨B, 2, none⟩ (.int .i64 0)).setCell ⟨B, 3, none⟩ (.string ⟨#[]⟩)).setCell ⟨B, 5, none⟩ (.int .i64 0)).setCell ⟨B, 6, none⟩ (.slice none 0 0)) := (((((hB.setCell (Nat.le_refl _) _).setCell (Nat.le_refl _) _).setCell (Nat.le_refl _) _).setCell (Nat.le_refl _) _).setCell (Nat.le_refl _) _)
          clear q0 q1 q2 q3 q4 q5 q6 q7 q8 z0 r0 r1 hB
          generalize (((((w7.setCell ⟨B, 1, none⟩ (.int .i64 0)).setCell ⟨B, 2, none⟩ (.int .i64 0)).setCell ⟨B, 3, none⟩ (.string ⟨#[]⟩)).setCell ⟨B, 5, none⟩ (.int .i64 0)).setCell ⟨B, 6, none⟩ (.slice none 0 0)) = w9 at *
          obtain ⟨q0, q1, q2, q3, q4, q5, q6, q7, q8, z0⟩ := term_cells r0'
          obtain ⟨p0, p1, p2, p3, p4, p5, p6, p7, p8, z1⟩ := term_cells r1'
          go_wp2_with fail
          refine bodyPost_ret (results_row_tmp rfl _ _ _ (B + 1) _ _ _ _ rfl (set9 _ _ _ _ _ _ _ _ _ r1') Tryz.underlying28 (by kernel_rfl)) rfl ?_
          exact ⟨rfl, by rw [HBE.out]; exact below9 (Nat.le_succ _) hB' _ _ _ _ _ _ _ _ _⟩
        | true =>
          cases b3 with
          | false =>
            go_upto_region 3 with (go_at_call 204; first | ((with_reducible refine (h0 _).mono ?_); rintro e w1 ⟨rfl, rfl⟩) | ((with_reducible refine (h1 _).mono ?_); rintro e w1 ⟨rfl, rfl⟩) | ((with_reducible refine (h3 _).mono ?_); rintro e w1 ⟨rfl, rfl⟩))
            have r0' : (((((w7.setCell ⟨B, 1, none⟩ (.int .i64 0)).setCell ⟨B, 2, none⟩ (.int .i64 0)).setCell ⟨B, 3, none⟩ (.string ⟨#[]⟩)).setCell ⟨B, 5, none⟩ (.int .i64 0)).setCell ⟨B, 6, none⟩ (.slice none 0 0)).heap[B]? = some (.cells #[.int .i64 k, .int .i64 0, .int .i64 0, .string ⟨#[]⟩, .string f, .int .i64 0, .slice none 0 0, .string y, .int .i64 z] 28 (0, 0)) := (heap_setCell_same _ _ 6 _ _ (.slice none 0 0) (heap_setCell_same _ _ 5 _ _ (.int .i64 0) (heap_setCell_same _ _ 3 _ _ (.string ⟨#[]⟩) (heap_setCell_same _ _ 2 _ _ (.int .i64 0) (heap_setCell_same _ _ 1 _ _ (.int .i64 0) r0)))))
            have r1' : (((((w7.setCell ⟨B, 1, none⟩ (.int .i64 0)).setCell ⟨B, 2, none⟩ (.int .i64 0)).setCell ⟨B, 3, none⟩ (.string ⟨#[]⟩)).setCell ⟨B, 5, none⟩ (.int .i64 0)).setCell ⟨B, 6, none⟩ (.slice none 0 0)).heap[B + 1]? = some (.cells zeroRow 28 (0, 0)) := ((heap_setCell_other _ _ _ _ (by simp)).trans ((heap_setCell_other _ _ _ _ (by simp)).trans ((heap_setCell_other _ _ _ _ (by simp)).trans ((heap_setCell_other _ _ _ _ (by simp)).trans ((heap_setCell_other _ _ _ _ (by simp)).trans r1)))))
            have hB' : Below B w (((((w7.setCell ⟨B, 1, none⟩ (.int .i64 0)).setCell ⟨B, 2, none⟩ (.int .i64 0)).setCell ⟨B, 3, none⟩ (.string ⟨#[]⟩)).setCell ⟨B, 5, none⟩ (.int .i64 0)).setCell ⟨B, 6, none⟩ (.slice none 0 0)) := (((((hB.setCell (Nat.le_refl _) _).setCell (Nat.le_refl _) _).setCell (Nat.le_refl _) _).setCell (Nat.le_refl _) _).setCell (Nat.le_refl _) _)
            clear q0 q1 q2 q3 q4 q5 q6 q7 q8 z0 r0 r1 hB
            generalize (((((w7.setCell ⟨B, 1, none⟩ (.int .i64 0)).setCell ⟨B, 2, none⟩ (.int .i64 0)).setCell ⟨B, 3, none⟩ (.string ⟨#[]⟩)).setCell ⟨B, 5, none⟩ (.int .i64 0)).setCell ⟨B, 6, none⟩ (.slice none 0 0)) = w9 at *
            obtain ⟨q0, q1, q2, q3, q4, q5, q6, q7, q8, z0⟩ := term_cells r0'
            obtain ⟨p0, p1, p2, p3, p4, p5, p6, p7, p8, z1⟩ := term_cells r1'
            go_wp2_with fail
            refine bodyPost_ret (results_row_tmp rfl _ _ _ (B + 1) _ _ _ _ rfl (set9 _ _ _ _ _ _ _ _ _ r1') Tryz.underlying28 (by kernel_rfl)) rfl ?_
            exact ⟨rfl, by rw [HBE.out]; exact below9 (Nat.le_succ _) hB' _ _ _ _ _ _ _ _ _⟩
          | true =>
            go_upto_region 3 with (go_at_call 204; first | ((with_reducible refine (h0 _).mono ?_); rintro e w1 ⟨rfl, rfl⟩) | ((with_reducible refine (h1 _).mono ?_); rintro e w1 ⟨rfl, rfl⟩) | ((with_reducible refine (h3 _).mono ?_); rintro e w1 ⟨rfl, rfl⟩))
            have r0' : (((((w7.setCell ⟨B, 1, none⟩ (.int .i64 0)).setCell ⟨B, 2, none⟩ (.int .i64 0)).setCell ⟨B, 3, none⟩ (.string ⟨#[]⟩)).setCell ⟨B, 5, none⟩ (.int .i64 0)).setCell ⟨B, 6, none⟩ (.slice none 0 0)).heap[B]? = some (.cells #[.int .i64 k, .int .i64 0, .int .i64 0, .string ⟨#[]⟩, .string f, .int .i64 0, .slice none 0 0, .string y, .int .i64 z] 28 (0, 0)) := (heap_setCell_same _ _ 6 _ _ (.slice none 0 0) (heap_setCell_same _ _ 5 _ _ (.int .i64 0) (heap_setCell_same _ _ 3 _ _ (.string ⟨#[]⟩) (heap_setCell_same _ _ 2 _ _ (.int .i64 0) (heap_setCell_same _ _ 1 _ _ (.int .i64 0) r0)))))
            have r1' : (((((w7.setCell ⟨B, 1, none⟩ (.int .i64 0)).setCell ⟨B, 2, none⟩ (.int .i64 0)).setCell ⟨B, 3, none⟩ (.string ⟨#[]⟩)).setCell ⟨B, 5, none⟩ (.int .i64 0)).setCell ⟨B, 6, none⟩ (.slice none 0 0)).heap[B + 1]? = some (.cells zeroRow 28 (0, 0)) := ((heap_setCell_other _ _ _ _ (by simp)).trans ((heap_setCell_other _ _ _ _ (by simp)).trans ((heap_setCell_other _ _ _ _ (by simp)).trans ((heap_setCell_other _ _ _ _ (by simp)).trans ((heap_setCell_other _ _ _ _ (by simp)).trans r1)))))
            have hB' : Below B w (((((w7.setCell ⟨B, 1, none⟩ (.int .i64 0)).setCell ⟨B, 2, none⟩ (.int .i64 0)).setCell ⟨B, 3, none⟩ (.string ⟨#[]⟩)).setCell ⟨B, 5, none⟩ (.int .i64 0)).setCell ⟨B, 6, none⟩ (.slice none 0 0)) := (((((hB.setCell (Nat.le_refl _) _).setCell (Nat.le_refl _) _).setCell (Nat.le_refl _) _).setCell (Nat.le_refl _) _).setCell (Nat.le_refl _) _)
            clear q0 q1 q2 q3 q4 q5 q6 q7 q8 z0 r0 r1 hB
            generalize (((((w7.setCell ⟨B, 1, none⟩ (.int .i64 0)).setCell ⟨B, 2, none⟩ (.int .i64 0)).setCell ⟨B, 3, none⟩ (.string ⟨#[]⟩)).setCell ⟨B, 5, none⟩ (.int .i64 0)).setCell ⟨B, 6, none⟩ (.slice none 0 0)) = w9 at *
            obtain ⟨q0, q1, q2, q3, q4, q5, q6, q7, q8, z0⟩ := term_cells r0'
            obtain ⟨p0, p1, p2, p3, p4, p5, p6, p7, p8, z1⟩ := term_cells r1'
            go_wp2_with fail
            refine bodyPost_ret (results_row_tmp rfl _ _ _ (B + 1) _ _ _ _ rfl (set9 _ _ _ _ _ _ _ _ _ r1') Tryz.underlying28 (by kernel_rfl)) rfl ?_
            exact ⟨rfl, by rw [HBE.out]; exact below9 (Nat.le_succ _) hB' _ _ _ _ _ _ _ _ _⟩
  | true =>
    cases b0 with
    | false =>
      go_enter Tryz.func209, Tryz.ntmps209
      go_wp2_with (go_at_call 204; first | ((with_reducible refine (h0 _).mono ?_); rintro e w1 ⟨rfl, rfl⟩) | ((with_reducible refine (h1 _).mono ?_); rintro e w1 ⟨rfl, rfl⟩) | ((with_reducible refine (h3 _).mono ?_); rintro e w1 ⟨rfl, rfl⟩))
      exact bodyPost_ret (v := .tuple #[.agg #[.int .i64 k, .int .i64 0, .int .i64 0, .string ⟨#[]⟩, .string f, .int .i64 0, .slice none 0 0, .string y, .int .i64 z], .bool (false)]) (by simp [results, Tryz.results209, go_sem]) rfl ⟨rfl, two_below _ _ _⟩
    | true =>
      cases b1 with
      | false =>
        go_enter Tryz.func209, Tryz.ntmps209
        go_wp2_with (go_at_call 204; first | ((with_reducible refine (h0 _).mono ?_); rintro e w1 ⟨rfl, rfl⟩) | ((with_reducible refine (h1 _).mono ?_); rintro e w1 ⟨rfl, rfl⟩) | ((with_reducible refine (h3 _).mono ?_); rintro e w1 ⟨rfl, rfl⟩))
        exact bodyPost_ret (v := .tuple #[.agg #[.int .i64 k, .int .i64 0, .int .i64 0, .string ⟨#[]⟩, .string f, .int .i64 0, .slice none 0 0, .string y, .int .i64 z], .bool (false)]) (by simp [results, Tryz.results209, go_sem]) rfl ⟨rfl, two_below _ _ _⟩
      | true =>
        go_enter Tryz.func209, Tryz.ntmps209
        go_wp2_with (go_at_call 204; first | ((with_reducible refine (h0 _).mono ?_); rintro e w1 ⟨rfl, rfl⟩) | ((with_reducible refine (h1 _).mono ?_); rintro e w1 ⟨rfl, rfl⟩) | ((with_reducible refine (h3 _).mono ?_); rintro e w1 ⟨rfl, rfl⟩))
        refine (h2 _).mono ?_
        rintro e w7 ⟨rfl, hb5⟩
        have r0 : w7.heap[w.heap.size]? = some (.cells #[.int .i64 k, .int .i64 i, .int .i64 g, .string n, .string f, .int .i64 a, .slice so l c, .string y, .int .i64 z] 28 (0, 0)) := (hb5.block _ (by simp; omega)).trans (two0 _ _ _)
        have r1 : w7.heap[w.heap.size + 1]? = some (.cells zeroRow 28 (0, 0)) := (hb5.block _ (by simp)).trans (two1 _ _ _)
        have hB : Below w.heap.size w w7 := (two_below _ _ _).trans (hb5.mono (by simp; omega))
        clear hb5
        generalize hBe : w.heap.size = B at *
        have HBE := Lib.hid hBe
        clear hBe
        obtain ⟨q0, q1, q2, q3, q4, q5, q6, q7, q8, z0⟩ := term_cells r0
        cases b2 with
        | false =>
          go_upto_region 3 with (go_at_call 204; first | ((with_reducible refine (h0 _).mono ?_); rintro e w1 ⟨rfl, rfl⟩) | ((with_reducible refine (h1 _).mono ?_); rintro e w1 ⟨rfl, rfl⟩) | ((with_reducible refine (h3 _).mono ?_); rintro e w1 ⟨rfl, rfl⟩))
          have r0' : (((((w7.setCell ⟨B, 1, none⟩ (.int .i64 0)).setCell ⟨B, 2, none⟩ (.int .i64 0)).setCell ⟨B, 3, none⟩ (.string ⟨#[]⟩)).setCell ⟨B, 5, none⟩ (.int .i64 0)).setCell ⟨B, 6, none⟩ (.slice none 0 0)).heap[B]? = some (.cells #[.int .i64 k, .int .i64 0, .int .i64 0, .string ⟨#[]⟩, .string f, .int .i64 0, .slice none 0 0, .string y, .int .i64 z] 28 (0, 0)) := (heap_setCell_same _ _ 6 _ _ (.slice none 0 0) (heap_setCell_same _ _ 5 _ _ (.int .i64 0) (heap_setCell_same _ _ 3 _ _ (.string ⟨#[]⟩) (heap_setCell_same _ _ 2 _ _ (.int .i64 0) (heap_setCell_same _ _ 1 _ _ (.int .i64 0) r0)))))
          have r1' : (((((w7.setCell ⟨B, 1, none⟩ (.int .i64 0)).setCell ⟨B, 2, none⟩ (.int .i64 0)).setCell ⟨B, 3, none⟩ (.string ⟨#[]⟩)).setCell ⟨B, 5, none⟩ (.int .i64 0)).setCell ⟨B, 6, none⟩ (.slice none 0 0)).heap[B + 1]? = some (.cells zeroRow 28 (0, 0)) := ((heap_setCell_other _ _ _ _ (by simp)).trans ((heap_setCell_other _ _ _ _ (by simp)).trans ((heap_setCell_other _ _ _ _ (by simp)).trans ((heap_setCell_other _ _ _ _ (by simp)).trans ((heap_setCell_other _ _ _ _ (by simp)).trans r1)))))
          have hB' : Below B w (((((w7.setCell ⟨B, 1, none⟩ (.int .i64 0)).setCell ⟨B, 2, none⟩ (.int .i64 0)).setCell ⟨B, 3, none⟩ (.string ⟨#[]⟩)).setCell ⟨B, 5, none⟩ (.int .i64 0)).setCell ⟨B, 6, none⟩ (.slice none 0 0)) := (((((hB.setCell (Nat.le_refl _) _).setCell (Nat.le_refl _) _).setCell (Nat.le_refl _) _).setCell (Nat.le_refl _) _).setCell (Nat.le_refl _) _)
          clear q0 q1 q2 q3 q4 q5 q6 q7 q8 z0 r0 r1 hB
          generalize (((((w7.setCell ⟨B, 1, none⟩ (.int .i64 0)).setCell ⟨B, 2, none⟩ (.int .i64 0)).setCell ⟨B, 3, none⟩ (.string ⟨#[]⟩)).setCell ⟨B, 5, none⟩ (.int .i64 0)).setCell ⟨B, 6, none⟩ (.slice none 0 0)) = w9 at *
          obtain ⟨q0, q1, q2, q3, q4, q5, q6, q7, q8, z0⟩ := term_cells r0'
          obtain ⟨p0, p1, p2, p3, p4, p5, p6, p7, p8, z1⟩ := term_cells r1'
          go_wp2_with fail
          refine bodyPost_ret (results_row_tmp rfl _ _ _ (B + 1) _ _ _ _ rfl (set9 _ _ _ _ _ _ _ _ _ r1') Tryz.underlying28 (by kernel_rfl)) rfl ?_
          exact ⟨rfl, by rw [HBE.out]; exact below9 (Nat.le_succ _) hB' _ _ _ _ _ _ _ _ _⟩
        | true =>
          cases b3 with
          | false =>
            go_upto_region 3 with (go_at_call 204; first | ((with_reducible refine (h0 _).mono ?_); rintro e w1 ⟨rfl, rfl⟩) | ((with_reducible refine (h1 _).mono ?_); rintro e w1 ⟨rfl, rfl⟩) | ((with_reducible refine (h3 _).mono ?_); rintro e w1 ⟨rfl, rfl⟩))
            have r0' : (((((w7.setCell ⟨B, 1, none⟩ (.int .i64 0)).setCell ⟨B, 2, none⟩ (.int .i64 0)).setCell ⟨B, 3, none⟩ (.string ⟨#[]⟩)).setCell ⟨B, 5, none⟩ (.int .i64 0)).setCell ⟨B, 6, none⟩ (.slice none 0 0)).heap[B]? = some (.cells #[.int .i64 k, .int .i64 0, .int .i64 0, .string ⟨#[]⟩, .string f, .int .i64 0, .slice none 0 0, .string y, .int .i64 z] 28 (0, 0)) := (heap_setCell_same _ _ 6 _ _ (.slice none 0 0) (heap_setCell_same _ _ 5 _ _ (.int .i64 0) (heap_setCell_same _ _ 3 _ _ (.string ⟨#[]⟩) (heap_setCell_same _ _ 2 _ _ (.int .i64 0) (heap_setCell_same _ _ 1 _ _ (.int .i64 0) r0)))))
            have r1' : (((((w7.setCell ⟨B, 1, none⟩ (.int .i64 0)).setCell ⟨B, 2, none⟩ (.int .i64 0)).setCell ⟨B, 3, none⟩ (.string ⟨#[]⟩)).setCell ⟨B, 5, none⟩ (.int .i64 0)).setCell ⟨B, 6, none⟩ (.slice none 0 0)).heap[B + 1]? = some (.cells zeroRow 28 (0, 0)) := ((heap_setCell_other _ _ _ _ (by simp)).trans ((heap_setCell_other _ _ _ _ (by simp)).trans ((heap_setCell_other _ _ _ _ (by simp)).trans ((heap_setCell_other _ _ _ _ (by simp)).trans ((heap_setCell_other _ _ _ _ (by simp)).trans r1)))))
            have hB' : Below B w (((((w7.setCell ⟨B, 1, none⟩ (.int .i64 0)).setCell ⟨B, 2, none⟩ (.int .i64 0)).setCell ⟨B, 3, none⟩ (.string ⟨#[]⟩)).setCell ⟨B, 5, none⟩ (.int .i64 0)).setCell ⟨B, 6, none⟩ (.slice none 0 0)) := (((((hB.setCell (Nat.le_refl _) _).setCell (Nat.le_refl _) _).setCell (Nat.le_refl _) _).setCell (Nat.le_refl _) _).setCell (Nat.le_refl _) _)
            clear q0 q1 q2 q3 q4 q5 q6 q7 q8 z0 r0 r1 hB
            generalize (((((w7.setCell ⟨B, 1, none⟩ (.int .i64 0)).setCell ⟨B, 2, none⟩ (.int .i64 0)).setCell ⟨B, 3, none⟩ (.string ⟨#[]⟩)).setCell ⟨B, 5, none⟩ (.int .i64 0)).setCell ⟨B, 6, none⟩ (.slice none 0 0)) = w9 at *
            obtain ⟨q0, q1, q2, q3, q4, q5, q6, q7, q8, z0⟩ := term_cells r0'
            obtain ⟨p0, p1, p2, p3, p4, p5, p6, p7, p8, z1⟩ := term_cells r1'
            go_wp2_with fail
            refine bodyPost_ret (results_row_tmp rfl _ _ _ (B + 1) _ _ _ _ rfl (set9 _ _ _ _ _ _ _ _ _ r1') Tryz.underlying28 (by kernel_rfl)) rfl ?_
            exact ⟨rfl, by rw [HBE.out]; exact below9 (Nat.le_succ _) hB' _ _ _ _ _ _ _ _ _⟩
          | true =>
            go_upto_region 3 with (go_at_call 204; first | ((with_reducible refine (h0 _).mono ?_); rintro e w1 ⟨rfl, rfl⟩) | ((with_reducible refine (h1 _).mono ?_); rintro e w1 ⟨rfl, rfl⟩) | ((with_reducible refine (h3 _).mono ?_); rintro e w1 ⟨rfl, rfl⟩))
            have r0' : (((((w7.setCell ⟨B, 1, none⟩ (.int .i64 0)).setCell ⟨B, 2, none⟩ (.int .i64 0)).setCell ⟨B, 3, none⟩ (.string ⟨#[]⟩)).setCell ⟨B, 5, none⟩ (.int .i64 0)).setCell ⟨B, 6, none⟩ (.slice none 0 0)).heap[B]? = some (.cells #[.int .i64 k, .int .i64 0, .int .i64 0, .string ⟨#[]⟩, .string f, .int .i64 0, .slice none 0 0, .string y, .int .i64 z] 28 (0, 0)) := (heap_setCell_same _ _ 6 _ _ (.slice none 0 0) (heap_setCell_same _ _ 5 _ _ (.int .i64 0) (heap_setCell_same _ _ 3 _ _ (.string ⟨#[]⟩) (heap_setCell_same _ _ 2 _ _ (.int .i64 0) (heap_setCell_same _ _ 1 _ _ (.int .i64 0) r0)))))
            have r1' : (((((w7.setCell ⟨B, 1, none⟩ (.int .i64 0)).setCell ⟨B, 2, none⟩ (.int .i64 0)).setCell ⟨B, 3, none⟩ (.string ⟨#[]⟩)).setCell ⟨B, 5, none⟩ (.int .i64 0)).setCell ⟨B, 6, none⟩ (.slice none 0 0)).heap[B + 1]? = some (.cells zeroRow 28 (0, 0)) := ((heap_setCell_other _ _ _ _ (by simp)).trans ((heap_setCell_other _ _ _ _ (by simp)).trans ((heap_setCell_other _ _ _ _ (by simp)).trans ((heap_setCell_other _ _ _ _ (by simp)).trans ((heap_setCell_other _ _ _ _ (by simp)).trans r1)))))
            have hB' : Below B w (((((w7.setCell ⟨B, 1, none⟩ (.int .i64 0)).setCell ⟨B, 2, none⟩ (.int .i64 0)).setCell ⟨B, 3, none⟩ (.string ⟨#[]⟩)).setCell ⟨B, 5, none⟩ (.int .i64 0)).setCell ⟨B, 6, none⟩ (.slice none 0 0)) := (((((hB.setCell (Nat.le_refl _) _).setCell (Nat.le_refl _) _).setCell (Nat.le_refl _) _).setCell (Nat.le_refl _) _).setCell (Nat.le_refl _) _)
            clear q0 q1 q2 q3 q4 q5 q6 q7 q8 z0 r0 r1 hB
            generalize (((((w7.setCell ⟨B, 1, none⟩ (.int .i64 0)).setCell ⟨B, 2, none⟩ (.int .i64 0)).setCell ⟨B, 3, none⟩ (.string ⟨#[]⟩)).setCell ⟨B, 5, none⟩ (.int .i64 0)).setCell ⟨B, 6, none⟩ (.slice none 0 0)) = w9 at *
            obtain ⟨q0, q1, q2, q3, q4, q5, q6, q7, q8, z0⟩ := term_cells r0'
            obtain ⟨p0, p1, p2, p3, p4, p5, p6, p7, p8, z1⟩ := term_cells r1'
            go_wp2_with fail
            refine bodyPost_ret (results_row_tmp rfl _ _ _ (B + 1) _ _ _ _ rfl (set9 _ _ _ _ _ _ _ _ _ r1') Tryz.underlying28 (by kernel_rfl)) rfl ?_
            exact ⟨rfl, by rw [HBE.out]; exact below9 (Nat.le_succ _) hB' _ _ _ _ _ _ _ _ _⟩
end
end Go.Proofs.YthmpobimmbmddaaGreatDoor
namespace Go.Proofs.YthmpobimmbmddaaGreatDoor
open Go.RowKit
set_option linter.unusedVariables false
set_option linter.unusedSimpArgs false

theorem conv_nil (w : World) : (convert 50 9 (.slice none 0 0)).run Tryz.prog w = .ok (.string ⟨#[]⟩) w := by kernel_rfl
/-- Bytes that the call itself has made, as a string. -/
theorem conv_owned {w : World} {B : Nat} {bv : Value} {L : List UInt8} (h : w.ownsRow B 5 1 bv L.length (byteC L)) : (convert 50 9 bv).run Tryz.prog w = .ok (.string ⟨L.toArray⟩) w := by
  rcases h.2 with ⟨rfl, h0⟩ | ⟨g, cap, cur, rfl, _, hg, hc, _, hs, ht⟩
  · obtain rfl : L = [] := List.eq_nil_of_length_eq_zero h0
    exact conv_nil w
  · refine run_convert_bytes_back (P := Tryz.prog) w 50 9 5 ⟨g, 0, none⟩ cap L Tryz.underlying50 Tryz.underlying5 Tryz.underlying9 (fun j hj => ?_)
    have ha : (⟨g, 0, none⟩ : Addr).add j = ⟨g, j, none⟩ := by unfold Addr.add; split <;> simp_all
    rw [ha, cell_of_row _ _ _ _ _ _ hg]
    have h1 : (byteC L)[j]? = some (.int .u8 (L[j].toNat : Int)) := by unfold byteC; rw [List.getElem?_map, List.getElem?_eq_getElem hj]; rfl
    rw [← ht, List.getElem?_take_of_lt (by omega), Array.getElem?_toList] at h1
    exact h1
set_option maxRecDepth 100000 in
set_option maxHeartbeats 4000000 in
theorem bof_any (y : ByteArray) (hy : y.size ≤ 70368744177664) (w : World) : Calls Tryz.prog 49 #[.string y] w fun e w' => e = .returned (.agg #[.string y, .int .i64 (8 * y.size : Nat)]) ∧ Below w.heap.size w w' := by
  go_enter Tryz.func49, Tryz.ntmps49
  go_wp2_with fail
  refine bodyPost_ret (results_cell_row rfl _ _ w.heap.size _ _ _ _ rfl (heap_alloc_new _ _) Tryz.underlying56 rfl (by kernel_rfl)) rfl ?_
  exact ⟨by simp, (Below.refl _ _).alloc (Nat.le_refl _) _⟩
set_option maxRecDepth 100000 in
set_option maxHeartbeats 4000000 in
theorem done_any (B r : Nat) (l : List Bool) (w : World) (h : BwAt B r l w) : Calls Tryz.prog 56 #[.pointer (some ⟨r, 0, none⟩)] w fun e w' => e = .returned (.agg #[.string (bstr l), .int .i64 l.length]) ∧ Below B w w' := by
  have hB0 : Below w.heap.size w (w.alloc (.cells #[.string ⟨#[]⟩, .int .i64 0] 56)) := (Below.refl _ _).alloc (Nat.le_refl _) _
  have hRS := Lib.hid (heap_alloc_new w (.cells #[.string ⟨#[]⟩, .int .i64 0] 56))
  have hBw := h.2.1
  obtain ⟨hBr, hBw1, bv, hbk, hown, hne⟩ := h.below hB0
  have HB := Lib.hid (hB0.mono hBw)
  have HC := conv_owned hown
  have c0 := cell_of_row _ _ 0 _ _ _ hbk
  have c1 := cell_of_row _ _ 1 _ _ _ hbk
  have c2 := cell_of_row _ _ 2 _ _ _ hbk
  have kf0 := Lib.frozen_of_heap hbk 0
  obtain ⟨ao, cap, rfl⟩ := slice_of_owns hown
  generalize (packB l).length = PL at *
  generalize l.length = LN at *
  have hrw : r ≠ w.heap.size := by
    intro e; rw [e, hRS.out] at hbk; injection hbk with hbk; injection hbk with _ hbk _; exact absurd hbk (by decide)
  go_enter Tryz.func56, Tryz.ntmps56
  generalize hW : w.alloc (.cells #[.string ⟨#[]⟩, .int .i64 0] 56) = W at *
  have HS : Hid (∀ v, (W.setCell ⟨r, 0, none⟩ v).heap[w.heap.size]? = some (.cells #[.string ⟨#[]⟩, .int .i64 0] 56 (0, 0))) := Lib.hid (fun v => (Below.heap_setCell W ⟨r, 0, none⟩ v w.heap.size (fun e => hrw e.symm)).trans hRS.out)
  go_wp2_with (first | (refine wpList_store_row rfl 56 _ _ rfl w.heap.size _ rfl rfl 56 _ (HS.out _) (by kernel_rfl) rfl (by simp [Value.oneCell']) ?_) | fail)
  refine bodyPost_ret (results_cell_row rfl _ _ w.heap.size _ _ _ _ rfl (setRow_heap _ _ _ _ _ _ (HS.out _)) Tryz.underlying56 rfl (by kernel_rfl)) rfl ?_
  exact ⟨rfl, below_setRow (HB.out.setCell (p := ⟨r, 0, none⟩) hBr _) hBw _⟩
/-- The term of a bit string. -/
abbrev bitsV' (m : List Bool) : Value := .agg #[.int .i64 10, .int .i64 0, .int .i64 0, .string ⟨#[]⟩, .string ⟨#[]⟩, .int .i64 0, .slice none 0 0, .string (bstr m), .int .i64 m.length]
set_option maxRecDepth 100000 in
set_option maxHeartbeats 4000000 in
theorem bterm_any (m : List Bool) (hm : m.length ≤ 16384) (w : World) : Calls Tryz.prog 32 #[.agg #[.string (bstr m), .int .i64 m.length]] w fun e w' => e = .returned (bitsV' m) ∧ Below w.heap.size w w' := by
  have HV := fun wx => bvalid_any m (by omega) wx
  unfold bitsV'
  generalize bstr m = y at *
  generalize m.length = n at *
  have hB0 : Below w.heap.size w ((w.alloc (.cells #[.string y, .int .i64 n] 56)).alloc (.cells zRow9 28)) := ((Below.refl _ _).alloc (Nat.le_refl _) _).alloc (by simp) _
  have hR1 := two1 w (.cells #[.string y, .int .i64 n] 56) (.cells zRow9 28)
  have hR0 := two0 w (.cells #[.string y, .int .i64 n] 56) (.cells zRow9 28)
  have HR1 := Lib.hid hR1; have HB := Lib.hid hB0; have HR0 := Lib.hid hR0
  clear hR1 hR0 hB0
  go_enter Tryz.func32, Tryz.ntmps32
  generalize hW : (w.alloc (.cells #[.string y, .int .i64 n] 56)).alloc (.cells zRow9 28) = W at *
  have a0 := cell_of_row _ _ 0 _ _ _ HR0.out; have a1 := cell_of_row _ _ 1 _ _ _ HR0.out
  go_wp2_with (first | (go_at_call 54; refine (HV _).mono ?_; rintro e w1 ⟨rfl, hb1⟩; have hr0 := (hb1.block _ (lt_of_row HR0.out)).trans HR0.out; have c0 := cell_of_row _ _ 0 _ _ _ hr0; have c1 := cell_of_row _ _ 1 _ _ _ hr0; have hr1 := (hb1.block _ (lt_of_row HR1.out)).trans HR1.out) | (refine wpList_store_row rfl 28 _ _ rfl (w.heap.size + 1) _ rfl rfl 28 _ hr1 (by kernel_rfl) rfl (by simp [Value.oneCell']) ?_) | fail)
  refine bodyPost_ret (results_cell_row rfl _ _ (w.heap.size + 1) _ _ _ _ rfl (setRow_heap _ _ _ _ _ _ hr1) Tryz.underlying28 rfl (by kernel_rfl)) rfl ?_
  exact ⟨rfl, below_setRow (HB.out.trans (hb1.mono HB.out.size)) (by omega) _⟩
end Go.Proofs.YthmpobimmbmddaaGreatDoor
