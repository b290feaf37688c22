/-
  The reader of a file: take, number, chunk: what they compute.
-/
import Derived.Test.YteleaiodkljigaaDoorFPut
import Derived.Deep.QuietTactic
import Derived.BigQuiet
import Derived.Laws.ResultCell
namespace Go.Proofs.YteleaiodkljigaaDoor
open Go.RowKit Go.Shelf Go.Lib
set_option linter.unusedVariables false

/-- The reader's block: what is left, and the list. -/
def RdAt (r : Nat) (rest : List UInt8) (lv : Value) (w : World) : Prop := w.heap[r]? = some (.cells #[.string ⟨rest.toArray⟩, lv] 57 (0, 0))
theorem RdAt.lt {r : Nat} {rest : List UInt8} {lv : Value} {w : World} (h : RdAt r rest lv w) : r < w.heap.size := (Array.getElem?_eq_some_iff.1 h).1
theorem RdAt.c0 {r : Nat} {rest : List UInt8} {lv : Value} {w : World} (h : RdAt r rest lv w) : w.cell? ⟨r, 0, none⟩ = some (.string ⟨rest.toArray⟩) := by rw [cell_of_row _ _ _ _ _ _ h]; rfl
theorem RdAt.c1 {r : Nat} {rest : List UInt8} {lv : Value} {w : World} (h : RdAt r rest lv w) : w.cell? ⟨r, 1, none⟩ = some lv := by rw [cell_of_row _ _ _ _ _ _ h]; rfl
theorem RdAt.f0 {r : Nat} {rest : List UInt8} {lv : Value} {w : World} (h : RdAt r rest lv w) : w.frozen? ⟨r, 0, none⟩ = false := Lib.frozen_of_heap h 0
theorem RdAt.f1 {r : Nat} {rest : List UInt8} {lv : Value} {w : World} (h : RdAt r rest lv w) : w.frozen? ⟨r, 1, none⟩ = false := Lib.frozen_of_heap h 1
theorem RdAt.below {r : Nat} {rest : List UInt8} {lv : Value} {w w' : World} (h : RdAt r rest lv w) (hb : Below w.heap.size w w') : RdAt r rest lv w' := (hb.block r h.lt).trans h
theorem RdAt.set0 {r : Nat} {rest : List UInt8} {lv : Value} {w : World} (h : RdAt r rest lv w) (l : List UInt8) : RdAt r l lv (w.setCell ⟨r, 0, none⟩ (.string ⟨l.toArray⟩)) := by
  unfold RdAt at *
  simp [World.setCell, h, Array.getElem?_modify]
theorem RdAt.set1 {r : Nat} {rest : List UInt8} {lv : Value} {w : World} (h : RdAt r rest lv w) (v : Value) : RdAt r rest v (w.setCell ⟨r, 1, none⟩ v) := by
  unfold RdAt at *
  simp [World.setCell, h, Array.getElem?_modify]
theorem ext_take (l : List UInt8) (n : Nat) : (⟨l.toArray⟩ : ByteArray).extract 0 n = ⟨(l.take n).toArray⟩ := by
  apply ByteArray.ext
  rw [ByteArray.data_extract]
  simp
theorem ext_drop (l : List UInt8) (n m : Nat) (h : l.length = m) : (⟨l.toArray⟩ : ByteArray).extract n m = ⟨(l.drop n).toArray⟩ := by
  apply ByteArray.ext
  rw [ByteArray.data_extract]
  simp [← h]
  exact List.take_of_length_le (by simp)
theorem grownBy_set (w : World) (r o : Nat) (v : Value) : w.grownBy (w.setCell ⟨r, o, none⟩ v) (some r) :=
  ⟨rfl, rfl, rfl, by simp [World.setCell], fun k _ hk => Below.heap_setCell _ _ _ _ (fun e => hk (by rw [e]))⟩
theorem grownBy_refl (w : World) (o : Option Nat) : w.grownBy w o := ⟨rfl, rfl, rfl, Nat.le_refl _, fun _ _ _ => rfl⟩
theorem grownBy_trans {a b c : World} {o : Option Nat} (h : a.grownBy b o) (h' : b.grownBy c o) : a.grownBy c o :=
  ⟨h'.os.trans h.os, h'.tape.trans h.tape, h'.output.trans h.output, Nat.le_trans h.size h'.size, fun k hk hn => (h'.block k (Nat.lt_of_lt_of_le hk h.size) hn).trans (h.block k hk hn)⟩
theorem grownBy_drewN {a b : World} {o : Option Nat} (h : a.grownBy b o) (n : Nat) : a.grownBy (b.drewN n) o := ⟨h.os, h.tape, h.output, h.size, h.block⟩
theorem grownBy_drew {a b : World} {o : Option Nat} (h : a.grownBy b o) : a.grownBy b.drew o := ⟨h.os, h.tape, h.output, h.size, h.block⟩
theorem grownBy_below {a b : World} (h : Below a.heap.size a b) (o : Option Nat) : a.grownBy b o := ⟨h.os, h.tape, h.output, h.size, fun k hk _ => h.block k hk⟩
theorem row_set {w : World} {C i : Nat} {cs : Array Value} {t : TypeId} {fr : Nat × Nat} (h : w.heap[C]? = some (.cells cs t fr)) (v : Value) : (w.setCell ⟨C, i, none⟩ v).heap[C]? = some (.cells (cs.setIfInBounds i v) t fr) := by
  simp [World.setCell, h, Array.getElem?_modify]
theorem results_row_tmp {fn : Func} {p u : Tmp} {ty : TypeId} (h : fn.results = #[.cell p ty, .tmp u]) (tmps : Array Value) (P : Program) (w : World) (g : Nat) (t : TypeId) (cs : Array Value) (fr : Nat × Nat) (fs : Array Field)
    (hp : tmps.getD p undef = .pointer (some ⟨g, 0, none⟩)) (hg : w.heap[g]? = some (.cells cs t fr))
    (hu : P.underlying ty = some (.struct fs)) (hi : (P.info? ty).map (·.size) = some cs.size) :
    (results fn tmps).run P w = .ok (.tuple #[.agg cs, tmps.getD u undef]) w := by
  have hl := run_loadVar_row w g t ty cs fr (.struct fs) hg hu rfl hi
  rw [results_cell_tmp h, hp]
  simp [asAddr, hl, Result.andThen]
theorem grownBy_set2 {a b : World} {r C o : Nat} (h : a.grownBy b (some r)) (hC : a.heap.size ≤ C) (v : Value) : a.grownBy (b.setCell ⟨C, o, none⟩ v) (some r) :=
  ⟨h.os, h.tape, h.output, by simp [World.setCell]; exact h.size, fun k hk hn => (Below.heap_setCell _ _ _ _ (by show k ≠ C; omega)).trans (h.block k hk hn)⟩
theorem lt_of_row {w : World} {C : Nat} {o : Obj} (h : w.heap[C]? = some o) : C < w.heap.size := (Array.getElem?_eq_some_iff.1 h).1
theorem rd_set2 {r C o : Nat} {l : List UInt8} {lv : Value} {w : World} (h : RdAt r l lv w) (hC : C ≠ r) (v : Value) : RdAt r l lv (w.setCell ⟨C, o, none⟩ v) := (Below.heap_setCell _ _ _ _ (by show r ≠ C; omega)).trans h
theorem tup2 {a b : Value} {a' b' : Value} (h : a = a') (h' : b = b') : Ending.returned (.tuple #[a, b]) = .returned (.tuple #[a', b']) := by rw [h, h']

set_option maxHeartbeats 2000000 in
set_option maxRecDepth 100000 in
theorem take_yes (r : Nat) (rest : List UInt8) (lv : Value) (n : Int) (m : Nat) (hn : n = m) (w : World) (h : RdAt r rest lv w) (hm : m ≤ rest.length) (hz : rest.length ≤ 9223372036854775807) :
    Calls Tryd.prog 29 #[.pointer (some ⟨r, 0, none⟩), .int .i64 n] w fun e w' => e = .returned (.tuple #[.string ⟨(rest.take m).toArray⟩, .bool true]) ∧ RdAt r (rest.drop m) lv w' ∧ w.grownBy w' (some r) := by
  subst hn
  have c0 := h.c0
  have f0 := h.f0
  have hs : (⟨rest.toArray⟩ : ByteArray).size = rest.length := by show rest.toArray.size = _; simp
  have hmi : (m : Int) ≤ rest.length := by omega
  go_enter Tryd.func29, Tryd.ntmps29
  go_wp2
  go_ret2
  refine ⟨tup2 (congrArg Value.string (ext_take _ _)) rfl, ?_, grownBy_set _ _ _ _⟩
  rw [ext_drop _ _ _ rfl]
  exact h.set0 _

set_option maxHeartbeats 2000000 in
set_option maxRecDepth 100000 in
theorem take_no (r : Nat) (rest : List UInt8) (lv : Value) (n : Int) (m : Nat) (hn : n = m) (w : World) (h : RdAt r rest lv w) (hm : rest.length < m) (hz : rest.length ≤ 9223372036854775807) :
    Calls Tryd.prog 29 #[.pointer (some ⟨r, 0, none⟩), .int .i64 n] w fun e w' => e = .returned (.tuple #[.string ⟨#[]⟩, .bool false]) ∧ w' = w := by
  subst hn
  have c0 := h.c0
  have f0 := h.f0
  have hs : (⟨rest.toArray⟩ : ByteArray).size = rest.length := by show rest.toArray.size = _; simp
  have hmi : ¬ (m : Int) ≤ rest.length := by omega
  go_enter Tryd.func29, Tryd.ntmps29
  go_wp2
  go_ret2
  exact ⟨rfl, rfl⟩

theorem take_w (r : Nat) (rest : List UInt8) (lv : Value) (n : Int) (m : Nat) (hn : n = m) (w : World) (h : RdAt r rest lv w) (hz : rest.length ≤ 9223372036854775807) :
    Calls Tryd.prog 29 #[.pointer (some ⟨r, 0, none⟩), .int .i64 n] w fun e w' => ∃ s bb, e = .returned (.tuple #[.string s, .bool bb]) ∧ w.grownBy w' (some r) := by
  by_cases hm : m ≤ rest.length
  · refine (take_yes r rest lv n m hn w h hm hz).mono ?_
    rintro e w1 ⟨rfl, _, hg⟩
    exact ⟨_, _, rfl, hg⟩
  · refine (take_no r rest lv n m hn w h (by omega) hz).mono ?_
    rintro e w1 ⟨rfl, rfl⟩
    exact ⟨_, _, rfl, grownBy_refl _ _⟩

theorem or_i64 (a b : Nat) (ha : a < 9223372036854775808) (hb : b < 9223372036854775808) : bits .or .i64 (a : Int) (b : Int) = ((a ||| b : Nat) : Int) := by
  have hx : a ||| b < 2 ^ 63 := Nat.or_lt_two_pow (by omega) (by omega)
  have h1 : (BitVec.ofInt 64 (a : Int)).toNat = a := by
    rw [BitVec.ofInt_natCast, BitVec.toNat_ofNat]; exact Nat.mod_eq_of_lt (by omega)
  have h2 : (BitVec.ofInt 64 (b : Int)).toNat = b := by
    rw [BitVec.ofInt_natCast, BitVec.toNat_ofNat]; exact Nat.mod_eq_of_lt (by omega)
  show IntKind.i64.wrap ((BitVec.ofInt 64 (a : Int) ||| BitVec.ofInt 64 (b : Int)).toNat : Int) = _
  rw [BitVec.toNat_or, h1, h2, IntKind.wrap_i64]
  omega
theorem or_four (a b c d : Nat) (ha : a < 256) (hb : b < 256) (hc : c < 256) (hd : d < 256) : ((a * 16777216 ||| b * 65536) ||| c * 256) ||| d = a * 16777216 + b * 65536 + c * 256 + d := by
  have e1 := Nat.two_pow_add_eq_or_of_lt (i := 24) (b := b * 65536) (by omega) a
  have e2 := Nat.two_pow_add_eq_or_of_lt (i := 16) (b := c * 256) (by omega) (a * 256 + b)
  have e3 := Nat.two_pow_add_eq_or_of_lt (i := 8) (b := d) (by omega) (a * 65536 + b * 256 + c)
  have f1 : 2 ^ 24 * a = a * 16777216 := by omega
  have f2 : 2 ^ 16 * (a * 256 + b) = a * 16777216 + b * 65536 := by omega
  have f3 : 2 ^ 8 * (a * 65536 + b * 256 + c) = a * 16777216 + b * 65536 + c * 256 := by omega
  rw [f1] at e1; rw [f2] at e2; rw [f3] at e3
  rw [← e1, ← e2, ← e3]
theorem or_bytes (a b c d : UInt8) : bits .or .i64 (bits .or .i64 (bits .or .i64 (wrap64 (wrap64 (a.toNat : Int) * 16777216)) (wrap64 (wrap64 (b.toNat : Int) * 65536))) (wrap64 (wrap64 (c.toNat : Int) * 256))) (wrap64 (d.toNat : Int)) = ((num4 [a, b, c, d] : Nat) : Int) := by
  have ha := a.toNat_lt; have hb := b.toNat_lt; have hc := c.toNat_lt; have hd := d.toNat_lt
  have e1 : wrap64 (wrap64 (a.toNat : Int) * 16777216) = ((a.toNat * 16777216 : Nat) : Int) := by unfold wrap64; omega
  have e2 : wrap64 (wrap64 (b.toNat : Int) * 65536) = ((b.toNat * 65536 : Nat) : Int) := by unfold wrap64; omega
  have e3 : wrap64 (wrap64 (c.toNat : Int) * 256) = ((c.toNat * 256 : Nat) : Int) := by unfold wrap64; omega
  have e4 : wrap64 (d.toNat : Int) = ((d.toNat : Nat) : Int) := by unfold wrap64; omega
  have g1 : a.toNat * 16777216 ||| b.toNat * 65536 < 2 ^ 32 := Nat.or_lt_two_pow (by omega) (by omega)
  have g2 : (a.toNat * 16777216 ||| b.toNat * 65536) ||| c.toNat * 256 < 2 ^ 32 := Nat.or_lt_two_pow g1 (by omega)
  rw [e1, e2, e3, e4, or_i64 _ _ (by omega) (by omega), or_i64 _ _ (by omega) (by omega), or_i64 _ _ (by omega) (by omega), or_four _ _ _ _ (by omega) (by omega) (by omega) (by omega)]
  rfl

set_option maxHeartbeats 2000000 in
set_option maxRecDepth 100000 in
theorem numr_yes (r : Nat) (rest : List UInt8) (lv : Value) (w : World) (h : RdAt r rest lv w) (hm : 4 ≤ rest.length) (hz : rest.length ≤ 9223372036854775807) :
    Calls Tryd.prog 30 #[.pointer (some ⟨r, 0, none⟩)] w fun e w' => e = .returned (.tuple #[.int .i64 (num4 (rest.take 4) : Nat), .bool true]) ∧ RdAt r (rest.drop 4) lv w' ∧ w.grownBy w' (some r) := by
  obtain ⟨a, b, c, d, h4⟩ := len4 (l := rest.take 4) (by rw [List.length_take]; omega)
  have ht : ∀ wx, RdAt r rest lv wx → Calls Tryd.prog 29 #[.pointer (some ⟨r, 0, none⟩), .int .i64 4] wx fun e w' => e = .returned (.tuple #[.string ⟨#[a, b, c, d]⟩, .bool true]) ∧ RdAt r (rest.drop 4) lv w' ∧ wx.grownBy w' (some r) := fun wx hx => by
    have := take_yes r rest lv 4 4 rfl wx hx hm hz
    rw [h4] at this; exact this
  rw [h4]
  have i0 : ∀ wx, (Instr.index 9 (.string ⟨#[a, b, c, d]⟩) (.int .i64 0)).run Tryd.prog wx = .ok (.int .u8 a.toNat) wx := fun wx => by rw [run_index_string (h := by kernel_rfl)]; rfl
  have i1 : ∀ wx, (Instr.index 9 (.string ⟨#[a, b, c, d]⟩) (.int .i64 1)).run Tryd.prog wx = .ok (.int .u8 b.toNat) wx := fun wx => by rw [run_index_string (h := by kernel_rfl)]; rfl
  have i2 : ∀ wx, (Instr.index 9 (.string ⟨#[a, b, c, d]⟩) (.int .i64 2)).run Tryd.prog wx = .ok (.int .u8 c.toNat) wx := fun wx => by rw [run_index_string (h := by kernel_rfl)]; rfl
  have i3 : ∀ wx, (Instr.index 9 (.string ⟨#[a, b, c, d]⟩) (.int .i64 3)).run Tryd.prog wx = .ok (.int .u8 d.toNat) wx := fun wx => by rw [run_index_string (h := by kernel_rfl)]; rfl
  go_enter Tryd.func30, Tryd.ntmps30
  go_wp2_with (go_at_call 29; refine (ht _ h).mono ?_; rintro e w1 ⟨rfl, h1, hg1⟩)
  go_quiet (fail)
  go_wp2
  go_ret2
  exact ⟨tup2 (congrArg (Value.int .i64) (or_bytes a b c d)) rfl, h1, grownBy_drewN hg1 _⟩

set_option maxHeartbeats 2000000 in
set_option maxRecDepth 100000 in
theorem numr_no (r : Nat) (rest : List UInt8) (lv : Value) (w : World) (h : RdAt r rest lv w) (hm : rest.length < 4) :
    Calls Tryd.prog 30 #[.pointer (some ⟨r, 0, none⟩)] w fun e w' => e = .returned (.tuple #[.int .i64 0, .bool false]) ∧ w' = w := by
  go_enter Tryd.func30, Tryd.ntmps30
  go_wp2_with (go_at_call 29; refine (take_no r rest lv 4 4 rfl _ h hm (by omega)).mono ?_; rintro e w1 ⟨rfl, rfl⟩)
  go_ret2
  exact ⟨rfl, rfl⟩

theorem dropWhile_all (l : List UInt8) : (l.dropWhile (· == 0) = []) ↔ l.all (· == 0) = true := by
  induction l with
  | nil => simp
  | cons a l ih =>
    rw [List.dropWhile_cons]
    split
    · rename_i h; rw [ih]; simp only [List.all_cons, h, Bool.true_and]
    · rename_i h; simp [h]

theorem isEmpty_no {t : ByteArray} (h : t ≠ ⟨#[]⟩) : t.toList.isEmpty = false := by
  rw [ByteArray.toList_eq]
  cases hl : t.data.toList with
  | nil => exact absurd (ByteArray.ext (by simpa using hl)) h
  | cons a l => rfl
theorem all_dropWhile (l : List UInt8) : (l.dropWhile (· == 0)).all (· == 0) = l.all (· == 0) := by
  induction l with
  | nil => rfl
  | cons a l ih =>
    rw [List.dropWhile_cons]
    split
    · rename_i h; rw [ih]; simp only [List.all_cons, h, Bool.true_and]
    · rfl
theorem trim_all (l : List UInt8) : Lib.trimB l 0 = [] ↔ l.all (· == 0) = true := by
  unfold Lib.trimB Lib.trimLeftB Lib.trimRightB
  rw [dropWhile_all, List.all_reverse, all_dropWhile, List.all_reverse]

set_option maxHeartbeats 2000000 in
set_option maxRecDepth 100000 in
theorem chunk_short (r : Nat) (rest : List UInt8) (lv : Value) (w : World) (h : RdAt r rest lv w) (hm : rest.length < 8) :
    Calls Tryd.prog 32 #[.pointer (some ⟨r, 0, none⟩)] w fun e w' => (∃ x y, e = .returned (.tuple #[.agg #[.string x, .string y], .bool false])) ∧ w.grownBy w' (some r) := by
  by_cases h4 : rest.length < 4
  · go_enter Tryd.func32, Tryd.ntmps32
    go_wp2_with fail
    have hA : RdAt r rest lv (w.alloc (.cells #[.string ⟨#[]⟩, .string ⟨#[]⟩] 41)) := h.below ((Below.refl _ _).alloc (Nat.le_refl _) _)
    have hG : w.grownBy (w.alloc (.cells #[.string ⟨#[]⟩, .string ⟨#[]⟩] 41)) (some r) := grownBy_below ((Below.refl _ _).alloc (Nat.le_refl _) _) _
    have hC : (w.alloc (.cells #[.string ⟨#[]⟩, .string ⟨#[]⟩] 41)).heap[w.heap.size]? = some (.cells #[.string ⟨#[]⟩, .string ⟨#[]⟩] 41 (0, 0)) := heap_alloc_new _ _
    have hCr : w.heap.size ≠ r := fun e => absurd h.lt (by rw [e]; exact Nat.lt_irrefl _)
    generalize w.alloc (.cells #[.string ⟨#[]⟩, .string ⟨#[]⟩] 41) = wa at *
    have hCw : w.heap.size ≤ w.heap.size := Nat.le_refl _
    generalize hCC : w.heap.size = C at hC hCr hCw ⊢
    have c0 : wa.cell? ⟨C, 0, none⟩ = some (.string ⟨#[]⟩) := by rw [cell_of_row _ _ _ _ _ _ hC]; rfl
    have c1 : wa.cell? ⟨C, 1, none⟩ = some (.string ⟨#[]⟩) := by rw [cell_of_row _ _ _ _ _ _ hC]; rfl
    have f0 : wa.frozen? ⟨C, 0, none⟩ = false := Lib.frozen_of_heap hC 0
    have f1 : wa.frozen? ⟨C, 1, none⟩ = false := Lib.frozen_of_heap hC 1
    refine (take_no r rest lv 4 4 rfl _ hA h4 (by omega)).mono ?_
    rintro e w1 ⟨rfl, rfl⟩
    go_wp2_with (go_at_call 30; refine (numr_no r rest lv _ hA h4).mono ?_; rintro e w1 ⟨rfl, rfl⟩)
    have hC2 := row_set (i := 1) (row_set (i := 0) hC (.string ⟨#[]⟩)) (.string ⟨#[]⟩)
    refine bodyPost_ret (results_row_tmp rfl _ _ _ C _ _ _ _ rfl hC2 Tryd.underlying41 (by kernel_rfl)) rfl ?_
    exact ⟨⟨_, _, rfl⟩, grownBy_set2 (grownBy_set2 hG (by omega) _) (by omega) _⟩
  · have h4' : (rest.drop 4).length < 4 := by rw [List.length_drop]; omega
    go_enter Tryd.func32, Tryd.ntmps32
    go_wp2_with fail
    have hA : RdAt r rest lv (w.alloc (.cells #[.string ⟨#[]⟩, .string ⟨#[]⟩] 41)) := h.below ((Below.refl _ _).alloc (Nat.le_refl _) _)
    have hG : w.grownBy (w.alloc (.cells #[.string ⟨#[]⟩, .string ⟨#[]⟩] 41)) (some r) := grownBy_below ((Below.refl _ _).alloc (Nat.le_refl _) _) _
    have hC : (w.alloc (.cells #[.string ⟨#[]⟩, .string ⟨#[]⟩] 41)).heap[w.heap.size]? = some (.cells #[.string ⟨#[]⟩, .string ⟨#[]⟩] 41 (0, 0)) := heap_alloc_new _ _
    have hCr : w.heap.size ≠ r := fun e => absurd h.lt (by rw [e]; exact Nat.lt_irrefl _)
    generalize w.alloc (.cells #[.string ⟨#[]⟩, .string ⟨#[]⟩] 41) = wa at *
    have hCw : w.heap.size ≤ w.heap.size := Nat.le_refl _
    generalize hCC : w.heap.size = C at hC hCr hCw ⊢
    refine (take_yes r rest lv 4 4 rfl _ hA (by omega) (by omega)).mono ?_
    rintro e w1 ⟨rfl, h1, hg1⟩
    replace hG := grownBy_trans hG hg1
    replace hC := (hg1.block C (lt_of_row hC) (fun e => hCr (Option.some.inj e))).trans hC
    have c0 : w1.cell? ⟨C, 0, none⟩ = some (.string ⟨#[]⟩) := by rw [cell_of_row _ _ _ _ _ _ hC]; rfl
    have c1 : w1.cell? ⟨C, 1, none⟩ = some (.string ⟨#[]⟩) := by rw [cell_of_row _ _ _ _ _ _ hC]; rfl
    have f0 : w1.frozen? ⟨C, 0, none⟩ = false := Lib.frozen_of_heap hC 0
    have f1 : w1.frozen? ⟨C, 1, none⟩ = false := Lib.frozen_of_heap hC 1
    clear hg1
    go_wp2_with (go_at_call 30; refine (numr_no r _ lv _ h1 h4').mono ?_; rintro e w2 ⟨rfl, rfl⟩)
    have hC2 := row_set (i := 1) (row_set (i := 0) hC (.string ⟨#[]⟩)) (.string ⟨#[]⟩)
    refine bodyPost_ret (results_row_tmp rfl _ _ _ C _ _ _ _ rfl hC2 Tryd.underlying41 (by kernel_rfl)) rfl ?_
    exact ⟨⟨_, _, rfl⟩, grownBy_set2 (grownBy_set2 hG (by omega) _) (by omega) _⟩

set_option maxHeartbeats 2000000 in
set_option maxRecDepth 100000 in
theorem chunk_long (r : Nat) (rest : List UInt8) (lv : Value) (w : World) (h : RdAt r rest lv w) (hm : 8 ≤ rest.length) (hz : rest.length ≤ 9223372036854775807) (n : Nat) (hn : n = num4 ((rest.drop 4).take 4)) (hlt : rest.length < 8 + pad4 n) :
    Calls Tryd.prog 32 #[.pointer (some ⟨r, 0, none⟩)] w fun e w' => (∃ x y, e = .returned (.tuple #[.agg #[.string x, .string y], .bool false])) ∧ w.grownBy w' (some r) := by
  have hnl : n < 4294967296 := by rw [hn]; exact num4_lt _
  have hp1 := (pad4_le n).1
  have hp2 := (pad4_le n).2
  have hpe : (((n : Int) + 3) / 4 * 4) = (pad4 n : Int) := by unfold pad4; omega
  have hpad : ∀ wx, Calls Tryd.prog 21 #[.int .i64 n] wx fun e w' => e = .returned (.int .i64 (pad4 n : Int)) ∧ wx = w' := fun wx => by
    have := padded_any n wx (by omega) (by omega)
    rw [hpe] at this; exact this
  clear hpe
  have hl4 : (rest.drop 4).length = rest.length - 4 := List.length_drop
  have hl8 : ((rest.drop 4).drop 4).length = rest.length - 8 := by rw [List.length_drop, List.length_drop]; omega
  have hnum : ∀ wx, RdAt r (rest.drop 4) lv wx → Calls Tryd.prog 30 #[.pointer (some ⟨r, 0, none⟩)] wx fun e w' => e = .returned (.tuple #[.int .i64 n, .bool true]) ∧ RdAt r ((rest.drop 4).drop 4) lv w' ∧ wx.grownBy w' (some r) := fun wx hx => by
    have := numr_yes r _ lv wx hx (by omega) (by omega)
    rw [← hn] at this; exact this
  have hl9 : (((rest.drop 4).drop 4).drop n).length = rest.length - 8 - n := by rw [List.length_drop, hl8]
  generalize hP : pad4 n = P at *
  clear hn hP
  go_enter Tryd.func32, Tryd.ntmps32
  go_wp2_with fail
  have hA : RdAt r rest lv (w.alloc (.cells #[.string ⟨#[]⟩, .string ⟨#[]⟩] 41)) := h.below ((Below.refl _ _).alloc (Nat.le_refl _) _)
  have hG : w.grownBy (w.alloc (.cells #[.string ⟨#[]⟩, .string ⟨#[]⟩] 41)) (some r) := grownBy_below ((Below.refl _ _).alloc (Nat.le_refl _) _) _
  have hC : (w.alloc (.cells #[.string ⟨#[]⟩, .string ⟨#[]⟩] 41)).heap[w.heap.size]? = some (.cells #[.string ⟨#[]⟩, .string ⟨#[]⟩] 41 (0, 0)) := heap_alloc_new _ _
  have hCr : w.heap.size ≠ r := fun e => absurd h.lt (by rw [e]; exact Nat.lt_irrefl _)
  generalize w.alloc (.cells #[.string ⟨#[]⟩, .string ⟨#[]⟩] 41) = wa at *
  have hCw : w.heap.size ≤ w.heap.size := Nat.le_refl _
  generalize hCC : w.heap.size = C at hC hCr hCw ⊢
  refine (take_yes r rest lv 4 4 rfl _ hA (by omega) (by omega)).mono ?_
  rintro e w1 ⟨rfl, h1, hg1⟩
  replace hG := grownBy_trans hG hg1
  replace hC := (hg1.block C (lt_of_row hC) (fun e => hCr (Option.some.inj e))).trans hC
  go_wp2_with fail
  refine (hnum _ h1).mono ?_
  rintro e w2 ⟨rfl, h2, hg2⟩
  replace hG := grownBy_trans hG hg2
  replace hC := (hg2.block C (lt_of_row hC) (fun e => hCr (Option.some.inj e))).trans hC
  clear hg1 hg2 h1 hA hnum hl4 h
  generalize (rest.drop 4).drop 4 = D at *
  generalize rest.take 4 = nm at *
  by_cases hd : rest.length - 8 < n
  · go_wp2_with fail
    refine (take_no r _ lv _ n rfl _ h2 (by omega) (by omega)).mono ?_
    rintro e w3 ⟨rfl, rfl⟩
    go_wp2_with (go_at_call 21; refine (hpad _).mono ?_; rintro e w4 ⟨rfl, rfl⟩)
    refine (take_w r D lv _ (P - n) (by omega) _ h2 (by omega)).mono ?_
    rintro e w4 ⟨s, bb, rfl, hg4⟩
    replace hG := grownBy_trans hG hg4
    replace hC := (hg4.block C (lt_of_row hC) (fun e => hCr (Option.some.inj e))).trans hC
    clear hg4 h2
    have c0 : w4.cell? ⟨C, 0, none⟩ = some (.string ⟨#[]⟩) := by rw [cell_of_row _ _ _ _ _ _ hC]; rfl
    have c1 : w4.cell? ⟨C, 1, none⟩ = some (.string ⟨#[]⟩) := by rw [cell_of_row _ _ _ _ _ _ hC]; rfl
    have f0 : w4.frozen? ⟨C, 0, none⟩ = false := Lib.frozen_of_heap hC 0
    have f1 : w4.frozen? ⟨C, 1, none⟩ = false := Lib.frozen_of_heap hC 1
    go_wp2_with fail
    have hC2 := row_set (i := 1) (row_set (i := 0) hC (.string ⟨nm.toArray⟩)) (.string ⟨#[]⟩)
    refine bodyPost_ret (results_row_tmp rfl _ _ _ C _ _ _ _ rfl hC2 Tryd.underlying41 (by kernel_rfl)) rfl ?_
    exact ⟨⟨_, _, rfl⟩, grownBy_set2 (grownBy_set2 hG (by omega) _) (by omega) _⟩
  · go_wp2_with fail
    refine (take_yes r _ lv _ n rfl _ h2 (by omega) (by omega)).mono ?_
    rintro e w3 ⟨rfl, h3, hg3⟩
    replace hG := grownBy_trans hG hg3
    replace hC := (hg3.block C (lt_of_row hC) (fun e => hCr (Option.some.inj e))).trans hC
    clear hg3 h2
    go_wp2_with (go_at_call 21; refine (hpad _).mono ?_; rintro e w4 ⟨rfl, rfl⟩)
    refine (take_no r _ lv _ (P - n) (by omega) _ h3 (by omega) (by omega)).mono ?_
    rintro e w4 ⟨rfl, rfl⟩
    have c0 : w4.cell? ⟨C, 0, none⟩ = some (.string ⟨#[]⟩) := by rw [cell_of_row _ _ _ _ _ _ hC]; rfl
    have c1 : w4.cell? ⟨C, 1, none⟩ = some (.string ⟨#[]⟩) := by rw [cell_of_row _ _ _ _ _ _ hC]; rfl
    have f0 : w4.frozen? ⟨C, 0, none⟩ = false := Lib.frozen_of_heap hC 0
    have f1 : w4.frozen? ⟨C, 1, none⟩ = false := Lib.frozen_of_heap hC 1
    go_wp2_with fail
    have hC2 := row_set (i := 1) (row_set (i := 0) hC (.string ⟨nm.toArray⟩)) (.string ⟨(D.take n).toArray⟩)
    refine bodyPost_ret (results_row_tmp rfl _ _ _ C _ _ _ _ rfl hC2 Tryd.underlying41 (by kernel_rfl)) rfl ?_
    exact ⟨⟨_, _, rfl⟩, grownBy_set2 (grownBy_set2 hG (by omega) _) (by omega) _⟩

set_option maxHeartbeats 2000000 in
set_option maxRecDepth 100000 in
theorem chunk_full (r : Nat) (rest : List UInt8) (lv : Value) (w : World) (h : RdAt r rest lv w) (hm : 8 ≤ rest.length) (hz : rest.length ≤ 9223372036854775807) (n : Nat) (hn : n = num4 ((rest.drop 4).take 4)) (hlt : 8 + pad4 n ≤ rest.length) :
    Calls Tryd.prog 32 #[.pointer (some ⟨r, 0, none⟩)] w fun e w' => e = .returned (.tuple #[.agg #[.string ⟨(rest.take 4).toArray⟩, .string ⟨((rest.drop 8).take n).toArray⟩], .bool (((rest.drop (8 + n)).take (pad4 n - n)).all (· == 0))]) ∧ RdAt r (rest.drop (8 + pad4 n)) lv w' ∧ w.grownBy w' (some r) := by
  have hnl : n < 4294967296 := by rw [hn]; exact num4_lt _
  have hp1 := (pad4_le n).1
  have hp2 := (pad4_le n).2
  have hpe : (((n : Int) + 3) / 4 * 4) = (pad4 n : Int) := by unfold pad4; omega
  have hpad : ∀ wx, Calls Tryd.prog 21 #[.int .i64 n] wx fun e w' => e = .returned (.int .i64 (pad4 n : Int)) ∧ wx = w' := fun wx => by
    have := padded_any n wx (by omega) (by omega)
    rw [hpe] at this; exact this
  clear hpe
  have hl4 : (rest.drop 4).length = rest.length - 4 := List.length_drop
  have hl8 : ((rest.drop 4).drop 4).length = rest.length - 8 := by rw [List.length_drop, List.length_drop]; omega
  have hnum : ∀ wx, RdAt r (rest.drop 4) lv wx → Calls Tryd.prog 30 #[.pointer (some ⟨r, 0, none⟩)] wx fun e w' => e = .returned (.tuple #[.int .i64 n, .bool true]) ∧ RdAt r ((rest.drop 4).drop 4) lv w' ∧ wx.grownBy w' (some r) := fun wx hx => by
    have := numr_yes r _ lv wx hx (by omega) (by omega)
    rw [← hn] at this; exact this
  have hl9 : (((rest.drop 4).drop 4).drop n).length = rest.length - 8 - n := by rw [List.length_drop, hl8]
  have e8 : rest.drop 8 = (rest.drop 4).drop 4 := by rw [List.drop_drop]
  have en : rest.drop (8 + n) = ((rest.drop 4).drop 4).drop n := by rw [← e8, List.drop_drop]
  have ep : rest.drop (8 + pad4 n) = (((rest.drop 4).drop 4).drop n).drop (pad4 n - n) := by rw [← en, List.drop_drop]; congr 1; omega
  rw [e8, en, ep]
  clear e8 en ep
  have htk : ∀ wx, RdAt r rest lv wx → Calls Tryd.prog 29 #[.pointer (some ⟨r, 0, none⟩), .int .i64 4] wx fun e w' => e = .returned (.tuple #[.string ⟨(rest.take 4).toArray⟩, .bool true]) ∧ RdAt r (rest.drop 4) lv w' ∧ wx.grownBy w' (some r) := fun wx hx => take_yes r rest lv 4 4 rfl wx hx (by omega) (by omega)
  generalize (rest.drop 4).drop 4 = D at *
  generalize rest.take 4 = nm at *
  generalize hP : pad4 n = P at *
  clear hn hP
  go_enter Tryd.func32, Tryd.ntmps32
  go_wp2_with fail
  have hA : RdAt r rest lv (w.alloc (.cells #[.string ⟨#[]⟩, .string ⟨#[]⟩] 41)) := h.below ((Below.refl _ _).alloc (Nat.le_refl _) _)
  have hG : w.grownBy (w.alloc (.cells #[.string ⟨#[]⟩, .string ⟨#[]⟩] 41)) (some r) := grownBy_below ((Below.refl _ _).alloc (Nat.le_refl _) _) _
  have hC : (w.alloc (.cells #[.string ⟨#[]⟩, .string ⟨#[]⟩] 41)).heap[w.heap.size]? = some (.cells #[.string ⟨#[]⟩, .string ⟨#[]⟩] 41 (0, 0)) := heap_alloc_new _ _
  have hCr : w.heap.size ≠ r := fun e => absurd h.lt (by rw [e]; exact Nat.lt_irrefl _)
  generalize w.alloc (.cells #[.string ⟨#[]⟩, .string ⟨#[]⟩] 41) = wa at *
  have hCw : w.heap.size ≤ w.heap.size := Nat.le_refl _
  generalize hCC : w.heap.size = C at hC hCr hCw ⊢
  refine (htk _ hA).mono ?_
  rintro e w1 ⟨rfl, h1, hg1⟩
  replace hG := grownBy_trans hG hg1
  replace hC := (hg1.block C (lt_of_row hC) (fun e => hCr (Option.some.inj e))).trans hC
  go_wp2_with fail
  refine (hnum _ h1).mono ?_
  rintro e w2 ⟨rfl, h2, hg2⟩
  replace hG := grownBy_trans hG hg2
  replace hC := (hg2.block C (lt_of_row hC) (fun e => hCr (Option.some.inj e))).trans hC
  clear hg1 hg2 h1 hA hnum hl4 h
  go_wp2_with fail
  refine (take_yes r _ lv _ n rfl _ h2 (by omega) (by omega)).mono ?_
  rintro e w3 ⟨rfl, h3, hg3⟩
  replace hG := grownBy_trans hG hg3
  replace hC := (hg3.block C (lt_of_row hC) (fun e => hCr (Option.some.inj e))).trans hC
  clear hg3 h2
  go_wp2_with (go_at_call 21; refine (hpad _).mono ?_; rintro e w4 ⟨rfl, rfl⟩)
  refine (take_yes r _ lv _ (P - n) (by omega) _ h3 (by omega) (by omega)).mono ?_
  rintro e w4 ⟨rfl, h4, hg4⟩
  replace hG := grownBy_trans hG hg4
  replace hC := (hg4.block C (lt_of_row hC) (fun e => hCr (Option.some.inj e))).trans hC
  clear hg4 h3
  have c0 : w4.cell? ⟨C, 0, none⟩ = some (.string ⟨#[]⟩) := by rw [cell_of_row _ _ _ _ _ _ hC]; rfl
  have c1 : w4.cell? ⟨C, 1, none⟩ = some (.string ⟨#[]⟩) := by rw [cell_of_row _ _ _ _ _ _ hC]; rfl
  have f0 : w4.frozen? ⟨C, 0, none⟩ = false := Lib.frozen_of_heap hC 0
  have f1 : w4.frozen? ⟨C, 1, none⟩ = false := Lib.frozen_of_heap hC 1
  have hta := trim_all ((D.drop n).take (P - n))
  have hsz : (⟨((D.drop n).take (P - n)).toArray⟩ : ByteArray).size ≤ 9223372036854775807 := by
    show ((D.drop n).take (P - n)).toArray.size ≤ _
    rw [List.size_toArray, List.length_take]; omega
  have htr := fun wx => Tryd.strings_Trim_one ⟨((D.drop n).take (P - n)).toArray⟩ 0 (by decide) wx hsz
  replace htr : ∀ wx, Calls Tryd.prog 39 #[.string ⟨((D.drop n).take (P - n)).toArray⟩, .string ⟨#[0]⟩] wx fun e w' => e = .returned (.string ⟨(Lib.trimB ((D.drop n).take (P - n)) 0).toArray⟩) ∧ (w' = wx ∨ w' = wx.drew) := htr
  cases hall : ((D.drop n).take (P - n)).all (· == 0) with
  | true =>
    rw [hta.2 hall] at htr
    clear hta
    go_wp2_with fail
    refine (htr _).mono ?_
    rintro e w5 ⟨rfl, hw5⟩
    have hG5 : w.grownBy w5 (some r) := hw5.elim (fun e => e ▸ hG) (fun e => e ▸ grownBy_drew hG)
    have h45 : RdAt r ((D.drop n).drop (P - n)) lv w5 := by rcases hw5 with rfl | rfl <;> exact h4
    have hC5 : w5.heap[C]? = some (.cells #[.string ⟨#[]⟩, .string ⟨#[]⟩] 41 (0, 0)) := by rcases hw5 with rfl | rfl <;> exact hC
    clear hG h4 hC c0 c1 f0 f1 hw5
    have hG := hG5; have h4 := h45; have hC := hC5; clear hG5 h45 hC5
    have c0 : w5.cell? ⟨C, 0, none⟩ = some (.string ⟨#[]⟩) := by rw [cell_of_row _ _ _ _ _ _ hC]; rfl
    have c1 : w5.cell? ⟨C, 1, none⟩ = some (.string ⟨#[]⟩) := by rw [cell_of_row _ _ _ _ _ _ hC]; rfl
    have f0 : w5.frozen? ⟨C, 0, none⟩ = false := Lib.frozen_of_heap hC 0
    have f1 : w5.frozen? ⟨C, 1, none⟩ = false := Lib.frozen_of_heap hC 1
    go_wp2_with fail
    have hC2 := row_set (i := 1) (row_set (i := 0) hC (.string ⟨nm.toArray⟩)) (.string ⟨(D.take n).toArray⟩)
    refine bodyPost_ret (results_row_tmp rfl _ _ _ C _ _ _ _ rfl hC2 Tryd.underlying41 (by kernel_rfl)) rfl ?_
    exact ⟨tup2 rfl (congrArg Value.bool hall.symm), rd_set2 (rd_set2 h4 hCr _) hCr _, grownBy_set2 (grownBy_set2 hG (by omega) _) (by omega) _⟩
  | false =>
    have hne : Lib.trimB ((D.drop n).take (P - n)) 0 ≠ [] := fun e => by rw [hta.1 e] at hall; cases hall
    have hnb : (⟨(Lib.trimB ((D.drop n).take (P - n)) 0).toArray⟩ : ByteArray) ≠ ⟨#[]⟩ := fun e => hne (by have := congrArg (fun b : ByteArray => b.data.toList) e; simpa using this)
    clear hta hne
    generalize (⟨(Lib.trimB ((D.drop n).take (P - n)) 0).toArray⟩ : ByteArray) = t at *
    go_wp2_with fail
    refine (htr _).mono ?_
    rintro e w5 ⟨rfl, hw5⟩
    have hG5 : w.grownBy w5 (some r) := hw5.elim (fun e => e ▸ hG) (fun e => e ▸ grownBy_drew hG)
    have h45 : RdAt r ((D.drop n).drop (P - n)) lv w5 := by rcases hw5 with rfl | rfl <;> exact h4
    have hC5 : w5.heap[C]? = some (.cells #[.string ⟨#[]⟩, .string ⟨#[]⟩] 41 (0, 0)) := by rcases hw5 with rfl | rfl <;> exact hC
    clear hG h4 hC c0 c1 f0 f1 hw5
    have hG := hG5; have h4 := h45; have hC := hC5; clear hG5 h45 hC5
    have c0 : w5.cell? ⟨C, 0, none⟩ = some (.string ⟨#[]⟩) := by rw [cell_of_row _ _ _ _ _ _ hC]; rfl
    have c1 : w5.cell? ⟨C, 1, none⟩ = some (.string ⟨#[]⟩) := by rw [cell_of_row _ _ _ _ _ _ hC]; rfl
    have f0 : w5.frozen? ⟨C, 0, none⟩ = false := Lib.frozen_of_heap hC 0
    have f1 : w5.frozen? ⟨C, 1, none⟩ = false := Lib.frozen_of_heap hC 1
    go_wp2_with fail
    have hC2 := row_set (i := 1) (row_set (i := 0) hC (.string ⟨nm.toArray⟩)) (.string ⟨(D.take n).toArray⟩)
    refine bodyPost_ret (results_row_tmp rfl _ _ _ C _ _ _ _ rfl hC2 Tryd.underlying41 (by kernel_rfl)) rfl ?_
    exact ⟨tup2 rfl (congrArg Value.bool ((isEmpty_no hnb).trans hall.symm)), rd_set2 (rd_set2 h4 hCr _) hCr _, grownBy_set2 (grownBy_set2 hG (by omega) _) (by omega) _⟩

theorem chunk_any (r : Nat) (rest : List UInt8) (lv : Value) (w : World) (h : RdAt r rest lv w) (hz : rest.length ≤ 9223372036854775807) :
    Calls Tryd.prog 32 #[.pointer (some ⟨r, 0, none⟩)] w fun e w' => (match chunkP rest with
      | none => ∃ x y, e = .returned (.tuple #[.agg #[.string x, .string y], .bool false])
      | some (nm, dt, r') => e = .returned (.tuple #[.agg #[.string ⟨nm.toArray⟩, .string ⟨dt.toArray⟩], .bool true]) ∧ RdAt r r' lv w') ∧ w.grownBy w' (some r) := by
  unfold chunkP
  by_cases h8 : rest.length < 8
  · rw [if_pos h8]
    exact chunk_short r rest lv w h h8
  · rw [if_neg h8]
    generalize hn : num4 ((rest.drop 4).take 4) = n
    by_cases hp : rest.length < 8 + pad4 n
    · rw [if_pos hp]
      exact chunk_long r rest lv w h (by omega) hz n hn.symm hp
    · rw [if_neg hp]
      refine (chunk_full r rest lv w h (by omega) hz n hn.symm (by omega)).mono ?_
      rintro e w' ⟨rfl, hr, hg⟩
      cases hall : ((rest.drop (8 + n)).take (pad4 n - n)).all (· == 0) with
      | true => rw [if_pos rfl]; exact ⟨⟨rfl, hr⟩, hg⟩
      | false => rw [if_neg (by decide)]; exact ⟨⟨_, _, rfl⟩, hg⟩

end Go.Proofs.YteleaiodkljigaaDoor
