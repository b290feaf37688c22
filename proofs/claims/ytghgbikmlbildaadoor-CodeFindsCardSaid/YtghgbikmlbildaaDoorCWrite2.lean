/-
  The writer of code: text, bool, arg: the walks.
-/
import Derived.Test.YtghgbikmlbildaaDoorCWrite
import Derived.Lib.AppendStr
import Derived.Lib.OwnKind
namespace Go.Proofs.YtghgbikmlbildaaDoor
open Go.RowKit
set_option linter.unusedVariables false
set_option linter.unusedSimpArgs false

theorem ne_of_kind {w : World} {B : Nat} {e t : TypeId} {size : Nat} {v : Value} {n : Nat} {xs : List Value} {r : Nat} {cs : Array Value} {fr : Nat × Nat} (h : w.ownsRow B e size v n xs) (hb : w.heap[r]? = some (.cells cs t fr)) (hne : t ≠ e) : v.ownBlock ≠ some r := by
  intro hv
  obtain ⟨c, fz, hg⟩ := Lib.ownsRow_kind h r hv
  rw [hb] at hg
  injection hg with hg
  injection hg with _ h2 _
  exact hne h2
theorem byteC_str (s : ByteArray) : Lib.strCells s = byteC s.data.toList := rfl
theorem WrAt.next {B r : Nat} {l : List UInt8} {w w' : World} (h : WrAt B r l w) (hb : Below w.heap.size w w') : WrAt B r l w' := by
  obtain ⟨h1, h2, bv, h3, h4, h5⟩ := h
  exact ⟨h1, Nat.le_trans h2 hb.size, bv, (hb.block r (lt_of_row h3)).trans h3, h4.kept (row := none) ⟨hb.os, hb.tape, hb.output, hb.size, fun k hk _ => hb.block k hk⟩ (by cases hv : bv.ownBlock <;> simp), h5⟩
def textW (s : ByteArray) : List UInt8 := vint s.size ++ s.data.toList
theorem vint_len (n : Nat) : (vint n).length ≤ 10 := vintF_len 10 n
theorem wr_stores {B r : Nat} {l k : List UInt8} {w : World} {bv v' : Value} (hBr : B ≤ r) (hBw : B ≤ w.heap.size) (hb : w.heap[r]? = some (.cells #[bv] 69 (0, 0))) (ho : w.ownsRow B 5 1 v' (l.length + k.length) (byteC l ++ byteC k)) (hne : v'.ownBlock ≠ some r) :
    WrAt B r (l ++ k) (w.setCell ⟨r, 0, none⟩ v') := by
  refine ⟨hBr, by simpa [World.setCell] using hBw, v', ?_, ?_, hne⟩
  · simp [World.setCell, hb, Array.getElem?_modify]
  · rw [byteC_app, List.length_append]
    exact ho.kept ⟨rfl, rfl, rfl, by simp [World.setCell], fun k _ hk => Below.heap_setCell _ _ _ _ (fun e => hk (by rw [e]))⟩ (.inr (fun e => hne e))

set_option maxRecDepth 100000 in
set_option maxHeartbeats 4000000 in
theorem wtext_any (B r : Nat) (l : List UInt8) (s : ByteArray) (w : World) (h : WrAt B r l w) (hs : s.size ≤ 70368744177664) (hl : l.length ≤ 70368744170000) :
    Calls Tryd.prog 24 #[.pointer (some ⟨r, 0, none⟩), .string s] w fun e w' => e = .returned (.tuple #[]) ∧ WrAt B r (l ++ textW s) w' ∧ Below B w w' ∧ Stays w w' := by
  obtain ⟨i0, hi, hz0, hz1, hz2⟩ := info_parts infoByte
  have HL := Lib.hid (vint_len s.size)
  go_enter Tryd.func24, Tryd.ntmps24
  go_wp2_with (go_at_call 25; refine (wnum_any B r l (s.size : Int) _ h (by omega) (by omega) (by omega)).mono ?_)
  rintro e w1 ⟨rfl, h1, hb1, hst1⟩
  rw [Int.toNat_natCast] at h1
  obtain ⟨hBr, hBw, bv, hbk, hown, hne⟩ := h1
  have c0 : w1.cell? ⟨r, 0, none⟩ = some bv := by rw [cell_of_row _ _ _ _ _ _ hbk]; rfl
  have f0 : w1.frozen? ⟨r, 0, none⟩ = false := Lib.frozen_of_heap hbk 0
  have hrl := lt_of_row hbk
  have hll : (l ++ vint s.size).length ≤ 70368744177664 := by rw [List.length_append]; have := HL.out; omega
  go_wp2_with (at_builtin; refine Lib.wpList_append_own_string _ rfl (.tmp 12) (.tmp 13) 67 9 rfl B 5 i0 Tryd.underlying67 Tryd.underlying9 hi hz0 hz1 hz2 bv (l ++ vint s.size).length (byteC (l ++ vint s.size)) rfl hown s rfl (by unfold maxLen; omega) (by omega) hBw ?_)
  intro v' w2 hown' hgrow hnil
  have hbk1 : w2.heap[r]? = some (.cells #[bv] 69 (0, 0)) := by
    rw [hgrow.block r hrl (fun e => hne e.symm)]
    exact hbk
  have k0 : w2.cell? ⟨r, 0, none⟩ = some bv := by rw [cell_of_row _ _ _ _ _ _ hbk1]; rfl
  have k1 : w2.frozen? ⟨r, 0, none⟩ = false := Lib.frozen_of_heap hbk1 0
  have hB1 : Below B w w2 := hb1.grown hgrow hBw (fun k hk => (hown.lt k hk).1)
  have hne' : v'.ownBlock ≠ some r := ne_of_kind hown' hbk1 (by decide)
  have HW1 : Hid (WrAt B r (l ++ textW s) (w2.setCell ⟨r, 0, none⟩ v')) := Lib.hid (by
    have ho2 : w2.ownsRow B 5 1 v' ((l ++ vint s.size).length + s.data.toList.length) (byteC (l ++ vint s.size) ++ byteC s.data.toList) := by rw [List.length_append]; exact hown'
    have := wr_stores hBr (Nat.le_trans hBw hgrow.size) hbk1 ho2 hne'
    unfold textW; rwa [List.append_assoc] at this)
  have HST1 : Hid (Stays w (w2.setCell ⟨r, 0, none⟩ v')) := Lib.hid ((hst1.grown hown hgrow).store hbk1 v')
  clear hst1
  obtain ⟨ao', cap', rfl⟩ := slice_of_owns hown'
  clear hown hbk hgrow hown' hbk1
  go_wp2_with fail
  go_end0
  exact ⟨rfl, HW1.out, hB1.setCell (p := ⟨r, 0, none⟩) hBr _, HST1.out⟩

def boolW (b : Bool) : List UInt8 := vint (if b then 1 else 0)
set_option maxRecDepth 100000 in
set_option maxHeartbeats 4000000 in
theorem wbool_any (B r : Nat) (l : List UInt8) (b : Bool) (w : World) (h : WrAt B r l w) (hl : l.length ≤ 70368744170000) :
    Calls Tryd.prog 27 #[.pointer (some ⟨r, 0, none⟩), .bool b] w fun e w' => e = .returned (.tuple #[]) ∧ WrAt B r (l ++ boolW b) w' ∧ Below B w w' ∧ Stays w w' := by
  cases b
  · go_enter Tryd.func27, Tryd.ntmps27
    go_wp2_with (go_at_call 25; refine (wnum_any B r l 0 _ h (by omega) (by omega) (by omega)).mono ?_)
    rintro e w1 ⟨rfl, h1, hb1, hst1⟩
    go_wp2_with fail
    go_end0
    exact ⟨rfl, h1, hb1, hst1⟩
  · go_enter Tryd.func27, Tryd.ntmps27
    go_wp2_with (go_at_call 25; refine (wnum_any B r l 1 _ h (by omega) (by omega) (by omega)).mono ?_)
    rintro e w1 ⟨rfl, h1, hb1, hst1⟩
    go_wp2_with fail
    go_end0
    exact ⟨rfl, h1, hb1, hst1⟩

def argW (a : RArg) : List UInt8 := vint (4 * a.n + a.kind).toNat
set_option maxRecDepth 100000 in
set_option maxHeartbeats 4000000 in
theorem warg_any (B r : Nat) (l : List UInt8) (a : RArg) (w : World) (h : WrAt B r l w) (hl : l.length ≤ 70368744170000) (h0 : 0 ≤ a.n) (h1 : a.n ≤ 1000000000000) (h2 : 0 ≤ a.kind) (h3 : a.kind ≤ 3) :
    Calls Tryd.prog 39 #[.pointer (some ⟨r, 0, none⟩), .agg #[.int .i64 a.kind, .int .i64 a.n]] w fun e w' => e = .returned (.tuple #[]) ∧ WrAt B r (l ++ argW a) w' ∧ Below B w w' ∧ Stays w w' := by
  obtain ⟨ak, an⟩ := a
  simp only at *
  have HA : Hid (argW ⟨ak, an⟩ = vint (4 * an + ak).toNat) := Lib.hid rfl
  have HB := Lib.hid h.2.1
  go_enter Tryd.func39, Tryd.ntmps39
  have hA : ∀ (o : Obj), WrAt B r l (w.alloc o) := fun o => h.next ((Below.refl _ _).alloc (Nat.le_refl _) _)
  go_wp2_with (go_at_call 25; refine (wnum_any B r l (4 * an + ak) _ (hA _) (by omega) (by omega) (by omega)).mono ?_)
  rintro e w1 ⟨rfl, h1, hb1, hst1⟩
  go_wp2_with fail
  go_end0
  exact ⟨rfl, by rw [HA.out]; exact h1, ((Below.refl _ _).alloc HB.out _).trans hb1, ((Stays.refl w).alloc _).trans hst1⟩
end Go.Proofs.YtghgbikmlbildaaDoor
