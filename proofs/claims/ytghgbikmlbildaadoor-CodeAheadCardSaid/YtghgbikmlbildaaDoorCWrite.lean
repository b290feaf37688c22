/-
  The writer of code: number, bool, arg: the walks.
-/
import Derived.Test.YtghgbikmlbildaaDoorCWalk3
import Derived.Laws.AppendOwn
import Derived.OwnWalk
import Derived.Maps.AppendAt
import Derived.Lib.FrozenHead
import Derived.Lib.OwnKind
namespace Go.Proofs.YtghgbikmlbildaaDoor
open Go.RowKit
set_option linter.unusedVariables false
set_option linter.unusedSimpArgs false

/-- What a writer's work leaves as it is: every block that is neither a writer's nor bytes. -/
def Stays (w w' : World) : Prop := ∀ (k : Nat) (cs : Array Value) (t : TypeId) (fr : Nat × Nat), w.heap[k]? = some (.cells cs t fr) → t ≠ 5 → t ≠ 69 → w'.heap[k]? = some (.cells cs t fr)
theorem Stays.refl (w : World) : Stays w w := fun _ _ _ _ h _ _ => h
theorem Stays.trans {a b c : World} (h : Stays a b) (k : Stays b c) : Stays a c := fun i cs t fr hi h1 h2 => k i cs t fr (h i cs t fr hi h1 h2) h1 h2
theorem Stays.alloc {a b : World} (h : Stays a b) (o : Obj) : Stays a (b.alloc o) := fun i cs t fr hi h1 h2 => by
  have := h i cs t fr hi h1 h2
  exact (Below.heap_alloc b o i (lt_of_row this)).trans this
theorem Stays.below {a b c : World} (h : Stays a b) (hb : Below b.heap.size b c) : Stays a c := fun i cs t fr hi h1 h2 => by
  have := h i cs t fr hi h1 h2
  exact (hb.block i (lt_of_row this)).trans this
theorem Stays.grown {a b c : World} {B size n : Nat} {bv : Value} {xs : List Value} (h : Stays a b) (ho : b.ownsRow B 5 size bv n xs) (hg : b.grownBy c bv.ownBlock) : Stays a c := fun i cs t fr hi h1 h2 => by
  have hb := h i cs t fr hi h1 h2
  refine (hg.block i (lt_of_row hb) (fun e => ?_)).trans hb
  obtain ⟨c', fz, hk⟩ := Lib.ownsRow_kind ho i e.symm
  rw [hb] at hk
  injection hk with hk
  injection hk with _ h3 _
  exact h1 h3
theorem Stays.store {a b : World} {r : Nat} {cs0 : Array Value} {fr0 : Nat × Nat} (h : Stays a b) (hr : b.heap[r]? = some (.cells cs0 69 fr0)) (v : Value) : Stays a (b.setCell ⟨r, 0, none⟩ v) := fun i cs t fr hi h1 h2 => by
  have hb := h i cs t fr hi h1 h2
  refine (Below.heap_setCell _ _ _ _ (fun e => ?_)).trans hb
  simp only at e
  subst e
  rw [hb] at hr
  injection hr with hr
  injection hr with _ h3 _
  exact h2 h3

def byteC (l : List UInt8) : List Value := l.map fun b => Value.int .u8 (b.toNat : Int)
theorem byteC_app (a b : List UInt8) : byteC (a ++ b) = byteC a ++ byteC b := by simp [byteC]
/-- Block r is a writer that holds the bytes l; its row lies from block B on. -/
def WrAt (B r : Nat) (l : List UInt8) (w : World) : Prop := B ≤ r ∧ B ≤ w.heap.size ∧ ∃ bv, w.heap[r]? = some (.cells #[bv] 69 (0, 0)) ∧ w.ownsRow B 5 1 bv l.length (byteC l) ∧ bv.ownBlock ≠ some r
theorem infoByte : (Tryd.prog.info? 5).map (fun i => (i.zero, i.size, i.bytes)) = some (some (.int .u8 0), 1, 1) := by kernel_rfl
/-- A number's bytes. -/
def vintF : Nat → Nat → List UInt8
  | 0, _ => []
  | f + 1, n => if n < 128 then [UInt8.ofNat n] else UInt8.ofNat (n % 128 + 128) :: vintF f (n / 128)
def vint (n : Nat) : List UInt8 := vintF 10 n
theorem vintF_len : ∀ (f n : Nat), (vintF f n).length ≤ f
  | 0, _ => Nat.zero_le _
  | f + 1, n => by
    unfold vintF
    split
    · simp
    · have := vintF_len f (n / 128); simp; omega
theorem or_128 (m : Nat) : bits .or .u8 ((m : Int) % 256) 128 = (((UInt8.ofNat (m % 128 + 128)).toNat : Nat) : Int) := by
  have h1 : (BitVec.ofInt 8 ((m : Int) % 256)).toNat = m % 256 := by
    have e : ((m : Int) % 256) = ((m % 256 : Nat) : Int) := by omega
    rw [e, BitVec.ofInt_natCast, BitVec.toNat_ofNat]; omega
  have h2 : (BitVec.ofInt 8 128).toNat = 128 := by decide
  have hx : m % 256 ||| 128 = m % 128 + 128 := by
    have h := Nat.two_pow_add_eq_or_of_lt (i := 7) (b := m % 128) (by omega) 1
    have e : m % 256 = m % 128 ∨ m % 256 = 128 + m % 128 := by omega
    rcases e with e | e
    · rw [e, Nat.or_comm]; rw [show (2 ^ 7 * 1 : Nat) = 128 by rfl] at h; omega
    · rw [show (2 ^ 7 * 1 : Nat) = 128 by rfl] at h
      rw [e, h, Nat.or_comm 128, Nat.or_assoc, Nat.or_self, Nat.or_comm, ← h]; omega
  show IntKind.u8.wrap ((BitVec.ofInt 8 ((m : Int) % 256) ||| BitVec.ofInt 8 128).toNat : Int) = _
  rw [BitVec.toNat_or, h1, h2, hx, IntKind.wrap_u8, UInt8.toNat_ofNat']
  omega
theorem byte_of (m : Nat) : ((m : Int) % 256) = ((UInt8.ofNat m).toNat : Int) := by rw [UInt8.toNat_ofNat']; omega

theorem wr_store {B r : Nat} {l : List UInt8} {x : UInt8} {w : World} {bv v' : Value} (hBr : B ≤ r) (hBw : B ≤ w.heap.size) (hb : w.heap[r]? = some (.cells #[bv] 69 (0, 0))) (ho : w.ownsRow B 5 1 v' (l.length + 1) (byteC l ++ [.int .u8 (x.toNat : Int)])) (hne : v'.ownBlock ≠ some r) :
    WrAt B r (l ++ [x]) (w.setCell ⟨r, 0, none⟩ v') := by
  refine ⟨hBr, by simpa [World.setCell] using hBw, v', ?_, ?_, hne⟩
  · simp [World.setCell, hb, Array.getElem?_modify]
  · have e : byteC (l ++ [x]) = byteC l ++ [.int .u8 (x.toNat : Int)] := by rw [byteC_app]; rfl
    rw [e, List.length_append]
    exact ho.kept ⟨rfl, rfl, rfl, by simp [World.setCell], fun k _ hk => Below.heap_setCell _ _ _ _ (fun e => hk (by rw [e]))⟩ (.inr (fun e => hne e))
theorem slice_of_owns {w : World} {B : Nat} {e : TypeId} {size : Nat} {v : Value} {n : Nat} {xs : List Value} (h : w.ownsRow B e size v n xs) : ∃ ao cap, v = .slice ao n cap := by
  rcases h.2 with ⟨rfl, rfl⟩ | ⟨g, cap, cur, rfl, _⟩
  · exact ⟨_, _, rfl⟩
  · exact ⟨_, _, rfl⟩
set_option maxRecDepth 100000 in
set_option maxHeartbeats 4000000 in
theorem wnum_any (B r : Nat) (l : List UInt8) (n : Int) (w : World) (h : WrAt B r l w) (h0 : 0 ≤ n) (h1 : n ≤ 9223372036854775807) (hl : l.length ≤ 70368744177664) :
    Calls Tryd.prog 25 #[.pointer (some ⟨r, 0, none⟩), .int .i64 n] w fun e w' => e = .returned (.tuple #[]) ∧ WrAt B r (l ++ vint n.toNat) w' ∧ Below B w w' ∧ Stays w w' := by
  obtain ⟨i0, hi, hz0, hz1, hz2⟩ := info_parts infoByte
  obtain ⟨m0, rfl⟩ := Int.eq_ofNat_of_zero_le h0
  rw [Int.toNat_natCast]
  have HT : Hid (l ++ vint m0 = l ++ vintF 10 m0) := Lib.hid rfl
  have HBL := Lib.hid h.2.1
  go_enter Tryd.func25, Tryd.ntmps25
  go_wp2_with fail
  go_loopw [4] (fun uv wr => ∃ (m f : Nat) (l' : List UInt8), uv = .int .u64 m ∧ m < 128 ^ f * 128 ∧ Hid (l ++ vint m0 = l' ++ vintF (f + 1) m) ∧ f ≤ 9 ∧ l'.length ≤ l.length + 9 - f ∧ Hid (WrAt B r l' wr) ∧ Below B w wr ∧ Hid (Stays w wr)) (fun uv _ => (intOf uv).toNat)
  case atStart => exact ⟨m0, 9, l, by go_num, by omega, HT, Nat.le_refl _, by omega, Lib.hid h, Below.refl _ _, Lib.hid (Stays.refl _)⟩
  case round =>
    obtain ⟨m, f, l', rfl, hm, HV, hf, hll, HW, hB, HST⟩ := hrel
    rename World => wr
    obtain ⟨hBr, hBw, bv, hbk, hown, hne⟩ := HW.out
    have c0 : wr.cell? ⟨r, 0, none⟩ = some bv := by rw [cell_of_row _ _ _ _ _ _ hbk]; rfl
    have f0 : wr.frozen? ⟨r, 0, none⟩ = false := Lib.frozen_of_heap hbk 0
    have hrl := lt_of_row hbk
    by_cases hbig : 128 ≤ m
    · have hf0 : f ≠ 0 := fun e => by subst e; simp at hm; omega
      obtain ⟨f', rfl⟩ := Nat.exists_eq_succ_of_ne_zero hf0
      have hor := or_128 m
      have HV2 : Hid (l ++ vint m0 = (l' ++ [UInt8.ofNat (m % 128 + 128)]) ++ vintF (f' + 1) (m / 128)) := Lib.hid (by
        rw [HV.out]; conv => lhs; rw [vintF, if_neg (by omega)]
        simp)
      generalize UInt8.ofNat (m % 128 + 128) = x at *
      go_wp2_with (at_builtin; refine wpList_append_own_at _ rfl (.tmp 15) (.tmp 19) 67 rfl B 5 i0 (.int .u8 0) 1 1 Tryd.underlying67 hi hz0 hz1 hz2 rfl (by decide) bv l'.length (byteC l') rfl (hown.alloc _) ⟨wr.heap.size, 0, none⟩ 1 1 [.int .u8 (x.toNat : Int)] rfl rfl (cell_one_new _ _ _) (ints_oneCell .u8 [(x.toNat : Int)]) (by unfold maxLen; omega) (by omega) (by simp; omega) ?_)
      intro v' w1 hown' hgrow hnil hloc
      have hbk1 : w1.heap[r]? = some (.cells #[bv] 69 (0, 0)) := by
        rw [hgrow.block r (by simp; omega) (fun e => hne e.symm)]
        exact (Below.heap_alloc _ _ _ hrl).trans hbk
      have k0 : w1.cell? ⟨r, 0, none⟩ = some bv := by rw [cell_of_row _ _ _ _ _ _ hbk1]; rfl
      have k1 : w1.frozen? ⟨r, 0, none⟩ = false := Lib.frozen_of_heap hbk1 0
      have hB1 : Below B w w1 := (hB.alloc hBw _).grown hgrow (by simp; omega) (fun k hk => (hown.lt k hk).1)
      have hne' : v'.ownBlock ≠ some r := by
        rcases hloc with e | e
        · rw [e]; exact hne
        · rw [e]; intro e2; have := Option.some.inj e2; omega
      have HW1 : Hid (WrAt B r (l' ++ [x]) (w1.setCell ⟨r, 0, none⟩ v')) := Lib.hid (wr_store hBr (Nat.le_trans hBw (by have := hgrow.size; simp at this; omega)) hbk1 hown' hne')
      have HST1 : Hid (Stays w (w1.setCell ⟨r, 0, none⟩ v')) := Lib.hid (((HST.out.alloc _).grown (hown.alloc _) hgrow).store hbk1 v')
      obtain ⟨ao', cap', rfl⟩ := slice_of_owns hown'
      clear hown hbk hgrow hown' hbk1 HW
      go_wp2_with fail
      go_roundw
      case rel => exact ⟨m / 128, f', l' ++ [x], by go_num, by rw [Nat.pow_succ] at hm; omega, HV2, by omega, by rw [List.length_append]; simp; omega, HW1, hB1.setCell (p := ⟨r, 0, none⟩) hBr _, HST1⟩
      case measure => simp [intOf]; omega
    · have hby : Hid ((m : Int) = ((UInt8.ofNat m).toNat : Int)) := Lib.hid (by rw [UInt8.toNat_ofNat']; omega)
      have HV2 : Hid (l ++ vint m0 = l' ++ [UInt8.ofNat m]) := Lib.hid (by rw [HV.out, vintF, if_pos (by omega)])
      generalize UInt8.ofNat m = x at *
      go_wp2_with (at_builtin; refine wpList_append_own_at _ rfl (.tmp 27) (.tmp 30) 67 rfl B 5 i0 (.int .u8 0) 1 1 Tryd.underlying67 hi hz0 hz1 hz2 rfl (by decide) bv l'.length (byteC l') rfl (hown.alloc _) ⟨wr.heap.size, 0, none⟩ 1 1 [.int .u8 (m : Int)] rfl rfl (cell_one_new _ _ _) (ints_oneCell .u8 [(m : Int)]) (by unfold maxLen; omega) (by omega) (by simp; omega) ?_)
      intro v' w1 hown' hgrow hnil hloc
      rw [hby.out] at hown'
      have hbk1 : w1.heap[r]? = some (.cells #[bv] 69 (0, 0)) := by
        rw [hgrow.block r (by simp; omega) (fun e => hne e.symm)]
        exact (Below.heap_alloc _ _ _ hrl).trans hbk
      have k0 : w1.cell? ⟨r, 0, none⟩ = some bv := by rw [cell_of_row _ _ _ _ _ _ hbk1]; rfl
      have k1 : w1.frozen? ⟨r, 0, none⟩ = false := Lib.frozen_of_heap hbk1 0
      have hB1 : Below B w w1 := (hB.alloc hBw _).grown hgrow (by simp; omega) (fun k hk => (hown.lt k hk).1)
      have hne' : v'.ownBlock ≠ some r := by
        rcases hloc with e | e
        · rw [e]; exact hne
        · rw [e]; intro e2; have := Option.some.inj e2; omega
      have HW1 : Hid (WrAt B r (l' ++ [x]) (w1.setCell ⟨r, 0, none⟩ v')) := Lib.hid (wr_store hBr (Nat.le_trans hBw (by have := hgrow.size; simp at this; omega)) hbk1 hown' hne')
      have HST1 : Hid (Stays w (w1.setCell ⟨r, 0, none⟩ v')) := Lib.hid (((HST.out.alloc _).grown (hown.alloc _) hgrow).store hbk1 v')
      obtain ⟨ao', cap', rfl⟩ := slice_of_owns hown'
      clear hown hbk hgrow hown' hbk1 HW
      go_wp2_with fail
      go_end0
      exact ⟨rfl, by rw [HV2.out]; exact HW1.out, hB1.setCell (p := ⟨r, 0, none⟩) hBr _, HST1.out⟩

end Go.Proofs.YtghgbikmlbildaaDoor
