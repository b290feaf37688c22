/-
  The writer of bits: the walk. bits.Valid of a bit string that is valid: the walk. Values that the pure functions return: none, some, number: the walks.
-/
import Derived.Deep.DeepCutAuto
import Derived.Deep.CutBlock
import Derived.Laws.IdiomStrings
import Derived.Laws.Tables
import Derived.Laws.CopyOwn
import Derived.Test.YthmpobimmbmddaaGreatDoorB01
namespace Go.Proofs.YthmpobimmbmddaaGreatDoor
open Go.RowKit
set_option linter.unusedVariables false
set_option linter.unusedSimpArgs false

def byteC (l : List UInt8) : List Value := l.map fun b => Value.int .u8 (b.toNat : Int)
theorem byteC_app (a b : List UInt8) : byteC (a ++ b) = byteC a ++ byteC b := by simp [byteC]
/-- Block r is a writer that holds the bits l; its row lies from block B on. -/
def BwAt (B r : Nat) (l : List Bool) (w : World) : Prop := B ≤ r ∧ B ≤ w.heap.size ∧ ∃ bv, w.heap[r]? = some (.cells #[.string ⟨#[]⟩, .int .i64 l.length, bv] 90 (0, 0)) ∧ w.ownsRow B 5 1 bv (packB l).length (byteC (packB l)) ∧ bv.ownBlock ≠ some r
theorem infoByte : (Tryz.prog.info? 5).map (fun i => (i.zero, i.size, i.bytes)) = some (some (.int .u8 0), 1, 1) := by kernel_rfl
theorem BwAt.below {B r : Nat} {l : List Bool} {w w' : World} (h : BwAt B r l w) (hb : Below w.heap.size w w') : BwAt B r l w' := by
  obtain ⟨h1, h2, bv, h3, h4, h5⟩ := h
  exact ⟨h1, Nat.le_trans h2 hb.size, bv, (hb.block r (lt_of_row h3)).trans h3, h4.kept (row := none) ⟨hb.os, hb.tape, hb.output, hb.size, fun k hk _ => hb.block k hk⟩ (by cases bv.ownBlock <;> simp), h5⟩
theorem slice_of_owns {w : World} {B : Nat} {e : TypeId} {size : Nat} {v : Value} {n : Nat} {xs : List Value} (h : w.ownsRow B e size v n xs) : ∃ ao cap, v = .slice ao n cap := by
  rcases h.2 with ⟨rfl, rfl⟩ | ⟨g, cap, cur, rfl, _⟩
  · exact ⟨_, _, rfl⟩
  · exact ⟨_, _, rfl⟩
theorem bw_grown {r : Nat} {w : World} {u v : Value} {o : Option Nat} (ho : o = some r → False) : ∀ k, k < w.heap.size → some k ≠ some r → ((w.setCell ⟨r, 2, none⟩ u).setCell ⟨r, 1, none⟩ v).heap[k]? = w.heap[k]? := fun k _ hk =>
  (Below.heap_setCell (w.setCell ⟨r, 2, none⟩ u) ⟨r, 1, none⟩ v k (fun e => hk (congrArg some e))).trans (Below.heap_setCell w ⟨r, 2, none⟩ u k (fun e => hk (congrArg some e)))
theorem bw_store {B r : Nat} {l m : List Bool} {x : UInt8} {PK : List UInt8} {w : World} {bv v' z : Value} (hPK : packB l = PK) (hBr : B ≤ r) (hBw : B ≤ w.heap.size) (hb : w.heap[r]? = some (.cells #[.string ⟨#[]⟩, z, bv] 90 (0, 0))) (ho : w.ownsRow B 5 1 v' (PK.length + 1) (byteC PK ++ [.int .u8 (x.toNat : Int)])) (hne : v'.ownBlock ≠ some r) (hp : packB (l ++ m) = PK ++ [x]) {k : Int} (hk : ((l ++ m).length : Int) = k) :
    BwAt B r (l ++ m) ((w.setCell ⟨r, 2, none⟩ v').setCell ⟨r, 1, none⟩ (.int .i64 k)) := by
  subst hk
  refine ⟨hBr, by simpa [World.setCell] using hBw, v', ?_, ?_, hne⟩
  · simp [World.setCell, hb, Array.getElem?_modify]
  · have e2 : (PK ++ [x]).length = PK.length + 1 := by simp
    rw [hp, e2, byteC_app]
    have hg : w.grownBy ((w.setCell ⟨r, 2, none⟩ v').setCell ⟨r, 1, none⟩ (.int .i64 ((l ++ m).length : Int))) (some r) := ⟨rfl, rfl, rfl, by simp [World.setCell], bw_grown (o := none) (fun h => by cases h)⟩
    exact ho.kept hg (.inr hne)
theorem bw_store2 {B r n : Nat} {l m : List Bool} {x : UInt8} {PK : List UInt8} {w : World} {bv v' z : Value} (hn : PK.length = n) (hBr : B ≤ r) (hBw : B ≤ w.heap.size) (hb : w.heap[r]? = some (.cells #[.string ⟨#[]⟩, z, bv] 90 (0, 0))) (ho : w.ownsRow B 5 1 v' (n + 1) (byteC PK ++ [.int .u8 (x.toNat : Int)])) (hne : v'.ownBlock ≠ some r) (hp : packB (l ++ m) = PK ++ [x]) {k : Int} (hk : ((l ++ m).length : Int) = k) :
    BwAt B r (l ++ m) ((w.setCell ⟨r, 2, none⟩ v').setCell ⟨r, 1, none⟩ (.int .i64 k)) := by
  subst hk hn
  refine ⟨hBr, by simpa [World.setCell] using hBw, v', ?_, ?_, hne⟩
  · simp [World.setCell, hb, Array.getElem?_modify]
  · have e2 : (PK ++ [x]).length = PK.length + 1 := by simp
    rw [hp, e2, byteC_app]
    have hg : w.grownBy ((w.setCell ⟨r, 2, none⟩ v').setCell ⟨r, 1, none⟩ (.int .i64 ((l ++ m).length : Int))) (some r) := ⟨rfl, rfl, rfl, by simp [World.setCell], bw_grown (o := none) (fun h => by cases h)⟩
    exact ho.kept hg (.inr hne)
theorem bw_count {B r n : Nat} {l m : List Bool} {PK : List UInt8} {w : World} {bv z : Value} (hn : PK.length = n) (hBr : B ≤ r) (hBw : B ≤ w.heap.size) (hb : w.heap[r]? = some (.cells #[.string ⟨#[]⟩, z, bv] 90 (0, 0))) (ho : w.ownsRow B 5 1 bv n (byteC PK)) (hne : bv.ownBlock ≠ some r) (hp : packB (l ++ m) = PK) {k : Int} (hk : ((l ++ m).length : Int) = k) :
    BwAt B r (l ++ m) (w.setCell ⟨r, 1, none⟩ (.int .i64 k)) := by
  subst hk hn
  refine ⟨hBr, by simpa [World.setCell] using hBw, bv, ?_, ?_, hne⟩
  · simp [World.setCell, hb, Array.getElem?_modify]
  · rw [hp]
    have hg : w.grownBy (w.setCell ⟨r, 1, none⟩ (.int .i64 ((l ++ m).length : Int))) (some r) := ⟨rfl, rfl, rfl, by simp [World.setCell], fun k _ hk => Below.heap_setCell w ⟨r, 1, none⟩ _ k (fun e => hk (congrArg some e))⟩
    exact ho.kept hg (.inr hne)
/-- The last byte of a row that is not empty. -/
theorem owns_last {w : World} {B : Nat} {bv : Value} {A : List UInt8} {x : UInt8} (h : w.ownsRow B 5 1 bv (A ++ [x]).length (byteC (A ++ [x]))) :
    ∃ g cap, bv = .slice (some ⟨g, 0, none⟩) (A ++ [x]).length cap ∧ B ≤ g ∧ g < w.heap.size ∧ w.cell? ⟨g, A.length, none⟩ = some (.int .u8 (x.toNat : Int)) ∧ w.frozen? ⟨g, A.length, none⟩ = false ∧
      ∀ z : UInt8, (w.setCell ⟨g, A.length, none⟩ (.int .u8 (z.toNat : Int))).ownsRow B 5 1 bv (A ++ [z]).length (byteC (A ++ [z])) := by
  rcases h.2 with ⟨_, h0⟩ | ⟨g, cap, cur, rfl, hgB, hg, hc, hm, hs, ht⟩
  · simp at h0
  · have hl : (A ++ [x]).length = A.length + 1 := by simp
    have hcl : A.length < cur.size := by rw [hs]; rw [hl] at hc; omega
    refine ⟨g, cap, rfl, hgB, lt_of_row hg, ?_, Lib.frozen_of_heap hg _, fun z => ⟨by simp [byteC], .inr ⟨g, cap, cur.setIfInBounds A.length (.int .u8 (z.toNat : Int)), by simp, hgB, heap_setCell_same _ _ _ _ _ (.int .u8 (z.toNat : Int)) hg, by simpa using hc, hm, by simp [hs], ?_⟩⟩⟩
    · rw [cell_of_row _ _ _ _ _ _ hg]
      have h1 : (byteC (A ++ [x]))[A.length]? = some (.int .u8 (x.toNat : Int)) := by simp [byteC]
      rw [← ht, List.getElem?_take_of_lt (by omega), Array.getElem?_toList] at h1
      exact h1
    · have e : (byteC (A ++ [z])) = (byteC (A ++ [x])).set A.length (.int .u8 (z.toNat : Int)) := by
        simp [byteC]
      rw [e, ← ht, Array.toList_setIfInBounds, List.take_set]
      simp
set_option maxRecDepth 100000 in
set_option maxHeartbeats 4000000 in
theorem badd_any (B r : Nat) (l : List Bool) (y : ByteArray) (i n : Nat) (w : World) (h : BwAt B r l w) (hy : y.size ≤ 70368744177664) (hin : i + n ≤ 8 * y.size) (hl : l.length + n ≤ 70368744177664) :
    Calls Tryz.prog 55 #[.pointer (some ⟨r, 0, none⟩), .string y, .int .i64 i, .int .i64 n] w fun e w' => e = .returned (.tuple #[]) ∧ BwAt B r (l ++ sub (bitsL y.data.toList) i n) w' ∧ Below B w w' := by
  obtain ⟨i0, hi, hz0, hz1, hz2⟩ := info_parts infoByte
  have hmf : ∀ (fn : Fn) (first cap : Array Value) (w : World), (Instr.makeFunc fn first cap).run Tryz.prog w = .ok (.func fn first cap) w := fun _ _ _ _ => rfl
  have hbox := Lib.hid (heap_alloc_new w (.cells #[.string y] 9))
  have hwb := Lib.hid ((Below.refl w.heap.size w).alloc (Nat.le_refl _) (.cells #[.string y] 9))
  have HW := Lib.hid (h.below hwb.out)
  have HBw := Lib.hid h.2.1
  clear h
  go_enter Tryz.func55, Tryz.ntmps55
  generalize hWW : w.alloc (.cells #[.string y] 9) = W at *
  go_wp2_with fail
  clear hmf
  go_loopw [2, 3] (fun iv nv wr => ∃ j k : Nat, j + k = n ∧ iv = .int .i64 (i + j : Nat) ∧ nv = .int .i64 k ∧ Hid (BwAt B r (l ++ sub (bitsL y.data.toList) i j) wr) ∧ Hid (wr.heap[w.heap.size]? = some (.cells #[.string y] 9 (0, 0))) ∧ Hid (Below B w wr)) (fun _ nv _ => (intOf nv).toNat)
  case atStart =>
    refine ⟨0, n, by omega, by simp, rfl, Lib.hid ?_, hbox, Lib.hid (hwb.out.mono HBw.out)⟩
    have e : sub (bitsL y.data.toList) i 0 = [] := by unfold sub; rfl
    rw [e, List.append_nil]; exact HW.out
  case round =>
    obtain ⟨j, k, hjk, rfl, rfl, HWr, HBX, HBr⟩ := hrel
    rename World => wr
    by_cases hk : 0 < k
    · have hbl : (bitsL y.data.toList).length = 8 * y.size := bitsL_len _
      have HLL := Lib.hid (show (l ++ sub (bitsL y.data.toList) i j).length = l.length + j by rw [List.length_append, sub_len _ _ _ (by omega)])
      have HNX : Hid (∀ m, l ++ sub (bitsL y.data.toList) i (j + m) = (l ++ sub (bitsL y.data.toList) i j) ++ sub (bitsL y.data.toList) (i + j) m) := Lib.hid (fun m => by rw [sub_add, List.append_assoc])
      generalize l ++ sub (bitsL y.data.toList) i j = L at *
      generalize hLn : L.length = Ln at *
      have hLb : Ln ≤ 70368744177664 := by have := HLL.out; omega
      have hi8 : (i + j) / 8 < y.size := by omega
      have h64 : y.size ≤ 1152921504606846976 := by omega
      have HE := Lib.hid (fun wx hx => eight_any y (i + j) w.heap.size wx hx hi8 h64)
      obtain ⟨hBr, hBw, bv, hbk, hown, hne⟩ := HWr.out
      go_upto_region 5 with (first | (go_at_call 129; refine (HE.out _ HBX.out).mono ?_; rintro e w1 ⟨rfl, rfl⟩) | fail)
      obtain ⟨m, hm⟩ : ∃ m : Nat, m = min k 8 := ⟨_, rfl⟩
      have hmi : (if 8 < (k : Int) then 8 else (k : Int)) = (m : Int) := by split <;> omega
      rw [hmi]
      have hm8 : m ≤ 8 := by omega
      have hm0 : 0 < m := by omega
      have hmk : m ≤ k := by omega
      have HMC := Lib.hid (show m = k ∨ m = 8 by omega)
      clear hm
      have hM := sub_len (bitsL y.data.toList) (i + j) m (by omega)
      have HA : Hid (bits .and .u8 ((eightN y (i + j) : Nat) : Int) (255 * 2 ^ (8 - m) % 256) = (((UInt8.ofNat (pk (sub (bitsL y.data.toList) (i + j) m))).toNat : Nat) : Int)) := Lib.hid (by
        have e1 : ((255 : Int) * (2 : Int) ^ (8 - m) % (256 : Int)) = (((255 <<< (8 - m)) % 256 : Nat) : Int) := by rw [Nat.shiftLeft_eq]; simp
        have e2 : eightN y (i + j) < 256 := by
          unfold eightN
          exact Nat.or_lt_two_pow (n := 8) (Nat.mod_lt _ (by decide)) (shr_lt _ _)
        have e3 : byteAt y ((i + j) / 8) = y[(i + j) / 8] := byteAt_in hi8
        have e4 : y.data.toList[(i + j) / 8]? = some (byteAt y ((i + j) / 8)) := by
          rw [e3, Array.getElem?_toList]; exact Array.getElem?_eq_getElem hi8
        have e5 := eight_is y.data.toList (i + j) m (byteAt y ((i + j) / 8)) (byteAt y ((i + j) / 8 + 1)) hm8 e4 rfl (by have := hbl; rw [bitsL_len] at this; omega)
        rw [e1, and_u8 _ _ e2 (Nat.mod_lt _ (by decide))]
        unfold eightN
        rw [e5, UInt8.toNat_ofNat', Nat.mod_eq_of_lt (pk_lt _)])
      go_upto_region 6 with fail
      rw [HA.out]
      by_cases hL8 : Ln % 8 = 0
      · have HP := Lib.hid (packB_even L (sub (bitsL y.data.toList) (i + j) m) (by rw [hLn]; exact hL8))
        rw [packB_one (sub (bitsL y.data.toList) (i + j) m) (by intro e; rw [e] at hM; simp at hM; omega) (by omega)] at HP
        generalize hMM : sub (bitsL y.data.toList) (i + j) m = M at *
        generalize UInt8.ofNat (pk M) = x at *
        have hPL := Lib.hid (packB_length L)
        generalize hPK : packB L = PK at *
        have hPl : PK.length ≤ 8796093022208 := by have := hPL.out; omega
        have h8 : (Ln : Int) % 8 = 0 := by omega
        have c1 : wr.cell? ⟨r, 1, none⟩ = some (.int .i64 Ln) := by rw [cell_of_row _ _ _ _ _ _ hbk, ← hLn]; rfl
        have c2 : wr.cell? ⟨r, 2, none⟩ = some bv := by rw [cell_of_row _ _ _ _ _ _ hbk]; rfl
        have hrl := lt_of_row hbk
        go_wp2_with (at_builtin; refine wpList_append_own_at _ rfl (.tmp 39) (.tmp 41) 50 rfl B 5 i0 (.int .u8 0) 1 1 Tryz.underlying50 hi hz0 hz1 hz2 rfl (by decide) bv PK.length (byteC PK) rfl (hown.alloc _) ⟨wr.heap.size, 0, none⟩ 1 1 [.int .u8 (x.toNat : Int)] rfl rfl (cell_one_new _ _ _) (ints_oneCell .u8 [(x.toNat : Int)]) (by unfold maxLen; omega) (by omega) (by simp; omega) ?_)
        intro v' w1 hown' hgrow hnil hloc
        have hbk1 : w1.heap[r]? = some (.cells #[.string ⟨#[]⟩, .int .i64 Ln, bv] 90 (0, 0)) := by
          rw [hgrow.block r (by simp; omega) (fun e => hne e.symm), ← hLn]
          exact (Below.heap_alloc _ _ _ hrl).trans hbk
        have k1 : w1.cell? ⟨r, 1, none⟩ = some (.int .i64 Ln) := by rw [cell_of_row _ _ _ _ _ _ hbk1]; rfl
        have k2 : w1.cell? ⟨r, 2, none⟩ = some bv := by rw [cell_of_row _ _ _ _ _ _ hbk1]; rfl
        have kf := fun j => Lib.frozen_of_heap hbk1 j
        have kf1 : w1.frozen? ⟨r, 1, none⟩ = false := kf 1
        have kf2 : w1.frozen? ⟨r, 2, none⟩ = false := kf 2
        have hB1 : Below B w w1 := (HBr.out.alloc hBw _).grown hgrow (by simp; omega) (fun k hk => (hown.lt k hk).1)
        have hne' : v'.ownBlock ≠ some r := by
          rcases hloc with e | e
          · rw [e]; exact hne
          · rw [e]; intro e2; have := Option.some.inj e2; omega
        have HW1 : Hid (BwAt B r (L ++ M) ((w1.setCell ⟨r, 2, none⟩ v').setCell ⟨r, 1, none⟩ (.int .i64 ((Ln : Int) + m)))) := Lib.hid (bw_store hPK hBr (Nat.le_trans hBw (by have := hgrow.size; simp at this; omega)) hbk1 hown' hne' HP.out (by rw [List.length_append, hLn, hM]; rfl))
        have HB1 : Hid (Below B w ((w1.setCell ⟨r, 2, none⟩ v').setCell ⟨r, 1, none⟩ (.int .i64 ((Ln : Int) + m)))) := Lib.hid ((hB1.setCell (p := ⟨r, 2, none⟩) hBr _).setCell (p := ⟨r, 1, none⟩) hBr _)
        have hrS : B ≤ w.heap.size := HBw.out
        have HBX1 : Hid (((w1.setCell ⟨r, 2, none⟩ v').setCell ⟨r, 1, none⟩ (.int .i64 ((Ln : Int) + m))).heap[w.heap.size]? = some (.cells #[.string y] 9 (0, 0))) := Lib.hid (by
          have hnr : w.heap.size ≠ r := by
            intro e
            have h1 := HBX.out
            rw [e, hbk] at h1
            injection h1 with h1; injection h1 with _ h1 _; exact absurd h1 (by decide)
          have hnb : some w.heap.size ≠ bv.ownBlock := by
            intro e
            obtain ⟨c', fz, hk⟩ := Lib.ownsRow_kind hown _ e.symm
            have h1 := HBX.out
            rw [hk] at h1
            injection h1 with h1; injection h1 with _ h1 _; exact absurd h1 (by decide)
          rw [Below.heap_setCell _ _ _ _ (fun e => hnr e), Below.heap_setCell _ _ _ _ (fun e => hnr e), hgrow.block _ (by simp; have := lt_of_row HBX.out; omega) hnb]
          exact (Below.heap_alloc _ _ _ (lt_of_row HBX.out)).trans HBX.out)
        obtain ⟨ao', cap', rfl⟩ := slice_of_owns hown'
        clear hown hbk hgrow hown' hbk1 HWr HBX c1 c2 hloc hnil kf
        go_wp2_with fail
        go_roundw
        case rel => exact ⟨j + m, k - m, by omega, by congr 1; omega, by congr 1; omega, Lib.hid (by rw [HNX.out m, hMM]; exact HW1.out), HBX1, HB1⟩
        case measure => simp [intOf]; omega
      · have HPP := packB_part L (sub (bitsL y.data.toList) (i + j) m) (by rw [hLn]; omega) (by omega)
        rw [hLn, hM] at HPP
        have e9 : (UInt8.ofNat (pk (sub (bitsL y.data.toList) (i + j) m))).toNat = pk (sub (bitsL y.data.toList) (i + j) m) := by rw [UInt8.toNat_ofNat', Nat.mod_eq_of_lt (pk_lt _)]
        rw [← e9] at HPP
        generalize hMM : sub (bitsL y.data.toList) (i + j) m = M at *
        clear e9
        generalize UInt8.ofNat (pk M) = x at *
        have hPL := packB_length L
        obtain ⟨A, x9, hA, hAl, hP2⟩ := HPP
        have HP2 := Lib.hid hP2
        clear hP2
        rw [hA] at hown hPL
        have hPl : A.length ≤ 8796093022208 := by omega
        have hu0 : 0 < Ln % 8 := by omega
        have hu : ((Ln : Int) % 8) = ((Ln % 8 : Nat) : Int) := by omega
        have HAl := Lib.hid hAl
        clear hAl hPL
        obtain ⟨u, hUD⟩ : ∃ u, u = Ln % 8 := ⟨_, rfl⟩
        rw [← hUD] at hu hu0 HP2
        have hu8 : u < 8 := by omega
        have HUD := Lib.hid hUD
        clear hUD hL8
        obtain ⟨g, cap, rfl, hgB, hgl, hga, hgf, hset⟩ := owns_last hown
        have hgr : g ≠ r := fun e => hne (by rw [e]; rfl)
        have c1 : wr.cell? ⟨r, 1, none⟩ = some (.int .i64 Ln) := by rw [cell_of_row _ _ _ _ _ _ hbk, ← hLn]; rfl
        have c2 : wr.cell? ⟨r, 2, none⟩ = some (.slice (some ⟨g, 0, none⟩) (A ++ [x9]).length cap) := by rw [cell_of_row _ _ _ _ _ _ hbk]; rfl
        have hrl := lt_of_row hbk
        have hal : ((A ++ [x9]).length : Int) = (A.length : Int) + 1 := by simp
        have HOR : Hid (bits .or .u8 (x9.toNat : Int) ((x.toNat : Int) / (2 : Int) ^ u) = (((UInt8.ofNat (x9.toNat ||| x.toNat >>> u)).toNat : Nat) : Int)) := Lib.hid (by
          rw [shr_u8, or_u8 _ _ x9.toNat_lt (shr_lt _ _), UInt8.toNat_ofNat', Nat.mod_eq_of_lt (Nat.or_lt_two_pow (n := 8) x9.toNat_lt (shr_lt _ _))])
        have HSH : Hid ((x.toNat : Int) * (2 : Int) ^ (8 - u) % (256 : Int) = (((UInt8.ofNat ((x.toNat <<< (8 - u)) % 256)).toNat : Nat) : Int)) := Lib.hid (by
          rw [shl_u8, UInt8.toNat_ofNat', Nat.mod_mod])
        generalize UInt8.ofNat (x9.toNat ||| x.toNat >>> u) = xa at *
        generalize UInt8.ofNat ((x.toNat <<< (8 - u)) % 256) = xb at *
        have hn1 : (A ++ [x9]).length = A.length + 1 := by simp
        rw [hn1] at hbk c2
        go_upto_region 9 with fail
        have hnr : w.heap.size ≠ r := by
          intro e
          have h1 := HBX.out
          rw [e, hbk] at h1
          injection h1 with h1; injection h1 with _ h1 _; exact absurd h1 (by decide)
        have hng : w.heap.size ≠ g := by
          intro e
          obtain ⟨c', fz, hk⟩ := Lib.ownsRow_kind hown g rfl
          have h1 := HBX.out
          rw [e, hk] at h1
          injection h1 with h1; injection h1 with _ h1 _; exact absurd h1 (by decide)
        go_region
        rw [HOR.out]
        have hbk9 : (wr.setCell ⟨g, A.length, none⟩ (.int .u8 (xa.toNat : Int))).drew.heap[r]? = some (.cells #[.string ⟨#[]⟩, .int .i64 Ln, .slice (some ⟨g, 0, none⟩) (A.length + 1) cap] 90 (0, 0)) := by
          rw [← hLn]; exact (Below.heap_setCell wr ⟨g, A.length, none⟩ _ r (fun e => hgr e.symm)).trans hbk
        have hown9 : (wr.setCell ⟨g, A.length, none⟩ (.int .u8 (xa.toNat : Int))).drew.ownsRow B 5 1 (.slice (some ⟨g, 0, none⟩) (A.length + 1) cap) (A.length + 1) (byteC (A ++ [xa])) := by
          have := hset xa; rw [hn1, show (A ++ [xa]).length = A.length + 1 by simp] at this; exact this
        have hB9 : Below B w (wr.setCell ⟨g, A.length, none⟩ (.int .u8 (xa.toNat : Int))).drew := by
          have h := HBr.out.setCell (p := ⟨g, A.length, none⟩) hgB (.int .u8 (xa.toNat : Int))
          exact ⟨h.os, h.tape, h.output, h.size, h.block⟩
        have hX9 : (wr.setCell ⟨g, A.length, none⟩ (.int .u8 (xa.toNat : Int))).drew.heap[w.heap.size]? = some (.cells #[.string y] 9 (0, 0)) :=
          (Below.heap_setCell wr ⟨g, A.length, none⟩ _ w.heap.size hng).trans HBX.out
        have hw9 : B ≤ (wr.setCell ⟨g, A.length, none⟩ (.int .u8 (xa.toNat : Int))).drew.heap.size := by simpa [World.setCell] using hBw
        have HX9 := Lib.hid hX9; have HB9 := Lib.hid hB9
        generalize (wr.setCell ⟨g, A.length, none⟩ (.int .u8 (xa.toNat : Int))).drew = W9 at *
        have k1 : W9.cell? ⟨r, 1, none⟩ = some (.int .i64 Ln) := by rw [cell_of_row _ _ _ _ _ _ hbk9]; rfl
        have k2 : W9.cell? ⟨r, 2, none⟩ = some (.slice (some ⟨g, 0, none⟩) (A.length + 1) cap) := by rw [cell_of_row _ _ _ _ _ _ hbk9]; rfl
        have kf1 : W9.frozen? ⟨r, 1, none⟩ = false := Lib.frozen_of_heap hbk9 1
        have hrl9 := lt_of_row hbk9
        clear hbk hown hset hga hgf c1 c2 hgl HWr HBX hX9 hB9 HBr
        by_cases hov : 8 - u < m
        · rw [if_pos hov] at HP2
          have t1 : decide ((8 : Int) - (u : Int) < (m : Int)) = true := decide_eq_true (by omega)
          go_wp2_with (at_builtin; refine wpList_append_own_at _ rfl (.tmp 71) (.tmp 76) 50 rfl B 5 i0 (.int .u8 0) 1 1 Tryz.underlying50 hi hz0 hz1 hz2 rfl (by decide) _ (A.length + 1) (byteC (A ++ [xa])) rfl (hown9.alloc _) ⟨W9.heap.size, 0, none⟩ 1 1 [.int .u8 ((x.toNat : Int) * (2 : Int) ^ (8 - u) % (256 : Int))] rfl rfl (cell_one_new _ _ _) (ints_oneCell .u8 [((x.toNat : Int) * (2 : Int) ^ (8 - u) % (256 : Int))]) (by unfold maxLen; omega) (by omega) (by simp; omega) ?_)
          intro v' w1 hown' hgrow hnil hloc
          rw [HSH.out] at hown'
          have hbk1 : w1.heap[r]? = some (.cells #[.string ⟨#[]⟩, .int .i64 Ln, .slice (some ⟨g, 0, none⟩) (A.length + 1) cap] 90 (0, 0)) := by
            rw [hgrow.block r (by simp; omega) (fun e => hgr (Option.some.inj e).symm)]
            exact (Below.heap_alloc _ _ _ hrl9).trans hbk9
          have q1 : w1.cell? ⟨r, 1, none⟩ = some (.int .i64 Ln) := by rw [cell_of_row _ _ _ _ _ _ hbk1]; rfl
          have q2 : w1.cell? ⟨r, 2, none⟩ = some (.slice (some ⟨g, 0, none⟩) (A.length + 1) cap) := by rw [cell_of_row _ _ _ _ _ _ hbk1]; rfl
          have qf := fun j => Lib.frozen_of_heap hbk1 j
          have qf1 : w1.frozen? ⟨r, 1, none⟩ = false := qf 1
          have qf2 : w1.frozen? ⟨r, 2, none⟩ = false := qf 2
          have hB1 : Below B w w1 := (HB9.out.alloc hw9 _).grown hgrow (by simp; omega) (fun k hk => (hown9.lt k hk).1)
          have hne' : v'.ownBlock ≠ some r := by
            rcases hloc with e | e
            · rw [e]; exact fun e => hgr (Option.some.inj e)
            · rw [e]; intro e2; have := Option.some.inj e2; omega
          have HW1 : Hid (BwAt B r (L ++ M) ((w1.setCell ⟨r, 2, none⟩ v').setCell ⟨r, 1, none⟩ (.int .i64 ((Ln : Int) + m)))) := Lib.hid (bw_store2 (PK := A ++ [xa]) (by simp) hBr (Nat.le_trans hw9 (by have := hgrow.size; simp at this; omega)) hbk1 hown' hne' HP2.out (by rw [List.length_append, hLn, hM]; rfl))
          have HB1 : Hid (Below B w ((w1.setCell ⟨r, 2, none⟩ v').setCell ⟨r, 1, none⟩ (.int .i64 ((Ln : Int) + m)))) := Lib.hid ((hB1.setCell (p := ⟨r, 2, none⟩) hBr _).setCell (p := ⟨r, 1, none⟩) hBr _)
          have HBX1 : Hid (((w1.setCell ⟨r, 2, none⟩ v').setCell ⟨r, 1, none⟩ (.int .i64 ((Ln : Int) + m))).heap[w.heap.size]? = some (.cells #[.string y] 9 (0, 0))) := Lib.hid (by
            rw [Below.heap_setCell _ _ _ _ (fun e => hnr e), Below.heap_setCell _ _ _ _ (fun e => hnr e), hgrow.block _ (by simp; have := lt_of_row HX9.out; omega) (fun e => hng (Option.some.inj e))]
            exact (Below.heap_alloc _ _ _ (lt_of_row HX9.out)).trans HX9.out)
          obtain ⟨ao', cap', rfl⟩ := slice_of_owns hown'
          clear hown9 hbk9 hgrow hown' hbk1 HX9 k1 k2 hloc hnil qf
          go_wp2_with fail
          go_roundw
          case rel => exact ⟨j + m, k - m, by omega, by congr 1; omega, by congr 1; omega, Lib.hid (by rw [HNX.out m, hMM]; exact HW1.out), HBX1, HB1⟩
          case measure => simp [intOf]; omega
        · rw [if_neg hov, List.append_nil] at HP2
          have t1 : decide ((8 : Int) - (u : Int) < (m : Int)) = false := decide_eq_false (by omega)
          have HW1 : Hid (BwAt B r (L ++ M) (W9.setCell ⟨r, 1, none⟩ (.int .i64 ((Ln : Int) + m)))) := Lib.hid (bw_count (PK := A ++ [xa]) (by simp) hBr hw9 hbk9 hown9 (fun e => hgr (Option.some.inj e)) HP2.out (by rw [List.length_append, hLn, hM]; rfl))
          have HB1 : Hid (Below B w (W9.setCell ⟨r, 1, none⟩ (.int .i64 ((Ln : Int) + m)))) := Lib.hid (HB9.out.setCell (p := ⟨r, 1, none⟩) hBr _)
          have HBX1 : Hid ((W9.setCell ⟨r, 1, none⟩ (.int .i64 ((Ln : Int) + m))).heap[w.heap.size]? = some (.cells #[.string y] 9 (0, 0))) := Lib.hid (by
            rw [Below.heap_setCell _ _ _ _ (fun e => hnr e)]; exact HX9.out)
          clear hown9 hbk9 HX9
          go_wp2_with fail
          go_roundw
          case rel => exact ⟨j + m, k - m, by omega, by congr 1; omega, by congr 1; omega, Lib.hid (by rw [HNX.out m, hMM]; exact HW1.out), HBX1, HB1⟩
          case measure => simp [intOf]; omega
    · obtain rfl : k = 0 := by omega
      obtain rfl : j = n := by omega
      go_wp2_with fail
      (try simp only [Exit.inBlock, Exit.then])
      go_end0
      exact ⟨rfl, HWr.out, HBr.out⟩
end Go.Proofs.YthmpobimmbmddaaGreatDoor
namespace Go.Proofs.YthmpobimmbmddaaGreatDoor
open Go.RowKit
set_option linter.unusedVariables false
set_option linter.unusedSimpArgs false

/-- The bit string of some bits, as a value. -/
abbrev bstr (m : List Bool) : ByteArray := ⟨(packB m).toArray⟩
theorem bstr_size (m : List Bool) : (bstr m).size = (m.length + 7) / 8 := by
  have e : (bstr m).size = (packB m).length := by show (packB m).toArray.size = _; simp
  rw [e, packB_length]
/-- The last byte is filled up with zeros. -/
theorem last_zero (m : List Bool) (h : 0 < m.length % 8) (hi : (bstr m).size - 1 < (bstr m).size) : (bstr m)[(bstr m).size - 1].toNat &&& 255 >>> (m.length % 8) = 0 := by
  obtain ⟨A, r, h1, h2, h3, _⟩ := packB_split m h
  have hsz : (bstr m).size = A.length + 1 := by
    have e : (bstr m).size = (packB m).length := by show (packB m).toArray.size = _; simp
    rw [e, h1]; simp
  have e : (bstr m)[(bstr m).size - 1] = UInt8.ofNat (pk r) := by
    have h4 : byteAt (bstr m) ((bstr m).size - 1) = (bstr m)[(bstr m).size - 1] := byteAt_in hi
    rw [← h4]
    unfold byteAt
    have h5 : (bstr m).data.toList = A ++ [UInt8.ofNat (pk r)] := by show (packB m).toArray.toList = _; rw [List.toList_toArray, h1]
    rw [h5, hsz, List.getElem?_append_right (by omega)]
    simp
  rw [e, UInt8.toNat_ofNat', Nat.mod_eq_of_lt (pk_lt r)]
  apply testBit_ext
  intro j
  have h255 : (255 : Nat) = 2 ^ 8 - 1 := rfl
  rw [Nat.testBit_and, pk_bit, Nat.testBit_shiftRight, h255, Nat.testBit_two_pow_sub_one, Nat.zero_testBit]
  by_cases hj : j < 8
  · by_cases hr : 7 - j < r.length
    · have e1 : ¬ m.length % 8 + j < 8 := by omega
      simp [e1]
    · rw [List.getElem?_eq_none (by omega)]
      simp
  · simp [hj]
set_option maxRecDepth 100000 in
set_option maxHeartbeats 4000000 in
theorem bvalid_any (m : List Bool) (hm : m.length ≤ 70368744177664) (w : World) : Calls Tryz.prog 54 #[.agg #[.string (bstr m), .int .i64 m.length]] w fun e w' => e = .returned (.bool true) ∧ Below w.heap.size w w' := by
  have hsz := bstr_size m
  have HZ := Lib.hid (fun h h2 => last_zero m h h2)
  have HB := Lib.hid ((Below.refl w.heap.size w).alloc (Nat.le_refl _) (.cells #[.string (bstr m), .int .i64 m.length] 56))
  generalize bstr m = y at *
  generalize m.length = n at *
  have E1 : ((y.size : Int) != (((n + 7) / 8 : Nat) : Int)) = false := by rw [hsz]; simp
  by_cases h0 : n % 8 = 0
  · have t1 : (((n : Int) % 8) == 0) = true := beq_iff_eq.2 (by omega)
    clear h0 HZ
    go_enter Tryz.func54, Tryz.ntmps54
    go_wp2_with fail
    go_quiet ((go_at_call 127; exact Calls.quiet_of_same ((blen_any n (by omega) _).mono fun _ _ ⟨a, b⟩ => ⟨a, b.symm⟩)))
    go_wp2_with fail
    go_ret
    exact ⟨rfl, below_drewN HB.out _⟩
  · have hZ : Hid (∀ h : (n + 7) / 8 - 1 < y.size, bits .and .u8 ((y[(n + 7) / 8 - 1].toNat : Nat) : Int) ((255 : Int) / (2 : Int) ^ (n % 8)) = 0) := Lib.hid (fun h => by
      have h7 : (y[(n + 7) / 8 - 1]'h) = y[y.size - 1]'(by omega) := by congr 1; omega
      have h6 : ((255 : Int) / (2 : Int) ^ (n % 8)) = (((255 >>> (n % 8)) : Nat) : Int) := by rw [Nat.shiftRight_eq_div_pow]; simp
      rw [h6, h7]
      have h5 : 255 >>> (n % 8) < 256 := by rw [Nat.shiftRight_eq_div_pow]; exact Nat.lt_of_le_of_lt (Nat.div_le_self _ _) (by decide)
      rw [and_u8 _ _ (y[y.size - 1].toNat_lt) h5, HZ.out (by omega) (by omega)]; rfl)
    have t1 : (((n : Int) % 8) == 0) = false := beq_eq_false_iff_ne.2 (by omega)
    have hy0 : 0 < y.size := by omega
    clear HZ h0
    go_enter Tryz.func54, Tryz.ntmps54
    go_wp2_with fail
    go_quiet ((go_at_call 127; exact Calls.quiet_of_same ((blen_any n (by omega) _).mono fun _ _ ⟨a, b⟩ => ⟨a, b.symm⟩)))
    go_wp2_with fail
    go_ret
    exact ⟨retb (by rw [hZ.out]; rfl), below_drewN HB.out _⟩
end Go.Proofs.YthmpobimmbmddaaGreatDoor
namespace Go.Proofs.YthmpobimmbmddaaGreatDoor
open Go.RowKit
set_option linter.unusedVariables false
set_option linter.unusedSimpArgs false

abbrev zeroV : Value := .agg #[.int .i64 0, .int .i64 0, .int .i64 0, .string ⟨#[]⟩, .string ⟨#[]⟩, .int .i64 0, .slice none 0 0, .string ⟨#[]⟩, .int .i64 0]
abbrev intV (n : Int) : Value := .agg #[.int .i64 1, .int .i64 n, .int .i64 0, .string ⟨#[]⟩, .string ⟨#[]⟩, .int .i64 0, .slice none 0 0, .string ⟨#[]⟩, .int .i64 0]
abbrev atomV (s : ByteArray) : Value := .agg #[.int .i64 2, .int .i64 0, .int .i64 0, .string s, .string ⟨#[]⟩, .int .i64 0, .slice none 0 0, .string ⟨#[]⟩, .int .i64 0]
abbrev failV (s : ByteArray) : Value := .agg #[.string ⟨#[101, 114, 114, 111, 114]⟩, .int .i64 2, .int .i64 0, .int .i64 0, .string s, .string ⟨#[]⟩, .int .i64 0, .slice none 0 0, .string ⟨#[]⟩, .int .i64 0]
abbrev noneV : Value := .agg #[.string ⟨#[]⟩, .int .i64 0, .int .i64 0, .int .i64 0, .string ⟨#[]⟩, .string ⟨#[]⟩, .int .i64 0, .slice none 0 0, .string ⟨#[]⟩, .int .i64 0]

set_option maxRecDepth 100000 in
set_option maxHeartbeats 4000000 in
theorem fails_any (s : ByteArray) (w : World) : Calls Tryz.prog 53 #[.string s] w fun e w' => e = .returned (failV s) ∧ Below w.heap.size w w' := by
  go_enter Tryz.func53, Tryz.ntmps53
  go_wp2_with fail
  refine bodyPost_ret (results_cell_row rfl _ _ w.heap.size _ _ _ _ rfl (heap_alloc_new _ _) Tryz.underlying34 rfl (by kernel_rfl)) rfl ?_
  exact ⟨rfl, (Below.refl _ _).alloc (Nat.le_refl _) _⟩
theorem results_two_rows {fn : Func} {p q : Tmp} {ty ty2 : TypeId} (h : fn.results = #[.cell p ty, .cell q ty2]) (tmps : Array Value) (P : Program) (w : World) (g g2 : Nat) (t t2 : TypeId) (cs cs2 : Array Value) (fr fr2 : Nat × Nat) (fs fs2 : Array Field)
    (hp : tmps.getD p undef = .pointer (some ⟨g, 0, none⟩)) (hg : w.heap[g]? = some (.cells cs t fr)) (hp2 : tmps.getD q undef = .pointer (some ⟨g2, 0, none⟩)) (hg2 : w.heap[g2]? = some (.cells cs2 t2 fr2))
    (hu : P.underlying ty = some (.struct fs)) (hi : (P.info? ty).map (·.size) = some cs.size) (hu2 : P.underlying ty2 = some (.struct fs2)) (hi2 : (P.info? ty2).map (·.size) = some cs2.size) :
    (results fn tmps).run P w = .ok (.tuple #[.agg cs, .agg cs2]) w := by
  have hl := run_loadVar_row w g t ty cs fr (.struct fs) hg hu rfl hi
  have hl2 := run_loadVar_row w g2 t2 ty2 cs2 fr2 (.struct fs2) hg2 hu2 rfl hi2
  have hp' : tmps[p]?.getD undef = .pointer (some ⟨g, 0, none⟩) := by simpa using hp
  have hp2' : tmps[q]?.getD undef = .pointer (some ⟨g2, 0, none⟩) := by simpa using hp2
  simp [results, h, hp', hp2', asAddr, hl, hl2]
abbrev zRow9 : Array Value := #[.int .i64 0, .int .i64 0, .int .i64 0, .string ⟨#[]⟩, .string ⟨#[]⟩, .int .i64 0, .slice none 0 0, .string ⟨#[]⟩, .int .i64 0]
abbrev zRow10 : Array Value := #[.string ⟨#[]⟩, .int .i64 0, .int .i64 0, .int .i64 0, .string ⟨#[]⟩, .string ⟨#[]⟩, .int .i64 0, .slice none 0 0, .string ⟨#[]⟩, .int .i64 0]
/-- The two boxes that a function's results lie in, at blocks B and C. -/
def TwoAt (w : World) (B C : Nat) : Prop := w.heap[B]? = some (.cells zRow9 28 (0, 0)) ∧ w.heap[C]? = some (.cells zRow10 34 (0, 0))
theorem TwoAt.below {w w' : World} {B C : Nat} (h : TwoAt w B C) (hb : Below w.heap.size w w') : TwoAt w' B C :=
  ⟨(hb.block B (lt_of_row h.1)).trans h.1, (hb.block C (lt_of_row h.2)).trans h.2⟩
theorem two_new (w : World) : TwoAt ((w.alloc (.cells zRow9 28)).alloc (.cells zRow10 34)) w.heap.size (w.heap.size + 1) :=
  ⟨by rw [Below.heap_alloc _ _ _ (by simp)]; exact heap_alloc_new _ _, by have := heap_alloc_new (w.alloc (.cells zRow9 28)) (.cells zRow10 34); rwa [show (w.alloc (.cells zRow9 28)).heap.size = w.heap.size + 1 by simp] at this⟩
theorem two_belowE (w : World) : Below w.heap.size w ((w.alloc (.cells zRow9 28)).alloc (.cells zRow10 34)) := ((Below.refl _ _).alloc (Nat.le_refl _) _).alloc (by simp) _
theorem two_set {w w0 : World} {B C D : Nat} (h : TwoAt w B C) (hne : B ≠ C) (hb : Below D w0 w) (hB : D ≤ B) (hC : D ≤ C) (cs cs2 : Array Value) :
    ((w.setRow B cs).setRow C cs2).heap[B]? = some (.cells cs 28 (0, 0)) ∧ ((w.setRow B cs).setRow C cs2).heap[C]? = some (.cells cs2 34 (0, 0)) ∧ Below D w0 ((w.setRow B cs).setRow C cs2) :=
  ⟨by rw [setRow_other _ _ _ _ hne]; exact setRow_heap _ _ _ _ _ _ h.1, setRow_heap _ _ zRow10 _ _ _ (by rw [setRow_other _ _ _ _ (fun e => hne e.symm)]; exact h.2), below_setRow (below_setRow hb hB cs) hC cs2⟩
theorem two_other {w : World} {B C : Nat} (h : TwoAt w B C) (hne : B ≠ C) (cs : Array Value) : (w.setRow B cs).heap[C]? = some (.cells zRow10 34 (0, 0)) := by rw [setRow_other _ _ _ _ (fun e => hne e.symm)]; exact h.2
set_option maxRecDepth 100000 in
set_option maxHeartbeats 4000000 in
theorem none_any (s : ByteArray) (w : World) : Calls Tryz.prog 29 #[.string s] w fun e w' => e = .returned (.tuple #[zeroV, failV s]) ∧ Below w.heap.size w w' := by
  have HT := Lib.hid (two_new w); have HB := Lib.hid (two_belowE w)
  go_enter Tryz.func29, Tryz.ntmps29
  generalize hW : (w.alloc (.cells zRow9 28)).alloc (.cells zRow10 34) = W at *
  go_wp2_with (first | (go_at_call 53; refine (fails_any _ _).mono ?_; rintro e w1 ⟨rfl, hb1⟩; have hT := HT.out.below hb1) | (refine wpList_store_row rfl 28 _ _ rfl w.heap.size _ rfl rfl 28 _ hT.1 (by kernel_rfl) rfl (by simp [Value.oneCell']) ?_) | (refine wpList_store_row rfl 34 _ _ rfl (w.heap.size + 1) _ rfl rfl 34 _ (two_other hT (by omega) _) (by kernel_rfl) rfl (by simp [Value.oneCell']) ?_) | fail)

  obtain ⟨q1, q2, q3⟩ := two_set hT (by omega) (HB.out.trans (hb1.mono HB.out.size)) (Nat.le_refl _) (Nat.le_succ _) zRow9 #[.string ⟨#[101, 114, 114, 111, 114]⟩, .int .i64 2, .int .i64 0, .int .i64 0, .string s, .string ⟨#[]⟩, .int .i64 0, .slice none 0 0, .string ⟨#[]⟩, .int .i64 0]
  refine bodyPost_ret (results_two_rows rfl _ _ _ w.heap.size (w.heap.size + 1) _ _ _ _ _ _ _ _ rfl q1 rfl q2 Tryz.underlying28 (by kernel_rfl) Tryz.underlying34 (by kernel_rfl)) rfl ?_
  exact ⟨rfl, q3⟩
theorem two_belowP (w : World) (o : Obj) : Below w.heap.size w (((w.alloc o).alloc (.cells zRow9 28)).alloc (.cells zRow10 34)) := (((Below.refl _ _).alloc (Nat.le_refl _) _).alloc (by simp) _).alloc (by simp; omega) _
theorem two_newP (w : World) (o : Obj) : TwoAt (((w.alloc o).alloc (.cells zRow9 28)).alloc (.cells zRow10 34)) (w.heap.size + 1) (w.heap.size + 2) := by
  have := two_new (w.alloc o)
  rwa [show (w.alloc o).heap.size = w.heap.size + 1 by simp] at this
/-- A term is handed back without an exception. -/
theorem some_any (k i g a z : Int) (n f y : ByteArray) (so : Option Addr) (l c : Nat) (w : World) :
    Calls Tryz.prog 31 #[.agg #[.int .i64 k, .int .i64 i, .int .i64 g, .string n, .string f, .int .i64 a, .slice so l c, .string y, .int .i64 z]] w fun e w' => e = .returned (.tuple #[.agg #[.int .i64 k, .int .i64 i, .int .i64 g, .string n, .string f, .int .i64 a, .slice so l c, .string y, .int .i64 z], noneV]) ∧ Below w.heap.size w w' := by
  have HT := Lib.hid (two_newP w (.cells #[.int .i64 k, .int .i64 i, .int .i64 g, .string n, .string f, .int .i64 a, .slice so l c, .string y, .int .i64 z] 28))
  have HB := Lib.hid (two_belowP w (.cells #[.int .i64 k, .int .i64 i, .int .i64 g, .string n, .string f, .int .i64 a, .slice so l c, .string y, .int .i64 z] 28))
  go_enter Tryz.func31, Tryz.ntmps31
  go_wp2_with (first | (refine wpList_store_row rfl 28 _ _ rfl (w.heap.size + 1) _ rfl rfl 28 _ HT.out.1 (by kernel_rfl) rfl (by simp [Value.oneCell']) ?_) | (refine wpList_store_row rfl 34 _ _ rfl (w.heap.size + 2) _ rfl rfl 34 _ (two_other HT.out (by omega) _) (by kernel_rfl) rfl (by simp [Value.oneCell']) ?_) | fail)
  obtain ⟨q1, q2, q3⟩ := two_set HT.out (by omega) HB.out (by omega) (by omega) #[.int .i64 k, .int .i64 i, .int .i64 g, .string n, .string f, .int .i64 a, .slice so l c, .string y, .int .i64 z] zRow10
  refine bodyPost_ret (results_two_rows rfl _ _ _ (w.heap.size + 1) (w.heap.size + 2) _ _ _ _ _ _ _ _ rfl q1 rfl q2 Tryz.underlying28 (by kernel_rfl) Tryz.underlying34 (by kernel_rfl)) rfl ?_
  exact ⟨rfl, q3⟩
end Go.Proofs.YthmpobimmbmddaaGreatDoor
