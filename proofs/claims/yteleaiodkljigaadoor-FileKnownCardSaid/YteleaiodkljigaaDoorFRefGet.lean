/-
  The reference: number, chunks, Get.
-/
import Derived.Test.YteleaiodkljigaaDoorFRefPut
import Derived.Test.YteleaiodkljigaaDoorFGet
import Derived.Test.YteleaiodkljigaaDoorFBack
namespace Go.Proofs.YteleaiodkljigaaDoor
open Go.RowKit Go.Shelf Go.Lib
set_option linter.unusedVariables false

theorem take4_get {b : List UInt8} {p : Nat} {x0 x1 x2 x3 : UInt8} (h : (b.drop p).take 4 = [x0, x1, x2, x3]) : b[p]? = some x0 ∧ b[p + 1]? = some x1 ∧ b[p + 2]? = some x2 ∧ b[p + 3]? = some x3 := by
  have e (j : Nat) (hj : j < 4) : b[p + j]? = [x0, x1, x2, x3][j]? := by
    rw [← h, List.getElem?_take, if_pos hj, List.getElem?_drop]
  exact ⟨e 0 (by omega), e 1 (by omega), e 2 (by omega), e 3 (by omega)⟩
theorem run_idx (b : List UInt8) (i : Int) (j : Nat) (x : UInt8) (hi : i = j) (h : b[j]? = some x) (wx : World) : (Instr.index 9 (.string ⟨b.toArray⟩) (.int .i64 i)).run Tryd.prog wx = .ok (.int .u8 x.toNat) wx := by
  subst hi
  obtain ⟨hj, hx⟩ := List.getElem?_eq_some_iff.1 h
  rw [run_index_string (h := by kernel_rfl), dif_pos ⟨by omega, by rw [bsz]; omega⟩]
  have : (⟨b.toArray⟩ : ByteArray)[((j : Nat) : Int).toNat]'(by rw [bsz]; simpa using hj) = x := by
    show b.toArray[((j : Nat) : Int).toNat]'_ = x
    simp [hx]
  rw [this]

set_option maxRecDepth 100000 in
set_option maxHeartbeats 4000000 in
theorem rnumber_any (b : List UInt8) (i : Int) (p : Nat) (hi : i = p) (w : World) (hp : p + 4 ≤ b.length) (hb : b.length ≤ 16777216) :
    Calls Tryd.prog 40 #[.string ⟨b.toArray⟩, .int .i64 i] w fun e w' => e = .returned (.int .i64 (num4 ((b.drop p).take 4) : Nat)) ∧ Below w.heap.size w w' := by
  subst hi
  obtain ⟨x0, x1, x2, x3, h4⟩ := len4 (l := (b.drop p).take 4) (by rw [List.length_take, List.length_drop]; omega)
  obtain ⟨g0, g1, g2, g3⟩ := take4_get h4
  rw [h4]
  have hs := bsz b
  have i0 := run_idx b (p : Int) p x0 rfl g0
  have i1 := run_idx b ((p : Int) + 1) (p + 1) x1 rfl g1
  have i2 := run_idx b ((p : Int) + 2) (p + 2) x2 rfl g2
  have i3 := run_idx b ((p : Int) + 3) (p + 3) x3 rfl g3
  clear g0 g1 g2 g3 h4
  have hle : ¬ ((b.length : Int) < (p : Int) + 4) := by omega
  have k0 := x0.toNat_lt; have k1 := x1.toNat_lt; have k2 := x2.toNat_lt; have k3 := x3.toNat_lt
  go_enter Tryd.func40, Tryd.ntmps40
  go_wp2_with fail
  have a1 : IntKind.i64.wrap ((p : Int) + 1) = (p : Int) + 1 := by rw [IntKind.wrap_i64]; omega
  have a2 : IntKind.i64.wrap ((p : Int) + 2) = (p : Int) + 2 := by rw [IntKind.wrap_i64]; omega
  have a3 : IntKind.i64.wrap ((p : Int) + 3) = (p : Int) + 3 := by rw [IntKind.wrap_i64]; omega
  go_quiet (fail)
  go_wp2_with fail
  go_ret
  exact ⟨ret1 (by simp [num4]), below_drewN (Below.refl _ _) _⟩

theorem ext_mid (l : List UInt8) (i j : Nat) : (⟨l.toArray⟩ : ByteArray).extract i j = ⟨((l.drop i).take (j - i)).toArray⟩ := by
  apply ByteArray.ext
  rw [ByteArray.data_extract]
  simp
theorem run_mid (b : List UInt8) (i j : Int) (p n : Nat) (hi : i = p) (hj : j = (p + n : Nat)) (h : p + n ≤ b.length) (wx : World) :
    (Instr.slice 9 (.string ⟨b.toArray⟩) (some (.int .i64 i)) (some (.int .i64 j)) none).run Tryd.prog wx = .ok (.string ⟨((b.drop p).take n).toArray⟩) wx := by
  subst hi; subst hj
  rw [run_slice_string_if (h := by kernel_rfl), if_pos ⟨by omega, by rw [bsz]; omega⟩, if_pos ⟨by omega, by omega⟩, Int.toNat_natCast, Int.toNat_natCast, ext_mid, Nat.add_sub_cancel_left]
theorem chunksR_next {f : Nat} {r : List UInt8} (h1 : 8 ≤ r.length) (h2 : r.take 4 ≠ CSUM) (h3 : num4 ((r.drop 4).take 4) ≤ r.length - 8) :
    chunksR (f + 1) r = (⟨(r.take 4).toArray⟩, ⟨((r.drop 8).take (num4 ((r.drop 4).take 4))).toArray⟩) :: chunksR f (r.drop (8 + pad4 (num4 ((r.drop 4).take 4)))) := by
  conv => lhs; unfold chunksR
  rw [if_neg (fun h => h.elim (fun h => by omega) h2), if_neg (by omega)]
theorem chunksR_stop {f : Nat} {r : List UInt8} (h3 : r.length - 8 < num4 ((r.drop 4).take 4)) : chunksR f r = [] := by
  cases f with
  | zero => rfl
  | succ f =>
    unfold chunksR
    split
    · rfl
    · first | rfl | rw [if_pos h3]

set_option maxRecDepth 100000 in
set_option maxHeartbeats 4000000 in
theorem rchunks_any (b : List UInt8) (w : World) (hb : b.length ≤ 16777216) :
    Calls Tryd.prog 33 #[.string ⟨b.toArray⟩] w fun e w' => ∃ v, e = .returned v ∧ ListAt w' v (chunksR b.length (b.drop 8)) ∧ Below w.heap.size w w' := by
  have hs := bsz b
  generalize hX : chunksR b.length (b.drop 8) = X
  have HX := Lib.hid hX; clear hX
  go_enter Tryd.func33, Tryd.ntmps33
  go_wp2_with fail
  go_loopw [3, 4] (fun lv av wr => ∃ (acc : List Ch) (p f : Nat), av = .int .i64 p ∧ Hid (X = acc ++ chunksR f (b.drop p)) ∧ b.length ≤ f + p ∧ p ≤ b.length + 8 ∧ acc.length ≤ p ∧ wr.ownsRow w.heap.size 41 2 lv acc.length (cellsC acc) ∧ Below w.heap.size w wr) (fun _ av _ => b.length + 8 - (intOf av).toNat)
  case atStart => exact ⟨[], 8, b.length, rfl, Lib.hid (by rw [← HX.out]; rfl), by omega, by omega, Nat.zero_le _, World.ownsRow_nil _ _ _ _, Below.refl _ _⟩
  case round =>
    obtain ⟨acc, p, f, rfl, HA, hf, hp, hap, hown, hB⟩ := hrel
    rename World => wr
    obtain ⟨ao, cap, rfl⟩ := slice_of_owns hown
    by_cases h8 : p + 8 ≤ b.length
    · have hrl : (b.drop p).length = b.length - p := List.length_drop
      have e4 : (b.drop p).drop 4 = b.drop (p + 4) := by rw [List.drop_drop]
      have e8 : (b.drop p).drop 8 = b.drop (p + 8) := by rw [List.drop_drop]
      have hname := run_mid b (p : Int) ((p : Int) + 4) p 4 rfl (by omega) (by omega)
      have hnum := fun wx => rnumber_any b ((p : Int) + 4) (p + 4) (by omega) wx (by omega) hb
      have hnl : num4 ((b.drop (p + 4)).take 4) < 4294967296 := num4_lt _
      obtain ⟨f', rfl⟩ : ∃ f', f = f' + 1 := ⟨f - 1, by omega⟩
      by_cases hc : (b.drop p).take 4 = CSUM
      · have HE : Hid (X = acc) := Lib.hid (by rw [HA.out, chunksR_nil (.inr hc), List.append_nil])
        have hcb : ((b.drop p).take 4 == [67, 83, 85, 77]) = true := by rw [hc]; rfl
        generalize (b.drop p).take 4 = nm at *
        clear hc hnum
        go_wp2_with fail
        go_ret
        exact ⟨_, rfl, by rw [HE.out]; exact list_of_owns hown, hB⟩
      · have hcb : ((b.drop p).take 4 == [67, 83, 85, 77]) = false := beq_eq_false_iff_ne.2 hc
        by_cases hlong : b.length - p - 8 < num4 ((b.drop (p + 4)).take 4)
        · have HE : Hid (X = acc) := Lib.hid (by rw [HA.out, chunksR_stop (by rw [hrl, e4]; exact hlong), List.append_nil])
          generalize (b.drop p).take 4 = nm at *
          generalize num4 ((b.drop (p + 4)).take 4) = n at *
          clear hc
          go_wp2_with fail
          refine (hnum _).mono ?_
          rintro e w1 ⟨rfl, hb1⟩
          go_wp2_with fail
          go_ret
          exact ⟨_, rfl, by rw [HE.out]; exact list_of_owns (owns_below hown hb1), hB.trans (hb1.mono hB.size)⟩
        · have HE : Hid (X = acc ++ [(⟨((b.drop p).take 4).toArray⟩, ⟨((b.drop (p + 8)).take (num4 ((b.drop (p + 4)).take 4))).toArray⟩)] ++ chunksR f' (b.drop (p + 8 + pad4 (num4 ((b.drop (p + 4)).take 4))))) := Lib.hid (by
            have := chunksR_next (f := f') (r := b.drop p) (by omega) hc (by rw [hrl, e4]; omega)
            rw [HA.out, this, e4, e8, List.drop_drop, ← Nat.add_assoc]
            simp)
          have hpd := pad4_le (num4 ((b.drop (p + 4)).take 4))
          have hdat := run_mid b ((p : Int) + 8) ((p : Int) + 8 + (num4 ((b.drop (p + 4)).take 4) : Nat)) (p + 8) (num4 ((b.drop (p + 4)).take 4)) (by omega) (by omega) (by omega)
          generalize (b.drop p).take 4 = nm at *
          generalize num4 ((b.drop (p + 4)).take 4) = n at *
          generalize (b.drop (p + 8)).take n = dt at *
          clear hc
          go_wp2_with fail
          refine (hnum _).mono ?_
          rintro e w1 ⟨rfl, hb1⟩
          have hown1 := owns_below hown hb1
          have hB1 := hB.trans (hb1.mono hB.size)
          clear hown hB hb1 hnum
          go_upto_region 7 with fail
          have k1 : IntKind.i64.wrap ((p : Int) + 4) = (p : Int) + 4 := by rw [IntKind.wrap_i64]; omega
          have k2 : IntKind.i64.wrap ((p : Int) + 8) = (p : Int) + 8 := by rw [IntKind.wrap_i64]; omega
          have k3 : IntKind.i64.wrap ((p : Int) + 8 + (n : Int)) = (p : Int) + 8 + (n : Int) := by rw [IntKind.wrap_i64]; omega
          obtain ⟨i0, hi, hz0, hz1, hz2⟩ := info_parts infoChunk
          go_region_law (refine step_append_lies _ rfl (.tmp 31) (.tmp 46) 30 rfl w.heap.size 41 i0 _ 2 32 Tryd.underlying30 hi hz0 hz1 hz2 rfl (by decide) (.slice ao acc.length cap) acc.length (cellsC acc) rfl (owns_below hown1 ((Below.refl _ _).drew.alloc (Nat.le_refl _) _)) ⟨w1.heap.size, 0, none⟩ 1 1 [.string ⟨nm.toArray⟩, .string ⟨dt.toArray⟩] rfl rfl (World.news_of_block (heap_alloc_new _ _)) (by simp [Value.oneCell']) (by decide) (by unfold maxLen; omega) (by omega) (by simp; have := hB1.size; omega) _ rfl ?_; intro g cap' w9 hown9 hgrow hat hlt9)
          have hB9 : Below w.heap.size w w9 := by
            refine Below.grown ?_ hgrow ?_ (fun k hk => (hown1.lt k hk).1)
            · first | exact (hB1.drew.alloc hB1.size _) | exact (hB1.alloc hB1.size _).drew | exact (hB1.drew.alloc hB1.size _).drew | exact hB1.alloc hB1.size _
            · have := hB1.size; simp; omega
          go_wp2_with fail
          go_roundw
          case rel =>
            exact ⟨acc ++ [(⟨nm.toArray⟩, ⟨dt.toArray⟩)], p + 8 + pad4 n, f', congrArg (Value.int .i64) (by unfold pad4; omega), Lib.hid HE.out, by omega, by omega, by rw [List.length_append]; show acc.length + 1 ≤ _; omega, by rw [List.length_append, cellsC_snoc]; exact hown9, hB9⟩
          case measure => simp [intOf]; omega
    · have HE : Hid (X = acc) := Lib.hid (by rw [HA.out, chunksR_nil (.inl (by rw [List.length_drop]; omega)), List.append_nil])
      go_wp2_with fail
      go_ret
      exact ⟨_, rfl, by rw [HE.out]; exact list_of_owns hown, hB⟩

end Go.Proofs.YteleaiodkljigaaDoor
