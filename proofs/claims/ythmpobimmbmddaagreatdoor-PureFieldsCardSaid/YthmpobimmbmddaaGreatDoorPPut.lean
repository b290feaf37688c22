/-
  bits.PutInt: the walk.
-/
import Derived.Test.YthmpobimmbmddaaGreatDoorPTurn
namespace Go.Proofs.YthmpobimmbmddaaGreatDoor
open Go.RowKit
set_option linter.unusedVariables false
set_option linter.unusedSimpArgs false

/-- The bytes of an integer, in either order. -/
def intBytes (v : Int) (k : Nat) (lt : Bool) : List UInt8 := if lt = true then (bytesN v k).reverse else bytesN v k
theorem below_of_grown {w w' : World} (h : w.grownBy w' none) : Below w.heap.size w w' := ⟨h.os, h.tape, h.output, h.size, fun k hk => h.block k hk (by simp)⟩
theorem made_row {w : World} {B g n : Nat} (h : w.ownsRow B 5 1 (.slice (some ⟨g, 0, none⟩) n n) n (madeCells (Value.int .u8 0).cells (n * 1)).toList) : w.heap[g]? = some (.cells (byteC (List.replicate n 0)).toArray 5 (0, 0)) := by
  obtain ⟨h1, h2⟩ := h
  have e : (madeCells (Value.int .u8 0).cells (n * 1)).toList = byteC (List.replicate n 0) := by
    unfold byteC
    rw [Nat.mul_one] at h1 ⊢
    apply List.ext_getElem?
    intro i
    by_cases hi : i < n
    · rw [List.getElem?_map, List.getElem?_replicate_of_lt hi]
      simp [madeCells, hi, Value.cells, Nat.mod_one]
    · rw [List.getElem?_eq_none (by omega), List.getElem?_eq_none (by simp; omega)]
  rw [e] at h1 h2
  rcases h2 with ⟨h2, _⟩ | ⟨g', cap, cur, h2, _, hg, hc, _, hs, ht⟩
  · cases h2
  · injection h2 with h3 _ h4
    injection h3 with h3
    injection h3 with h3 _ _
    subst h3 h4
    rw [hg]
    have : cur = (byteC (List.replicate n 0)).toArray := by
      rw [← ht, List.take_of_length_le (by simp [hs]), Array.toArray_toList]
    rw [this]
theorem conv_row {w : World} {b c : Nat} {L : List UInt8} (h : w.heap[b]? = some (.cells (byteC L).toArray 5 (0, 0))) : (convert 50 9 (.slice (some ⟨b, 0, none⟩) L.length c)).run Tryz.prog w = .ok (.string ⟨L.toArray⟩) w := by
  refine run_convert_bytes_back (P := Tryz.prog) w 50 9 5 ⟨b, 0, none⟩ c L Tryz.underlying50 Tryz.underlying5 Tryz.underlying9 (fun j hj => ?_)
  have ha : (⟨b, 0, none⟩ : Addr).add j = ⟨b, j, none⟩ := by unfold Addr.add; split <;> simp_all
  rw [ha, cell_of_row _ _ _ _ _ _ h, byteC_at L j hj, List.getD_eq_getElem?_getD, List.getElem?_eq_getElem hj, Option.getD_some]
theorem byte_hi (X i : Nat) : ((X * 2 ^ (8 * i) % 18446744073709551616 : Nat) : Int) / 72057594037927936 % 256 = ((UInt8.ofNat (byteOf X i)).toNat : Int) := by
  have h := byteOf_lt X i
  rw [UInt8.toNat_ofNat', Nat.mod_eq_of_lt h]
  unfold byteOf at h ⊢
  have e : (2 : Nat) ^ 64 = 18446744073709551616 := rfl
  have e2 : (2 : Nat) ^ 56 = 72057594037927936 := rfl
  rw [e, e2] at h ⊢
  omega
theorem shift_hi (X i : Nat) : IntKind.u64.wrap (((X * 2 ^ (8 * i) % 18446744073709551616 : Nat) : Int) * 256) = ((X * 2 ^ (8 * (i + 1)) % 18446744073709551616 : Nat) : Int) := by
  rw [IntKind.wrap_u64]
  have e : X * 2 ^ (8 * (i + 1)) = X * 2 ^ (8 * i) * 256 := by rw [show 8 * (i + 1) = 8 * i + 8 by omega, Nat.pow_add, ← Nat.mul_assoc]
  rw [e]
  omega
theorem row_step (L : List UInt8) (n i : Nat) (h : i < n) (hl : L.length = n) : (L.take i ++ List.replicate (n - i) 0).set i (L.getD i 0) = L.take (i + 1) ++ List.replicate (n - (i + 1)) 0 := by
  apply List.ext_getElem?
  intro x
  rw [List.getElem?_set]
  by_cases c : i = x
  · subst c
    rw [if_pos rfl, if_pos (by simp; omega), List.getElem?_append_left (by simp; omega), List.getElem?_take_of_lt (by omega), List.getD_eq_getElem?_getD, List.getElem?_eq_getElem (by omega)]
    simp
  · rw [if_neg c]
    by_cases h1 : x < i
    · rw [List.getElem?_append_left (by simp; omega), List.getElem?_append_left (by simp; omega), List.getElem?_take_of_lt h1, List.getElem?_take_of_lt (by omega)]
    · rw [List.getElem?_append_right (by simp; omega), List.getElem?_append_right (by simp; omega), List.getElem?_replicate, List.getElem?_replicate]
      have e1 : (x - (L.take i).length < n - i) ↔ (x - (L.take (i + 1)).length < n - (i + 1)) := by simp; omega
      simp only [e1]
theorem up_lt (v : Int) (k : Nat) (hU : (v % 18446744073709551616 : Int) = ((u64 v : Nat) : Int)) : IntKind.u64.wrap (IntKind.u64.wrap v * (2 : Int) ^ (64 - k)) = ((upN v k : Nat) : Int) := by
  rw [IntKind.wrap_u64, IntKind.wrap_u64, hU]
  unfold upN
  simp
theorem up_eq (v : Int) (k : Nat) (hU : (v % 18446744073709551616 : Int) = ((u64 v : Nat) : Int)) (hk : k = 64) : IntKind.u64.wrap v = ((upN v k : Nat) : Int) := by
  subst hk
  rw [IntKind.wrap_u64, hU]
  unfold upN
  have := u64_lt v
  rw [Nat.sub_self, Nat.pow_zero, Nat.mul_one, Nat.mod_eq_of_lt this]
set_option maxRecDepth 100000 in
set_option maxHeartbeats 4000000 in
theorem putint_any (v : Int) (k : Nat) (lt : Bool) (w : World) (hv : I64 v) (hk : k ≤ 64) (hlt : lt = true → k % 8 = 0) :
    Calls Tryz.prog 50 #[.int .i64 v, .int .i64 k, .bool lt] w fun e w' => e = .returned (.tuple #[.agg #[.string ⟨(intBytes v k lt).toArray⟩, .int .i64 k], .int .i64 0]) ∧ Below w.heap.size w w' := by
  have HB0 := Lib.hid ((Below.refl w.heap.size w).alloc (Nat.le_refl _) (.cells #[.string ⟨#[]⟩, .int .i64 0] 56))
  have HR0 := Lib.hid (heap_alloc_new w (.cells #[.string ⟨#[]⟩, .int .i64 0] 56))
  have hU : ((v % 18446744073709551616 : Int)) = ((u64 v : Nat) : Int) := by unfold u64; omega
  have ht : (k : Int) ≤ 64 := by omega
  obtain ⟨v1, v2⟩ := hv
  have hg : lt = false ∨ (((k : Int) % 8) != 0) = false := by
    cases lt with
    | false => exact .inl rfl
    | true => exact .inr (by have := hlt rfl; simp; omega)
  have HLT := Lib.hid hlt
  clear hlt
  go_enter Tryz.func50, Tryz.ntmps50
  generalize hW : w.alloc (.cells #[.string ⟨#[]⟩, .int .i64 0] 56) = W at *
  cases lt with
  | false =>
    clear hg
    go_upto_if 29 with fail
    go_cut [8] (fun uv wx => uv = .int .u64 ((upN v k : Nat) : Int) ∧ W = wx)
    case first =>
      go_wp2_with fail
      · go_meet
        case rel => exact ⟨by rw [up_lt v k hU], rfl⟩
      · go_meet
        case rel => exact ⟨by rw [up_eq v k hU (by have h64 : (64 : Int) ≤ k := by assumption
                                                   omega)], rfl⟩
    case rest =>
      obtain ⟨rfl, rfl⟩ := hcut
      obtain ⟨n, hn⟩ : ∃ n : Nat, n = (k + 7) / 8 := ⟨_, rfl⟩
      have HN := Lib.hid hn
      have hn8 : n ≤ 8 := by omega
      have HLN := Lib.hid (show Calls Tryz.prog 127 #[.int .i64 k] W fun e w' => e = .returned (.int .i64 n) ∧ W = w' by rw [hn]; exact blen_any k (by omega) W)
      obtain ⟨i0, hi, hz0, hz1, hz2⟩ := info_parts infoByte
      clear hn
      go_upto_region 7 with (first | (go_at_call 127; refine HLN.out.mono ?_; rintro e w1 ⟨rfl, rfl⟩) | (at_make; refine wpList_make_full W rfl (.tmp 36) (.tmp 36) 50 rfl W.heap.size 5 i0 (.int .u8 0) 1 Tryz.underlying50 hi hz0 hz1 .i64 .i64 (n : Int) (n : Int) n rfl rfl rfl rfl (by rw [hz2]; omega) (by unfold maxLen; omega) (Nat.le_refl _) ?_; intro w1 hown hgrow) | fail)
      have hrow := made_row hown
      have HB1 := Lib.hid (below_of_grown hgrow)
      have HR1 := Lib.hid hrow
      obtain ⟨X, hX⟩ : ∃ X, X = upN v k := ⟨_, rfl⟩
      obtain ⟨L, hL⟩ : ∃ L, L = bytesN v k := ⟨_, rfl⟩
      have hLn : L.length = n := by rw [hL, bytesN_len]; exact HN.out.symm
      have HLB : Hid (∀ i, i < n → L.getD i 0 = UInt8.ofNat (byteOf X i)) := Lib.hid (fun i hi => by
        rw [hL, hX, List.getD_eq_getElem?_getD]; unfold bytesN; rw [List.getElem?_map, List.getElem?_range (by have := HN.out; omega)]; rfl)
      have HXl : Hid (X < 2 ^ 64) := Lib.hid (by rw [hX]; exact upN_lt v k)
      have HL := Lib.hid hL
      rw [← hX]
      generalize hbW : W.heap.size = b at *
      clear hown hgrow hrow hX hL hi hz0 hz1 hz2
      go_wp2_with fail
      go_loopw [8, 40] (fun uv iv wr => ∃ i : Nat, i ≤ n ∧ uv = .int .u64 ((X * 2 ^ (8 * i) % 18446744073709551616 : Nat) : Int) ∧ iv = .int .i64 i ∧ Hid (wr.heap[b]? = some (.cells (byteC (L.take i ++ List.replicate (n - i) 0)).toArray 5 (0, 0))) ∧ Hid (Below b W wr)) (fun _ iv _ => n - (intOf iv).toNat)
      case atStart => exact ⟨0, Nat.zero_le _, by rw [Nat.mul_zero, Nat.pow_zero, Nat.mul_one, Nat.mod_eq_of_lt HXl.out], rfl, by simpa using HR1, HB1⟩
      case round =>
        obtain ⟨i, hi, rfl, rfl, HR, HBr⟩ := hrel
        rename World => wr
        by_cases hlt : i < n
        · have HBY := Lib.hid (byte_hi X i)
          have HUP := Lib.hid (shift_hi X i)
          have HST := Lib.hid (row_step L n i hlt hLn)
          have hx := HLB.out i hlt
          obtain ⟨c0, hc0⟩ : ∃ c0 : Value, wr.cell? ⟨b, i, none⟩ = some c0 := by
            rw [cell_of_row _ _ _ _ _ _ HR.out, List.getElem?_toArray]
            exact ⟨_, List.getElem?_eq_getElem (by simp [byteC]; omega)⟩
          have hf0 := Lib.frozen_of_heap HR.out i
          generalize X * 2 ^ (8 * i) % 18446744073709551616 = U at *
          generalize hBX : byteOf X i = Y at *
          clear hBX
          have hr := heap_setCell_same wr b i _ _ (.int .u8 ((UInt8.ofNat Y).toNat : Int)) HR.out
          rw [byteC_set, ← hx, HST.out, hx] at hr
          have HR2 := Lib.hid hr
          clear hr
          go_wp2_with fail
          go_roundw
          case rel =>
            rw [HBY.out]
            exact ⟨i + 1, by omega, by rw [HUP.out], by go_num, HR2, Lib.hid (HBr.out.setCell (p := ⟨b, i, none⟩) (Nat.le_refl _) _)⟩
          case measure => simp [intOf]; omega
        · obtain rfl : n = i := by omega
          have HR3 : Hid (wr.heap[b]? = some (.cells (byteC L).toArray 5 (0, 0))) := Lib.hid (by
            have := HR.out
            rw [Nat.sub_self, List.replicate_zero, List.append_nil, List.take_of_length_le (by omega)] at this
            exact this)
          have hbr := HBr.out.block w.heap.size (by rw [← hbW]; exact lt_of_row HR0.out)
          have HR4 := Lib.hid (hbr.trans HR0.out)
          clear hbr HR
          have hcv := conv_row (c := n) HR3.out
          rw [hLn] at hcv
          go_wp2_with (first | (refine wpList_store_row rfl 56 _ _ rfl w.heap.size _ rfl rfl 56 _ HR4.out (by kernel_rfl) rfl (by simp [Value.oneCell']) ?_) | fail)
          refine bodyPost_ret (results_row_tmp rfl _ _ _ w.heap.size _ _ _ _ rfl (setRow_heap _ _ _ _ _ _ HR4.out) Tryz.underlying56 (by kernel_rfl)) rfl ?_
          refine ⟨?_, below_setRow (HB0.out.trans (HBr.out.mono (by rw [← hbW]; exact HB0.out.size))) (Nat.le_refl _) _⟩
          unfold intBytes
          rw [if_neg (by decide), ← HL.out]
          rfl
  | true =>
    have hg2 : (((k : Int) % 8) != 0) = false := by rcases hg with h | h; cases h; exact h
    clear hg
    go_upto_if 29 with fail
    go_cut [8] (fun uv wx => uv = .int .u64 ((upN v k : Nat) : Int) ∧ W = wx)
    case first =>
      go_wp2_with fail
      · go_meet
        case rel => exact ⟨by rw [up_lt v k hU], rfl⟩
      · go_meet
        case rel => exact ⟨by rw [up_eq v k hU (by have h64 : (64 : Int) ≤ k := by assumption
                                                   omega)], rfl⟩
    case rest =>
      obtain ⟨rfl, rfl⟩ := hcut
      obtain ⟨n, hn⟩ : ∃ n : Nat, n = (k + 7) / 8 := ⟨_, rfl⟩
      have HN := Lib.hid hn
      have hn8 : n ≤ 8 := by omega
      have HLN := Lib.hid (show Calls Tryz.prog 127 #[.int .i64 k] W fun e w' => e = .returned (.int .i64 n) ∧ W = w' by rw [hn]; exact blen_any k (by omega) W)
      obtain ⟨i0, hi, hz0, hz1, hz2⟩ := info_parts infoByte
      clear hn
      go_upto_region 7 with (first | (go_at_call 127; refine HLN.out.mono ?_; rintro e w1 ⟨rfl, rfl⟩) | (at_make; refine wpList_make_full W rfl (.tmp 36) (.tmp 36) 50 rfl W.heap.size 5 i0 (.int .u8 0) 1 Tryz.underlying50 hi hz0 hz1 .i64 .i64 (n : Int) (n : Int) n rfl rfl rfl rfl (by rw [hz2]; omega) (by unfold maxLen; omega) (Nat.le_refl _) ?_; intro w1 hown hgrow) | fail)
      have hrow := made_row hown
      have HB1 := Lib.hid (below_of_grown hgrow)
      have HR1 := Lib.hid hrow
      obtain ⟨X, hX⟩ : ∃ X, X = upN v k := ⟨_, rfl⟩
      obtain ⟨L, hL⟩ : ∃ L, L = bytesN v k := ⟨_, rfl⟩
      have hLn : L.length = n := by rw [hL, bytesN_len]; exact HN.out.symm
      have HLB : Hid (∀ i, i < n → L.getD i 0 = UInt8.ofNat (byteOf X i)) := Lib.hid (fun i hi => by
        rw [hL, hX, List.getD_eq_getElem?_getD]; unfold bytesN; rw [List.getElem?_map, List.getElem?_range (by have := HN.out; omega)]; rfl)
      have HXl : Hid (X < 2 ^ 64) := Lib.hid (by rw [hX]; exact upN_lt v k)
      have HL := Lib.hid hL
      rw [← hX]
      generalize hbW : W.heap.size = b at *
      clear hown hgrow hrow hX hL hi hz0 hz1 hz2
      go_wp2_with fail
      go_loopw [8, 40] (fun uv iv wr => ∃ i : Nat, i ≤ n ∧ uv = .int .u64 ((X * 2 ^ (8 * i) % 18446744073709551616 : Nat) : Int) ∧ iv = .int .i64 i ∧ Hid (wr.heap[b]? = some (.cells (byteC (L.take i ++ List.replicate (n - i) 0)).toArray 5 (0, 0))) ∧ Hid (Below b W wr)) (fun _ iv _ => n - (intOf iv).toNat)
      case atStart => exact ⟨0, Nat.zero_le _, by rw [Nat.mul_zero, Nat.pow_zero, Nat.mul_one, Nat.mod_eq_of_lt HXl.out], rfl, by simpa using HR1, HB1⟩
      case round =>
        obtain ⟨i, hi, rfl, rfl, HR, HBr⟩ := hrel
        rename World => wr
        by_cases hlt : i < n
        · have HBY := Lib.hid (byte_hi X i)
          have HUP := Lib.hid (shift_hi X i)
          have HST := Lib.hid (row_step L n i hlt hLn)
          have hx := HLB.out i hlt
          obtain ⟨c0, hc0⟩ : ∃ c0 : Value, wr.cell? ⟨b, i, none⟩ = some c0 := by
            rw [cell_of_row _ _ _ _ _ _ HR.out, List.getElem?_toArray]
            exact ⟨_, List.getElem?_eq_getElem (by simp [byteC]; omega)⟩
          have hf0 := Lib.frozen_of_heap HR.out i
          generalize X * 2 ^ (8 * i) % 18446744073709551616 = U at *
          generalize hBX : byteOf X i = Y at *
          clear hBX
          have hr := heap_setCell_same wr b i _ _ (.int .u8 ((UInt8.ofNat Y).toNat : Int)) HR.out
          rw [byteC_set, ← hx, HST.out, hx] at hr
          have HR2 := Lib.hid hr
          clear hr
          go_wp2_with fail
          go_roundw
          case rel =>
            rw [HBY.out]
            exact ⟨i + 1, by omega, by rw [HUP.out], by go_num, HR2, Lib.hid (HBr.out.setCell (p := ⟨b, i, none⟩) (Nat.le_refl _) _)⟩
          case measure => simp [intOf]; omega
        · obtain rfl : n = i := by omega
          have HR3 : Hid (wr.heap[b]? = some (.cells (byteC L).toArray 5 (0, 0))) := Lib.hid (by
            have := HR.out
            rw [Nat.sub_self, List.replicate_zero, List.append_nil, List.take_of_length_le (by omega)] at this
            exact this)
          have htn := turn_any L b n wr HR3.out (by omega)
          rw [hLn] at htn
          have HTN := Lib.hid htn
          have hcvv := fun (wx : World) (hx : wx.heap[b]? = some (.cells (byteC L.reverse).toArray 5 (0, 0))) => conv_row (c := n) hx
          rw [List.length_reverse, hLn] at hcvv
          have HBw : Hid (w.heap.size < b) := Lib.hid (by rw [← hbW]; exact lt_of_row HR0.out)
          clear HR htn HR3
          go_upto_region 15 with (first | (go_at_call 128; refine HTN.out.mono ?_; rintro e w5 ⟨rfl, hr5, hg5⟩) | fail)
          have hcv := hcvv w5 hr5
          have hB5 : Below b W w5 := HBr.out.grown hg5 (by rw [← hbW]; exact HBr.out.size) (fun k hk => by cases hk; exact Nat.le_refl _)
          have HB5 := Lib.hid hB5
          have HR4 := Lib.hid ((hB5.block w.heap.size HBw.out).trans HR0.out)
          clear hcvv hr5 hg5 hB5
          go_wp2_with (first | (refine wpList_store_row rfl 56 _ _ rfl w.heap.size _ rfl rfl 56 _ HR4.out (by kernel_rfl) rfl (by simp [Value.oneCell']) ?_) | fail)
          refine bodyPost_ret (results_row_tmp rfl _ _ _ w.heap.size _ _ _ _ rfl (setRow_heap _ _ _ _ _ _ HR4.out) Tryz.underlying56 (by kernel_rfl)) rfl ?_
          refine ⟨?_, below_setRow (HB0.out.trans (HB5.out.mono (by rw [← hbW]; exact HB0.out.size))) (Nat.le_refl _) _⟩
          unfold intBytes
          rw [if_pos rfl, ← HL.out]
          rfl
end Go.Proofs.YthmpobimmbmddaaGreatDoor
