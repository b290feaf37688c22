/-
  FileBursts: the walk.
-/
import Derived.Test.YteleaiodkljigaaDoorFAwake
import Derived.Test.YteleaiodkljigaaDoorFHelp
import Derived.Test.YteleaiodkljigaaDoorFBurst
import Derived.Lib.ConvBytes
namespace Go.Proofs.YteleaiodkljigaaDoor
open Go.RowKit Go.Shelf Go.Lib
set_option linter.unusedVariables false

/-- Block B: the bytes c, and spare ones. -/
def BytesAt (B : Nat) (c z : List UInt8) (w : World) : Prop := ∃ fr : Nat, c.length ≤ fr ∧ w.heap[B]? = some (.cells (rowCells (c ++ z)) 5 (fr, fr + 1))

theorem BytesAt.lt {B : Nat} {c z : List UInt8} {w : World} (h : BytesAt B c z w) : B < w.heap.size := by
  obtain ⟨fr, _, h⟩ := h; exact (Array.getElem?_eq_some_iff.1 h).1
theorem BytesAt.cell {B : Nat} {c z : List UInt8} {w : World} (h : BytesAt B c z w) {j : Nat} (hj : j < c.length) : w.cell? ⟨B, j, none⟩ = some (.int .u8 (c[j]!.toNat : Int)) := by
  obtain ⟨fr, _, h⟩ := h
  rw [cell_of_row _ _ _ _ _ _ h, rowCells_get (by rw [List.length_append]; omega), List.getElem_append_left hj, getElem!_pos c j hj]
theorem BytesAt.free {B : Nat} {c z : List UInt8} {w : World} (h : BytesAt B c z w) {j : Nat} (hj : j < c.length) : w.frozen? ⟨B, j, none⟩ = false := by
  obtain ⟨fr, hf, h⟩ := h
  simp only [World.frozen?, h]
  simp; omega
theorem BytesAt.set {B : Nat} {c z : List UInt8} {w : World} (h : BytesAt B c z w) {j : Nat} (hj : j < c.length) (v : UInt8) : BytesAt B (c.set j v) z (w.setCell ⟨B, j, none⟩ (.int .u8 (v.toNat : Int))) := by
  obtain ⟨fr, hf, h⟩ := h
  refine ⟨fr, by simpa using hf, ?_⟩
  have e : (rowCells (c ++ z)).setIfInBounds j (.int .u8 (v.toNat : Int)) = rowCells (c.set j v ++ z) := by
    unfold rowCells
    rw [← List.set_append_left _ _ hj, List.map_set, List.setIfInBounds_toArray]
  rw [← e]
  exact row_set h _
theorem BytesAt.below {B : Nat} {c z : List UInt8} {w w' : World} (h : BytesAt B c z w) (hb : Below w.heap.size w w') : BytesAt B c z w' := by
  have := h.lt
  obtain ⟨fr, hf, h⟩ := h
  exact ⟨fr, hf, (hb.block B this).trans h⟩
theorem bytes_conv (s : ByteArray) (w : World) : ∃ cap z W1, (convert 9 26 (.string s)).run Tryd.prog w = .ok (.slice (some ⟨w.heap.size, 0, none⟩) s.size cap) W1 ∧ BytesAt w.heap.size s.data.toList z W1 ∧ Below w.heap.size w W1 := by
  refine ⟨_, List.replicate (grownCap w s.size 0 5 - s.size) 0, _, Go.Lib.run_convert_string_bytes w _ _ _ s Tryd.underlying9 Tryd.underlying26 Tryd.underlying5, ?_, ?_⟩
  · have e : rowCells (s.data.toList ++ List.replicate (grownCap w s.size 0 5 - s.size) 0) = bytesCells w 5 s := by
      unfold rowCells bytesCells
      apply Array.ext'
      simp
    refine ⟨(bytesCells w 5 s).size, ?_, ?_⟩
    · rw [← e]; simp [rowCells]
    · rw [e]; exact bytesWorld_at_new w _ s
  · exact ⟨rfl, rfl, rfl, by rw [bytesWorld_size]; omega, fun k hk => bytesWorld_at_old w _ s k hk⟩
/-- string(b) of the bytes of a block. -/
theorem bytes_back {B : Nat} {c z : List UInt8} {w : World} (h : BytesAt B c z w) (n cap : Nat) (hn : n = c.length) : (convert 26 9 (.slice (some ⟨B, 0, none⟩) n cap)).run Tryd.prog w = .ok (.string ⟨c.toArray⟩) w := by
  obtain ⟨fr, hf, h⟩ := h
  subst hn
  exact conv_row B 0 c.length cap c (c ++ z) _ _ w h (by simp) (by simp)

theorem xor_u8 (a : UInt8) (m : Nat) : bits .xor .u8 (a.toNat : Int) (2 ^ m % 256) = ((a ^^^ UInt8.ofNat (2 ^ m)).toNat : Int) := by
  have hb : (2 ^ m % 256 : Int) = ((UInt8.ofNat (2 ^ m)).toNat : Int) := by
    rw [UInt8.toNat_ofNat', Int.natCast_emod, Int.natCast_pow]; rfl
  rw [hb]
  generalize UInt8.ofNat (2 ^ m) = b
  have ha := a.toNat_lt; have hb := b.toNat_lt
  have hx : a.toNat ^^^ b.toNat < 2 ^ 8 := Nat.xor_lt_two_pow (by omega) (by omega)
  have h1 : (BitVec.ofInt 8 (a.toNat : Int)).toNat = a.toNat := by
    rw [BitVec.ofInt_natCast, BitVec.toNat_ofNat]; exact Nat.mod_eq_of_lt (by omega)
  have h2 : (BitVec.ofInt 8 (b.toNat : Int)).toNat = b.toNat := by
    rw [BitVec.ofInt_natCast, BitVec.toNat_ofNat]; exact Nat.mod_eq_of_lt (by omega)
  show IntKind.u8.wrap ((BitVec.ofInt 8 (a.toNat : Int) ^^^ BitVec.ofInt 8 (b.toNat : Int)).toNat : Int) = _
  rw [BitVec.toNat_xor, h1, h2, IntKind.wrap_u8, UInt8.toNat_xor]
  omega
theorem wf64 {n : Int} (h : (Lit.int .i64 n).wf = true) : -9223372036854775808 ≤ n ∧ n ≤ 9223372036854775807 := by
  simp [Lit.wf, IntKind.min, IntKind.max, IntKind.bits, IntKind.signed] at h; omega
theorem wfu32 {n : Int} (h : (Lit.int .u32 n).wf = true) : 0 ≤ n ∧ n ≤ 4294967295 := by
  simp [Lit.wf, IntKind.min, IntKind.max, IntKind.bits, IntKind.signed] at h; omega

set_option maxRecDepth 100000 in
set_option maxHeartbeats 4000000 in
theorem burst_walk (a0 : ByteArray) (a1 a2 : Int) (w0 : a0.size ≤ maxLen) (w1 : (Lit.int .i64 a1).wf = true) (w2 : (Lit.int .u32 a2).wf = true) (w : World) :
    Calls Tryd.prog 4 #[.string a0, .int .i64 a1, .int .u32 a2] w fun e w' => e = .returned (.bool true) ∧ Below w.heap.size w w' := by
  by_cases big : 60000 < a0.size
  · go_enter Tryd.func4, Tryd.ntmps4
    go_wp2_with (go_at_call 10; refine (awake_any _).mono ?_; rintro e w1 ⟨rfl, hb1⟩)
    go_ret
    exact ⟨rfl, hb1⟩
  · by_cases h0 : a0.size = 0
    · have h0b : ((a0.size : Int) == 0) = true := by rw [h0]; rfl
      clear h0
      go_enter Tryd.func4, Tryd.ntmps4
      go_wp2_with (go_at_call 10; refine (awake_any _).mono ?_; rintro e w1 ⟨rfl, hb1⟩)
      go_ret
      exact ⟨rfl, hb1⟩
    · have h0b : ((a0.size : Int) == 0) = false := by rw [beq_eq_false_iff_ne]; omega
      go_enter Tryd.func4, Tryd.ntmps4
      obtain ⟨cap, z, W1, hrun, hBy, hBe⟩ := bytes_conv a0 w
      have i1 := wf64 w1
      have i2 := wfu32 w2
      clear w1 w2
      obtain ⟨mask, rfl⟩ := Int.eq_ofNat_of_zero_le i2.1
      have hsz := size_list a0
      generalize hL : a0.data.toList = L at *
      have HL := Lib.hid hL; clear hL
      have HSZ := Lib.hid hsz; clear hsz
      go_wp2_with fail
      refine (pick_any a1 (8 * (a0.size : Int)) _ (by omega) (by omega) (by omega) (by omega)).mono ?_
      rintro e w3 ⟨s, hs, rfl, rfl⟩
      clear hrun
      have hBlt := hBy.lt
      generalize hBB : w.heap.size = B at hBy ⊢
      go_wp2_with fail
      have hW1 : Below w.heap.size w W1 := hBe
      have hsl : s < 8 * a0.size := by omega
      have hBle : B ≤ w.heap.size := by omega
      have HBB := Lib.hid hBB; clear hBB
      go_loopw [9, 10] (fun ch iv wr => ∃ (i : Nat) (c : List UInt8), i ≤ 32 ∧ s + i ≤ 8 * a0.size ∧ iv = .int .i64 i ∧ (∃ q : Bool, ch = .bool q ∧ Hid (q = decide (mask % 2 ^ i ≠ 0))) ∧ Hid (c.length = a0.size) ∧ Hid (LE c = LE L ^^^ (2 ^ s * (mask % 2 ^ i))) ∧ BytesAt B c z wr ∧ Below w.heap.size w wr) (fun _ i _ => 32 - (intOf i).toNat)
      case atStart => exact ⟨0, L, by omega, by omega, rfl, ⟨_, rfl, Lib.hid (by simp [Nat.mod_one])⟩, HSZ, Lib.hid (by simp [Nat.mod_one]), hBy, hW1⟩
      case round =>
        obtain ⟨i, c, hi, hsi, rfl, ⟨q, rfl, HQ⟩, HC, HLE, hb, hB⟩ := hrel
        rename World => wr
        by_cases hgo : i < 32 ∧ s + i < 8 * a0.size
        · obtain ⟨hi32, hs8⟩ := hgo
          have hmod : (((mask : Int) / 2 ^ i).tmod 2) = ((mask / 2 ^ i % 2 : Nat) : Int) := by
            have e : ((mask : Int) / 2 ^ i) = ((mask / 2 ^ i : Nat) : Int) := by push_cast; rfl
            rw [e, Int.tmod_eq_emod_of_nonneg (Int.natCast_nonneg _)]; rfl
          by_cases hbit : mask / 2 ^ i % 2 = 1
          · have hmt : ((((mask : Int) / 2 ^ i).tmod 2) == 1) = true := by rw [hmod, hbit]; rfl
            have HN := Lib.hid (mask_next HLE.out (by rw [HC.out]; exact hs8) hbit)
            clear hmod
            have hj : (s + i) / 8 < c.length := by rw [HC.out]; omega
            have hcell := hb.cell hj
            have hfree := hb.free hj
            have HSET := Lib.hid (hb.set hj)
            clear hb
            have HX : Hid (bits .xor .u8 (c[(s + i) / 8].toNat : Int) (2 ^ ((s + i) % 8) % 256) = ((c[(s + i) / 8]! ^^^ UInt8.ofNat (2 ^ ((s + i) % 8))).toNat : Int)) := Lib.hid (by
              rw [getElem!_pos c _ hj]; exact xor_u8 _ _)
            go_wp2_with fail
            refine ⟨⟨i + 1, turn c (s + i), by omega, by omega, by go_num, ⟨true, rfl, Lib.hid ?_⟩, Lib.hid (by rw [turn_len]; exact HC.out), HN, ?_, ?_⟩, ?_⟩
            · have h1 : mask % 2 ^ (i + 1) = mask % 2 ^ i + 2 ^ i * (mask / 2 ^ i % 2) := by rw [Nat.pow_succ, Nat.mod_mul]
              have := Nat.two_pow_pos i
              rw [hbit, Nat.mul_one] at h1
              exact (decide_eq_true (by omega)).symm
            · rw [HX.out]; exact HSET.out _
            · exact hB.setCell (by show w.heap.size ≤ B; rw [HBB.out]; exact Nat.le_refl _) _
            · simp [intOf]; omega
          · have hmt : ((((mask : Int) / 2 ^ i).tmod 2) == 1) = false := by
              rw [hmod, beq_eq_false_iff_ne]; omega
            have h0 : mask / 2 ^ i % 2 = 0 := by omega
            have HK := Lib.hid (mask_keep h0)
            clear hmod h0 hbit
            go_wp2_with fail
            refine ⟨⟨i + 1, c, by omega, by omega, by go_num, ⟨q, rfl, Lib.hid ?_⟩, HC, Lib.hid ?_, hb, hB⟩, ?_⟩
            · rw [HK.out]; exact HQ.out
            · rw [HK.out]; exact HLE.out
            · simp [intOf]; omega
        · have hm2 : mask % 2 ^ i < 4294967296 := Nat.lt_of_le_of_lt (Nat.mod_le _ _) (by omega)
          have hlen : c.length = L.length := by rw [HC.out, HSZ.out]
          have hbu := burst (b := L) (c := c) (s := s) (m := mask % 2 ^ i) hlen (by rw [HSZ.out]; omega) hm2 HLE.out
          have hcv := bytes_back hb a0.size cap HC.out.symm
          have hcs : (⟨c.toArray⟩ : ByteArray).size = a0.size := by show c.toArray.size = _; rw [List.size_toArray]; exact HC.out
          have hs1 : ∀ wx, Calls Tryd.prog 11 #[.string ⟨c.toArray⟩] wx fun e w' => e = .returned (.int .u32 (crc c)) ∧ Below wx.heap.size wx w' := fun wx => sum_any ⟨c.toArray⟩ wx (by rw [hcs]; exact w0)
          have hs2 : ∀ wx, Calls Tryd.prog 11 #[.string a0] wx fun e w' => e = .returned (.int .u32 (crc L)) ∧ Below wx.heap.size wx w' := fun wx => by
            have := sum_any a0 wx w0
            rw [HL.out] at this; exact this
          have hfin : ¬ ((((crc c : Nat) : Int) == ((crc L : Nat) : Int)) = q) := by
            rw [HQ.out]
            by_cases h0 : mask % 2 ^ i = 0
            · have := hbu.2 h0
              rw [this, h0]; simp
            · have hne : crc c ≠ crc L := fun e => h0 (hbu.1 e)
              have : (((crc c : Nat) : Int) == ((crc L : Nat) : Int)) = false := by rw [beq_eq_false_iff_ne]; omega
              rw [this, decide_eq_true h0]; decide
          have HF : Hid ((!((((crc c : Nat) : Int) == ((crc L : Nat) : Int)) == q)) = true) := Lib.hid (by
            rw [Bool.not_eq_true', beq_eq_false_iff_ne]; exact hfin)
          clear hbu hlen hm2 hcs
          generalize crc c = x at *
          generalize crc L = y at *
          have hstop : i < 32 → ¬ ((s : Int) + i < 8 * a0.size) := fun h => by omega
          by_cases h32 : i < 32
          · have hst := hstop h32
            clear hgo hstop
            go_wp2_with fail
            refine (hs1 _).mono ?_
            rintro e w4 ⟨rfl, hb4⟩
            go_wp2_with fail
            refine (hs2 _).mono ?_
            rintro e w5 ⟨rfl, hb5⟩
            go_wp2_with fail
            refine (awake_any _).mono ?_
            rintro e w6 ⟨rfl, hb6⟩
            go_wp2_with fail
            go_ret
            have x1 := hB.trans (hb4.mono hB.size)
            have x2 := x1.trans (hb5.mono x1.size)
            exact ⟨retb HF.out, x2.trans (hb6.mono x2.size)⟩
          · clear hgo hstop
            go_wp2_with fail
            refine (hs1 _).mono ?_
            rintro e w4 ⟨rfl, hb4⟩
            go_wp2_with fail
            refine (hs2 _).mono ?_
            rintro e w5 ⟨rfl, hb5⟩
            go_wp2_with fail
            refine (awake_any _).mono ?_
            rintro e w6 ⟨rfl, hb6⟩
            go_wp2_with fail
            go_ret
            have x1 := hB.trans (hb4.mono hB.size)
            have x2 := x1.trans (hb5.mono x1.size)
            exact ⟨retb HF.out, x2.trans (hb6.mono x2.size)⟩

end Go.Proofs.YteleaiodkljigaaDoor
