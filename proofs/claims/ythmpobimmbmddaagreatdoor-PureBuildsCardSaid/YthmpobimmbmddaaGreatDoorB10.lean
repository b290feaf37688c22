/-
  (*measure).of: the walk (printed by gen_of2.py). slices.ContainsFunc over terms, terms.sum, Check, Valid: the walks.
-/
import Derived.RegionTactic
import Derived.BigRegion
import Derived.Test.YthmpobimmbmddaaGreatDoorB05
import Derived.Test.YthmpobimmbmddaaGreatDoorB09
namespace Go.Proofs.YthmpobimmbmddaaGreatDoor
open Go.RowKit
set_option linter.unusedVariables false
set_option linter.unusedSimpArgs false

/-- Block M is a measure with this size. -/
def MeasAt (M : Nat) (s : Int) (w : World) : Prop := w.heap[M]? = some (.cells #[.func (.func 206) #[] #[], .func (.func 207) #[] #[], .func (.func 208) #[] #[], .func (.func 203) #[] #[], .func (.func 209) #[] #[], .func (.func 210) #[] #[], .func (.func 203) #[] #[], .func (.func 211) #[] #[], .func (.func 212) #[] #[], .func (.func 213) #[] #[], .func (.func 214) #[] #[], .int .i64 s] 168 (0, 0))
/-- A bound of how much is counted. -/
theorem sk_of {W w : World} (h : Below W.heap.size W w) : W.heap.size ≤ w.heap.size ∧ ∀ b o, b < W.heap.size → w.cell? ⟨b, o, none⟩ = W.cell? ⟨b, o, none⟩ := ⟨h.size, fun b o hb => h.cell (p := ⟨b, o, none⟩) hb⟩
theorem sk_drew {W w : World} (h : W.heap.size ≤ w.heap.size ∧ ∀ b o, b < W.heap.size → w.cell? ⟨b, o, none⟩ = W.cell? ⟨b, o, none⟩) : W.heap.size ≤ w.drew.heap.size ∧ ∀ b o, b < W.heap.size → w.drew.cell? ⟨b, o, none⟩ = W.cell? ⟨b, o, none⟩ := h
theorem sk_alloc {W w : World} {o : Obj} (h : W.heap.size ≤ w.heap.size ∧ ∀ b o, b < W.heap.size → w.cell? ⟨b, o, none⟩ = W.cell? ⟨b, o, none⟩) : W.heap.size ≤ (w.alloc o).heap.size ∧ ∀ b q, b < W.heap.size → (w.alloc o).cell? ⟨b, q, none⟩ = W.cell? ⟨b, q, none⟩ :=
  ⟨by have := h.1; simp; omega, fun b q hb => (((Below.refl w.heap.size w).alloc (Nat.le_refl _) o).cell (p := ⟨b, q, none⟩) (Nat.lt_of_lt_of_le hb h.1)).trans (h.2 b q hb)⟩
theorem sk_below {W w w' : World} (h : W.heap.size ≤ w.heap.size ∧ ∀ b o, b < W.heap.size → w.cell? ⟨b, o, none⟩ = W.cell? ⟨b, o, none⟩) (hb : Below w.heap.size w w') : W.heap.size ≤ w'.heap.size ∧ ∀ b o, b < W.heap.size → w'.cell? ⟨b, o, none⟩ = W.cell? ⟨b, o, none⟩ :=
  ⟨Nat.le_trans h.1 hb.size, fun b q hbl => (hb.cell (p := ⟨b, q, none⟩) (Nat.lt_of_lt_of_le hbl h.1)).trans (h.2 b q hbl)⟩
theorem sk_set {W w : World} {q : Nat} {v : Value} (h : W.heap.size ≤ w.heap.size ∧ ∀ b o, b < W.heap.size → w.cell? ⟨b, o, none⟩ = W.cell? ⟨b, o, none⟩) : W.heap.size ≤ (w.setCell ⟨W.heap.size, q, none⟩ v).heap.size ∧ ∀ b o, b < W.heap.size → (w.setCell ⟨W.heap.size, q, none⟩ v).cell? ⟨b, o, none⟩ = W.cell? ⟨b, o, none⟩ :=
  ⟨by simpa [World.setCell] using h.1, fun b o hb => (World.cell?_of_block (Below.heap_setCell _ _ _ _ (Nat.ne_of_lt hb))).trans (h.2 b o hb)⟩
theorem sk_set9 {W w : World} {v0 v1 v2 v3 v4 v5 v6 v7 v8 : Value} (h : W.heap.size ≤ w.heap.size ∧ ∀ b o, b < W.heap.size → w.cell? ⟨b, o, none⟩ = W.cell? ⟨b, o, none⟩) :
    W.heap.size ≤ (((((((((w.setCell ⟨W.heap.size, 0, none⟩ v0).setCell ⟨W.heap.size, 1, none⟩ v1).setCell ⟨W.heap.size, 2, none⟩ v2).setCell ⟨W.heap.size, 3, none⟩ v3).setCell ⟨W.heap.size, 4, none⟩ v4).setCell ⟨W.heap.size, 5, none⟩ v5).setCell ⟨W.heap.size, 6, none⟩ v6).setCell ⟨W.heap.size, 7, none⟩ v7).setCell ⟨W.heap.size, 8, none⟩ v8).heap.size ∧
      ∀ b o, b < W.heap.size → (((((((((w.setCell ⟨W.heap.size, 0, none⟩ v0).setCell ⟨W.heap.size, 1, none⟩ v1).setCell ⟨W.heap.size, 2, none⟩ v2).setCell ⟨W.heap.size, 3, none⟩ v3).setCell ⟨W.heap.size, 4, none⟩ v4).setCell ⟨W.heap.size, 5, none⟩ v5).setCell ⟨W.heap.size, 6, none⟩ v6).setCell ⟨W.heap.size, 7, none⟩ v7).setCell ⟨W.heap.size, 8, none⟩ v8).cell? ⟨b, o, none⟩ = W.cell? ⟨b, o, none⟩ :=
  sk_set (sk_set (sk_set (sk_set (sk_set (sk_set (sk_set (sk_set (sk_set h))))))))


/-- What counting leaves. -/
def CntQ (M : Nat) (s : Int) (cap : Nat) (ok : Bool) (add : Int) (w w' : World) : Prop := w.grownBy w' (some M) ∧ ∃ s' : Int, s ≤ s' ∧ s' ≤ s + cap ∧ MeasAt M s' w' ∧ (ok = true → s' = s + add)
/-- (*measure).of on terms whose items are of a depth. -/
def OfP (f : Nat) : Prop := ∀ (t : Tm) (so : Option Addr) (c M : Nat) (s : Int) (w0 w : World), SlAt w0 9 (TmAt w0 f) so t.items → t.Ok → Below w0.heap.size w0 w → w0.heap.size ≤ M → MeasAt M s w → 0 ≤ s → s + capF (f + 1) t ≤ 1152921504606846976 →
  Calls Tryz.prog 182 #[.pointer (some ⟨M, 0, none⟩), .agg #[.int .i64 t.kind, .int .i64 t.int, .int .i64 t.gen, .string t.name, .string t.func, .int .i64 t.arity, .slice so t.items.length c, .string t.bytes, .int .i64 t.bits]] w fun e w' => e = .returned (.bool (formF (f + 1) t)) ∧ CntQ M s (capF (f + 1) t) (formF (f + 1) t) (wholeF (f + 1) t) w w'
/-- slices.ContainsFunc over terms of a depth. -/
def CfP (f : Nat) : Prop := ∀ (l : List Tm) (ao : Option Addr) (c M mb : Nat) (s : Int) (w0 w : World), SlAt w0 9 (TmAt w0 f) ao l → l.length ≤ maxLen → Below w0.heap.size w0 w → w0.heap.size ≤ M → MeasAt M s w → w.heap[mb]? = some (.cells #[.pointer (some ⟨M, 0, none⟩)] 164 (0, 0)) → mb ≠ M → 0 ≤ s → s + sumN (l.map (capF f)) ≤ 1152921504606846976 →
  Calls Tryz.prog 215 #[.slice ao l.length c, .func (.func 216) #[] #[.pointer (some ⟨mb, 0, none⟩)]] w fun e w' => e = .returned (.bool (!(l.all (formF f)))) ∧ CntQ M s (sumN (l.map (capF f))) (l.all (formF f)) (sumI (l.map (wholeF f))) w w'
theorem grownBy_set (w : World) (r o : Nat) (v : Value) : w.grownBy (w.setCell ⟨r, o, none⟩ v) (some r) :=
  ⟨rfl, rfl, rfl, by simp [World.setCell], fun k _ hk => Below.heap_setCell _ _ _ _ (fun e => hk (by rw [e]))⟩
theorem meas_set {M : Nat} {s s' : Int} {w : World} (h : MeasAt M s w) : MeasAt M s' (w.setCell ⟨M, 11, none⟩ (.int .i64 s')) := heap_setCell_same _ _ 11 _ _ (.int .i64 s') h
theorem MeasAt.below {M : Nat} {s : Int} {w w' : World} (h : MeasAt M s w) (hb : Below w.heap.size w w') : MeasAt M s w' := (hb.block M (lt_of_row h)).trans h
theorem MeasAt.cell {M : Nat} {s : Int} {w : World} (h : MeasAt M s w) : w.cell? ⟨M, 11, none⟩ = some (.int .i64 s) ∧ w.frozen? ⟨M, 11, none⟩ = false := ⟨cell_of_row _ _ 11 _ _ _ h, frozen_of_row _ _ 11 _ _ h⟩
/-- Below the old heap nothing is touched where the written block lies above it. -/
theorem below_grown {w0 a b : World} {M : Nat} (h : Below w0.heap.size w0 a) (hg : a.grownBy b (some M)) (hM : w0.heap.size ≤ M) : Below w0.heap.size w0 b := h.grown hg h.size (fun k hk => by cases hk; exact hM)
theorem leftT_len (t : Tm) : (leftT t).items.length ≤ t.items.length := by
  unfold leftT
  repeat' split
  all_goals first | exact Nat.le_refl _ | exact Nat.zero_le _
theorem bits_bound {t : Tm} (h : locB t = true) (hk : t.kind = 10) : 0 ≤ t.bits ∧ t.bits ≤ 16384 := by
  unfold locB okK bitsB bitsV wi at h
  simp only [hk] at h
  simp at h
  omega
theorem len_bound {t : Tm} (h : locB t = true) (hk : t.kind = 9) : 2 ≤ t.items.length := by
  unfold locB okK at h
  simp only [hk] at h
  simp at h
  omega
theorem locB_kind {t : Tm} (h : ¬ (0 ≤ t.kind ∧ t.kind < 11)) : locB t = false := by
  unfold locB; rw [okK_none (by omega)]; rfl

set_option maxRecDepth 100000 in
set_option maxHeartbeats 8000000 in
theorem of_out {f : Nat} (t : Tm) (so : Option Addr) (c M : Nat) (s : Int) (w0 w : World) (hm : MeasAt M s w) (hk : ¬ (0 ≤ t.kind ∧ t.kind < 11)) :
    Calls Tryz.prog 182 #[.pointer (some ⟨M, 0, none⟩), .agg #[.int .i64 t.kind, .int .i64 t.int, .int .i64 t.gen, .string t.name, .string t.func, .int .i64 t.arity, .slice so t.items.length c, .string t.bytes, .int .i64 t.bits]] w fun e w' => e = .returned (.bool (formF (f + 1) t)) ∧ CntQ M s (capF (f + 1) t) (formF (f + 1) t) (wholeF (f + 1) t) w w' := by
  have E : Hid (formF (f + 1) t = false) := Lib.hid (by unfold formF; rw [locB_kind hk]; rfl)
  have H2 := Lib.hid (two_below w (.cells #[.pointer (some ⟨M, 0, none⟩)] 164) (.cells #[.int .i64 t.kind, .int .i64 t.int, .int .i64 t.gen, .string t.name, .string t.func, .int .i64 t.arity, .slice so t.items.length c, .string t.bytes, .int .i64 t.bits] 28))
  by_cases h0 : t.kind < 0
  · go_enter Tryz.func182, Tryz.ntmps182
    go_wp2_with fail
    go_ret
    exact ⟨retb E.out.symm, grownBy_below H2.out _, s, Int.le_refl _, by omega, hm.below H2.out, fun h => absurd (E.out.symm.trans h) (by decide)⟩
  · have h1 : 11 ≤ t.kind := by omega
    have h0' : 0 ≤ t.kind := by omega
    clear hk h0
    go_enter Tryz.func182, Tryz.ntmps182
    go_wp2_with fail
    go_ret
    exact ⟨retb E.out.symm, grownBy_below H2.out _, s, Int.le_refl _, by omega, hm.below H2.out, fun h => absurd (E.out.symm.trans h) (by decide)⟩

set_option maxRecDepth 100000 in
set_option maxHeartbeats 40000000 in
theorem of_in {f : Nat} (HC : Hid (CfP f)) (t : Tm) (so : Option Addr) (c M : Nat) (s : Int) (w0 w : World) (ht : SlAt w0 9 (TmAt w0 f) so t.items) (hok : t.Ok) (hb : Below w0.heap.size w0 w) (hM : w0.heap.size ≤ M) (hm : MeasAt M s w) (hs0 : 0 ≤ s) (hs1 : s + capF (f + 1) t ≤ 1152921504606846976) (hk0 : 0 ≤ t.kind) (hk1 : t.kind < 11) :
    Calls Tryz.prog 182 #[.pointer (some ⟨M, 0, none⟩), .agg #[.int .i64 t.kind, .int .i64 t.int, .int .i64 t.gen, .string t.name, .string t.func, .int .i64 t.arity, .slice so t.items.length c, .string t.bytes, .int .i64 t.bits]] w fun e w' => e = .returned (.bool (formF (f + 1) t)) ∧ CntQ M s (capF (f + 1) t) (formF (f + 1) t) (wholeF (f + 1) t) w w' := by
  have hMl := lt_of_row hm
  have HT := Lib.hid ht; have HOK := Lib.hid hok; have HB := Lib.hid hb; have HM := Lib.hid hm
  clear ht hok hb hm
  generalize hkt : t.kind = tk at *
  have HKT := Lib.hid hkt
  clear hkt
  go_enter Tryz.func182, Tryz.ntmps182
  go_upto_region 3 with fail
  have r0 := two0 w (.cells #[.pointer (some ⟨M, 0, none⟩)] 164) (.cells #[.int .i64 tk, .int .i64 t.int, .int .i64 t.gen, .string t.name, .string t.func, .int .i64 t.arity, .slice so t.items.length c, .string t.bytes, .int .i64 t.bits] 28)
  have r1 := two1 w (.cells #[.pointer (some ⟨M, 0, none⟩)] 164) (.cells #[.int .i64 tk, .int .i64 t.int, .int .i64 t.gen, .string t.name, .string t.func, .int .i64 t.arity, .slice so t.items.length c, .string t.bytes, .int .i64 t.bits] 28)
  have hB2 := two_below w (.cells #[.pointer (some ⟨M, 0, none⟩)] 164) (.cells #[.int .i64 tk, .int .i64 t.int, .int .i64 t.gen, .string t.name, .string t.func, .int .i64 t.arity, .slice so t.items.length c, .string t.bytes, .int .i64 t.bits] 28)
  have HM2 := Lib.hid (HM.out.below hB2)
  have hMl2 : M < ((w.alloc (.cells #[.pointer (some ⟨M, 0, none⟩)] 164)).alloc (.cells #[.int .i64 tk, .int .i64 t.int, .int .i64 t.gen, .string t.name, .string t.func, .int .i64 t.arity, .slice so t.items.length c, .string t.bytes, .int .i64 t.bits] 28)).heap.size := Nat.lt_of_lt_of_le hMl hB2.size
  generalize (w.alloc (.cells #[.pointer (some ⟨M, 0, none⟩)] 164)).alloc (.cells #[.int .i64 tk, .int .i64 t.int, .int .i64 t.gen, .string t.name, .string t.func, .int .i64 t.arity, .slice so t.items.length c, .string t.bytes, .int .i64 t.bits] 28) = W2 at *
  have HB2 := Lib.hid hB2
  have hBM : M < w.heap.size := hMl
  have HMB : Hid (w.heap.size ≠ M) := Lib.hid (Nat.ne_of_gt hMl)
  have HWB : Hid (w0.heap.size ≤ w.heap.size) := Lib.hid HB.out.size
  have HML := Lib.hid hBM
  obtain ⟨q0, q1, q2, q3, q4, q5, q6, q7, q8, z1⟩ := term_cells r1
  have b0 : W2.cell? ⟨w.heap.size, 0, none⟩ = some (.pointer (some ⟨M, 0, none⟩)) := by rw [cell_of_row _ _ _ _ _ _ r0]; rfl
  have hl0 := lt_of_row r0
  have hl1 := lt_of_row r1
  have R0 := Lib.hid r0; have R1 := Lib.hid r1
  clear z1 r0 r1 hB2 hMl hBM
  generalize hBe : w.heap.size = B at *
  have HBW2 : Hid (Below w.heap.size w W2) := Lib.hid (by rw [hBe]; exact HB2.out)
  have HBE := Lib.hid hBe
  clear hBe
  go_cut [5, 6] (fun s5 s6 wx => ∃ (L : Nat) (so' : Option Addr) (c' : Nat), s5 = .pointer (some ⟨L, 0, none⟩) ∧ s6 = .bool (okK t) ∧ W2.heap.size ≤ L ∧ SlAt w0 9 (TmAt w0 f) so' (leftT t).items ∧ wx.heap[L]? = some (.cells #[.int .i64 (leftT t).kind, .int .i64 (leftT t).int, .int .i64 (leftT t).gen, .string (leftT t).name, .string (leftT t).func, .int .i64 (leftT t).arity, .slice so' (leftT t).items.length c', .string (leftT t).bytes, .int .i64 (leftT t).bits] 28 (0, 0)) ∧ Below W2.heap.size W2 wx)
  case first =>
    have HDR := Lib.hid ((Below.refl W2.heap.size W2).drew)
    have HDA := Lib.hid (((Below.refl W2.heap.size W2).alloc (Nat.le_refl _) (.cells #[.int .i64 0, .int .i64 0, .int .i64 0, .string ⟨#[]⟩, .string ⟨#[]⟩, .int .i64 0, .slice none 0 0, .string ⟨#[]⟩, .int .i64 0] 28)).drew)
    have SK0 := Lib.hid (sk_of HDR.out)
    have SK1 := Lib.hid (sk_of HDA.out)
    have HAN : Hid ((W2.alloc (.cells #[.int .i64 0, .int .i64 0, .int .i64 0, .string ⟨#[]⟩, .string ⟨#[]⟩, .int .i64 0, .slice none 0 0, .string ⟨#[]⟩, .int .i64 0] 28)).drew.heap[W2.heap.size]? = some (.cells zeroRow 28 (0, 0))) := Lib.hid (heap_alloc_new W2 _)
    have hkk : tk = 0 ∨ tk = 1 ∨ tk = 2 ∨ tk = 3 ∨ tk = 4 ∨ tk = 5 ∨ tk = 6 ∨ tk = 7 ∨ tk = 8 ∨ tk = 9 ∨ tk = 10 := by omega
    clear hk0 hk1 hs0 hs1
    rcases hkk with rfl | rfl | rfl | rfl | rfl | rfl | rfl | rfl | rfl | rfl | rfl

    · have hQ : ∀ wx, Calls Tryz.prog 206 #[.agg #[.int .i64 0, .int .i64 t.int, .int .i64 t.gen, .string t.name, .string t.func, .int .i64 t.arity, .slice so t.items.length c, .string t.bytes, .int .i64 t.bits]] wx (KindQ w0 wx f t) := fun wx => by have h := kindQ_0 t so c f w0 wx HT.out HKT.out; rwa [HKT.out] at h
      have n0 : W2.cell? ⟨M, 0, none⟩ = some (.func (.func 206) #[] #[]) := cell_of_row _ _ 0 _ _ _ HM2.out
      first | go_region_held3 (fun w' => W2.heap.size ≤ w'.heap.size ∧ ∀ b o, b < W2.heap.size → w'.cell? ⟨b, o, none⟩ = W2.cell? ⟨b, o, none⟩) (first | with_reducible exact HK5.out | with_reducible exact SK0.out | with_reducible exact sk_alloc SK0.out | with_reducible exact SK1.out | with_reducible exact sk_alloc HK5.out | with_reducible exact sk_set9 HK5.out)
        ((go_at_call 206; refine (hQ _).mono ?_; rintro e w5 ⟨so', c', rfl, hs', hb5⟩; first | (have hbb : Below W2.heap.size W2 w5 := (by with_reducible exact below_next HDR.out hb5); have HK5 := Lib.hid (sk_of hbb)) | (have hbb : Below W2.heap.size W2 w5 := (by with_reducible exact below_next HDA.out hb5); have xl : w5.heap[W2.heap.size]? = some (.cells zeroRow 28 (0, 0)) := (hb5.block W2.heap.size (lt_of_row HAN.out)).trans HAN.out; have XL := Lib.hid xl; obtain ⟨l0, l1, l2, l3, l4, l5, l6, l7, l8, lz⟩ := term_cells xl; clear xl; have HK5 := Lib.hid (sk_of hbb)))) | fail
      · go_wp2_with fail
        go_meet
        case rel => exact ⟨_, so', c', rfl, rfl, hbb.size, hs', heap_alloc_new _ _, hbb.alloc hbb.size _⟩
      · go_wp2_with fail
        go_meet
        case rel => exact ⟨_, so', c', rfl, rfl, Nat.le_refl _, hs', set9 _ _ _ _ _ _ _ _ _ XL.out, below9 (Nat.le_refl _) hbb _ _ _ _ _ _ _ _ _⟩
    · have hQ : ∀ wx, Calls Tryz.prog 207 #[.agg #[.int .i64 1, .int .i64 t.int, .int .i64 t.gen, .string t.name, .string t.func, .int .i64 t.arity, .slice so t.items.length c, .string t.bytes, .int .i64 t.bits]] wx (KindQ w0 wx f t) := fun wx => by have h := kindQ_1 t so c f w0 wx HT.out HKT.out; rwa [HKT.out] at h
      have n0 : W2.cell? ⟨M, 1, none⟩ = some (.func (.func 207) #[] #[]) := cell_of_row _ _ 1 _ _ _ HM2.out
      first | go_region_held3 (fun w' => W2.heap.size ≤ w'.heap.size ∧ ∀ b o, b < W2.heap.size → w'.cell? ⟨b, o, none⟩ = W2.cell? ⟨b, o, none⟩) (first | with_reducible exact HK5.out | with_reducible exact SK0.out | with_reducible exact sk_alloc SK0.out | with_reducible exact SK1.out | with_reducible exact sk_alloc HK5.out | with_reducible exact sk_set9 HK5.out)
        ((go_at_call 207; refine (hQ _).mono ?_; rintro e w5 ⟨so', c', rfl, hs', hb5⟩; first | (have hbb : Below W2.heap.size W2 w5 := (by with_reducible exact below_next HDR.out hb5); have HK5 := Lib.hid (sk_of hbb)) | (have hbb : Below W2.heap.size W2 w5 := (by with_reducible exact below_next HDA.out hb5); have xl : w5.heap[W2.heap.size]? = some (.cells zeroRow 28 (0, 0)) := (hb5.block W2.heap.size (lt_of_row HAN.out)).trans HAN.out; have XL := Lib.hid xl; obtain ⟨l0, l1, l2, l3, l4, l5, l6, l7, l8, lz⟩ := term_cells xl; clear xl; have HK5 := Lib.hid (sk_of hbb)))) | fail
      · go_wp2_with fail
        go_meet
        case rel => exact ⟨_, so', c', rfl, rfl, hbb.size, hs', heap_alloc_new _ _, hbb.alloc hbb.size _⟩
      · go_wp2_with fail
        go_meet
        case rel => exact ⟨_, so', c', rfl, rfl, Nat.le_refl _, hs', set9 _ _ _ _ _ _ _ _ _ XL.out, below9 (Nat.le_refl _) hbb _ _ _ _ _ _ _ _ _⟩
    · have hQ : ∀ wx, Calls Tryz.prog 208 #[.agg #[.int .i64 2, .int .i64 t.int, .int .i64 t.gen, .string t.name, .string t.func, .int .i64 t.arity, .slice so t.items.length c, .string t.bytes, .int .i64 t.bits]] wx (KindQ w0 wx f t) := fun wx => by have h := kindQ_2 t so c f w0 wx HT.out HKT.out; rwa [HKT.out] at h
      have n0 : W2.cell? ⟨M, 2, none⟩ = some (.func (.func 208) #[] #[]) := cell_of_row _ _ 2 _ _ _ HM2.out
      first | go_region_held3 (fun w' => W2.heap.size ≤ w'.heap.size ∧ ∀ b o, b < W2.heap.size → w'.cell? ⟨b, o, none⟩ = W2.cell? ⟨b, o, none⟩) (first | with_reducible exact HK5.out | with_reducible exact SK0.out | with_reducible exact sk_alloc SK0.out | with_reducible exact SK1.out | with_reducible exact sk_alloc HK5.out | with_reducible exact sk_set9 HK5.out)
        ((go_at_call 208; refine (hQ _).mono ?_; rintro e w5 ⟨so', c', rfl, hs', hb5⟩; first | (have hbb : Below W2.heap.size W2 w5 := (by with_reducible exact below_next HDR.out hb5); have HK5 := Lib.hid (sk_of hbb)) | (have hbb : Below W2.heap.size W2 w5 := (by with_reducible exact below_next HDA.out hb5); have xl : w5.heap[W2.heap.size]? = some (.cells zeroRow 28 (0, 0)) := (hb5.block W2.heap.size (lt_of_row HAN.out)).trans HAN.out; have XL := Lib.hid xl; obtain ⟨l0, l1, l2, l3, l4, l5, l6, l7, l8, lz⟩ := term_cells xl; clear xl; have HK5 := Lib.hid (sk_of hbb)))) | fail
      · go_wp2_with fail
        go_meet
        case rel => exact ⟨_, so', c', rfl, rfl, hbb.size, hs', heap_alloc_new _ _, hbb.alloc hbb.size _⟩
      · go_wp2_with fail
        go_meet
        case rel => exact ⟨_, so', c', rfl, rfl, Nat.le_refl _, hs', set9 _ _ _ _ _ _ _ _ _ XL.out, below9 (Nat.le_refl _) hbb _ _ _ _ _ _ _ _ _⟩
    · have hQ : ∀ wx, Calls Tryz.prog 203 #[.agg #[.int .i64 3, .int .i64 t.int, .int .i64 t.gen, .string t.name, .string t.func, .int .i64 t.arity, .slice so t.items.length c, .string t.bytes, .int .i64 t.bits]] wx (KindQ w0 wx f t) := fun wx => by have h := kindQ_3 t so c f w0 wx HT.out HKT.out; rwa [HKT.out] at h
      have n0 : W2.cell? ⟨M, 3, none⟩ = some (.func (.func 203) #[] #[]) := cell_of_row _ _ 3 _ _ _ HM2.out
      first | go_region_held3 (fun w' => W2.heap.size ≤ w'.heap.size ∧ ∀ b o, b < W2.heap.size → w'.cell? ⟨b, o, none⟩ = W2.cell? ⟨b, o, none⟩) (first | with_reducible exact HK5.out | with_reducible exact SK0.out | with_reducible exact sk_alloc SK0.out | with_reducible exact SK1.out | with_reducible exact sk_alloc HK5.out | with_reducible exact sk_set9 HK5.out)
        ((go_at_call 203; refine (hQ _).mono ?_; rintro e w5 ⟨so', c', rfl, hs', hb5⟩; first | (have hbb : Below W2.heap.size W2 w5 := (by with_reducible exact below_next HDR.out hb5); have HK5 := Lib.hid (sk_of hbb)) | (have hbb : Below W2.heap.size W2 w5 := (by with_reducible exact below_next HDA.out hb5); have xl : w5.heap[W2.heap.size]? = some (.cells zeroRow 28 (0, 0)) := (hb5.block W2.heap.size (lt_of_row HAN.out)).trans HAN.out; have XL := Lib.hid xl; obtain ⟨l0, l1, l2, l3, l4, l5, l6, l7, l8, lz⟩ := term_cells xl; clear xl; have HK5 := Lib.hid (sk_of hbb)))) | fail
      · go_wp2_with fail
        go_meet
        case rel => exact ⟨_, so', c', rfl, rfl, hbb.size, hs', heap_alloc_new _ _, hbb.alloc hbb.size _⟩
      · go_wp2_with fail
        go_meet
        case rel => exact ⟨_, so', c', rfl, rfl, Nat.le_refl _, hs', set9 _ _ _ _ _ _ _ _ _ XL.out, below9 (Nat.le_refl _) hbb _ _ _ _ _ _ _ _ _⟩
    · have hQ : ∀ wx, Calls Tryz.prog 209 #[.agg #[.int .i64 4, .int .i64 t.int, .int .i64 t.gen, .string t.name, .string t.func, .int .i64 t.arity, .slice so t.items.length c, .string t.bytes, .int .i64 t.bits]] wx (KindQ w0 wx f t) := fun wx => by have h := kindQ_4 t so c f w0 wx HT.out HKT.out; rwa [HKT.out] at h
      have n0 : W2.cell? ⟨M, 4, none⟩ = some (.func (.func 209) #[] #[]) := cell_of_row _ _ 4 _ _ _ HM2.out
      first | go_region_held3 (fun w' => W2.heap.size ≤ w'.heap.size ∧ ∀ b o, b < W2.heap.size → w'.cell? ⟨b, o, none⟩ = W2.cell? ⟨b, o, none⟩) (first | with_reducible exact HK5.out | with_reducible exact SK0.out | with_reducible exact sk_alloc SK0.out | with_reducible exact SK1.out | with_reducible exact sk_alloc HK5.out | with_reducible exact sk_set9 HK5.out)
        ((go_at_call 209; refine (hQ _).mono ?_; rintro e w5 ⟨so', c', rfl, hs', hb5⟩; first | (have hbb : Below W2.heap.size W2 w5 := (by with_reducible exact below_next HDR.out hb5); have HK5 := Lib.hid (sk_of hbb)) | (have hbb : Below W2.heap.size W2 w5 := (by with_reducible exact below_next HDA.out hb5); have xl : w5.heap[W2.heap.size]? = some (.cells zeroRow 28 (0, 0)) := (hb5.block W2.heap.size (lt_of_row HAN.out)).trans HAN.out; have XL := Lib.hid xl; obtain ⟨l0, l1, l2, l3, l4, l5, l6, l7, l8, lz⟩ := term_cells xl; clear xl; have HK5 := Lib.hid (sk_of hbb)))) | fail
      · go_wp2_with fail
        go_meet
        case rel => exact ⟨_, so', c', rfl, rfl, hbb.size, hs', heap_alloc_new _ _, hbb.alloc hbb.size _⟩
      · go_wp2_with fail
        go_meet
        case rel => exact ⟨_, so', c', rfl, rfl, Nat.le_refl _, hs', set9 _ _ _ _ _ _ _ _ _ XL.out, below9 (Nat.le_refl _) hbb _ _ _ _ _ _ _ _ _⟩
    · have hQ : ∀ wx, Calls Tryz.prog 210 #[.agg #[.int .i64 5, .int .i64 t.int, .int .i64 t.gen, .string t.name, .string t.func, .int .i64 t.arity, .slice so t.items.length c, .string t.bytes, .int .i64 t.bits]] wx (KindQ w0 wx f t) := fun wx => by have h := kindQ_5 t so c f w0 wx HT.out HKT.out; rwa [HKT.out] at h
      have n0 : W2.cell? ⟨M, 5, none⟩ = some (.func (.func 210) #[] #[]) := cell_of_row _ _ 5 _ _ _ HM2.out
      first | go_region_held3 (fun w' => W2.heap.size ≤ w'.heap.size ∧ ∀ b o, b < W2.heap.size → w'.cell? ⟨b, o, none⟩ = W2.cell? ⟨b, o, none⟩) (first | with_reducible exact HK5.out | with_reducible exact SK0.out | with_reducible exact sk_alloc SK0.out | with_reducible exact SK1.out | with_reducible exact sk_alloc HK5.out | with_reducible exact sk_set9 HK5.out)
        ((go_at_call 210; refine (hQ _).mono ?_; rintro e w5 ⟨so', c', rfl, hs', hb5⟩; first | (have hbb : Below W2.heap.size W2 w5 := (by with_reducible exact below_next HDR.out hb5); have HK5 := Lib.hid (sk_of hbb)) | (have hbb : Below W2.heap.size W2 w5 := (by with_reducible exact below_next HDA.out hb5); have xl : w5.heap[W2.heap.size]? = some (.cells zeroRow 28 (0, 0)) := (hb5.block W2.heap.size (lt_of_row HAN.out)).trans HAN.out; have XL := Lib.hid xl; obtain ⟨l0, l1, l2, l3, l4, l5, l6, l7, l8, lz⟩ := term_cells xl; clear xl; have HK5 := Lib.hid (sk_of hbb)))) | fail
      · go_wp2_with fail
        go_meet
        case rel => exact ⟨_, so', c', rfl, rfl, hbb.size, hs', heap_alloc_new _ _, hbb.alloc hbb.size _⟩
      · go_wp2_with fail
        go_meet
        case rel => exact ⟨_, so', c', rfl, rfl, Nat.le_refl _, hs', set9 _ _ _ _ _ _ _ _ _ XL.out, below9 (Nat.le_refl _) hbb _ _ _ _ _ _ _ _ _⟩
    · have hQ : ∀ wx, Calls Tryz.prog 203 #[.agg #[.int .i64 6, .int .i64 t.int, .int .i64 t.gen, .string t.name, .string t.func, .int .i64 t.arity, .slice so t.items.length c, .string t.bytes, .int .i64 t.bits]] wx (KindQ w0 wx f t) := fun wx => by have h := kindQ_6 t so c f w0 wx HT.out HKT.out; rwa [HKT.out] at h
      have n0 : W2.cell? ⟨M, 6, none⟩ = some (.func (.func 203) #[] #[]) := cell_of_row _ _ 6 _ _ _ HM2.out
      first | go_region_held3 (fun w' => W2.heap.size ≤ w'.heap.size ∧ ∀ b o, b < W2.heap.size → w'.cell? ⟨b, o, none⟩ = W2.cell? ⟨b, o, none⟩) (first | with_reducible exact HK5.out | with_reducible exact SK0.out | with_reducible exact sk_alloc SK0.out | with_reducible exact SK1.out | with_reducible exact sk_alloc HK5.out | with_reducible exact sk_set9 HK5.out)
        ((go_at_call 203; refine (hQ _).mono ?_; rintro e w5 ⟨so', c', rfl, hs', hb5⟩; first | (have hbb : Below W2.heap.size W2 w5 := (by with_reducible exact below_next HDR.out hb5); have HK5 := Lib.hid (sk_of hbb)) | (have hbb : Below W2.heap.size W2 w5 := (by with_reducible exact below_next HDA.out hb5); have xl : w5.heap[W2.heap.size]? = some (.cells zeroRow 28 (0, 0)) := (hb5.block W2.heap.size (lt_of_row HAN.out)).trans HAN.out; have XL := Lib.hid xl; obtain ⟨l0, l1, l2, l3, l4, l5, l6, l7, l8, lz⟩ := term_cells xl; clear xl; have HK5 := Lib.hid (sk_of hbb)))) | fail
      · go_wp2_with fail
        go_meet
        case rel => exact ⟨_, so', c', rfl, rfl, hbb.size, hs', heap_alloc_new _ _, hbb.alloc hbb.size _⟩
      · go_wp2_with fail
        go_meet
        case rel => exact ⟨_, so', c', rfl, rfl, Nat.le_refl _, hs', set9 _ _ _ _ _ _ _ _ _ XL.out, below9 (Nat.le_refl _) hbb _ _ _ _ _ _ _ _ _⟩
    · have hQ : ∀ wx, Calls Tryz.prog 211 #[.agg #[.int .i64 7, .int .i64 t.int, .int .i64 t.gen, .string t.name, .string t.func, .int .i64 t.arity, .slice so t.items.length c, .string t.bytes, .int .i64 t.bits]] wx (KindQ w0 wx f t) := fun wx => by have h := kindQ_7 t so c f w0 wx HT.out HKT.out; rwa [HKT.out] at h
      have n0 : W2.cell? ⟨M, 7, none⟩ = some (.func (.func 211) #[] #[]) := cell_of_row _ _ 7 _ _ _ HM2.out
      first | go_region_held3 (fun w' => W2.heap.size ≤ w'.heap.size ∧ ∀ b o, b < W2.heap.size → w'.cell? ⟨b, o, none⟩ = W2.cell? ⟨b, o, none⟩) (first | with_reducible exact HK5.out | with_reducible exact SK0.out | with_reducible exact sk_alloc SK0.out | with_reducible exact SK1.out | with_reducible exact sk_alloc HK5.out | with_reducible exact sk_set9 HK5.out)
        ((go_at_call 211; refine (hQ _).mono ?_; rintro e w5 ⟨so', c', rfl, hs', hb5⟩; first | (have hbb : Below W2.heap.size W2 w5 := (by with_reducible exact below_next HDR.out hb5); have HK5 := Lib.hid (sk_of hbb)) | (have hbb : Below W2.heap.size W2 w5 := (by with_reducible exact below_next HDA.out hb5); have xl : w5.heap[W2.heap.size]? = some (.cells zeroRow 28 (0, 0)) := (hb5.block W2.heap.size (lt_of_row HAN.out)).trans HAN.out; have XL := Lib.hid xl; obtain ⟨l0, l1, l2, l3, l4, l5, l6, l7, l8, lz⟩ := term_cells xl; clear xl; have HK5 := Lib.hid (sk_of hbb)))) | fail
      · go_wp2_with fail
        go_meet
        case rel => exact ⟨_, so', c', rfl, rfl, hbb.size, hs', heap_alloc_new _ _, hbb.alloc hbb.size _⟩
      · go_wp2_with fail
        go_meet
        case rel => exact ⟨_, so', c', rfl, rfl, Nat.le_refl _, hs', set9 _ _ _ _ _ _ _ _ _ XL.out, below9 (Nat.le_refl _) hbb _ _ _ _ _ _ _ _ _⟩
    · have hQ : ∀ wx, Calls Tryz.prog 212 #[.agg #[.int .i64 8, .int .i64 t.int, .int .i64 t.gen, .string t.name, .string t.func, .int .i64 t.arity, .slice so t.items.length c, .string t.bytes, .int .i64 t.bits]] wx (KindQ w0 wx f t) := fun wx => by have h := kindQ_8 t so c f w0 wx HT.out HKT.out; rwa [HKT.out] at h
      have n0 : W2.cell? ⟨M, 8, none⟩ = some (.func (.func 212) #[] #[]) := cell_of_row _ _ 8 _ _ _ HM2.out
      first | go_region_held3 (fun w' => W2.heap.size ≤ w'.heap.size ∧ ∀ b o, b < W2.heap.size → w'.cell? ⟨b, o, none⟩ = W2.cell? ⟨b, o, none⟩) (first | with_reducible exact HK5.out | with_reducible exact SK0.out | with_reducible exact sk_alloc SK0.out | with_reducible exact SK1.out | with_reducible exact sk_alloc HK5.out | with_reducible exact sk_set9 HK5.out)
        ((go_at_call 212; refine (hQ _).mono ?_; rintro e w5 ⟨so', c', rfl, hs', hb5⟩; first | (have hbb : Below W2.heap.size W2 w5 := (by with_reducible exact below_next HDR.out hb5); have HK5 := Lib.hid (sk_of hbb)) | (have hbb : Below W2.heap.size W2 w5 := (by with_reducible exact below_next HDA.out hb5); have xl : w5.heap[W2.heap.size]? = some (.cells zeroRow 28 (0, 0)) := (hb5.block W2.heap.size (lt_of_row HAN.out)).trans HAN.out; have XL := Lib.hid xl; obtain ⟨l0, l1, l2, l3, l4, l5, l6, l7, l8, lz⟩ := term_cells xl; clear xl; have HK5 := Lib.hid (sk_of hbb)))) | fail
      · go_wp2_with fail
        go_meet
        case rel => exact ⟨_, so', c', rfl, rfl, hbb.size, hs', heap_alloc_new _ _, hbb.alloc hbb.size _⟩
      · go_wp2_with fail
        go_meet
        case rel => exact ⟨_, so', c', rfl, rfl, Nat.le_refl _, hs', set9 _ _ _ _ _ _ _ _ _ XL.out, below9 (Nat.le_refl _) hbb _ _ _ _ _ _ _ _ _⟩
    · have hQ : ∀ wx, Below W2.heap.size W2 wx → Calls Tryz.prog 213 #[.agg #[.int .i64 9, .int .i64 t.int, .int .i64 t.gen, .string t.name, .string t.func, .int .i64 t.arity, .slice so t.items.length c, .string t.bytes, .int .i64 t.bits]] wx (KindQ w0 wx f t) := fun wx hbx => by have h := kindQ_9 t so c f w0 wx HT.out ((HB.out.trans (HB2.out.mono HWB.out)).trans (hbx.mono (Nat.le_trans HB.out.size HB2.out.size))) HOK.out.2.2.2.2.2.2.1 HKT.out; rwa [HKT.out] at h
      have n0 : W2.cell? ⟨M, 9, none⟩ = some (.func (.func 213) #[] #[]) := cell_of_row _ _ 9 _ _ _ HM2.out
      first | go_region_held3 (fun w' => W2.heap.size ≤ w'.heap.size ∧ ∀ b o, b < W2.heap.size → w'.cell? ⟨b, o, none⟩ = W2.cell? ⟨b, o, none⟩) (first | with_reducible exact HK5.out | with_reducible exact SK0.out | with_reducible exact sk_alloc SK0.out | with_reducible exact SK1.out | with_reducible exact sk_alloc HK5.out | with_reducible exact sk_set9 HK5.out)
        ((go_at_call 213; (first | (refine (hQ _ ?_).mono ?_; with_reducible exact HDR.out) | (refine (hQ _ ?_).mono ?_; with_reducible exact HDA.out)); rintro e w5 ⟨so', c', rfl, hs', hb5⟩; first | (have hbb : Below W2.heap.size W2 w5 := (by with_reducible exact below_next HDR.out hb5); have HK5 := Lib.hid (sk_of hbb)) | (have hbb : Below W2.heap.size W2 w5 := (by with_reducible exact below_next HDA.out hb5); have xl : w5.heap[W2.heap.size]? = some (.cells zeroRow 28 (0, 0)) := (hb5.block W2.heap.size (lt_of_row HAN.out)).trans HAN.out; have XL := Lib.hid xl; obtain ⟨l0, l1, l2, l3, l4, l5, l6, l7, l8, lz⟩ := term_cells xl; clear xl; have HK5 := Lib.hid (sk_of hbb)))) | fail
      · go_wp2_with fail
        go_meet
        case rel => exact ⟨_, so', c', rfl, rfl, hbb.size, hs', heap_alloc_new _ _, hbb.alloc hbb.size _⟩
      · go_wp2_with fail
        go_meet
        case rel => exact ⟨_, so', c', rfl, rfl, Nat.le_refl _, hs', set9 _ _ _ _ _ _ _ _ _ XL.out, below9 (Nat.le_refl _) hbb _ _ _ _ _ _ _ _ _⟩
    · have hQ : ∀ wx, Calls Tryz.prog 214 #[.agg #[.int .i64 10, .int .i64 t.int, .int .i64 t.gen, .string t.name, .string t.func, .int .i64 t.arity, .slice so t.items.length c, .string t.bytes, .int .i64 t.bits]] wx (KindQ w0 wx f t) := fun wx => by have h := kindQ_10 t so c f w0 wx HT.out HOK.out.2.2.2.2.2.2.2.1 HOK.out.2.2.2.2.2.2.2.2 HKT.out; rwa [HKT.out] at h
      have n0 : W2.cell? ⟨M, 10, none⟩ = some (.func (.func 214) #[] #[]) := cell_of_row _ _ 10 _ _ _ HM2.out
      first | go_region_held3 (fun w' => W2.heap.size ≤ w'.heap.size ∧ ∀ b o, b < W2.heap.size → w'.cell? ⟨b, o, none⟩ = W2.cell? ⟨b, o, none⟩) (first | with_reducible exact HK5.out | with_reducible exact SK0.out | with_reducible exact sk_alloc SK0.out | with_reducible exact SK1.out | with_reducible exact sk_alloc HK5.out | with_reducible exact sk_set9 HK5.out)
        ((go_at_call 214; refine (hQ _).mono ?_; rintro e w5 ⟨so', c', rfl, hs', hb5⟩; first | (have hbb : Below W2.heap.size W2 w5 := (by with_reducible exact below_next HDR.out hb5); have HK5 := Lib.hid (sk_of hbb)) | (have hbb : Below W2.heap.size W2 w5 := (by with_reducible exact below_next HDA.out hb5); have xl : w5.heap[W2.heap.size]? = some (.cells zeroRow 28 (0, 0)) := (hb5.block W2.heap.size (lt_of_row HAN.out)).trans HAN.out; have XL := Lib.hid xl; obtain ⟨l0, l1, l2, l3, l4, l5, l6, l7, l8, lz⟩ := term_cells xl; clear xl; have HK5 := Lib.hid (sk_of hbb)))) | fail
      · go_wp2_with fail
        go_meet
        case rel => exact ⟨_, so', c', rfl, rfl, hbb.size, hs', heap_alloc_new _ _, hbb.alloc hbb.size _⟩
      · go_wp2_with fail
        go_meet
        case rel => exact ⟨_, so', c', rfl, rfl, Nat.le_refl _, hs', set9 _ _ _ _ _ _ _ _ _ XL.out, below9 (Nat.le_refl _) hbb _ _ _ _ _ _ _ _ _⟩
  case rest =>
    obtain ⟨L, so', c', rfl, rfl, hL, hsl, hLr, hBx⟩ := hcut
    rename World => wc
    have HSL := Lib.hid hsl
    clear hsl
    obtain ⟨x0, x1, x2, x3, x4, x5, x6, x7, x8, xz⟩ := term_cells hLr
    have HLR := Lib.hid hLr; have HBX := Lib.hid hBx; have HL := Lib.hid hL
    clear hLr hBx hL q0 q1 q2 q3 q4 q5 q6 q7 q8 b0 hl0 hl1
    have HMl2 := Lib.hid hMl2
    clear hMl2
    have hq : okK t = false ∨ okK t = true := by cases okK t <;> simp
    rcases hq with hq | hq
    · have E : Hid (formF (f + 1) t = false) := Lib.hid (by unfold formF locB; rw [hq]; rfl)
      rw [hq]
      clear hq
      go_wp2_with fail
      go_ret
      exact ⟨retb E.out.symm, grownBy_below (HBW2.out.trans ((HBX.out.mono (HBW2.out.size)).setCell (p := ⟨L, 0, none⟩) (Nat.le_trans HBW2.out.size HL.out) _)) _, s, Int.le_refl _, by omega, (heap_setCell_other _ _ _ _ (Nat.ne_of_lt (Nat.lt_of_lt_of_le HMl2.out HL.out))).trans (HM2.out.below HBX.out), fun h => absurd (E.out.symm.trans h) (by decide)⟩
    · have HQ := Lib.hid hq
      rw [hq]
      clear hq
      go_upto_region 5 with fail
      have r6 : (wc.setCell ⟨L, 0, none⟩ (.int .i64 0)).heap[L]? = some (.cells #[.int .i64 0, .int .i64 (leftT t).int, .int .i64 (leftT t).gen, .string (leftT t).name, .string (leftT t).func, .int .i64 (leftT t).arity, .slice so' (leftT t).items.length c', .string (leftT t).bytes, .int .i64 (leftT t).bits] 28 (0, 0)) := heap_setCell_same _ _ 0 _ _ (.int .i64 0) HLR.out
      have hB6 : Below w.heap.size w (wc.setCell ⟨L, 0, none⟩ (.int .i64 0)) := HBW2.out.trans ((HBX.out.mono (HBW2.out.size)).setCell (p := ⟨L, 0, none⟩) (Nat.le_trans HBW2.out.size HL.out) _)
      have hB62 : Below W2.heap.size W2 (wc.setCell ⟨L, 0, none⟩ (.int .i64 0)) := HBX.out.setCell (p := ⟨L, 0, none⟩) HL.out _
      have HM6 : Hid (MeasAt M s (wc.setCell ⟨L, 0, none⟩ (.int .i64 0))) := Lib.hid (HM2.out.below hB62)
      have HR0 := Lib.hid ((hB62.block B (lt_of_row R0.out)).trans R0.out)
      have HR1 := Lib.hid ((hB62.block (B + 1) (lt_of_row R1.out)).trans R1.out)
      have HB6 := Lib.hid hB6
      clear hB6 hB62 x0 x1 x2 x3 x4 x5 x6 x7 x8 xz
      generalize wc.setCell ⟨L, 0, none⟩ (.int .i64 0) = w6 at *
      have HB06 : Hid (Below w0.heap.size w0 w6) := Lib.hid (HB.out.trans (HB6.out.mono HB.out.size))
      have hSM : Calls Tryz.prog 164 #[.agg #[.int .i64 0, .int .i64 (leftT t).int, .int .i64 (leftT t).gen, .string (leftT t).name, .string (leftT t).func, .int .i64 (leftT t).arity, .slice so' (leftT t).items.length c', .string (leftT t).bytes, .int .i64 (leftT t).bits], .agg #[.int .i64 0, .int .i64 0, .int .i64 0, .string ⟨#[]⟩, .string ⟨#[]⟩, .int .i64 0, .slice none 0 0, .string ⟨#[]⟩, .int .i64 0]] w6 fun e w' => e = .returned (.bool (sameF (f + 1) (left0 t) zeroTm)) ∧ Below w6.heap.size w6 w' := same_any f (left0 t) zeroTm so' none c' 0 w6 (HSL.out.tms HB06.out) (SlAt.nil _ _ _ _) (Nat.le_trans (leftT_len t) HOK.out.2.2.2.2.2.2.1) (Nat.zero_le _)
      have HLO : Hid ((true && sameF (f + 1) (left0 t) zeroTm) = locB t) := Lib.hid (by rw [← HQ.out]; exact loc_of f t)
      obtain ⟨x0, x1, x2, x3, x4, x5, x6, x7, x8, xz⟩ := term_cells r6
      clear r6 xz
      generalize sameF (f + 1) (left0 t) zeroTm = q at *
      cases q with
      | false =>
        have E : Hid (formF (f + 1) t = false) := Lib.hid (by unfold formF; rw [← HLO.out]; rfl)
        go_wp2_with fail
        refine hSM.mono ?_
        rintro e w7 ⟨rfl, hb7⟩
        go_wp2_with fail
        go_ret
        exact ⟨retb E.out.symm, grownBy_below (below_next HB6.out hb7) _, s, Int.le_refl _, by omega, HM6.out.below hb7, fun h => absurd (E.out.symm.trans h) (by decide)⟩
      | true =>
        have HLB : Hid (locB t = true) := Lib.hid HLO.out.symm
        go_wp2_with fail
        refine hSM.mono ?_
        rintro e w7 ⟨rfl, hb7⟩
        have hR0 := (hb7.block B (lt_of_row HR0.out)).trans HR0.out
        have hR1 := (hb7.block (B + 1) (lt_of_row HR1.out)).trans HR1.out
        have HM7 := Lib.hid (HM6.out.below hb7)
        have HB7 := Lib.hid (below_next HB6.out hb7)
        clear hb7 hSM x0 x1 x2 x3 x4 x5 x6 x7 x8
        obtain ⟨y0, y1, y2, y3, y4, y5, y6, y7, y8, yz⟩ := term_cells hR1
        have b0 : w7.cell? ⟨B, 0, none⟩ = some (.pointer (some ⟨M, 0, none⟩)) := by rw [cell_of_row _ _ _ _ _ _ hR0]; rfl
        obtain ⟨m11, mz⟩ := HM7.out.cell
        have HR07 := Lib.hid hR0; have HR17 := Lib.hid hR1
        clear hR0 hR1 yz
        by_cases k9 : tk = 9
        · subst k9
          have hl2 := len_bound HLB.out HKT.out
          have hcap : (capF (f + 1) t : Int) = 300 + (t.items.length : Int) + (sumN (t.items.map (capF f)) : Int) := by unfold capF; omega
          have hwr1 : IntKind.i64.wrap ((t.items.length : Int) - 1) = (t.items.length : Int) - 1 := by rw [IntKind.wrap_i64]; omega
          have hwr2 : IntKind.i64.wrap (s + ((t.items.length : Int) - 1)) = s + ((t.items.length : Int) - 1) := by rw [IntKind.wrap_i64]; omega
          go_upto_region 10 with fail
          go_region
          go_upto_region 13 with fail
          have HM8 : Hid (MeasAt M (s + ((t.items.length : Int) - 1)) (w7.setCell ⟨M, 11, none⟩ (.int .i64 (s + ((t.items.length : Int) - 1)))).drew) := Lib.hid (meas_set HM7.out)
          have HG8 : Hid (w.grownBy (w7.setCell ⟨M, 11, none⟩ (.int .i64 (s + ((t.items.length : Int) - 1)))).drew (some M)) := Lib.hid (grownBy_drew (grownBy_trans (grownBy_below HB7.out _) (grownBy_set _ _ _ _)))
          have hR0 : (w7.setCell ⟨M, 11, none⟩ (.int .i64 (s + ((t.items.length : Int) - 1)))).drew.heap[B]? = some (.cells #[.pointer (some ⟨M, 0, none⟩)] 164 (0, 0)) := (heap_setCell_other _ _ _ _ (Nat.ne_of_gt HML.out)).trans HR07.out
          have hR1 : (w7.setCell ⟨M, 11, none⟩ (.int .i64 (s + ((t.items.length : Int) - 1)))).drew.heap[B + 1]? = some (.cells #[.int .i64 9, .int .i64 t.int, .int .i64 t.gen, .string t.name, .string t.func, .int .i64 t.arity, .slice so t.items.length c, .string t.bytes, .int .i64 t.bits] 28 (0, 0)) := (heap_setCell_other _ _ _ _ (Nat.ne_of_gt (Nat.lt_succ_of_lt HML.out))).trans HR17.out
          have HB08 : Hid (Below w0.heap.size w0 (w7.setCell ⟨M, 11, none⟩ (.int .i64 (s + ((t.items.length : Int) - 1)))).drew) := Lib.hid (below_grown HB.out HG8.out hM)
          clear y0 y1 y2 y3 y4 y5 y6 y7 y8 b0 m11 mz
          generalize (w7.setCell ⟨M, 11, none⟩ (.int .i64 (s + ((t.items.length : Int) - 1)))).drew = w8 at *
          obtain ⟨y0, y1, y2, y3, y4, y5, y6, y7, y8, yz⟩ := term_cells hR1
          have hCF := HC.out t.items so c M B (s + ((t.items.length : Int) - 1)) w0 w8 HT.out HOK.out.2.2.2.2.2.2.1 HB08.out hM HM8.out hR0 (Nat.ne_of_gt HML.out) (by omega) (by omega)
          have EF : Hid (formF (f + 1) t = t.items.all (formF f)) := Lib.hid (by unfold formF; rw [HLB.out]; rfl)
          have EW : Hid (wholeF (f + 1) t = ((t.items.length : Int) - 1) + sumI (t.items.map (wholeF f))) := Lib.hid (by unfold wholeF ownSize; rw [HKT.out]; rfl)
          clear hR0 hR1 yz
          generalize t.items.all (formF f) = al at *
          generalize sumI (t.items.map (wholeF f)) = sw at *
          generalize sumN (t.items.map (capF f)) = sc at *
          cases al with
          | false =>
            go_wp2_with fail
            refine hCF.mono ?_
            rintro e w9 ⟨rfl, hg9, s', z1, z2, z3, z4⟩
            go_wp2_with fail
            go_ret
            exact ⟨retb EF.out.symm, grownBy_trans HG8.out hg9, s', by omega, by omega, z3, fun h => absurd (EF.out.symm.trans h) (by decide)⟩
          | true =>
            go_wp2_with fail
            refine hCF.mono ?_
            rintro e w9 ⟨rfl, hg9, s', z1, z2, z3, z4⟩
            go_wp2_with fail
            go_ret
            exact ⟨retb EF.out.symm, grownBy_trans HG8.out hg9, s', by omega, by omega, z3, fun _ => by rw [EW.out, z4 (by trivial)]; omega⟩
        · by_cases k10 : tk = 10
          · subst k10
            obtain ⟨hl2, hl3⟩ := bits_bound HLB.out HKT.out
            have hcap : (capF (f + 1) t : Int) = 300 + (t.items.length : Int) + (sumN (t.items.map (capF f)) : Int) := by unfold capF; omega
            have hwr0 : IntKind.i64.wrap (t.bits + 63) = t.bits + 63 := by rw [IntKind.wrap_i64]; omega
            have hwd : (t.bits + 63).tdiv 64 = (t.bits + 63) / 64 := by rw [Int.tdiv_eq_ediv_of_nonneg (by omega)]
            have hwr1 : IntKind.i64.wrap (1 + (t.bits + 63) / 64) = 1 + (t.bits + 63) / 64 := by rw [IntKind.wrap_i64]; omega
            have hwr2 : IntKind.i64.wrap (s + (1 + (t.bits + 63) / 64)) = s + (1 + (t.bits + 63) / 64) := by rw [IntKind.wrap_i64]; omega
            go_upto_region 12 with fail
            go_region
            go_upto_region 13 with fail
            have HM8 : Hid (MeasAt M (s + (1 + (t.bits + 63) / 64)) (w7.setCell ⟨M, 11, none⟩ (.int .i64 (s + (1 + (t.bits + 63) / 64)))).drew) := Lib.hid (meas_set HM7.out)
            have HG8 : Hid (w.grownBy (w7.setCell ⟨M, 11, none⟩ (.int .i64 (s + (1 + (t.bits + 63) / 64)))).drew (some M)) := Lib.hid (grownBy_drew (grownBy_trans (grownBy_below HB7.out _) (grownBy_set _ _ _ _)))
            have hR0 : (w7.setCell ⟨M, 11, none⟩ (.int .i64 (s + (1 + (t.bits + 63) / 64)))).drew.heap[B]? = some (.cells #[.pointer (some ⟨M, 0, none⟩)] 164 (0, 0)) := (heap_setCell_other _ _ _ _ (Nat.ne_of_gt HML.out)).trans HR07.out
            have hR1 : (w7.setCell ⟨M, 11, none⟩ (.int .i64 (s + (1 + (t.bits + 63) / 64)))).drew.heap[B + 1]? = some (.cells #[.int .i64 10, .int .i64 t.int, .int .i64 t.gen, .string t.name, .string t.func, .int .i64 t.arity, .slice so t.items.length c, .string t.bytes, .int .i64 t.bits] 28 (0, 0)) := (heap_setCell_other _ _ _ _ (Nat.ne_of_gt (Nat.lt_succ_of_lt HML.out))).trans HR17.out
            have HB08 : Hid (Below w0.heap.size w0 (w7.setCell ⟨M, 11, none⟩ (.int .i64 (s + (1 + (t.bits + 63) / 64)))).drew) := Lib.hid (below_grown HB.out HG8.out hM)
            clear y0 y1 y2 y3 y4 y5 y6 y7 y8 b0 m11 mz
            generalize (w7.setCell ⟨M, 11, none⟩ (.int .i64 (s + (1 + (t.bits + 63) / 64)))).drew = w8 at *
            obtain ⟨y0, y1, y2, y3, y4, y5, y6, y7, y8, yz⟩ := term_cells hR1
            have hCF := HC.out t.items so c M B (s + (1 + (t.bits + 63) / 64)) w0 w8 HT.out HOK.out.2.2.2.2.2.2.1 HB08.out hM HM8.out hR0 (Nat.ne_of_gt HML.out) (by omega) (by omega)
            have EF : Hid (formF (f + 1) t = t.items.all (formF f)) := Lib.hid (by unfold formF; rw [HLB.out]; rfl)
            have EW : Hid (wholeF (f + 1) t = (1 + (t.bits + 63) / 64) + sumI (t.items.map (wholeF f))) := Lib.hid (by unfold wholeF ownSize; rw [HKT.out]; rfl)
            clear hR0 hR1 yz
            generalize t.items.all (formF f) = al at *
            generalize sumI (t.items.map (wholeF f)) = sw at *
            generalize sumN (t.items.map (capF f)) = sc at *
            cases al with
            | false =>
              go_wp2_with fail
              refine hCF.mono ?_
              rintro e w9 ⟨rfl, hg9, s', z1, z2, z3, z4⟩
              go_wp2_with fail
              go_ret
              exact ⟨retb EF.out.symm, grownBy_trans HG8.out hg9, s', by omega, by omega, z3, fun h => absurd (EF.out.symm.trans h) (by decide)⟩
            | true =>
              go_wp2_with fail
              refine hCF.mono ?_
              rintro e w9 ⟨rfl, hg9, s', z1, z2, z3, z4⟩
              go_wp2_with fail
              go_ret
              exact ⟨retb EF.out.symm, grownBy_trans HG8.out hg9, s', by omega, by omega, z3, fun _ => by rw [EW.out, z4 (by trivial)]; omega⟩
          · have hcap : (capF (f + 1) t : Int) = 300 + (t.items.length : Int) + (sumN (t.items.map (capF f)) : Int) := by unfold capF; omega
            have t9 : (tk == 9) = false := beq_eq_false_iff_ne.2 k9
            have t10 : (tk == 10) = false := beq_eq_false_iff_ne.2 k10
            have K9 := Lib.hid k9
            have K10 := Lib.hid k10
            clear k9 k10
            go_upto_region 13 with fail
            have HM8 : Hid (MeasAt M (s + 1) (w7.setCell ⟨M, 11, none⟩ (.int .i64 (s + 1)))) := Lib.hid (meas_set HM7.out)
            have HG8 : Hid (w.grownBy (w7.setCell ⟨M, 11, none⟩ (.int .i64 (s + 1))) (some M)) := Lib.hid ((grownBy_trans (grownBy_below HB7.out _) (grownBy_set _ _ _ _)))
            have hR0 : (w7.setCell ⟨M, 11, none⟩ (.int .i64 (s + 1))).heap[B]? = some (.cells #[.pointer (some ⟨M, 0, none⟩)] 164 (0, 0)) := (heap_setCell_other _ _ _ _ (Nat.ne_of_gt HML.out)).trans HR07.out
            have hR1 : (w7.setCell ⟨M, 11, none⟩ (.int .i64 (s + 1))).heap[B + 1]? = some (.cells #[.int .i64 tk, .int .i64 t.int, .int .i64 t.gen, .string t.name, .string t.func, .int .i64 t.arity, .slice so t.items.length c, .string t.bytes, .int .i64 t.bits] 28 (0, 0)) := (heap_setCell_other _ _ _ _ (Nat.ne_of_gt (Nat.lt_succ_of_lt HML.out))).trans HR17.out
            have HB08 : Hid (Below w0.heap.size w0 (w7.setCell ⟨M, 11, none⟩ (.int .i64 (s + 1)))) := Lib.hid (below_grown HB.out HG8.out hM)
            clear y0 y1 y2 y3 y4 y5 y6 y7 y8 b0 m11 mz
            generalize (w7.setCell ⟨M, 11, none⟩ (.int .i64 (s + 1))) = w8 at *
            obtain ⟨y0, y1, y2, y3, y4, y5, y6, y7, y8, yz⟩ := term_cells hR1
            have hCF := HC.out t.items so c M B (s + 1) w0 w8 HT.out HOK.out.2.2.2.2.2.2.1 HB08.out hM HM8.out hR0 (Nat.ne_of_gt HML.out) (by omega) (by omega)
            have EF : Hid (formF (f + 1) t = t.items.all (formF f)) := Lib.hid (by unfold formF; rw [HLB.out]; rfl)
            have EW : Hid (wholeF (f + 1) t = 1 + sumI (t.items.map (wholeF f))) := Lib.hid (by unfold wholeF ownSize; rw [HKT.out]; rw [if_neg K9.out, if_neg K10.out])
            clear hR0 hR1 yz
            generalize t.items.all (formF f) = al at *
            generalize sumI (t.items.map (wholeF f)) = sw at *
            generalize sumN (t.items.map (capF f)) = sc at *
            cases al with
            | false =>
              go_wp2_with fail
              refine hCF.mono ?_
              rintro e w9 ⟨rfl, hg9, s', z1, z2, z3, z4⟩
              go_wp2_with fail
              go_ret
              exact ⟨retb EF.out.symm, grownBy_trans HG8.out hg9, s', by omega, by omega, z3, fun h => absurd (EF.out.symm.trans h) (by decide)⟩
            | true =>
              go_wp2_with fail
              refine hCF.mono ?_
              rintro e w9 ⟨rfl, hg9, s', z1, z2, z3, z4⟩
              go_wp2_with fail
              go_ret
              exact ⟨retb EF.out.symm, grownBy_trans HG8.out hg9, s', by omega, by omega, z3, fun _ => by rw [EW.out, z4 (by trivial)]; omega⟩

end Go.Proofs.YthmpobimmbmddaaGreatDoor
namespace Go.Proofs.YthmpobimmbmddaaGreatDoor
open Go.RowKit
set_option linter.unusedVariables false
set_option linter.unusedSimpArgs false

theorem of_any {f : Nat} (HC : Hid (CfP f)) : OfP f := fun t so c M s w0 w ht hok hb hM hm hs0 hs1 => by
  by_cases hk : 0 ≤ t.kind ∧ t.kind < 11
  · exact of_in HC t so c M s w0 w ht hok hb hM hm hs0 hs1 hk.1 hk.2
  · exact of_out t so c M s w0 w hm hk
theorem cnt_after {M : Nat} {s : Int} {c1 : Nat} {o1 : Bool} {a1 : Int} {w w1 w2 : World} (h : Below w.heap.size w w1) (h1 : CntQ M s c1 o1 a1 w1 w2) : CntQ M s c1 o1 a1 w w2 := ⟨grownBy_trans (grownBy_below h _) h1.1, h1.2⟩
theorem cnt_step {M : Nat} {s : Int} {c1 c2 : Nat} {o1 o2 : Bool} {a1 a2 : Int} {w w1 w2 : World} (h1 : CntQ M s c1 o1 a1 w w1) (ho : o1 = true) (h2 : ∀ s', MeasAt M s' w1 → s' = s + a1 → CntQ M s' c2 o2 a2 w1 w2) (ha : 0 ≤ s) : CntQ M s (c1 + c2) o2 (a1 + a2) w w2 := by
  obtain ⟨g1, s1, x1, x2, x3, x4⟩ := h1
  obtain ⟨g2, s2, y1, y2, y3, y4⟩ := h2 s1 x3 (x4 ho)
  have := x4 ho
  exact ⟨grownBy_trans g1 g2, s2, by omega, by omega, y3, fun h => by have := y4 h; omega⟩

set_option maxRecDepth 100000 in
set_option maxHeartbeats 4000000 in
/-- The closure of (*measure).of. -/
theorem of1_any {f : Nat} (HO : Hid (OfP f)) (t : Tm) (so : Option Addr) (c M mb : Nat) (s : Int) (w0 w : World) (ht : SlAt w0 9 (TmAt w0 f) so t.items) (hok : t.Ok) (hb : Below w0.heap.size w0 w) (hM : w0.heap.size ≤ M) (hm : MeasAt M s w) (hmb : w.heap[mb]? = some (.cells #[.pointer (some ⟨M, 0, none⟩)] 164 (0, 0))) (hs0 : 0 ≤ s) (hs1 : s + capF (f + 1) t ≤ 1152921504606846976) :
    Calls Tryz.prog 216 #[.agg #[.int .i64 t.kind, .int .i64 t.int, .int .i64 t.gen, .string t.name, .string t.func, .int .i64 t.arity, .slice so t.items.length c, .string t.bytes, .int .i64 t.bits], .pointer (some ⟨mb, 0, none⟩)] w fun e w' => e = .returned (.bool (!(formF (f + 1) t))) ∧ CntQ M s (capF (f + 1) t) (formF (f + 1) t) (wholeF (f + 1) t) w w' := by
  have hB : Below w.heap.size w (w.alloc (.cells #[.int .i64 t.kind, .int .i64 t.int, .int .i64 t.gen, .string t.name, .string t.func, .int .i64 t.arity, .slice so t.items.length c, .string t.bytes, .int .i64 t.bits] 28)) := (Below.refl _ _).alloc (Nat.le_refl _) _
  have hO := HO.out t so c M s w0 (w.alloc (.cells #[.int .i64 t.kind, .int .i64 t.int, .int .i64 t.gen, .string t.name, .string t.func, .int .i64 t.arity, .slice so t.items.length c, .string t.bytes, .int .i64 t.bits] 28)) ht hok (hb.trans (hB.mono hb.size)) hM (hm.below hB) hs0 hs1
  have c0 : w.cell? ⟨mb, 0, none⟩ = some (.pointer (some ⟨M, 0, none⟩)) := by rw [cell_of_row _ _ _ _ _ _ hmb]; rfl
  have hl := lt_of_row hmb
  have HBB := Lib.hid hB
  clear hmb hB hm hb ht hok hs0 hs1
  generalize formF (f + 1) t = r at *
  cases r
  all_goals
    go_enter Tryz.func216, Tryz.ntmps216
    go_wp2_with fail
    refine hO.mono ?_
    rintro e w5 ⟨rfl, hq⟩
    have HQ := Lib.hid hq
    clear hq
    go_wp2_with fail
    go_ret
    exact ⟨rfl, cnt_after HBB.out HQ.out⟩

/-- What is counted of the first k, and the rest. -/
theorem sumN_drop {f : Nat} {l : List Tm} {k : Nat} (h : k < l.length) : sumN ((l.drop k).map (capF f)) = capF f l[k] + sumN ((l.drop (k + 1)).map (capF f)) := by
  rw [List.drop_eq_getElem_cons h, List.map_cons, sumN]
theorem sumI_drop {f : Nat} {l : List Tm} {k : Nat} (h : k < l.length) : sumI ((l.drop k).map (wholeF f)) = wholeF f l[k] + sumI ((l.drop (k + 1)).map (wholeF f)) := by
  rw [List.drop_eq_getElem_cons h, List.map_cons, sumI]
theorem all_drop {p : Tm → Bool} {l : List Tm} {k : Nat} (h : k < l.length) : (l.drop k).all p = (p l[k] && (l.drop (k + 1)).all p) := by
  rw [List.drop_eq_getElem_cons h, List.all_cons]

/-- What slices.IndexFunc tells. -/
def IdxQ (M : Nat) (s : Int) (cap : Nat) (ok : Bool) (add : Int) (w : World) (e : Ending) (w' : World) : Prop := (∃ i : Int, e = .returned (.int .i64 i) ∧ decide (0 ≤ i) = !ok) ∧ CntQ M s cap ok add w w'
/-- Going on from the first k. -/
def GoQ (M : Nat) (s : Int) (f : Nat) (l : List Tm) (k : Nat) (w wr : World) : Prop := w.grownBy wr (some M) ∧ ∃ s', s ≤ s' ∧ s' + sumN ((l.drop k).map (capF f)) ≤ s + sumN (l.map (capF f)) ∧ MeasAt M s' wr ∧ l.all (formF f) = (l.drop k).all (formF f) ∧ s' + sumI ((l.drop k).map (wholeF f)) = s + sumI (l.map (wholeF f))
set_option maxRecDepth 100000 in
set_option maxHeartbeats 4000000 in
theorem idx_succ {f : Nat} (HO : Hid (OfP f)) (l : List Tm) (ao : Option Addr) (c M mb : Nat) (s : Int) (w0 w : World) (ht : SlAt w0 9 (TmAt w0 (f + 1)) ao l) (hl : l.length ≤ maxLen) (hb : Below w0.heap.size w0 w) (hM : w0.heap.size ≤ M) (hm : MeasAt M s w) (hmb : w.heap[mb]? = some (.cells #[.pointer (some ⟨M, 0, none⟩)] 164 (0, 0))) (hne : mb ≠ M) (hs0 : 0 ≤ s) (hs1 : s + sumN (l.map (capF (f + 1))) ≤ 1152921504606846976) :
    Calls Tryz.prog 232 #[.slice ao l.length c, .func (.func 216) #[] #[.pointer (some ⟨mb, 0, none⟩)]] w (IdxQ M s (sumN (l.map (capF (f + 1)))) (l.all (formF (f + 1))) (sumI (l.map (wholeF (f + 1)))) w) := by
  unfold maxLen at hl
  have HT := Lib.hid ht; have HB := Lib.hid hb; have HMB := Lib.hid hmb
  have HG : Hid (GoQ M s (f + 1) l 0 w w) := Lib.hid ⟨grownBy_refl _ _, s, Int.le_refl _, by rw [List.drop_zero]; omega, hm, rfl, by rw [List.drop_zero]⟩
  have HML := Lib.hid (lt_of_row hmb)
  clear ht hb hmb hm
  go_enter Tryz.func232, Tryz.ntmps232
  go_wp2_with fail
  go_loopw [5, 8] (fun _ i wr => ∃ k : Nat, k ≤ l.length ∧ i = .int .i64 k ∧ Hid (GoQ M s (f + 1) l k w wr)) (fun _ i _ => l.length - (intOf i).toNat)
  case atStart => exact ⟨0, Nat.zero_le _, rfl, HG⟩
  case round =>
    obtain ⟨k, hk, rfl, HK⟩ := hrel
    rename World => wr
    obtain ⟨g1, s', z1, z2, z3, z4, z5⟩ := HK.out
    have hB0r : Below w0.heap.size w0 wr := below_grown HB.out g1 hM
    have hmbr := (g1.block mb HML.out (fun e => hne (Option.some.inj e))).trans HMB.out
    by_cases hlt : k < l.length
    · have hsa := HT.out.tms hB0r
      obtain ⟨b1, off1, ai, ci, hao, hb1, q0, q1, q2, q3, q4, q5, q6, q7, q8, hit, hok⟩ := hsa.tm hlt
      obtain ⟨b1', off1', ai', ci', hao', hb1', q0', q1', q2', q3', q4', q5', q6', q7', q8', hit', hok'⟩ := HT.out.tm hlt
      subst hao
      obtain ⟨rfl, rfl⟩ : b1 = b1' ∧ off1 = off1' := by injection hao' with h; injection h with h1 h2; exact ⟨h1, h2⟩
      have hai : ai = ai' := by
        have h := (hB0r.cell (p := ⟨b1, off1 + k * 9 + 6, none⟩) hb1').symm.trans q6
        rw [q6'] at h; injection h with h; injection h with h1 h2; exact h1.symm
      subst hai
      rw [sumN_drop hlt] at z2
      rw [all_drop hlt] at z4
      rw [sumI_drop hlt] at z5
      have hO := of1_any HO l[k] ai ci M mb s' w0 wr hit' hok hB0r hM z3 hmbr (by omega) (by omega)
      have Z2 := Lib.hid z2; have Z4 := Lib.hid z4; have Z5 := Lib.hid z5
      clear hao' q0' q1' q2' q3' q4' q5' q6' q7' q8' hit' hok' hit hok hsa z2 z4 z5
      generalize l[k] = x at *
      cases hr : formF (f + 1) x with
      | true =>
        rw [hr] at hO
        have Z4' : Hid (l.all (formF (f + 1)) = (l.drop (k + 1)).all (formF (f + 1))) := Lib.hid (by rw [Z4.out, hr, Bool.true_and])
        clear hr
        go_wp2_with fail
        refine hO.mono ?_
        rintro e w5 ⟨rfl, g5, s5, y1, y2, y3, y4⟩
        have HG5 : Hid (GoQ M s (f + 1) l (k + 1) w w5) := Lib.hid ⟨grownBy_trans g1 g5, s5, by omega, by have := Z2.out; omega, y3, Z4'.out, by have := Z5.out; have := y4 rfl; omega⟩
        go_wp2_with fail
        go_roundw
        case rel => exact ⟨k + 1, by omega, by go_num, HG5⟩
        case measure => simp [intOf]; omega
      | false =>
        rw [hr] at hO
        have Z4' : Hid (l.all (formF (f + 1)) = false) := Lib.hid (by rw [Z4.out, hr, Bool.false_and])
        clear hr
        go_wp2_with fail
        refine hO.mono ?_
        rintro e w5 ⟨rfl, g5, s5, y1, y2, y3, y4⟩
        have HF : Hid (CntQ M s (sumN (l.map (capF (f + 1)))) (l.all (formF (f + 1))) (sumI (l.map (wholeF (f + 1)))) w w5) := Lib.hid ⟨grownBy_trans g1 g5, s5, by omega, by have := Z2.out; omega, y3, fun h => absurd (Z4'.out.symm.trans h) (by decide)⟩
        have HE : Hid (decide (0 ≤ (k : Int)) = !(l.all (formF (f + 1)))) := Lib.hid (by rw [Z4'.out, decide_eq_true (by omega)]; rfl)
        go_wp2_with fail
        go_ret
        exact ⟨⟨_, rfl, HE.out⟩, HF.out⟩
    · have hke : l.drop k = [] := List.drop_eq_nil_of_le (by omega)
      rw [hke] at z2 z4 z5
      have HF : Hid (CntQ M s (sumN (l.map (capF (f + 1)))) (l.all (formF (f + 1))) (sumI (l.map (wholeF (f + 1)))) w wr) := Lib.hid ⟨g1, s', z1, by simp only [List.map_nil, sumN] at z2; omega, z3, fun _ => by simp only [List.map_nil, sumI] at z5; omega⟩
      have HE : Hid (decide (0 ≤ (-1 : Int)) = !(l.all (formF (f + 1)))) := Lib.hid (by rw [z4]; rfl)
      clear z2 z4 z5 hke
      go_wp2_with fail
      go_ret
      exact ⟨⟨_, rfl, HE.out⟩, HF.out⟩
set_option maxRecDepth 100000 in
set_option maxHeartbeats 4000000 in
theorem idx_zero (ao : Option Addr) (c M mb : Nat) (s : Int) (w : World) (hm : MeasAt M s w) :
    Calls Tryz.prog 232 #[.slice ao 0 c, .func (.func 216) #[] #[.pointer (some ⟨mb, 0, none⟩)]] w (IdxQ M s 0 true 0 w) := by
  have HF : Hid (CntQ M s 0 true 0 w w) := Lib.hid ⟨grownBy_refl _ _, s, Int.le_refl _, by omega, hm, fun _ => by omega⟩
  clear hm
  go_enter Tryz.func232, Tryz.ntmps232
  go_wp2_with fail
  go_loop [8] (fun i => i = .int .i64 0) (fun _ => 0)
  case atStart => rfl
  case round =>
    obtain rfl := hrel
    go_wp2_with fail
    go_ret
    exact ⟨⟨_, rfl, rfl⟩, HF.out⟩
set_option maxRecDepth 100000 in
set_option maxHeartbeats 4000000 in
theorem cf_of (l : List Tm) (ao : Option Addr) (c M mb : Nat) (s : Int) (cap : Nat) (ok : Bool) (add : Int) (w : World)
    (h : Calls Tryz.prog 232 #[.slice ao l.length c, .func (.func 216) #[] #[.pointer (some ⟨mb, 0, none⟩)]] w (IdxQ M s cap ok add w)) :
    Calls Tryz.prog 215 #[.slice ao l.length c, .func (.func 216) #[] #[.pointer (some ⟨mb, 0, none⟩)]] w fun e w' => e = .returned (.bool (!ok)) ∧ CntQ M s cap ok add w w' := by
  go_enter Tryz.func215, Tryz.ntmps215
  go_wp2_with fail
  refine h.mono ?_
  rintro e w5 ⟨⟨i, rfl, hi⟩, hq⟩
  have HI := Lib.hid hi; have HQ := Lib.hid hq
  clear hi hq
  go_wp2_with fail
  go_ret
  exact ⟨retb HI.out, HQ.out⟩
theorem cf_all : ∀ f, CfP f
  | 0 => fun l ao c M mb s w0 w ht hl hb hM hm hmb hne hs0 hs1 => by
    obtain rfl := ht.zero
    exact cf_of [] ao c M mb s 0 true 0 w (idx_zero ao c M mb s w hm)
  | f + 1 => fun l ao c M mb s w0 w ht hl hb hM hm hmb hne hs0 hs1 =>
    cf_of l ao c M mb s _ _ _ w (idx_succ (Lib.hid (of_any (Lib.hid (cf_all f)))) l ao c M mb s w0 w ht hl hb hM hm hmb hne hs0 hs1)
theorem of_all (f : Nat) : OfP f := of_any (Lib.hid (cf_all f))
end Go.Proofs.YthmpobimmbmddaaGreatDoor
