/-
  The external format: String of its writer, wire.Put: the walks (printed by gen_eput.py). The external format's reader: demand, take, number, byte, name: the walks. The external format's reader: number, byte, name. The external format's reader by what is left to read: take, number, byte, name. The external format's reader: large. What the external format's reader makes of bytes: plain functions.
-/
import Derived.WalkSpells
import Derived.WalkLawsBesides
import Derived.RegionDies
import Derived.Lib.ConvBytes
import Derived.Laws.Bits64b
import Derived.Test.YtghgbikmlbildaaGreatDoorRoundsAll06
import Derived.Test.YtghgbikmlbildaaGreatDoorRoundsAll15
import Derived.Test.YtghgbikmlbildaaGreatDoorRoundsAll18
namespace Go.Proofs.YtghgbikmlbildaaGreatDoor
open Go.RowKit Go.Shelf
set_option linter.unusedVariables false
set_option linter.unusedSimpArgs false

theorem cellsByte : Tryz.prog.cellsOf 5 = 1 := by kernel_rfl
set_option maxHeartbeats 2000000 in
set_option maxRecDepth 100000 in
theorem string_wt (B b : Nat) (l : List UInt8) (w : World) (h : WtAt B b l w) (h0 : l ≠ []) (hl : l.length ≤ 70368744177664) :
  Calls Tryz.prog 97 #[.pointer (some ⟨b, 0, none⟩)] w fun e w' => e = .returned (.string ⟨l.toArray⟩) ∧ Below B w w' := by
 obtain ⟨hBb, hBw, p, bv, hp, hbk, hown, hne⟩ := h
 obtain ⟨g, cap, cur, rfl, hg1, hg2, hg3⟩ := owns_open hown h0
 have hl0 : 0 < l.length := List.length_pos_iff.2 h0
 have c1 : w.drew.cell? ⟨b, 1, none⟩ = some (.slice (some ⟨g, 0, none⟩) l.length cap) := by
  have : w.drew.heap[b]? = some (.cells #[p, .slice (some ⟨g, 0, none⟩) l.length cap] 144 (0, 0)) := hbk
  rw [Lib.cell_of_heap this]; rfl
 have hcap : cap ≠ 0 := by
  rcases hown.2 with ⟨hv, _⟩ | ⟨g', cap', cur', hv, _, _, hc, _⟩
  ·cases hv
  ·injection hv with _ _ e; omega
 have hSD : (Builtin.unsafeSliceData_ #[39] 186 #[.slice (some ⟨g, 0, none⟩) l.length cap]).run Tryz.prog w.drew = .ok (.pointer (some ⟨g, 0, none⟩)) w.drew :=
  Lib.run_unsafeSliceData_row _ _ _ _ _ _ (by omega)
 have hUS : (Builtin.unsafeString_ #[186, 3] 9 #[.pointer (some ⟨g, 0, none⟩), .int .i64 l.length]).run Tryz.prog w.drew = .ok (.string ⟨l.toArray⟩) (w.drew.freeze ⟨g, 0, none⟩ l.length) := by
  have hcs : l.length ≤ cur.size := by
   have := congrArg List.length hg3
   simp [byteC] at this
   omega
  refine Lib.run_unsafeString_row w.drew 186 3 9 5 Tryz.underlying186 cellsByte g cur.size (by have hg' : w.drew.heap[g]? = some (.cells cur 5 (0, 0)) := hg2; simp [World.shape?, hg']) l h0 (by omega) (by omega) ?_
  intro j x hx
  have := row_news hg2 hg3 j (.int .u8 x.toNat) (by simp [byteC, hx])
  have ha : (⟨g, 0, none⟩ : Addr).add j = ⟨g, j, none⟩ := by unfold Addr.add; split <;> simp_all
  rw [ha] at this ⊢
  exact this
 clear hown hp hg2 hg3
 go_enter Tryz.func97, Tryz.ntmps97
 go_wp2_with fail
 go_region
 all_goals (go_wp2; go_ret; exact ⟨rfl, Lib.below_freeze (Below.drew (Below.refl B w)) (p := ⟨g, 0, none⟩) hg1 _⟩)
set_option maxHeartbeats 4000000 in
set_option maxRecDepth 100000 in
/-- wire.Put of a valid term. -/
theorem wput_yes (f : Nat) (t : Tm) (so : Option Addr) (c : Nat) (w : World) (hsl : SlAt w 9 (TmAt w f) so t.items) (hok : t.Ok) (hcap : (capF (f + 1) t : Int) ≤ 1152921504606846976) (hv : validF (f + 1) t = true) :
  Calls Tryz.prog 46 #[.agg #[.int .i64 t.kind, .int .i64 t.int, .int .i64 t.gen, .string t.name, .string t.func, .int .i64 t.arity, .slice so t.items.length c, .string t.bytes, .int .i64 t.bits]] w fun e w' => e = .returned (.tuple #[.string ⟨(putE (f + 1) t).toArray⟩, .int .i64 0]) ∧ Below w.heap.size w w' := by
 have hbx := tbox_new w t so c
 have hba : Below w.heap.size w (w.alloc (.cells #[.int .i64 t.kind, .int .i64 t.int, .int .i64 t.gen, .string t.name, .string t.func, .int .i64 t.arity, .slice so t.items.length c, .string t.bytes, .int .i64 t.bits] 78)) := (Below.refl _ _).alloc (Nat.le_refl _) _
 have hva := tvalid_any f t so c (w.alloc (.cells #[.int .i64 t.kind, .int .i64 t.int, .int .i64 t.gen, .string t.name, .string t.func, .int .i64 t.arity, .slice so t.items.length c, .string t.bytes, .int .i64 t.bits] 78)) (hsl.tms hba) hok hcap
 rw [hv] at hva
 have hfm : formF (f + 1) t = true := by unfold validF at hv; rw [Bool.and_eq_true] at hv; exact hv.1
 have hlen := putE_len hv
 have hlen2 : (codeE (f + 1) t).length ≤ 4400001 := by have : (putE (f + 1) t).length = (codeE (f + 1) t).length + 1 := rfl; omega
 have HTW : Hid (∀ (b : Nat) (l : List UInt8) (wx : World), Below w.heap.size w wx → WtAt w.heap.size b l wx → l.length ≤ 10 → Calls Tryz.prog 96 #[.pointer (some ⟨b, 0, none⟩), .agg #[.int .i64 t.kind, .int .i64 t.int, .int .i64 t.gen, .string t.name, .string t.func, .int .i64 t.arity, .slice so t.items.length c, .string t.bytes, .int .i64 t.bits]] wx (WtQ w.heap.size b (l ++ codeE (f + 1) t) wx)) := Lib.hid (fun b l wx h1 h2 h3 => wterm_rec f t so c b l w wx hsl hok hfm h1 h2 (by omega))
 have HVA := Lib.hid hva; have HBX := Lib.hid hbx; have HBA := Lib.hid hba
 have HL : Hid ((putE (f + 1) t).length ≤ 4400001) := Lib.hid hlen
 have HP : Hid (putE (f + 1) t = [UInt8.ofNat (131 : Int).toNat] ++ codeE (f + 1) t) := Lib.hid rfl
 clear hsl hok hcap hv hbx hba hva hfm hlen hlen2
 generalize codeE (f + 1) t = C at *
 generalize putE (f + 1) t = PE at *
 go_enter Tryz.func46, Tryz.ntmps46
 go_upto_region 1 with fail
 have hq := HBX.out
 generalize w.alloc (.cells #[.int .i64 t.kind, .int .i64 t.int, .int .i64 t.gen, .string t.name, .string t.func, .int .i64 t.arity, .slice so t.items.length c, .string t.bytes, .int .i64 t.bits] 78) = Wa at *
 generalize hBz : w.heap.size = B at *
 have HBZ := Lib.hid hBz
 clear hBz
 obtain ⟨c0, c1, c2, c3, c4, c5, c6, c7, c8, cz⟩ := term_cells hq
 have hlx := lt_of_row hq
 clear cz hq
 go_wp2_with fail
 refine HVA.out.mono ?_
 rintro e w1 ⟨rfl, hb1⟩
 have HB1 : Hid (Below B w w1) := Lib.hid (HBA.out.trans (hb1.mono (by have := HBA.out.size; have := HBZ.out; omega)))
 have HX1 : Hid (w1.heap[B]? = some (.cells #[.int .i64 t.kind, .int .i64 t.int, .int .i64 t.gen, .string t.name, .string t.func, .int .i64 t.arity, .slice so t.items.length c, .string t.bytes, .int .i64 t.bits] 78 (0, 0))) := Lib.hid ((hb1.block B hlx).trans HBX.out)
 clear hb1 hlx c0 c1 c2 c3 c4 c5 c6 c7 c8
 have hB1s : B ≤ w1.heap.size := by have := HB1.out.size; have := HBZ.out; omega
 have hwt := wt_new w1 hB1s
 have hbn : Below w1.heap.size w1 (w1.alloc (.cells #[.pointer none, .slice none 0 0] 144)) := (Below.refl _ _).alloc (Nat.le_refl _) _
 have HX2 : Hid ((w1.alloc (.cells #[.pointer none, .slice none 0 0] 144)).heap[B]? = some (.cells #[.int .i64 t.kind, .int .i64 t.int, .int .i64 t.gen, .string t.name, .string t.func, .int .i64 t.arity, .slice so t.items.length c, .string t.bytes, .int .i64 t.bits] 78 (0, 0))) := Lib.hid ((hbn.block B (lt_of_row HX1.out)).trans HX1.out)
 have HB2 : Hid (Below B w (w1.alloc (.cells #[.pointer none, .slice none 0 0] 144))) := Lib.hid (HB1.out.trans (hbn.mono hB1s))
 go_upto_region 4 with fail
 generalize w1.alloc (.cells #[.pointer none, .slice none 0 0] 144) = W2 at *
 clear hbn
 generalize w1.heap.size = b at *
 have h1 := wlit1 B b [] 131 5 W2 hwt (by omega) (by simp)
 have H1 := Lib.hid h1
 have hbl := hwt.lt
 clear h1 hwt
 go_wp2_with fail
 refine H1.out.mono ?_
 rintro e w3 ⟨rfl, g1, g2, g3⟩
 have HX3 : Hid (w3.heap[B]? = some (.cells #[.int .i64 t.kind, .int .i64 t.int, .int .i64 t.gen, .string t.name, .string t.func, .int .i64 t.arity, .slice so t.items.length c, .string t.bytes, .int .i64 t.bits] 78 (0, 0))) := Lib.hid (g3 B _ _ _ HX2.out (by decide) (by decide))
 have HB3 : Hid (Below B w w3) := Lib.hid (HB2.out.trans g2)
 have HT3 := Lib.hid (HTW.out b _ w3 HB3.out g1 (by simp))
 clear g1 g2 g3 hbl
 obtain ⟨c0, c1, c2, c3, c4, c5, c6, c7, c8, cz⟩ := term_cells HX3.out
 have hlx := lt_of_row HX3.out
 clear cz
 go_wp2_with fail
 refine HT3.out.mono ?_
 rintro e w4 ⟨rfl, g1, g2, g3⟩
 have HB4 : Hid (Below B w w4) := Lib.hid (HB3.out.trans g2)
 rw [List.nil_append, ← HP.out] at g1
 have hs := string_wt B b PE w4 g1 (by rw [HP.out]; simp) (by have := HL.out; omega)
 have HS := Lib.hid hs
 have hbl := g1.lt
 clear g1 g2 g3 hs c0 c1 c2 c3 c4 c5 c6 c7 c8 hlx
 go_wp2_with fail
 refine HS.out.mono ?_
 rintro e w5 ⟨rfl, hb5⟩
 have HB5 : Hid (Below B w w5) := Lib.hid (HB4.out.trans hb5)
 clear hb5
 go_wp2_with fail
 go_ret2
 exact ⟨rfl, by rw [HBZ.out]; exact HB5.out⟩
/-- wire.Put at the literals of a unit whose literals are valid. -/
theorem wire_ok {f : Nat} {u : RUnit} (hv : ∀ t ∈ u.lits, validF (f + 1) t = true) (hcap : ∀ t ∈ u.lits, (capF (f + 1) t : Int) ≤ 1152921504606846976) : WireOk (fun t => ⟨(putE (f + 1) t).toArray⟩) f u := by
 intro t ht
 refine ⟨?_, fun ai c w h1 h2 => wput_yes f t ai c w h1 h2 (hcap t ht) (hv t ht)⟩
 have := putE_len (hv t ht)
 show (putE (f + 1) t).toArray.size ≤ _
 rw [List.size_toArray]; omega
end Go.Proofs.YtghgbikmlbildaaGreatDoor
namespace Go.Proofs.YtghgbikmlbildaaGreatDoor
open Go.RowKit
set_option linter.unusedVariables false
set_option linter.unusedSimpArgs false

/-- Block r is a reader of s, so far read, with so many parts. -/
def RdAt (r : Nat) (s : ByteArray) (at' p : Nat) (w : World) : Prop := w.heap[r]? = some (.cells #[.string s, .int .i64 at', .int .i64 p] 212 (0, 0))
/-- How a reader gives up. -/
abbrev refused : Ending := .panicked [{ v := .iface 208 (.agg #[]), recovered := false }]
theorem RdAt.lt {r : Nat} {s : ByteArray} {a p : Nat} {w : World} (h : RdAt r s a p w) : r < w.heap.size := lt_of_row h
theorem RdAt.cells {r : Nat} {s : ByteArray} {a p : Nat} {w : World} (h : RdAt r s a p w) : w.cell? ⟨r, 0, none⟩ = some (.string s) ∧ w.cell? ⟨r, 1, none⟩ = some (.int .i64 a) ∧ w.cell? ⟨r, 2, none⟩ = some (.int .i64 p) ∧ w.frozen? ⟨r, 1, none⟩ = false ∧ w.frozen? ⟨r, 2, none⟩ = false := by
 have hc := fun j => cell_of_row w r j _ _ _ h
 exact ⟨hc 0, hc 1, hc 2, Lib.frozen_of_heap h 1, Lib.frozen_of_heap h 2⟩
theorem RdAt.below {r : Nat} {s : ByteArray} {a p : Nat} {w w' : World} (h : RdAt r s a p w) (hb : Below w.heap.size w w') : RdAt r s a p w' := (hb.block r h.lt).trans h
set_option maxRecDepth 100000 in
theorem demand_yes (v : Value) (w : World) : Calls Tryz.prog 171 #[v, .bool true] w fun e w' => e = .returned (.tuple #[]) ∧ w = w' := by
 go_enter Tryz.func171, Tryz.ntmps171
 go_wp2
 go_end0
 exact ⟨rfl, rfl⟩
set_option maxRecDepth 100000 in
theorem demand_no (v : Value) (w : World) : Calls Tryz.prog 171 #[v, .bool false] w fun e w' => e = refused ∧ w = w' := by
 go_enter Tryz.func171, Tryz.ntmps171
 go_wp2
 exact ⟨rfl, rfl, rfl⟩
set_option maxRecDepth 100000 in
set_option maxHeartbeats 4000000 in
theorem take_yes (r : Nat) (s : ByteArray) (a p n : Nat) (w : World) (h : RdAt r s a p w) (hn : a + n ≤ s.size) (hs : s.size ≤ 9223372036854775807) :
  Calls Tryz.prog 205 #[.pointer (some ⟨r, 0, none⟩), .int .i64 n] w fun e w' => e = .returned (.string (s.extract a (a + n))) ∧ RdAt r s (a + n) p w' ∧ w.grownBy w' (some r) := by
 obtain ⟨c0, c1, c2, f1, f2⟩ := h.cells
 have hr := h.lt
 have hle : decide ((n : Int) ≤ (s.size : Int) - (a : Int)) = true := decide_eq_true (by omega)
 have hw1 : IntKind.i64.wrap ((s.size : Int) - (a : Int)) = (s.size : Int) - (a : Int) := by rw [IntKind.wrap_i64]; omega
 go_enter Tryz.func205, Tryz.ntmps205
 go_wp2_with fail
 go_quiet ((go_at_call 171; exact Calls.quiet_of_same ((demand_yes _ _).mono fun _ _ ⟨a, b⟩ => ⟨a, b.symm⟩)))
 go_upto_region 3 with fail
 have hq : RdAt r s (a + n) p ((w.drewN nq).setCell ⟨r, 1, none⟩ (.int .i64 ((a : Int) + (n : Int)))) := by
  have := heap_setCell_same (w.drewN nq) r 1 _ _ (.int .i64 ((a : Int) + (n : Int))) h
  refine this.trans ?_
  rw [show ((a : Int) + (n : Int)) = ((a + n : Nat) : Int) by omega]; rfl
 have hg : w.grownBy ((w.drewN nq).setCell ⟨r, 1, none⟩ (.int .i64 ((a : Int) + (n : Int)))) (some r) := grownBy_trans (grownBy_drewN (grownBy_refl w (some r)) nq) (grownBy_set _ r 1 _)
 have HQ := Lib.hid hq; have HG := Lib.hid hg
 obtain ⟨d0, d1, d2, -, -⟩ := hq.cells
 have hrl := hq.lt
 clear hq hg c0 c1 c2 f1 f2 hr hle hw1
 generalize (w.drewN nq).setCell ⟨r, 1, none⟩ (.int .i64 ((a : Int) + (n : Int))) = W at *
 have hw2 : IntKind.i64.wrap (((a + n : Nat) : Int) - (n : Int)) = (a : Int) := by rw [IntKind.wrap_i64]; omega
 have h1 : ((a + n : Nat) : Int) ≤ (s.size : Int) := by omega
 have h2 : (a : Int) ≤ ((a + n : Nat) : Int) := by omega
 generalize hb : a + n = b at *
 have HBE := Lib.hid hb
 clear hb hn
 go_quiet (fail)
 go_wp2_with fail
 go_ret
 exact ⟨congrArg (fun z => Ending.returned (.string (s.extract a z))) HBE.out.symm, by rw [HBE.out]; exact HQ.out, grownBy_drewN HG.out _⟩
set_option maxRecDepth 100000 in
set_option maxHeartbeats 4000000 in
theorem take_no (r : Nat) (s : ByteArray) (a p n : Nat) (w : World) (h : RdAt r s a p w) (ha : a ≤ s.size) (hn : s.size < a + n) (hn2 : n ≤ 9223372036854775807) (hs : s.size ≤ 9223372036854775807) :
  Calls Tryz.prog 205 #[.pointer (some ⟨r, 0, none⟩), .int .i64 n] w fun e w' => e = refused ∧ w.grownBy w' (some r) := by
 obtain ⟨c0, c1, c2, f1, f2⟩ := h.cells
 have hr := h.lt
 have hle : decide ((n : Int) ≤ (s.size : Int) - (a : Int)) = false := decide_eq_false (by omega)
 have hw1 : IntKind.i64.wrap ((s.size : Int) - (a : Int)) = (s.size : Int) - (a : Int) := by rw [IntKind.wrap_i64]; omega
 have HK := Lib.hid (sk_of (Below.refl w.heap.size w).drew)
 have HG : Hid (w.grownBy w.drew (some r)) := Lib.hid (grownBy_drew (grownBy_refl w _))
 go_enter Tryz.func205, Tryz.ntmps205
 go_wp2_with fail
 go_region_dies
 all_goals (go_wp2_with (go_at_call 171; refine (demand_no _ _).mono ?_; rintro e w1 ⟨rfl, rfl⟩))
 all_goals exact ⟨rfl, rfl, HG.out⟩
end Go.Proofs.YtghgbikmlbildaaGreatDoor
namespace Go.Proofs.YtghgbikmlbildaaGreatDoor
open Go.RowKit
set_option linter.unusedVariables false
set_option linter.unusedSimpArgs false

/-- The number of bytes, the highest first. -/
def beV (l : List UInt8) : Nat := l.foldl (fun n c => 256 * n + c.toNat) 0
theorem beV_snoc (l : List UInt8) (c : UInt8) : beV (l ++ [c]) = 256 * beV l + c.toNat := by
 unfold beV; rw [List.foldl_append]; rfl
/-- Block B: the bytes l, and spare ones. -/
def BsAt (B : Nat) (l : List UInt8) (w : World) : Prop := ∀ j (h : j < l.length), w.cell? ⟨B, j, none⟩ = some (.int .u8 (l[j].toNat : Int))
theorem conv_bytes (s : ByteArray) (w : World) : ∃ cap W1, (convert 9 39 (.string s)).run Tryz.prog w = .ok (.slice (some ⟨w.heap.size, 0, none⟩) s.size cap) W1 ∧ BsAt w.heap.size s.data.toList W1 ∧ Below w.heap.size w W1 ∧ w.heap.size < W1.heap.size := by
 refine ⟨_, _, Go.Lib.run_convert_string_bytes w _ _ _ s Tryz.underlying9 Tryz.underlying39 Tryz.underlying5, ?_, ?_, ?_⟩
 ·intro j hj
  have hj2 : j < s.size := hj
  rw [Lib.bytesWorld_cell w _ s j hj2]; simp [List.getD, hj2]
 ·exact ⟨rfl, rfl, rfl, by rw [Lib.bytesWorld_size]; omega, fun k hk => Lib.bytesWorld_at_old w _ s k hk⟩
 ·rw [Lib.bytesWorld_size]; omega
theorem take_len {s : ByteArray} {a k : Nat} (hn : a + k ≤ s.size) : ((s.data.toList.drop a).take k).length = k := by
 rw [List.length_take, List.length_drop, Array.length_toList]; change min k (s.size - a) = k; omega
theorem ext_list (s : ByteArray) (a k : Nat) : (s.extract a (a + k)).data.toList = (s.data.toList.drop a).take k := by
 rw [ByteArray.data_extract, Array.toList_extract, List.extract_eq_take_drop, Nat.add_sub_cancel_left]
theorem ext_size {s : ByteArray} {a k : Nat} (hn : a + k ≤ s.size) : (s.extract a (a + k)).size = k := by
 rw [ByteArray.size_extract]; omega
theorem beV_go : ∀ (l : List UInt8) (n : Nat), l.foldl (fun n c => 256 * n + c.toNat) n < (n + 1) * 256 ^ l.length
 | [], n => by simp
 | c :: l, n => by
  have h := beV_go l (256 * n + c.toNat)
  have hc := c.toNat_lt
  refine Nat.lt_of_lt_of_le h ?_
  rw [List.length_cons, Nat.pow_succ, Nat.mul_comm (256 ^ l.length) 256, ← Nat.mul_assoc]
  exact Nat.mul_le_mul_right _ (by omega)
theorem beV_lt (l : List UInt8) : beV l < 256 ^ l.length := by have := beV_go l 0; rw [Nat.zero_add, Nat.one_mul] at this; exact this
theorem or_i64 (a b : Nat) (ha : a < 9223372036854775808) (hb : b < 9223372036854775808) : bits .or .i64 (a : Int) (b : Int) = ((a ||| b : Nat) : Int) := by
 have hx : a ||| b < 2 ^ 63 := Nat.or_lt_two_pow (by omega) (by omega)
 have h1 : (BitVec.ofInt 64 (a : Int)).toNat = a := by
  rw [BitVec.ofInt_natCast, BitVec.toNat_ofNat]; exact Nat.mod_eq_of_lt (by omega)
 have h2 : (BitVec.ofInt 64 (b : Int)).toNat = b := by
  rw [BitVec.ofInt_natCast, BitVec.toNat_ofNat]; exact Nat.mod_eq_of_lt (by omega)
 show IntKind.i64.wrap ((BitVec.ofInt 64 (a : Int) ||| BitVec.ofInt 64 (b : Int)).toNat : Int) = _
 rw [BitVec.toNat_or, h1, h2, IntKind.wrap_i64]
 omega
theorem or_low (n c : Nat) (hn : n < 16777216) (hc : c < 256) : bits .or .i64 ((n : Int) * 256) (c : Int) = ((256 * n + c : Nat) : Int) := by
 rw [show ((n : Int) * 256) = ((256 * n : Nat) : Int) by omega, or_i64 _ _ (by omega) (by omega)]
 have := Nat.two_pow_add_eq_or_of_lt (i := 8) (b := c) (by omega) n
 rw [show (2 ^ 8 : Nat) = 256 from rfl] at this
 rw [this]
set_option maxRecDepth 100000 in
set_option maxHeartbeats 4000000 in
theorem number_yes (r : Nat) (s : ByteArray) (a p k : Nat) (w : World) (h : RdAt r s a p w) (hn : a + k ≤ s.size) (hs : s.size ≤ 9223372036854775807) (hk : k ≤ 4) :
  Calls Tryz.prog 203 #[.pointer (some ⟨r, 0, none⟩), .int .i64 k] w fun e w' => e = .returned (.int .i64 (beV ((s.data.toList.drop a).take k))) ∧ RdAt r s (a + k) p w' ∧ w.grownBy w' (some r) := by
 have hsz := ext_size hn
 have hll := ext_list s a k
 have hlen := take_len (s := s) hn
 generalize (s.data.toList.drop a).take k = l at *
 go_enter Tryz.func203, Tryz.ntmps203
 go_wp2_with (go_at_call 205; refine (take_yes r s a p k _ h hn hs).mono ?_; rintro e w1 ⟨rfl, hr1, hg1⟩; obtain ⟨cap, W1, hcv, hB, hb, hlt⟩ := conv_bytes (s.extract a (a + k)) w1)
 rw [hll] at hB
 have HR := Lib.hid (hr1.below hb)
 have HG : Hid (w.grownBy W1 (some r)) := Lib.hid (grownBy_trans hg1 (grownBy_below hb _))
 clear h hr1 hg1 hb hll hsz hcv
 have HB := Lib.hid hB
 clear hB
 generalize w1.heap.size = g at *
 clear hlt
 go_loop [5, 13] (fun n i => ∃ j : Nat, j ≤ k ∧ i = .int .i64 j ∧ n = .int .i64 (beV (l.take j))) (fun _ i => k - (intOf i).toNat)
 case atStart => exact ⟨0, Nat.zero_le _, rfl, rfl⟩
 case round =>
  obtain ⟨j, hj, rfl, rfl⟩ := hrel
  by_cases hlt : j < k
  ·have hjl : j < l.length := by omega
   have hc := HB.out j hjl
   have hv : Hid (beV (l.take (j + 1)) = 256 * beV (l.take j) + (l[j]'hjl).toNat) := Lib.hid (by rw [List.take_succ_eq_append_getElem hjl, beV_snoc])
   have hm : beV (l.take j) < 16777216 := by
    have := beV_lt (l.take j)
    rw [List.length_take] at this
    refine Nat.lt_of_lt_of_le this ?_
    exact Nat.pow_le_pow_right (by omega) (show min j l.length ≤ 3 by omega)
   have hcl := (l[j]'hjl).toNat_lt
   generalize (l[j]'hjl).toNat = c at *
   generalize beV (l.take j) = n at *
   have HO := Lib.hid (or_low n c hm (by omega))
   go_wp2
   go_round
   case rel => exact ⟨j + 1, by omega, by go_num, by rw [HO.out, hv.out]⟩
   case measure => simp [intOf]; omega
  ·have hj2 : j = k := by omega
   have ht : Hid (beV (l.take j) = beV l) := Lib.hid (by rw [List.take_of_length_le (by omega)])
   go_wp2
   go_ret
   exact ⟨congrArg (fun z : Nat => Ending.returned (.int .i64 (z : Int))) (by rw [← hj2]; exact ht.out), HR.out, HG.out⟩
set_option maxRecDepth 100000 in
set_option maxHeartbeats 4000000 in
theorem number_no (r : Nat) (s : ByteArray) (a p k : Nat) (w : World) (h : RdAt r s a p w) (ha : a ≤ s.size) (hn : s.size < a + k) (hs : s.size ≤ 9223372036854775807) (hk : k ≤ 4) :
  Calls Tryz.prog 203 #[.pointer (some ⟨r, 0, none⟩), .int .i64 k] w fun e w' => e = refused ∧ w.grownBy w' (some r) := by
 go_enter Tryz.func203, Tryz.ntmps203
 go_wp2_with (go_at_call 205; refine (take_no r s a p k _ h ha hn (by omega) hs).mono ?_; rintro e w1 ⟨rfl, hg1⟩)
 exact ⟨rfl, rfl, hg1⟩
/-- The byte that stands there. -/
theorem drop_one {s : ByteArray} {a : Nat} {c : UInt8} {l : List UInt8} (h : s.data.toList.drop a = c :: l) : a + 1 ≤ s.size ∧ s.data.toList.drop (a + 1) = l ∧ beV ((s.data.toList.drop a).take 1) = c.toNat := by
 have hl : (s.data.toList.drop a).length = l.length + 1 := by rw [h]; rfl
 rw [List.length_drop, Array.length_toList] at hl
 change s.size - a = l.length + 1 at hl
 refine ⟨by omega, ?_, ?_⟩
 ·rw [← List.drop_drop, h]; rfl
 ·rw [h]; simp [beV]
theorem drop_nil {s : ByteArray} {a : Nat} (h : s.data.toList.drop a = []) : s.size < a + 1 := by
 have hl : (s.data.toList.drop a).length = 0 := by rw [h]; rfl
 rw [List.length_drop, Array.length_toList] at hl
 change s.size - a = 0 at hl
 omega
set_option maxRecDepth 100000 in
theorem byte_yes (r : Nat) (s : ByteArray) (a p : Nat) (c : UInt8) (l : List UInt8) (w : World) (h : RdAt r s a p w) (hn : s.data.toList.drop a = c :: l) (hs : s.size ≤ 9223372036854775807) :
  Calls Tryz.prog 201 #[.pointer (some ⟨r, 0, none⟩)] w fun e w' => e = .returned (.int .i64 c.toNat) ∧ RdAt r s (a + 1) p w' ∧ w.grownBy w' (some r) := by
 have hd := drop_one hn
 generalize c.toNat = n at *
 go_enter Tryz.func201, Tryz.ntmps201
 go_wp2_with (go_at_call 203; refine (number_yes r s a p 1 _ h hd.1 hs (by omega)).mono ?_; rintro e w1 ⟨rfl, hr1, hg1⟩)
 go_ret
 exact ⟨congrArg (fun z : Nat => Ending.returned (.int .i64 (z : Int))) (by have h9 := hd.2.2; rw [hn] at h9; exact h9), hr1, hg1⟩
set_option maxRecDepth 100000 in
theorem byte_no (r : Nat) (s : ByteArray) (a p : Nat) (w : World) (h : RdAt r s a p w) (ha : a ≤ s.size) (hn : s.data.toList.drop a = []) (hs : s.size ≤ 9223372036854775807) :
  Calls Tryz.prog 201 #[.pointer (some ⟨r, 0, none⟩)] w fun e w' => e = refused ∧ w.grownBy w' (some r) := by
 have hd := drop_nil hn
 go_enter Tryz.func201, Tryz.ntmps201
 go_wp2_with (go_at_call 203; refine (number_no r s a p 1 _ h ha hd hs (by omega)).mono ?_; rintro e w1 ⟨rfl, hg1⟩)
 exact ⟨rfl, rfl, hg1⟩
end Go.Proofs.YtghgbikmlbildaaGreatDoor
namespace Go.Proofs.YtghgbikmlbildaaGreatDoor
open Go.RowKit
set_option linter.unusedVariables false
set_option linter.unusedSimpArgs false

/-- Block r is a reader before which l lies, with so many parts read. -/
def RdL (r : Nat) (s : ByteArray) (l : List UInt8) (p : Nat) (w : World) : Prop := ∃ a : Nat, RdAt r s a p w ∧ a ≤ s.size ∧ s.data.toList.drop a = l ∧ s.size ≤ 9223372036854775807
theorem RdL.lt {r : Nat} {s : ByteArray} {l : List UInt8} {p : Nat} {w : World} (h : RdL r s l p w) : r < w.heap.size := by obtain ⟨a, h, -⟩ := h; exact h.lt
theorem RdL.below {r : Nat} {s : ByteArray} {l : List UInt8} {p : Nat} {w w' : World} (h : RdL r s l p w) (hb : Below w.heap.size w w') : RdL r s l p w' := by
 obtain ⟨a, h, h2⟩ := h; exact ⟨a, h.below hb, h2⟩
theorem left_len {s : ByteArray} {a : Nat} {l : List UInt8} (ha : a ≤ s.size) (h : s.data.toList.drop a = l) : a + l.length = s.size := by
 rw [← h, List.length_drop, Array.length_toList]; change a + (s.size - a) = s.size; omega
/-- What a part of the reader may end in. -/
def RdPost {α : Type} (r : Nat) (s : ByteArray) (p : Nat) (w : World) (val : α → Value) (d : Option (α × List UInt8)) (e : Ending) (w' : World) : Prop :=
 match d with
 | none => e = refused ∧ w.grownBy w' (some r)
 | some (v, l) => e = .returned (val v) ∧ RdL r s l p w' ∧ w.grownBy w' (some r)
def strD (k : Nat) (l : List UInt8) : Option (ByteArray × List UInt8) := if k ≤ l.length then some (⟨(l.take k).toArray⟩, l.drop k) else none
def numD (k : Nat) (l : List UInt8) : Option (Nat × List UInt8) := if k ≤ l.length then some (beV (l.take k), l.drop k) else none
def byteD (l : List UInt8) : Option (Nat × List UInt8) := match l with | [] => none | c :: l => some (c.toNat, l)
def nameD (l : List UInt8) : Option (ByteArray × List UInt8) := (byteD l).bind fun x => if x.1 = 119 then (byteD x.2).bind fun y => strD y.1 y.2 else none
theorem take_l (r : Nat) (s : ByteArray) (l : List UInt8) (p k : Nat) (w : World) (h : RdL r s l p w) (hk : k ≤ 9223372036854775807) :
  Calls Tryz.prog 205 #[.pointer (some ⟨r, 0, none⟩), .int .i64 k] w (RdPost r s p w Value.string (strD k l)) := by
 obtain ⟨a, h, ha, hl, hs⟩ := h
 have hn := left_len ha hl
 by_cases c : k ≤ l.length
 ·rw [show strD k l = some (⟨(l.take k).toArray⟩, l.drop k) from if_pos c]
  refine (take_yes r s a p k w h (by omega) hs).mono ?_
  rintro e w' ⟨rfl, hr, hg⟩
  refine ⟨congrArg (fun z => Ending.returned (.string z)) ?_, ⟨a + k, hr, by omega, by rw [← hl, List.drop_drop], hs⟩, hg⟩
  apply ByteArray.ext; apply Array.ext'
  rw [ext_list, hl]
 ·rw [show strD k l = none from if_neg c]
  exact take_no r s a p k w h ha (by omega) hk hs
theorem number_l (r : Nat) (s : ByteArray) (l : List UInt8) (p k : Nat) (w : World) (h : RdL r s l p w) (hk : k ≤ 4) :
  Calls Tryz.prog 203 #[.pointer (some ⟨r, 0, none⟩), .int .i64 k] w (RdPost r s p w (fun n : Nat => Value.int .i64 n) (numD k l)) := by
 obtain ⟨a, h, ha, hl, hs⟩ := h
 have hn := left_len ha hl
 by_cases c : k ≤ l.length
 ·rw [show numD k l = some (beV (l.take k), l.drop k) from if_pos c]
  refine (number_yes r s a p k w h (by omega) hs hk).mono ?_
  rintro e w' ⟨rfl, hr, hg⟩
  exact ⟨by rw [hl], ⟨a + k, hr, by omega, by rw [← hl, List.drop_drop], hs⟩, hg⟩
 ·rw [show numD k l = none from if_neg c]
  exact number_no r s a p k w h ha (by omega) hs hk
theorem byte_l (r : Nat) (s : ByteArray) (l : List UInt8) (p : Nat) (w : World) (h : RdL r s l p w) :
  Calls Tryz.prog 201 #[.pointer (some ⟨r, 0, none⟩)] w (RdPost r s p w (fun n : Nat => Value.int .i64 n) (byteD l)) := by
 obtain ⟨a, h, ha, hl, hs⟩ := h
 cases l with
 | nil => exact byte_no r s a p w h ha hl hs
 | cons c l =>
  refine (byte_yes r s a p c l w h hl hs).mono ?_
  rintro e w' ⟨rfl, hr, hg⟩
  have := left_len ha hl
  exact ⟨rfl, ⟨a + 1, hr, by rw [List.length_cons] at this; omega, (drop_one hl).2.1, hs⟩, hg⟩
theorem byteD_lt {l : List UInt8} {x : Nat × List UInt8} (h : byteD l = some x) : x.1 < 256 := by
 cases l with
 | nil => exact absurd h (by simp [byteD])
 | cons c l => simp only [byteD, Option.some.injEq] at h; rw [← h]; exact c.toNat_lt
set_option maxRecDepth 100000 in
set_option maxHeartbeats 4000000 in
theorem name_l (r : Nat) (s : ByteArray) (l : List UInt8) (p : Nat) (w : World) (h : RdL r s l p w) :
  Calls Tryz.prog 208 #[.pointer (some ⟨r, 0, none⟩)] w (RdPost r s p w Value.string (nameD l)) := by
 have HP : Hid (RdPost r s p w Value.string (nameD l) = RdPost r s p w Value.string (nameD l)) := Lib.hid rfl
 generalize hQ : RdPost r s p w Value.string (nameD l) = Q at *
 have HQ := Lib.hid hQ
 clear HP hQ
 have HD : Hid (nameD l = (byteD l).bind fun x => if x.1 = 119 then (byteD x.2).bind fun y => strD y.1 y.2 else none) := Lib.hid rfl
 have hb := byte_l r s l p w h
 have HB := Lib.hid hb
 clear hb
 go_enter Tryz.func208, Tryz.ntmps208
 rcases hx : byteD l with _ | ⟨n, l1⟩
 ·rw [hx] at HB HD
  go_wp2_with (go_at_call 201; refine HB.out.mono ?_; rintro e w1 ⟨rfl, hg⟩)
  exact ⟨rfl, by rw [← HQ.out, HD.out]; exact ⟨rfl, hg⟩⟩
 ·rw [hx] at HB HD
  by_cases c : n = 119
  ·subst c
   go_wp2_with (go_at_call 201; refine HB.out.mono ?_; rintro e w1 ⟨rfl, hr, hg⟩)
   rw [Option.bind_some, if_pos rfl] at HD
   go_wp2_with (go_at_call 171; refine (demand_yes _ _).mono ?_; rintro e w2 ⟨rfl, rfl⟩)
   have HB1 := Lib.hid (byte_l r s l1 p _ hr)
   rcases hy : byteD l1 with _ | ⟨m, l2⟩
   ·rw [hy] at HB1 HD
    go_wp2_with (go_at_call 201; refine HB1.out.mono ?_; rintro e w2 ⟨rfl, hg2⟩)
    exact ⟨rfl, by rw [← HQ.out, HD.out]; exact ⟨rfl, grownBy_trans hg hg2⟩⟩
   ·rw [hy] at HB1 HD
    have hm : m < 256 := byteD_lt hy
    go_wp2_with (go_at_call 201; refine HB1.out.mono ?_; rintro e w2 ⟨rfl, hr2, hg2⟩)
    have HB2 := Lib.hid (take_l r s l2 p m _ hr2 (by omega))
    rw [Option.bind_some] at HD
    rcases hz : strD m l2 with _ | ⟨b, l3⟩
    ·rw [hz] at HB2
     go_wp2_with (go_at_call 205; refine HB2.out.mono ?_; rintro e w3 ⟨rfl, hg3⟩)
     exact ⟨rfl, by rw [← HQ.out, HD.out, hz]; exact ⟨rfl, grownBy_trans hg (grownBy_trans hg2 hg3)⟩⟩
    ·rw [hz] at HB2
     go_wp2_with (go_at_call 205; refine HB2.out.mono ?_; rintro e w3 ⟨rfl, hr3, hg3⟩)
     rw [← HQ.out, HD.out, hz]
     exact ⟨rfl, hr3, grownBy_trans hg (grownBy_trans hg2 hg3)⟩
  ·rw [Option.bind_some, if_neg c] at HD
   have hne : ((n : Int) == 119) = false := beq_eq_false_iff_ne.2 (by omega)
   go_wp2_with (go_at_call 201; refine HB.out.mono ?_; rintro e w1 ⟨rfl, hr, hg⟩)
   go_wp2_with (go_at_call 171; refine (demand_no _ _).mono ?_; rintro e w2 ⟨rfl, rfl⟩)
   exact ⟨rfl, by rw [← HQ.out, HD.out]; exact ⟨rfl, hg⟩⟩
end Go.Proofs.YtghgbikmlbildaaGreatDoor
namespace Go.Proofs.YtghgbikmlbildaaGreatDoor
open Go.RowKit
set_option linter.unusedVariables false
set_option linter.unusedSimpArgs false

/-- The number of bytes, the lowest first. -/
def leV : List UInt8 → Nat
 | [] => 0
 | c :: l => 256 * leV l + c.toNat
def largeV (sg : Nat) (b : ByteArray) : Option Int :=
 if b.data.toList.getD (b.size - 1) 0 = 0 then none
 else if sg = 1 then (if leV b.data.toList ≤ 9223372036854775808 ∧ 2147483648 < leV b.data.toList then some (-(leV b.data.toList : Int)) else none)
 else if leV b.data.toList < 9223372036854775808 ∧ 2147483648 ≤ leV b.data.toList then some (leV b.data.toList) else none
def largeD (l : List UInt8) : Option (Int × List UInt8) := (byteD l).bind fun x => (byteD x.2).bind fun y => if 4 ≤ x.1 ∧ x.1 ≤ 8 ∧ y.1 ≤ 1 then (strD x.1 y.2).bind fun z => (largeV y.1 z.1).bind fun v => some (v, z.2) else none
theorem leV_lt : ∀ l : List UInt8, leV l < 256 ^ l.length
 | [] => by simp [leV]
 | c :: l => by
  have h := leV_lt l; have hc := c.toNat_lt
  rw [List.length_cons, Nat.pow_succ]; unfold leV; omega
theorem strD_size {k : Nat} {l : List UInt8} {b : ByteArray} {l2 : List UInt8} (h : strD k l = some (b, l2)) : b.size = k := by
 unfold strD at h
 split at h
 ·next c =>
  simp only [Option.some.injEq, Prod.mk.injEq] at h
  rw [← h.1]; show (l.take k).toArray.size = k; rw [List.size_toArray, List.length_take]; omega
 ·exact absurd h (by simp)
theorem or_low64 (n c : Nat) (hn : n < 72057594037927936) (hc : c < 256) : bits .or .u64 ((n : Int) * 256) (c : Int) = ((256 * n + c : Nat) : Int) := by
 rw [show ((n : Int) * 256) = ((256 * n : Nat) : Int) by omega, bits_or_u64_nat _ _ (by omega) (by omega)]
 have := Nat.two_pow_add_eq_or_of_lt (i := 8) (b := c) (by omega) n
 rw [show (2 ^ 8 : Nat) = 256 from rfl] at this
 rw [this]
theorem leV_drop {l : List UInt8} {j : Nat} (h : j < l.length) : leV (l.drop j) = 256 * leV (l.drop (j + 1)) + (l[j]).toNat := by
 rw [List.drop_eq_getElem_cons h]; rfl
theorem leV_le {l : List UInt8} {j n : Nat} (h : l.length ≤ 8) (hj : 0 < j) : leV (l.drop j) < 72057594037927936 := by
 have := leV_lt (l.drop j)
 rw [List.length_drop] at this
 refine Nat.lt_of_lt_of_le this ?_
 exact Nat.pow_le_pow_right (by omega) (show l.length - j ≤ 7 by omega)
theorem neg64 (u : Nat) (h : u ≤ 9223372036854775808) (h0 : 0 < u) : wrap64 (IntKind.u64.wrap (-(u : Int))) = -(u : Int) := by
 rw [IntKind.wrap_u64]; unfold wrap64; omega
set_option maxRecDepth 100000 in
set_option maxHeartbeats 4000000 in
theorem large_l (r : Nat) (s : ByteArray) (l : List UInt8) (p : Nat) (w : World) (h : RdL r s l p w) :
  Calls Tryz.prog 204 #[.pointer (some ⟨r, 0, none⟩)] w (RdPost r s p w (fun n : Int => Value.int .i64 n) (largeD l)) := by
 generalize hQ : RdPost r s p w (fun n : Int => Value.int .i64 n) (largeD l) = Q at *
 have HQ := Lib.hid hQ
 clear hQ
 have HD : Hid (largeD l = (byteD l).bind fun x => (byteD x.2).bind fun y => if 4 ≤ x.1 ∧ x.1 ≤ 8 ∧ y.1 ≤ 1 then (strD x.1 y.2).bind fun z => (largeV y.1 z.1).bind fun v => some (v, z.2) else none) := Lib.hid rfl
 have HB := Lib.hid (byte_l r s l p w h)
 go_enter Tryz.func204, Tryz.ntmps204
 rcases hx : byteD l with _ | ⟨n, l1⟩
 ·rw [hx] at HB HD
  go_wp2_with (go_at_call 201; refine HB.out.mono ?_; rintro e w1 ⟨rfl, hg⟩)
  exact ⟨rfl, by rw [← HQ.out, HD.out]; exact ⟨rfl, hg⟩⟩
 rw [hx] at HB HD
 rw [Option.bind_some] at HD
 have hn := byteD_lt hx
 go_wp2_with (go_at_call 201; refine HB.out.mono ?_; rintro e w1 ⟨rfl, hr, hg⟩)
 have HB1 := Lib.hid (byte_l r s l1 p _ hr)
 rcases hy : byteD l1 with _ | ⟨m, l2⟩
 ·rw [hy] at HB1 HD
  go_wp2_with (go_at_call 201; refine HB1.out.mono ?_; rintro e w2 ⟨rfl, hg2⟩)
  exact ⟨rfl, by rw [← HQ.out, HD.out]; exact ⟨rfl, grownBy_trans hg hg2⟩⟩
 rw [hy] at HB1 HD
 rw [Option.bind_some] at HD
 have hm := byteD_lt hy
 by_cases cc : 4 ≤ n ∧ n ≤ 8 ∧ m ≤ 1
 case neg =>
  rw [if_neg cc] at HD
  have HC := Lib.hid cc
  by_cases c1 : 4 ≤ n
  ·by_cases c2 : n ≤ 8
   ·have c3 : ¬ m ≤ 1 := fun e => HC.out ⟨c1, c2, e⟩
    have h1 : (4 : Int) ≤ (n : Int) := by omega
    have h2 : (n : Int) ≤ 8 := by omega
    have h3 : decide ((m : Int) ≤ 1) = false := decide_eq_false (by omega)
    clear cc
    go_wp2_with (go_at_call 201; refine HB1.out.mono ?_; rintro e w2 ⟨rfl, hr2, hg2⟩)
    all_goals go_wp2_with (go_at_call 171; refine (demand_no _ _).mono ?_; rintro e w2 ⟨rfl, rfl⟩)
    all_goals exact ⟨rfl, by rw [← HQ.out, HD.out]; exact ⟨rfl, grownBy_trans hg hg2⟩⟩
   ·have h1 : (4 : Int) ≤ (n : Int) := by omega
    have h2 : ¬ (n : Int) ≤ 8 := by omega
    clear cc
    go_wp2_with (go_at_call 201; refine HB1.out.mono ?_; rintro e w2 ⟨rfl, hr2, hg2⟩)
    all_goals go_wp2_with (go_at_call 171; refine (demand_no _ _).mono ?_; rintro e w2 ⟨rfl, rfl⟩)
    all_goals exact ⟨rfl, by rw [← HQ.out, HD.out]; exact ⟨rfl, grownBy_trans hg hg2⟩⟩
  ·have h1 : ¬ (4 : Int) ≤ (n : Int) := by omega
   clear cc
   go_wp2_with (go_at_call 201; refine HB1.out.mono ?_; rintro e w2 ⟨rfl, hr2, hg2⟩)
   all_goals go_wp2_with (go_at_call 171; refine (demand_no _ _).mono ?_; rintro e w2 ⟨rfl, rfl⟩)
   all_goals exact ⟨rfl, by rw [← HQ.out, HD.out]; exact ⟨rfl, grownBy_trans hg hg2⟩⟩
 rw [if_pos cc] at HD
 obtain ⟨c1, c2, c3⟩ := cc
 have h1 : (4 : Int) ≤ (n : Int) := by omega
 have h2 : (n : Int) ≤ 8 := by omega
 have h3 : decide ((m : Int) ≤ 1) = true := decide_eq_true (by omega)
 go_wp2_with (go_at_call 201; refine HB1.out.mono ?_; rintro e w2 ⟨rfl, hr2, hg2⟩)
 have HG := Lib.hid (grownBy_trans hg hg2)
 have HB2 := Lib.hid (take_l r s l2 p n _ hr2 (by omega))
 clear hg hg2 hr h HB HB1
 go_wp2_with (go_at_call 171; refine (demand_yes _ _).mono ?_; rintro e w3 ⟨rfl, rfl⟩)
 rcases hz : strD n l2 with _ | ⟨b, l3⟩
 ·rw [hz] at HB2 HD
  go_wp2_with (go_at_call 205; refine HB2.out.mono ?_; rintro e w3 ⟨rfl, hg3⟩)
  exact ⟨rfl, by rw [← HQ.out, HD.out]; exact ⟨rfl, grownBy_trans HG.out hg3⟩⟩
 rw [hz] at HB2 HD
 rw [Option.bind_some] at HD
 have hb := strD_size hz
 go_wp2_with (go_at_call 205; refine HB2.out.mono ?_; rintro e w3 ⟨rfl, hr3, hg3⟩)
 have hG := grownBy_trans HG.out hg3
 have HG2 := Lib.hid hG
 clear hg3 hG HG HB2
 have hidx : n - 1 < b.size := by omega
 have hlast : b.data.toList.getD (b.size - 1) 0 = b[n - 1] := by
  rw [hb]; simp only [List.getD, Array.getElem?_toList]; rw [show b.data[n - 1]? = some (b[n - 1]) from Array.getElem?_eq_getElem hidx]; rfl
 have HL := Lib.hid hlast
 clear hlast
 by_cases c0 : b[n - 1] = 0
 ·have hne : ((b[n - 1].toNat : Int) != 0) = false := by rw [c0]; rfl
  have HV : Hid (largeV m b = none) := Lib.hid (if_pos (by rw [HL.out, c0]))
  rw [hne]
  go_wp2_with (go_at_call 171; refine (demand_no _ _).mono ?_; rintro e w4 ⟨rfl, rfl⟩)
  exact ⟨rfl, by rw [← HQ.out, HD.out, HV.out]; exact ⟨rfl, HG2.out⟩⟩
 have hne : ((b[n - 1].toNat : Int) != 0) = true := by
  rw [bne_iff_ne]; intro e; exact c0 (UInt8.toNat_inj.1 (by rw [show b[n - 1].toNat = 0 by omega]; rfl))
 have HV : Hid (largeV m b = if m = 1 then (if leV b.data.toList ≤ 9223372036854775808 ∧ 2147483648 < leV b.data.toList then some (-(leV b.data.toList : Int)) else none) else if leV b.data.toList < 9223372036854775808 ∧ 2147483648 ≤ leV b.data.toList then some (leV b.data.toList : Int) else none) := Lib.hid (if_neg (by rw [HL.out]; exact c0))
 rw [HV.out] at HD
 clear HV HL c0
 rw [hne]
 go_wp2_with (go_at_call 171; refine (demand_yes _ _).mono ?_; rintro e w4 ⟨rfl, rfl⟩)
 clear hne hidx
 have hll : b.data.toList.length = n := by rw [Array.length_toList]; exact hb
 go_loop [6, 7] (fun u i => ∃ k : Nat, k ≤ n ∧ i = .int .i64 ((k : Int) - 1) ∧ u = .int .u64 (leV (b.data.toList.drop k))) (fun _ i => (intOf i + 1).toNat)
 case atStart => exact ⟨n, Nat.le_refl _, rfl, by rw [List.drop_of_length_le (by omega)]; rfl⟩
 case round =>
  obtain ⟨k, hk, rfl, rfl⟩ := hrel
  cases k with
  | succ j =>
   have hj : j < b.size := by omega
   have hjl : j < b.data.toList.length := by omega
   have HU : Hid (leV (b.data.toList.drop j) = 256 * leV (b.data.toList.drop (j + 1)) + (b[j]).toNat) := Lib.hid (leV_drop hjl)
   have hu := leV_le (l := b.data.toList) (j := j + 1) (n := n) (by omega) (by omega)
   have hcl := (b[j]).toNat_lt
   have hi : ((j + 1 : Nat) : Int) - 1 = (j : Int) := by omega
   have HO := Lib.hid (or_low64 (leV (b.data.toList.drop (j + 1))) (b[j]).toNat hu (by omega))
   generalize leV (b.data.toList.drop (j + 1)) = u at *
   rw [hi]
   go_wp2
   go_round
   case rel => exact ⟨j, by omega, by go_num, by rw [HO.out, HU.out]⟩
   case measure => simp [intOf]
  | zero =>
   have hi : ((0 : Nat) : Int) - 1 = -1 := rfl
   rw [hi, List.drop_zero]
   have hU := leV_lt b.data.toList
   rw [hll] at hU
   have hU2 : leV b.data.toList < 18446744073709551616 := Nat.lt_of_lt_of_le hU (Nat.pow_le_pow_right (n := 256) (by omega) (show n ≤ 8 by omega))
   clear hU
   generalize leV b.data.toList = U at *
   by_cases cm : m = 1
   ·subst cm
    rw [if_pos rfl] at HD
    by_cases c8 : U ≤ 9223372036854775808 ∧ 2147483648 < U
    ·rw [if_pos c8] at HD
     have h8 : ((U : Int) ≤ 9223372036854775808) := by omega
     have h9 : decide ((U : Int) > 2147483648) = true := decide_eq_true (by omega)
     have HN := Lib.hid (neg64 U c8.1 (by omega))
     clear c8 hU2
     go_wp2_with (go_at_call 171; refine (demand_yes _ _).mono ?_; rintro e w4 ⟨rfl, rfl⟩)
     rw [← HQ.out, HD.out]
     exact ⟨congrArg (fun z : Int => Ending.returned (.int .i64 z)) HN.out, hr3, HG2.out⟩
    ·rw [if_neg c8] at HD
     by_cases h8 : (U : Int) ≤ 9223372036854775808
     ·have h9 : decide ((U : Int) > 2147483648) = false := decide_eq_false (by omega)
      clear c8 hU2
      go_wp2_with (go_at_call 171; refine (demand_no _ _).mono ?_; rintro e w4 ⟨rfl, rfl⟩)
      exact ⟨rfl, by rw [← HQ.out, HD.out]; exact ⟨rfl, HG2.out⟩⟩
     ·clear c8 hU2
      go_wp2_with (go_at_call 171; refine (demand_no _ _).mono ?_; rintro e w4 ⟨rfl, rfl⟩)
      exact ⟨rfl, by rw [← HQ.out, HD.out]; exact ⟨rfl, HG2.out⟩⟩
   ·have hne : ((m : Int) == 1) = false := beq_eq_false_iff_ne.2 (by omega)
    rw [if_neg cm] at HD
    by_cases c8 : U < 9223372036854775808 ∧ 2147483648 ≤ U
    ·rw [if_pos c8] at HD
     have h8 : ((U : Int) < 9223372036854775808) := by omega
     have h9 : decide ((U : Int) ≥ 2147483648) = true := decide_eq_true (by omega)
     clear c8 hU2
     go_wp2_with (go_at_call 171; refine (demand_yes _ _).mono ?_; rintro e w4 ⟨rfl, rfl⟩)
     rw [← HQ.out, HD.out]
     exact ⟨rfl, hr3, HG2.out⟩
    ·rw [if_neg c8] at HD
     by_cases h8 : (U : Int) < 9223372036854775808
     ·have h9 : decide ((U : Int) ≥ 2147483648) = false := decide_eq_false (by omega)
      clear c8 hU2
      go_wp2_with (go_at_call 171; refine (demand_no _ _).mono ?_; rintro e w4 ⟨rfl, rfl⟩)
      exact ⟨rfl, by rw [← HQ.out, HD.out]; exact ⟨rfl, HG2.out⟩⟩
     ·clear c8 hU2
      go_wp2_with (go_at_call 171; refine (demand_no _ _).mono ?_; rintro e w4 ⟨rfl, rfl⟩)
      exact ⟨rfl, by rw [← HQ.out, HD.out]; exact ⟨rfl, HG2.out⟩⟩
end Go.Proofs.YtghgbikmlbildaaGreatDoor
namespace Go.Proofs.YtghgbikmlbildaaGreatDoor
open Go.RowKit
set_option linter.unusedVariables false
set_option linter.unusedSimpArgs false

/-- A term of one kind, its other fields zero. -/
def tmK (k : Int) (int gen : Int := 0) (name func : ByteArray := ⟨#[]⟩) (arity : Int := 0) (items : List Tm := []) (bytes : ByteArray := ⟨#[]⟩) (bits : Int := 0) : Tm := .mk k int gen name func arity items bytes bits
/-- So many terms, one behind the other. -/
def itemsG (T : Nat → List UInt8 → Option ((Tm × Nat) × List UInt8)) : Nat → Nat → List UInt8 → Option ((List Tm × Nat) × List UInt8)
 | 0, p, l => some (([], p), l)
 | n + 1, p, l => (T p l).bind fun x => (itemsG T n x.1.2 x.2).bind fun y => some ((x.1.1 :: y.1.1, y.1.2), y.2)
def itemsD (T : Nat → List UInt8 → Option ((Tm × Nat) × List UInt8)) (n p : Nat) (l : List UInt8) : Option ((List Tm × Nat) × List UInt8) := if n ≤ 2000 then itemsG T n p l else none
def exportD (p : Nat) (l : List UInt8) : Option ((Tm × Nat) × List UInt8) :=
 (nameD l).bind fun x => (nameD x.2).bind fun y => (byteD y.2).bind fun z => if z.1 = 97 then (byteD z.2).bind fun q => some ((tmK 5 (name := x.1) (func := y.1) (arity := q.1), p), q.2) else none
def closureD (T : Nat → List UInt8 → Option ((Tm × Nat) × List UInt8)) (p : Nat) (l : List UInt8) : Option ((Tm × Nat) × List UInt8) :=
 (byteD l).bind fun a => (numD 2 a.2).bind fun b => (byteD b.2).bind fun c => (nameD c.2).bind fun d => (numD 4 d.2).bind fun e => (itemsD T c.1 p e.2).bind fun q =>
  some ((tmK 4 (int := b.1) (gen := e.1) (name := d.1) (arity := a.1) (items := q.1.1), q.1.2), q.2)
def funD (T : Nat → List UInt8 → Option ((Tm × Nat) × List UInt8)) (p : Nat) (l : List UInt8) : Option ((Tm × Nat) × List UInt8) :=
 (byteD l).bind fun x => if x.1 = 113 then exportD p x.2 else if x.1 = 112 then closureD T p x.2 else none
/-- A 32-bit number as one with a sign. -/
def sgn32 (n : Nat) : Int := if n < 2147483648 then n else (n : Int) - 4294967296
def tagD (T : Nat → List UInt8 → Option ((Tm × Nat) × List UInt8)) (p : Nat) (l0 : List UInt8) (tag : Nat) (l : List UInt8) : Option ((Tm × Nat) × List UInt8) :=
 if tag = 97 then (byteD l).bind fun x => some ((tmK 1 (int := x.1), p), x.2)
 else if tag = 98 then (numD 4 l).bind fun x => if sgn32 x.1 < 0 ∨ 255 < sgn32 x.1 then some ((tmK 1 (int := sgn32 x.1), p), x.2) else none
 else if tag = 110 then (largeD l).bind fun x => some ((tmK 1 (int := x.1), p), x.2)
 else if tag = 119 then (byteD l).bind fun x => (strD x.1 x.2).bind fun y => some ((tmK 2 (name := y.1), p), y.2)
 else if tag = 104 then (byteD l).bind fun x => (itemsD T x.1 p x.2).bind fun y => some ((tmK 7 (items := y.1.1), y.1.2), y.2)
 else if tag = 106 then some ((tmK 8, p), l)
 else if tag = 108 then (numD 4 l).bind fun x => (itemsD T (x.1 + 1) p x.2).bind fun y => some ((tmK 9 (items := y.1.1), y.1.2), y.2)
 else if tag = 109 then (numD 4 l).bind fun x => (strD x.1 x.2).bind fun y => some ((tmK 10 (bytes := y.1) (bits := 8 * (y.1.size : Int)), p), y.2)
 else if tag = 77 then (numD 4 l).bind fun x => (byteD x.2).bind fun y => if 0 < x.1 ∧ 0 < y.1 ∧ y.1 < 8 then (strD x.1 y.2).bind fun z => some ((tmK 10 (bytes := z.1) (bits := 8 * ((x.1 : Int) - 1) + y.1), p), z.2) else none
 else if tag = 88 then (nameD l).bind fun x => (numD 4 x.2).bind fun y => (numD 4 y.2).bind fun z => if z.1 = 0 then (numD 4 z.2).bind fun q => some ((tmK 6 (int := y.1) (gen := q.1) (name := x.1), p), q.2) else none
 else if tag = 90 then (numD 2 l).bind fun x => if x.1 = 1 then (nameD x.2).bind fun y => (numD 4 y.2).bind fun z => (numD 4 z.2).bind fun q => some ((tmK 3 (int := q.1) (gen := z.1) (name := y.1), p), q.2) else none
 else funD T p l0
/-- A term, at most so deep, so many parts being read already. -/
def termD : Nat → Nat → List UInt8 → Option ((Tm × Nat) × List UInt8)
 | 0, _, _ => none
 | f + 1, p, l => if p + 1 ≤ 2000 then (byteD l).bind fun x => tagD (termD f) (p + 1) l x.1 x.2 else none

theorem fold_be : ∀ (l : List UInt8) (n : Nat), l.foldl (fun n c => 256 * n + c.toNat) n = n * 256 ^ l.length + beV l
 | [], n => by simp [beV]
 | c :: l, n => by
  have h1 := fold_be l (256 * n + c.toNat)
  have h2 : beV (c :: l) = c.toNat * 256 ^ l.length + beV l := by
   have := fold_be l (256 * 0 + c.toNat)
   rw [Nat.mul_zero, Nat.zero_add] at this
   show l.foldl (fun n c => 256 * n + c.toNat) (256 * 0 + c.toNat) = _
   rw [Nat.mul_zero, Nat.zero_add]; exact this
  rw [List.foldl_cons, h1, h2, List.length_cons, Nat.pow_succ, Nat.add_mul, Nat.mul_comm 256 n, Nat.mul_assoc, Nat.mul_comm 256 (256 ^ l.length), Nat.add_assoc]
theorem fold_div (l : List UInt8) (n : Nat) : l.foldl (fun n c => 256 * n + c.toNat) n / 256 ^ l.length = n := by
 rw [fold_be, Nat.mul_comm, Nat.mul_add_div (Nat.pow_pos (by omega)), Nat.div_eq_of_lt (beV_lt l), Nat.add_zero]
theorem beN_beV : ∀ (k : Nat) (l : List UInt8) (m : Nat), l.length = k → beN k ((l.foldl (fun n c => 256 * n + c.toNat) m : Nat) : Int) = l
 | 0, [], m, _ => rfl
 | k + 1, c :: l, m, h => by
  have hl : l.length = k := by simpa using h
  have ih := beN_beV k l (256 * m + c.toNat) hl
  show UInt8.ofNat _ :: beN k _ = c :: l
  rw [List.foldl_cons, ih]
  congr 1
  have hd := fold_div l (256 * m + c.toNat)
  rw [hl] at hd
  have e : (2 : Int) ^ (8 * k) = ((256 ^ k : Nat) : Int) := by
   rw [Int.natCast_pow, Int.pow_mul]; rfl
  rw [e, ← Int.natCast_ediv, hd]
  have hc := c.toNat_lt
  have : (((256 * m + c.toNat : Nat) : Int) % 256).toNat = c.toNat := by omega
  rw [this]; exact UInt8.ofNat_toNat
theorem be_back {l : List UInt8} {k : Nat} (h : k ≤ l.length) : beN k (beV (l.take k) : Nat) ++ l.drop k = l := by
 rw [show beV (l.take k) = (l.take k).foldl (fun n c => 256 * n + c.toNat) 0 from rfl, beN_beV k _ 0 (by rw [List.length_take]; omega), List.take_append_drop]
theorem numD_enc {k : Nat} {l l2 : List UInt8} {n : Nat} (h : numD k l = some (n, l2)) : l = beN k n ++ l2 ∧ n < 256 ^ k := by
 unfold numD at h
 split at h
 ·next c =>
  simp only [Option.some.injEq, Prod.mk.injEq] at h
  refine ⟨by rw [← h.1, ← h.2]; exact (be_back c).symm, ?_⟩
  have := beV_lt (l.take k)
  rw [List.length_take, Nat.min_eq_left c, h.1] at this
  exact this
 ·exact absurd h (by simp)
theorem byteD_enc {l l2 : List UInt8} {n : Nat} (h : byteD l = some (n, l2)) : l = UInt8.ofNat n :: l2 ∧ n < 256 := by
 refine ⟨?_, byteD_lt h⟩
 cases l with
 | nil => exact absurd h (by simp [byteD])
 | cons c l => simp only [byteD, Option.some.injEq, Prod.mk.injEq] at h; rw [← h.1, ← h.2, UInt8.ofNat_toNat]
theorem strD_enc {k : Nat} {l l2 : List UInt8} {b : ByteArray} (h : strD k l = some (b, l2)) : l = b.data.toList ++ l2 ∧ b.size = k := by
 refine ⟨?_, strD_size h⟩
 unfold strD at h
 split at h
 ·next c =>
  simp only [Option.some.injEq, Prod.mk.injEq] at h
  rw [← h.1, ← h.2]; show l = (l.take k).toArray.toList ++ l.drop k
  rw [List.toList_toArray, List.take_append_drop]
 ·exact absurd h (by simp)
theorem nameD_enc {l l2 : List UInt8} {b : ByteArray} (h : nameD l = some (b, l2)) : l = atomE b ++ l2 ∧ b.size < 256 := by
 unfold nameD at h
 obtain ⟨x, hx, h⟩ := Option.bind_eq_some_iff.1 h
 split at h
 ·next c =>
  obtain ⟨y, hy, h⟩ := Option.bind_eq_some_iff.1 h
  have e1 := byteD_enc (n := x.1) (l2 := x.2) hx
  have e2 := byteD_enc (n := y.1) (l2 := y.2) hy
  have e3 := strD_enc h
  refine ⟨?_, by omega⟩
  rw [e1.1, e2.1, e3.1, c, ← e3.2]; rfl
 ·exact absurd h (by simp)
theorem leV_pos : ∀ (l : List UInt8), l.getD (l.length - 1) 0 ≠ 0 → 0 < leV l
 | [], h => absurd rfl h
 | [c], h => by
  have h : c ≠ 0 := h
  have : c.toNat ≠ 0 := fun e => h (UInt8.toNat_inj.1 e)
  show 0 < 256 * leV [] + c.toNat; omega
 | c :: d :: l, h => by
  have := leV_pos (d :: l) h
  show 0 < 256 * leV (d :: l) + c.toNat; omega
theorem leN_leV : ∀ (f : Nat) (l : List UInt8), l.length ≤ f → l.getD (l.length - 1) 0 ≠ 0 → leN f (leV l) = l
 | 0, [], _, h => absurd rfl h
 | f + 1, [], _, h => absurd rfl h
 | f + 1, c :: l, hl, h => by
  have hp := leV_pos (c :: l) h
  have hc := c.toNat_lt
  unfold leN
  rw [if_neg (by omega)]
  have e1 : leV (c :: l) / 256 = leV l := by show (256 * leV l + c.toNat) / 256 = leV l; omega
  have e2 : UInt8.ofNat (leV (c :: l)) = c := by
   apply UInt8.toNat_inj.1
   rw [UInt8.toNat_ofNat']; show (256 * leV l + c.toNat) % 256 = c.toNat; omega
  rw [e1, e2]
  congr 1
  cases l with
  | nil => cases f <;> rfl
  | cons d l => exact leN_leV f (d :: l) (by simpa using hl) h
theorem largeV_enc {m : Nat} {b : ByteArray} {n : Int} (h : largeV m b = some n) (h8 : b.size ≤ 8) (hm : m ≤ 1) : intE n = 110 :: UInt8.ofNat b.size :: UInt8.ofNat m :: b.data.toList := by
 unfold largeV at h
 split at h
 ·exact absurd h (by simp)
 next hl =>
 have hL : leN 8 (leV b.data.toList) = b.data.toList := leN_leV 8 _ h8 hl
 have hz : b.data.toList.length = b.size := rfl
 generalize leV b.data.toList = u at *
 split at h
 ·next c =>
  split at h
  ·next c2 =>
   simp only [Option.some.injEq] at h
   subst c
   have e : n.natAbs = u := by omega
   unfold intE bigE
   rw [if_neg (by omega), if_neg (by omega), e, hL, hz, if_pos (show n < 0 by omega)]; rfl
  ·exact absurd h (by simp)
 ·next c =>
  split at h
  ·next c2 =>
   simp only [Option.some.injEq] at h
   have hm0 : m = 0 := by omega
   subst hm0
   have e : n.natAbs = u := by omega
   unfold intE bigE
   rw [if_neg (by omega), if_neg (by omega), e, hL, hz, if_neg (show ¬ n < 0 by omega)]; rfl
  ·exact absurd h (by simp)
theorem largeD_enc {l l2 : List UInt8} {n : Int} (h : largeD l = some (n, l2)) : 110 :: l = intE n ++ l2 := by
 unfold largeD at h
 obtain ⟨x, hx, h⟩ := Option.bind_eq_some_iff.1 h
 obtain ⟨y, hy, h⟩ := Option.bind_eq_some_iff.1 h
 split at h
 ·next c =>
  obtain ⟨z, hz, h⟩ := Option.bind_eq_some_iff.1 h
  obtain ⟨v, hv, h⟩ := Option.bind_eq_some_iff.1 h
  simp only [Option.some.injEq, Prod.mk.injEq] at h
  have e1 := byteD_enc (n := x.1) (l2 := x.2) hx
  have e2 := byteD_enc (n := y.1) (l2 := y.2) hy
  have e3 := strD_enc (b := z.1) (l2 := z.2) hz
  have e4 := largeV_enc hv (by omega) c.2.2
  rw [← h.1, ← h.2, e4, e1.1, e2.1, e3.1, e3.2]; rfl
 ·exact absurd h (by simp)
end Go.Proofs.YtghgbikmlbildaaGreatDoor
