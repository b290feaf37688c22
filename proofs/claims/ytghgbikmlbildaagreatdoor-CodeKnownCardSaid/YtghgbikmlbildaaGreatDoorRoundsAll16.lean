/-
  The writer of the external term format: copyCheck, Write, WriteString, String, bytes: the walks. The writer of the external term format: number, atom, integer: the walks. Classes: the document's way and the program's are one. No program in sight.
-/
import Derived.Lib.OthersKept
import Derived.Shelf.Strings.BuilderK
import Derived.Shelf.Strings.Builder1
import Derived.WalkSpells
import Derived.WalkLawsBesides
import Derived.Handy
import Derived.Test.YtghgbikmlbildaaGreatDoorRoundsAll03
import Derived.Test.YtghgbikmlbildaaGreatDoorRoundsAll10
import Derived.Test.YtghgbikmlbildaaGreatDoorRoundsAll13
import Derived.Test.YtghgbikmlbildaaGreatDoorRoundsAll15
namespace Go.Proofs.YtghgbikmlbildaaGreatDoor
open Go.RowKit Go.Shelf
set_option linter.unusedVariables false
set_option linter.unusedSimpArgs false

/-- What this writer's work leaves as it is: every block that is neither a writer's nor bytes. -/
def StaysE (w w' : World) : Prop := ∀ (k : Nat) (cs : Array Value) (t : TypeId) (fr : Nat × Nat), w.heap[k]? = some (.cells cs t fr) → t ≠ 5 → t ≠ 144 → w'.heap[k]? = some (.cells cs t fr)
theorem StaysE.refl (w : World) : StaysE w w := fun _ _ _ _ h _ _ => h
theorem StaysE.trans {a b c : World} (h : StaysE a b) (k : StaysE b c) : StaysE a c := fun i cs t fr hi h1 h2 => k i cs t fr (h i cs t fr hi h1 h2) h1 h2
theorem StaysE.below {a b c : World} (h : StaysE a b) (hb : Below b.heap.size b c) : StaysE a c := fun i cs t fr hi h1 h2 => by
 have := h i cs t fr hi h1 h2
 exact (hb.block i (lt_of_row this)).trans this
theorem StaysE.alloc {a b : World} (h : StaysE a b) (o : Obj) : StaysE a (b.alloc o) := h.below ((Below.refl _ _).alloc (Nat.le_refl _) o)
theorem StaysE.grown {a b c : World} {B size n : Nat} {bv : Value} {xs : List Value} (h : StaysE a b) (ho : b.ownsRow B 5 size bv n xs) (hg : b.grownBy c bv.ownBlock) : StaysE a c := fun i cs t fr hi h1 h2 => by
 have hb := h i cs t fr hi h1 h2
 refine (hg.block i (lt_of_row hb) (fun e => ?_)).trans hb
 obtain ⟨c', fz, hk⟩ := Lib.ownsRow_kind ho i e.symm
 rw [hb] at hk
 injection hk with hk
 injection hk with _ h3 _
 exact h1 h3
theorem StaysE.store {a b : World} {r o : Nat} {cs0 : Array Value} {fr0 : Nat × Nat} (h : StaysE a b) (hr : b.heap[r]? = some (.cells cs0 144 fr0)) (v : Value) : StaysE a (b.setCell ⟨r, o, none⟩ v) := fun i cs t fr hi h1 h2 => by
 have hb := h i cs t fr hi h1 h2
 refine (Below.heap_setCell _ _ _ _ (fun e => ?_)).trans hb
 simp only at e
 subst e
 rw [hb] at hr
 injection hr with hr
 injection hr with _ h3 _
 exact h2 h3

/-- Block b is a writer that holds the bytes l; its row lies from block B on. -/
def WtAt (B b : Nat) (l : List UInt8) (w : World) : Prop := B ≤ b ∧ B ≤ w.heap.size ∧ ∃ p bv, (p = .pointer none ∨ p = .pointer (some ⟨b, 0, none⟩)) ∧ w.heap[b]? = some (.cells #[p, bv] 144 (0, 0)) ∧ w.ownsRow B 5 1 bv l.length (byteC l) ∧ bv.ownBlock ≠ some b
theorem WtAt.below {B b : Nat} {l : List UInt8} {w w' : World} (h : WtAt B b l w) (hb : Below w.heap.size w w') : WtAt B b l w' := by
 obtain ⟨h1, h2, p, bv, hp, hbk, hown, hne⟩ := h
 exact ⟨h1, Nat.le_trans h2 hb.size, p, bv, hp, (hb.block b (lt_of_row hbk)).trans hbk, hown.kept (grownBy_below hb none) (by cases hv : bv.ownBlock <;> simp), hne⟩
theorem WtAt.lt {B b : Nat} {l : List UInt8} {w : World} (h : WtAt B b l w) : b < w.heap.size := by
 obtain ⟨_, _, p, bv, _, hbk, _⟩ := h; exact lt_of_row hbk
theorem wt_new {B : Nat} (w : World) (h : B ≤ w.heap.size) : WtAt B w.heap.size [] (w.alloc (.cells #[.pointer none, .slice none 0 0] 144)) :=
 ⟨h, by simp; omega, .pointer none, .slice none 0 0, .inl rfl, heap_alloc_new _ _, World.ownsRow_nil _ _ _ _, by simp [Value.ownBlock]⟩

theorem sizeBuilder : (Tryz.prog.info? 142).map (·.size) = some 2 := by kernel_rfl
theorem liesWriter : liesAt Tryz.prog Tryz.prog.depth 144 (2 / Tryz.prog.cellsOf 144) 0 142 1 = true := by kernel_rfl
set_option maxHeartbeats 1000000 in
set_option maxRecDepth 100000 in
theorem copyCheck_used (b : Nat) (w : World) (h0 : w.cell? ⟨b, 0, none⟩ = some (.pointer (some ⟨b, 0, none⟩))) :
  Calls Tryz.prog 151 #[.pointer (some ⟨b, 0, none⟩)] w fun e w' => e = .returned (.tuple #[]) ∧ w' = w := by
 obtain ⟨j, hj, _⟩ := Option.map_eq_some_iff.1 sizeBuilder
 go_enter Tryz.func151, Tryz.ntmps151
 go_wp2
 rw [Lib.run_neq_ptr_same w _ Tryz.underlying140 hj]
 go_wp2
 go_end0
 exact ⟨rfl, rfl⟩
set_option maxHeartbeats 1000000 in
set_option maxRecDepth 100000 in
theorem copyCheck_fresh (b : Nat) (w : World) (h0 : w.cell? ⟨b, 0, none⟩ = some (.pointer none)) (hsh : w.shape? b = some (144, 2)) (hfz : w.frozen? ⟨b, 0, none⟩ = false) :
  Calls Tryz.prog 151 #[.pointer (some ⟨b, 0, none⟩)] w fun e w' => e = .returned (.tuple #[]) ∧ w' = w.setCell ⟨b, 0, none⟩ (.pointer (some ⟨b, 0, none⟩)) := by
 obtain ⟨j, hj, hjs⟩ := Option.map_eq_some_iff.1 sizeBuilder
 go_enter Tryz.func151, Tryz.ntmps151
 go_wp2
 rw [Lib.run_to_unsafe w ⟨b, 0, none⟩ Tryz.underlying140 Tryz.underlying218 hj (by rw [hjs]; decide) hsh (Nat.zero_lt_succ 1)]
 simp only [Result.andThen]
 rw [Oper.upon_value]
 go_wp2
 rw [run_callFunc_extern Tryz.func175 (by kernel_rfl) (by kernel_rfl) (by kernel_rfl) (e := Extern.AbiNoEscape.same) (by kernel_rfl)]
 rw [Lib.run_noEscape]
 simp only [Result.andThen]
 rw [Oper.upon_value]
 go_wp2
 rw [Lib.run_from_unsafe w ⟨b, 0, none⟩ Tryz.underlying218 Tryz.underlying140 hj hsh liesWriter]
 simp only [Result.andThen]
 rw [Oper.upon_value]
 go_wp2
 go_end0
 exact ⟨rfl, rfl⟩
/-- copyCheck of a writer of the call's own: its pointer is set. -/
theorem copyCheck_wt (B b : Nat) (l : List UInt8) (w : World) (h : WtAt B b l w) :
  Calls Tryz.prog 151 #[.pointer (some ⟨b, 0, none⟩)] w fun e w' => e = .returned (.tuple #[]) ∧ ∃ bv, w'.heap[b]? = some (.cells #[.pointer (some ⟨b, 0, none⟩), bv] 144 (0, 0)) ∧ w'.ownsRow B 5 1 bv l.length (byteC l) ∧ bv.ownBlock ≠ some b ∧ B ≤ w'.heap.size ∧ w'.heap.size = w.heap.size ∧ Below B w w' ∧ StaysE w w' ∧ (∀ k, k ≠ b → w'.heap[k]? = w.heap[k]?) ∧ ∃ p, w.heap[b]? = some (.cells #[p, bv] 144 (0, 0)) := by
 obtain ⟨hBb, hBw, p, bv, hp, hbk, hown, hne⟩ := h
 rcases hp with rfl | rfl
 ·refine (copyCheck_fresh b w (by rw [cell_of_row _ _ _ _ _ _ hbk]; rfl) (by simp [World.shape?, hbk]) (Lib.frozen_of_heap hbk 0)).mono ?_
  rintro e w' ⟨rfl, rfl⟩
  refine ⟨rfl, bv, ?_, ?_, hne, by simpa [World.setCell] using hBw, by simp [World.setCell], (Below.refl B w).setCell (p := ⟨b, 0, none⟩) hBb _, (StaysE.refl w).store hbk _, fun k hk => Below.heap_setCell _ _ _ _ hk, _, hbk⟩
  ·simp [World.setCell, hbk, Array.getElem?_modify]
  ·exact hown.kept ⟨rfl, rfl, rfl, by simp [World.setCell], fun k _ hk => Below.heap_setCell _ _ _ _ (fun e => hk (by rw [e]))⟩ (.inr (fun e => hne e))
 ·refine (copyCheck_used b w (by rw [cell_of_row _ _ _ _ _ _ hbk]; rfl)).mono ?_
  rintro e w' ⟨rfl, rfl⟩
  exact ⟨rfl, bv, hbk, hown, hne, hBw, rfl, Below.refl B _, StaysE.refl _, fun _ _ => rfl, _, hbk⟩

/-- The writer and its row lie below block z. -/
def Zed (b z : Nat) (w : World) : Prop := b < z ∧ ∀ p bv, w.heap[b]? = some (.cells #[p, bv] 144 (0, 0)) → ∀ k, bv.ownBlock = some k → k < z
theorem Zed.of {B b : Nat} {l : List UInt8} {w : World} (h : WtAt B b l w) : Zed b w.heap.size w := by
 obtain ⟨_, _, p, bv, _, hbk, hown, _⟩ := h
 refine ⟨lt_of_row hbk, fun p' bv' h' k hk => ?_⟩
 rw [hbk] at h'
 injection h' with h'
 injection h' with h' _ _
 obtain ⟨_, rfl⟩ : p = p' ∧ bv = bv' := by simpa using h'
 exact (hown.lt k hk).2
theorem Zed.below {b z : Nat} {w w' : World} (h : Zed b z w) (hl : b < w.heap.size) (hb : Below w.heap.size w w') : Zed b z w' :=
 ⟨h.1, fun p bv hp => h.2 p bv ((hb.block b hl).symm.trans hp)⟩
/-- The blocks from z on stay. -/
def KeepZ (z : Nat) (w w' : World) : Prop := ∀ k, z ≤ k → k < w.heap.size → w'.heap[k]? = w.heap[k]?
theorem wt_store {B b : Nat} {l : List UInt8} {news : List UInt8} {w2 : World} {bv v' : Value} (hBb : B ≤ b) (hBw : B ≤ w2.heap.size) (hb : w2.heap[b]? = some (.cells #[.pointer (some ⟨b, 0, none⟩), bv] 144 (0, 0))) (ho : w2.ownsRow B 5 1 v' (l.length + news.length) (byteC l ++ byteC news)) (hne : v'.ownBlock ≠ some b) :
  WtAt B b (l ++ news) (w2.setCell ⟨b, 1, none⟩ v') := by
 refine ⟨hBb, by simpa [World.setCell] using hBw, .pointer (some ⟨b, 0, none⟩), v', .inr rfl, ?_, ?_, hne⟩
 ·simp [World.setCell, hb, Array.getElem?_modify]
 ·rw [byteC_app, List.length_append]
  exact ho.kept ⟨rfl, rfl, rfl, by simp [World.setCell], fun k _ hk => Below.heap_setCell _ _ _ _ (fun e => hk (by rw [e]))⟩ (.inr (fun e => hne e))
theorem byteC_len (l : List UInt8) : (byteC l).length = l.length := by simp [byteC]
theorem byteC_one (l : List UInt8) : ∀ u ∈ byteC l, u.oneCell' = true := by
 intro u hu
 unfold byteC at hu
 obtain ⟨x, _, rfl⟩ := List.mem_map.1 hu
 rfl
set_option maxHeartbeats 2000000 in
set_option maxRecDepth 100000 in
/-- Write of bytes that lie in memory. -/
theorem write_wt (B b : Nat) (l news : List UInt8) (ad : Addr) (c : Nat) (w : World) (h : WtAt B b l w) (hnews : ∀ j u, (byteC news)[j]? = some u → w.cell? (ad.add j) = some u) (had : ad.block ≠ b) (hsp : ad.spot = none) (hlen : l.length + news.length ≤ 70368744177664) (z : Nat) (hz : Zed b z w) :
  Calls Tryz.prog 138 #[.pointer (some ⟨b, 0, none⟩), .slice (some ad) news.length c] w fun e w' => e = .returned (.tuple #[.int .i64 news.length, .nilIface]) ∧ WtAt B b (l ++ news) w' ∧ Below B w w' ∧ StaysE w w' ∧ KeepZ z w w' := by
 obtain ⟨i0, hi, hz0, hz1, hz2⟩ := info_parts infoByte
 have HN := Lib.hid hnews
 have hBb := h.1
 obtain ⟨ab, ao, asp⟩ := ad
 simp only at had hsp
 subst hsp
 clear hnews
 go_enter Tryz.func138, Tryz.ntmps138
 go_wp2_with fail
 refine (copyCheck_wt B b l _ h).mono ?_
 rintro e w1 ⟨rfl, bv, hbk, hown, hne, hBw, hsz, hb1, hst, hcell, p0, hp0⟩
 have c1 : w1.cell? ⟨b, 1, none⟩ = some bv := by rw [cell_of_row _ _ _ _ _ _ hbk]; rfl
 have f1 : w1.frozen? ⟨b, 1, none⟩ = false := Lib.frozen_of_heap hbk 1
 have HN1 : Hid (∀ j u, (byteC news)[j]? = some u → w1.cell? ((⟨ab, ao, none⟩ : Addr).add j) = some u) := Lib.hid (fun j u hj => by
  have ha : (⟨ab, ao, none⟩ : Addr).add j = ⟨ab, ao + j, none⟩ := by unfold Addr.add; split <;> simp_all
  have := HN.out j u hj
  rw [ha] at this ⊢
  exact (World.cell?_of_block (hcell ab had)).trans this)
 have HST := Lib.hid hst; have HBK := Lib.hid hbk; have HOWN := Lib.hid hown; have HB1 := Lib.hid hb1
 have HNE := Lib.hid hne
 have hbl := lt_of_row hbk
 have HKZ : Hid (∀ (w2 : World) (v : Value), w1.grownBy w2 bv.ownBlock → KeepZ z w (w2.setCell ⟨b, 1, none⟩ v)) := Lib.hid (fun w2 v hg k hk1 hk2 => by
  have hkb : k ≠ b := fun e => by have := hz.1; omega
  refine (Below.heap_setCell _ _ _ _ hkb).trans ((hg.block k (by omega) (fun e => ?_)).trans (hcell k hkb))
  have := hz.2 p0 bv hp0 k e.symm; omega)
 clear hcell hst hbk hb1 hne hsz hz hp0
 go_wp2_with (at_builtin; refine wpList_append_own_at _ rfl (.tmp 12) (.tmp 13) 39 rfl B 5 i0 (.int .u8 0) 1 1 Tryz.underlying39 hi hz0 hz1 hz2 rfl (by decide) bv l.length (byteC l) rfl hown ⟨ab, ao, none⟩ news.length c (byteC news) rfl (by rw [byteC_len]; omega) HN1.out (byteC_one news) (by unfold maxLen; omega) (by omega) hBw ?_)
 intro v' w2 hown' hgrow hnil hloc
 have hb2 : w2.heap[b]? = some (.cells #[.pointer (some ⟨b, 0, none⟩), bv] 144 (0, 0)) := by
  rw [hgrow.block b hbl (fun e => HNE.out e.symm)]
  exact HBK.out
 have d1 : w2.cell? ⟨b, 1, none⟩ = some bv := by rw [cell_of_row _ _ _ _ _ _ hb2]; rfl
 have g1 : w2.frozen? ⟨b, 1, none⟩ = false := Lib.frozen_of_heap hb2 1
 have hne' : v'.ownBlock ≠ some b := by
  rcases hloc with e | e
  ·rw [e]; exact HNE.out
  ·rw [e]; intro e2; have := Option.some.inj e2; omega
 have HB2 : Hid (Below B w w2) := Lib.hid (HB1.out.grown hgrow hBw (fun k hk => (HOWN.out.lt k hk).1))
 have HW2 : Hid (WtAt B b (l ++ news) (w2.setCell ⟨b, 1, none⟩ v')) := Lib.hid (wt_store hBb (Nat.le_trans hBw hgrow.size) hb2 hown' hne')
 have HST2 : Hid (StaysE w (w2.setCell ⟨b, 1, none⟩ v')) := Lib.hid ((HST.out.grown HOWN.out hgrow).store hb2 v')
 have HKZ2 := Lib.hid (HKZ.out w2 v' hgrow)
 clear HKZ
 obtain ⟨ao', cap', rfl⟩ := slice_of_owns hown'
 clear hown hown' hgrow hb2 hloc hnil
 go_wp2_with fail
 go_ret2
 exact ⟨rfl, HW2.out, HB2.out.setCell (p := ⟨b, 1, none⟩) hBb _, HST2.out, HKZ2.out⟩
set_option maxHeartbeats 2000000 in
set_option maxRecDepth 100000 in
/-- WriteString. -/
theorem writeS_wt (B b : Nat) (l : List UInt8) (s : ByteArray) (w : World) (h : WtAt B b l w) (hlen : l.length + s.size ≤ 70368744177664) :
  Calls Tryz.prog 116 #[.pointer (some ⟨b, 0, none⟩), .string s] w fun e w' => e = .returned (.tuple #[.int .i64 s.size, .nilIface]) ∧ WtAt B b (l ++ s.data.toList) w' ∧ Below B w w' ∧ StaysE w w' := by
 obtain ⟨i0, hi, hz0, hz1, hz2⟩ := info_parts infoByte
 have hBb := h.1
 go_enter Tryz.func116, Tryz.ntmps116
 go_wp2_with fail
 refine (copyCheck_wt B b l _ h).mono ?_
 rintro e w1 ⟨rfl, bv, hbk, hown, hne, hBw, hsz, hb1, hst, hcell, p0, hp0⟩
 have c1 : w1.cell? ⟨b, 1, none⟩ = some bv := by rw [cell_of_row _ _ _ _ _ _ hbk]; rfl
 have f1 : w1.frozen? ⟨b, 1, none⟩ = false := Lib.frozen_of_heap hbk 1
 have HST := Lib.hid hst; have HBK := Lib.hid hbk; have HOWN := Lib.hid hown; have HB1 := Lib.hid hb1
 have HNE := Lib.hid hne
 have hbl := lt_of_row hbk
 clear hcell hst hbk hb1 hne hsz hp0
 go_wp2_with (at_builtin; refine Lib.wpList_append_own_string _ rfl (.tmp 12) (.tmp 13) 39 9 rfl B 5 i0 Tryz.underlying39 Tryz.underlying9 hi hz0 hz1 hz2 bv l.length (byteC l) rfl hown s rfl (by unfold maxLen; omega) (by omega) hBw ?_)
 intro v' w2 hown' hgrow hnil
 have hb2 : w2.heap[b]? = some (.cells #[.pointer (some ⟨b, 0, none⟩), bv] 144 (0, 0)) := by
  rw [hgrow.block b hbl (fun e => HNE.out e.symm)]
  exact HBK.out
 have d1 : w2.cell? ⟨b, 1, none⟩ = some bv := by rw [cell_of_row _ _ _ _ _ _ hb2]; rfl
 have g1 : w2.frozen? ⟨b, 1, none⟩ = false := Lib.frozen_of_heap hb2 1
 have hne' : v'.ownBlock ≠ some b := ne_of_kind hown' hb2 (by decide)
 have HB2 : Hid (Below B w w2) := Lib.hid (HB1.out.grown hgrow hBw (fun k hk => (HOWN.out.lt k hk).1))
 have HW2 : Hid (WtAt B b (l ++ s.data.toList) (w2.setCell ⟨b, 1, none⟩ v')) := Lib.hid (by
  have ho2 : w2.ownsRow B 5 1 v' (l.length + s.data.toList.length) (byteC l ++ byteC s.data.toList) := hown'
  exact wt_store hBb (Nat.le_trans hBw hgrow.size) hb2 ho2 hne')
 have HST2 : Hid (StaysE w (w2.setCell ⟨b, 1, none⟩ v')) := Lib.hid ((HST.out.grown HOWN.out hgrow).store hb2 v')
 obtain ⟨ao', cap', rfl⟩ := slice_of_owns hown'
 clear hown hown' hgrow hb2 hnil
 go_wp2_with fail
 go_ret2
 exact ⟨rfl, HW2.out, HB2.out.setCell (p := ⟨b, 1, none⟩) hBb _, HST2.out⟩
set_option maxHeartbeats 2000000 in
set_option maxRecDepth 100000 in
/-- bytes: of bytes that lie in memory. -/
theorem wbytes_wt (B b : Nat) (l news : List UInt8) (ad : Addr) (c : Nat) (w : World) (h : WtAt B b l w) (hnews : ∀ j u, (byteC news)[j]? = some u → w.cell? (ad.add j) = some u) (had : ad.block ≠ b) (hsp : ad.spot = none) (hlen : l.length + news.length ≤ 70368744177664) (z : Nat) (hz : Zed b z w) :
  Calls Tryz.prog 95 #[.pointer (some ⟨b, 0, none⟩), .slice (some ad) news.length c] w fun e w' => e = .returned (.tuple #[]) ∧ WtAt B b (l ++ news) w' ∧ Below B w w' ∧ StaysE w w' ∧ KeepZ z w w' := by
 have hw := write_wt B b l news ad c w h hnews had hsp hlen z hz
 clear h hnews had hsp hlen hz
 go_enter Tryz.func95, Tryz.ntmps95
 go_wp2_with fail
 refine hw.mono ?_
 rintro e w1 ⟨rfl, h1⟩
 go_wp2_with fail
 go_end0
 exact ⟨rfl, h1⟩
/-- What a call of this writer leaves: the bytes behind those that were there. -/
def WtQ (B b : Nat) (l : List UInt8) (w : World) (e : Ending) (w' : World) : Prop := e = .returned (.tuple #[]) ∧ WtAt B b l w' ∧ Below B w w' ∧ StaysE w w'
theorem lit_news {w : World} {T : TypeId} (news : List UInt8) (cs : Array Value) (hcs : cs.toList = byteC news) : ∀ j u, (byteC news)[j]? = some u → (w.alloc (.cells cs T)).cell? ((⟨w.heap.size, 0, none⟩ : Addr).add j) = some u := by
 intro j u hj
 have ha : (⟨w.heap.size, 0, none⟩ : Addr).add j = ⟨w.heap.size, j, none⟩ := by unfold Addr.add; split <;> simp_all
 rw [ha, cell_of_row _ _ _ _ _ _ (heap_alloc_new w _), ← hj, ← hcs, Array.getElem?_toList]
theorem wlits_wtz (B b : Nat) (l news : List UInt8) (cs : Array Value) (T : TypeId) (w : World) (h : WtAt B b l w) (hcs : cs.toList = byteC news) (hlen : l.length + news.length ≤ 70368744177664) (n c : Nat) (hn : n = news.length) (z : Nat) (hz : Zed b z w) :
  Calls Tryz.prog 95 #[.pointer (some ⟨b, 0, none⟩), .slice (some ⟨w.heap.size, 0, none⟩) n c] (w.alloc (.cells cs T)) fun e w' => WtQ B b (l ++ news) w e w' ∧ KeepZ z w w' := by
 subst hn
 have hb : Below w.heap.size w (w.alloc (.cells cs T)) := (Below.refl _ _).alloc (Nat.le_refl _) _
 refine (wbytes_wt B b l news ⟨w.heap.size, 0, none⟩ c _ (h.below hb) (lit_news news cs hcs) (fun e => by have := h.lt; simp only at e; omega) rfl hlen z (hz.below h.lt hb)).mono ?_
 rintro e w' ⟨rfl, h1, h2, h3, h4⟩
 exact ⟨⟨rfl, h1, (hb.mono h.2.1).trans h2, ((StaysE.refl w).below hb).trans h3⟩, fun k hk1 hk2 => (h4 k hk1 (by simp; omega)).trans (hb.block k hk2)⟩
theorem wlits_wt (B b : Nat) (l news : List UInt8) (cs : Array Value) (T : TypeId) (w : World) (h : WtAt B b l w) (hcs : cs.toList = byteC news) (hlen : l.length + news.length ≤ 70368744177664) (n c : Nat) (hn : n = news.length) :
  Calls Tryz.prog 95 #[.pointer (some ⟨b, 0, none⟩), .slice (some ⟨w.heap.size, 0, none⟩) n c] (w.alloc (.cells cs T)) (WtQ B b (l ++ news) w) :=
 (wlits_wtz B b l news cs T w h hcs hlen n c hn _ (Zed.of h)).mono fun _ _ h => h.1
/-- The same, of one byte, of two, of three. -/
theorem wlit1 (B b : Nat) (l : List UInt8) (x : Int) (T : TypeId) (w : World) (h : WtAt B b l w) (hx : 0 ≤ x ∧ x < 256) (hlen : l.length + 1 ≤ 70368744177664) :
  Calls Tryz.prog 95 #[.pointer (some ⟨b, 0, none⟩), .slice (some ⟨w.heap.size, 0, none⟩) 1 1] (w.alloc (.cells #[.int .u8 x] T)) (WtQ B b (l ++ [UInt8.ofNat x.toNat]) w) :=
 wlits_wt B b l [UInt8.ofNat x.toNat] _ T w h (by simp [byteC]; omega) hlen 1 1 rfl
theorem wlit2 (B b : Nat) (l : List UInt8) (x y : Int) (T : TypeId) (w : World) (h : WtAt B b l w) (hx : 0 ≤ x ∧ x < 256) (hy : 0 ≤ y ∧ y < 256) (hlen : l.length + 2 ≤ 70368744177664) :
  Calls Tryz.prog 95 #[.pointer (some ⟨b, 0, none⟩), .slice (some ⟨w.heap.size, 0, none⟩) 2 2] (w.alloc (.cells #[.int .u8 x, .int .u8 y] T)) (WtQ B b (l ++ [UInt8.ofNat x.toNat, UInt8.ofNat y.toNat]) w) :=
 wlits_wt B b l [UInt8.ofNat x.toNat, UInt8.ofNat y.toNat] _ T w h (by simp [byteC]; omega) hlen 2 2 rfl
theorem wlit3 (B b : Nat) (l : List UInt8) (x y z : Int) (T : TypeId) (w : World) (h : WtAt B b l w) (hx : 0 ≤ x ∧ x < 256) (hy : 0 ≤ y ∧ y < 256) (hz : 0 ≤ z ∧ z < 256) (hlen : l.length + 3 ≤ 70368744177664) :
  Calls Tryz.prog 95 #[.pointer (some ⟨b, 0, none⟩), .slice (some ⟨w.heap.size, 0, none⟩) 3 3] (w.alloc (.cells #[.int .u8 x, .int .u8 y, .int .u8 z] T)) (WtQ B b (l ++ [UInt8.ofNat x.toNat, UInt8.ofNat y.toNat, UInt8.ofNat z.toNat]) w) :=
 wlits_wt B b l [UInt8.ofNat x.toNat, UInt8.ofNat y.toNat, UInt8.ofNat z.toNat] _ T w h (by simp [byteC]; omega) hlen 3 3 rfl
end Go.Proofs.YtghgbikmlbildaaGreatDoor
namespace Go.Proofs.YtghgbikmlbildaaGreatDoor
open Go.RowKit
set_option linter.unusedVariables false
set_option linter.unusedSimpArgs false

set_option maxHeartbeats 4000000 in
set_option maxRecDepth 100000 in
theorem wnumber_wt (B b : Nat) (l : List UInt8) (n : Int) (k : Nat) (w : World) (h : WtAt B b l w) (hn : I64 n) (hk : k ≤ 8) (hlen : l.length ≤ 35184372088832) :
  Calls Tryz.prog 141 #[.pointer (some ⟨b, 0, none⟩), .int .i64 n, .int .i64 k] w (WtQ B b (l ++ beN k n) w) := by
 have HH : Hid (WtAt B b l w ∧ Below B w w ∧ StaysE w w) := Lib.hid ⟨h, Below.refl _ _, StaysE.refl _⟩
 have HT : Hid (l ++ beN k n = l ++ beN k n) := Lib.hid rfl
 obtain ⟨n0, n1⟩ := hn
 clear h
 unfold WtQ
 generalize hT : l ++ beN k n = T at *
 go_enter Tryz.func141, Tryz.ntmps141
 go_wp2_with fail
 go_loopw [6] (fun iv wr => ∃ (m : Nat) (l' : List UInt8), m ≤ k ∧ iv = .int .i64 ((m : Int) - 1) ∧ Hid (T = l' ++ beN m n) ∧ l'.length + m = l.length + k ∧ Hid (WtAt B b l' wr ∧ Below B w wr ∧ StaysE w wr)) (fun iv _ => (intOf iv + 1).toNat)
 case atStart => exact ⟨k, l, Nat.le_refl _, rfl, Lib.hid hT.symm, rfl, HH⟩
 case round =>
  obtain ⟨m, l', hm, rfl, HV, hl, HW⟩ := hrel
  rename World => wr
  cases m with
  | succ m =>
   have e1 : ((m + 1 : Nat) : Int) - 1 = (m : Int) := by omega
   rw [e1]
   have HV2 : Hid (T = (l' ++ [UInt8.ofNat (n / 2 ^ (8 * m) % 256).toNat]) ++ beN m n) := Lib.hid (by rw [HV.out, List.append_assoc]; rfl)
   have hc := wlit1 B b l' (n / 2 ^ (8 * m) % 256) 5 wr HW.out.1 (by omega) (by omega)
   have HC := Lib.hid hc
   clear hc
   go_wp2_with fail
   refine HC.out.mono ?_
   rintro e w1 ⟨rfl, h1, h2, h3⟩
   have HW1 : Hid (WtAt B b _ w1 ∧ Below B w w1 ∧ StaysE w w1) := Lib.hid ⟨h1, HW.out.2.1.trans h2, HW.out.2.2.trans h3⟩
   clear h1 h2 h3 e1
   go_wp2_with fail
   go_roundw
   case rel => exact ⟨m, _, by omega, rfl, HV2, by rw [List.length_append, List.length_singleton]; omega, HW1⟩
   case measure => simp [intOf]
  | zero =>
   have HV2 : Hid (T = l') := Lib.hid (by rw [HV.out]; exact List.append_nil _)
   go_wp2_with fail
   go_end0
   exact ⟨rfl, by rw [HV2.out]; exact HW.out.1, HW.out.2⟩
set_option maxHeartbeats 4000000 in
set_option maxRecDepth 100000 in
theorem watom_wt (B b : Nat) (l : List UInt8) (s : ByteArray) (w : World) (h : WtAt B b l w) (hs : s.size ≤ 32) (hlen : l.length ≤ 35184372088832) :
  Calls Tryz.prog 140 #[.pointer (some ⟨b, 0, none⟩), .string s] w (WtQ B b (l ++ atomE s) w) := by
 have h1 := wlit2 B b l 119 s.size 5 w h (by omega) (by omega) (by omega)
 have HT : Hid (l ++ atomE s = (l ++ [UInt8.ofNat (119 : Int).toNat, UInt8.ofNat (s.size : Int).toNat]) ++ s.data.toList) := Lib.hid (by rw [List.append_assoc]; rfl)
 generalize l ++ atomE s = T at *
 have HS2 : ∀ wx, WtAt B b (l ++ [UInt8.ofNat (119 : Int).toNat, UInt8.ofNat (s.size : Int).toNat]) wx → _ := fun wx hx => writeS_wt B b _ s wx hx (by rw [List.length_append]; simp; omega)
 have H1 := Lib.hid h1; have H2 := Lib.hid HS2
 clear h h1 HS2
 unfold WtQ
 go_enter Tryz.func140, Tryz.ntmps140
 go_wp2_with fail
 refine H1.out.mono ?_
 rintro e w1 ⟨rfl, g1, g2, g3⟩
 go_wp2_with fail
 refine (H2.out _ g1).mono ?_
 rintro e w2 ⟨rfl, k1, k2, k3⟩
 have HF : Hid (WtAt B b T w2 ∧ Below B w w2 ∧ StaysE w w2) := Lib.hid ⟨by rw [HT.out]; exact k1, g2.trans k2, g3.trans k3⟩
 clear g1 g2 g3 k1 k2 k3
 go_wp2_with fail
 go_end0
 exact ⟨rfl, HF.out⟩
theorem owns_open {w : World} {B : Nat} {bv : Value} {l : List UInt8} (h : w.ownsRow B 5 1 bv l.length (byteC l)) (hne : l ≠ []) : ∃ g cap cur, bv = .slice (some ⟨g, 0, none⟩) l.length cap ∧ B ≤ g ∧ w.heap[g]? = some (.cells cur 5 (0, 0)) ∧ cur.toList.take l.length = byteC l := by
 rcases h.2 with ⟨_, h0⟩ | ⟨g, cap, cur, rfl, hB, hg, hc, _, hsz, htk⟩
 ·exact absurd (List.eq_nil_of_length_eq_zero h0) hne
 ·rw [Nat.mul_one] at htk
  exact ⟨g, cap, cur, rfl, hB, hg, htk⟩
theorem row_news {w : World} {g : Nat} {cur : Array Value} {l : List UInt8} (hg : w.heap[g]? = some (.cells cur 5 (0, 0))) (ht : cur.toList.take l.length = byteC l) : ∀ j u, (byteC l)[j]? = some u → w.cell? ((⟨g, 0, none⟩ : Addr).add j) = some u := by
 intro j u hj
 have ha : (⟨g, 0, none⟩ : Addr).add j = ⟨g, j, none⟩ := by unfold Addr.add; split <;> simp_all
 have hjl : j < l.length := by
  have := (List.getElem?_eq_some_iff.1 hj).1
  rwa [byteC_len] at this
 rw [ha, cell_of_row _ _ _ _ _ _ hg, ← hj, ← ht, List.getElem?_take_of_lt hjl, Array.getElem?_toList]
theorem leN_zero (f : Nat) : leN f 0 = [] := by cases f <;> rfl
set_option maxHeartbeats 4000000 in
set_option maxRecDepth 100000 in
theorem winteger_wt (B b : Nat) (l : List UInt8) (n : Int) (w : World) (h : WtAt B b l w) (hn : I64 n) (hlen : l.length ≤ 17592186144416) :
  Calls Tryz.prog 139 #[.pointer (some ⟨b, 0, none⟩), .int .i64 n] w (WtQ B b (l ++ intE n) w) := by
 have HE : Hid (intE n = if 0 ≤ n ∧ n ≤ 255 then [97, UInt8.ofNat n.toNat] else if -2147483648 ≤ n ∧ n ≤ 2147483647 then 98 :: beN 4 n else bigE n) := Lib.hid rfl
 generalize intE n = E at *
 by_cases h1 : 0 ≤ n ∧ n ≤ 255
 ·rw [if_pos h1] at HE
  have hc := wlit2 B b l 97 n 5 w h (by omega) (by omega) (by omega)
  have HC : Hid (Calls Tryz.prog 95 _ _ (WtQ B b (l ++ E) w)) := Lib.hid (by rw [HE.out]; exact hc)
  obtain ⟨a1, a2⟩ := h1
  clear h hc
  unfold WtQ
  go_enter Tryz.func139, Tryz.ntmps139
  go_wp2_with fail
  refine HC.out.mono ?_
  rintro e w1 ⟨rfl, hq⟩
  go_wp2_with fail
  go_end0
  exact ⟨rfl, hq⟩
 ·have hge : decide (0 ≤ n) = true → decide (n < 256) = false := fun h => decide_eq_false (by have := of_decide_eq_true h; omega)
  rw [if_neg h1] at HE
  by_cases h2 : -2147483648 ≤ n ∧ n ≤ 2147483647
  ·rw [if_pos h2] at HE
   have hc := wlit1 B b l 98 5 w h (by omega) (by omega)
   have hc2 : ∀ wx, WtAt B b (l ++ [UInt8.ofNat (98 : Int).toNat]) wx → _ := fun wx hx => wnumber_wt B b _ n 4 wx hx hn (by omega) (by rw [List.length_append]; simp; omega)
   have HC := Lib.hid hc; have HC2 := Lib.hid hc2
   have HT : Hid (l ++ E = (l ++ [UInt8.ofNat (98 : Int).toNat]) ++ beN 4 n) := Lib.hid (by rw [HE.out, List.append_assoc]; rfl)
   obtain ⟨b1, b2⟩ := h2
   clear h hc hc2
   unfold WtQ
   generalize l ++ E = T at *
   clear hge
   by_cases h0 : 0 ≤ n
   ·have h3 : 256 ≤ n := by omega
    clear h1
    go_enter Tryz.func139, Tryz.ntmps139
    go_wp2_with fail
    refine HC.out.mono ?_
    rintro e w1 ⟨rfl, g1, g2, g3⟩
    go_wp2_with fail
    refine (HC2.out _ g1).mono ?_
    rintro e w2 ⟨rfl, k1, k2, k3⟩
    have HF : Hid (WtAt B b T w2 ∧ Below B w w2 ∧ StaysE w w2) := Lib.hid ⟨by rw [HT.out]; exact k1, g2.trans k2, g3.trans k3⟩
    clear g1 g2 g3 k1 k2 k3
    go_wp2_with fail
    go_end0
    exact ⟨rfl, HF.out⟩
   ·clear h1
    have h3 : n < 0 := by omega
    clear h0
    go_enter Tryz.func139, Tryz.ntmps139
    go_wp2_with fail
    refine HC.out.mono ?_
    rintro e w1 ⟨rfl, g1, g2, g3⟩
    go_wp2_with fail
    refine (HC2.out _ g1).mono ?_
    rintro e w2 ⟨rfl, k1, k2, k3⟩
    have HF : Hid (WtAt B b T w2 ∧ Below B w w2 ∧ StaysE w w2) := Lib.hid ⟨by rw [HT.out]; exact k1, g2.trans k2, g3.trans k3⟩
    clear g1 g2 g3 k1 k2 k3
    go_wp2_with fail
    go_end0
    exact ⟨rfl, HF.out⟩
  ·rw [if_neg h2] at HE
   have HB : Hid (E = 110 :: UInt8.ofNat (leN 8 n.natAbs).length :: (if n < 0 then 1 else 0) :: leN 8 n.natAbs) := Lib.hid HE.out
   have HW := Lib.hid h
   obtain ⟨i0, hi, hz0, hz1, hz2⟩ := info_parts infoByte
   obtain ⟨n0, n1⟩ := hn
   have hwn : (n == wrap64 (wrap32 n)) = false := beq_eq_false_iff_ne.2 (by unfold wrap64 wrap32; omega)
   clear hge h HE
   unfold WtQ
   generalize hAA : leN 8 n.natAbs = A at HB
   have HA : Hid (A = [] ++ leN 8 n.natAbs) := Lib.hid hAA.symm
   have HAA := Lib.hid hAA
   by_cases h0 : n < 0
   ·have h3 : n < -2147483648 := by omega
    have HS : Hid (IntKind.u64.wrap (-IntKind.u64.wrap n) = (n.natAbs : Int)) := Lib.hid (by rw [IntKind.wrap_u64, IntKind.wrap_u64]; omega)
    clear h1 h2 hAA
    go_enter Tryz.func139, Tryz.ntmps139
    go_wp2_with fail
    go_loopw [5, 6] (fun uv lv wr => ∃ (m f : Nat) (xs : List UInt8), uv = .int .u64 (m : Int) ∧ m < 256 ^ f ∧ xs.length + f = 8 ∧ Hid (A = xs ++ leN f m) ∧ Hid (wr.ownsRow w.heap.size 5 1 lv xs.length (byteC xs)) ∧ Below w.heap.size w wr) (fun uv _ _ => (intOf uv).toNat)
    case atStart => exact ⟨n.natAbs, 8, [], by rw [HS.out], by omega, rfl, HA, Lib.hid (World.ownsRow_nil _ _ _ _), Below.refl _ _⟩
    case round =>
     obtain ⟨m, f, xs, rfl, hm, hxf, HV, HO, hB⟩ := hrel
     rename World => wr
     have hown := HO.out
     by_cases hm0 : 0 < m
     ·cases f with
      | zero => exact absurd hm (by simp; omega)
      | succ f =>
       have HV2 : Hid (A = (xs ++ [UInt8.ofNat m]) ++ leN f (m / 256)) := Lib.hid (by rw [HV.out]; conv => lhs; rw [leN, if_neg (by omega)]
                                                                                      simp)
       have hbyte := byte_of m
       have HBY := Lib.hid hbyte
       have hgt : decide ((0 : Int) < (m : Int)) = true := decide_eq_true (by omega)
       clear hbyte
       have hsz0 := hB.size
       go_wp2_with (at_builtin; refine wpList_append_own_at _ rfl (.tmp 17) (.tmp 20) 39 rfl w.heap.size 5 i0 (.int .u8 0) 1 1 Tryz.underlying39 hi hz0 hz1 hz2 rfl (by decide) _ xs.length (byteC xs) rfl (hown.alloc _) ⟨wr.heap.size, 0, none⟩ 1 1 [.int .u8 ((m : Int) % 256)] rfl rfl (cell_one_new _ _ _) (ints_oneCell .u8 [(m : Int) % 256]) (by unfold maxLen; omega) (by omega) (by simp; omega) ?_)
       intro v' w1 hown' hgrow hnil hloc
       rw [HBY.out] at hown'
       have hB1 : Below w.heap.size w w1 := (hB.alloc hsz0 _).grown hgrow (by simp; omega) (fun k hk => (hown.lt k hk).1)
       have HO1 : Hid (w1.ownsRow w.heap.size 5 1 v' (xs ++ [UInt8.ofNat m]).length (byteC (xs ++ [UInt8.ofNat m]))) := Lib.hid (by rw [byteC_app, List.length_append]; exact hown')
       clear hown' hgrow hnil hloc hown HO
       go_wp2_with fail
       go_roundw
       case rel => exact ⟨m / 256, f, _, by go_num, by rw [Nat.pow_succ] at hm; omega, by rw [List.length_append, List.length_singleton]; omega, HV2, HO1, hB1⟩
       case measure => simp [intOf]; omega
     ·obtain rfl : m = 0 := by omega
      have HV2 : Hid (A = xs) := Lib.hid (by rw [HV.out, leN_zero, List.append_nil])
      have hxn : xs ≠ [] := fun e => by
       have h9 : leN 8 n.natAbs = [] := HAA.out.trans (HV2.out.trans e)
       rw [show (8 : Nat) = 7 + 1 by rfl, leN, if_neg (by omega)] at h9
       cases h9
      have hxl : 0 < xs.length := List.length_pos_iff.2 hxn
      have HX : Hid (∃ g cap cur, (_ : Value) = .slice (some ⟨g, 0, none⟩) xs.length cap ∧ w.heap.size ≤ g ∧ wr.heap[g]? = some (.cells cur 5 (0, 0)) ∧ cur.toList.take xs.length = byteC xs) := Lib.hid (owns_open HO.out hxn)
      obtain ⟨g, cap, cur, rfl, hg1, hg2, hg3⟩ := HX.out
      have hzed : Zed b w.heap.size wr := (Zed.of HW.out).below HW.out.lt hB
      have hc := wlits_wtz B b l [110, UInt8.ofNat xs.length, 1] #[.int .u8 110, .int .u8 xs.length, .int .u8 1] 5 wr (HW.out.below hB) (by simp [byteC]; omega) (by simp; omega) 3 3 rfl w.heap.size hzed
      have HC := Lib.hid hc
      have HG : Hid (wr.heap[g]? = some (.cells cur 5 (0, 0)) ∧ cur.toList.take xs.length = byteC xs) := Lib.hid ⟨hg2, hg3⟩
      have hgl := lt_of_row hg2
      have HZ := Lib.hid hzed
      clear hc hg2 hg3 HX HO hown hxn hzed
      go_wp2_with fail
      refine HC.out.mono ?_
      rintro e w1 ⟨⟨rfl, q1, q2, q3⟩, q4⟩
      have hg1' : w1.heap[g]? = some (.cells cur 5 (0, 0)) := (q4 g hg1 hgl).trans HG.out.1
      have hc2 := wbytes_wt B b _ xs ⟨g, 0, none⟩ cap w1 q1 (row_news hg1' HG.out.2) (fun e => by have := HZ.out.1; simp only at e; omega) rfl (by simp; omega) w1.heap.size (Zed.of q1)
      have HC2 := Lib.hid hc2
      have HF : Hid (∀ w2, WtAt B b ((l ++ [110, UInt8.ofNat xs.length, 1]) ++ xs) w2 → Below B w1 w2 → StaysE w1 w2 → WtAt B b (l ++ E) w2 ∧ Below B w w2 ∧ StaysE w w2) := Lib.hid (fun w2 z1 z2 z3 => ⟨by
       have : l ++ E = (l ++ [110, UInt8.ofNat xs.length, 1]) ++ xs := by rw [HB.out, HV2.out, List.append_assoc]; rw [if_pos h0]; rfl
       rw [this]; exact z1, ((hB.mono HW.out.2.1).trans q2).trans z2, (((StaysE.refl w).below hB).trans q3).trans z3⟩)
      clear hc2 hg1' q1 q2 q3 q4
      go_wp2_with fail
      refine HC2.out.mono ?_
      rintro e w2 ⟨rfl, z1, z2, z3, -⟩
      have HF2 := Lib.hid (HF.out w2 z1 z2 z3)
      clear z1 z2 z3
      go_wp2_with fail
      go_end0
      exact ⟨rfl, HF2.out⟩
   ·have h3 : 2147483647 < n := by omega
    have HS : Hid (n = (n.natAbs : Int)) := Lib.hid (by omega)
    clear h1 h2 hAA
    go_enter Tryz.func139, Tryz.ntmps139
    go_wp2_with fail
    go_loopw [5, 6] (fun uv lv wr => ∃ (m f : Nat) (xs : List UInt8), uv = .int .u64 (m : Int) ∧ m < 256 ^ f ∧ xs.length + f = 8 ∧ Hid (A = xs ++ leN f m) ∧ Hid (wr.ownsRow w.heap.size 5 1 lv xs.length (byteC xs)) ∧ Below w.heap.size w wr) (fun uv _ _ => (intOf uv).toNat)
    case atStart => exact ⟨n.natAbs, 8, [], congrArg _ HS.out, by omega, rfl, HA, Lib.hid (World.ownsRow_nil _ _ _ _), Below.refl _ _⟩
    case round =>
     obtain ⟨m, f, xs, rfl, hm, hxf, HV, HO, hB⟩ := hrel
     rename World => wr
     have hown := HO.out
     by_cases hm0 : 0 < m
     ·cases f with
      | zero => exact absurd hm (by simp; omega)
      | succ f =>
       have HV2 : Hid (A = (xs ++ [UInt8.ofNat m]) ++ leN f (m / 256)) := Lib.hid (by rw [HV.out]; conv => lhs; rw [leN, if_neg (by omega)]
                                                                                      simp)
       have hbyte := byte_of m
       have HBY := Lib.hid hbyte
       have hgt : decide ((0 : Int) < (m : Int)) = true := decide_eq_true (by omega)
       clear hbyte
       have hsz0 := hB.size
       go_wp2_with (at_builtin; refine wpList_append_own_at _ rfl (.tmp 17) (.tmp 20) 39 rfl w.heap.size 5 i0 (.int .u8 0) 1 1 Tryz.underlying39 hi hz0 hz1 hz2 rfl (by decide) _ xs.length (byteC xs) rfl (hown.alloc _) ⟨wr.heap.size, 0, none⟩ 1 1 [.int .u8 ((m : Int) % 256)] rfl rfl (cell_one_new _ _ _) (ints_oneCell .u8 [(m : Int) % 256]) (by unfold maxLen; omega) (by omega) (by simp; omega) ?_)
       intro v' w1 hown' hgrow hnil hloc
       rw [HBY.out] at hown'
       have hB1 : Below w.heap.size w w1 := (hB.alloc hsz0 _).grown hgrow (by simp; omega) (fun k hk => (hown.lt k hk).1)
       have HO1 : Hid (w1.ownsRow w.heap.size 5 1 v' (xs ++ [UInt8.ofNat m]).length (byteC (xs ++ [UInt8.ofNat m]))) := Lib.hid (by rw [byteC_app, List.length_append]; exact hown')
       clear hown' hgrow hnil hloc hown HO
       go_wp2_with fail
       go_roundw
       case rel => exact ⟨m / 256, f, _, by go_num, by rw [Nat.pow_succ] at hm; omega, by rw [List.length_append, List.length_singleton]; omega, HV2, HO1, hB1⟩
       case measure => simp [intOf]; omega
     ·obtain rfl : m = 0 := by omega
      have HV2 : Hid (A = xs) := Lib.hid (by rw [HV.out, leN_zero, List.append_nil])
      have hxn : xs ≠ [] := fun e => by
       have h9 : leN 8 n.natAbs = [] := HAA.out.trans (HV2.out.trans e)
       rw [show (8 : Nat) = 7 + 1 by rfl, leN, if_neg (by omega)] at h9
       cases h9
      have hxl : 0 < xs.length := List.length_pos_iff.2 hxn
      have HX : Hid (∃ g cap cur, (_ : Value) = .slice (some ⟨g, 0, none⟩) xs.length cap ∧ w.heap.size ≤ g ∧ wr.heap[g]? = some (.cells cur 5 (0, 0)) ∧ cur.toList.take xs.length = byteC xs) := Lib.hid (owns_open HO.out hxn)
      obtain ⟨g, cap, cur, rfl, hg1, hg2, hg3⟩ := HX.out
      have hzed : Zed b w.heap.size wr := (Zed.of HW.out).below HW.out.lt hB
      have hc := wlits_wtz B b l [110, UInt8.ofNat xs.length, 0] #[.int .u8 110, .int .u8 xs.length, .int .u8 0] 5 wr (HW.out.below hB) (by simp [byteC]; omega) (by simp; omega) 3 3 rfl w.heap.size hzed
      have HC := Lib.hid hc
      have HG : Hid (wr.heap[g]? = some (.cells cur 5 (0, 0)) ∧ cur.toList.take xs.length = byteC xs) := Lib.hid ⟨hg2, hg3⟩
      have hgl := lt_of_row hg2
      have HZ := Lib.hid hzed
      clear hc hg2 hg3 HX HO hown hxn hzed
      go_wp2_with fail
      refine HC.out.mono ?_
      rintro e w1 ⟨⟨rfl, q1, q2, q3⟩, q4⟩
      have hg1' : w1.heap[g]? = some (.cells cur 5 (0, 0)) := (q4 g hg1 hgl).trans HG.out.1
      have hc2 := wbytes_wt B b _ xs ⟨g, 0, none⟩ cap w1 q1 (row_news hg1' HG.out.2) (fun e => by have := HZ.out.1; simp only at e; omega) rfl (by simp; omega) w1.heap.size (Zed.of q1)
      have HC2 := Lib.hid hc2
      have HF : Hid (∀ w2, WtAt B b ((l ++ [110, UInt8.ofNat xs.length, 0]) ++ xs) w2 → Below B w1 w2 → StaysE w1 w2 → WtAt B b (l ++ E) w2 ∧ Below B w w2 ∧ StaysE w w2) := Lib.hid (fun w2 z1 z2 z3 => ⟨by
       have : l ++ E = (l ++ [110, UInt8.ofNat xs.length, 0]) ++ xs := by rw [HB.out, HV2.out, List.append_assoc]; rw [if_neg (by omega)]; rfl
       rw [this]; exact z1, ((hB.mono HW.out.2.1).trans q2).trans z2, (((StaysE.refl w).below hB).trans q3).trans z3⟩)
      clear hc2 hg1' q1 q2 q3 q4
      go_wp2_with fail
      refine HC2.out.mono ?_
      rintro e w2 ⟨rfl, z1, z2, z3, -⟩
      have HF2 := Lib.hid (HF.out w2 z1 z2 z3)
      clear z1 z2 z3
      go_wp2_with fail
      go_end0
      exact ⟨rfl, HF2.out⟩
end Go.Proofs.YtghgbikmlbildaaGreatDoor
namespace Go.Proofs.YtghgbikmlbildaaGreatDoor
open Go.RowKit

/-! ### A word between blanks -/
def Tw (ws : List (List UInt8)) : List UInt8 := 32 :: ws.flatMap fun w => w ++ [32]
theorem Tw_cons (w : List UInt8) (ws : List (List UInt8)) : Tw (w :: ws) = 32 :: (w ++ Tw ws) := by
 unfold Tw; rw [List.flatMap_cons, List.append_assoc]; rfl
theorem word_eq : ∀ {x w b c : List UInt8}, 32 ∉ x → 32 ∉ w → x ++ 32 :: b = w ++ 32 :: c → x = w
 | [], [], _, _, _, _, _ => rfl
 | [], y :: w, _, _, _, hw, h => by
  injection h with h1 _
  subst h1
  exact absurd List.mem_cons_self hw
 | y :: x, [], _, _, hx, _, h => by
  injection h with h1 _
  subst h1
  exact absurd List.mem_cons_self hx
 | y :: x, z :: w, b, c, hx, hw, h => by
  injection h with h1 h2
  subst h1
  rw [word_eq (fun h => hx (List.mem_cons_of_mem _ h)) (fun h => hw (List.mem_cons_of_mem _ h)) h2]
theorem infix_word {x : List UInt8} (hx : 32 ∉ x) : ∀ (ws : List (List UInt8)), (∀ w ∈ ws, 32 ∉ w) → ((32 :: (x ++ [32])) <:+: Tw ws ↔ x ∈ ws)
 | [], _ => by
  constructor
  ·rintro ⟨a, b, h⟩
   have := congrArg List.length h
   simp [Tw] at this
   omega
  ·intro h; cases h
 | w :: ws, hws => by
  have ih := infix_word hx ws (fun v hv => hws v (List.mem_cons_of_mem _ hv))
  have hw := hws w List.mem_cons_self
  rw [Tw_cons]
  constructor
  ·rintro ⟨a, b, h⟩
   cases a with
   | nil =>
    have h2 : x ++ 32 :: b = w ++ 32 :: ws.flatMap (fun w => w ++ [32]) := by
     simp only [List.nil_append, List.cons_append, List.append_assoc, List.cons.injEq, true_and] at h
     exact h
    rw [word_eq hx hw h2]
    exact List.mem_cons_self
   | cons y a =>
    have h2 : a ++ (32 :: (x ++ [32]) ++ b) = w ++ Tw ws := by
     rw [List.cons_append, List.cons_append] at h
     injection h with _ h
     rw [← h, List.append_assoc]
    rcases List.append_eq_append_iff.1 h2 with ⟨c, h3, h4⟩ | ⟨c, h3, h4⟩
    ·cases c with
     | nil =>
      rw [List.append_nil] at h3
      refine List.mem_cons_of_mem _ (ih.1 ⟨[], b, ?_⟩)
      rw [List.nil_append, h4]; rfl
     | cons z c =>
      rw [List.cons_append, List.cons_append] at h4
      injection h4 with h5 _
      subst h5
      exact absurd (by rw [h3]; exact List.mem_append_right _ List.mem_cons_self) hw
    ·exact List.mem_cons_of_mem _ (ih.1 ⟨c, b, by rw [h4, List.append_assoc]⟩)
  ·intro h
   rcases List.mem_cons.1 h with rfl | h
   ·exact ⟨[], ws.flatMap (fun w => w ++ [32]), by simp [Tw]⟩
   ·obtain ⟨a, b, e⟩ := ih.2 h
    exact ⟨32 :: (w ++ a), b, by rw [← e]; simp⟩
/-- Does a text contain another one, place by place? -/
def holdsB (s p : List UInt8) : Bool := decide (∃ i, i < s.length + 1 ∧ i + p.length ≤ s.length ∧ (s.drop i).take p.length = p)
theorem holdsB_infix (s p : List UInt8) : holdsB s p = decide (p <:+: s) := by
 unfold holdsB
 rw [decide_eq_decide]
 constructor
 ·rintro ⟨i, _, _, h⟩
  exact ⟨s.take i, (s.drop i).drop p.length, by rw [← h, List.length_take]; rw [List.append_assoc]; conv => rhs; rw [← List.take_append_drop i s]
                                                congr 1
                                                have : min p.length (s.drop i).length = p.length := by
                                                  have := congrArg List.length h
                                                  rw [List.length_take] at this; exact this
                                                rw [this]; exact List.take_append_drop _ _⟩
 ·rintro ⟨a, b, rfl⟩
  refine ⟨a.length, by simp only [List.length_append]; omega, by simp only [List.length_append]; omega, ?_⟩
  rw [List.append_assoc, List.drop_left, List.take_left]

/-! ### The classes -/
def wordsR (c : Nat) : List (List UInt8) := if c = 1 then words1 else if c = 2 then words2 else if c = 3 then words3 else if c = 4 then words4 else []
def namesR (c : Nat) : List UInt8 := Tw (wordsR c)
def wordR (s : ByteArray) (n : Nat) : List UInt8 := s.data.toList ++ [47, UInt8.ofNat (48 + n)]
/-- The class of a name with an arity, as the document says it. -/
def classR (s : ByteArray) (n : Int) : Int :=
 if nameB s = true ∧ 0 ≤ n ∧ n ≤ 9 then
  if wordR s n.toNat ∈ words1 then 1 else if wordR s n.toNat ∈ words2 then 2 else if wordR s n.toNat ∈ words3 then 3 else if wordR s n.toNat ∈ words4 then 4 else 0
 else 0
theorem tabAll_eq {c : Int} : ∀ (ws : List (List UInt8)) (t : List UInt8 → Int) (k : List UInt8), tabAll c ws t k = if k ∈ ws then c else t k
 | [], t, k => by rw [if_neg (by simp)]; rfl
 | x :: ws, t, k => by
  show tabAll c ws (tabPut t x c) k = _
  rw [tabAll_eq ws _ k]
  by_cases h : k ∈ ws
  ·rw [if_pos h, if_pos (List.mem_cons_of_mem _ h)]
  ·rw [if_neg h]
   unfold tabPut
   by_cases e : k = x
   ·rw [if_pos e, if_pos (by rw [e]; exact List.mem_cons_self)]
   ·rw [if_neg e, if_neg (fun hm => (List.mem_cons.1 hm).elim e h)]
theorem words_apart : ((words1.all fun x => !(words2.elem x) && !(words3.elem x) && !(words4.elem x)) && (words2.all fun x => !(words3.elem x) && !(words4.elem x)) && (words3.all fun x => !(words4.elem x))) = true := by decide +kernel
/-- A name, a slash, a digit. -/
def formW (w : List UInt8) : Bool :=
 match w.reverse with
 | d :: 47 :: r => decide (48 ≤ d.toNat ∧ d.toNat ≤ 57) && (decide (47 ∉ r) && nameB ⟨r.reverse.toArray⟩)
 | _ => false
theorem words_form : (words1 ++ (words2 ++ (words3 ++ words4))).all formW = true := by decide +kernel
theorem words_noblank : (words1 ++ (words2 ++ (words3 ++ words4))).all (fun w => decide (32 ∉ w)) = true := by decide +kernel
theorem formW_of {w : List UInt8} (h : formW w = true) : ∃ (r : List UInt8) (d : UInt8), w = r ++ [47, d] ∧ 48 ≤ d.toNat ∧ d.toNat ≤ 57 ∧ 47 ∉ r ∧ nameB ⟨r.toArray⟩ = true := by
 unfold formW at h
 split at h
 ·rename_i d r e
  rw [Bool.and_eq_true, Bool.and_eq_true, decide_eq_true_eq, decide_eq_true_eq] at h
  have e2 := congrArg List.reverse e
  rw [List.reverse_reverse] at e2
  refine ⟨r.reverse, d, by rw [e2]; simp, h.1.1, h.1.2, by simpa using h.2.1, h.2.2⟩
 ·cases h
theorem slash_eq : ∀ {x w b c : List UInt8}, 47 ∉ x → 47 ∉ w → x ++ 47 :: b = w ++ 47 :: c → x = w ∧ b = c
 | [], [], _, _, _, _, h => by injection h with _ h; exact ⟨rfl, h⟩
 | [], y :: w, _, _, _, hw, h => by
  injection h with h1 _
  subst h1
  exact absurd List.mem_cons_self hw
 | y :: x, [], _, _, hx, _, h => by
  injection h with h1 _
  subst h1
  exact absurd List.mem_cons_self hx
 | y :: x, z :: w, b, c, hx, hw, h => by
  injection h with h1 h2
  subst h1
  obtain ⟨e1, e2⟩ := slash_eq (fun h => hx (List.mem_cons_of_mem _ h)) (fun h => hw (List.mem_cons_of_mem _ h)) h2
  exact ⟨by rw [e1], e2⟩
theorem indexByte_neg : ∀ (l : List UInt8) (c : UInt8), (0 ≤ Lib.indexByte l c) ↔ c ∈ l
 | [], c => by simp [Lib.indexByte]
 | b :: l, c => by
  have ih := indexByte_neg l c
  have hg := Lib.indexByte_ge l c
  unfold Lib.indexByte
  by_cases e : (b == c) = true
  ·rw [if_pos e]
   simp [eq_of_beq e]
  ·rw [if_neg e]
   have hne : b ≠ c := fun h => e (by rw [h]; exact beq_self_eq_true c)
   rw [List.mem_cons, ← ih]
   by_cases z : (Lib.indexByte l c == -1) = true
   ·rw [if_pos z]
    have := eq_of_beq z
    constructor
    ·intro h; omega
    ·rintro (h | h)
     ·exact absurd h.symm hne
     ·omega
   ·rw [if_neg z]
    have : Lib.indexByte l c ≠ -1 := fun h => z (by rw [h]; rfl)
    constructor
    ·intro h; exact .inr (by omega)
    ·intro _; omega
theorem txt_digit {n : Int} (h0 : 0 ≤ n) (h9 : n ≤ 9) : txt n = [UInt8.ofNat (48 + n.toNat)] := by
 unfold txt
 rw [if_neg (by omega), dig_small (by omega)]
 unfold dgt
 rw [show n.natAbs % 10 = n.toNat by omega]
theorem dig_two {m : Nat} (h : ¬ m < 10) : 2 ≤ (dig m).length := by
 rw [dig_big h]
 have : 1 ≤ (dig (m / 10)).length := by
  by_cases h2 : m / 10 < 10
  ·rw [dig_small h2]; simp
  ·rw [dig_big h2]; simp
 simp; omega
theorem txt_one {n : Int} (hn : 0 ≤ n) {d : UInt8} (h : txt n = [d]) : n ≤ 9 ∧ d = UInt8.ofNat (48 + n.toNat) := by
 by_cases h9 : n ≤ 9
 ·rw [txt_digit hn h9] at h; injection h with h _; exact ⟨h9, h.symm⟩
 ·have := dig_two (m := n.natAbs) (by omega)
  unfold txt at h
  rw [if_neg (by omega)] at h
  rw [h] at this
  simp at this
theorem name_noslash {s : ByteArray} (h : nameB s = true) : 47 ∉ s.data.toList ∧ 32 ∉ s.data.toList := by
 unfold nameB at h
 rw [Bool.and_eq_true, decide_eq_true_eq] at h
 have : ∀ c ∈ s.data.toList, c ≠ 47 ∧ c ≠ 32 := fun c hc => by
  obtain ⟨j, hj, rfl⟩ := List.getElem_of_mem hc
  have hj2 : j < s.size := by simpa using hj
  have h1 := h.2 j hj2
  have e : s[j].toNat = s.data.toList[j].toNat := by rw [Array.getElem_toList]; rfl
  rw [e] at h1
  constructor
  ·intro h2; rw [h2] at h1; unfold okAt at h1; revert h1; simp
  ·intro h2; rw [h2] at h1; unfold okAt at h1; revert h1; simp
 exact ⟨fun h => (this _ h).1 rfl, fun h => (this _ h).2 rfl⟩
theorem mem_form {w : List UInt8} (h : w ∈ words1 ∨ w ∈ words2 ∨ w ∈ words3 ∨ w ∈ words4) : formW w = true := by
 refine List.all_eq_true.1 words_form w ?_
 rw [List.mem_append, List.mem_append, List.mem_append]
 exact h
theorem classB_classR (s : ByteArray) (n : Int) : classB s n = classR s n := by
 have hap := words_apart
 simp only [Bool.and_eq_true, List.all_eq_true, Bool.not_eq_true'] at hap
 obtain ⟨⟨hap1, hap2⟩, hap3⟩ := hap
 have el : ∀ {x : List UInt8} {l : List (List UInt8)}, l.elem x = false → x ∉ l := fun h hm => by rw [List.elem_eq_true_of_mem hm] at h; cases h
 unfold classB
 by_cases hneg : n < 0 ∨ 0 ≤ Lib.indexByte s.data.toList 47
 ·rw [if_pos hneg]
  unfold classR
  rw [if_neg]
  rintro ⟨h1, h2, h3⟩
  rcases hneg with h | h
  ·omega
  ·exact (name_noslash h1).1 ((indexByte_neg _ _).1 h)
 ·rw [if_neg hneg]
  have hn0 : 0 ≤ n := by omega
  have hns : 47 ∉ s.data.toList := fun h => hneg (.inr ((indexByte_neg _ _).2 h))
  unfold classT
  rw [tabAll_eq, tabAll_eq, tabAll_eq, tabAll_eq]
  by_cases hm : (s.data.toList ++ [47] ++ txt n) ∈ words1 ∨ (s.data.toList ++ [47] ++ txt n) ∈ words2 ∨ (s.data.toList ++ [47] ++ txt n) ∈ words3 ∨ (s.data.toList ++ [47] ++ txt n) ∈ words4
  ·obtain ⟨r, d, e, hd1, hd2, hr, hname⟩ := formW_of (mem_form hm)
   have e2 : s.data.toList ++ 47 :: txt n = r ++ 47 :: [d] := by rw [← e]; simp
   obtain ⟨e3, e4⟩ := slash_eq hns hr e2
   obtain ⟨h9, hd⟩ := txt_one hn0 e4
   have hv : nameB s = true := by
    have : s = ⟨r.toArray⟩ := by rw [← e3]
    rw [this]; exact hname
   have ew : s.data.toList ++ [47] ++ txt n = wordR s n.toNat := by unfold wordR; rw [e4, hd]; simp
   rw [ew] at hm ⊢
   have ecl : classR s n = if wordR s n.toNat ∈ words1 then 1 else if wordR s n.toNat ∈ words2 then 2 else if wordR s n.toNat ∈ words3 then 3 else if wordR s n.toNat ∈ words4 then 4 else 0 := by
    unfold classR; rw [if_pos ⟨hv, hn0, h9⟩]
   rw [ecl]
   clear ecl
   generalize wordR s n.toNat = x at *
   by_cases m1 : x ∈ words1
   ·obtain ⟨⟨a, b⟩, c⟩ := hap1 x m1
    have a' := el a; have b' := el b; have c' := el c
    simp only [m1, a', b', c', if_true, if_false]
   ·by_cases m2 : x ∈ words2
    ·obtain ⟨a, b⟩ := hap2 x m2
     have a' := el a; have b' := el b
     simp only [m1, m2, a', b', if_true, if_false]
    ·by_cases m3 : x ∈ words3
     ·have a' := el (hap3 x m3)
      simp only [m1, m2, m3, a', if_true, if_false]
     ·by_cases m4 : x ∈ words4
      ·simp only [m1, m2, m3, m4, if_true, if_false]
      ·rcases hm with h | h | h | h <;> contradiction
  ·have h1 : ∀ {c : Prop} [Decidable c] {a b : Int}, ¬ c → (if c then a else b) = b := fun h => if_neg h
   rw [if_neg (fun h => hm (.inr (.inr (.inr h)))), if_neg (fun h => hm (.inr (.inr (.inl h)))), if_neg (fun h => hm (.inr (.inl h))), if_neg (fun h => hm (.inl h))]
   unfold classR
   by_cases hc : nameB s = true ∧ 0 ≤ n ∧ n ≤ 9
   ·rw [if_pos hc]
    have ew : s.data.toList ++ [47] ++ txt n = wordR s n.toNat := by unfold wordR; rw [txt_digit hc.2.1 hc.2.2]; simp
    rw [ew] at hm
    rw [if_neg (fun h => hm (.inl h)), if_neg (fun h => hm (.inr (.inl h))), if_neg (fun h => hm (.inr (.inr (.inl h)))), if_neg (fun h => hm (.inr (.inr (.inr h))))]
   ·rw [if_neg hc]
/-- A text of a class contains a name's word just if the class has it. -/
theorem holds_word {s : ByteArray} (hs : nameB s = true) {n : Nat} (hn : n ≤ 9) {c : Nat} (hc : 1 ≤ c ∧ c ≤ 4) : holdsB (namesR c) (32 :: (wordR s n ++ [32])) = decide (wordR s n ∈ wordsR c) := by
 rw [holdsB_infix, decide_eq_decide]
 refine infix_word ?_ _ (fun w hw => ?_)
 ·unfold wordR
  intro h
  rw [List.mem_append] at h
  rcases h with h | h
  ·exact (name_noslash hs).2 h
  ·have : ∀ k, k ≤ 9 → (32 : UInt8) ∉ [47, UInt8.ofNat (48 + k)] := by decide
   exact this n hn h
 ·refine of_decide_eq_true (List.all_eq_true.1 words_noblank w ?_)
  rw [List.mem_append, List.mem_append, List.mem_append]
  unfold wordsR at hw
  rcases (show c = 1 ∨ c = 2 ∨ c = 3 ∨ c = 4 by omega) with rfl | rfl | rfl | rfl
  ·exact .inl hw
  ·exact .inr (.inl hw)
  ·exact .inr (.inr (.inl hw))
  ·exact .inr (.inr (.inr hw))
end Go.Proofs.YtghgbikmlbildaaGreatDoor
