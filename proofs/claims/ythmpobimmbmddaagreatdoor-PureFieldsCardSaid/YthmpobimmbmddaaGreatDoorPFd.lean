/-
  Segments of a bit string in memory; what one gives; pure.field of a text (printed by gen_pfd.py).
-/
import Derived.Test.YthmpobimmbmddaaGreatDoorPJoin
namespace Go.Proofs.YthmpobimmbmddaaGreatDoor
open Go.RowKit
set_option linter.unusedVariables false
set_option linter.unusedSimpArgs false

/-- A segment. -/
structure Fd where
  type : Int
  text : ByteArray
  val : Tm
  size : Tm
  sized : Bool
  signed : Bool
  little : Bool
abbrev fdRow (x : Fd) (vo : Option Addr) (vc : Nat) (so : Option Addr) (sc : Nat) : Array Value := #[.int .i64 x.type, .string x.text, .int .i64 x.val.kind, .int .i64 x.val.int, .int .i64 x.val.gen, .string x.val.name, .string x.val.func, .int .i64 x.val.arity, .slice vo x.val.items.length vc, .string x.val.bytes, .int .i64 x.val.bits, .int .i64 x.size.kind, .int .i64 x.size.int, .int .i64 x.size.gen, .string x.size.name, .string x.size.func, .int .i64 x.size.arity, .slice so x.size.items.length sc, .string x.size.bytes, .int .i64 x.size.bits, .bool x.sized, .bool x.signed, .bool x.little]
/-- Cells hold a segment, its terms of one depth. -/
def FdR (w : World) (f : Nat) (cs : List Value) (x : Fd) : Prop := (∃ vo vc so sc, cs = [.int .i64 x.type, .string x.text, .int .i64 x.val.kind, .int .i64 x.val.int, .int .i64 x.val.gen, .string x.val.name, .string x.val.func, .int .i64 x.val.arity, .slice vo x.val.items.length vc, .string x.val.bytes, .int .i64 x.val.bits, .int .i64 x.size.kind, .int .i64 x.size.int, .int .i64 x.size.gen, .string x.size.name, .string x.size.func, .int .i64 x.size.arity, .slice so x.size.items.length sc, .string x.size.bytes, .int .i64 x.size.bits, .bool x.sized, .bool x.signed, .bool x.little] ∧ SlAt w 9 (TmAt w f) vo x.val.items ∧ SlAt w 9 (TmAt w f) so x.size.items) ∧ I64 x.type ∧ x.text.size ≤ maxLen ∧ x.val.Ok ∧ x.size.Ok
theorem FdR.below {w w' : World} {f : Nat} {cs : List Value} {x : Fd} (h : FdR w f cs x) (hb : Below w.heap.size w w') : FdR w' f cs x := by
  obtain ⟨⟨vo, vc, so, sc, e, h1, h2⟩, hr⟩ := h
  exact ⟨⟨vo, vc, so, sc, e, h1.tms hb, h2.tms hb⟩, hr⟩
theorem SlAt.fd {w : World} {f : Nat} {ao : Option Addr} {k : Nat} {l : List Fd} (h : SlAt w 23 (FdR w f) ao l) (hk : k < l.length) :
    ∃ b off vo vc so sc, ao = some ⟨b, off, none⟩ ∧ b < w.heap.size ∧ w.cell? ⟨b, off + k * 23, none⟩ = some (.int .i64 l[k].type) ∧ w.cell? ⟨b, off + k * 23 + 1, none⟩ = some (.string l[k].text) ∧ w.cell? ⟨b, off + k * 23 + 2, none⟩ = some (.int .i64 l[k].val.kind) ∧ w.cell? ⟨b, off + k * 23 + 3, none⟩ = some (.int .i64 l[k].val.int) ∧ w.cell? ⟨b, off + k * 23 + 4, none⟩ = some (.int .i64 l[k].val.gen) ∧ w.cell? ⟨b, off + k * 23 + 5, none⟩ = some (.string l[k].val.name) ∧ w.cell? ⟨b, off + k * 23 + 6, none⟩ = some (.string l[k].val.func) ∧ w.cell? ⟨b, off + k * 23 + 7, none⟩ = some (.int .i64 l[k].val.arity) ∧ w.cell? ⟨b, off + k * 23 + 8, none⟩ = some (.slice vo l[k].val.items.length vc) ∧ w.cell? ⟨b, off + k * 23 + 9, none⟩ = some (.string l[k].val.bytes) ∧ w.cell? ⟨b, off + k * 23 + 10, none⟩ = some (.int .i64 l[k].val.bits) ∧ w.cell? ⟨b, off + k * 23 + 11, none⟩ = some (.int .i64 l[k].size.kind) ∧ w.cell? ⟨b, off + k * 23 + 12, none⟩ = some (.int .i64 l[k].size.int) ∧ w.cell? ⟨b, off + k * 23 + 13, none⟩ = some (.int .i64 l[k].size.gen) ∧ w.cell? ⟨b, off + k * 23 + 14, none⟩ = some (.string l[k].size.name) ∧ w.cell? ⟨b, off + k * 23 + 15, none⟩ = some (.string l[k].size.func) ∧ w.cell? ⟨b, off + k * 23 + 16, none⟩ = some (.int .i64 l[k].size.arity) ∧ w.cell? ⟨b, off + k * 23 + 17, none⟩ = some (.slice so l[k].size.items.length sc) ∧ w.cell? ⟨b, off + k * 23 + 18, none⟩ = some (.string l[k].size.bytes) ∧ w.cell? ⟨b, off + k * 23 + 19, none⟩ = some (.int .i64 l[k].size.bits) ∧ w.cell? ⟨b, off + k * 23 + 20, none⟩ = some (.bool l[k].sized) ∧ w.cell? ⟨b, off + k * 23 + 21, none⟩ = some (.bool l[k].signed) ∧ w.cell? ⟨b, off + k * 23 + 22, none⟩ = some (.bool l[k].little) ∧ SlAt w 9 (TmAt w f) vo l[k].val.items ∧ SlAt w 9 (TmAt w f) so l[k].size.items ∧ I64 l[k].type ∧ l[k].text.size ≤ maxLen ∧ l[k].val.Ok ∧ l[k].size.Ok := by
  obtain ⟨b, off, e, hb, hr⟩ := h.row hk
  obtain ⟨cs, _, hc, ⟨vo, vc, so, sc, rfl, h1, h2⟩, h3⟩ := hr k hk
  exact ⟨b, off, vo, vc, so, sc, e, hb, hc 0 (by decide), hc 1 (by decide), hc 2 (by decide), hc 3 (by decide), hc 4 (by decide), hc 5 (by decide), hc 6 (by decide), hc 7 (by decide), hc 8 (by decide), hc 9 (by decide), hc 10 (by decide), hc 11 (by decide), hc 12 (by decide), hc 13 (by decide), hc 14 (by decide), hc 15 (by decide), hc 16 (by decide), hc 17 (by decide), hc 18 (by decide), hc 19 (by decide), hc 20 (by decide), hc 21 (by decide), hc 22 (by decide), h1, h2, h3⟩
/-- The same, the row as one array. -/
theorem SlAt.fdr {w : World} {f : Nat} {ao : Option Addr} {k : Nat} {l : List Fd} (h : SlAt w 23 (FdR w f) ao l) (hk : k < l.length) :
    ∃ b off vo vc so sc R, ao = some ⟨b, off, none⟩ ∧ b < w.heap.size ∧ R = fdRow l[k] vo vc so sc ∧ R.size = 23 ∧ R.all (·.oneCell') = true ∧ (∀ j, j < R.size → w.cell? ⟨b, off + k * 23 + j, none⟩ = R[j]?) ∧ SlAt w 9 (TmAt w f) vo l[k].val.items ∧ SlAt w 9 (TmAt w f) so l[k].size.items := by
  obtain ⟨b, off, e, hb, hr⟩ := h.row hk
  obtain ⟨cs, _, hc, ⟨vo, vc, so, sc, rfl, h1, h2⟩, h3⟩ := hr k hk
  refine ⟨b, off, vo, vc, so, sc, fdRow l[k] vo vc so sc, e, hb, rfl, rfl, by simp [Value.oneCell'], fun j hj => ?_, h1, h2⟩
  rw [hc j hj]; simp
theorem wpList_load_at {P : Program} {ops : Array Oper} {rest : List Oper} {o : Oper} {a : Act} {w : World} {Q : Exit → Act → World → Prop} (hgd : o.guard = none) (ty : TypeId) (x : Operand) (ho : o.op = .load ty x)
    (g off : Nat) (hx : a.eval x = .pointer (some ⟨g, off, none⟩)) (cs : Array Value) (hc : ∀ j, j < cs.size → w.cell? ⟨g, off + j, none⟩ = cs[j]?) (fs : Array Field)
    (hu : P.underlying ty = some (.struct fs)) (hi : (P.info? ty).map (·.size) = some cs.size)
    (h : wpList P ops Q rest (a.put o.dst (.agg cs)) w) : wpList P ops Q (o :: rest) a w := by
  have hl : (loadCells ⟨g, off, none⟩ cs.toList.length).run P w = .ok cs.toList.toArray w :=
    run_loadCells_list (P := P) w ⟨g, off, none⟩ cs.toList (fun j v hv => by
      have hadd : (⟨g, off, none⟩ : Addr).add j = ⟨g, off + j, none⟩ := by unfold Addr.add; split <;> simp_all
      have hj : j < cs.size := by have := (List.getElem?_eq_some_iff.1 hv).1; simpa using this
      rw [hadd, hc j hj]
      simpa using hv)
  have hv : (loadVar ty ⟨g, off, none⟩).run P w = .ok (.agg cs) w := by
    cases hq : P.info? ty with
    | none => simp [hq] at hi
    | some i =>
      have hs : i.size = cs.size := by simpa [hq] using hi
      have hagg : (isAgg ty).run P w = .ok true w := by
        unfold isAgg
        rw [Sem.run_bind, run_underlying hu w]
        rfl
      simp only [Array.length_toList, Array.toArray_toList] at hl
      simp [loadVar, Sem.run_bind, hagg, sizeOf, typeInfo, hq, hs, hl]
  refine wpList_plain hgd fun K hK => ?_
  unfold Oper.wp execOp
  simp only [ho, hx, Instr.loadAt, Instr.sureAddr, Sem.run_bind, Sem.run_pure, Result.andThen_ok, hv]
  exact hK _ _ h
/-- What field returns: the bits, or that it is wrong. -/
def FdPost (r : Option (List Bool)) (w : World) (e : Ending) (w' : World) : Prop :=
  (match r with
  | some m => e = .returned (.tuple #[.agg #[.string (bstr m), .int .i64 m.length], .bool true])
  | none => ∃ y n, e = .returned (.tuple #[.agg #[.string y, .int .i64 n], .bool false])) ∧ Below w.heap.size w w'
/-- A segment whose field is r. -/
def FdIs (f : Nat) (x : Fd) (r : Option (List Bool)) : Prop := ∀ (vo so : Option Addr) (vc sc : Nat) (w : World), SlAt w 9 (TmAt w f) vo x.val.items → SlAt w 9 (TmAt w f) so x.size.items → Calls Tryz.prog 28 #[.agg (fdRow x vo vc so sc)] w (FdPost r w)
theorem pack_bits (l : List UInt8) : packB (bitsL l) = l := by
  induction l with
  | nil => rfl
  | cons c l ih =>
    have e : bitsL (c :: l) = byteB c ++ bitsL l := by unfold bitsL; rw [List.flatMap_cons]
    rw [e, packB_app 1 (byteB c) (bitsL l) rfl, ih, packB_one (byteB c) (by simp [byteB]) (Nat.le_refl _)]
    have e2 : pk (byteB c) = c.toNat := by
      apply testBit_ext
      intro j
      rw [pk_bit]
      by_cases hj : j < 8
      · rw [byteB_at c (7 - j) (by omega), show 7 - (7 - j) = j by omega]; simp [hj]
      · rw [u8_bit c j (by omega)]; simp [hj]
    rw [e2]
    simp
theorem bstr_bits (y : ByteArray) : bstr (bitsL y.data.toList) = y := by
  apply ByteArray.ext
  show (packB (bitsL y.data.toList)).toArray = y.data
  rw [pack_bits, Array.toArray_toList]
theorem bits_size (y : ByteArray) : (bitsL y.data.toList).length = 8 * y.size := by
  rw [bitsL_len]; rfl
set_option maxRecDepth 100000 in
set_option maxHeartbeats 4000000 in
theorem field_text (f : Nat) (x : Fd) (h4 : x.type = 4) (hy : x.text.size ≤ 70368744177664) : FdIs f x (some (bitsL x.text.data.toList)) := by
  intro vo so vc sc w _ _
  have E1 := Lib.hid (bstr_bits x.text)
  have E2 := Lib.hid (bits_size x.text)
  have HB := Lib.hid (two_below w (.cells (fdRow x vo vc so sc) 30) (.cells #[.string ⟨#[]⟩, .int .i64 0] 56))
  have HR := Lib.hid (two1 w (.cells (fdRow x vo vc so sc) 30) (.cells #[.string ⟨#[]⟩, .int .i64 0] 56))
  have HR0 := Lib.hid (two0 w (.cells (fdRow x vo vc so sc) 30) (.cells #[.string ⟨#[]⟩, .int .i64 0] 56))
  have HO := Lib.hid (fun wx => bof_any x.text hy wx)
  go_enter Tryz.func28, Tryz.ntmps28
  generalize hW : (w.alloc (.cells (fdRow x vo vc so sc) 30)).alloc (.cells #[.string ⟨#[]⟩, .int .i64 0] 56) = W at *
  have c0 : W.cell? ⟨w.heap.size, 0, none⟩ = some (.int .i64 4) := by rw [cell_of_row _ _ _ _ _ _ HR0.out]; show some (Value.int .i64 x.type) = _; rw [h4]
  have c1 : W.cell? ⟨w.heap.size, 1, none⟩ = some (.string x.text) := by rw [cell_of_row _ _ _ _ _ _ HR0.out]; rfl
  go_wp2_with (first | (go_at_call 49; refine (HO.out _).mono ?_; rintro e w1 ⟨rfl, hb1⟩; have hr := (hb1.block _ (lt_of_row HR.out)).trans HR.out) | (refine wpList_store_row rfl 56 _ _ rfl (w.heap.size + 1) _ rfl rfl 56 _ hr (by kernel_rfl) rfl (by simp [Value.oneCell']) ?_) | fail)
  refine bodyPost_ret (results_row_tmp rfl _ _ _ (w.heap.size + 1) _ _ _ _ rfl (setRow_heap _ _ _ _ _ _ hr) Tryz.underlying56 (by kernel_rfl)) rfl ?_
  exact ⟨by show _ = Ending.returned (.tuple #[.agg #[.string (bstr (bitsL x.text.data.toList)), .int .i64 (bitsL x.text.data.toList).length], .bool true]); rw [E1.out, E2.out]; rfl, below_setRow (HB.out.trans (hb1.mono HB.out.size)) (by omega) _⟩
end Go.Proofs.YthmpobimmbmddaaGreatDoor
