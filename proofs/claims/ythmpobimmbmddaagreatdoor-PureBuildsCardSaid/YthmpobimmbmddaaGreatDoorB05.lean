/-
  bits.Join of bit strings that are valid and not too long: the walk. Segments of a bit string in memory; what one gives; pure.field of a text (printed by gen_pfd.py). A bound of how much is counted of a term; worlds that have grown. No program in sight. pure.Bits: the walk (printed by gen_pbits.py). A list of segments that the call itself has made: rows of 23 cells. Terms in memory whose parts lie apart from one another: each in an interval of blocks of its own. No program in sight. Lent lists in memory beside the original ones. No program in sight. A lent segment beside the original, the list's own block outside of what was lent.
-/
import Derived.Laws.AppendOwn
import Derived.Deep.Draws
import Derived.Deep.AppendLies
import Derived.Laws.NewBlocks
import Derived.Laws.Tables
import Derived.Test.YthmpobimmbmddaaGreatDoorB01
import Derived.Test.YthmpobimmbmddaaGreatDoorB04
namespace Go.Proofs.YthmpobimmbmddaaGreatDoor
open Go.RowKit
set_option linter.unusedVariables false
set_option linter.unusedSimpArgs false

/-- The cells of a bit string. -/
def BitsR (cs : List Value) (m : List Bool) : Prop := cs = [.string (bstr m), .int .i64 m.length]
theorem SlAt.bits {w : World} {ao : Option Addr} {k : Nat} {l : List (List Bool)} (h : SlAt w 2 BitsR ao l) (hk : k < l.length) :
    ∃ b off, ao = some ⟨b, off, none⟩ ∧ b < w.heap.size ∧ w.cell? ⟨b, off + k * 2, none⟩ = some (.string (bstr l[k])) ∧ w.cell? ⟨b, off + k * 2 + 1, none⟩ = some (.int .i64 l[k].length) := by
  obtain ⟨b, off, e, hb, hr⟩ := h.row hk
  obtain ⟨cs, _, hc, rfl⟩ := hr k hk
  exact ⟨b, off, e, hb, hc 0 (by decide), hc 1 (by decide)⟩
theorem bw_new {B : Nat} (w : World) (hB : B ≤ w.heap.size) : BwAt B w.heap.size [] (w.alloc (.cells #[.string ⟨#[]⟩, .int .i64 0, .slice none 0 0] 90)) :=
  ⟨hB, by simp; omega, .slice none 0 0, heap_alloc_new _ _, World.ownsRow_nil _ _ _ _, by simp [Value.ownBlock]⟩
theorem flat_take {ms : List (List Bool)} {k : Nat} (h : k < ms.length) : (ms.take (k + 1)).flatten = (ms.take k).flatten ++ ms[k] := by
  rw [List.take_add_one, List.getElem?_eq_getElem h, List.flatten_append]; simp
theorem flat_le {ms : List (List Bool)} (k : Nat) : (ms.take k).flatten.length ≤ ms.flatten.length := by
  have h : ms = ms.take k ++ ms.drop k := (List.take_append_drop _ _).symm
  have e : ms.flatten.length = (ms.take k).flatten.length + (ms.drop k).flatten.length := by
    conv => lhs; rw [h]
    rw [List.flatten_append, List.length_append]
  omega
set_option maxRecDepth 100000 in
set_option maxHeartbeats 8000000 in
theorem bjoin_any (ms : List (List Bool)) (so : Option Addr) (c : Nat) (w : World) (hs : SlAt w 2 BitsR so ms) (hn : ms.length ≤ maxLen) (hl : ms.flatten.length ≤ 16384) :
    Calls Tryz.prog 30 #[.slice so ms.length c] w fun e w' => e = .returned (.tuple #[.agg #[.string (bstr ms.flatten), .int .i64 ms.flatten.length], .int .i64 0]) ∧ Below w.heap.size w w' := by
  have hB0 : Below w.heap.size w (w.alloc (.cells #[.string ⟨#[]⟩, .int .i64 0] 56)) := (Below.refl _ _).alloc (Nat.le_refl _) _
  have HR := Lib.hid (heap_alloc_new w (.cells #[.string ⟨#[]⟩, .int .i64 0] 56))
  have HB := Lib.hid hB0; have HS := Lib.hid (hs.mono hB0 (fun _ _ h => h))
  have HL := Lib.hid hl; have HS0 := Lib.hid hs
  have HM : Hid (∀ k (h : k < ms.length), ms[k].length + (ms.take k).flatten.length ≤ 16384) := Lib.hid (fun k h => by
    have h1 := flat_take h
    have h2 := flat_le (ms := ms) (k + 1)
    rw [h1, List.length_append] at h2; omega)
  unfold maxLen at hn
  clear hs hl hB0
  go_enter Tryz.func30, Tryz.ntmps30
  go_wp2_with fail
  generalize w.alloc (.cells #[.string ⟨#[]⟩, .int .i64 0] 56) = W at *
  go_loopw [11] (fun kv wr => ∃ k : Nat, k ≤ ms.length ∧ kv = .int .i64 k ∧ Hid (Below W.heap.size W wr)) (fun kv _ => ms.length - (intOf kv).toNat)
  case atStart => exact ⟨0, Nat.zero_le _, rfl, Lib.hid (Below.refl _ _)⟩
  case round =>
    obtain ⟨k, hk, rfl, HBr⟩ := hrel
    rename World => wr
    by_cases hlt : k < ms.length
    · obtain ⟨b, off, hao, hb, q0, q1⟩ := (HS.out.mono HBr.out (fun _ _ h => h)).bits hlt
      subst hao
      have hv : Calls Tryz.prog 54 #[.agg #[.string (bstr ms[k]), .int .i64 ms[k].length]] (wr.alloc (.cells #[.string (bstr ms[k]), .int .i64 ms[k].length] 56)) fun e w' => e = .returned (.bool true) ∧ Below wr.heap.size wr w' :=
        (bvalid_any ms[k] (by have := HM.out k hlt; omega) _).mono fun e w' h => ⟨h.1, ((Below.refl _ _).alloc (Nat.le_refl _) _).trans (h.2.mono (by simp))⟩
      generalize bstr ms[k] = y at *
      generalize ms[k].length = n at *
      go_wp2_with (first | (go_at_call 54; refine hv.mono ?_; rintro e w5 ⟨rfl, hb5⟩) | fail)
      go_roundw
      case rel => exact ⟨k + 1, by omega, by go_num, Lib.hid (below_next HBr.out hb5)⟩
      case measure => simp [intOf]; omega
    · obtain rfl : k = ms.length := by omega
      go_wp2_with fail
      have hBw : w.heap.size ≤ wr.heap.size := Nat.le_trans HB.out.size HBr.out.size
      have HBW := Lib.hid (bw_new (B := w.heap.size + 1) wr (by have := lt_of_row HR.out; have := HBr.out.size; omega))
      have hba : Below wr.heap.size wr (wr.alloc (.cells #[.string ⟨#[]⟩, .int .i64 0, .slice none 0 0] 90)) := (Below.refl _ _).alloc (Nat.le_refl _) _
      have HBA : Hid (Below w.heap.size w (wr.alloc (.cells #[.string ⟨#[]⟩, .int .i64 0, .slice none 0 0] 90))) := Lib.hid (HB.out.trans ((below_next HBr.out hba).mono HB.out.size))
      have HRA : Hid ((wr.alloc (.cells #[.string ⟨#[]⟩, .int .i64 0, .slice none 0 0] 90)).heap[w.heap.size]? = some (.cells #[.string ⟨#[]⟩, .int .i64 0] 56 (0, 0))) := Lib.hid (((below_next HBr.out hba).block _ (lt_of_row HR.out)).trans HR.out)
      have hrw : w.heap.size ≠ wr.heap.size := by have := lt_of_row HR.out; have := HBr.out.size; omega
      clear hba HBr HS HR HB hBw
      generalize hWA : wr.alloc (.cells #[.string ⟨#[]⟩, .int .i64 0, .slice none 0 0] 90) = WA at *
      obtain ⟨r, hr⟩ : ∃ r, r = wr.heap.size := ⟨_, rfl⟩
      rw [← hr] at hrw HBW ⊢
      clear hr hWA
      go_loopw [22] (fun kv wl => ∃ k : Nat, k ≤ ms.length ∧ kv = .int .i64 k ∧ Hid (BwAt (w.heap.size + 1) r (ms.take k).flatten wl) ∧ Hid (Below (w.heap.size + 1) WA wl)) (fun kv _ => ms.length - (intOf kv).toNat)
      case atStart => exact ⟨0, Nat.zero_le _, rfl, HBW, Lib.hid (Below.refl _ _)⟩
      case round =>
        obtain ⟨k, hk, rfl, HBl, HBlw⟩ := hrel
        rename World => wl
        have HBL : Hid (Below w.heap.size w wl) := Lib.hid (HBA.out.trans (HBlw.out.mono (Nat.le_succ _)))
        by_cases hlt : k < ms.length
        · obtain ⟨b, off, hao, hb, q0, q1⟩ := (HS0.out.mono HBL.out (fun _ _ h => h)).bits hlt
          subst hao
          have HF := Lib.hid (flat_take hlt)
          have hmk := HM.out k hlt
          have hba : Below wl.heap.size wl (wl.alloc (.cells #[.string (bstr ms[k]), .int .i64 ms[k].length] 56)) := (Below.refl _ _).alloc (Nat.le_refl _) _
          have hbw2 := HBl.out.below hba
          have hsb : sub (bitsL (bstr ms[k]).data.toList) 0 ms[k].length = ms[k] := by
            have : (bstr ms[k]).data.toList = packB ms[k] := by show (packB ms[k]).toArray.toList = _; rw [List.toList_toArray]
            rw [this]; exact bitsL_pack _
          have hszb := bstr_size ms[k]
          have hadd := badd_any (w.heap.size + 1) r (ms.take k).flatten (bstr ms[k]) 0 ms[k].length _ hbw2 (by omega) (by omega) (by omega)
          rw [hsb, ← HF.out] at hadd
          have HADD := Lib.hid hadd; have HBA2 := Lib.hid hba
          obtain ⟨_, _, bv, hrow, _, _⟩ := hbw2
          have c1 := cell_of_row _ _ 1 _ _ _ hrow
          clear hadd hba hrow hsb hszb
          generalize bstr ms[k] = y at *
          generalize ms[k].length = n at *
          generalize (ms.take k).flatten.length = fl at *
          go_wp2_with (first | (go_at_call 55; refine HADD.out.mono ?_; rintro e w5 ⟨rfl, hbw5, hb5⟩) | fail)
          go_roundw
          case rel => exact ⟨k + 1, by omega, by go_num, Lib.hid hbw5, Lib.hid (HBlw.out.trans (((HBA2.out.mono (by have := HBl.out.2.1; omega))).trans hb5))⟩
          case measure => simp [intOf]; omega
        · obtain rfl : k = ms.length := by omega
          rw [List.take_length] at HBl
          have hrow := (HBlw.out.block w.heap.size (Nat.lt_succ_self _)).trans HRA.out
          have hdn := done_any (w.heap.size + 1) r ms.flatten wl HBl.out
          have HD := Lib.hid hdn; have HRW := Lib.hid hrow
          clear hdn hrow
          obtain ⟨F, hF⟩ : ∃ F, F = ms.flatten := ⟨_, rfl⟩
          rw [← hF] at HD
          have HF := Lib.hid hF
          clear hF
          go_wp2_with (first | (go_at_call 56; refine HD.out.mono ?_; rintro e w5 ⟨rfl, hb5⟩; have hr5 := (hb5.block _ (Nat.lt_succ_self _)).trans HRW.out) | (refine wpList_store_row rfl 56 _ _ rfl w.heap.size _ rfl rfl 56 _ hr5 (by kernel_rfl) rfl (by simp [Value.oneCell']) ?_) | fail)
          refine bodyPost_ret (results_row_tmp rfl _ _ _ w.heap.size _ _ _ _ rfl (setRow_heap _ _ _ _ _ _ hr5) Tryz.underlying56 (by kernel_rfl)) rfl ?_
          have hF := HF.out
          subst hF
          exact ⟨rfl, below_setRow (HBL.out.trans (hb5.mono (Nat.le_succ _))) (Nat.le_refl _) _⟩
end Go.Proofs.YthmpobimmbmddaaGreatDoor
namespace Go.Proofs.YthmpobimmbmddaaGreatDoor
open Go.RowKit
set_option linter.unusedVariables false
set_option linter.unusedSimpArgs false

/-- A segment. -/
structure Fd where
  type : Int
  text : ByteArray
  val : Tm
  size : Tm
  sized : Bool
  signed : Bool
  little : Bool
abbrev fdRow (x : Fd) (vo : Option Addr) (vc : Nat) (so : Option Addr) (sc : Nat) : Array Value := #[.int .i64 x.type, .string x.text, .int .i64 x.val.kind, .int .i64 x.val.int, .int .i64 x.val.gen, .string x.val.name, .string x.val.func, .int .i64 x.val.arity, .slice vo x.val.items.length vc, .string x.val.bytes, .int .i64 x.val.bits, .int .i64 x.size.kind, .int .i64 x.size.int, .int .i64 x.size.gen, .string x.size.name, .string x.size.func, .int .i64 x.size.arity, .slice so x.size.items.length sc, .string x.size.bytes, .int .i64 x.size.bits, .bool x.sized, .bool x.signed, .bool x.little]
/-- Cells hold a segment, its terms of one depth. -/
def FdR (w : World) (f : Nat) (cs : List Value) (x : Fd) : Prop := (∃ vo vc so sc, cs = [.int .i64 x.type, .string x.text, .int .i64 x.val.kind, .int .i64 x.val.int, .int .i64 x.val.gen, .string x.val.name, .string x.val.func, .int .i64 x.val.arity, .slice vo x.val.items.length vc, .string x.val.bytes, .int .i64 x.val.bits, .int .i64 x.size.kind, .int .i64 x.size.int, .int .i64 x.size.gen, .string x.size.name, .string x.size.func, .int .i64 x.size.arity, .slice so x.size.items.length sc, .string x.size.bytes, .int .i64 x.size.bits, .bool x.sized, .bool x.signed, .bool x.little] ∧ SlAt w 9 (TmAt w f) vo x.val.items ∧ SlAt w 9 (TmAt w f) so x.size.items) ∧ I64 x.type ∧ x.text.size ≤ maxLen ∧ x.val.Ok ∧ x.size.Ok
theorem FdR.below {w w' : World} {f : Nat} {cs : List Value} {x : Fd} (h : FdR w f cs x) (hb : Below w.heap.size w w') : FdR w' f cs x := by
  obtain ⟨⟨vo, vc, so, sc, e, h1, h2⟩, hr⟩ := h
  exact ⟨⟨vo, vc, so, sc, e, h1.tms hb, h2.tms hb⟩, hr⟩
theorem SlAt.fd {w : World} {f : Nat} {ao : Option Addr} {k : Nat} {l : List Fd} (h : SlAt w 23 (FdR w f) ao l) (hk : k < l.length) :
    ∃ b off vo vc so sc, ao = some ⟨b, off, none⟩ ∧ b < w.heap.size ∧ w.cell? ⟨b, off + k * 23, none⟩ = some (.int .i64 l[k].type) ∧ w.cell? ⟨b, off + k * 23 + 1, none⟩ = some (.string l[k].text) ∧ w.cell? ⟨b, off + k * 23 + 2, none⟩ = some (.int .i64 l[k].val.kind) ∧ w.cell? ⟨b, off + k * 23 + 3, none⟩ = some (.int .i64 l[k].val.int) ∧ w.cell? ⟨b, off + k * 23 + 4, none⟩ = some (.int .i64 l[k].val.gen) ∧ w.cell? ⟨b, off + k * 23 + 5, none⟩ = some (.string l[k].val.name) ∧ w.cell? ⟨b, off + k * 23 + 6, none⟩ = some (.string l[k].val.func) ∧ w.cell? ⟨b, off + k * 23 + 7, none⟩ = some (.int .i64 l[k].val.arity) ∧ w.cell? ⟨b, off + k * 23 + 8, none⟩ = some (.slice vo l[k].val.items.length vc) ∧ w.cell? ⟨b, off + k * 23 + 9, none⟩ = some (.string l[k].val.bytes) ∧ w.cell? ⟨b, off + k * 23 + 10, none⟩ = some (.int .i64 l[k].val.bits) ∧ w.cell? ⟨b, off + k * 23 + 11, none⟩ = some (.int .i64 l[k].size.kind) ∧ w.cell? ⟨b, off + k * 23 + 12, none⟩ = some (.int .i64 l[k].size.int) ∧ w.cell? ⟨b, off + k * 23 + 13, none⟩ = some (.int .i64 l[k].size.gen) ∧ w.cell? ⟨b, off + k * 23 + 14, none⟩ = some (.string l[k].size.name) ∧ w.cell? ⟨b, off + k * 23 + 15, none⟩ = some (.string l[k].size.func) ∧ w.cell? ⟨b, off + k * 23 + 16, none⟩ = some (.int .i64 l[k].size.arity) ∧ w.cell? ⟨b, off + k * 23 + 17, none⟩ = some (.slice so l[k].size.items.length sc) ∧ w.cell? ⟨b, off + k * 23 + 18, none⟩ = some (.string l[k].size.bytes) ∧ w.cell? ⟨b, off + k * 23 + 19, none⟩ = some (.int .i64 l[k].size.bits) ∧ w.cell? ⟨b, off + k * 23 + 20, none⟩ = some (.bool l[k].sized) ∧ w.cell? ⟨b, off + k * 23 + 21, none⟩ = some (.bool l[k].signed) ∧ w.cell? ⟨b, off + k * 23 + 22, none⟩ = some (.bool l[k].little) ∧ SlAt w 9 (TmAt w f) vo l[k].val.items ∧ SlAt w 9 (TmAt w f) so l[k].size.items ∧ I64 l[k].type ∧ l[k].text.size ≤ maxLen ∧ l[k].val.Ok ∧ l[k].size.Ok := by
  obtain ⟨b, off, e, hb, hr⟩ := h.row hk
  obtain ⟨cs, _, hc, ⟨vo, vc, so, sc, rfl, h1, h2⟩, h3⟩ := hr k hk
  exact ⟨b, off, vo, vc, so, sc, e, hb, hc 0 (by decide), hc 1 (by decide), hc 2 (by decide), hc 3 (by decide), hc 4 (by decide), hc 5 (by decide), hc 6 (by decide), hc 7 (by decide), hc 8 (by decide), hc 9 (by decide), hc 10 (by decide), hc 11 (by decide), hc 12 (by decide), hc 13 (by decide), hc 14 (by decide), hc 15 (by decide), hc 16 (by decide), hc 17 (by decide), hc 18 (by decide), hc 19 (by decide), hc 20 (by decide), hc 21 (by decide), hc 22 (by decide), h1, h2, h3⟩
/-- The same, the row as one array. -/
theorem SlAt.fdr {w : World} {f : Nat} {ao : Option Addr} {k : Nat} {l : List Fd} (h : SlAt w 23 (FdR w f) ao l) (hk : k < l.length) :
    ∃ b off vo vc so sc R, ao = some ⟨b, off, none⟩ ∧ b < w.heap.size ∧ R = fdRow l[k] vo vc so sc ∧ R.size = 23 ∧ R.all (·.oneCell') = true ∧ (∀ j, j < R.size → w.cell? ⟨b, off + k * 23 + j, none⟩ = R[j]?) ∧ SlAt w 9 (TmAt w f) vo l[k].val.items ∧ SlAt w 9 (TmAt w f) so l[k].size.items := by
  obtain ⟨b, off, e, hb, hr⟩ := h.row hk
  obtain ⟨cs, _, hc, ⟨vo, vc, so, sc, rfl, h1, h2⟩, h3⟩ := hr k hk
  refine ⟨b, off, vo, vc, so, sc, fdRow l[k] vo vc so sc, e, hb, rfl, rfl, by simp [Value.oneCell'], fun j hj => ?_, h1, h2⟩
  rw [hc j hj]; simp
theorem wpList_load_at {P : Program} {ops : Array Oper} {rest : List Oper} {o : Oper} {a : Act} {w : World} {Q : Exit → Act → World → Prop} (hgd : o.guard = none) (ty : TypeId) (x : Operand) (ho : o.op = .load ty x)
    (g off : Nat) (hx : a.eval x = .pointer (some ⟨g, off, none⟩)) (cs : Array Value) (hc : ∀ j, j < cs.size → w.cell? ⟨g, off + j, none⟩ = cs[j]?) (fs : Array Field)
    (hu : P.underlying ty = some (.struct fs)) (hi : (P.info? ty).map (·.size) = some cs.size)
    (h : wpList P ops Q rest (a.put o.dst (.agg cs)) w) : wpList P ops Q (o :: rest) a w := by
  have hl : (loadCells ⟨g, off, none⟩ cs.toList.length).run P w = .ok cs.toList.toArray w :=
    run_loadCells_list (P := P) w ⟨g, off, none⟩ cs.toList (fun j v hv => by
      have hadd : (⟨g, off, none⟩ : Addr).add j = ⟨g, off + j, none⟩ := by unfold Addr.add; split <;> simp_all
      have hj : j < cs.size := by have := (List.getElem?_eq_some_iff.1 hv).1; simpa using this
      rw [hadd, hc j hj]
      simpa using hv)
  have hv : (loadVar ty ⟨g, off, none⟩).run P w = .ok (.agg cs) w := by
    cases hq : P.info? ty with
    | none => simp [hq] at hi
    | some i =>
      have hs : i.size = cs.size := by simpa [hq] using hi
      have hagg : (isAgg ty).run P w = .ok true w := by
        unfold isAgg
        rw [Sem.run_bind, run_underlying hu w]
        rfl
      simp only [Array.length_toList, Array.toArray_toList] at hl
      simp [loadVar, Sem.run_bind, hagg, sizeOf, typeInfo, hq, hs, hl]
  refine wpList_plain hgd fun K hK => ?_
  unfold Oper.wp execOp
  simp only [ho, hx, Instr.loadAt, Instr.sureAddr, Sem.run_bind, Sem.run_pure, Result.andThen_ok, hv]
  exact hK _ _ h
/-- What field returns: the bits, or that it is wrong. -/
def FdPost (r : Option (List Bool)) (w : World) (e : Ending) (w' : World) : Prop :=
  (match r with
  | some m => e = .returned (.tuple #[.agg #[.string (bstr m), .int .i64 m.length], .bool true])
  | none => ∃ y n, e = .returned (.tuple #[.agg #[.string y, .int .i64 n], .bool false])) ∧ Below w.heap.size w w'
/-- A segment whose field is r. -/
def FdIs (f : Nat) (x : Fd) (r : Option (List Bool)) : Prop := ∀ (vo so : Option Addr) (vc sc : Nat) (w : World), SlAt w 9 (TmAt w f) vo x.val.items → SlAt w 9 (TmAt w f) so x.size.items → Calls Tryz.prog 28 #[.agg (fdRow x vo vc so sc)] w (FdPost r w)
theorem pack_bits (l : List UInt8) : packB (bitsL l) = l := by
  induction l with
  | nil => rfl
  | cons c l ih =>
    have e : bitsL (c :: l) = byteB c ++ bitsL l := by unfold bitsL; rw [List.flatMap_cons]
    rw [e, packB_app 1 (byteB c) (bitsL l) rfl, ih, packB_one (byteB c) (by simp [byteB]) (Nat.le_refl _)]
    have e2 : pk (byteB c) = c.toNat := by
      apply testBit_ext
      intro j
      rw [pk_bit]
      by_cases hj : j < 8
      · rw [byteB_at c (7 - j) (by omega), show 7 - (7 - j) = j by omega]; simp [hj]
      · rw [u8_bit c j (by omega)]; simp [hj]
    rw [e2]
    simp
theorem bstr_bits (y : ByteArray) : bstr (bitsL y.data.toList) = y := by
  apply ByteArray.ext
  show (packB (bitsL y.data.toList)).toArray = y.data
  rw [pack_bits, Array.toArray_toList]
theorem bits_size (y : ByteArray) : (bitsL y.data.toList).length = 8 * y.size := by
  rw [bitsL_len]; rfl
set_option maxRecDepth 100000 in
set_option maxHeartbeats 4000000 in
theorem field_text (f : Nat) (x : Fd) (h4 : x.type = 4) (hy : x.text.size ≤ 70368744177664) : FdIs f x (some (bitsL x.text.data.toList)) := by
  intro vo so vc sc w _ _
  have E1 := Lib.hid (bstr_bits x.text)
  have E2 := Lib.hid (bits_size x.text)
  have HB := Lib.hid (two_below w (.cells (fdRow x vo vc so sc) 30) (.cells #[.string ⟨#[]⟩, .int .i64 0] 56))
  have HR := Lib.hid (two1 w (.cells (fdRow x vo vc so sc) 30) (.cells #[.string ⟨#[]⟩, .int .i64 0] 56))
  have HR0 := Lib.hid (two0 w (.cells (fdRow x vo vc so sc) 30) (.cells #[.string ⟨#[]⟩, .int .i64 0] 56))
  have HO := Lib.hid (fun wx => bof_any x.text hy wx)
  go_enter Tryz.func28, Tryz.ntmps28
  generalize hW : (w.alloc (.cells (fdRow x vo vc so sc) 30)).alloc (.cells #[.string ⟨#[]⟩, .int .i64 0] 56) = W at *
  have c0 : W.cell? ⟨w.heap.size, 0, none⟩ = some (.int .i64 4) := by rw [cell_of_row _ _ _ _ _ _ HR0.out]; show some (Value.int .i64 x.type) = _; rw [h4]
  have c1 : W.cell? ⟨w.heap.size, 1, none⟩ = some (.string x.text) := by rw [cell_of_row _ _ _ _ _ _ HR0.out]; rfl
  go_wp2_with (first | (go_at_call 49; refine (HO.out _).mono ?_; rintro e w1 ⟨rfl, hb1⟩; have hr := (hb1.block _ (lt_of_row HR.out)).trans HR.out) | (refine wpList_store_row rfl 56 _ _ rfl (w.heap.size + 1) _ rfl rfl 56 _ hr (by kernel_rfl) rfl (by simp [Value.oneCell']) ?_) | fail)
  refine bodyPost_ret (results_row_tmp rfl _ _ _ (w.heap.size + 1) _ _ _ _ rfl (setRow_heap _ _ _ _ _ _ hr) Tryz.underlying56 (by kernel_rfl)) rfl ?_
  exact ⟨by show _ = Ending.returned (.tuple #[.agg #[.string (bstr (bitsL x.text.data.toList)), .int .i64 (bitsL x.text.data.toList).length], .bool true]); rw [E1.out, E2.out]; rfl, below_setRow (HB.out.trans (hb1.mono HB.out.size)) (by omega) _⟩
end Go.Proofs.YthmpobimmbmddaaGreatDoor
namespace Go.Proofs.YthmpobimmbmddaaGreatDoor
open Go.RowKit
set_option linter.unusedVariables false
set_option linter.unusedSimpArgs false

def sumN : List Nat → Nat
  | [] => 0
  | x :: l => x + sumN l
def capF : Nat → Tm → Nat
  | 0, _ => 0
  | f + 1, t => 300 + t.items.length + sumN (t.items.map (capF f))
theorem grownBy_refl (w : World) (o : Option Nat) : w.grownBy w o := ⟨rfl, rfl, rfl, Nat.le_refl _, fun _ _ _ => rfl⟩
theorem grownBy_trans {a b c : World} {o : Option Nat} (h : a.grownBy b o) (h' : b.grownBy c o) : a.grownBy c o :=
  ⟨h'.os.trans h.os, h'.tape.trans h.tape, h'.output.trans h.output, Nat.le_trans h.size h'.size, fun k hk hn => (h'.block k (Nat.lt_of_lt_of_le hk h.size) hn).trans (h.block k hk hn)⟩
theorem grownBy_drewN {a b : World} {o : Option Nat} (h : a.grownBy b o) (n : Nat) : a.grownBy (b.drewN n) o := ⟨h.os, h.tape, h.output, h.size, h.block⟩
theorem grownBy_drew {a b : World} {o : Option Nat} (h : a.grownBy b o) : a.grownBy b.drew o := ⟨h.os, h.tape, h.output, h.size, h.block⟩
theorem grownBy_below {a b : World} (h : Below a.heap.size a b) (o : Option Nat) : a.grownBy b o := ⟨h.os, h.tape, h.output, h.size, fun k hk _ => h.block k hk⟩
end Go.Proofs.YthmpobimmbmddaaGreatDoor
namespace Go.Proofs.YthmpobimmbmddaaGreatDoor
open Go.RowKit
set_option linter.unusedVariables false
set_option linter.unusedSimpArgs false

/-- The bits of all segments, if none is wrong. -/
def allB : List (Option (List Bool)) → Option (List (List Bool))
  | [] => some []
  | none :: _ => none
  | some m :: l => (allB l).map (m :: ·)
theorem allB_some : ∀ {l : List (Option (List Bool))} {ms : List (List Bool)}, l = ms.map some → allB l = some ms
  | [], [], _ => rfl
  | none :: _, [], h => by cases h
  | some _ :: _, [], h => by cases h
  | [], _ :: _, h => by cases h
  | none :: _, _ :: _, h => by simp at h
  | some m :: l, m' :: ms, h => by
    simp only [List.map_cons, List.cons.injEq, Option.some.injEq] at h
    unfold allB
    rw [allB_some h.2, h.1]; rfl
theorem allB_none : ∀ {l : List (Option (List Bool))} {k : Nat}, l[k]? = some none → allB l = none
  | [], k, h => by simp at h
  | none :: _, _, _ => rfl
  | some m :: l, 0, h => by simp at h
  | some m :: l, k + 1, h => by
    unfold allB
    rw [allB_none (l := l) (k := k) (by simpa using h)]; rfl
/-- What Bits returns. -/
def BitsQ (r : Option (List (List Bool))) (w : World) (e : Ending) (w' : World) : Prop :=
  (match r with
  | none => e = .returned (.tuple #[zeroV, failV ⟨#[98, 97, 100, 97, 114, 103]⟩])
  | some ms => if ms.flatten.length ≤ 16384 then e = .returned (.tuple #[bitsV' ms.flatten, noneV]) else e = .returned (.tuple #[zeroV, failV ⟨#[115, 121, 115, 116, 101, 109, 95, 108, 105, 109, 105, 116]⟩])) ∧ Below w.heap.size w w'
abbrev zRow23 : Array Value := #[.int .i64 0, .string ⟨#[]⟩, .int .i64 0, .int .i64 0, .int .i64 0, .string ⟨#[]⟩, .string ⟨#[]⟩, .int .i64 0, .slice none 0 0, .string ⟨#[]⟩, .int .i64 0, .int .i64 0, .int .i64 0, .int .i64 0, .string ⟨#[]⟩, .string ⟨#[]⟩, .int .i64 0, .slice none 0 0, .string ⟨#[]⟩, .int .i64 0, .bool false, .bool false, .bool false]
def cellsB (ms : List (List Bool)) : List Value := ms.flatMap fun m => [.string (bstr m), .int .i64 m.length]
theorem cellsB_len : ∀ ms : List (List Bool), (cellsB ms).length = ms.length * 2
  | [] => rfl
  | m :: ms => by
    have := cellsB_len ms
    have e : cellsB (m :: ms) = [.string (bstr m), .int .i64 m.length] ++ cellsB ms := rfl
    rw [e, List.length_append, this, List.length_cons]; simp; omega
theorem cellsB_snoc (ms : List (List Bool)) (m : List Bool) : cellsB (ms ++ [m]) = cellsB ms ++ [.string (bstr m), .int .i64 m.length] := by
  unfold cellsB; rw [List.flatMap_append]; rfl
theorem cellsB_at : ∀ (ms : List (List Bool)) (j i : Nat) (h : j < ms.length), i < 2 → (cellsB ms)[j * 2 + i]? = [Value.string (bstr ms[j]), .int .i64 ms[j].length][i]?
  | m :: ms, 0, i, _, hi => by
    have e : cellsB (m :: ms) = [.string (bstr m), .int .i64 m.length] ++ cellsB ms := rfl
    rw [e, List.getElem?_append_left (by simp; omega)]; simp
  | m :: ms, j + 1, i, h, hi => by
    have e : cellsB (m :: ms) = [.string (bstr m), .int .i64 m.length] ++ cellsB ms := rfl
    rw [e, List.getElem?_append_right (by simp; omega)]
    have := cellsB_at ms j i (by simpa using h) hi
    rw [show (j + 1) * 2 + i - [Value.string (bstr m), .int .i64 m.length].length = j * 2 + i by simp; omega, this]; simp
theorem owns_bits {w : World} {B : Nat} {v : Value} {ms : List (List Bool)} (h : w.ownsRow B 56 2 v ms.length (cellsB ms)) : ∃ ao c, v = .slice ao ms.length c ∧ SlAt w 2 BitsR ao ms := by
  rcases h.2 with ⟨rfl, h0⟩ | ⟨g, cap, cur, rfl, _, hg, hc, _, hs, ht⟩
  · exact ⟨none, 0, by rw [h0], .inl (List.eq_nil_of_length_eq_zero h0)⟩
  · refine ⟨_, cap, rfl, .inr ⟨g, 0, rfl, lt_of_row hg, fun j hj => ⟨_, rfl, fun i hi => ?_, rfl⟩⟩⟩
    have h1 := cellsB_at ms j i hj hi
    rw [← ht, List.getElem?_take_of_lt (by omega), Array.getElem?_toList] at h1
    rw [cell_of_row _ _ _ _ _ _ hg, Nat.zero_add, h1]
theorem infoBits : (Tryz.prog.info? 56).map (fun i => (i.zero, i.size, i.bytes)) = some (some (.agg #[.string ⟨#[]⟩, .int .i64 0]), 2, 24) := by kernel_rfl
theorem flat_snoc (ms : List (List Bool)) (m : List Bool) : (ms ++ [m]).flatten.length = ms.flatten.length + m.length := by rw [List.flatten_append, List.length_append]; simp

set_option maxRecDepth 100000 in
set_option maxHeartbeats 16000000 in
theorem pbits_any (f : Nat) (fs : List Fd) (rs : List (Option (List Bool))) (ao : Option Addr) (c : Nat) (w : World) (hs : SlAt w 23 (FdR w f) ao fs) (hn : fs.length ≤ 1000) (hr : rs.length = fs.length)
    (hf : ∀ k (h : k < fs.length) (h2 : k < rs.length), FdIs f fs[k] rs[k]) (hm : ∀ (k : Nat) (m : List Bool), rs[k]? = some (some m) → m.length ≤ 1099511627776) :
    Calls Tryz.prog 11 #[.slice ao fs.length c] w (BitsQ (allB rs) w) := by
  obtain ⟨i0, hi, hz0, hz1, hz2⟩ := info_parts infoBits
  have HT := Lib.hid (two_new w); have HB := Lib.hid (two_belowE w)
  have HS := Lib.hid (show SlAt ((w.alloc (.cells zRow9 28)).alloc (.cells zRow10 34)) 23 (FdR ((w.alloc (.cells zRow9 28)).alloc (.cells zRow10 34)) f) ao fs from hs.mono HB.out (fun _ _ h => h.below HB.out))
  have HR := Lib.hid hr; have HF := Lib.hid hf; have HM := Lib.hid hm
  obtain ⟨Q, hQ⟩ : ∃ Q, Q = BitsQ (allB rs) w := ⟨_, rfl⟩
  rw [← hQ]
  have HQ := Lib.hid hQ
  clear hs hr hf hm hQ
  go_enter Tryz.func11, Tryz.ntmps11
  generalize hW : (w.alloc (.cells zRow9 28)).alloc (.cells zRow10 34) = W at *
  have hW2 : W.heap.size = w.heap.size + 2 := by rw [← hW]; simp
  go_wp2_with fail
  go_loopw [4, 5, 14] (fun pv nv kv wr => ∃ (k F : Nat) (ms ps : List (List Bool)), k ≤ fs.length ∧ kv = .int .i64 k ∧ nv = .int .i64 F ∧ Hid (F = ms.flatten.length) ∧ Hid (rs.take k = ms.map some) ∧ F ≤ k * 1099511627776 ∧ Hid (ms.flatten.length ≤ 16384 → ps = ms) ∧ ps.length ≤ k ∧ Hid (wr.ownsRow W.heap.size 56 2 pv ps.length (cellsB ps)) ∧ Hid (Below W.heap.size W wr)) (fun _ _ kv _ => fs.length - (intOf kv).toNat)
  case atStart => exact ⟨0, 0, [], [], Nat.zero_le _, rfl, rfl, Lib.hid rfl, Lib.hid rfl, by simp, Lib.hid (fun _ => rfl), Nat.le_refl _, Lib.hid (World.ownsRow_nil _ _ _ _), Lib.hid (Below.refl _ _)⟩
  case round =>
    obtain ⟨k, F, ms, ps, hk, rfl, rfl, HFE, HTK, hsum, HPS, hpl, HOW, HBr⟩ := hrel
    rename World => wr
    by_cases hlt : k < fs.length
    · have hkr : k < rs.length := by rw [HR.out]; exact hlt
      obtain ⟨b, off, vo, vc, so, sc, R, hao, hb, hRe, hRs, hR1, hRc, it1, it2⟩ := (HS.out.mono HBr.out (fun _ _ h => h.below HBr.out)).fdr hlt
      subst hao
      have hfk := HF.out k hlt hkr
      have hmk := HM.out k
      rw [List.getElem?_eq_getElem hkr] at hmk
      have HRK : Hid (rs[k]? = some rs[k]) := Lib.hid (List.getElem?_eq_getElem hkr)
      generalize rs[k] = o at *
      generalize fs[k] = x at *
      have hi23 : (Tryz.prog.info? 30).map (·.size) = some R.size := by rw [hRs]; kernel_rfl
      have hzs : zRow23.size = R.size := by rw [hRs]; rfl
      have HRC := Lib.hid hRc; have HI := Lib.hid hi23; have HZS := Lib.hid hzs; have HR1 := Lib.hid hR1
      have hnew := heap_alloc_new wr (.cells zRow23 30)
      have hbox := setRow_heap (wr.alloc (.cells zRow23 30)) wr.heap.size zRow23 R _ _ hnew
      have hba : Below wr.heap.size wr ((wr.alloc (.cells zRow23 30)).setRow wr.heap.size R) := below_setRow ((Below.refl _ _).alloc (Nat.le_refl _) _) (Nat.le_refl _) _
      have HNEW := Lib.hid hnew
      have hfc := hfk vo so vc sc _ (it1.tms hba) (it2.tms hba)
      rw [← hRe] at hfc
      have HFC := Lib.hid hfc; have HBA := Lib.hid hba; have HBOX := Lib.hid hbox
      clear hfk it1 it2 hba hbox hnew hfc hRe hRs hR1 hRc hi23 hzs
      go_upto_region 6 with (first | (refine wpList_load_at rfl 30 _ rfl b (off + k * 23) rfl R HRC.out _ Tryz.underlying30 HI.out ?_) | (refine wpList_store_row rfl 30 _ _ rfl wr.heap.size R rfl rfl 30 _ HNEW.out HI.out HZS.out HR1.out ?_) | fail)
      generalize hwA : (wr.alloc (.cells zRow23 30)).setRow wr.heap.size R = wA at *
      clear hwA HNEW HZS HRC
      cases o with
      | none =>
        as_aux_lemma =>
        have HAN := Lib.hid (allB_none HRK.out)
        go_wp2_with (first | (refine wpList_load_row rfl 30 _ rfl wr.heap.size rfl 30 R _ _ HBOX.out Tryz.underlying30 rfl HI.out ?_) | (go_at_call 28; refine HFC.out.mono ?_; rintro e w1 ⟨⟨y, n, rfl⟩, hb1⟩; have hbA := HBr.out.trans ((HBA.out.trans (hb1.mono HBA.out.size)).mono HBr.out.size)) | (go_at_call 29; refine (none_any _ _).mono ?_; rintro e w2 ⟨rfl, hb2⟩; have hb12 := (HBr.out.trans ((HBA.out.trans ((hb1.alloc hb1.size (.cells #[.string y, .int .i64 n] 56)).mono HBA.out.size)).mono HBr.out.size)); have hbB := hb12.trans (hb2.mono hb12.size); have hT := HT.out.below hbB) | (refine wpList_store_row rfl 28 _ _ rfl w.heap.size _ rfl rfl 28 _ hT.1 (by kernel_rfl) rfl (by simp [Value.oneCell']) ?_) | (refine wpList_store_row rfl 34 _ _ rfl (w.heap.size + 1) _ rfl rfl 34 _ (two_other hT (by omega) _) (by kernel_rfl) rfl (by simp [Value.oneCell']) ?_) | fail)
        obtain ⟨z1, z2, z3⟩ := two_set hT (by omega) (HB.out.trans (hbB.mono HB.out.size)) (Nat.le_refl _) (Nat.le_succ _) zRow9 #[.string ⟨#[101, 114, 114, 111, 114]⟩, .int .i64 2, .int .i64 0, .int .i64 0, .string ⟨#[98, 97, 100, 97, 114, 103]⟩, .string ⟨#[]⟩, .int .i64 0, .slice none 0 0, .string ⟨#[]⟩, .int .i64 0]
        refine bodyPost_ret (results_two_rows rfl _ _ _ w.heap.size (w.heap.size + 1) _ _ _ _ _ _ _ _ rfl z1 rfl z2 Tryz.underlying28 (by kernel_rfl) Tryz.underlying34 (by kernel_rfl)) rfl ?_
        rw [HQ.out, HAN.out]
        exact ⟨rfl, z3⟩
      | some m =>
        as_aux_lemma =>
        have hml := hmk m rfl
        have HTK2 : Hid (rs.take (k + 1) = (ms ++ [m]).map some) := Lib.hid (by rw [List.take_add_one, HRK.out, HTK.out, List.map_append]; rfl)
        have HFL := Lib.hid (flat_snoc ms m)
        have HPS2 : Hid ((ms ++ [m]).flatten.length ≤ 16384 → ps ++ [m] = ms ++ [m]) := Lib.hid (fun h => by rw [HPS.out (by have := HFL.out; omega)])
        rw [← HFE.out] at HFL
        obtain ⟨ml, hmL⟩ : ∃ ml, ml = m.length := ⟨_, rfl⟩
        have HC1 := Lib.hid (cellsB_snoc ps m)
        have HML := Lib.hid hmL
        have hfc : Calls Tryz.prog 28 #[.agg R] wA fun e w' => e = .returned (.tuple #[.agg #[.string (bstr m), .int .i64 m.length], .bool true]) ∧ Below wA.heap.size wA w' := HFC.out.mono fun e w' h => h
        have HFC2 := Lib.hid hfc
        rw [← hmL] at HFL hml HFC2 HC1
        generalize bstr m = y at *
        clear hmL hmk HRK HFC hfc
        go_upto_region 10 with (first | (refine wpList_load_row rfl 30 _ rfl wr.heap.size rfl 30 R _ _ HBOX.out Tryz.underlying30 rfl HI.out ?_) | (go_at_call 28; refine HFC2.out.mono ?_; rintro e w1 ⟨rfl, hb1⟩) | fail)
        have hbA := Lib.hid (HBr.out.trans ((HBA.out.trans ((hb1.alloc hb1.size (.cells #[.string y, .int .i64 ml] 56)).mono HBA.out.size)).mono HBr.out.size))
        have hown := HOW.out.kept (row := none) (grownBy_below (HBA.out.trans ((hb1.alloc hb1.size (.cells #[.string y, .int .i64 ml] 56)).mono HBA.out.size)) none) (by cases u4.ownBlock <;> simp)
        have hnb := heap_alloc_new w1 (.cells #[.string y, .int .i64 ml] 56)
        have hrs : w1.heap.size < (w1.alloc (.cells #[.string y, .int .i64 ml] 56)).heap.size := by simp
        have hw1 : W.heap.size ≤ w1.heap.size := Nat.le_trans HBr.out.size (Nat.le_trans HBA.out.size hb1.size)
        generalize hwB : w1.alloc (.cells #[.string y, .int .i64 ml] 56) = wB at *
        have n0 := cell_of_row _ _ 0 _ _ _ hnb; have n1 := cell_of_row _ _ 1 _ _ _ hnb
        obtain ⟨bb, hbb⟩ : ∃ bb, bb = w1.heap.size := ⟨_, rfl⟩
        rw [← hbb] at n0 n1 hnb hrs ⊢
        have HNB := Lib.hid hnb
        clear HFC2 HBOX HBA hb1 HOW HBr hwB hnb hbb HR1 HI
        by_cases h16 : F + ml ≤ 16384
        · have hps := HPS.out (by have := HFE.out; omega)
          subst hps
          have t1 : decide ((F : Int) + (ml : Int) ≤ 16384) = true := decide_eq_true (by omega)
          have hszB : W.heap.size ≤ wB.heap.size := hbA.out.size
          have howk := hown.lt
          obtain ⟨ao', cap', rfl, -⟩ := owns_bits hown
          go_wp2_with (at_builtin; refine wpList_append_lies _ rfl (.tmp 34) (.tmp 36) 54 rfl W.heap.size 56 i0 _ 2 24 Tryz.underlying54 hi hz0 hz1 hz2 rfl (by decide) _ ps.length (cellsB ps) rfl (hown.alloc _) ⟨wB.heap.size, 0, none⟩ 1 1 (#[.string y, .int .i64 ml]).toList rfl rfl (World.news_of_block (heap_alloc_new _ _)) (by simp [Value.oneCell']) (by decide) (by unfold maxLen; omega) (by omega) (by simp; omega) _ rfl ?_; intro g cap w3 ho3 hg3 hat hlt3)
          have hb3 : Below W.heap.size W w3 := (hbA.out.alloc hszB _).grown hg3 (by simp; omega) (fun k hk => (howk k hk).1)
          have HO3 : Hid (w3.ownsRow W.heap.size 56 2 (.slice (some ⟨g, 0, none⟩) (ps.length + 1) cap) (ps ++ [m]).length (cellsB (ps ++ [m]))) := Lib.hid (by rw [HC1.out, List.length_append]; exact ho3)
          clear hown ho3 hg3 hat
          go_wp2_with fail
          go_roundw
          case rel => exact ⟨k + 1, F + ml, ps ++ [m], ps ++ [m], by omega, by go_num, by simp, Lib.hid HFL.out.symm, HTK2, by omega, Lib.hid (fun _ => rfl), by rw [List.length_append]; simp; omega, HO3, Lib.hid hb3⟩
          case measure => simp [intOf]; omega
        · have t1 : decide ((F : Int) + (ml : Int) ≤ 16384) = false := decide_eq_false (by omega)
          go_wp2_with fail
          go_roundw
          case rel => exact ⟨k + 1, F + ml, ms ++ [m], ps, by omega, by go_num, by simp, Lib.hid HFL.out.symm, HTK2, by omega, Lib.hid (fun h => by have := HFL.out; omega), by omega, Lib.hid hown, hbA⟩
          case measure => simp [intOf]; omega
    · obtain rfl : k = fs.length := by omega
      as_aux_lemma =>
      have HAS : Hid (allB rs = some ms) := Lib.hid (allB_some (by rw [← HTK.out, ← HR.out, List.take_length]))
      have HTB := Lib.hid (HT.out.below HBr.out)
      have HQ2 : Hid (∀ e w', (if F ≤ 16384 then e = .returned (.tuple #[bitsV' ms.flatten, noneV]) else e = .returned (.tuple #[zeroV, failV ⟨#[115, 121, 115, 116, 101, 109, 95, 108, 105, 109, 105, 116]⟩]) ) → Below w.heap.size w w' → Q e w') := Lib.hid (fun e w' h1 h2 => by
        rw [HQ.out, HAS.out]; rw [HFE.out] at h1; exact ⟨h1, h2⟩)
      by_cases h16 : F ≤ 16384
      · have hps := HPS.out (by have := HFE.out; omega)
        subst hps
        obtain ⟨ao', cap', rfl, hsl⟩ := owns_bits HOW.out
        have hj := bjoin_any ps ao' cap' wr hsl (by unfold maxLen; omega) (by have := HFE.out; omega)
        obtain ⟨M, hM⟩ : ∃ M, M = ps.flatten := ⟨_, rfl⟩
        rw [← hM] at hj HQ2 HFE
        have hml : M.length ≤ 16384 := by have := HFE.out; omega
        have HJ := Lib.hid hj
        have hbt := fun wx => bterm_any M hml wx
        have t1 : decide ((16384 : Int) < (F : Int)) = false := decide_eq_false (by omega)
        clear hj hsl hM HOW HTK HPS HAS
        go_wp2_with (first | (go_at_call 30; refine HJ.out.mono ?_; rintro e w3 ⟨rfl, hb3⟩) | (go_at_call 32; refine (hbt _).mono ?_; rintro e w4 ⟨rfl, hb4⟩) | (go_at_call 31; refine (some_any _ _ _ _ _ _ _ _ _ _ _ _).mono ?_; rintro e w5 ⟨rfl, hb5⟩; have hbB := below_next (below_next (below_next (below_next HBr.out hb3) ((Below.refl _ _).alloc (Nat.le_refl _) _)) hb4) hb5; have hT := HT.out.below hbB) | (refine wpList_store_row rfl 28 _ _ rfl w.heap.size _ rfl rfl 28 _ hT.1 (by kernel_rfl) rfl (by simp [Value.oneCell']) ?_) | (refine wpList_store_row rfl 34 _ _ rfl (w.heap.size + 1) _ rfl rfl 34 _ (two_other hT (by omega) _) (by kernel_rfl) rfl (by simp [Value.oneCell']) ?_) | fail)
        obtain ⟨z1, z2, z3⟩ := two_set hT (by omega) (HB.out.trans (hbB.mono HB.out.size)) (Nat.le_refl _) (Nat.le_succ _) #[.int .i64 10, .int .i64 0, .int .i64 0, .string ⟨#[]⟩, .string ⟨#[]⟩, .int .i64 0, .slice none 0 0, .string (bstr M), .int .i64 M.length] zRow10
        refine bodyPost_ret (results_two_rows rfl _ _ _ w.heap.size (w.heap.size + 1) _ _ _ _ _ _ _ _ rfl z1 rfl z2 Tryz.underlying28 (by kernel_rfl) Tryz.underlying34 (by kernel_rfl)) rfl ?_
        exact HQ2.out _ _ (by rw [if_pos h16]) z3
      · have t1 : decide ((16384 : Int) < (F : Int)) = true := decide_eq_true (by omega)
        go_wp2_with (first | (go_at_call 29; refine (none_any _ _).mono ?_; rintro e w5 ⟨rfl, hb5⟩; have hbB := below_next HBr.out hb5; have hT := HT.out.below hbB) | (refine wpList_store_row rfl 28 _ _ rfl w.heap.size _ rfl rfl 28 _ hT.1 (by kernel_rfl) rfl (by simp [Value.oneCell']) ?_) | (refine wpList_store_row rfl 34 _ _ rfl (w.heap.size + 1) _ rfl rfl 34 _ (two_other hT (by omega) _) (by kernel_rfl) rfl (by simp [Value.oneCell']) ?_) | fail)
        obtain ⟨z1, z2, z3⟩ := two_set hT (by omega) (HB.out.trans (hbB.mono HB.out.size)) (Nat.le_refl _) (Nat.le_succ _) zRow9 #[.string ⟨#[101, 114, 114, 111, 114]⟩, .int .i64 2, .int .i64 0, .int .i64 0, .string ⟨#[115, 121, 115, 116, 101, 109, 95, 108, 105, 109, 105, 116]⟩, .string ⟨#[]⟩, .int .i64 0, .slice none 0 0, .string ⟨#[]⟩, .int .i64 0]
        refine bodyPost_ret (results_two_rows rfl _ _ _ w.heap.size (w.heap.size + 1) _ _ _ _ _ _ _ _ rfl z1 rfl z2 Tryz.underlying28 (by kernel_rfl) Tryz.underlying34 (by kernel_rfl)) rfl ?_
        exact HQ2.out _ _ (by rw [if_neg h16]) z3
end Go.Proofs.YthmpobimmbmddaaGreatDoor
namespace Go.Proofs.YthmpobimmbmddaaGreatDoor
open Go.RowKit
set_option linter.unusedVariables false
set_option linter.unusedSimpArgs false

def cellsF (rs : List (Array Value)) : List Value := rs.flatMap Array.toList
theorem cellsF_cons (r : Array Value) (rs : List (Array Value)) : cellsF (r :: rs) = r.toList ++ cellsF rs := rfl
theorem cellsF_len : ∀ {rs : List (Array Value)}, (∀ r ∈ rs, r.size = 23) → (cellsF rs).length = rs.length * 23
  | [], _ => rfl
  | r :: rs, h => by
    have ih := cellsF_len (rs := rs) (fun q hq => h q (List.mem_cons_of_mem _ hq))
    have hr := h r List.mem_cons_self
    rw [cellsF_cons, List.length_append, ih, List.length_cons, Array.length_toList, hr]; omega
theorem cellsF_snoc (rs : List (Array Value)) (r : Array Value) : cellsF (rs ++ [r]) = cellsF rs ++ r.toList := by
  unfold cellsF; rw [List.flatMap_append]; simp
theorem cellsF_at : ∀ {rs : List (Array Value)} (_ : ∀ r ∈ rs, r.size = 23) (j i : Nat) (hj : j < rs.length), i < 23 → (cellsF rs)[j * 23 + i]? = (rs[j])[i]?
  | r :: rs, h, 0, i, _, hi => by
    have hr := h r List.mem_cons_self
    rw [cellsF_cons, List.getElem?_append_left (by rw [Array.length_toList, hr]; omega)]; simp
  | r :: rs, h, j + 1, i, hj, hi => by
    have hr := h r List.mem_cons_self
    rw [cellsF_cons, List.getElem?_append_right (by rw [Array.length_toList, hr]; omega), Array.length_toList, hr]
    have ih := cellsF_at (rs := rs) (fun q hq => h q (List.mem_cons_of_mem _ hq)) j i (by simpa using hj) hi
    rw [show (j + 1) * 23 + i - 23 = j * 23 + i by omega, ih]; simp
/-- Rows that the call owns, each of them a segment's: a list of segments. -/
theorem owns_fds {w : World} {B f : Nat} {v : Value} {rs : List (Array Value)} {fs : List Fd} (h : w.ownsRow B 30 23 v rs.length (cellsF rs)) (hl : rs.length = fs.length)
    (hx : ∀ j (h1 : j < rs.length) (h2 : j < fs.length), FdR w f (rs[j]).toList fs[j]) (hs : ∀ r ∈ rs, r.size = 23) : ∃ ao c, v = .slice ao fs.length c ∧ SlAt w 23 (FdR w f) ao fs := by
  rcases h.2 with ⟨rfl, h0⟩ | ⟨g, cap, cur, rfl, _, hg, hc, _, hss, ht⟩
  · exact ⟨none, 0, by rw [← hl, h0], .inl (List.eq_nil_of_length_eq_zero (by omega))⟩
  · refine ⟨_, cap, by rw [← hl], .inr ⟨g, 0, rfl, lt_of_row hg, fun j hj => ?_⟩⟩
    have hjr : j < rs.length := by omega
    have hrs := hs rs[j] (List.getElem_mem hjr)
    refine ⟨(rs[j]).toList, by rw [Array.length_toList, hrs], fun i hi => ?_, hx j hjr hj⟩
    have h1 := cellsF_at hs j i hjr hi
    rw [← ht, List.getElem?_take_of_lt (by omega), Array.getElem?_toList] at h1
    rw [cell_of_row _ _ _ _ _ _ hg, Nat.zero_add, h1, Array.getElem?_toList]
end Go.Proofs.YthmpobimmbmddaaGreatDoor
namespace Go.Proofs.YthmpobimmbmddaaGreatDoor
open Go.RowKit
set_option linter.unusedVariables false
set_option linter.unusedSimpArgs false

/-- Intervals of blocks, one behind the other, between lo and hi, none of which holds the block own. -/
def Ivs (lo hi : Nat) (own : Option Nat) (n : Nat) (a e : Nat → Nat) : Prop :=
  ∀ j, j < n → lo ≤ a j ∧ a j ≤ e j ∧ e j ≤ hi ∧ (∀ g, own = some g → g < a j ∨ e j ≤ g) ∧ ∀ i, i < j → e i ≤ a j
/-- A slice's rows lie in a block between lo and hi, and what each holds in an interval of its own. -/
def SlS {α : Type} (w : World) (R : Nat → Nat → List Value → α → Prop) (T : TypeId) (size lo hi : Nat) (ao : Option Addr) (l : List α) : Prop :=
  l = [] ∨ ∃ b arr a e, ao = some ⟨b, 0, none⟩ ∧ lo ≤ b ∧ b < hi ∧ w.heap[b]? = some (.cells arr T (0, 0)) ∧ Ivs lo hi (some b) l.length a e ∧
    ∀ j (h : j < l.length), ∃ cs : List Value, cs.length = size ∧ (∀ i, i < size → arr[j * size + i]? = cs[i]?) ∧ R (a j) (e j) cs l[j]
theorem Ivs.widen {lo hi lo' hi' : Nat} {own : Option Nat} {n : Nat} {a e : Nat → Nat} (h : Ivs lo hi own n a e) (h1 : lo' ≤ lo) (h2 : hi ≤ hi') : Ivs lo' hi' own n a e := fun j hj => by
  obtain ⟨g1, g2, g3, g4, g5⟩ := h j hj
  exact ⟨Nat.le_trans h1 g1, g2, Nat.le_trans g3 h2, g4, g5⟩
theorem SlS.kept {α : Type} {w w' : World} {R R' : Nat → Nat → List Value → α → Prop} {T : TypeId} {size lo hi lo' hi' : Nat} {ao : Option Addr} {l : List α} (h : SlS w R T size lo hi ao l)
    (hk : ∀ b, lo ≤ b → b < hi → w'.heap[b]? = w.heap[b]?) (h1 : lo' ≤ lo) (h2 : hi ≤ hi') (hR : ∀ a e cs t, lo ≤ a → e ≤ hi → R a e cs t → R' a e cs t) : SlS w' R' T size lo' hi' ao l := by
  rcases h with h | ⟨b, arr, a, e, e1, hb1, hb2, hg, hv, hx⟩
  · exact .inl h
  · refine .inr ⟨b, arr, a, e, e1, Nat.le_trans h1 hb1, Nat.lt_of_lt_of_le hb2 h2, (hk b hb1 hb2).trans hg, hv.widen h1 h2, fun j hj => ?_⟩
    obtain ⟨cs, k1, k2, k3⟩ := hx j hj
    exact ⟨cs, k1, k2, hR _ _ _ _ (hv j hj).1 (hv j hj).2.2.1 k3⟩
/-- The nine cells of a term. -/
def tmRow (t : Tm) (so : Option Addr) (c : Nat) : List Value := [.int .i64 t.kind, .int .i64 t.int, .int .i64 t.gen, .string t.name, .string t.func, .int .i64 t.arity, .slice so t.items.length c, .string t.bytes, .int .i64 t.bits]
/-- Cells hold a term of at most this depth, whose parts lie between lo and hi, apart from one another. -/
def SepT (w : World) : Nat → Nat → Nat → List Value → Tm → Prop
  | 0, _, _, _, _ => False
  | f + 1, lo, hi, cs, t => (∃ so c, cs = tmRow t so c ∧ SlS w (SepT w f) 28 9 lo hi so t.items) ∧ t.Ok
theorem SepT.kept {w w' : World} : ∀ {f lo hi lo' hi' : Nat} {cs : List Value} {t : Tm}, SepT w f lo hi cs t → (∀ b, lo ≤ b → b < hi → w'.heap[b]? = w.heap[b]?) → lo' ≤ lo → hi ≤ hi' → SepT w' f lo' hi' cs t
  | 0, _, _, _, _, _, _, h, _, _, _ => h
  | f + 1, lo, hi, _, _, _, _, ⟨⟨so, c, e, h⟩, ho⟩, hk, h1, h2 =>
    ⟨⟨so, c, e, h.kept hk h1 h2 fun a e cs t ha he hx => SepT.kept hx (fun b b1 b2 => hk b (Nat.le_trans ha b1) (Nat.lt_of_lt_of_le b2 he)) (Nat.le_refl _) (Nat.le_refl _)⟩, ho⟩
theorem SlS.at {α : Type} {w : World} {R : Nat → Nat → List Value → α → Prop} {R' : List Value → α → Prop} {T : TypeId} {size lo hi : Nat} {ao : Option Addr} {l : List α} (h : SlS w R T size lo hi ao l) (hR : ∀ a e cs t, R a e cs t → R' cs t) : SlAt w size R' ao l := by
  rcases h with h | ⟨b, arr, a, e, e1, hb1, hb2, hg, hv, hx⟩
  · exact .inl h
  · refine .inr ⟨b, 0, e1, lt_of_row hg, fun j hj => ?_⟩
    obtain ⟨cs, k1, k2, k3⟩ := hx j hj
    exact ⟨cs, k1, fun i hi => by rw [cell_of_row _ _ _ _ _ _ hg, Nat.zero_add, ← k2 i hi], hR _ _ _ _ k3⟩
theorem SepT.at {w : World} : ∀ {f lo hi : Nat} {cs : List Value} {t : Tm}, SepT w f lo hi cs t → TmAt w f cs t
  | 0, _, _, _, _, h => h
  | _ + 1, _, _, _, _, ⟨⟨so, c, e, h⟩, ho⟩ => ⟨⟨so, c, e, h.at fun _ _ _ _ hx => SepT.at hx⟩, ho⟩
theorem SepT.len {w : World} {f lo hi : Nat} {cs : List Value} {t : Tm} (h : SepT w f lo hi cs t) : cs.length = 9 := by
  cases f with
  | zero => exact h.elim
  | succ f => obtain ⟨⟨so, c, e, -⟩, -⟩ := h; rw [e]; rfl
/-- A row that grows: what each of its elements holds lies in an interval of its own, in which the row's own block is not. -/
def AccS {α : Type} (w : World) (R : Nat → Nat → List Value → α → Prop) (T : TypeId) (size B : Nat) (v : Value) (l : List α) : Prop :=
  ∃ xs a e, w.ownsRow B T size v l.length xs ∧ Ivs B w.heap.size v.ownBlock l.length a e ∧
    ∀ j (h : j < l.length), ∃ cs : List Value, cs.length = size ∧ (∀ i, i < size → xs[j * size + i]? = cs[i]?) ∧ R (a j) (e j) cs l[j]
theorem AccS.nil {α : Type} (w : World) (R : Nat → Nat → List Value → α → Prop) (T : TypeId) (size B : Nat) : AccS w R T size B (.slice none 0 0) [] :=
  ⟨[], fun _ => 0, fun _ => 0, World.ownsRow_nil _ _ _ _, fun j hj => absurd hj (Nat.not_lt_zero _), fun j hj => absurd hj (Nat.not_lt_zero _)⟩
/-- An empty row with room. -/
theorem AccS.made {α : Type} {w : World} {R : Nat → Nat → List Value → α → Prop} {T : TypeId} {size B : Nat} {v : Value} (h : w.ownsRow B T size v 0 []) : AccS w R T size B v ([] : List α) :=
  ⟨[], fun _ => 0, fun _ => 0, h, fun j hj => absurd hj (Nat.not_lt_zero _), fun j hj => absurd hj (Nat.not_lt_zero _)⟩
theorem AccS.below {α : Type} {w w' : World} {R R' : Nat → Nat → List Value → α → Prop} {T : TypeId} {size B : Nat} {v : Value} {l : List α} (h : AccS w R T size B v l) (hb : Below w.heap.size w w') (hR : ∀ a e cs t, e ≤ w.heap.size → R a e cs t → R' a e cs t) : AccS w' R' T size B v l := by
  obtain ⟨xs, a, e, ho, hv, hx⟩ := h
  refine ⟨xs, a, e, ho.kept (grownBy_below hb none) (by cases v.ownBlock <;> simp), hv.widen (Nat.le_refl _) hb.size, fun j hj => ?_⟩
  obtain ⟨cs, k1, k2, k3⟩ := hx j hj
  exact ⟨cs, k1, k2, hR _ _ _ _ (hv j hj).2.2.1 k3⟩
/-- An element that lies behind all that was there is appended. -/
theorem AccS.app {α : Type} {w0 w w' : World} {R R' : Nat → Nat → List Value → α → Prop} {T : TypeId} {size B lo hi g cap : Nat} {v : Value} {l : List α} {cs : List Value} {t : α} {xs : List Value} {a e : Nat → Nat}
    (ho : w.ownsRow B T size v l.length xs) (hv : Ivs B w0.heap.size v.ownBlock l.length a e) (hx : ∀ j (h : j < l.length), ∃ cs : List Value, cs.length = size ∧ (∀ i, i < size → xs[j * size + i]? = cs[i]?) ∧ R (a j) (e j) cs l[j])
    (hlo : w0.heap.size ≤ lo) (hlh : lo ≤ hi) (hhi : hi ≤ w.heap.size) (hBw : B ≤ w0.heap.size) (hv0 : ∀ k, v.ownBlock = some k → k < w0.heap.size) (hcl : cs.length = size) (hR0 : R lo hi cs t)
    (hg : w.grownBy w' v.ownBlock) (hat : v.ownBlock = some g ∨ g = w.heap.size) (ho' : w'.ownsRow B T size (.slice (some ⟨g, 0, none⟩) (l.length + 1) cap) (l.length + 1) (xs ++ cs))
    (hR : ∀ a e cs t, (∀ k, v.ownBlock = some k → k < a ∨ e ≤ k) → e ≤ w.heap.size → R a e cs t → R' a e cs t) : AccS w' R' T size B (.slice (some ⟨g, 0, none⟩) (l.length + 1) cap) (l ++ [t]) := by
  have hxl : xs.length = l.length * size := ho.1
  have hgs := hg.size
  refine ⟨xs ++ cs, fun j => if j < l.length then a j else lo, fun j => if j < l.length then e j else hi, by rw [List.length_append]; exact ho', fun j hj => ?_, fun j hj => ?_⟩
  · rw [List.length_append, List.length_singleton] at hj
    by_cases c : j < l.length
    · obtain ⟨g1, g2, g3, g4, g5⟩ := hv j c
      simp only [c, if_true]
      refine ⟨g1, g2, by omega, fun k hk => ?_, fun i hi => ?_⟩
      · have hk : g = k := Option.some.inj hk
        subst hk
        rcases hat with h | h
        · exact g4 g h
        · right; omega
      · rw [if_pos (by omega)]; exact g5 i hi
    · simp only [c, if_false]
      refine ⟨by omega, hlh, by omega, fun k hk => ?_, fun i hi => ?_⟩
      · have hk : g = k := Option.some.inj hk
        subst hk
        rcases hat with h | h
        · left; have := hv0 g h; omega
        · right; omega
      · by_cases c2 : i < l.length
        · rw [if_pos c2]; have := (hv i c2).2.2.1; omega
        · omega
  · rw [List.length_append, List.length_singleton] at hj
    by_cases c : j < l.length
    · obtain ⟨cs', k1, k2, k3⟩ := hx j c
      refine ⟨cs', k1, fun i hi => ?_, ?_⟩
      · have : j * size + i < l.length * size := by
          have h5 : (j + 1) * size ≤ l.length * size := Nat.mul_le_mul_right _ c
          rw [Nat.succ_mul] at h5; omega
        rw [List.getElem?_append_left (by omega), k2 i hi]
      · simp only [c, if_true]
        rw [List.getElem_append_left c]
        exact hR _ _ _ _ (hv j c).2.2.2.1 (by have := (hv j c).2.2.1; have := hhi; omega) k3
    · have hjl : j = l.length := by omega
      subst hjl
      refine ⟨cs, hcl, fun i hi => ?_, ?_⟩
      · rw [List.getElem?_append_right (by omega)]; congr 1; omega
      · simp only [Nat.lt_irrefl, if_false]
        rw [List.getElem_append_right (by omega)]
        simp only [Nat.sub_self, List.getElem_singleton]
        exact hR _ _ _ _ (fun k hk => .inl (by have := hv0 k hk; omega)) hhi hR0
/-- What the row has become. -/
theorem AccS.sl {α : Type} {w : World} {R : Nat → Nat → List Value → α → Prop} {T : TypeId} {size B : Nat} {v : Value} {l : List α} (h : AccS w R T size B v l) : ∃ ao c, v = .slice ao l.length c ∧ SlS w R T size B w.heap.size ao l := by
  obtain ⟨xs, a, e, ho, hv, hx⟩ := h
  rcases ho.2 with ⟨rfl, h0⟩ | ⟨g, cap, cur, rfl, hB, hg, h1, h2, h3, h4⟩
  · exact ⟨none, 0, by rw [h0], .inl (List.eq_nil_of_length_eq_zero h0)⟩
  · refine ⟨_, _, rfl, .inr ⟨g, cur, a, e, rfl, hB, lt_of_row hg, hg, hv, fun j hj => ?_⟩⟩
    obtain ⟨cs, k1, k2, k3⟩ := hx j hj
    refine ⟨cs, k1, fun i hi => ?_, k3⟩
    rw [← k2 i hi, ← h4, ← Array.getElem?_toList, List.getElem?_take]
    have : j * size + i < l.length * size := by
      have h5 : (j + 1) * size ≤ l.length * size := Nat.mul_le_mul_right _ hj
      rw [Nat.succ_mul] at h5; omega
    rw [if_pos this]
end Go.Proofs.YthmpobimmbmddaaGreatDoor
namespace Go.Proofs.YthmpobimmbmddaaGreatDoor
open Go.RowKit
set_option linter.unusedVariables false
set_option linter.unusedSimpArgs false

/-- What stands in the spare places. -/
def markT : Tm := .mk (-7) 4711 0 ⟨#[115, 112, 97, 114, 101]⟩ ⟨#[]⟩ 0 [] ⟨#[]⟩ 0
abbrev markRow : List Value := [.int .i64 (-7), .int .i64 4711, .int .i64 0, .string ⟨#[115, 112, 97, 114, 101]⟩, .string ⟨#[]⟩, .int .i64 0, .slice none 0 0, .string ⟨#[]⟩, .int .i64 0]
/-- A lent list, all of whose blocks lie between lo and hi, apart from one another; the original one lies below B0. -/
def LentL (w : World) (B0 : Nat) (R : Nat → Nat → List Value → List Value → Tm → Prop) (lo hi : Nat) (so : Option Addr) (c : Nat) (so0 : Option Addr) (l : List Tm) : Prop :=
  (so0 = none ∧ so = none ∧ l = []) ∨
  (so0 ≠ none ∧ ∃ g arr a e, so = some ⟨g, 0, none⟩ ∧ lo ≤ g ∧ g < hi ∧ w.heap[g]? = some (.cells arr 28 (0, 0)) ∧ l.length + 2 ≤ c ∧ Ivs lo hi (some g) l.length a e ∧
    (∀ i, i < 9 → arr[l.length * 9 + i]? = markRow[i]?) ∧ (∀ i, i < 9 → arr[(l.length + 1) * 9 + i]? = markRow[i]?) ∧
    ∀ j (h : j < l.length), ∃ cs cs0 : List Value, cs.length = 9 ∧ cs0.length = 9 ∧ (∀ i, i < 9 → arr[j * 9 + i]? = cs[i]?) ∧
      (∃ b off, so0 = some ⟨b, off, none⟩ ∧ b < B0 ∧ ∀ i, i < 9 → w.cell? ⟨b, off + j * 9 + i, none⟩ = cs0[i]?) ∧ R (a j) (e j) cs cs0 l[j])
def LentT (w : World) (B0 : Nat) : Nat → Nat → Nat → List Value → List Value → Tm → Prop
  | 0, _, _, _, _, _ => False
  | f + 1, lo, hi, cs, cs0, t => (∃ so c so0 c0, cs = tmRow t so c ∧ cs0 = tmRow t so0 c0 ∧ LentL w B0 (LentT w B0 f) lo hi so c so0 t.items) ∧ t.Ok
theorem LentL.kept {w w' : World} {B0 B0' : Nat} {R R' : Nat → Nat → List Value → List Value → Tm → Prop} {lo hi lo' hi' c : Nat} {so so0 : Option Addr} {l : List Tm} (h : LentL w B0 R lo hi so c so0 l)
    (hk : ∀ b, lo ≤ b → b < hi → w'.heap[b]? = w.heap[b]?) (h0 : ∀ b, b < B0 → w'.heap[b]? = w.heap[b]?) (hB : B0 ≤ B0') (h1 : lo' ≤ lo) (h2 : hi ≤ hi') (hR : ∀ a e cs cs0 t, lo ≤ a → e ≤ hi → R a e cs cs0 t → R' a e cs cs0 t) : LentL w' B0' R' lo' hi' so c so0 l := by
  rcases h with h | ⟨hn, g, arr, a, e, e1, g1, g2, hg, hc, hv, m1, m2, hx⟩
  · exact .inl h
  · refine .inr ⟨hn, g, arr, a, e, e1, Nat.le_trans h1 g1, Nat.lt_of_lt_of_le g2 h2, (hk g g1 g2).trans hg, hc, hv.widen h1 h2, m1, m2, fun j hj => ?_⟩
    obtain ⟨cs, cs0, k1, k2, k3, ⟨b, off, k4, k5, k6⟩, k7⟩ := hx j hj
    exact ⟨cs, cs0, k1, k2, k3, ⟨b, off, k4, Nat.lt_of_lt_of_le k5 hB, fun i hi => (World.cell?_of_block (a := ⟨b, off + j * 9 + i, none⟩) (h0 b k5)).trans (k6 i hi)⟩, hR _ _ _ _ _ (hv j hj).1 (hv j hj).2.2.1 k7⟩
theorem LentT.kept {w w' : World} : ∀ {f B0 B0' lo hi lo' hi' : Nat} {cs cs0 : List Value} {t : Tm}, LentT w B0 f lo hi cs cs0 t → (∀ b, lo ≤ b → b < hi → w'.heap[b]? = w.heap[b]?) → (∀ b, b < B0 → w'.heap[b]? = w.heap[b]?) → B0 ≤ B0' → lo' ≤ lo → hi ≤ hi' → LentT w' B0' f lo' hi' cs cs0 t
  | 0, _, _, _, _, _, _, _, _, _, h, _, _, _, _, _ => h
  | f + 1, _, _, _, _, _, _, _, _, _, ⟨⟨so, c, so0, c0, e, e0, h⟩, ho⟩, hk, h0, hB, h1, h2 =>
    ⟨⟨so, c, so0, c0, e, e0, h.kept hk h0 hB h1 h2 fun a e cs cs0 t ha he hx => LentT.kept hx (fun b b1 b2 => hk b (Nat.le_trans ha b1) (Nat.lt_of_lt_of_le b2 he)) h0 hB (Nat.le_refl _) (Nat.le_refl _)⟩, ho⟩
theorem LentT.below {w w' : World} {f B0 lo hi : Nat} {cs cs0 : List Value} {t : Tm} (h : LentT w B0 f lo hi cs cs0 t) (hb : Below w.heap.size w w') (hh : hi ≤ w.heap.size) (hB : B0 ≤ w.heap.size) : LentT w' B0 f lo hi cs cs0 t :=
  h.kept (fun b _ b2 => hb.block b (Nat.lt_of_lt_of_le b2 hh)) (fun b b2 => hb.block b (Nat.lt_of_lt_of_le b2 hB)) (Nat.le_refl _) (Nat.le_refl _) (Nat.le_refl _)
theorem LentL.below {w w' : World} {f B0 lo hi c : Nat} {so so0 : Option Addr} {l : List Tm} (h : LentL w B0 (LentT w B0 f) lo hi so c so0 l) (hb : Below w.heap.size w w') (hh : hi ≤ w.heap.size) (hB : B0 ≤ w.heap.size) : LentL w' B0 (LentT w' B0 f) lo hi so c so0 l :=
  h.kept (fun b _ b2 => hb.block b (Nat.lt_of_lt_of_le b2 hh)) (fun b b2 => hb.block b (Nat.lt_of_lt_of_le b2 hB)) (Nat.le_refl _) (Nat.le_refl _) (Nat.le_refl _) fun a e cs cs0 t _ he hx => LentT.below hx hb (Nat.le_trans he hh) hB
/-- The lent list as a list. -/
theorem LentL.at {w : World} {f B0 lo hi c : Nat} {so so0 : Option Addr} {l : List Tm} (h : LentL w B0 (LentT w B0 f) lo hi so c so0 l) (hR : ∀ a e cs cs0 t, LentT w B0 f a e cs cs0 t → TmAt w f cs t) : SlAt w 9 (TmAt w f) so l := by
  rcases h with ⟨_, _, h⟩ | ⟨hn, g, arr, a, e, e1, g1, g2, hg, hc, hv, m1, m2, hx⟩
  · exact .inl h
  · refine .inr ⟨g, 0, e1, lt_of_row hg, fun j hj => ?_⟩
    obtain ⟨cs, cs0, k1, k2, k3, _, k7⟩ := hx j hj
    exact ⟨cs, k1, fun i hi => by rw [cell_of_row _ _ _ _ _ _ hg, Nat.zero_add, ← k3 i hi], hR _ _ _ _ _ k7⟩
theorem LentT.at {w : World} {B0 : Nat} : ∀ {f lo hi : Nat} {cs cs0 : List Value} {t : Tm}, LentT w B0 f lo hi cs cs0 t → TmAt w f cs t
  | 0, _, _, _, _, _, h => h
  | _ + 1, _, _, _, _, _, ⟨⟨so, c, so0, c0, e, _, h⟩, ho⟩ => ⟨⟨so, c, e, h.at fun _ _ _ _ _ hx => LentT.at hx⟩, ho⟩
end Go.Proofs.YthmpobimmbmddaaGreatDoor
namespace Go.Proofs.YthmpobimmbmddaaGreatDoor
open Go.RowKit
set_option linter.unusedVariables false
set_option linter.unusedSimpArgs false

/-- A row of 23 cells is the lent copy of a segment; o: a block that lies outside of what was lent. -/
def LentF (w : World) (B0 f : Nat) (o : Option Nat) (row : Array Value) (vo0 so0 : Option Addr) (x : Fd) : Prop :=
  ∃ vo vc so sc l1 h1 l2 h2, row = fdRow x vo vc so sc ∧ LentL w B0 (LentT w B0 f) l1 h1 vo vc vo0 x.val.items ∧ LentL w B0 (LentT w B0 f) l2 h2 so sc so0 x.size.items ∧
    h1 ≤ w.heap.size ∧ h2 ≤ w.heap.size ∧ (∀ b, o = some b → (b < l1 ∨ h1 ≤ b) ∧ (b < l2 ∨ h2 ≤ b) ∧ B0 ≤ b)
theorem LentF.kept {w w' : World} {B0 f : Nat} {o o' : Option Nat} {row : Array Value} {vo0 so0 : Option Addr} {x : Fd} (h : LentF w B0 f o row vo0 so0 x) (hB : B0 ≤ w.heap.size) (hs : w.heap.size ≤ w'.heap.size)
    (hk : ∀ b, b < w.heap.size → o ≠ some b → w'.heap[b]? = w.heap[b]?) (ho : o' = o ∨ ∀ b, o' = some b → w.heap.size ≤ b) : LentF w' B0 f o' row vo0 so0 x := by
  obtain ⟨vo, vc, so, sc, l1, h1, l2, h2, e, a, b, c, d, g⟩ := h
  have key : ∀ {lo hi c : Nat} {s s0 : Option Addr} {l : List Tm}, LentL w B0 (LentT w B0 f) lo hi s c s0 l → hi ≤ w.heap.size → (∀ b, o = some b → b < lo ∨ hi ≤ b) → LentL w' B0 (LentT w' B0 f) lo hi s c s0 l := by
    intro lo hi c s s0 l hl hh hg
    have hin : ∀ b, lo ≤ b → b < hi → w'.heap[b]? = w.heap[b]? := fun b h1 h2 => hk b (by omega) (fun e => by have := hg b e; omega)
    have hlo : ∀ b, b < B0 → w'.heap[b]? = w.heap[b]? := fun b h1 => hk b (by omega) (fun e => by have := (g b e).2.2; omega)
    refine hl.kept hin hlo (Nat.le_refl _) (Nat.le_refl _) (Nat.le_refl _) ?_
    intro a e cs cs0 t q1 q2 ht
    exact ht.kept (fun b h1 h2 => hin b (by omega) (by omega)) hlo (Nat.le_refl _) (Nat.le_refl _) (Nat.le_refl _)
  refine ⟨vo, vc, so, sc, l1, h1, l2, h2, e, key a c (fun b e => (g b e).1), key b d (fun b e => (g b e).2.1), by omega, by omega, fun q e2 => ?_⟩
  rcases ho with rfl | ho
  · exact g q e2
  · have := ho q e2; omega
theorem LentF.fd {w : World} {B0 f : Nat} {o : Option Nat} {row : Array Value} {vo0 so0 : Option Addr} {x : Fd} (h : LentF w B0 f o row vo0 so0 x) (hx : I64 x.type ∧ x.text.size ≤ maxLen ∧ x.val.Ok ∧ x.size.Ok) : FdR w f row.toList x := by
  obtain ⟨vo, vc, so, sc, l1, h1, l2, h2, rfl, a, b, _⟩ := h
  exact ⟨⟨vo, vc, so, sc, rfl, a.at (fun _ _ _ _ _ h => h.at), b.at (fun _ _ _ _ _ h => h.at)⟩, hx⟩
end Go.Proofs.YthmpobimmbmddaaGreatDoor
