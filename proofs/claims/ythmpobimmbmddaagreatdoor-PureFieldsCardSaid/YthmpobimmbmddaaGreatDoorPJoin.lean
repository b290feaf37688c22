/-
  bits.Join of bit strings that are valid and not too long: the walk.
-/
import Derived.Test.YthmpobimmbmddaaGreatDoorPDone
namespace Go.Proofs.YthmpobimmbmddaaGreatDoor
open Go.RowKit
set_option linter.unusedVariables false
set_option linter.unusedSimpArgs false

/-- The cells of a bit string. -/
def BitsR (cs : List Value) (m : List Bool) : Prop := cs = [.string (bstr m), .int .i64 m.length]
theorem SlAt.bits {w : World} {ao : Option Addr} {k : Nat} {l : List (List Bool)} (h : SlAt w 2 BitsR ao l) (hk : k < l.length) :
    ∃ b off, ao = some ⟨b, off, none⟩ ∧ b < w.heap.size ∧ w.cell? ⟨b, off + k * 2, none⟩ = some (.string (bstr l[k])) ∧ w.cell? ⟨b, off + k * 2 + 1, none⟩ = some (.int .i64 l[k].length) := by
  obtain ⟨b, off, e, hb, hr⟩ := h.row hk
  obtain ⟨cs, _, hc, rfl⟩ := hr k hk
  exact ⟨b, off, e, hb, hc 0 (by decide), hc 1 (by decide)⟩
theorem bw_new {B : Nat} (w : World) (hB : B ≤ w.heap.size) : BwAt B w.heap.size [] (w.alloc (.cells #[.string ⟨#[]⟩, .int .i64 0, .slice none 0 0] 90)) :=
  ⟨hB, by simp; omega, .slice none 0 0, heap_alloc_new _ _, World.ownsRow_nil _ _ _ _, by simp [Value.ownBlock]⟩
theorem flat_take {ms : List (List Bool)} {k : Nat} (h : k < ms.length) : (ms.take (k + 1)).flatten = (ms.take k).flatten ++ ms[k] := by
  rw [List.take_add_one, List.getElem?_eq_getElem h, List.flatten_append]; simp
theorem flat_le {ms : List (List Bool)} (k : Nat) : (ms.take k).flatten.length ≤ ms.flatten.length := by
  have h : ms = ms.take k ++ ms.drop k := (List.take_append_drop _ _).symm
  have e : ms.flatten.length = (ms.take k).flatten.length + (ms.drop k).flatten.length := by
    conv => lhs; rw [h]
    rw [List.flatten_append, List.length_append]
  omega
set_option maxRecDepth 100000 in
set_option maxHeartbeats 8000000 in
theorem bjoin_any (ms : List (List Bool)) (so : Option Addr) (c : Nat) (w : World) (hs : SlAt w 2 BitsR so ms) (hn : ms.length ≤ maxLen) (hl : ms.flatten.length ≤ 16384) :
    Calls Tryz.prog 30 #[.slice so ms.length c] w fun e w' => e = .returned (.tuple #[.agg #[.string (bstr ms.flatten), .int .i64 ms.flatten.length], .int .i64 0]) ∧ Below w.heap.size w w' := by
  have hB0 : Below w.heap.size w (w.alloc (.cells #[.string ⟨#[]⟩, .int .i64 0] 56)) := (Below.refl _ _).alloc (Nat.le_refl _) _
  have HR := Lib.hid (heap_alloc_new w (.cells #[.string ⟨#[]⟩, .int .i64 0] 56))
  have HB := Lib.hid hB0; have HS := Lib.hid (hs.mono hB0 (fun _ _ h => h))
  have HL := Lib.hid hl; have HS0 := Lib.hid hs
  have HM : Hid (∀ k (h : k < ms.length), ms[k].length + (ms.take k).flatten.length ≤ 16384) := Lib.hid (fun k h => by
    have h1 := flat_take h
    have h2 := flat_le (ms := ms) (k + 1)
    rw [h1, List.length_append] at h2; omega)
  unfold maxLen at hn
  clear hs hl hB0
  go_enter Tryz.func30, Tryz.ntmps30
  go_wp2_with fail
  generalize w.alloc (.cells #[.string ⟨#[]⟩, .int .i64 0] 56) = W at *
  go_loopw [11] (fun kv wr => ∃ k : Nat, k ≤ ms.length ∧ kv = .int .i64 k ∧ Hid (Below W.heap.size W wr)) (fun kv _ => ms.length - (intOf kv).toNat)
  case atStart => exact ⟨0, Nat.zero_le _, rfl, Lib.hid (Below.refl _ _)⟩
  case round =>
    obtain ⟨k, hk, rfl, HBr⟩ := hrel
    rename World => wr
    by_cases hlt : k < ms.length
    · obtain ⟨b, off, hao, hb, q0, q1⟩ := (HS.out.mono HBr.out (fun _ _ h => h)).bits hlt
      subst hao
      have hv : Calls Tryz.prog 54 #[.agg #[.string (bstr ms[k]), .int .i64 ms[k].length]] (wr.alloc (.cells #[.string (bstr ms[k]), .int .i64 ms[k].length] 56)) fun e w' => e = .returned (.bool true) ∧ Below wr.heap.size wr w' :=
        (bvalid_any ms[k] (by have := HM.out k hlt; omega) _).mono fun e w' h => ⟨h.1, ((Below.refl _ _).alloc (Nat.le_refl _) _).trans (h.2.mono (by simp))⟩
      generalize bstr ms[k] = y at *
      generalize ms[k].length = n at *
      go_wp2_with (first | (go_at_call 54; refine hv.mono ?_; rintro e w5 ⟨rfl, hb5⟩) | fail)
      go_roundw
      case rel => exact ⟨k + 1, by omega, by go_num, Lib.hid (below_next HBr.out hb5)⟩
      case measure => simp [intOf]; omega
    · obtain rfl : k = ms.length := by omega
      go_wp2_with fail
      have hBw : w.heap.size ≤ wr.heap.size := Nat.le_trans HB.out.size HBr.out.size
      have HBW := Lib.hid (bw_new (B := w.heap.size + 1) wr (by have := lt_of_row HR.out; have := HBr.out.size; omega))
      have hba : Below wr.heap.size wr (wr.alloc (.cells #[.string ⟨#[]⟩, .int .i64 0, .slice none 0 0] 90)) := (Below.refl _ _).alloc (Nat.le_refl _) _
      have HBA : Hid (Below w.heap.size w (wr.alloc (.cells #[.string ⟨#[]⟩, .int .i64 0, .slice none 0 0] 90))) := Lib.hid (HB.out.trans ((below_next HBr.out hba).mono HB.out.size))
      have HRA : Hid ((wr.alloc (.cells #[.string ⟨#[]⟩, .int .i64 0, .slice none 0 0] 90)).heap[w.heap.size]? = some (.cells #[.string ⟨#[]⟩, .int .i64 0] 56 (0, 0))) := Lib.hid (((below_next HBr.out hba).block _ (lt_of_row HR.out)).trans HR.out)
      have hrw : w.heap.size ≠ wr.heap.size := by have := lt_of_row HR.out; have := HBr.out.size; omega
      clear hba HBr HS HR HB hBw
      generalize hWA : wr.alloc (.cells #[.string ⟨#[]⟩, .int .i64 0, .slice none 0 0] 90) = WA at *
      obtain ⟨r, hr⟩ : ∃ r, r = wr.heap.size := ⟨_, rfl⟩
      rw [← hr] at hrw HBW ⊢
      clear hr hWA
      go_loopw [22] (fun kv wl => ∃ k : Nat, k ≤ ms.length ∧ kv = .int .i64 k ∧ Hid (BwAt (w.heap.size + 1) r (ms.take k).flatten wl) ∧ Hid (Below (w.heap.size + 1) WA wl)) (fun kv _ => ms.length - (intOf kv).toNat)
      case atStart => exact ⟨0, Nat.zero_le _, rfl, HBW, Lib.hid (Below.refl _ _)⟩
      case round =>
        obtain ⟨k, hk, rfl, HBl, HBlw⟩ := hrel
        rename World => wl
        have HBL : Hid (Below w.heap.size w wl) := Lib.hid (HBA.out.trans (HBlw.out.mono (Nat.le_succ _)))
        by_cases hlt : k < ms.length
        · obtain ⟨b, off, hao, hb, q0, q1⟩ := (HS0.out.mono HBL.out (fun _ _ h => h)).bits hlt
          subst hao
          have HF := Lib.hid (flat_take hlt)
          have hmk := HM.out k hlt
          have hba : Below wl.heap.size wl (wl.alloc (.cells #[.string (bstr ms[k]), .int .i64 ms[k].length] 56)) := (Below.refl _ _).alloc (Nat.le_refl _) _
          have hbw2 := HBl.out.below hba
          have hsb : sub (bitsL (bstr ms[k]).data.toList) 0 ms[k].length = ms[k] := by
            have : (bstr ms[k]).data.toList = packB ms[k] := by show (packB ms[k]).toArray.toList = _; rw [List.toList_toArray]
            rw [this]; exact bitsL_pack _
          have hszb := bstr_size ms[k]
          have hadd := badd_any (w.heap.size + 1) r (ms.take k).flatten (bstr ms[k]) 0 ms[k].length _ hbw2 (by omega) (by omega) (by omega)
          rw [hsb, ← HF.out] at hadd
          have HADD := Lib.hid hadd; have HBA2 := Lib.hid hba
          obtain ⟨_, _, bv, hrow, _, _⟩ := hbw2
          have c1 := cell_of_row _ _ 1 _ _ _ hrow
          clear hadd hba hrow hsb hszb
          generalize bstr ms[k] = y at *
          generalize ms[k].length = n at *
          generalize (ms.take k).flatten.length = fl at *
          go_wp2_with (first | (go_at_call 55; refine HADD.out.mono ?_; rintro e w5 ⟨rfl, hbw5, hb5⟩) | fail)
          go_roundw
          case rel => exact ⟨k + 1, by omega, by go_num, Lib.hid hbw5, Lib.hid (HBlw.out.trans (((HBA2.out.mono (by have := HBl.out.2.1; omega))).trans hb5))⟩
          case measure => simp [intOf]; omega
        · obtain rfl : k = ms.length := by omega
          rw [List.take_length] at HBl
          have hrow := (HBlw.out.block w.heap.size (Nat.lt_succ_self _)).trans HRA.out
          have hdn := done_any (w.heap.size + 1) r ms.flatten wl HBl.out
          have HD := Lib.hid hdn; have HRW := Lib.hid hrow
          clear hdn hrow
          obtain ⟨F, hF⟩ : ∃ F, F = ms.flatten := ⟨_, rfl⟩
          rw [← hF] at HD
          have HF := Lib.hid hF
          clear hF
          go_wp2_with (first | (go_at_call 56; refine HD.out.mono ?_; rintro e w5 ⟨rfl, hb5⟩; have hr5 := (hb5.block _ (Nat.lt_succ_self _)).trans HRW.out) | (refine wpList_store_row rfl 56 _ _ rfl w.heap.size _ rfl rfl 56 _ hr5 (by kernel_rfl) rfl (by simp [Value.oneCell']) ?_) | fail)
          refine bodyPost_ret (results_row_tmp rfl _ _ _ w.heap.size _ _ _ _ rfl (setRow_heap _ _ _ _ _ _ hr5) Tryz.underlying56 (by kernel_rfl)) rfl ?_
          have hF := HF.out
          subst hF
          exact ⟨rfl, below_setRow (HBL.out.trans (hb5.mono (Nat.le_succ _))) (Nat.le_refl _) _⟩
end Go.Proofs.YthmpobimmbmddaaGreatDoor
