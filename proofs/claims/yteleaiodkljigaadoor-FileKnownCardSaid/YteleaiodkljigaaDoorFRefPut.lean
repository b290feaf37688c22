/-
  The reference: body, Put.
-/
import Derived.Test.YteleaiodkljigaaDoorFRef
import Derived.Deep.RegionHeld3
namespace Go.Proofs.YteleaiodkljigaaDoor
open Go.RowKit Go.Shelf Go.Lib
set_option linter.unusedVariables false

theorem bsz (l : List UInt8) : (⟨l.toArray⟩ : ByteArray).size = l.length := by show l.toArray.size = _; simp
theorem runB_mod {l : List Ch} (h4 : ∀ j, j < l.length → l[j]!.1.size = 4) (z : Nat) : ∀ k, k ≤ l.length → (runB z (l.take k)).length % 4 = 0
  | 0, _ => by simp [runB, be4]
  | k + 1, hk => by
    have ih := runB_mod h4 z k (by omega)
    have e0 := h4 k (by omega)
    have e1 : l[k]!.1.data.toList.length = l[k]!.1.size := size_list _
    have e2 : l[k]!.2.data.toList.length = l[k]!.2.size := size_list _
    have e3 : (be4 l[k]!.2.size).length = 4 := rfl
    have hp := pad4_le l[k]!.2.size
    have hp2 : pad4 l[k]!.2.size % 4 = 0 := by unfold pad4; omega
    rw [runB_take z (by omega)]
    simp only [chB, List.length_append, List.length_replicate]
    omega
theorem dst_bytes {l : List Ch} (h : dst l = true) : ∀ x, x ∈ l → x.1.size = 4 := by
  intro x hx
  obtain ⟨i, hi, rfl⟩ := List.getElem_of_mem hx
  have hg := List.all_eq_true.1 h i (List.mem_range.2 hi)
  unfold good at hg
  rw [Bool.and_eq_true] at hg
  have hn := hg.1
  have e : l[i]! = l[i] := by simp [hi]
  rw [e] at hn
  unfold nm at hn
  simp only [Bool.and_eq_true, decide_eq_true_eq] at hn
  have := hn.1; rw [size_list] at this; exact this
theorem rep_snoc (l : List UInt8) (m : Nat) : l ++ List.replicate (m + 1) 0 = (l ++ List.replicate m 0) ++ [0] := by
  rw [List.replicate_succ']; simp

set_option maxRecDepth 100000 in
set_option maxHeartbeats 4000000 in
theorem rbody_s (ao : Option Addr) (c : Nat) (l : List Ch) (w : World) (h : ListS w ao l) (hs : Small l) (h4 : ∀ j, j < l.length → l[j]!.1.size = 4) :
    Calls Tryd.prog 27 #[.slice ao l.length c] w fun e w' => e = .returned (.string ⟨(bodyB l).toArray⟩) ∧ Below w.heap.size w w' := by
  have HR := Lib.hid h; have HS := Lib.hid hs; have H4 := Lib.hid h4
  have hlen := hs.1
  have hsz := fun wx hx => rsize_s ao c l wx hx hs
  have hzl := szL_le hs l.length (Nat.le_refl _)
  rw [List.take_of_length_le (Nat.le_refl _)] at hzl
  have HB : Hid (bodyB l = runB (szL l) (l.take l.length) ++ ([67, 83, 85, 77] ++ be4 4)) := Lib.hid (by rw [List.take_of_length_le (Nat.le_refl _)]; rfl)
  clear h hs h4
  generalize szL l = z at *
  have hfo : ∀ wx, Calls Tryd.prog 28 #[.int .i64 ((z : Int) - 8)] wx fun e w' => e = .returned (.string ⟨(be4 (z - 8)).toArray⟩) ∧ Below wx.heap.size wx w' := fun wx => by
    have := four_any ((z : Int) - 8) wx (by omega) (by omega)
    rw [show ((z : Int) - 8).toNat = z - 8 by omega] at this
    exact this
  go_enter Tryd.func27, Tryd.ntmps27
  go_wp2_with fail
  refine (hsz _ HR.out).mono ?_
  rintro e w1 ⟨rfl, rfl⟩
  go_wp2_with fail
  refine (hfo _).mono ?_
  rintro e w1 ⟨rfl, hb1⟩
  have hadd0 := fun wx => run_string_add_sum (P := Tryd.prog) wx ⟨#[83, 72, 78, 68]⟩ (ByteArray.mk (be4 (z - 8)).toArray) (by rw [be4_size]; decide)
  clear hsz hfo
  go_wp2_with fail
  go_loopw [3, 4] (fun s i wr => ∃ k : Nat, k ≤ l.length ∧ i = .int .i64 k ∧ s = .string ⟨(runB z (l.take k)).toArray⟩ ∧ Below w.heap.size w wr) (fun _ i _ => l.length - (intOf i).toNat)
  case atStart => exact ⟨0, Nat.zero_le _, rfl, congrArg Value.string (cat_bytes _ _), hb1⟩
  case round =>
    obtain ⟨k, hk, rfl, rfl, hB⟩ := hrel
    rename World => wr
    have hrl := runB_len HS.out z k hk
    by_cases hlt : k < l.length
    · obtain ⟨b, off, hao, hr0⟩ := HR.out.row hlt
      subst hao
      have hrr := hr0.below hB hr0.1
      have hc0 := (hrr.2 k hlt).1
      have hc1 := (hrr.2 k hlt).2
      have hbl := hrr.1
      have hdz := (HS.out.2 k hlt).1
      have hnz := H4.out k hlt
      have HRT := Lib.hid (runB_take z hlt)
      have hmod := runB_mod H4.out z k hk
      clear hrr hr0
      generalize hn : l[k]!.1 = n at *
      generalize hdd : l[k]!.2 = d at *
      have HN := Lib.hid hn; have HD := Lib.hid hdd; clear hn hdd
      generalize hX : runB z (l.take k) = X at *
      have HX := Lib.hid hX; clear hX
      go_upto_region 5 with fail
      have hxs := bsz X
      have hbe : (be4 d.size).length = 4 := rfl
      have ha1 := fun wx => run_string_add_sum (P := Tryd.prog) wx ⟨X.toArray⟩ n (by rw [hxs]; omega)
      have z1 : ((⟨X.toArray⟩ : ByteArray) ++ n).size = X.length + n.size := by rw [ByteArray.size_append, hxs]
      have ha2 := fun wx => run_string_add_sum (P := Tryd.prog) wx (⟨X.toArray⟩ ++ n) (ByteArray.mk (be4 d.size).toArray) (by rw [z1, be4_size]; omega)
      have z2 : ((⟨X.toArray⟩ : ByteArray) ++ n ++ ByteArray.mk (be4 d.size).toArray).size = X.length + n.size + 4 := by rw [ByteArray.size_append, z1, be4_size]
      have ha3 := fun wx => run_string_add_sum (P := Tryd.prog) wx (⟨X.toArray⟩ ++ n ++ ByteArray.mk (be4 d.size).toArray) d (by rw [z2]; omega)
      have hval : Hid ((⟨X.toArray⟩ ++ n ++ ByteArray.mk (be4 d.size).toArray ++ d : ByteArray) = ⟨(X ++ n.data.toList ++ be4 d.size ++ d.data.toList ++ List.replicate 0 0).toArray⟩) := Lib.hid (by
        apply ByteArray.ext; simp [ByteArray.data_append])
      clear hxs z1 z2
      go_region_held3 (fun w' => w'.cell? ⟨b, off + k * 2, none⟩ = some (.string n) ∧ w'.cell? ⟨b, off + k * 2 + 1, none⟩ = some (.string d)) (exact ⟨by assumption, by assumption⟩)
        (first
          | (go_at_call 28; refine (four_any _ _ ?_ ?_).mono ?_; omega; omega; rintro e w5 ⟨rfl, hb5⟩; have q0 := (hb5.cell (p := ⟨b, off + k * 2, none⟩) hbl).trans hc0; have q1 := (hb5.cell (p := ⟨b, off + k * 2 + 1, none⟩) hbl).trans hc1; have qB : Below w.heap.size w w5 := hB.drew.trans (hb5.mono hB.size)))
      have e1 : n.data.toList.length = n.size := size_list _
      have e2 : d.data.toList.length = d.size := size_list _
      have hYl : (X ++ n.data.toList ++ be4 d.size ++ d.data.toList).length = X.length + 8 + d.size := by
        simp only [List.length_append]; omega
      have HY : Hid (X ++ n.data.toList ++ be4 d.size ++ d.data.toList ++ List.replicate (pad4 d.size - d.size) 0 = X ++ chB (n, d)) := Lib.hid (by simp [chB])
      generalize X ++ n.data.toList ++ be4 d.size ++ d.data.toList = Y at *
      have hp := pad4_le d.size
      have hp4 : pad4 d.size % 4 = 0 := by unfold pad4; omega
      generalize hM : pad4 d.size - d.size = M at *
      have hM2 : (Y.length + M) % 4 = 0 := by omega
      have hM3 : M ≤ 3 := by omega
      have HM := Lib.hid hM
      clear hM ha1 ha2 ha3 hp hp4 hc0 hc1
      have hv2 := hval.out
      clear hval
      go_wp2_with fail
      obtain ⟨wo, hwo⟩ : ∃ wo : World, wo = w5 := ⟨_, rfl⟩
      subst hwo
      go_loop [3] (fun s => ∃ m : Nat, m ≤ M ∧ s = .string ⟨(Y ++ List.replicate m 0).toArray⟩) (fun s => Y.length + M + 1 - (match s with | .string s => s.size | _ => 0))
      case atStart => exact ⟨0, Nat.zero_le _, congrArg Value.string hv2⟩
      case round =>
        obtain ⟨m, hm, rfl⟩ := hrel
        have hTl := bsz (Y ++ List.replicate m 0)
        have HT2 : Hid ((⟨(Y ++ List.replicate m 0).toArray⟩ ++ ⟨#[0]⟩ : ByteArray) = ⟨(Y ++ List.replicate (m + 1) 0).toArray⟩) := Lib.hid (by rw [rep_snoc]; exact cat_bytes _ [0])
        rw [List.length_append, List.length_replicate] at hTl
        have hT0 : (⟨(Y ++ List.replicate m 0).toArray⟩ : ByteArray).size + (⟨#[0]⟩ : ByteArray).size ≤ 9223372036854775807 := by rw [hTl]; show _ + 1 ≤ _; omega
        have HV : Hid ((⟨(Y ++ List.replicate m 0).toArray⟩ : ByteArray) = ⟨(Y ++ List.replicate m 0).toArray⟩) := Lib.hid rfl
        have HTl := Lib.hid hTl
        by_cases hmM : m < M
        · have hne : (((⟨(Y ++ List.replicate m 0).toArray⟩ : ByteArray).size : Int) % 4 != 0) = true := by rw [hTl, bne_iff_ne]; omega
          have hadd := fun wx => run_string_add_sum (P := Tryd.prog) wx ⟨(Y ++ List.replicate m 0).toArray⟩ ⟨#[0]⟩ hT0
          generalize (⟨(Y ++ List.replicate m 0).toArray⟩ : ByteArray) = T at *
          clear hTl hT0
          go_wp2_with fail
          go_round
          case rel => exact ⟨m + 1, by omega, congrArg Value.string HT2.out⟩
          case measure =>
            have : (T ++ (⟨#[0]⟩ : ByteArray)).size = T.size + 1 := by rw [ByteArray.size_append]; rfl
            simp only [this, HTl.out]; omega
        · have hmeq : m = M := by omega
          subst hmeq
          have hne : (((⟨(Y ++ List.replicate m 0).toArray⟩ : ByteArray).size : Int) % 4 != 0) = false := by rw [hTl, bne_eq_false_iff_eq]; omega
          have HZ2 : Hid (runB z (l.take (k + 1)) = Y ++ List.replicate m 0) := Lib.hid (by
            have : l[k]! = (n, d) := Prod.ext HN.out HD.out
            rw [HRT.out, this, HY.out])
          generalize hTT : (⟨(Y ++ List.replicate m 0).toArray⟩ : ByteArray) = T at *
          have HTT := Lib.hid hTT
          clear hTl hT0 hTT
          go_wp2_with fail
          go_roundw
          case rel => exact ⟨k + 1, by omega, by go_num, by rw [HZ2.out, HTT.out], qB⟩
          case measure => simp [intOf]; omega
    · have hkl : k = l.length := by omega
      subst hkl
      have HBB := HB.out
      generalize runB z (l.take l.length) = X at *
      have hxs := bsz X
      have ha1 := fun wx => run_string_add_sum (P := Tryd.prog) wx ⟨X.toArray⟩ ⟨#[67, 83, 85, 77]⟩ (by rw [hxs]; show _ + 4 ≤ _; omega)
      have z1 : ((⟨X.toArray⟩ : ByteArray) ++ ⟨#[67, 83, 85, 77]⟩).size = X.length + 4 := by rw [ByteArray.size_append, hxs]; rfl
      have ha2 := fun wx => run_string_add_sum (P := Tryd.prog) wx (⟨X.toArray⟩ ++ ⟨#[67, 83, 85, 77]⟩) (ByteArray.mk (be4 4).toArray) (by rw [z1, be4_size]; omega)
      have HF : Hid ((⟨X.toArray⟩ ++ ⟨#[67, 83, 85, 77]⟩ ++ ByteArray.mk (be4 4).toArray : ByteArray) = ⟨(bodyB l).toArray⟩) := Lib.hid (by
        rw [HBB]; apply ByteArray.ext; simp [ByteArray.data_append])
      clear HBB z1 hxs
      go_wp2_with fail
      refine (four_any 4 _ (by decide) (by decide)).mono ?_
      rintro e w5 ⟨rfl, hb5⟩
      go_wp2_with fail
      go_ret
      exact ⟨congrArg (fun x => Ending.returned (.string x)) HF.out, hB.trans (hb5.mono hB.size)⟩

set_option maxRecDepth 100000 in
set_option maxHeartbeats 4000000 in
theorem rput_s (ao : Option Addr) (c : Nat) (l : List Ch) (w : World) (h : ListS w ao l) (hs : Small l) :
    Calls Tryd.prog 16 #[.slice ao l.length c] w fun e w' => e = .returned (.tuple #[.string ⟨(putV l).toArray⟩, .int .i64 (putE l)]) ∧ Below w.heap.size w w' := by
  have HR := Lib.hid h
  have hlen := hs.1
  have hnm := fun wx hx => rnames_s ao c l wx hx (by omega) (fun j hj => (hs.2 j hj).2)
  have hsi := fun wx hx => rsize_s ao c l wx hx hs
  have hbo := fun wx hx h4 => rbody_s ao c l wx hx hs h4
  have hbz := runB_len hs (szL l) l.length (Nat.le_refl _)
  have hzl := szL_le hs l.length (Nat.le_refl _)
  rw [List.take_of_length_le (Nat.le_refl _)] at hbz hzl
  clear h hs
  cases hd : dst l with
  | false =>
    have E1 : Hid (putV l = []) := Lib.hid (by unfold putV; rw [hd]; rfl)
    have E2 : Hid (putE l = 2) := Lib.hid (by unfold putE; rw [hd]; rfl)
    rw [hd] at hnm
    go_enter Tryd.func16, Tryd.ntmps16
    go_wp2_with (go_at_call 25; refine (hnm _ HR.out).mono ?_; rintro e w1 ⟨rfl, hb1⟩)
    go_ret2
    exact ⟨ret2se E1.out.symm E2.out.symm, hb1⟩
  | true =>
    rw [hd] at hnm
    have h4 : ∀ j, j < l.length → l[j]!.1.size = 4 := fun j hj => by
      have : l[j]! ∈ l := by rw [getElem!_pos l j hj]; exact List.getElem_mem hj
      have := (dst_bytes hd _ this)
      exact this
    replace hbo := fun wx hx => hbo wx hx h4
    clear h4
    by_cases hlong : 16 < l.length
    · have E1 : Hid (putV l = []) := Lib.hid (by unfold putV; rw [hd, if_pos (rfl), if_pos (Or.inl hlong)])
      have E2 : Hid (putE l = 3) := Lib.hid (by unfold putE; rw [hd, if_pos (rfl), if_pos (Or.inl hlong)])
      go_enter Tryd.func16, Tryd.ntmps16
      go_wp2_with (go_at_call 25; refine (hnm _ HR.out).mono ?_; rintro e w1 ⟨rfl, hb1⟩)
      go_ret2
      exact ⟨ret2se E1.out.symm E2.out.symm, hb1⟩
    · have hzb : ¬ 16777216 < szL l := by omega
      have E1 : Hid (putV l = fileB l) := Lib.hid (by unfold putV; rw [hd, if_pos (rfl), if_neg (by omega)])
      have E2 : Hid (putE l = 0) := Lib.hid (by unfold putE; rw [hd, if_pos (rfl), if_neg (by omega)])
      have hbl : (bodyB l).length ≤ 3000100 := by unfold bodyB; simp only [List.length_append]; simp [be4]; omega
      have hcl := crc_lt (bodyB l)
      have hfl : Hid (fileB l = bodyB l ++ be4 (crc (bodyB l))) := Lib.hid rfl
      clear hbz
      generalize szL l = z at *
      generalize bodyB l = B at *
      have hBs := bsz B
      have hsu2 : ∀ wx, Calls Tryd.prog 12 #[.string ⟨B.toArray⟩] wx fun e w' => e = .returned (.int .u32 (crc B : Int)) ∧ wx = w' := fun wx => rsum_any ⟨B.toArray⟩ wx (by rw [hBs]; unfold maxLen; omega)
      have hfo := fun wx => four_any ((crc B : Nat) : Int) wx (by omega) (by omega)
      rw [Int.toNat_natCast] at hfo
      have hadd : ∀ wx, Sem.run Tryd.prog (Op.stringOp BinOp.add ⟨B.toArray⟩ ⟨(be4 (crc B)).toArray⟩) wx = .ok (.string (⟨B.toArray⟩ ++ ⟨(be4 (crc B)).toArray⟩)) wx := fun wx => run_string_add_sum wx _ _ (by rw [be4_size, hBs]; omega)
      have HVL : Hid ((⟨B.toArray⟩ ++ ⟨(be4 (crc B)).toArray⟩ : ByteArray) = ⟨(B ++ be4 (crc B)).toArray⟩) := Lib.hid (cat_bytes _ _)
      generalize hcr : crc B = cs at *
      clear hcr hBs
      have hwc : IntKind.i64.wrap (cs : Int) = cs := by rw [IntKind.wrap_i64]; omega
      go_enter Tryd.func16, Tryd.ntmps16
      go_wp2_with fail
      refine (hnm _ HR.out).mono ?_
      rintro e w1 ⟨rfl, hb1⟩
      go_wp2_with fail
      refine (hsi _ (HR.out.below hb1)).mono ?_
      rintro e w2 ⟨rfl, rfl⟩
      go_wp2_with fail
      refine (hbo _ (HR.out.below hb1)).mono ?_
      rintro e w3 ⟨rfl, hb3⟩
      go_wp2_with fail
      refine (hsu2 _).mono ?_
      rintro e w4 ⟨rfl, rfl⟩
      go_wp2_with fail
      refine (hfo _).mono ?_
      rintro e w5 ⟨rfl, hb5⟩
      go_wp2_with fail
      go_ret2
      have x1 := hb1.trans (hb3.mono hb1.size)
      exact ⟨ret2s (by rw [E1.out, hfl.out]; exact HVL.out) E2.out.symm, x1.trans (hb5.mono x1.size)⟩

end Go.Proofs.YteleaiodkljigaaDoor
