/-
  The reference's OfDigits: the walk. The reference's Turned: the walk. The reference's size of a segment: the walk. The reference's Shr by one: half, rounded down: the walk. The reference's field of an integer: the walk. The reference's field of a text; of a value that is not valid; of a kind that does not fit: the walks. What a segment gives, plainly; valid integers and bit strings are of one form. No program in sight (but the names).
-/
import Derived.Test.YthmpobimmbmddaaGreatDoorB05
import Derived.Test.YthmpobimmbmddaaGreatDoorB06
import Derived.Test.YthmpobimmbmddaaGreatDoorB16
import Derived.Test.YthmpobimmbmddaaGreatDoorB17
namespace Go.Proofs.YthmpobimmbmddaaGreatDoor
open Go.RowKit
set_option linter.unusedVariables false
set_option linter.unusedSimpArgs false

theorem pkN_snoc : ∀ (j : Nat) (l : List Bool), pkN (j + 1) l = pkN j l * 2 + (if (l[j]?).getD false = true then 1 else 0)
  | 0, [] => by simp [pkN]
  | 0, b :: l => by simp [pkN]
  | j + 1, [] => by simp [pkN]
  | j + 1, b :: l => by
    have ih := pkN_snoc j l
    show (if b then 2 ^ (j + 1) else 0) + pkN (j + 1) l = ((if b then 2 ^ j else 0) + pkN j l) * 2 + (if (((b :: l)[j + 1]?).getD false) = true then 1 else 0)
    rw [ih, List.getElem?_cons_succ, Nat.pow_succ]
    split <;> omega
/-- The string of some digits. -/
abbrev dstr (m : List Bool) : ByteArray := ⟨(digL m).toArray⟩
theorem dstr_size (m : List Bool) : (dstr m).size = m.length := by
  show (digL m).toArray.size = _; simp [digL]
theorem dstr_at (m : List Bool) (k : Nat) (h : k < (dstr m).size) : ((((dstr m)[k]).toNat : Int) == 49) = (m[k]?).getD false := by
  have hk : k < m.length := by rw [dstr_size] at h; exact h
  have e : (dstr m)[k] = bdig m[k] := by
    show (digL m).toArray[k]'_ = _
    simp [digL]
  rw [e, List.getElem?_eq_getElem hk]
  show (((bdig m[k]).toNat : Int) == 49) = m[k]
  cases m[k] <;> rfl
set_option maxRecDepth 100000 in
set_option maxHeartbeats 8000000 in
theorem rofd_any (m : List Bool) (w : World) (hm : m.length ≤ 1000000) :
    Calls Tryz.prog 36 #[.string (dstr m)] w fun e w' => e = .returned (bitsV' m) ∧ Below w.heap.size w w' := by
  obtain ⟨i0, hi, hz0, hz1, hz2⟩ := info_parts infoByte
  have hsz := dstr_size m
  have HAT := Lib.hid (dstr_at m)
  have HPK := Lib.hid (fun q (h : 8 * q < m.length) => show (packB m).take (q + 1) = (packB m).take q ++ [UInt8.ofNat (pk (m.drop (8 * q)))] by
    rw [List.take_add_one, packB_get q m h]; rfl)
  have HPL := Lib.hid (packB_length m)
  have HSN := Lib.hid (fun i j => show pkN (j + 1) (m.drop i) = pkN j (m.drop i) * 2 + (if (m[i + j]?).getD false = true then 1 else 0) by rw [pkN_snoc, List.getElem?_drop])
  have HLT := Lib.hid (fun i j => pkN_lt j (m.drop i))
  have HPD := Lib.hid (fun i => show pk (m.drop i) = pkN 8 (m.drop i) from rfl)
  have HB0 := Lib.hid ((Below.refl w.heap.size w).alloc (Nat.le_refl _) (.cells zRow9 28))
  have HR0 := Lib.hid (heap_alloc_new w (.cells zRow9 28))
  unfold bitsV'
  generalize hL : m.length = L at *
  generalize hS : dstr m = S at *
  go_enter Tryz.func36, Tryz.ntmps36
  generalize hW : w.alloc (.cells zRow9 28) = W at *
  have HWs : Hid (w.heap.size < W.heap.size) := Lib.hid (lt_of_row HR0.out)
  go_wp2_with fail
  go_loopw [3, 4] (fun ov iv wr => ∃ (q : Nat) (ao : Option Addr) (c : Nat), q ≤ (L + 7) / 8 ∧ iv = .int .i64 (8 * (q : Int)) ∧ ov = .slice ao q c ∧ Hid (wr.ownsRow W.heap.size 5 1 (.slice ao q c) q (byteC ((packB m).take q))) ∧ Hid (Below W.heap.size W wr)) (fun _ iv _ => L + 8 - (intOf iv).toNat)
  case atStart => exact ⟨0, none, 0, by omega, rfl, rfl, Lib.hid ⟨rfl, .inl ⟨rfl, rfl⟩⟩, Lib.hid (Below.refl _ _)⟩
  case round =>
    obtain ⟨q, ao, c, hq, rfl, rfl, HO, HB⟩ := hrel
    rename World => wr
    by_cases hlt : 8 * q < L
    · have t1 : decide (8 * (q : Int) < (L : Int)) = true := decide_eq_true (by omega)
      go_wp2_with fail
      go_loopw [5, 6] (fun nv kv wx => ∃ j k : Nat, j ≤ 8 ∧ k = 8 * q + j ∧ nv = .int .i64 (pkN j (m.drop (8 * q))) ∧ kv = .int .i64 k ∧ wx = wr) (fun _ kv _ => 8 * q + 8 - (intOf kv).toNat)
      case atStart => exact ⟨0, 8 * q, by omega, rfl, rfl, by simp, rfl⟩
      case round =>
        obtain ⟨j, k, hj, hk, rfl, rfl, rfl⟩ := hrel
        by_cases hj8 : j < 8
        · have t2 : decide ((k : Int) < 8 * (q : Int) + 8) = true := decide_eq_true (by omega)
          have hP := HLT.out (8 * q) j
          have hP2 : pkN j (m.drop (8 * q)) < 256 := Nat.lt_of_lt_of_le hP (by have := Nat.pow_le_pow_right (show 0 < 2 by decide) (show j ≤ 8 by omega); omega)
          have HN := HSN.out (8 * q) j
          rw [← hk] at HN
          have HK := Lib.hid hk
          have hkb : k ≤ 2000000 := by omega
          generalize pkN j (m.drop (8 * q)) = P at *
          generalize hN1 : pkN (j + 1) (m.drop (8 * q)) = P1 at *
          clear hP hk
          by_cases hkL : k < S.size
          · have t3 : decide ((k : Int) < (L : Int)) = true := decide_eq_true (by omega)
            have ha := HAT.out k hkL
            cases hb : (m[k]?).getD false
            · rw [hb, if_neg (by decide)] at HN
              rw [hb] at ha
              clear hb
              go_wp2_with fail
              exact ⟨⟨j + 1, k + 1, by omega, by have := HK.out; omega, by rw [hN1]; exact congrArg (Value.int .i64) (by omega), by go_num, trivial⟩, by have := HK.out; simp [intOf]; omega⟩
            · rw [hb, if_pos rfl] at HN
              rw [hb] at ha
              clear hb
              go_wp2_with fail
              exact ⟨⟨j + 1, k + 1, by omega, by have := HK.out; omega, by rw [hN1]; exact congrArg (Value.int .i64) (by omega), by go_num, trivial⟩, by have := HK.out; simp [intOf]; omega⟩
          · have t3 : decide ((k : Int) < (L : Int)) = false := decide_eq_false (by omega)
            have hb : m[k]? = none := List.getElem?_eq_none (by omega)
            rw [hb] at HN
            have HN2 : P1 = P * 2 := HN
            clear hb HN
            go_wp2_with fail
            exact ⟨⟨j + 1, k + 1, by omega, by have := HK.out; omega, by rw [hN1]; exact congrArg (Value.int .i64) (by omega), by go_num, trivial⟩, by have := HK.out; simp [intOf]; omega⟩
        · have t2 : decide ((k : Int) < 8 * (q : Int) + 8) = false := decide_eq_false (by omega)
          obtain rfl : j = 8 := by omega
          have hP := HLT.out (8 * q) 8
          have HQ := HPK.out q (by omega)
          have hpd := HPD.out (8 * q)
          rw [hpd] at HQ
          generalize pkN 8 (m.drop (8 * q)) = P at *
          have hP2 : P < 256 := hP
          have HPQ := Lib.hid HQ
          have HO2 := HO.out
          have hMw : W.heap.size ≤ wr.heap.size := HB.out.size
          have HK := Lib.hid hk
          clear hP HQ hpd hk
          go_wp2_with (at_builtin; refine wpList_append_own_at _ rfl (.tmp 34) (.tmp 37) 50 rfl W.heap.size 5 i0 (.int .u8 0) 1 1 Tryz.underlying50 hi hz0 hz1 hz2 rfl (by decide) (.slice ao q c) q (byteC ((packB m).take q)) rfl (HO2.alloc _) ⟨wr.heap.size, 0, none⟩ 1 1 [.int .u8 (P : Int)] rfl rfl (cell_one_new _ _ _) (ints_oneCell .u8 [(P : Int)]) (by unfold maxLen; omega) (by omega) (by simp; omega) ?_)
          intro v' w1 hown' hgrow hnil hloc
          have hB1 : Hid (Below W.heap.size W w1) := Lib.hid ((HB.out.alloc hMw _).grown hgrow (by simp; omega) (fun k hk => (HO2.lt k hk).1))
          have hown2 : Hid (w1.ownsRow W.heap.size 5 1 v' (q + 1) (byteC ((packB m).take (q + 1)))) := Lib.hid (by
            have e : byteC ((packB m).take (q + 1)) = byteC ((packB m).take q) ++ [.int .u8 (P : Int)] := by
              rw [HPQ.out]
              have e2 : (UInt8.ofNat P).toNat = P := by rw [UInt8.toNat_ofNat', Nat.mod_eq_of_lt hP2]
              simp [byteC, e2]
            rw [e]; exact hown')
          obtain ⟨ao', cap', rfl⟩ := slice_of_owns hown2.out
          clear hown' hgrow hnil hloc HO2
          go_wp2_with fail
          exact ⟨⟨q + 1, ao', cap', by omega, by go_num, rfl, hown2, hB1⟩, by simp [intOf]; omega⟩
    · have t1 : decide (8 * (q : Int) < (L : Int)) = false := decide_eq_false (by omega)
      have hfull : (packB m).take q = packB m := List.take_of_length_le (by have := HPL.out; omega)
      have hq2 : q = (packB m).length := by have := HPL.out; omega
      have hcv := conv_own (l := packB m) (B := W.heap.size) (bv := .slice ao q c) (w := wr) (by rw [← hq2]; have h := HO.out; rw [hfull] at h; exact h)
      have hr := (HB.out.block _ (lt_of_row HR0.out)).trans HR0.out
      have HRR := Lib.hid hr
      clear hfull hq2 hr
      go_wp2_with (first | (refine wpList_store_row rfl 28 _ _ rfl w.heap.size _ rfl rfl 28 _ HRR.out (by kernel_rfl) rfl (by simp [Value.oneCell']) ?_) | fail)
      refine bodyPost_ret (results_cell_row rfl _ _ w.heap.size _ _ _ _ rfl (setRow_heap _ _ _ _ _ _ HRR.out) Tryz.underlying28 rfl (by kernel_rfl)) rfl ?_
      exact ⟨rfl, below_setRow (HB0.out.trans (HB.out.mono HB0.out.size)) (Nat.le_refl _) _⟩
end Go.Proofs.YthmpobimmbmddaaGreatDoor
namespace Go.Proofs.YthmpobimmbmddaaGreatDoor
open Go.RowKit
set_option linter.unusedVariables false
set_option linter.unusedSimpArgs false

theorem bitsL_app (a b : List UInt8) : bitsL (a ++ b) = bitsL a ++ bitsL b := by unfold bitsL; exact List.flatMap_append
theorem digL_app (a b : List Bool) : digL (a ++ b) = digL a ++ digL b := by unfold digL; exact List.map_append
theorem bitsL_sub (l : List UInt8) (q : Nat) (h : q < l.length) : ((bitsL l).drop (8 * q)).take 8 = byteB l[q] := by
  have e : l = l.take q ++ (l[q] :: l.drop (q + 1)) := by
    rw [← List.drop_eq_getElem_cons h, List.take_append_drop]
  have hlen : (bitsL (l.take q)).length = 8 * q := by rw [bitsL_len, List.length_take]; omega
  have e2 : bitsL l = bitsL (l.take q) ++ (byteB l[q] ++ bitsL (l.drop (q + 1))) := by
    conv => lhs; rw [e]
    rw [bitsL_app]; rfl
  rw [e2, List.drop_append_of_le_length (by omega), List.drop_of_length_le (by omega), List.nil_append]
  have h8 : (byteB l[q]).length = 8 := rfl
  rw [List.take_append_of_le_length (by omega), List.take_of_length_le (by omega)]
theorem turn_step (l : List UInt8) (q : Nat) (h : q < l.length) : (dstr (bitsL l)).extract (8 * q) (8 * q + 8) ++ dstr (bitsL (l.take q).reverse) = dstr (bitsL (l.take (q + 1)).reverse) := by
  apply ByteArray.ext
  rw [ByteArray.data_append, ByteArray.data_extract]
  show (digL (bitsL l)).toArray.extract (8 * q) (8 * q + 8) ++ (digL (bitsL (l.take q).reverse)).toArray = (digL (bitsL (l.take (q + 1)).reverse)).toArray
  have e1 : (l.take (q + 1)).reverse = l[q] :: (l.take q).reverse := by
    rw [List.take_succ_eq_append_getElem h, List.reverse_append]; rfl
  have e2 : bitsL (l[q] :: (l.take q).reverse) = byteB l[q] ++ bitsL (l.take q).reverse := rfl
  rw [e1, e2, digL_app, ← bitsL_sub l q h, List.extract_toArray]
  have e3 : digL (((bitsL l).drop (8 * q)).take 8) = ((digL (bitsL l)).drop (8 * q)).take 8 := by unfold digL; rw [List.map_take, List.map_drop]
  rw [e3, List.append_toArray]
  simp [List.extract]
set_option maxRecDepth 100000 in
set_option maxHeartbeats 8000000 in
theorem rturned_any (l : List UInt8) (w : World) (hl : l.length ≤ 100000) :
    Calls Tryz.prog 60 #[.string (dstr (bitsL l))] w fun e w' => e = .returned (.string (dstr (bitsL l.reverse))) ∧ w' = w := by
  have hsz : (dstr (bitsL l)).size = 8 * l.length := by rw [dstr_size, bitsL_len]
  have HT := Lib.hid (fun q h => turn_step l q h)
  have H0 : Hid (dstr (bitsL (l.take 0).reverse) = ⟨#[]⟩) := Lib.hid rfl
  have HOS := Lib.hid (fun q (h : q ≤ l.length) => show (dstr (bitsL (l.take q).reverse)).size = 8 * q by rw [dstr_size, bitsL_len, List.length_reverse, List.length_take]; omega)
  have HE : Hid (l.take l.length = l) := Lib.hid (List.take_length)
  generalize hn : l.length = n at *
  generalize hS : dstr (bitsL l) = S at *
  generalize hO : (fun q => dstr (bitsL (l.take q).reverse)) = O at *
  have hOq : ∀ q, dstr (bitsL (l.take q).reverse) = O q := fun q => by rw [← hO]
  have HEN : Hid (O n = dstr (bitsL l.reverse)) := Lib.hid (by rw [← hOq, HE.out])
  simp only [hOq] at HT H0 HOS
  clear hO hOq HE
  generalize dstr (bitsL l.reverse) = E at *
  go_enter Tryz.func60, Tryz.ntmps60
  go_wp2_with fail
  go_loopw [3, 4] (fun ov iv wr => ∃ q : Nat, q ≤ n ∧ iv = .int .i64 (8 * (q : Int)) ∧ ov = .string (O q) ∧ wr = w) (fun _ iv _ => 8 * n + 8 - (intOf iv).toNat)
  case atStart => exact ⟨0, by omega, rfl, by rw [H0.out], rfl⟩
  case round =>
    obtain ⟨q, hq, rfl, rfl, rfl⟩ := hrel
    by_cases hlt : q < n
    · have HQ := HT.out q hlt
      have hx : (8 * (q : Int)).toNat = 8 * q := by omega
      have hx2 : (8 * (q : Int) + 8).toNat = 8 * q + 8 := by omega
      have hos := HOS.out q hq
      have hfit : ¬ 9223372036854775807 < min (8 * q + 8) (8 * n) - 8 * q + (O q).size := by omega
      go_wp2_with fail
      exact ⟨⟨q + 1, by omega, by go_num, rfl, trivial⟩, by simp [intOf]; omega⟩
    · obtain rfl : q = n := by omega
      go_wp2_with fail
      go_ret
      exact ⟨by rw [HEN.out]; rfl, rfl⟩
end Go.Proofs.YthmpobimmbmddaaGreatDoor
namespace Go.Proofs.YthmpobimmbmddaaGreatDoor
open Go.RowKit
set_option linter.unusedVariables false
set_option linter.unusedSimpArgs false

/-- The size of a segment; -1: it is wrong. -/
def sizeV (f : Nat) (x : Fd) (o mo : Int) : Int := if x.sized = false then o else if x.size.kind = 1 ∧ validF (f + 1) x.size = true ∧ 0 ≤ x.size.int ∧ x.size.int ≤ mo then x.size.int else -1
set_option maxRecDepth 100000 in
set_option maxHeartbeats 8000000 in
theorem rsize_any (f : Nat) (x : Fd) (vo : Option Addr) (vc : Nat) (so : Option Addr) (sc : Nat) (o mo : Int) (w : World) (hs : SlAt w 9 (TmAt w f) so x.size.items) (hok : x.size.Ok) (hcap : (capF (f + 1) x.size : Int) ≤ 1152921504606846976) :
    Calls Tryz.prog 58 #[.agg (fdRow x vo vc so sc), .int .i64 o, .int .i64 mo] w fun e w' => e = .returned (.int .i64 (sizeV f x o mo)) ∧ Below w.heap.size w w' := by
  have HB := Lib.hid ((Below.refl w.heap.size w).alloc (Nat.le_refl _) (.cells (fdRow x vo vc so sc) 30))
  have hR0 := heap_alloc_new w (.cells (fdRow x vo vc so sc) 30)
  have HR0 := Lib.hid hR0
  have HV := Lib.hid (rvalid_term f x.size so sc _ (hs.tms HB.out) hok hcap)
  have EV := Lib.hid (show sizeV f x o mo = if x.sized = false then o else if x.size.kind = 1 ∧ validF (f + 1) x.size = true ∧ 0 ≤ x.size.int ∧ x.size.int ≤ mo then x.size.int else -1 from rfl)
  obtain ⟨_, hi64, _⟩ := hok
  obtain ⟨i1, i2⟩ := hi64
  generalize sizeV f x o mo = r at *
  generalize validF (f + 1) x.size = v at *
  clear hs hcap hR0
  go_enter Tryz.func58, Tryz.ntmps58
  generalize hW : w.alloc (.cells (fdRow x vo vc so sc) 30) = W at *
  have KC : Hid (∀ wx : World, Below W.heap.size W wx → ∀ j, wx.cell? ⟨w.heap.size, j, none⟩ = (fdRow x vo vc so sc)[j]?) := Lib.hid (fun wx hx j => by rw [cell_of_row _ _ _ _ _ _ ((hx.block _ (lt_of_row HR0.out)).trans HR0.out)])
  have k0 := KC.out W (Below.refl _ _)
  have c11 : W.cell? ⟨w.heap.size, 11, none⟩ = some (.int .i64 x.size.kind) := k0 11
  have c12 : W.cell? ⟨w.heap.size, 12, none⟩ = some (.int .i64 x.size.int) := k0 12
  have c13 : W.cell? ⟨w.heap.size, 13, none⟩ = some (.int .i64 x.size.gen) := k0 13
  have c14 : W.cell? ⟨w.heap.size, 14, none⟩ = some (.string x.size.name) := k0 14
  have c15 : W.cell? ⟨w.heap.size, 15, none⟩ = some (.string x.size.func) := k0 15
  have c16 : W.cell? ⟨w.heap.size, 16, none⟩ = some (.int .i64 x.size.arity) := k0 16
  have c17 : W.cell? ⟨w.heap.size, 17, none⟩ = some (.slice so x.size.items.length sc) := k0 17
  have c18 : W.cell? ⟨w.heap.size, 18, none⟩ = some (.string x.size.bytes) := k0 18
  have c19 : W.cell? ⟨w.heap.size, 19, none⟩ = some (.int .i64 x.size.bits) := k0 19
  have c20 : W.cell? ⟨w.heap.size, 20, none⟩ = some (.bool x.sized) := k0 20
  clear k0
  cases hsz : x.sized with
  | false =>
    rw [hsz] at c20
    have e : r = o := by rw [EV.out, if_pos hsz]
    clear EV KC HV
    go_wp2_with fail
    go_ret
    exact ⟨by rw [e]; rfl, HB.out⟩
  | true =>
    rw [hsz] at c20
    by_cases hk : x.size.kind = 1
    · rw [hk] at c11
      cases v with
      | false =>
        have e : r = -1 := by rw [EV.out, if_neg (by rw [hsz]; decide), if_neg (fun h => by simp at h)]
        clear EV
        go_wp2_with (first | (go_at_call 18; rw [hk] at HV; refine HV.out.mono ?_; rintro e w1 ⟨rfl, hb1⟩) | fail)
        go_ret
        exact ⟨by rw [e]; rfl, HB.out.trans (hb1.mono HB.out.size)⟩
      | true =>
        by_cases h0 : 0 ≤ x.size.int
        · have t0 : decide (x.size.int < 0) = false := decide_eq_false (by omega)
          by_cases h1 : x.size.int ≤ mo
          · have t1 : decide (mo < x.size.int) = false := decide_eq_false (by omega)
            have e : r = x.size.int := by rw [EV.out, if_neg (by rw [hsz]; decide), if_pos ⟨hk, rfl, h0, h1⟩]
            clear EV
            go_wp2_with (first | (go_at_call 18; rw [hk] at HV; refine HV.out.mono ?_; rintro e w1 ⟨rfl, hb1⟩; have d12 : w1.cell? ⟨w.heap.size, 12, none⟩ = some (.int .i64 x.size.int) := KC.out w1 hb1 12) | fail)
            go_ret
            exact ⟨by rw [e]; rfl, HB.out.trans (hb1.mono HB.out.size)⟩
          · have t1 : decide (mo < x.size.int) = true := decide_eq_true (by omega)
            have e : r = -1 := by rw [EV.out, if_neg (by rw [hsz]; decide), if_neg (fun h => h1 h.2.2.2)]
            clear EV
            go_wp2_with (first | (go_at_call 18; rw [hk] at HV; refine HV.out.mono ?_; rintro e w1 ⟨rfl, hb1⟩; have d12 : w1.cell? ⟨w.heap.size, 12, none⟩ = some (.int .i64 x.size.int) := KC.out w1 hb1 12) | fail)
            go_ret
            exact ⟨by rw [e]; rfl, HB.out.trans (hb1.mono HB.out.size)⟩
        · have t0 : decide (x.size.int < 0) = true := decide_eq_true (by omega)
          have e : r = -1 := by rw [EV.out, if_neg (by rw [hsz]; decide), if_neg (fun h => h0 h.2.2.1)]
          clear EV
          go_wp2_with (first | (go_at_call 18; rw [hk] at HV; refine HV.out.mono ?_; rintro e w1 ⟨rfl, hb1⟩; have d12 : w1.cell? ⟨w.heap.size, 12, none⟩ = some (.int .i64 x.size.int) := KC.out w1 hb1 12) | fail)
          go_ret
          exact ⟨by rw [e]; rfl, HB.out.trans (hb1.mono HB.out.size)⟩
    · have t : (x.size.kind != 1) = true := by rw [bne_iff_ne]; exact hk
      have e : r = -1 := by rw [EV.out, if_neg (by rw [hsz]; decide), if_neg (fun h => hk h.1)]
      clear EV KC HV
      go_wp2_with fail
      go_ret
      exact ⟨by rw [e]; rfl, HB.out⟩
end Go.Proofs.YthmpobimmbmddaaGreatDoor
namespace Go.Proofs.YthmpobimmbmddaaGreatDoor
open Go.RowKit
set_option linter.unusedVariables false
set_option linter.unusedSimpArgs false

theorem half_pos' {a : Int} (h : 0 ≤ a) : a.tdiv 2 = a / 2 := Int.tdiv_eq_ediv_of_nonneg h
theorem half_even' {a : Int} (h : a.tmod 2 = 0) : a.tdiv 2 = a / 2 := by
  have h1 := Int.mul_tdiv_add_tmod a 2
  omega
theorem half_odd' {a : Int} (h0 : a < 0) (h : ¬ a.tmod 2 = 0) : a.tdiv 2 - 1 = a / 2 := by
  have h1 := Int.mul_tdiv_add_tmod a 2
  have h2 : (-a).tmod 2 = (-a) % 2 := Int.tmod_eq_emod_of_nonneg (by omega)
  rw [Int.neg_tmod] at h2
  omega
set_option maxRecDepth 100000 in
set_option maxHeartbeats 4000000 in
theorem rdown1_any (a : Int) (w : World) (ha : I64 a) : Calls Tryz.prog 131 #[.int .i64 a, .int .i64 (-1)] w fun e w' => e = .returned (.int .i64 (a / 2)) ∧ w' = w := by
  obtain ⟨a1, a2⟩ := ha
  go_enter Tryz.func131, Tryz.ntmps131
  go_wp2
  go_loop [0, 1] (fun v i => ∃ k : Nat, k ≤ 1 ∧ i = .int .i64 (-1 + k) ∧ v = .int .i64 (if k = 0 then a else a / 2)) (fun _ i => (-(intOf i)).toNat)
  case atStart => exact ⟨0, by omega, by simp, rfl⟩
  case round =>
    obtain ⟨k, hk, rfl, rfl⟩ := hrel
    by_cases h0 : k = 0
    · subst h0
      rw [if_pos rfl]
      by_cases hz : a = 0
      · subst hz
        go_wp2
        go_ret
        exact ⟨rfl, rfl⟩
      · by_cases hm : a = -1
        · subst hm
          go_wp2
          go_ret
          exact ⟨rfl, rfl⟩
        · have nz : (a != 0) = true := by simp [hz]
          have nm : (a != -1) = true := by simp [hm]
          clear hz hm
          by_cases hp : 0 ≤ a
          · have HE := Lib.hid (half_pos' hp)
            go_wp2
            go_round
            case rel => exact ⟨1, by omega, by go_num, by rw [if_neg (by decide)]⟩
            case measure => simp [intOf]
          · by_cases ho : a.tmod 2 = 0
            · have HE := Lib.hid (half_even' ho)
              have ho' : (a.tmod 2 != 0) = false := by simp [ho]
              clear ho
              go_wp2
              go_round
              case rel => exact ⟨1, by omega, by go_num, by rw [if_neg (by decide), ← HE.out]⟩
              case measure => simp [intOf]
            · have e := half_odd' (by omega) ho
              have HE := Lib.hid e
              have ho' : (a.tmod 2 != 0) = true := by simp [ho]
              have b1 : -4611686018427387904 ≤ a.tdiv 2 := by omega
              have b2 : a.tdiv 2 ≤ 0 := by omega
              clear ho e
              go_wp2
              go_round
              case rel => exact ⟨1, by omega, by go_num, by rw [if_neg (by decide), ← HE.out]⟩
              case measure => simp [intOf]
    · obtain rfl : k = 1 := by omega
      rw [if_neg (by decide)]
      go_wp2
      go_ret
      exact ⟨rfl, rfl⟩
set_option maxRecDepth 100000 in
set_option maxHeartbeats 4000000 in
theorem rshr1_any (a : Int) (w : World) (ha : I64 a) : Calls Tryz.prog 59 #[.int .i64 a, .int .i64 1] w fun e w' => e = .returned (.tuple #[.int .i64 (a / 2), .int .i64 0]) ∧ w' = w := by
  go_enter Tryz.func59, Tryz.ntmps59
  go_wp2_with (go_at_call 131; refine (rdown1_any _ _ ha).mono ?_; rintro e w1 ⟨rfl, rfl⟩)
  go_ret2
  exact ⟨rfl, rfl⟩
end Go.Proofs.YthmpobimmbmddaaGreatDoor
namespace Go.Proofs.YthmpobimmbmddaaGreatDoor
open Go.RowKit
set_option linter.unusedVariables false
set_option linter.unusedSimpArgs false

theorem bitsN_cons (v : Int) (i : Nat) : bitsN v (i + 1) = (u64 v).testBit i :: bitsN v i := by
  unfold bitsN
  rw [List.range_succ_eq_map, List.map_cons, List.map_map]
  congr 1
  apply List.map_congr_left
  intro j hj
  have := List.mem_range.1 hj
  show (u64 v).testBit (i + 1 - 1 - (j + 1)) = (u64 v).testBit (i - 1 - j)
  congr 1; omega
theorem dstr_cons (b : Bool) (m : List Bool) : dstr (b :: m) = (⟨#[bdig b]⟩ : ByteArray) ++ dstr m := by
  apply ByteArray.ext
  rw [ByteArray.data_append]
  show (digL (b :: m)).toArray = #[bdig b] ++ (digL m).toArray
  have : digL (b :: m) = bdig b :: digL m := rfl
  rw [this]; simp
theorem bitsN_whole (v : Int) (k : Nat) (hk : k ≤ 64) (h8 : k % 8 = 0) : bitsN v k = bitsL (bytesN v k) := by
  have h1 := bytesN_pack v k hk
  have h2 := bitsL_pack (bitsN v k)
  have hl : (bitsN v k).length = k := bitsN_len v k
  rw [h1, hl] at h2
  have h3 : (bitsL (bytesN v k)).length = k := by rw [bitsL_len, bytesN_len]; omega
  rw [← h2]
  unfold sub
  rw [List.drop_zero, List.take_of_length_le (by omega)]
theorem half_step (v : Int) (i : Nat) : v / 2 ^ i / 2 = v / 2 ^ (i + 1) := by
  rw [Int.pow_succ, Int.ediv_ediv_of_nonneg (Int.le_of_lt (Int.pow_pos (by decide)))]
theorem half_i64 (v : Int) (i : Nat) (h : I64 v) : I64 (v / 2 ^ i) := by
  induction i with
  | zero => simpa using h
  | succ i ih =>
    rw [← half_step]
    unfold I64 at *
    omega
theorem odd_tmod (z : Int) : (z.tmod 2 != 0) = decide (z % 2 = 1) := by
  have h := Int.mul_tdiv_add_tmod z 2
  have hb : -2 < z.tmod 2 ∧ z.tmod 2 < 2 := by
    by_cases h0 : 0 ≤ z
    · have h1 := Int.tmod_nonneg (a := z) 2 h0
      have h2 := Int.tmod_lt_of_pos z (show (0 : Int) < 2 by decide)
      omega
    · have h1 := Int.tmod_nonneg (a := -z) 2 (by omega)
      have h2 := Int.tmod_lt_of_pos (-z) (show (0 : Int) < 2 by decide)
      rw [Int.neg_tmod] at h1 h2
      omega
  by_cases hz : z % 2 = 1
  · rw [decide_eq_true hz, bne_iff_ne]; omega
  · rw [decide_eq_false hz, bne_eq_false_iff_eq]; omega
set_option maxRecDepth 100000 in
set_option maxHeartbeats 16000000 in
theorem rfield_int (f : Nat) (x : Fd) (vo : Option Addr) (vc : Nat) (so : Option Addr) (sc : Nat) (k : Nat) (w : World) (ht : x.type = 1) (hvk : x.val.kind = 1) (hvv : validF (f + 1) x.val = true) (hk : sizeV f x 8 64 = (k : Int)) (hk64 : k ≤ 64) (hlt : x.little = true → k % 8 = 0)
    (hv : SlAt w 9 (TmAt w f) vo x.val.items) (hs : SlAt w 9 (TmAt w f) so x.size.items) (hok1 : x.val.Ok) (hok2 : x.size.Ok) (hc1 : (capF (f + 1) x.val : Int) ≤ 1152921504606846976) (hc2 : (capF (f + 1) x.size : Int) ≤ 1152921504606846976) :
    Calls Tryz.prog 33 #[.agg (fdRow x vo vc so sc)] w fun e w' => e = .returned (.tuple #[.string (dstr (intBits x.val.int k x.little)), .bool true]) ∧ Below w.heap.size w w' := by
  have HB := Lib.hid ((Below.refl w.heap.size w).alloc (Nat.le_refl _) (.cells (fdRow x vo vc so sc) 30))
  have HR0 := Lib.hid (heap_alloc_new w (.cells (fdRow x vo vc so sc) 30))
  have HV := Lib.hid (rvalid_term f x.val vo vc _ (hv.tms HB.out) hok1 hc1)
  rw [hvv] at HV
  have HSz := Lib.hid (fun wx (hx : Below w.heap.size w wx) => by have h := rsize_any f x vo vc so sc 8 64 wx (hs.tms hx) hok2 hc2; rw [hk] at h; exact h)
  obtain ⟨_, hi64, _⟩ := hok1
  have HI64 := Lib.hid hi64
  have HLT := Lib.hid hlt
  have HI23 : Hid ((Tryz.prog.info? 30).map (·.size) = some (fdRow x vo vc so sc).size) := Lib.hid (by kernel_rfl)
  have HSh := Lib.hid (fun (i : Nat) wx => rshr1_any (x.val.int / 2 ^ i) wx (half_i64 _ i hi64))
  clear hv hs hc1 hc2 hok2 hk hlt hi64 hvv
  obtain ⟨Z, hZ⟩ : ∃ Z, Z = dstr (intBits x.val.int k x.little) := ⟨_, rfl⟩
  rw [← hZ]
  have HZ := Lib.hid hZ
  clear hZ
  go_enter Tryz.func33, Tryz.ntmps33
  generalize hW : w.alloc (.cells (fdRow x vo vc so sc) 30) = W at *
  have KC : Hid (∀ wx : World, Below W.heap.size W wx → ∀ j, wx.cell? ⟨w.heap.size, j, none⟩ = (fdRow x vo vc so sc)[j]?) := Lib.hid (fun wx hx j => by rw [cell_of_row _ _ _ _ _ _ ((hx.block _ (lt_of_row HR0.out)).trans HR0.out)])
  have k0 := KC.out W (Below.refl _ _)
  have c0 : W.cell? ⟨w.heap.size, 0, none⟩ = some (.int .i64 1) := by rw [k0 0, ← ht]; rfl
  have c2 : W.cell? ⟨w.heap.size, 2, none⟩ = some (.int .i64 1) := by rw [k0 2, ← hvk]; rfl
  have c3 : W.cell? ⟨w.heap.size, 3, none⟩ = some (.int .i64 x.val.int) := k0 3
  have c4 : W.cell? ⟨w.heap.size, 4, none⟩ = some (.int .i64 x.val.gen) := k0 4
  have c5 : W.cell? ⟨w.heap.size, 5, none⟩ = some (.string x.val.name) := k0 5
  have c6 : W.cell? ⟨w.heap.size, 6, none⟩ = some (.string x.val.func) := k0 6
  have c7 : W.cell? ⟨w.heap.size, 7, none⟩ = some (.int .i64 x.val.arity) := k0 7
  have c8 : W.cell? ⟨w.heap.size, 8, none⟩ = some (.slice vo x.val.items.length vc) := k0 8
  have c9 : W.cell? ⟨w.heap.size, 9, none⟩ = some (.string x.val.bytes) := k0 9
  have c10 : W.cell? ⟨w.heap.size, 10, none⟩ = some (.int .i64 x.val.bits) := k0 10
  clear k0
  rw [hvk] at HV
  go_upto_region 6 with (first | (go_at_call 18; refine HV.out.mono ?_; rintro e w1 ⟨rfl, hb1⟩; have d0 : w1.cell? ⟨w.heap.size, 0, none⟩ = some (.int .i64 1) := (KC.out w1 hb1 0).trans ((KC.out W (Below.refl _ _) 0).symm.trans c0); have d2 : w1.cell? ⟨w.heap.size, 2, none⟩ = some (.int .i64 1) := (KC.out w1 hb1 2).trans ((KC.out W (Below.refl _ _) 2).symm.trans c2)) | fail)
  clear c0 c2 c3 c4 c5 c6 c7 c8 c9 c10 d0 d2
  have HR1 := Lib.hid ((hb1.block _ (lt_of_row HR0.out)).trans HR0.out)
  have HSz1 := Lib.hid (HSz.out w1 (HB.out.trans (hb1.mono HB.out.size)))
  go_upto_region 7 with (first | (refine wpList_load_row rfl 30 _ rfl w.heap.size rfl 30 (fdRow x vo vc so sc) _ _ HR1.out Tryz.underlying30 rfl HI23.out ?_) | (go_at_call 58; refine HSz1.out.mono ?_; rintro e w2 ⟨rfl, hb2⟩) | fail)
  have hb12 := below_next hb1 hb2
  have e3 : w2.cell? ⟨w.heap.size, 3, none⟩ = some (.int .i64 x.val.int) := KC.out w2 hb12 3
  have e22 : w2.cell? ⟨w.heap.size, 22, none⟩ = some (.bool x.little) := KC.out w2 hb12 22
  have HBE := Lib.hid (HB.out.trans (hb12.mono HB.out.size))
  have HST := Lib.hid (fun (i : Nat) (hi : i < 64) => show ((x.val.int / 2 ^ i).tmod 2 != 0) = (u64 x.val.int).testBit i by rw [odd_tmod, u64_bit _ _ hi])
  have HDS := Lib.hid (fun (i : Nat) => show (dstr (bitsN x.val.int i)).size = i by rw [dstr_size, bitsN_len])
  have HDC := Lib.hid (fun (i : Nat) => show dstr (bitsN x.val.int (i + 1)) = (⟨#[bdig ((u64 x.val.int).testBit i)]⟩ : ByteArray) ++ dstr (bitsN x.val.int i) by rw [bitsN_cons, dstr_cons])
  have HHS := Lib.hid (fun (i : Nat) => half_step x.val.int i)
  have HEND : Hid (intBits x.val.int k false = bitsN x.val.int k) := Lib.hid rfl
  have HENL : Hid (k % 8 = 0 → dstr (bitsN x.val.int k) = dstr (bitsL (bytesN x.val.int k)) ∧ intBits x.val.int k true = bitsL (bytesN x.val.int k).reverse) := Lib.hid (fun h => ⟨by rw [bitsN_whole _ _ hk64 h], rfl⟩)
  have HTU := Lib.hid (fun wx => rturned_any (bytesN x.val.int k) wx (by rw [bytesN_len]; omega))
  clear HV HSz HSz1 HR1 hb1 hb2 hb12
  generalize x.val.int = v at *
  generalize hl : x.little = lt at *
  have h8 : lt = true → (k : Int) % 8 = 0 := fun h => by have := HLT.out h; omega
  have H8 := Lib.hid h8
  clear h8
  go_cut [46] from 36 to 45 (fun nv wx => nv = .bool false ∧ wx = w2)
  case first =>
    cases lt
    · go_wp2_with fail
      go_meet
      exact ⟨rfl, rfl⟩
    · have h8 := H8.out rfl
      go_wp2_with fail
      go_meet
      exact ⟨rfl, rfl⟩
  case rest =>
    obtain ⟨rfl, rfl⟩ := hcut
    go_wp2_with fail
    go_loopw [5, 6, 7] (fun ov vv iv wr => ∃ i : Nat, i ≤ k ∧ iv = .int .i64 i ∧ vv = .int .i64 (v / 2 ^ i) ∧ ov = .string (dstr (bitsN v i)) ∧ wr = wc) (fun _ _ iv _ => k - (intOf iv).toNat)
    case atStart => exact ⟨0, by omega, rfl, by simp, rfl, rfl⟩
    case round =>
      obtain ⟨i, hi, rfl, rfl, rfl, rfl⟩ := hrel
      by_cases hik : i < k
      · have t1 : decide ((i : Int) < (k : Int)) = true := decide_eq_true (by omega)
        have hst := HST.out i (by omega)
        have hds := HDS.out i
        have hdc := HDC.out i
        have hhs := HHS.out i
        have HS1 := Lib.hid (fun wx => HSh.out i wx)
        generalize hD : dstr (bitsN v i) = D at *
        generalize hD1 : dstr (bitsN v (i + 1)) = D1 at *
        generalize hz : v / 2 ^ i = z at *
        generalize hz1 : v / 2 ^ (i + 1) = z1 at *
        generalize Nat.testBit (Go.Proofs.YthmpobimmbmddaaGreatDoor.u64 v) i = bt at *
        have HX := Lib.hid (And.intro hdc hhs)
        clear hdc hhs
        cases bt
        · go_wp2_with (first | (go_at_call 59; refine (HS1.out _).mono ?_; rintro e w5 ⟨rfl, rfl⟩) | fail)
          exact ⟨⟨i + 1, by omega, by go_num, by rw [hz1, ← HX.out.2], by rw [hD1, HX.out.1]; rfl, trivial⟩, by simp [intOf]; omega⟩
        · go_wp2_with (first | (go_at_call 59; refine (HS1.out _).mono ?_; rintro e w5 ⟨rfl, rfl⟩) | fail)
          exact ⟨⟨i + 1, by omega, by go_num, by rw [hz1, ← HX.out.2], by rw [hD1, HX.out.1]; rfl, trivial⟩, by simp [intOf]; omega⟩
      · have t1 : decide ((i : Int) < (k : Int)) = false := decide_eq_false (by omega)
        obtain rfl : i = k := by omega
        cases lt
        · go_wp2_with fail
          go_ret2
          refine ⟨?_, HBE.out⟩
          rw [HZ.out, HEND.out]
          rfl
        · have hh := HENL.out (HLT.out rfl)
          have HH2 := Lib.hid hh.2
          rw [hh.1]
          clear hh
          go_wp2_with (first | (go_at_call 60; refine (HTU.out _).mono ?_; rintro e w5 ⟨rfl, rfl⟩) | fail)
          go_ret2
          refine ⟨?_, HBE.out⟩
          rw [HZ.out, HH2.out]
          rfl
end Go.Proofs.YthmpobimmbmddaaGreatDoor
namespace Go.Proofs.YthmpobimmbmddaaGreatDoor
open Go.RowKit
set_option linter.unusedVariables false
set_option linter.unusedSimpArgs false

set_option maxRecDepth 100000 in
set_option maxHeartbeats 8000000 in
theorem rfield_text (x : Fd) (vo : Option Addr) (vc : Nat) (so : Option Addr) (sc : Nat) (w : World) (ht : x.type = 4) (hy : x.text.size ≤ 1000000) :
    Calls Tryz.prog 33 #[.agg (fdRow x vo vc so sc)] w fun e w' => e = .returned (.tuple #[.string (dstr (bitsL x.text.data.toList)), .bool true]) ∧ Below w.heap.size w w' := by
  have HB := Lib.hid ((Below.refl w.heap.size w).alloc (Nat.le_refl _) (.cells (fdRow x vo vc so sc) 30))
  have HR0 := Lib.hid (heap_alloc_new w (.cells (fdRow x vo vc so sc) 30))
  have HD := Lib.hid (fun wx => rdig_any x.text (8 * x.text.size) wx (Nat.le_refl _) hy)
  have hfull : sub (bitsL x.text.data.toList) 0 (8 * x.text.size) = bitsL x.text.data.toList := by
    unfold sub
    rw [List.drop_zero, List.take_of_length_le (by rw [bits_size]; omega)]
  rw [hfull] at HD
  have e8 : (((8 * x.text.size : Nat)) : Int) = 8 * (x.text.size : Int) := by simp
  rw [e8] at HD
  clear hfull e8
  go_enter Tryz.func33, Tryz.ntmps33
  generalize hW : w.alloc (.cells (fdRow x vo vc so sc) 30) = W at *
  have c0 : W.cell? ⟨w.heap.size, 0, none⟩ = some (.int .i64 4) := by rw [cell_of_row _ _ _ _ _ _ HR0.out]; show some (Value.int .i64 x.type) = _; rw [ht]
  have c1 : W.cell? ⟨w.heap.size, 1, none⟩ = some (.string x.text) := by rw [cell_of_row _ _ _ _ _ _ HR0.out]; rfl
  go_wp2_with (first | (go_at_call 57; refine (HD.out _).mono ?_; rintro e w1 ⟨rfl, hb1⟩) | fail)
  go_ret2
  exact ⟨rfl, HB.out.trans (hb1.mono HB.out.size)⟩
set_option maxRecDepth 100000 in
set_option maxHeartbeats 8000000 in
theorem rfield_no (f : Nat) (x : Fd) (vo : Option Addr) (vc : Nat) (so : Option Addr) (sc : Nat) (w : World) (ht : x.type ≠ 4) (hvv : validF (f + 1) x.val = false)
    (hv : SlAt w 9 (TmAt w f) vo x.val.items) (hok1 : x.val.Ok) (hc1 : (capF (f + 1) x.val : Int) ≤ 1152921504606846976) :
    Calls Tryz.prog 33 #[.agg (fdRow x vo vc so sc)] w fun e w' => e = .returned (.tuple #[.string ⟨#[]⟩, .bool false]) ∧ Below w.heap.size w w' := by
  have HB := Lib.hid ((Below.refl w.heap.size w).alloc (Nat.le_refl _) (.cells (fdRow x vo vc so sc) 30))
  have HR0 := Lib.hid (heap_alloc_new w (.cells (fdRow x vo vc so sc) 30))
  have HV := Lib.hid (rvalid_term f x.val vo vc _ (hv.tms HB.out) hok1 hc1)
  rw [hvv] at HV
  have t4 : (x.type == 4) = false := by simpa using ht
  clear hv hc1 hvv hok1 ht
  go_enter Tryz.func33, Tryz.ntmps33
  generalize hW : w.alloc (.cells (fdRow x vo vc so sc) 30) = W at *
  have k0 : ∀ j, W.cell? ⟨w.heap.size, j, none⟩ = (fdRow x vo vc so sc)[j]? := fun j => by rw [cell_of_row _ _ _ _ _ _ HR0.out]
  have c0 : W.cell? ⟨w.heap.size, 0, none⟩ = some (.int .i64 x.type) := k0 0
  have c2 : W.cell? ⟨w.heap.size, 2, none⟩ = some (.int .i64 x.val.kind) := k0 2
  have c3 : W.cell? ⟨w.heap.size, 3, none⟩ = some (.int .i64 x.val.int) := k0 3
  have c4 : W.cell? ⟨w.heap.size, 4, none⟩ = some (.int .i64 x.val.gen) := k0 4
  have c5 : W.cell? ⟨w.heap.size, 5, none⟩ = some (.string x.val.name) := k0 5
  have c6 : W.cell? ⟨w.heap.size, 6, none⟩ = some (.string x.val.func) := k0 6
  have c7 : W.cell? ⟨w.heap.size, 7, none⟩ = some (.int .i64 x.val.arity) := k0 7
  have c8 : W.cell? ⟨w.heap.size, 8, none⟩ = some (.slice vo x.val.items.length vc) := k0 8
  have c9 : W.cell? ⟨w.heap.size, 9, none⟩ = some (.string x.val.bytes) := k0 9
  have c10 : W.cell? ⟨w.heap.size, 10, none⟩ = some (.int .i64 x.val.bits) := k0 10
  clear k0
  go_wp2_with (first | (go_at_call 18; refine HV.out.mono ?_; rintro e w1 ⟨rfl, hb1⟩) | fail)
  go_ret2
  exact ⟨rfl, HB.out.trans (hb1.mono HB.out.size)⟩
end Go.Proofs.YthmpobimmbmddaaGreatDoor
namespace Go.Proofs.YthmpobimmbmddaaGreatDoor
open Go.RowKit
set_option linter.unusedVariables false
set_option linter.unusedSimpArgs false

theorem zS_eq {s : ByteArray} (h : zS s = true) : s = ⟨#[]⟩ := by
  unfold zS at h
  have h := of_decide_eq_true h
  apply ByteArray.ext
  exact Array.eq_empty_of_size_eq_zero h
theorem zI_eq {n : Int} (h : zI n = true) : n = 0 := of_decide_eq_true h
theorem zL_eq {l : List Tm} (h : zL l = true) : l = [] := List.eq_nil_of_length_eq_zero (of_decide_eq_true h)
theorem int_is {f : Nat} {t : Tm} (h : validF (f + 1) t = true) (hk : t.kind = 1) : t = intT t.int := by
  unfold validF at h
  simp only [Bool.and_eq_true] at h
  have h1 : (locB t && t.items.all (formF f)) = true := h.1
  unfold locB zeroK at h1
  simp only [Bool.and_eq_true, hk] at h1
  obtain ⟨⟨_, ⟨⟨⟨⟨⟨⟨⟨z1, z2⟩, z3⟩, z4⟩, z5⟩, z6⟩, z7⟩, z8⟩⟩, _⟩ := h1
  have e2 := zI_eq (by simpa using z2)
  have e3 := zS_eq (by simpa using z3)
  have e4 := zS_eq (by simpa using z4)
  have e5 := zI_eq (by simpa using z5)
  have e6 := zL_eq (by simpa using z6)
  have e7 := zS_eq (by simpa using z7)
  have e8 := zI_eq (by simpa using z8)
  obtain ⟨k, n, g, nm, fn, ar, its, y, b⟩ := t
  obtain rfl : k = 1 := hk
  obtain rfl : g = 0 := e2
  obtain rfl : nm = ⟨#[]⟩ := e3
  obtain rfl : fn = ⟨#[]⟩ := e4
  obtain rfl : ar = 0 := e5
  obtain rfl : its = [] := e6
  obtain rfl : y = ⟨#[]⟩ := e7
  obtain rfl : b = 0 := e8
  rfl
theorem pk_one (c : UInt8) (r : Nat) (hr : r ≤ 8) (h : c.toNat % 2 ^ (8 - r) = 0) : pk ((byteB c).take r) = c.toNat := by
  apply testBit_ext
  intro i
  rw [pk_bit]
  by_cases hi : i < 8
  · rw [List.getElem?_take]
    by_cases h7 : 7 - i < r
    · rw [if_pos h7, byteB_at c (7 - i) (by omega), show 7 - (7 - i) = i by omega]
      simp [hi]
    · rw [if_neg h7]
      have hb : c.toNat.testBit i = false := by
        have h2 := Nat.testBit_mod_two_pow c.toNat (8 - r) i
        rw [h, Nat.zero_testBit] at h2
        have h3 : decide (i < 8 - r) = true := decide_eq_true (by omega)
        rw [h3] at h2
        simpa using h2.symm
      rw [hb]; simp
  · rw [u8_bit c i (by omega)]; simp [hi]
theorem validB_of {y : ByteArray} {z : Int} (h : bitsV y z = true) : 0 ≤ z ∧ z ≤ 16384 ∧ ValidB y.data.toList z.toNat := by
  unfold bitsV wi at h
  simp only [Bool.and_eq_true, Bool.or_eq_true, decide_eq_true_eq] at h
  obtain ⟨⟨⟨h0, h1⟩, h2⟩, h3⟩ := h
  refine ⟨h0, h1, ?_⟩
  have hlen : y.data.toList.length = (z.toNat + 7) / 8 := by
    have : y.size = y.data.toList.length := by rw [Array.length_toList]; rfl
    omega
  refine ⟨?_, hlen⟩
  have hz : (z.toNat : Int) = z := Int.toNat_of_nonneg h0
  generalize hn : z.toNat = n at *
  unfold lastByte at h3
  generalize y.data.toList = Y at *
  by_cases hr : n % 8 = 0
  · have hb : (bitsL Y).length = n := by rw [bitsL_len]; omega
    unfold sub
    rw [List.drop_zero, List.take_of_length_le (by omega), pack_bits]
  · obtain ⟨A, c, rfl⟩ : ∃ A c, Y = A ++ [c] := by
      have hne : Y ≠ [] := by intro e; rw [e] at hlen; simp at hlen; omega
      exact ⟨Y.dropLast, Y.getLast hne, (List.dropLast_concat_getLast hne).symm⟩
    have hA : A.length = n / 8 := by rw [List.length_append, List.length_singleton] at hlen; omega
    have hc : c.toNat % 2 ^ (8 - n % 8) = 0 := by
      rcases h3 with h3 | h3
      · exfalso; omega
      · rw [List.getLast?_append] at h3
        simp only [List.getLast?_singleton, Option.some_or, Option.getD_some] at h3
        rw [show ((8 : Int) - z % 8).toNat = 8 - n % 8 by omega] at h3
        exact h3
    have e : bitsL (A ++ [c]) = bitsL A ++ byteB c := by unfold bitsL; rw [List.flatMap_append]; simp
    have hs : sub (bitsL (A ++ [c])) 0 n = bitsL A ++ (byteB c).take (n % 8) := by
      unfold sub
      rw [List.drop_zero, e, List.take_append, bitsL_len, List.take_of_length_le (by rw [bitsL_len]; omega)]
      congr 2; omega
    rw [hs, packB_app A.length (bitsL A) _ (bitsL_len A), pack_bits, packB_one _ (by
      intro e2
      have := congrArg List.length e2
      rw [List.length_take, byteB_len] at this
      simp at this; omega) (by rw [List.length_take, byteB_len]; omega), pk_one c (n % 8) (by omega) hc]
    simp
theorem bits_is {f : Nat} {t : Tm} (h : validF (f + 1) t = true) (hk : t.kind = 10) : ∃ m : List Bool, m.length ≤ 16384 ∧ t = bitsT m ∧ m = sub (bitsL t.bytes.data.toList) 0 t.bits.toNat := by
  unfold validF at h
  simp only [Bool.and_eq_true] at h
  have h1 : (locB t && t.items.all (formF f)) = true := h.1
  unfold locB zeroK okK at h1
  simp only [Bool.and_eq_true, hk] at h1
  obtain ⟨⟨o1, ⟨⟨⟨⟨⟨⟨⟨z1, z2⟩, z3⟩, z4⟩, z5⟩, z6⟩, z7⟩, z8⟩⟩, _⟩ := h1
  have hb : bitsV t.bytes t.bits = true := by simpa [bitsB] using o1
  obtain ⟨b0, b1, b2, b3⟩ := validB_of hb
  have e1 := zI_eq (by simpa using z1)
  have e2 := zI_eq (by simpa using z2)
  have e3 := zS_eq (by simpa using z3)
  have e4 := zS_eq (by simpa using z4)
  have e5 := zI_eq (by simpa using z5)
  have e6 := zL_eq (by simpa using z6)
  have hl : (sub (bitsL t.bytes.data.toList) 0 t.bits.toNat).length = t.bits.toNat := sub_len _ _ _ (by rw [bitsL_len]; omega)
  refine ⟨_, by rw [hl]; omega, ?_, rfl⟩
  have hbs : bstr (sub (bitsL t.bytes.data.toList) 0 t.bits.toNat) = t.bytes := by
    apply ByteArray.ext
    show (packB _).toArray = t.bytes.data
    rw [← b2, Array.toArray_toList]
  have hbl : ((sub (bitsL t.bytes.data.toList) 0 t.bits.toNat).length : Int) = t.bits := by rw [hl]; omega
  unfold bitsT
  rw [hbs, hbl]
  obtain ⟨k, n, g, nm, fn, ar, its, y, b⟩ := t
  obtain rfl : k = 10 := hk
  obtain rfl : n = 0 := e1
  obtain rfl : g = 0 := e2
  obtain rfl : nm = ⟨#[]⟩ := e3
  obtain rfl : fn = ⟨#[]⟩ := e4
  obtain rfl : ar = 0 := e5
  obtain rfl : its = [] := e6
  rfl
/-- What a segment gives, if it is not wrong. -/
def fieldV (f : Nat) (x : Fd) : Option (List Bool) :=
  if x.type = 4 then some (bitsL x.text.data.toList)
  else if validF (f + 1) x.val = false then none
  else if x.type = 1 ∧ x.val.kind = 1 then
    if sizeV f x 8 64 < 0 ∨ (x.little = true ∧ sizeV f x 8 64 % 8 ≠ 0) then none else some (intBits x.val.int (sizeV f x 8 64).toNat x.little)
  else if x.type = 2 ∧ x.val.kind = 10 then
    if sizeV f x x.val.bits x.val.bits < 0 then none else some (sub (bitsL x.val.bytes.data.toList) 0 (sizeV f x x.val.bits x.val.bits).toNat)
  else if x.type = 3 ∧ x.val.kind = 10 then
    if x.sized = false ∧ x.val.bits % 8 ≠ 0 then none
    else if sizeV f x (x.val.bits / 8) (x.val.bits / 8) < 0 then none else some (sub (bitsL x.val.bytes.data.toList) 0 (8 * (sizeV f x (x.val.bits / 8) (x.val.bits / 8)).toNat))
  else none
end Go.Proofs.YthmpobimmbmddaaGreatDoor
