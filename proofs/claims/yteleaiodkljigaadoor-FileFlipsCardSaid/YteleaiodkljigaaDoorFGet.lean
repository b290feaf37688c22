/-
  file.Get: what it computes of any string.
-/
import Derived.Test.YteleaiodkljigaaDoorFAll
namespace Go.Proofs.YteleaiodkljigaaDoor
open Go.RowKit Go.Shelf Go.Lib

theorem cellsC_get : ∀ (l : List Ch) (j : Nat), j < l.length → (cellsC l)[j * 2]? = some (.string l[j]!.1) ∧ (cellsC l)[j * 2 + 1]? = some (.string l[j]!.2)
  | [], j, h => absurd h (Nat.not_lt_zero _)
  | x :: l, 0, _ => ⟨rfl, rfl⟩
  | x :: l, j + 1, h => by
    have ih := cellsC_get l j (by simpa using h)
    have e1 : (j + 1) * 2 = j * 2 + 2 := by omega
    have e2 : (x :: l)[j + 1]! = l[j]! := by simp
    rw [e1, e2]
    show (Value.string x.1 :: Value.string x.2 :: cellsC l)[j * 2 + 2]? = _ ∧ (Value.string x.1 :: Value.string x.2 :: cellsC l)[j * 2 + 2 + 1]? = _
    exact ih
theorem list_of_owns {w : World} {B : Nat} {v : Value} {l : List Ch} (h : w.ownsRow B 41 2 v l.length (cellsC l)) : ListAt w v l := by
  rcases h.2 with ⟨rfl, h0⟩ | ⟨g, cap, cur, rfl, hB, hg, hn, hc, hs, ht⟩
  · exact ⟨none, 0, by rw [h0], .inl (List.eq_nil_of_length_eq_zero h0)⟩
  · refine ⟨_, cap, rfl, .inr ⟨g, 0, rfl, lt_of_row hg, fun j hj => ?_⟩⟩
    have hh := cellsC_get l j hj
    rw [← ht] at hh
    have l1 : j * 2 < l.length * 2 := by omega
    have l2 : j * 2 + 1 < l.length * 2 := by omega
    rw [List.getElem?_take, if_pos l1, List.getElem?_take, if_pos l2] at hh
    rw [cell_of_row _ _ _ _ _ _ hg, cell_of_row _ _ _ _ _ _ hg, Nat.zero_add, ← Array.getElem?_toList, ← Array.getElem?_toList]
    exact hh

theorem distinct_list (v : Value) (l : List Ch) (w : World) (h : ListAt w v l) (hl : l.length ≤ 9223372036854775807) :
    Calls Tryd.prog 20 #[v] w fun e w' => e = .returned (.bool (dst l)) ∧ Below w.heap.size w w' := by
  obtain ⟨ao, c, rfl, hs⟩ := listS_of h
  exact distinct_s ao c l w hs hl
theorem below_grown {a b : World} {r : Nat} (h : a.grownBy b (some r)) (hr : r ≤ a.heap.size) : Below r a b :=
  ⟨h.os, h.tape, h.output, h.size, fun k hk => h.block k (by omega) (fun e => by have := Option.some.inj e; omega)⟩

set_option maxHeartbeats 4000000 in
set_option maxRecDepth 100000 in
theorem get_any (b : List UInt8) (w : World) (hbz : b.length ≤ 9223372036854775807) :
    Calls Tryd.prog 18 #[.string ⟨b.toArray⟩] w fun e w' => ∃ v, e = .returned (.tuple #[v, .int .i64 (getE b)]) ∧ ListAt w' v (getL b) ∧ Below w.heap.size w w' := by
  have hbs : (⟨b.toArray⟩ : ByteArray).size = b.length := by show b.toArray.size = _; simp
  by_cases hbig : 16777216 < b.length
  · have e1 : getE b = 3 := if_pos hbig
    have e2 : getL b = [] := if_pos hbig
    rw [e1, e2]
    clear e1 e2
    have hbi : (16777216 : Int) < b.length := by omega
    go_enter Tryd.func18, Tryd.ntmps18
    go_wp2
    go_ret2
    exact ⟨_, rfl, listAt_nil _, Below.refl _ _⟩
  · have e1 : getE b = match formP b with
      | none => 6
      | some _ => if be4 (crc (b.take (b.length - 4))) = b.drop (b.length - 4) then 0 else 260 := if_neg hbig
    have e2 : getL b = match formP b with
      | none => []
      | some l => if be4 (crc (b.take (b.length - 4))) = b.drop (b.length - 4) then l else [] := if_neg hbig
    generalize getE b = E at *
    generalize getL b = L at *
    have HE := Lib.hid e1
    have HL := Lib.hid e2
    clear e1 e2
    have hbi : ¬ (16777216 : Int) < b.length := by omega
    by_cases h4 : b.length < 4
    · have ef : formP b = none := if_pos (by omega)
      have hE6 : E = 6 := by have := HE.out; rw [ef] at this; exact this
      have hL0 : L = [] := by have := HL.out; rw [ef] at this; exact this
      subst hE6
      subst hL0
      clear HE HL
      go_enter Tryd.func18, Tryd.ntmps18
      go_wp2_with fail
      have hA : RdAt w.heap.size b (.slice none 0 0) (w.alloc (.cells #[.string ⟨b.toArray⟩, .slice none 0 0] 57)) := heap_alloc_new _ _
      have hB : Below w.heap.size w (w.alloc (.cells #[.string ⟨b.toArray⟩, .slice none 0 0] 57)) := (Below.refl _ _).alloc (Nat.le_refl _) _
      have hsz : (w.alloc (.cells #[.string ⟨b.toArray⟩, .slice none 0 0] 57)).heap.size = w.heap.size + 1 := by simp
      have hwr : w.heap.size ≤ w.heap.size := Nat.le_refl _
      generalize w.alloc (.cells #[.string ⟨b.toArray⟩, .slice none 0 0] 57) = wa at *
      generalize hR : w.heap.size = r at hA hB hsz hwr ⊢
      refine (take_no r b _ 4 4 rfl _ hA h4 (by omega)).mono ?_
      rintro e w1 ⟨rfl, rfl⟩
      go_wp2_with (go_at_call 30; refine (numr_no r b _ _ hA h4).mono ?_; rintro e w2 ⟨rfl, rfl⟩)
      go_ret2
      exact ⟨_, rfl, listAt_nil _, by (try rw [hR]); exact hB⟩
    · by_cases h8 : b.length < 8
      · have ef : formP b = none := if_pos (by omega)
        have hE6 : E = 6 := by have := HE.out; rw [ef] at this; exact this
        have hL0 : L = [] := by have := HL.out; rw [ef] at this; exact this
        subst hE6
        subst hL0
        clear HE HL
        have h8' : (b.drop 4).length < 4 := by rw [List.length_drop]; omega
        go_enter Tryd.func18, Tryd.ntmps18
        go_wp2_with fail
        have hA : RdAt w.heap.size b (.slice none 0 0) (w.alloc (.cells #[.string ⟨b.toArray⟩, .slice none 0 0] 57)) := heap_alloc_new _ _
        have hB : Below w.heap.size w (w.alloc (.cells #[.string ⟨b.toArray⟩, .slice none 0 0] 57)) := (Below.refl _ _).alloc (Nat.le_refl _) _
        have hsz : (w.alloc (.cells #[.string ⟨b.toArray⟩, .slice none 0 0] 57)).heap.size = w.heap.size + 1 := by simp
        have hwr : w.heap.size ≤ w.heap.size := Nat.le_refl _
        generalize w.alloc (.cells #[.string ⟨b.toArray⟩, .slice none 0 0] 57) = wa at *
        generalize hR : w.heap.size = r at hA hB hsz hwr ⊢
        refine (take_yes r b _ 4 4 rfl _ hA (by omega) (by omega)).mono ?_
        rintro e w1 ⟨rfl, h1, hg1⟩
        go_wp2_with (go_at_call 30; refine (numr_no r _ _ _ h1 h8').mono ?_; rintro e w2 ⟨rfl, rfl⟩)
        go_ret2
        exact ⟨_, rfl, listAt_nil _, by (try rw [hR]); exact hB.trans (below_grown hg1 (by omega))⟩
      · have ef : formP b = if b.take 4 = MAGIC ∧ num4 ((b.drop 4).take 4) = b.length - 8 then (match allP 17 [] (b.drop 8) with
            | none => none
            | some l => if dst l = true then some l else none) else none := if_neg (by omega)
        generalize formP b = F at *
        have HEF := Lib.hid ef
        clear ef
        have hl4 : (b.drop 4).length = b.length - 4 := List.length_drop
        have hnum := fun (lv : Value) (r : Nat) (wx : World) hx => numr_yes r (b.drop 4) lv wx hx (by omega) (by omega)
        have e8 : (b.drop 4).drop 4 = b.drop 8 := by rw [List.drop_drop]
        rw [e8] at hnum
        have htk := fun (lv : Value) (r : Nat) (wx : World) (hx : RdAt r b lv wx) => take_yes r b lv 4 4 rfl wx hx (by omega) (by omega)
        have hl8 : (b.drop 8).length = b.length - 8 := List.length_drop
        generalize b.take 4 = mg at *
        generalize num4 ((b.drop 4).take 4) = n at *
        generalize b.drop 8 = D at *
        generalize b.drop 4 = D4 at *
        clear e8
        go_enter Tryd.func18, Tryd.ntmps18
        go_wp2_with fail
        have hA : RdAt w.heap.size b (.slice none 0 0) (w.alloc (.cells #[.string ⟨b.toArray⟩, .slice none 0 0] 57)) := heap_alloc_new _ _
        have hB : Below w.heap.size w (w.alloc (.cells #[.string ⟨b.toArray⟩, .slice none 0 0] 57)) := (Below.refl _ _).alloc (Nat.le_refl _) _
        have hsz : (w.alloc (.cells #[.string ⟨b.toArray⟩, .slice none 0 0] 57)).heap.size = w.heap.size + 1 := by simp
        have hwr : w.heap.size ≤ w.heap.size := Nat.le_refl _
        generalize w.alloc (.cells #[.string ⟨b.toArray⟩, .slice none 0 0] 57) = wa at *
        generalize hR : w.heap.size = r at hA hB hsz hwr ⊢
        refine (htk _ r _ hA).mono ?_
        rintro e w1 ⟨rfl, h1, hg1⟩
        go_wp2_with fail
        refine (hnum _ r _ h1).mono ?_
        rintro e w2 ⟨rfl, h2, hg2⟩
        clear hnum htk
        have hgb := grownBy_trans hg1 hg2
        have hB2 : Below r w w2 := hB.trans (below_grown hgb (by omega))
        have hrl := h2.lt
        have c20 := h2.c0
        have c21 := h2.c1
        have hDs : (⟨D.toArray⟩ : ByteArray).size = D.length := by show D.toArray.size = _; simp
        clear hg1 hg2 hgb h1 hA
        by_cases hM : mg = MAGIC
        · subst hM
          by_cases hN : n = b.length - 8
          · have hni : ((n : Int) == (D.length : Int)) = true := by rw [hN, ← hl8]; exact beq_self_eq_true _
            have hal := all_any r D w2 h2 (by omega)
            cases hall : allP 17 [] D with
            | none =>
              rw [hall] at hal
              have hFv : F = none := by rw [HEF.out, if_pos ⟨rfl, hN⟩, hall]
              subst hFv
              obtain rfl : E = 6 := HE.out
              obtain rfl : L = [] := HL.out
              clear HE HL
              go_wp2_with (go_at_call 31; refine hal.mono ?_; rintro e w3 ⟨rfl, hg3⟩)
              go_ret2
              exact ⟨_, rfl, listAt_nil _, by (try rw [hR]); exact hB2.trans (below_grown hg3 (by omega))⟩
            | some l =>
              rw [hall] at hal
              have hFv : F = if dst l = true then some l else none := by rw [HEF.out, if_pos ⟨rfl, hN⟩, hall]
              go_wp2_with fail
              refine hal.mono ?_
              rintro e w3 ⟨⟨rfl, r', lv, h3, ho3⟩, hg3⟩
              have c31 := h3.c1
              have hB3 : Below r w w3 := hB2.trans (below_grown hg3 (by omega))
              have hr3 := h3.lt
              have hdi := distinct_list lv l w3 (list_of_owns ho3) (by have := allP_len hall; rw [List.length_nil] at this; omega)
              cases hdd : dst l with
              | false =>
                rw [hdd] at hFv hdi
                have hFn : F = none := hFv
                subst hFn
                obtain rfl : E = 6 := HE.out
                obtain rfl : L = [] := HL.out
                clear HE HL
                go_wp2_with (go_at_call 20; refine hdi.mono ?_; rintro e w4 ⟨rfl, hb4⟩)
                go_ret2
                exact ⟨_, rfl, listAt_nil _, by (try rw [hR]); exact hB3.trans (hb4.mono (by omega))⟩
              | true =>
                rw [hdd] at hFv hdi
                have hFn : F = some l := hFv
                subst hFn
                by_cases hq : be4 (crc (b.take (b.length - 4))) = b.drop (b.length - 4)
                · obtain rfl : E = 0 := HE.out.trans (if_pos hq)
                  obtain rfl : l = L := (HL.out.trans (if_pos hq)).symm
                  clear HE HL
                  have HQ := Lib.hid hq; clear hq
                  go_wp2_with fail
                  refine hdi.mono ?_
                  rintro e w4 ⟨rfl, hb4⟩
                  have h5 := h3.below hb4
                  have hl5 := list_of_owns (owns_below ho3 hb4)
                  have hB4 : Below r w w4 := hB3.trans (hb4.mono (by omega))
                  have c41 := h5.c1
                  have ho4 := owns_below ho3 hb4
                  have hr4 := h5.lt
                  go_upto_region 8 with fail
                  clear hal hdi hb4 ho3 h3 hg3 hB3 c31 hl5
                  have hsub : (b.length : Int) - 4 = ((b.length - 4 : Nat) : Int) := by omega
                  have hw1 : IntKind.i64.wrap ((b.length : Int) - 4) = (b.length : Int) - 4 := by rw [IntKind.wrap_i64]; omega
                  have hs1 : ∀ wx, (Instr.slice 9 (.string ⟨b.toArray⟩) none (some (.int .i64 ((b.length : Int) - 4))) none).run Tryd.prog wx = .ok (.string ⟨(b.take (b.length - 4)).toArray⟩) wx := fun wx => by
                    rw [hsub, run_slice_string_to_if (h := by kernel_rfl), if_pos ⟨by omega, by rw [hbs]; omega⟩, Int.toNat_natCast, ext_take]
                  have hs2 : ∀ wx, (Instr.slice 9 (.string ⟨b.toArray⟩) (some (.int .i64 ((b.length : Int) - 4))) none none).run Tryd.prog wx = .ok (.string ⟨(b.drop (b.length - 4)).toArray⟩) wx := fun wx => by
                    rw [hsub, run_slice_string_from_if (h := by kernel_rfl), if_pos ⟨by omega, by rw [hbs]; omega⟩, Int.toNat_natCast, ext_drop _ _ _ hbs.symm]
                  have hTl : (b.take (b.length - 4)).length ≤ 16777216 := by rw [List.length_take]; omega
                  have hcl := crc_lt (b.take (b.length - 4))
                  generalize b.take (b.length - 4) = T at *
                  generalize b.drop (b.length - 4) = U at *
                  clear hsub
                  have hsm : ∀ wx, Calls Tryd.prog 11 #[.string ⟨T.toArray⟩] wx fun e w' => e = .returned (.int .u32 (crc T)) ∧ Below wx.heap.size wx w' := fun wx => sum_any ⟨T.toArray⟩ wx (by show T.toArray.size ≤ maxLen; unfold maxLen; simp; omega)
                  generalize hc : crc T = cs at *
                  have hnu : ∀ wx, Calls Tryd.prog 23 #[.int .i64 (cs : Int)] wx fun e w' => e = .returned (.string ⟨(be4 cs).toArray⟩) ∧ Below wx.heap.size wx w' := fun wx => number_any (cs : Int) wx (by omega) (by omega)
                  generalize hbe : be4 cs = Q at *
                  have hwc : IntKind.i64.wrap (cs : Int) = cs := by rw [IntKind.wrap_i64]; omega
                  have hB4d : Below r w w4.drew := hB4.drew
                  have h5d : RdAt r r' lv w4.drew := h5
                  have ho4d : w4.drew.ownsRow w2.heap.size 41 2 lv l.length (cellsC l) := ho4
                  have hqb : (Q == U) = true := by rw [HQ.out]; exact beq_self_eq_true _
                  clear HQ
                  go_region_held3 (fun _ => True) (trivial)
                    (first
                      | (go_at_call 11; refine (hsm _).mono ?_; rintro e w5 ⟨rfl, hb5⟩; have qB := hB4d.trans (hb5.mono (Nat.le_of_lt hr4)); have qR := h5d.below hb5; have qO := owns_below ho4d hb5)
                      | (go_at_call 23; refine (hnu _).mono ?_; rintro e w6 ⟨rfl, hb6⟩; have sB := qB.trans (hb6.mono (Nat.le_of_lt qR.lt)); have sR := qR.below hb6; have sO := owns_below qO hb6))
                  have c61 := sR.c1
                  go_wp2_with fail
                  go_ret2
                  exact ⟨_, rfl, list_of_owns sO, by (try rw [hR]); exact sB⟩
                · obtain rfl : E = 260 := HE.out.trans (if_neg hq)
                  obtain rfl : L = [] := HL.out.trans (if_neg hq)
                  clear HE HL
                  have HQ := Lib.hid hq; clear hq
                  go_wp2_with fail
                  refine hdi.mono ?_
                  rintro e w4 ⟨rfl, hb4⟩
                  have h5 := h3.below hb4
                  have hl5 := list_of_owns (owns_below ho3 hb4)
                  have hB4 : Below r w w4 := hB3.trans (hb4.mono (by omega))
                  have c41 := h5.c1
                  have ho4 := owns_below ho3 hb4
                  have hr4 := h5.lt
                  go_upto_region 8 with fail
                  clear hal hdi hb4 ho3 h3 hg3 hB3 c31 hl5
                  have hsub : (b.length : Int) - 4 = ((b.length - 4 : Nat) : Int) := by omega
                  have hw1 : IntKind.i64.wrap ((b.length : Int) - 4) = (b.length : Int) - 4 := by rw [IntKind.wrap_i64]; omega
                  have hs1 : ∀ wx, (Instr.slice 9 (.string ⟨b.toArray⟩) none (some (.int .i64 ((b.length : Int) - 4))) none).run Tryd.prog wx = .ok (.string ⟨(b.take (b.length - 4)).toArray⟩) wx := fun wx => by
                    rw [hsub, run_slice_string_to_if (h := by kernel_rfl), if_pos ⟨by omega, by rw [hbs]; omega⟩, Int.toNat_natCast, ext_take]
                  have hs2 : ∀ wx, (Instr.slice 9 (.string ⟨b.toArray⟩) (some (.int .i64 ((b.length : Int) - 4))) none none).run Tryd.prog wx = .ok (.string ⟨(b.drop (b.length - 4)).toArray⟩) wx := fun wx => by
                    rw [hsub, run_slice_string_from_if (h := by kernel_rfl), if_pos ⟨by omega, by rw [hbs]; omega⟩, Int.toNat_natCast, ext_drop _ _ _ hbs.symm]
                  have hTl : (b.take (b.length - 4)).length ≤ 16777216 := by rw [List.length_take]; omega
                  have hcl := crc_lt (b.take (b.length - 4))
                  generalize b.take (b.length - 4) = T at *
                  generalize b.drop (b.length - 4) = U at *
                  clear hsub
                  have hsm : ∀ wx, Calls Tryd.prog 11 #[.string ⟨T.toArray⟩] wx fun e w' => e = .returned (.int .u32 (crc T)) ∧ Below wx.heap.size wx w' := fun wx => sum_any ⟨T.toArray⟩ wx (by show T.toArray.size ≤ maxLen; unfold maxLen; simp; omega)
                  generalize hc : crc T = cs at *
                  have hnu : ∀ wx, Calls Tryd.prog 23 #[.int .i64 (cs : Int)] wx fun e w' => e = .returned (.string ⟨(be4 cs).toArray⟩) ∧ Below wx.heap.size wx w' := fun wx => number_any (cs : Int) wx (by omega) (by omega)
                  generalize hbe : be4 cs = Q at *
                  have hwc : IntKind.i64.wrap (cs : Int) = cs := by rw [IntKind.wrap_i64]; omega
                  have hB4d : Below r w w4.drew := hB4.drew
                  have h5d : RdAt r r' lv w4.drew := h5
                  have ho4d : w4.drew.ownsRow w2.heap.size 41 2 lv l.length (cellsC l) := ho4
                  have hqb : (Q == U) = false := by
                    cases hb : Q == U with
                    | false => rfl
                    | true => exact absurd (eq_of_beq hb) HQ.out
                  clear HQ
                  go_region_held3 (fun _ => True) (trivial)
                    (first
                      | (go_at_call 11; refine (hsm _).mono ?_; rintro e w5 ⟨rfl, hb5⟩; have qB := hB4d.trans (hb5.mono (Nat.le_of_lt hr4)); have qR := h5d.below hb5; have qO := owns_below ho4d hb5)
                      | (go_at_call 23; refine (hnu _).mono ?_; rintro e w6 ⟨rfl, hb6⟩; have sB := qB.trans (hb6.mono (Nat.le_of_lt qR.lt)); have sR := qR.below hb6; have sO := owns_below qO hb6))
                  have c61 := sR.c1
                  go_wp2_with fail
                  go_ret2
                  exact ⟨_, rfl, listAt_nil _, by (try rw [hR]); exact sB⟩
          · have hni : ((n : Int) == (D.length : Int)) = false := by
              cases hb : (n : Int) == (D.length : Int) with
              | false => rfl
              | true => have := eq_of_beq hb; omega
            have hFv : F = none := by rw [HEF.out, if_neg (fun h => hN h.2)]
            subst hFv
            obtain rfl : E = 6 := HE.out
            obtain rfl : L = [] := HL.out
            clear HE HL
            go_wp2_with fail
            go_ret2
            exact ⟨_, rfl, listAt_nil _, by (try rw [hR]); exact hB2⟩
        · have hmb : (mg == [83, 72, 78, 68]) = false := by
            cases hb : mg == [83, 72, 78, 68] with
            | false => rfl
            | true => exact absurd (eq_of_beq hb) hM
          have hFv : F = none := by rw [HEF.out, if_neg (fun h => hM h.1)]
          subst hFv
          obtain rfl : E = 6 := HE.out
          obtain rfl : L = [] := HL.out
          clear HE HL
          go_wp2_with fail
          go_ret2
          exact ⟨_, rfl, listAt_nil _, by (try rw [hR]); exact hB2⟩

end Go.Proofs.YteleaiodkljigaaDoor
