/-
  shown: the calls that every law of the layer makes first: the walk (printed by gen_pshown.py).
-/
import Derived.Test.YthmpobimmbmddaaGreatDoorPSReg
import Derived.Test.YthmpobimmbmddaaGreatDoorPBitsW
namespace Go.Proofs.YthmpobimmbmddaaGreatDoor
open Go.RowKit Go.Maps Go.WideMaps
set_option linter.unusedVariables false
set_option linter.unusedSimpArgs false

def tm0 : Tm := .mk 0 0 0 ⟨#[]⟩ ⟨#[]⟩ 0 [] ⟨#[]⟩ 0
theorem tm0_ok : tm0.Ok := by
  have z : I64 0 := by unfold I64; omega
  have e : (ByteArray.mk #[]).size ≤ maxLen := by decide
  exact ⟨z, z, z, e, e, z, (by show 0 ≤ maxLen; decide), e, z⟩
def fdAb : Fd := ⟨4, ⟨#[97, 98]⟩, tm0, tm0, false, false, false⟩
abbrev abR : Array Value := #[.int .i64 4, .string ⟨#[97, 98]⟩, .int .i64 0, .int .i64 0, .int .i64 0, .string ⟨#[]⟩, .string ⟨#[]⟩, .int .i64 0, .slice none 0 0, .string ⟨#[]⟩, .int .i64 0, .int .i64 0, .int .i64 0, .int .i64 0, .string ⟨#[]⟩, .string ⟨#[]⟩, .int .i64 0, .slice none 0 0, .string ⟨#[]⟩, .int .i64 0, .bool false, .bool false, .bool false]
set_option maxRecDepth 100000 in
theorem bits_ab {w : World} {g : Nat} (h : w.heap[g]? = some (.cells abR 30 (0, 0))) : Calls Tryz.prog 11 #[.slice (some ⟨g, 0, none⟩) 1 1] w fun e w' => e = .returned (.tuple #[.agg #[.int .i64 10, .int .i64 0, .int .i64 0, .string ⟨#[]⟩, .string ⟨#[]⟩, .int .i64 0, .slice none 0 0, .string ⟨#[97, 98]⟩, .int .i64 16], noneV]) ∧ Below w.heap.size w w' := by
  have hs : SlAt w 23 (FdR w 1) (some ⟨g, 0, none⟩) [fdAb] := .inr ⟨g, 0, rfl, lt_of_row h, fun j hj => by
    obtain rfl : j = 0 := by simpa using hj
    refine ⟨abR.toList, rfl, fun i hi => ?_, ⟨none, 0, none, 0, rfl, .nil _ _ _ _, .nil _ _ _ _⟩, by unfold I64 fdAb; simp, by show (2 : Nat) ≤ maxLen; decide, tm0_ok, tm0_ok⟩
    rw [cell_of_row _ _ _ _ _ _ h, show 0 + 0 * 23 + i = i by omega, Array.getElem?_toList]⟩
  refine (pbits_any 1 [fdAb] [some (bitsL [97, 98])] (some ⟨g, 0, none⟩) 1 w hs (by simp) rfl (fun k hk h2 => ?_) (fun k m hm => ?_)).mono ?_
  · obtain rfl : k = 0 := by simpa using hk
    exact field_text 1 fdAb rfl (by decide)
  · match k, hm with
    | 0, hm => simp at hm; subst hm; decide
    | k + 1, hm => simp at hm
  · rintro e w' ⟨h1, h2⟩
    have e1 : [bitsL [97, 98]].flatten = bitsL [97, 98] := by simp
    have e2 : bstr (bitsL [97, 98]) = ⟨#[97, 98]⟩ := bstr_bits ⟨#[97, 98]⟩
    have h1 : if [bitsL [97, 98]].flatten.length ≤ 16384 then e = .returned (.tuple #[bitsV' [bitsL [97, 98]].flatten, noneV]) else e = _ := h1
    rw [e1, if_pos (by decide)] at h1
    refine ⟨h1.trans ?_, h2⟩
    unfold bitsV'
    rw [e2]; rfl
set_option maxRecDepth 100000 in
theorem class_el : classB ⟨#[101, 108, 101, 109, 101, 110, 116]⟩ 2 = 1 := by kernel_rfl
set_option maxRecDepth 100000 in
theorem class_sp : classB ⟨#[115, 112, 97, 119, 110]⟩ 3 = 3 := by kernel_rfl
set_option maxRecDepth 100000 in
set_option maxHeartbeats 8000000 in
theorem shown_any (w : World) (hsp : SpaceAt w) : Calls Tryz.prog 6 #[] w fun e w' => e = .returned (.bool true) ∧ Below w.heap.size w w' := by
  have HSp := Lib.hid hsp
  clear hsp
  go_enter Tryz.func6, Tryz.ntmps6
  go_upto_region 2 with (first | (go_at_call 17; (first | (refine (rint_is 1 _).mono ?_; rintro e wa ⟨rfl, hba⟩) | (refine (rint_is 2 _).mono ?_; rintro e wb ⟨rfl, hbb⟩))) | fail)
  have hB := below_next hba hbb
  have h1 := two0 wb (.cells #[.int .i64 1, .int .i64 1, .int .i64 0, .string ⟨#[]⟩, .string ⟨#[]⟩, .int .i64 0, .slice none 0 0, .string ⟨#[]⟩, .int .i64 0] 28) (.cells #[.int .i64 1, .int .i64 2, .int .i64 0, .string ⟨#[]⟩, .string ⟨#[]⟩, .int .i64 0, .slice none 0 0, .string ⟨#[]⟩, .int .i64 0] 28)
  have h2 := two1 wb (.cells #[.int .i64 1, .int .i64 1, .int .i64 0, .string ⟨#[]⟩, .string ⟨#[]⟩, .int .i64 0, .slice none 0 0, .string ⟨#[]⟩, .int .i64 0] 28) (.cells #[.int .i64 1, .int .i64 2, .int .i64 0, .string ⟨#[]⟩, .string ⟨#[]⟩, .int .i64 0, .slice none 0 0, .string ⟨#[]⟩, .int .i64 0] 28)
  have h3 := below_next hB (two_below wb (.cells #[.int .i64 1, .int .i64 1, .int .i64 0, .string ⟨#[]⟩, .string ⟨#[]⟩, .int .i64 0, .slice none 0 0, .string ⟨#[]⟩, .int .i64 0] 28) (.cells #[.int .i64 1, .int .i64 2, .int .i64 0, .string ⟨#[]⟩, .string ⟨#[]⟩, .int .i64 0, .slice none 0 0, .string ⟨#[]⟩, .int .i64 0] 28))
  generalize hwc : (wb.alloc (.cells #[.int .i64 1, .int .i64 1, .int .i64 0, .string ⟨#[]⟩, .string ⟨#[]⟩, .int .i64 0, .slice none 0 0, .string ⟨#[]⟩, .int .i64 0] 28)).alloc (.cells #[.int .i64 1, .int .i64 2, .int .i64 0, .string ⟨#[]⟩, .string ⟨#[]⟩, .int .i64 0, .slice none 0 0, .string ⟨#[]⟩, .int .i64 0] 28) = wc at *
  have H1 := Lib.hid h1; have H3 := Lib.hid h3
  obtain ⟨a0, a1, a2, a3, a4, a5, a6, a7, a8, _⟩ := term_cells h1
  obtain ⟨b0, b1, b2, b3, b4, b5, b6, b7, b8, _⟩ := term_cells h2
  clear h1 h2 h3 hba hbb hB hwc
  generalize wb.heap.size = A at *
  go_upto_region 3 with (first | (go_at_call 19; refine (apply_12 (g := wc.heap.size) (heap_alloc_new _ _)).mono ?_; rintro e w2 ⟨rfl, hb2⟩) | fail)
  have hb2' := below_next H3.out (below_next ((Below.refl _ _).alloc (Nat.le_refl _) _) hb2)
  have h1 := ((below_next ((Below.refl wc.heap.size wc).alloc (Nat.le_refl _) (.cells (twoR 1 2) 28)) hb2).block _ (lt_of_row H1.out)).trans H1.out
  have h3 := two0 w2 (.cells #[.int .i64 1, .int .i64 3, .int .i64 0, .string ⟨#[]⟩, .string ⟨#[]⟩, .int .i64 0, .slice none 0 0, .string ⟨#[]⟩, .int .i64 0] 28) (.cells zRow10 34)
  have h4 := two1 w2 (.cells #[.int .i64 1, .int .i64 3, .int .i64 0, .string ⟨#[]⟩, .string ⟨#[]⟩, .int .i64 0, .slice none 0 0, .string ⟨#[]⟩, .int .i64 0] 28) (.cells zRow10 34)
  have hb3 := two_below w2 (.cells #[.int .i64 1, .int .i64 3, .int .i64 0, .string ⟨#[]⟩, .string ⟨#[]⟩, .int .i64 0, .slice none 0 0, .string ⟨#[]⟩, .int .i64 0] 28) (.cells zRow10 34)
  have H1b := Lib.hid ((hb3.block _ (lt_of_row h1)).trans h1)
  have H3b := Lib.hid (below_next hb2' hb3)
  have HA := Lib.hid h3; have HE := Lib.hid h4
  clear a0 a1 a2 a3 a4 a5 a6 a7 a8 b0 b1 b2 b3 b4 b5 b6 b7 b8 h1 h3 h4 hb3 hb2' hb2 H1 H3
  generalize (w2.alloc (.cells #[.int .i64 1, .int .i64 3, .int .i64 0, .string ⟨#[]⟩, .string ⟨#[]⟩, .int .i64 0, .slice none 0 0, .string ⟨#[]⟩, .int .i64 0] 28)).alloc (.cells zRow10 34) = W3 at *
  generalize w2.heap.size = C at *
  refine wp_region_inv (ops := sops) (SI2 A C (C + 1) W3) (by kernel_rfl) (by kernel_rfl) sops_back ?_ (fun listed a w i hs h hr => SI2.step h i (by rw [← sops_size]; exact (ready_mem hr).1) hr) ?_
  · have hd : Below W3.heap.size W3 W3.drew := (Below.refl _ _).drew
    have hl : ∀ j, (Array.replicate sops.size false).getD j false = false := fun j => by
      rw [Array.getD_eq_getD_getElem?, Array.getElem?_replicate]; split <;> rfl
    refine ⟨⟨rfl, rfl, rfl, rfl, rfl, hd, (hd.block _ (lt_of_row H1b.out)).trans H1b.out, fun i hi h => ?_, fun h => ?_, fun h => ?_, H1b.out⟩, by rw [Array.size_replicate, sops_size]; decide, fun h => ?_⟩
    · rw [hl] at h; cases h
    · rw [hl] at h; cases h
    · rw [hl] at h; cases h
    · rw [hl] at h; cases h
  intro listed a W4 h2 hall
  have h := h2.1
  obtain ⟨p, f6, hp, hrow⟩ := h.b6 (hall 9 (by rw [sops_size]; decide))
  rw [hall 11 (by rw [sops_size]; decide), if_pos rfl] at hrow
  have HF := Lib.hid hrow
  have HB4 := Lib.hid (below_next H3b.out h.bel)
  have HA4 := Lib.hid ((h.bel.block _ (lt_of_row HA.out)).trans HA.out)
  have HE4 := Lib.hid ((h.bel.block _ (lt_of_row HE.out)).trans HE.out)
  obtain ⟨tm, df⟩ := a
  obtain rfl : df = [] := h.df
  obtain ⟨f, hf, hfd⟩ := frame_fun tm h.sz
  have g3 : f 3 = .pointer (some ⟨C, 0, none⟩) := (hfd 3).trans h.e3
  have g4 : f 4 = .pointer (some ⟨C + 1, 0, none⟩) := (hfd 4).trans h.e4
  have g6 : f 6 = .pointer (some ⟨p, 0, none⟩) := (hfd 6).trans f6
  clear hrow hp f6 hfd h h2 hall HA HE H1b H3b listed
  subst hf
  simp only [g3, g4, g6]
  have HSp4 := Lib.hid (HSp.out.below HB4.out)
  go_upto_region 5 with (first | (go_at_call 19; refine (apply_foo _ HSp4.out).mono ?_; rintro e w5 ⟨rfl, hb5⟩) | fail)
  have HG := Lib.hid (two1 w5 (.cells zRow9 28) (.cells #[.string ⟨#[101, 114, 114, 111, 114]⟩, .int .i64 2, .int .i64 0, .int .i64 0, .string ⟨#[117, 110, 100, 101, 102]⟩, .string ⟨#[]⟩, .int .i64 0, .slice none 0 0, .string ⟨#[]⟩, .int .i64 0] 34))
  have hbx := two_below w5 (.cells zRow9 28) (.cells #[.string ⟨#[101, 114, 114, 111, 114]⟩, .int .i64 2, .int .i64 0, .int .i64 0, .string ⟨#[117, 110, 100, 101, 102]⟩, .string ⟨#[]⟩, .int .i64 0, .slice none 0 0, .string ⟨#[]⟩, .int .i64 0] 34)
  have hb45 := Lib.hid (below_next hb5 hbx)
  clear hbx hb5
  generalize (w5.alloc (.cells zRow9 28)).alloc (.cells #[.string ⟨#[101, 114, 114, 111, 114]⟩, .int .i64 2, .int .i64 0, .int .i64 0, .string ⟨#[117, 110, 100, 101, 102]⟩, .string ⟨#[]⟩, .int .i64 0, .slice none 0 0, .string ⟨#[]⟩, .int .i64 0] 34) = W5 at *
  obtain ⟨G, hG⟩ : ∃ G, G = w5.heap.size := ⟨_, rfl⟩
  rw [← hG] at HG ⊢
  clear hG
  go_upto_region 6 with (first | (go_at_call 11; refine (bits_ab (g := W5.heap.size) (heap_alloc_new _ _)).mono ?_; rintro e w6 ⟨rfl, hb6⟩) | fail)
  have HT := Lib.hid (two0 w6 (.cells #[.int .i64 10, .int .i64 0, .int .i64 0, .string ⟨#[]⟩, .string ⟨#[]⟩, .int .i64 0, .slice none 0 0, .string ⟨#[97, 98]⟩, .int .i64 16] 28) (.cells zRow10 34))
  have HX := Lib.hid (two1 w6 (.cells #[.int .i64 10, .int .i64 0, .int .i64 0, .string ⟨#[]⟩, .string ⟨#[]⟩, .int .i64 0, .slice none 0 0, .string ⟨#[97, 98]⟩, .int .i64 16] 28) (.cells zRow10 34))
  have hb46 := below_next hb45.out (below_next (below_next ((Below.refl _ _).alloc (Nat.le_refl _) _) hb6) (two_below w6 (.cells #[.int .i64 10, .int .i64 0, .int .i64 0, .string ⟨#[]⟩, .string ⟨#[]⟩, .int .i64 0, .slice none 0 0, .string ⟨#[97, 98]⟩, .int .i64 16] 28) (.cells zRow10 34)))
  have hb56 := below_next (below_next ((Below.refl W5.heap.size W5).alloc (Nat.le_refl _) (.cells abR 30)) hb6) (two_below w6 (.cells #[.int .i64 10, .int .i64 0, .int .i64 0, .string ⟨#[]⟩, .string ⟨#[]⟩, .int .i64 0, .slice none 0 0, .string ⟨#[97, 98]⟩, .int .i64 16] 28) (.cells zRow10 34))
  have HG6 := Lib.hid ((hb56.block _ (lt_of_row HG.out)).trans HG.out)
  have HF6 := Lib.hid ((hb46.block _ (lt_of_row HF.out)).trans HF.out)
  have HA6 := Lib.hid ((hb46.block _ (lt_of_row HA4.out)).trans HA4.out)
  have HE6 := Lib.hid ((hb46.block _ (lt_of_row HE4.out)).trans HE4.out)
  have HB6 := Lib.hid (below_next HB4.out hb46)
  have HS6 := Lib.hid (HSp4.out.below hb46)
  clear hb46 hb56 hb45 hb6 HG HF HA4 HE4 HB4 HSp4 HSp
  generalize (w6.alloc (.cells #[.int .i64 10, .int .i64 0, .int .i64 0, .string ⟨#[]⟩, .string ⟨#[]⟩, .int .i64 0, .slice none 0 0, .string ⟨#[97, 98]⟩, .int .i64 16] 28)).alloc (.cells zRow10 34) = W6 at *
  obtain ⟨T, hT⟩ : ∃ T, T = w6.heap.size := ⟨_, rfl⟩
  rw [← hT] at HT HX ⊢
  clear hT
  have a0 : W6.cell? ⟨C, 0, none⟩ = some (.int .i64 1) := cell_of_row _ _ 0 _ _ _ HA6.out
  have a1 : W6.cell? ⟨C, 1, none⟩ = some (.int .i64 3) := cell_of_row _ _ 1 _ _ _ HA6.out
  have e0 : W6.cell? ⟨C + 1, 0, none⟩ = some (.string ⟨#[]⟩) := cell_of_row _ _ 0 _ _ _ HE6.out
  have f0 : W6.cell? ⟨p, 0, none⟩ = some (.string ⟨#[101, 114, 114, 111, 114]⟩) := cell_of_row _ _ 0 _ _ _ HF6.out
  have f4 : W6.cell? ⟨p, 4, none⟩ = some (.string ⟨#[98, 97, 100, 97, 114, 105, 116, 104]⟩) := cell_of_row _ _ 4 _ _ _ HF6.out
  have g4 : W6.cell? ⟨G + 1, 4, none⟩ = some (.string ⟨#[117, 110, 100, 101, 102]⟩) := cell_of_row _ _ 4 _ _ _ HG6.out
  have t7 : W6.cell? ⟨T, 7, none⟩ = some (.string ⟨#[97, 98]⟩) := cell_of_row _ _ 7 _ _ _ HT.out
  have t8 : W6.cell? ⟨T, 8, none⟩ = some (.int .i64 16) := cell_of_row _ _ 8 _ _ _ HT.out
  have x0 : W6.cell? ⟨T + 1, 0, none⟩ = some (.string ⟨#[]⟩) := cell_of_row _ _ 0 _ _ _ HX.out
  clear HT HX HA6 HE6 HG6 HF6
  have hc1 := class_any ⟨#[101, 108, 101, 109, 101, 110, 116]⟩ 2 W6 HS6.out (by decide) (by unfold I64; omega)
  rw [class_el] at hc1
  have hc2 := fun wx (hx : Below W6.heap.size W6 wx) => class_any ⟨#[115, 112, 97, 119, 110]⟩ 3 wx (HS6.out.below hx) (by decide) (by unfold I64; omega)
  rw [class_sp] at hc2
  have HC1 := Lib.hid hc1; have HC2 := Lib.hid hc2
  clear hc1 hc2
  go_wp2_with fail
  refine HC1.out.mono ?_
  rintro e w7 ⟨rfl, hb7⟩
  go_wp2_with fail
  refine (HC2.out _ hb7).mono ?_
  rintro e w8 ⟨rfl, hb8⟩
  go_wp2_with fail
  go_ret
  exact ⟨rfl, below_next (below_next HB6.out hb7) hb8⟩
end Go.Proofs.YthmpobimmbmddaaGreatDoor
