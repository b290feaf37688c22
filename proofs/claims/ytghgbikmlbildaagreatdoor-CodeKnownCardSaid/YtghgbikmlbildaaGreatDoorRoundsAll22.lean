/-
  The external format's reader: term, the short ways: the walks (printed by gen_hterm.py). The external format's reader: term, the long ways: the walks (printed by gen_hterm.py). The external format's reader: term, the way of a short integer, the way of funs, and the whole: the walks (printed by gen_hterm.py). The external format's decoder counts a term's parts.
-/
import Derived.Test.YtghgbikmlbildaaGreatDoorRoundsAll06
import Derived.Test.YtghgbikmlbildaaGreatDoorRoundsAll21
namespace Go.Proofs.YtghgbikmlbildaaGreatDoor
open Go.RowKit
set_option linter.unusedVariables false
set_option linter.unusedSimpArgs false

set_option maxRecDepth 100000 in
set_option maxHeartbeats 4000000 in
theorem term_97 (f r : Nat) (s : ByteArray) (l : List UInt8) (p : Nat) (w : World) (h : RdL r s l p w) (hp : p + 1 ≤ 2000) (hx : ∃ l1, byteD l = some (97, l1)) :
  Calls Tryz.prog 170 #[.pointer (some ⟨r, 0, none⟩)] w (TmPost r s (f + 1) w (termD (f + 1) p l)) := by
 generalize hQ : TmPost r s (f + 1) w (termD (f + 1) p l) = Q at *
 have HQ := Lib.hid hQ
 clear hQ
 obtain ⟨l1, hx⟩ := hx
 have HD : Hid (termD (f + 1) p l = (byteD l1).bind fun x => some ((tmK 1 (int := x.1), p + 1), x.2)) := Lib.hid (by unfold termD; rw [if_pos hp, hx, Option.bind_some]; rfl)
 have hle : decide ((p : Int) + 1 ≤ 2000) = true := decide_eq_true (by omega)
 have S0 := StO.start h
 unfold zeroRow at S0
 go_enter Tryz.func170, Tryz.ntmps170
 go_upto_region 1 with fail
 generalize w.alloc _ = w0 at *
 obtain ⟨c2, f2⟩ := S0.rd.parts
 go_upto_region 2 with fail
 have S1 := S0.parts
 clear S0 c2 f2
 generalize w0.setCell _ _ = w1 at *
 obtain ⟨c2, f2⟩ := S1.rd.parts
 rw [show ((p + 1 : Nat) : Int) = (p : Int) + 1 by omega] at c2
 have HB := byte_l r s l (p + 1) w1 S1.rd
 rw [hx] at HB
 go_wp2_with (first | (go_at_call 171; refine (demand_yes _ _).mono ?_; rintro e w2 ⟨rfl, rfl⟩) | (go_at_call 201; refine HB.mono ?_; rintro e v0 ⟨rfl, hr0, hg0⟩; have S0 := S1.call hr0 hg0; clear S1 hr0 hg0 HB c2 f2 hle))
 have H1 := byte_l r s l1 (p + 1) _ S0.rd
 rcases h1 : byteD l1 with _ | ⟨n, l2⟩
 ·rw [h1] at H1 HD
  go_wp2_with (go_at_call 201; refine H1.mono ?_; rintro e v1 ⟨rfl, hg1⟩)
  exact ⟨rfl, by rw [← HQ.out, HD.out]; exact ⟨rfl, grownBy_trans S0.gr hg1⟩⟩
 rw [h1] at H1 HD
 rw [Option.bind_some] at HD
 go_wp2_with (first | (go_at_call 201; refine H1.mono ?_; rintro e v1 ⟨rfl, hr1, hg1⟩; have S1 := S0.call hr1 hg1; clear S0 H1 hr1 hg1) | (go_at_call 202; refine (tint_any _ _).mono ?_; rintro e t1 ⟨rfl, hb⟩; have S9 := S1.below hb; clear S1 hb; obtain ⟨x0, x1, x2, x3, x4, x5, x6, x7, x8, y0, y1, y2, y3, y4, y5, y6, y7, y8⟩ := term_cells S9.x))
 refine bodyPost_ret (results_cell_row rfl _ _ w.heap.size _ _ _ _ rfl (set9 _ _ _ _ _ _ _ _ _ S9.x) Tryz.underlying78 rfl (by kernel_rfl)) rfl ?_
 rw [← HQ.out, HD.out]
 exact ⟨⟨none, 0, rfl, none, 0, rfl, .inl rfl⟩, (S9.fin _ _ _ _ _ _ _ _ _).1, (S9.fin _ _ _ _ _ _ _ _ _).2⟩

set_option maxRecDepth 100000 in
set_option maxHeartbeats 4000000 in
theorem term_110 (f r : Nat) (s : ByteArray) (l : List UInt8) (p : Nat) (w : World) (h : RdL r s l p w) (hp : p + 1 ≤ 2000) (hx : ∃ l1, byteD l = some (110, l1)) :
  Calls Tryz.prog 170 #[.pointer (some ⟨r, 0, none⟩)] w (TmPost r s (f + 1) w (termD (f + 1) p l)) := by
 generalize hQ : TmPost r s (f + 1) w (termD (f + 1) p l) = Q at *
 have HQ := Lib.hid hQ
 clear hQ
 obtain ⟨l1, hx⟩ := hx
 have HD : Hid (termD (f + 1) p l = (largeD l1).bind fun x => some ((tmK 1 (int := x.1), p + 1), x.2)) := Lib.hid (by unfold termD; rw [if_pos hp, hx, Option.bind_some]; rfl)
 have hle : decide ((p : Int) + 1 ≤ 2000) = true := decide_eq_true (by omega)
 have S0 := StO.start h
 unfold zeroRow at S0
 go_enter Tryz.func170, Tryz.ntmps170
 go_upto_region 1 with fail
 generalize w.alloc _ = w0 at *
 obtain ⟨c2, f2⟩ := S0.rd.parts
 go_upto_region 2 with fail
 have S1 := S0.parts
 clear S0 c2 f2
 generalize w0.setCell _ _ = w1 at *
 obtain ⟨c2, f2⟩ := S1.rd.parts
 rw [show ((p + 1 : Nat) : Int) = (p : Int) + 1 by omega] at c2
 have HB := byte_l r s l (p + 1) w1 S1.rd
 rw [hx] at HB
 go_wp2_with (first | (go_at_call 171; refine (demand_yes _ _).mono ?_; rintro e w2 ⟨rfl, rfl⟩) | (go_at_call 201; refine HB.mono ?_; rintro e v0 ⟨rfl, hr0, hg0⟩; have S0 := S1.call hr0 hg0; clear S1 hr0 hg0 HB c2 f2 hle))
 have H1 := large_l r s l1 (p + 1) _ S0.rd
 rcases h1 : largeD l1 with _ | ⟨n, l2⟩
 ·rw [h1] at H1 HD
  go_wp2_with (go_at_call 204; refine H1.mono ?_; rintro e v1 ⟨rfl, hg1⟩)
  exact ⟨rfl, by rw [← HQ.out, HD.out]; exact ⟨rfl, grownBy_trans S0.gr hg1⟩⟩
 rw [h1] at H1 HD
 rw [Option.bind_some] at HD
 go_wp2_with (first | (go_at_call 204; refine H1.mono ?_; rintro e v1 ⟨rfl, hr1, hg1⟩; have S1 := S0.call hr1 hg1; clear S0 H1 hr1 hg1) | (go_at_call 202; refine (tint_any _ _).mono ?_; rintro e t1 ⟨rfl, hb⟩; have S9 := S1.below hb; clear S1 hb; obtain ⟨x0, x1, x2, x3, x4, x5, x6, x7, x8, y0, y1, y2, y3, y4, y5, y6, y7, y8⟩ := term_cells S9.x))
 refine bodyPost_ret (results_cell_row rfl _ _ w.heap.size _ _ _ _ rfl (set9 _ _ _ _ _ _ _ _ _ S9.x) Tryz.underlying78 rfl (by kernel_rfl)) rfl ?_
 rw [← HQ.out, HD.out]
 exact ⟨⟨none, 0, rfl, none, 0, rfl, .inl rfl⟩, (S9.fin _ _ _ _ _ _ _ _ _).1, (S9.fin _ _ _ _ _ _ _ _ _).2⟩

set_option maxRecDepth 100000 in
set_option maxHeartbeats 4000000 in
theorem term_106 (f r : Nat) (s : ByteArray) (l : List UInt8) (p : Nat) (w : World) (h : RdL r s l p w) (hp : p + 1 ≤ 2000) (hx : ∃ l1, byteD l = some (106, l1)) :
  Calls Tryz.prog 170 #[.pointer (some ⟨r, 0, none⟩)] w (TmPost r s (f + 1) w (termD (f + 1) p l)) := by
 generalize hQ : TmPost r s (f + 1) w (termD (f + 1) p l) = Q at *
 have HQ := Lib.hid hQ
 clear hQ
 obtain ⟨l1, hx⟩ := hx
 have HD : Hid (termD (f + 1) p l = some ((tmK 8, p + 1), l1)) := Lib.hid (by unfold termD; rw [if_pos hp, hx, Option.bind_some]; rfl)
 have hle : decide ((p : Int) + 1 ≤ 2000) = true := decide_eq_true (by omega)
 have S0 := StO.start h
 unfold zeroRow at S0
 go_enter Tryz.func170, Tryz.ntmps170
 go_upto_region 1 with fail
 generalize w.alloc _ = w0 at *
 obtain ⟨c2, f2⟩ := S0.rd.parts
 go_upto_region 2 with fail
 have S1 := S0.parts
 clear S0 c2 f2
 generalize w0.setCell _ _ = w1 at *
 obtain ⟨c2, f2⟩ := S1.rd.parts
 rw [show ((p + 1 : Nat) : Int) = (p : Int) + 1 by omega] at c2
 have HB := byte_l r s l (p + 1) w1 S1.rd
 rw [hx] at HB
 go_wp2_with (first | (go_at_call 171; refine (demand_yes _ _).mono ?_; rintro e w2 ⟨rfl, rfl⟩) | (go_at_call 201; refine HB.mono ?_; rintro e v0 ⟨rfl, hr0, hg0⟩; have S0 := S1.call hr0 hg0; clear S1 hr0 hg0 HB c2 f2 hle) | (go_at_call 207; refine (tnil_any _).mono ?_; rintro e t1 ⟨rfl, hb⟩; have S9 := S0.below hb; clear S0 hb; obtain ⟨x0, x1, x2, x3, x4, x5, x6, x7, x8, y0, y1, y2, y3, y4, y5, y6, y7, y8⟩ := term_cells S9.x))
 refine bodyPost_ret (results_cell_row rfl _ _ w.heap.size _ _ _ _ rfl (set9 _ _ _ _ _ _ _ _ _ S9.x) Tryz.underlying78 rfl (by kernel_rfl)) rfl ?_
 rw [← HQ.out, HD.out]
 exact ⟨⟨none, 0, rfl, none, 0, rfl, .inl rfl⟩, (S9.fin _ _ _ _ _ _ _ _ _).1, (S9.fin _ _ _ _ _ _ _ _ _).2⟩

set_option maxRecDepth 100000 in
set_option maxHeartbeats 4000000 in
theorem term_119 (f r : Nat) (s : ByteArray) (l : List UInt8) (p : Nat) (w : World) (h : RdL r s l p w) (hp : p + 1 ≤ 2000) (hx : ∃ l1, byteD l = some (119, l1)) :
  Calls Tryz.prog 170 #[.pointer (some ⟨r, 0, none⟩)] w (TmPost r s (f + 1) w (termD (f + 1) p l)) := by
 generalize hQ : TmPost r s (f + 1) w (termD (f + 1) p l) = Q at *
 have HQ := Lib.hid hQ
 clear hQ
 obtain ⟨l1, hx⟩ := hx
 have HD : Hid (termD (f + 1) p l = (byteD l1).bind fun x => (strD x.1 x.2).bind fun y => some ((tmK 2 (name := y.1), p + 1), y.2)) := Lib.hid (by unfold termD; rw [if_pos hp, hx, Option.bind_some]; rfl)
 have hle : decide ((p : Int) + 1 ≤ 2000) = true := decide_eq_true (by omega)
 have S0 := StO.start h
 unfold zeroRow at S0
 go_enter Tryz.func170, Tryz.ntmps170
 go_upto_region 1 with fail
 generalize w.alloc _ = w0 at *
 obtain ⟨c2, f2⟩ := S0.rd.parts
 go_upto_region 2 with fail
 have S1 := S0.parts
 clear S0 c2 f2
 generalize w0.setCell _ _ = w1 at *
 obtain ⟨c2, f2⟩ := S1.rd.parts
 rw [show ((p + 1 : Nat) : Int) = (p : Int) + 1 by omega] at c2
 have HB := byte_l r s l (p + 1) w1 S1.rd
 rw [hx] at HB
 go_wp2_with (first | (go_at_call 171; refine (demand_yes _ _).mono ?_; rintro e w2 ⟨rfl, rfl⟩) | (go_at_call 201; refine HB.mono ?_; rintro e v0 ⟨rfl, hr0, hg0⟩; have S0 := S1.call hr0 hg0; clear S1 hr0 hg0 HB c2 f2 hle))
 have H1 := byte_l r s l1 (p + 1) _ S0.rd
 rcases h1 : byteD l1 with _ | ⟨n, l2⟩
 ·rw [h1] at H1 HD
  go_wp2_with (go_at_call 201; refine H1.mono ?_; rintro e v1 ⟨rfl, hg1⟩)
  exact ⟨rfl, by rw [← HQ.out, HD.out]; exact ⟨rfl, grownBy_trans S0.gr hg1⟩⟩
 rw [h1] at H1 HD
 rw [Option.bind_some] at HD
 go_wp2_with (go_at_call 201; refine H1.mono ?_; rintro e v1 ⟨rfl, hr1, hg1⟩; have S1 := S0.call hr1 hg1; clear S0 H1 hr1 hg1)
 have hn := (byteD_len h1).1
 have H2 := take_l r s l2 (p + 1) n _ S1.rd (by omega)
 rcases h2 : strD n l2 with _ | ⟨b, l3⟩
 ·rw [h2] at H2 HD
  go_wp2_with (go_at_call 205; refine H2.mono ?_; rintro e v2 ⟨rfl, hg2⟩)
  exact ⟨rfl, by rw [← HQ.out, HD.out]; exact ⟨rfl, grownBy_trans S1.gr hg2⟩⟩
 rw [h2] at H2 HD
 rw [Option.bind_some] at HD
 go_wp2_with (go_at_call 205; refine H2.mono ?_; rintro e v2 ⟨rfl, hr2, hg2⟩; have S2 := S1.call hr2 hg2; clear S1 H2 hr2 hg2; obtain ⟨x0, x1, x2, x3, x4, x5, x6, x7, x8, y0, y1, y2, y3, y4, y5, y6, y7, y8⟩ := term_cells S2.x)
 refine bodyPost_ret (results_cell_row rfl _ _ w.heap.size _ _ _ _ rfl (set9 _ _ _ _ _ _ _ _ _ S2.x) Tryz.underlying78 rfl (by kernel_rfl)) rfl ?_
 rw [← HQ.out, HD.out]
 exact ⟨⟨none, 0, rfl, none, 0, rfl, .inl rfl⟩, (S2.fin _ _ _ _ _ _ _ _ _).1, (S2.fin _ _ _ _ _ _ _ _ _).2⟩

set_option maxRecDepth 100000 in
set_option maxHeartbeats 4000000 in
theorem term_104 (f r : Nat) (s : ByteArray) (l : List UInt8) (p : Nat) (w : World) (h : RdL r s l p w) (hp : p + 1 ≤ 2000) (HI : ItemsP f) (hpf : 2000 ≤ p + 1 + f) (hx : ∃ l1, byteD l = some (104, l1)) :
  Calls Tryz.prog 170 #[.pointer (some ⟨r, 0, none⟩)] w (TmPost r s (f + 1) w (termD (f + 1) p l)) := by
 generalize hQ : TmPost r s (f + 1) w (termD (f + 1) p l) = Q at *
 have HQ := Lib.hid hQ
 clear hQ
 obtain ⟨l1, hx⟩ := hx
 have HD : Hid (termD (f + 1) p l = (byteD l1).bind fun x => (itemsD (termD f) x.1 (p + 1) x.2).bind fun y => some ((tmK 7 (items := y.1.1), y.1.2), y.2)) := Lib.hid (by unfold termD; rw [if_pos hp, hx, Option.bind_some]; rfl)
 have hle : decide ((p : Int) + 1 ≤ 2000) = true := decide_eq_true (by omega)
 have S0 := StO.start h
 unfold zeroRow at S0
 go_enter Tryz.func170, Tryz.ntmps170
 go_upto_region 1 with fail
 generalize w.alloc _ = w0 at *
 obtain ⟨c2, f2⟩ := S0.rd.parts
 go_upto_region 2 with fail
 have S1 := S0.parts
 clear S0 c2 f2
 generalize w0.setCell _ _ = w1 at *
 obtain ⟨c2, f2⟩ := S1.rd.parts
 rw [show ((p + 1 : Nat) : Int) = (p : Int) + 1 by omega] at c2
 have HB := byte_l r s l (p + 1) w1 S1.rd
 rw [hx] at HB
 go_wp2_with (first | (go_at_call 171; refine (demand_yes _ _).mono ?_; rintro e w2 ⟨rfl, rfl⟩) | (go_at_call 201; refine HB.mono ?_; rintro e v0 ⟨rfl, hr0, hg0⟩; have S0 := S1.call hr0 hg0; clear S1 hr0 hg0 HB c2 f2 hle))
 have H1 := byte_l r s l1 (p + 1) _ S0.rd
 rcases h1 : byteD l1 with _ | ⟨n, l2⟩
 ·rw [h1] at H1 HD
  go_wp2_with (go_at_call 201; refine H1.mono ?_; rintro e v1 ⟨rfl, hg1⟩)
  exact ⟨rfl, by rw [← HQ.out, HD.out]; exact ⟨rfl, grownBy_trans S0.gr hg1⟩⟩
 rw [h1] at H1 HD
 rw [Option.bind_some] at HD
 go_wp2_with (go_at_call 201; refine H1.mono ?_; rintro e v1 ⟨rfl, hr1, hg1⟩; have S1 := S0.call hr1 hg1; clear S0 H1 hr1 hg1)
 have hn := (byteD_len h1).1
 have hxb := lt_of_row S1.x
 have hgb := S1.gr.size
 have H2 := HI r s l2 (p + 1) n _ S1.rd (by omega) (by omega) (by omega)
 rcases h2 : itemsD (termD f) n (p + 1) l2 with _ | ⟨⟨ts, p2⟩, l3⟩
 ·rw [h2] at H2 HD
  go_wp2_with (go_at_call 206; refine H2.mono ?_; rintro e v2 ⟨rfl, hg2⟩)
  exact ⟨rfl, by rw [← HQ.out, HD.out]; exact ⟨rfl, grownBy_trans S1.gr hg2⟩⟩
 rw [h2] at H2 HD
 rw [Option.bind_some] at HD
 go_wp2_with (go_at_call 206; refine H2.mono ?_; rintro e v2 ⟨⟨so, c, rfl, hsl⟩, hr2, hg2⟩; have S2 := S1.call hr2 hg2; clear S1 H2 hr2 hg2; have HSL := Lib.hid hsl; clear hsl; obtain ⟨x0, x1, x2, x3, x4, x5, x6, x7, x8, y0, y1, y2, y3, y4, y5, y6, y7, y8⟩ := term_cells S2.x)
 refine bodyPost_ret (results_cell_row rfl _ _ w.heap.size _ _ _ _ rfl (set9 _ _ _ _ _ _ _ _ _ S2.x) Tryz.underlying78 rfl (by kernel_rfl)) rfl ?_
 rw [← HQ.out, HD.out]
 exact ⟨⟨so, c, rfl, so, c, rfl, HSL.out.off (OffB.nine _ _ _ _ _ _ _ _ _ _ _) hxb hgb⟩, (S2.fin _ _ _ _ _ _ _ _ _).1, (S2.fin _ _ _ _ _ _ _ _ _).2⟩

set_option maxRecDepth 100000 in
set_option maxHeartbeats 4000000 in
theorem term_108 (f r : Nat) (s : ByteArray) (l : List UInt8) (p : Nat) (w : World) (h : RdL r s l p w) (hp : p + 1 ≤ 2000) (HI : ItemsP f) (hpf : 2000 ≤ p + 1 + f) (hx : ∃ l1, byteD l = some (108, l1)) :
  Calls Tryz.prog 170 #[.pointer (some ⟨r, 0, none⟩)] w (TmPost r s (f + 1) w (termD (f + 1) p l)) := by
 generalize hQ : TmPost r s (f + 1) w (termD (f + 1) p l) = Q at *
 have HQ := Lib.hid hQ
 clear hQ
 obtain ⟨l1, hx⟩ := hx
 have HD : Hid (termD (f + 1) p l = (numD 4 l1).bind fun x => (itemsD (termD f) (x.1 + 1) (p + 1) x.2).bind fun y => some ((tmK 9 (items := y.1.1), y.1.2), y.2)) := Lib.hid (by unfold termD; rw [if_pos hp, hx, Option.bind_some]; rfl)
 have hle : decide ((p : Int) + 1 ≤ 2000) = true := decide_eq_true (by omega)
 have S0 := StO.start h
 unfold zeroRow at S0
 go_enter Tryz.func170, Tryz.ntmps170
 go_upto_region 1 with fail
 generalize w.alloc _ = w0 at *
 obtain ⟨c2, f2⟩ := S0.rd.parts
 go_upto_region 2 with fail
 have S1 := S0.parts
 clear S0 c2 f2
 generalize w0.setCell _ _ = w1 at *
 obtain ⟨c2, f2⟩ := S1.rd.parts
 rw [show ((p + 1 : Nat) : Int) = (p : Int) + 1 by omega] at c2
 have HB := byte_l r s l (p + 1) w1 S1.rd
 rw [hx] at HB
 go_wp2_with (first | (go_at_call 171; refine (demand_yes _ _).mono ?_; rintro e w2 ⟨rfl, rfl⟩) | (go_at_call 201; refine HB.mono ?_; rintro e v0 ⟨rfl, hr0, hg0⟩; have S0 := S1.call hr0 hg0; clear S1 hr0 hg0 HB c2 f2 hle))
 have H1 := number_l r s l1 (p + 1) 4 _ S0.rd (by omega)
 rcases h1 : numD 4 l1 with _ | ⟨n, l2⟩
 ·rw [h1] at H1 HD
  go_wp2_with (go_at_call 203; refine H1.mono ?_; rintro e v1 ⟨rfl, hg1⟩)
  exact ⟨rfl, by rw [← HQ.out, HD.out]; exact ⟨rfl, grownBy_trans S0.gr hg1⟩⟩
 rw [h1] at H1 HD
 rw [Option.bind_some] at HD
 have hn := (numD_len h1).1
 rw [show (256 : Nat) ^ 4 = 4294967296 from rfl] at hn
 go_wp2_with (go_at_call 203; refine H1.mono ?_; rintro e v1 ⟨rfl, hr1, hg1⟩; have S1 := S0.call hr1 hg1; clear S0 H1 hr1 hg1)
 have hxb := lt_of_row S1.x
 have hgb := S1.gr.size
 have H2 := HI r s l2 (p + 1) (n + 1) _ S1.rd (by omega) (by omega) (by omega)
 rw [show ((n + 1 : Nat) : Int) = (n : Int) + 1 by omega] at H2
 rcases h2 : itemsD (termD f) (n + 1) (p + 1) l2 with _ | ⟨⟨ts, p2⟩, l3⟩
 ·rw [h2] at H2 HD
  go_wp2_with (go_at_call 206; refine H2.mono ?_; rintro e v2 ⟨rfl, hg2⟩)
  exact ⟨rfl, by rw [← HQ.out, HD.out]; exact ⟨rfl, grownBy_trans S1.gr hg2⟩⟩
 rw [h2] at H2 HD
 rw [Option.bind_some] at HD
 go_wp2_with (go_at_call 206; refine H2.mono ?_; rintro e v2 ⟨⟨so, c, rfl, hsl⟩, hr2, hg2⟩; have S2 := S1.call hr2 hg2; clear S1 H2 hr2 hg2; have HSL := Lib.hid hsl; clear hsl; obtain ⟨x0, x1, x2, x3, x4, x5, x6, x7, x8, y0, y1, y2, y3, y4, y5, y6, y7, y8⟩ := term_cells S2.x)
 refine bodyPost_ret (results_cell_row rfl _ _ w.heap.size _ _ _ _ rfl (set9 _ _ _ _ _ _ _ _ _ S2.x) Tryz.underlying78 rfl (by kernel_rfl)) rfl ?_
 rw [← HQ.out, HD.out]
 exact ⟨⟨so, c, rfl, so, c, rfl, HSL.out.off (OffB.nine _ _ _ _ _ _ _ _ _ _ _) hxb hgb⟩, (S2.fin _ _ _ _ _ _ _ _ _).1, (S2.fin _ _ _ _ _ _ _ _ _).2⟩

set_option maxRecDepth 100000 in
set_option maxHeartbeats 4000000 in
theorem term_109 (f r : Nat) (s : ByteArray) (l : List UInt8) (p : Nat) (w : World) (h : RdL r s l p w) (hp : p + 1 ≤ 2000) (hx : ∃ l1, byteD l = some (109, l1)) :
  Calls Tryz.prog 170 #[.pointer (some ⟨r, 0, none⟩)] w (TmPost r s (f + 1) w (termD (f + 1) p l)) := by
 generalize hQ : TmPost r s (f + 1) w (termD (f + 1) p l) = Q at *
 have HQ := Lib.hid hQ
 clear hQ
 obtain ⟨l1, hx⟩ := hx
 have HD : Hid (termD (f + 1) p l = (numD 4 l1).bind fun x => (strD x.1 x.2).bind fun y => some ((tmK 10 (bytes := y.1) (bits := 8 * (y.1.size : Int)), p + 1), y.2)) := Lib.hid (by unfold termD; rw [if_pos hp, hx, Option.bind_some]; rfl)
 have hle : decide ((p : Int) + 1 ≤ 2000) = true := decide_eq_true (by omega)
 have S0 := StO.start h
 unfold zeroRow at S0
 go_enter Tryz.func170, Tryz.ntmps170
 go_upto_region 1 with fail
 generalize w.alloc _ = w0 at *
 obtain ⟨c2, f2⟩ := S0.rd.parts
 go_upto_region 2 with fail
 have S1 := S0.parts
 clear S0 c2 f2
 generalize w0.setCell _ _ = w1 at *
 obtain ⟨c2, f2⟩ := S1.rd.parts
 rw [show ((p + 1 : Nat) : Int) = (p : Int) + 1 by omega] at c2
 have HB := byte_l r s l (p + 1) w1 S1.rd
 rw [hx] at HB
 go_wp2_with (first | (go_at_call 171; refine (demand_yes _ _).mono ?_; rintro e w2 ⟨rfl, rfl⟩) | (go_at_call 201; refine HB.mono ?_; rintro e v0 ⟨rfl, hr0, hg0⟩; have S0 := S1.call hr0 hg0; clear S1 hr0 hg0 HB c2 f2 hle))
 have H1 := number_l r s l1 (p + 1) 4 _ S0.rd (by omega)
 rcases h1 : numD 4 l1 with _ | ⟨n, l2⟩
 ·rw [h1] at H1 HD
  go_wp2_with (go_at_call 203; refine H1.mono ?_; rintro e v1 ⟨rfl, hg1⟩)
  exact ⟨rfl, by rw [← HQ.out, HD.out]; exact ⟨rfl, grownBy_trans S0.gr hg1⟩⟩
 rw [h1] at H1 HD
 rw [Option.bind_some] at HD
 go_wp2_with (go_at_call 203; refine H1.mono ?_; rintro e v1 ⟨rfl, hr1, hg1⟩; have S1 := S0.call hr1 hg1; clear S0 H1 hr1 hg1)
 have hn := (numD_len h1).1
 rw [show (256 : Nat) ^ 4 = 4294967296 from rfl] at hn
 have H2 := take_l r s l2 (p + 1) n _ S1.rd (by omega)
 rcases h2 : strD n l2 with _ | ⟨b, l3⟩
 ·rw [h2] at H2 HD
  go_wp2_with (go_at_call 205; refine H2.mono ?_; rintro e v2 ⟨rfl, hg2⟩)
  exact ⟨rfl, by rw [← HQ.out, HD.out]; exact ⟨rfl, grownBy_trans S1.gr hg2⟩⟩
 rw [h2] at H2 HD
 rw [Option.bind_some] at HD
 have hb := (strD_len h2).1
 have hw8 : IntKind.i64.wrap (8 * (b.size : Int)) = 8 * (b.size : Int) := by rw [IntKind.wrap_i64]; omega
 clear hb
 go_wp2_with (go_at_call 205; refine H2.mono ?_; rintro e v2 ⟨rfl, hr2, hg2⟩; have S2 := S1.call hr2 hg2; clear S1 H2 hr2 hg2; obtain ⟨x0, x1, x2, x3, x4, x5, x6, x7, x8, y0, y1, y2, y3, y4, y5, y6, y7, y8⟩ := term_cells S2.x)
 refine bodyPost_ret (results_cell_row rfl _ _ w.heap.size _ _ _ _ rfl (set9 _ _ _ _ _ _ _ _ _ S2.x) Tryz.underlying78 rfl (by kernel_rfl)) rfl ?_
 rw [← HQ.out, HD.out]
 exact ⟨⟨none, 0, rfl, none, 0, rfl, .inl rfl⟩, (S2.fin _ _ _ _ _ _ _ _ _).1, (S2.fin _ _ _ _ _ _ _ _ _).2⟩
end Go.Proofs.YtghgbikmlbildaaGreatDoor
namespace Go.Proofs.YtghgbikmlbildaaGreatDoor
open Go.RowKit
set_option linter.unusedVariables false
set_option linter.unusedSimpArgs false

set_option maxRecDepth 100000 in
set_option maxHeartbeats 4000000 in
theorem term_77 (f r : Nat) (s : ByteArray) (l : List UInt8) (p : Nat) (w : World) (h : RdL r s l p w) (hp : p + 1 ≤ 2000) (hx : ∃ l1, byteD l = some (77, l1)) :
  Calls Tryz.prog 170 #[.pointer (some ⟨r, 0, none⟩)] w (TmPost r s (f + 1) w (termD (f + 1) p l)) := by
 generalize hQ : TmPost r s (f + 1) w (termD (f + 1) p l) = Q at *
 have HQ := Lib.hid hQ
 clear hQ
 obtain ⟨l1, hx⟩ := hx
 have HD : Hid (termD (f + 1) p l = (numD 4 l1).bind fun x => (byteD x.2).bind fun y => if 0 < x.1 ∧ 0 < y.1 ∧ y.1 < 8 then (strD x.1 y.2).bind fun z => some ((tmK 10 (bytes := z.1) (bits := 8 * ((x.1 : Int) - 1) + y.1), p + 1), z.2) else none) := Lib.hid (by unfold termD; rw [if_pos hp, hx, Option.bind_some]; rfl)
 have hle : decide ((p : Int) + 1 ≤ 2000) = true := decide_eq_true (by omega)
 have S0 := StO.start h
 unfold zeroRow at S0
 go_enter Tryz.func170, Tryz.ntmps170
 go_upto_region 1 with fail
 generalize w.alloc _ = w0 at *
 obtain ⟨c2, f2⟩ := S0.rd.parts
 go_upto_region 2 with fail
 have S1 := S0.parts
 clear S0 c2 f2
 generalize w0.setCell _ _ = w1 at *
 obtain ⟨c2, f2⟩ := S1.rd.parts
 rw [show ((p + 1 : Nat) : Int) = (p : Int) + 1 by omega] at c2
 have HB := byte_l r s l (p + 1) w1 S1.rd
 rw [hx] at HB
 go_wp2_with (first | (go_at_call 171; refine (demand_yes _ _).mono ?_; rintro e w2 ⟨rfl, rfl⟩) | (go_at_call 201; refine HB.mono ?_; rintro e v0 ⟨rfl, hr0, hg0⟩; have S0 := S1.call hr0 hg0; clear S1 hr0 hg0 HB c2 f2 hle))
 have H1 := number_l r s l1 (p + 1) 4 _ S0.rd (by omega)
 rcases h1 : numD 4 l1 with _ | ⟨n, l2⟩
 ·rw [h1] at H1 HD
  go_wp2_with (go_at_call 203; refine H1.mono ?_; rintro e v1 ⟨rfl, hg1⟩)
  exact ⟨rfl, by rw [← HQ.out, HD.out]; exact ⟨rfl, grownBy_trans S0.gr hg1⟩⟩
 rw [h1] at H1 HD
 rw [Option.bind_some] at HD
 go_wp2_with (go_at_call 203; refine H1.mono ?_; rintro e v1 ⟨rfl, hr1, hg1⟩; have S1 := S0.call hr1 hg1; clear S0 H1 hr1 hg1)
 have hn := (numD_len h1).1
 rw [show (256 : Nat) ^ 4 = 4294967296 from rfl] at hn
 have H2 := byte_l r s l2 (p + 1) _ S1.rd
 rcases h2 : byteD l2 with _ | ⟨m, l3⟩
 ·rw [h2] at H2 HD
  go_wp2_with (go_at_call 201; refine H2.mono ?_; rintro e v2 ⟨rfl, hg2⟩)
  exact ⟨rfl, by rw [← HQ.out, HD.out]; exact ⟨rfl, grownBy_trans S1.gr hg2⟩⟩
 rw [h2] at H2 HD
 rw [Option.bind_some] at HD
 have hm := (byteD_len h2).1
 by_cases cc : 0 < n ∧ 0 < m ∧ m < 8
 case neg =>
  rw [if_neg cc] at HD
  have HC := Lib.hid cc
  clear cc
  by_cases c1 : 0 < n
  ·by_cases c2 : 0 < m
   ·have c3 : ¬ m < 8 := fun e => HC.out ⟨c1, c2, e⟩
    have k1 : (n : Int) > 0 := by omega
    have k2 : (m : Int) > 0 := by omega
    have k3 : decide ((m : Int) < 8) = false := decide_eq_false (by omega)
    clear c1 c2 c3
    go_wp2_with (go_at_call 201; refine H2.mono ?_; rintro e v2 ⟨rfl, hr2, hg2⟩)
    go_wp2_with (go_at_call 171; refine (demand_no _ _).mono ?_; rintro e d2 ⟨rfl, rfl⟩)
    exact ⟨rfl, by rw [← HQ.out, HD.out]; exact ⟨rfl, grownBy_trans S1.gr hg2⟩⟩
   ·have k1 : (n : Int) > 0 := by omega
    have k2 : ¬ (m : Int) > 0 := by omega
    clear c1 c2
    go_wp2_with (go_at_call 201; refine H2.mono ?_; rintro e v2 ⟨rfl, hr2, hg2⟩)
    go_wp2_with (go_at_call 171; refine (demand_no _ _).mono ?_; rintro e d2 ⟨rfl, rfl⟩)
    exact ⟨rfl, by rw [← HQ.out, HD.out]; exact ⟨rfl, grownBy_trans S1.gr hg2⟩⟩
  ·have k1 : ¬ (n : Int) > 0 := by omega
   clear c1
   go_wp2_with (go_at_call 201; refine H2.mono ?_; rintro e v2 ⟨rfl, hr2, hg2⟩)
   go_wp2_with (go_at_call 171; refine (demand_no _ _).mono ?_; rintro e d2 ⟨rfl, rfl⟩)
   exact ⟨rfl, by rw [← HQ.out, HD.out]; exact ⟨rfl, grownBy_trans S1.gr hg2⟩⟩
 rw [if_pos cc] at HD
 obtain ⟨c1, c2, c3⟩ := cc
 have k1 : (n : Int) > 0 := by omega
 have k2 : (m : Int) > 0 := by omega
 have k3 : decide ((m : Int) < 8) = true := decide_eq_true (by omega)
 go_wp2_with (go_at_call 201; refine H2.mono ?_; rintro e v2 ⟨rfl, hr2, hg2⟩; have S2 := S1.call hr2 hg2; clear S1 H2 hr2 hg2)
 go_wp2_with (go_at_call 171; refine (demand_yes _ _).mono ?_; rintro e d2 ⟨rfl, rfl⟩)
 clear k1 k2 k3
 have H3 := take_l r s l3 (p + 1) n _ S2.rd (by omega)
 rcases h3 : strD n l3 with _ | ⟨b, l4⟩
 ·rw [h3] at H3 HD
  go_wp2_with (go_at_call 205; refine H3.mono ?_; rintro e v3 ⟨rfl, hg3⟩)
  exact ⟨rfl, by rw [← HQ.out, HD.out]; exact ⟨rfl, grownBy_trans S2.gr hg3⟩⟩
 rw [h3] at H3 HD
 rw [Option.bind_some] at HD
 go_wp2_with (go_at_call 205; refine H3.mono ?_; rintro e v3 ⟨rfl, hr3, hg3⟩; have S3 := S2.call hr3 hg3; clear S2 H3 hr3 hg3; obtain ⟨x0, x1, x2, x3, x4, x5, x6, x7, x8, y0, y1, y2, y3, y4, y5, y6, y7, y8⟩ := term_cells S3.x)
 refine bodyPost_ret (results_cell_row rfl _ _ w.heap.size _ _ _ _ rfl (set9 _ _ _ _ _ _ _ _ _ S3.x) Tryz.underlying78 rfl (by kernel_rfl)) rfl ?_
 rw [← HQ.out, HD.out]
 exact ⟨⟨none, 0, rfl, none, 0, rfl, .inl rfl⟩, (S3.fin _ _ _ _ _ _ _ _ _).1, (S3.fin _ _ _ _ _ _ _ _ _).2⟩

set_option maxRecDepth 100000 in
set_option maxHeartbeats 4000000 in
theorem term_88 (f r : Nat) (s : ByteArray) (l : List UInt8) (p : Nat) (w : World) (h : RdL r s l p w) (hp : p + 1 ≤ 2000) (hx : ∃ l1, byteD l = some (88, l1)) :
  Calls Tryz.prog 170 #[.pointer (some ⟨r, 0, none⟩)] w (TmPost r s (f + 1) w (termD (f + 1) p l)) := by
 generalize hQ : TmPost r s (f + 1) w (termD (f + 1) p l) = Q at *
 have HQ := Lib.hid hQ
 clear hQ
 obtain ⟨l1, hx⟩ := hx
 have HD : Hid (termD (f + 1) p l = (nameD l1).bind fun x => (numD 4 x.2).bind fun y => (numD 4 y.2).bind fun z => if z.1 = 0 then (numD 4 z.2).bind fun q => some ((tmK 6 (int := y.1) (gen := q.1) (name := x.1), p + 1), q.2) else none) := Lib.hid (by unfold termD; rw [if_pos hp, hx, Option.bind_some]; rfl)
 have hle : decide ((p : Int) + 1 ≤ 2000) = true := decide_eq_true (by omega)
 have S0 := StO.start h
 unfold zeroRow at S0
 go_enter Tryz.func170, Tryz.ntmps170
 go_upto_region 1 with fail
 generalize w.alloc _ = w0 at *
 obtain ⟨c2, f2⟩ := S0.rd.parts
 go_upto_region 2 with fail
 have S1 := S0.parts
 clear S0 c2 f2
 generalize w0.setCell _ _ = w1 at *
 obtain ⟨c2, f2⟩ := S1.rd.parts
 rw [show ((p + 1 : Nat) : Int) = (p : Int) + 1 by omega] at c2
 have HB := byte_l r s l (p + 1) w1 S1.rd
 rw [hx] at HB
 go_wp2_with (first | (go_at_call 171; refine (demand_yes _ _).mono ?_; rintro e w2 ⟨rfl, rfl⟩) | (go_at_call 201; refine HB.mono ?_; rintro e v0 ⟨rfl, hr0, hg0⟩; have S0 := S1.call hr0 hg0; clear S1 hr0 hg0 HB c2 f2 hle))
 have H1 := name_l r s l1 (p + 1) _ S0.rd
 rcases h1 : nameD l1 with _ | ⟨nm, l2⟩
 ·rw [h1] at H1 HD
  go_wp2_with (go_at_call 208; refine H1.mono ?_; rintro e v1 ⟨rfl, hg1⟩)
  exact ⟨rfl, by rw [← HQ.out, HD.out]; exact ⟨rfl, grownBy_trans S0.gr hg1⟩⟩
 rw [h1] at H1 HD
 rw [Option.bind_some] at HD
 go_wp2_with (go_at_call 208; refine H1.mono ?_; rintro e v1 ⟨rfl, hr1, hg1⟩; have S1 := S0.call hr1 hg1; clear S0 H1 hr1 hg1)
 have H2 := number_l r s l2 (p + 1) 4 _ S1.rd (by omega)
 rcases h2 : numD 4 l2 with _ | ⟨i4, l3⟩
 ·rw [h2] at H2 HD
  go_wp2_with (go_at_call 203; refine H2.mono ?_; rintro e v2 ⟨rfl, hg2⟩)
  exact ⟨rfl, by rw [← HQ.out, HD.out]; exact ⟨rfl, grownBy_trans S1.gr hg2⟩⟩
 rw [h2] at H2 HD
 rw [Option.bind_some] at HD
 go_wp2_with (go_at_call 203; refine H2.mono ?_; rintro e v2 ⟨rfl, hr2, hg2⟩; have S2 := S1.call hr2 hg2; clear S1 H2 hr2 hg2)
 have S2n := S2.new #[.int .i64 6, .int .i64 i4, .int .i64 0, .string nm, .string ⟨#[]⟩, .int .i64 0, .slice none 0 0, .string ⟨#[]⟩, .int .i64 0]
 clear S2
 generalize v2.alloc _ = u2w at *
 generalize v2.heap.size = Y at *
 have H3 := number_l r s l3 (p + 1) 4 _ S2n.rd (by omega)
 rcases h3 : numD 4 l3 with _ | ⟨z4, l4⟩
 ·rw [h3] at H3 HD
  go_wp2_with (go_at_call 203; refine H3.mono ?_; rintro e v3 ⟨rfl, hg3⟩)
  exact ⟨rfl, by rw [← HQ.out, HD.out]; exact ⟨rfl, grownBy_trans S2n.gr hg3⟩⟩
 rw [h3] at H3 HD
 rw [Option.bind_some] at HD
 by_cases c : z4 = 0
 case neg =>
  rw [if_neg c] at HD
  have hne : ((z4 : Int) == 0) = false := beq_eq_false_iff_ne.2 (by omega)
  go_wp2_with (go_at_call 203; refine H3.mono ?_; rintro e v3 ⟨rfl, hr3, hg3⟩)
  go_wp2_with (go_at_call 171; refine (demand_no _ _).mono ?_; rintro e d3 ⟨rfl, rfl⟩)
  exact ⟨rfl, by rw [← HQ.out, HD.out]; exact ⟨rfl, grownBy_trans S2n.gr hg3⟩⟩
 subst c
 rw [if_pos rfl] at HD
 go_wp2_with (go_at_call 203; refine H3.mono ?_; rintro e v3 ⟨rfl, hr3, hg3⟩; have S3 := S2n.call hr3 hg3; clear S2n H3 hr3 hg3)
 go_wp2_with (go_at_call 171; refine (demand_yes _ _).mono ?_; rintro e d3 ⟨rfl, rfl⟩)
 have H4 := number_l r s l4 (p + 1) 4 _ S3.rd (by omega)
 rcases h4 : numD 4 l4 with _ | ⟨g4, l5⟩
 ·rw [h4] at H4 HD
  go_wp2_with (go_at_call 203; refine H4.mono ?_; rintro e v4 ⟨rfl, hg4⟩)
  exact ⟨rfl, by rw [← HQ.out, HD.out]; exact ⟨rfl, grownBy_trans S3.gr hg4⟩⟩
 rw [h4] at H4 HD
 rw [Option.bind_some] at HD
 go_upto_region 31 with (go_at_call 203; refine H4.mono ?_; rintro e v4 ⟨rfl, hr4, hg4⟩; have S4 := S3.call hr4 hg4; clear S3 H4 hr4 hg4; obtain ⟨q0, q1, q2, q3, q4, q5, q6, q7, q8, z0, z1, z2, z3, z4, z5, z6, z7, z8⟩ := term_cells S4.y)
 have S4s := S4.set 2 (.int .i64 g4)
 clear S4 q0 q1 q2 q3 q4 q5 q6 q7 q8 z0 z1 z2 z3 z4 z5 z6 z7 z8
 generalize v4.setCell _ _ = u4w at *
 have hXY := S4s.hY
 rw [S4s.hX] at hXY
 obtain ⟨q0, q1, q2, q3, q4, q5, q6, q7, q8, z0, z1, z2, z3, z4, z5, z6, z7, z8⟩ := term_cells S4s.y
 have x9 := S4s.x
 rw [S4s.hX] at x9
 obtain ⟨x0, x1, x2, x3, x4, x5, x6, x7, x8, y0, y1, y2, y3, y4, y5, y6, y7, y8⟩ := term_cells x9
 clear x9
 go_wp2_with fail
 refine bodyPost_ret (results_cell_row rfl _ _ w.heap.size _ _ _ _ rfl (set9 _ _ _ _ _ _ _ _ _ S4s.x) Tryz.underlying78 rfl (by kernel_rfl)) rfl ?_
 rw [← HQ.out, HD.out]
 exact ⟨⟨none, 0, rfl, none, 0, rfl, .inl rfl⟩, (S4s.fin _ _ _ _ _ _ _ _ _).1, (S4s.fin _ _ _ _ _ _ _ _ _).2⟩

set_option maxRecDepth 100000 in
set_option maxHeartbeats 4000000 in
theorem term_90 (f r : Nat) (s : ByteArray) (l : List UInt8) (p : Nat) (w : World) (h : RdL r s l p w) (hp : p + 1 ≤ 2000) (hx : ∃ l1, byteD l = some (90, l1)) :
  Calls Tryz.prog 170 #[.pointer (some ⟨r, 0, none⟩)] w (TmPost r s (f + 1) w (termD (f + 1) p l)) := by
 generalize hQ : TmPost r s (f + 1) w (termD (f + 1) p l) = Q at *
 have HQ := Lib.hid hQ
 clear hQ
 obtain ⟨l1, hx⟩ := hx
 have HD : Hid (termD (f + 1) p l = (numD 2 l1).bind fun x => if x.1 = 1 then (nameD x.2).bind fun y => (numD 4 y.2).bind fun z => (numD 4 z.2).bind fun q => some ((tmK 3 (int := q.1) (gen := z.1) (name := y.1), p + 1), q.2) else none) := Lib.hid (by unfold termD; rw [if_pos hp, hx, Option.bind_some]; rfl)
 have hle : decide ((p : Int) + 1 ≤ 2000) = true := decide_eq_true (by omega)
 have S0 := StO.start h
 unfold zeroRow at S0
 go_enter Tryz.func170, Tryz.ntmps170
 go_upto_region 1 with fail
 generalize w.alloc _ = w0 at *
 obtain ⟨c2, f2⟩ := S0.rd.parts
 go_upto_region 2 with fail
 have S1 := S0.parts
 clear S0 c2 f2
 generalize w0.setCell _ _ = w1 at *
 obtain ⟨c2, f2⟩ := S1.rd.parts
 rw [show ((p + 1 : Nat) : Int) = (p : Int) + 1 by omega] at c2
 have HB := byte_l r s l (p + 1) w1 S1.rd
 rw [hx] at HB
 go_wp2_with (first | (go_at_call 171; refine (demand_yes _ _).mono ?_; rintro e w2 ⟨rfl, rfl⟩) | (go_at_call 201; refine HB.mono ?_; rintro e v0 ⟨rfl, hr0, hg0⟩; have S0 := S1.call hr0 hg0; clear S1 hr0 hg0 HB c2 f2 hle))
 have H1 := number_l r s l1 (p + 1) 2 _ S0.rd (by omega)
 rcases h1 : numD 2 l1 with _ | ⟨z2, l2⟩
 ·rw [h1] at H1 HD
  go_wp2_with (go_at_call 203; refine H1.mono ?_; rintro e v1 ⟨rfl, hg1⟩)
  exact ⟨rfl, by rw [← HQ.out, HD.out]; exact ⟨rfl, grownBy_trans S0.gr hg1⟩⟩
 rw [h1] at H1 HD
 rw [Option.bind_some] at HD
 by_cases c : z2 = 1
 case neg =>
  rw [if_neg c] at HD
  have hne : ((z2 : Int) == 1) = false := beq_eq_false_iff_ne.2 (by omega)
  go_wp2_with (go_at_call 203; refine H1.mono ?_; rintro e v1 ⟨rfl, hr1, hg1⟩)
  go_wp2_with (go_at_call 171; refine (demand_no _ _).mono ?_; rintro e d1 ⟨rfl, rfl⟩)
  exact ⟨rfl, by rw [← HQ.out, HD.out]; exact ⟨rfl, grownBy_trans S0.gr hg1⟩⟩
 subst c
 rw [if_pos rfl] at HD
 go_wp2_with (go_at_call 203; refine H1.mono ?_; rintro e v1 ⟨rfl, hr1, hg1⟩; have S1 := S0.call hr1 hg1; clear S0 H1 hr1 hg1)
 go_wp2_with (go_at_call 171; refine (demand_yes _ _).mono ?_; rintro e d1 ⟨rfl, rfl⟩)
 have H2 := name_l r s l2 (p + 1) _ S1.rd
 rcases h2 : nameD l2 with _ | ⟨nm, l3⟩
 ·rw [h2] at H2 HD
  go_wp2_with (go_at_call 208; refine H2.mono ?_; rintro e v2 ⟨rfl, hg2⟩)
  exact ⟨rfl, by rw [← HQ.out, HD.out]; exact ⟨rfl, grownBy_trans S1.gr hg2⟩⟩
 rw [h2] at H2 HD
 rw [Option.bind_some] at HD
 go_wp2_with (go_at_call 208; refine H2.mono ?_; rintro e v2 ⟨rfl, hr2, hg2⟩; have S2 := S1.call hr2 hg2; clear S1 H2 hr2 hg2)
 have H3 := number_l r s l3 (p + 1) 4 _ S2.rd (by omega)
 rcases h3 : numD 4 l3 with _ | ⟨g4, l4⟩
 ·rw [h3] at H3 HD
  go_wp2_with (go_at_call 203; refine H3.mono ?_; rintro e v3 ⟨rfl, hg3⟩)
  exact ⟨rfl, by rw [← HQ.out, HD.out]; exact ⟨rfl, grownBy_trans S2.gr hg3⟩⟩
 rw [h3] at H3 HD
 rw [Option.bind_some] at HD
 go_wp2_with (go_at_call 203; refine H3.mono ?_; rintro e v3 ⟨rfl, hr3, hg3⟩; have S3 := S2.call hr3 hg3; clear S2 H3 hr3 hg3)
 have S3n := S3.new #[.int .i64 3, .int .i64 0, .int .i64 g4, .string nm, .string ⟨#[]⟩, .int .i64 0, .slice none 0 0, .string ⟨#[]⟩, .int .i64 0]
 clear S3
 generalize v3.alloc _ = u3w at *
 generalize v3.heap.size = Y at *
 have H4 := number_l r s l4 (p + 1) 4 _ S3n.rd (by omega)
 rcases h4 : numD 4 l4 with _ | ⟨i4, l5⟩
 ·rw [h4] at H4 HD
  go_wp2_with (go_at_call 203; refine H4.mono ?_; rintro e v4 ⟨rfl, hg4⟩)
  exact ⟨rfl, by rw [← HQ.out, HD.out]; exact ⟨rfl, grownBy_trans S3n.gr hg4⟩⟩
 rw [h4] at H4 HD
 rw [Option.bind_some] at HD
 go_upto_region 36 with (go_at_call 203; refine H4.mono ?_; rintro e v4 ⟨rfl, hr4, hg4⟩; have S4 := S3n.call hr4 hg4; clear S3n H4 hr4 hg4; obtain ⟨q0, q1, q2, q3, q4, q5, q6, q7, q8, z0, z1, z2, z3, z4, z5, z6, z7, z8⟩ := term_cells S4.y)
 have S4s := S4.set 1 (.int .i64 i4)
 clear S4 q0 q1 q2 q3 q4 q5 q6 q7 q8 z0 z1 z2 z3 z4 z5 z6 z7 z8
 generalize v4.setCell _ _ = u4w at *
 have hXY := S4s.hY
 rw [S4s.hX] at hXY
 obtain ⟨q0, q1, q2, q3, q4, q5, q6, q7, q8, z0, z1, z2, z3, z4, z5, z6, z7, z8⟩ := term_cells S4s.y
 have x9 := S4s.x
 rw [S4s.hX] at x9
 obtain ⟨x0, x1, x2, x3, x4, x5, x6, x7, x8, y0, y1, y2, y3, y4, y5, y6, y7, y8⟩ := term_cells x9
 clear x9
 go_wp2_with fail
 refine bodyPost_ret (results_cell_row rfl _ _ w.heap.size _ _ _ _ rfl (set9 _ _ _ _ _ _ _ _ _ S4s.x) Tryz.underlying78 rfl (by kernel_rfl)) rfl ?_
 rw [← HQ.out, HD.out]
 exact ⟨⟨none, 0, rfl, none, 0, rfl, .inl rfl⟩, (S4s.fin _ _ _ _ _ _ _ _ _).1, (S4s.fin _ _ _ _ _ _ _ _ _).2⟩
end Go.Proofs.YtghgbikmlbildaaGreatDoor
namespace Go.Proofs.YtghgbikmlbildaaGreatDoor
open Go.RowKit
set_option linter.unusedVariables false
set_option linter.unusedSimpArgs false

theorem sgn_wrap {n : Nat} (h : n < 4294967296) : wrap64 (wrap32 (n : Int)) = sgn32 n ∧ -2147483648 ≤ sgn32 n ∧ sgn32 n ≤ 2147483647 := by
 unfold sgn32 wrap32 wrap64; split <;> omega
theorem TmIn.sl {w : World} {P : Nat → Prop} {f : Nat} {t : Tm} {so : Option Addr} {c : Nat} (h : TmIn w P (f + 1) (tmL t so c) t) : SlIn w P 9 (TmIn w P f) so t.items := by
 obtain ⟨ao, c', e, hs⟩ := h
 simp only [tmL, List.cons.injEq, Value.slice.injEq, true_and, and_true] at e
 rw [e.1]; exact hs
theorem StO.back {w0 : World} {r : Nat} {s : ByteArray} {l l' : List UInt8} {p X a : Nat} {wx : World} (h : StO w0 r s l' p X wx) (hA : RdAt r s (a + 1) p wx) (ha : a ≤ s.size) (hal : s.data.toList.drop a = l) (hs : s.size ≤ 9223372036854775807) : StO w0 r s l p X (wx.setCell ⟨r, 1, none⟩ (.int .i64 (a : Int))) := by
 have hX := h.hX; have hr := h.hr
 have := heap_setCell_same wx r 1 _ _ (.int .i64 (a : Int)) hA
 exact ⟨⟨a, this, ha, hal, hs⟩, grownBy_trans h.gr (grownBy_set _ r 1 _), (heap_setCell_other _ _ _ _ (by simp; omega)).trans h.x, hr, hX⟩

set_option maxRecDepth 100000 in
set_option maxHeartbeats 4000000 in
theorem term_98 (f r : Nat) (s : ByteArray) (l : List UInt8) (p : Nat) (w : World) (h : RdL r s l p w) (hp : p + 1 ≤ 2000) (hx : ∃ l1, byteD l = some (98, l1)) :
  Calls Tryz.prog 170 #[.pointer (some ⟨r, 0, none⟩)] w (TmPost r s (f + 1) w (termD (f + 1) p l)) := by
 generalize hQ : TmPost r s (f + 1) w (termD (f + 1) p l) = Q at *
 have HQ := Lib.hid hQ
 clear hQ
 obtain ⟨l1, hx⟩ := hx
 have HD : Hid (termD (f + 1) p l = (numD 4 l1).bind fun x => if sgn32 x.1 < 0 ∨ 255 < sgn32 x.1 then some ((tmK 1 (int := sgn32 x.1), p + 1), x.2) else none) := Lib.hid (by unfold termD; rw [if_pos hp, hx, Option.bind_some]; rfl)
 have hle : decide ((p : Int) + 1 ≤ 2000) = true := decide_eq_true (by omega)
 have S0 := StO.start h
 unfold zeroRow at S0
 go_enter Tryz.func170, Tryz.ntmps170
 go_upto_region 1 with fail
 generalize w.alloc _ = w0 at *
 obtain ⟨c2, f2⟩ := S0.rd.parts
 go_upto_region 2 with fail
 have S1 := S0.parts
 clear S0 c2 f2
 generalize w0.setCell _ _ = w1 at *
 obtain ⟨c2, f2⟩ := S1.rd.parts
 rw [show ((p + 1 : Nat) : Int) = (p : Int) + 1 by omega] at c2
 have HB := byte_l r s l (p + 1) w1 S1.rd
 rw [hx] at HB
 go_wp2_with (first | (go_at_call 171; refine (demand_yes _ _).mono ?_; rintro e w2 ⟨rfl, rfl⟩) | (go_at_call 201; refine HB.mono ?_; rintro e v0 ⟨rfl, hr0, hg0⟩; have S0 := S1.call hr0 hg0; clear S1 hr0 hg0 HB c2 f2 hle))
 have H1 := number_l r s l1 (p + 1) 4 _ S0.rd (by omega)
 rcases h1 : numD 4 l1 with _ | ⟨n, l2⟩
 ·rw [h1] at H1 HD
  go_wp2_with (go_at_call 203; refine H1.mono ?_; rintro e v1 ⟨rfl, hg1⟩)
  exact ⟨rfl, by rw [← HQ.out, HD.out]; exact ⟨rfl, grownBy_trans S0.gr hg1⟩⟩
 rw [h1] at H1 HD
 rw [Option.bind_some] at HD
 have hn := (numD_len h1).1
 rw [show (256 : Nat) ^ 4 = 4294967296 from rfl] at hn
 go_upto_region 8 with (go_at_call 203; refine H1.mono ?_; rintro e v1 ⟨rfl, hr1, hg1⟩; have S1 := S0.call hr1 hg1; clear S0 H1 hr1 hg1)
 obtain ⟨e1, e2, e3⟩ := sgn_wrap hn
 rw [e1]
 clear e1 hn
 generalize sgn32 n = v at *
 by_cases cc : v < 0 ∨ 255 < v
 case neg =>
  rw [if_neg cc] at HD
  have k1 : ¬ v < 0 := fun e => cc (.inl e)
  have k2 : decide (v > 255) = false := decide_eq_false (fun e => cc (.inr e))
  clear cc
  go_wp2_with (go_at_call 171; refine (demand_no _ _).mono ?_; rintro e d1 ⟨rfl, rfl⟩)
  exact ⟨rfl, by rw [← HQ.out, HD.out]; exact ⟨rfl, S1.gr⟩⟩
 rw [if_pos cc] at HD
 by_cases k1 : v < 0
 ·clear cc
  go_wp2_with (first | (go_at_call 171; refine (demand_yes _ _).mono ?_; rintro e d1 ⟨rfl, rfl⟩) | (go_at_call 202; refine (tint_any _ _).mono ?_; rintro e t1 ⟨rfl, hb⟩; have S9 := S1.below hb; clear S1 hb; obtain ⟨x0, x1, x2, x3, x4, x5, x6, x7, x8, y0, y1, y2, y3, y4, y5, y6, y7, y8⟩ := term_cells S9.x))
  refine bodyPost_ret (results_cell_row rfl _ _ w.heap.size _ _ _ _ rfl (set9 _ _ _ _ _ _ _ _ _ S9.x) Tryz.underlying78 rfl (by kernel_rfl)) rfl ?_
  rw [← HQ.out, HD.out]
  exact ⟨⟨none, 0, rfl, none, 0, rfl, .inl rfl⟩, (S9.fin _ _ _ _ _ _ _ _ _).1, (S9.fin _ _ _ _ _ _ _ _ _).2⟩
 ·have k2 : decide (v > 255) = true := decide_eq_true (cc.resolve_left k1)
  clear cc
  go_wp2_with (first | (go_at_call 171; refine (demand_yes _ _).mono ?_; rintro e d1 ⟨rfl, rfl⟩) | (go_at_call 202; refine (tint_any _ _).mono ?_; rintro e t1 ⟨rfl, hb⟩; have S9 := S1.below hb; clear S1 hb; obtain ⟨x0, x1, x2, x3, x4, x5, x6, x7, x8, y0, y1, y2, y3, y4, y5, y6, y7, y8⟩ := term_cells S9.x))
  refine bodyPost_ret (results_cell_row rfl _ _ w.heap.size _ _ _ _ rfl (set9 _ _ _ _ _ _ _ _ _ S9.x) Tryz.underlying78 rfl (by kernel_rfl)) rfl ?_
  rw [← HQ.out, HD.out]
  exact ⟨⟨none, 0, rfl, none, 0, rfl, .inl rfl⟩, (S9.fin _ _ _ _ _ _ _ _ _).1, (S9.fin _ _ _ _ _ _ _ _ _).2⟩

set_option maxRecDepth 100000 in
set_option maxHeartbeats 4000000 in
theorem term_else (f r : Nat) (s : ByteArray) (l : List UInt8) (p : Nat) (w : World) (h : RdL r s l p w) (hp : p + 1 ≤ 2000) (HF : FunP f) (hpf : 2000 ≤ p + 1 + f) (n : Nat) (l1 : List UInt8) (hx : byteD l = some (n, l1)) (c97 : ¬ n = 97) (c98 : ¬ n = 98) (c110 : ¬ n = 110) (c119 : ¬ n = 119) (c104 : ¬ n = 104) (c106 : ¬ n = 106) (c108 : ¬ n = 108) (c109 : ¬ n = 109) (c77 : ¬ n = 77) (c88 : ¬ n = 88) (c90 : ¬ n = 90) :
  Calls Tryz.prog 170 #[.pointer (some ⟨r, 0, none⟩)] w (TmPost r s (f + 1) w (termD (f + 1) p l)) := by
 generalize hQ : TmPost r s (f + 1) w (termD (f + 1) p l) = Q at *
 have HQ := Lib.hid hQ
 clear hQ
 have HD : Hid (termD (f + 1) p l = funD (termD f) (p + 1) l) := Lib.hid (by unfold termD tagD; rw [if_pos hp, hx, Option.bind_some, if_neg c97, if_neg c98, if_neg c110, if_neg c119, if_neg c104, if_neg c106, if_neg c108, if_neg c109, if_neg c77, if_neg c88, if_neg c90])
 have n97 : ((n : Int) == 97) = false := beq_eq_false_iff_ne.2 (by omega)
 have n98 : ((n : Int) == 98) = false := beq_eq_false_iff_ne.2 (by omega)
 have n110 : ((n : Int) == 110) = false := beq_eq_false_iff_ne.2 (by omega)
 have n119 : ((n : Int) == 119) = false := beq_eq_false_iff_ne.2 (by omega)
 have n104 : ((n : Int) == 104) = false := beq_eq_false_iff_ne.2 (by omega)
 have n106 : ((n : Int) == 106) = false := beq_eq_false_iff_ne.2 (by omega)
 have n108 : ((n : Int) == 108) = false := beq_eq_false_iff_ne.2 (by omega)
 have n109 : ((n : Int) == 109) = false := beq_eq_false_iff_ne.2 (by omega)
 have n77 : ((n : Int) == 77) = false := beq_eq_false_iff_ne.2 (by omega)
 have n88 : ((n : Int) == 88) = false := beq_eq_false_iff_ne.2 (by omega)
 have n90 : ((n : Int) == 90) = false := beq_eq_false_iff_ne.2 (by omega)
 clear c97 c98 c110 c119 c104 c106 c108 c109 c77 c88 c90
 have hle : decide ((p : Int) + 1 ≤ 2000) = true := decide_eq_true (by omega)
 have S0 := StO.start h
 unfold zeroRow at S0
 go_enter Tryz.func170, Tryz.ntmps170
 go_upto_region 1 with fail
 generalize w.alloc _ = w0 at *
 obtain ⟨c2, f2⟩ := S0.rd.parts
 go_upto_region 2 with fail
 have S1 := S0.parts
 clear S0 c2 f2
 generalize w0.setCell _ _ = w1 at *
 obtain ⟨c2, f2⟩ := S1.rd.parts
 rw [show ((p + 1 : Nat) : Int) = (p : Int) + 1 by omega] at c2
 obtain ⟨a, hA, ha, hal, hs⟩ := S1.rd
 have e1 := byteD_enc hx
 rw [e1.1] at hal
 have HB := byte_yes r s a (p + 1) _ l1 w1 hA hal hs
 have e0 : (UInt8.ofNat n).toNat = n := by rw [UInt8.toNat_ofNat']; omega
 rw [e0] at HB
 have hal2 := hal
 rw [← e1.1] at hal2
 have hsz := left_len ha hal
 rw [List.length_cons] at hsz
 go_upto_region 37 with (first | (go_at_call 171; refine (demand_yes _ _).mono ?_; rintro e w2 ⟨rfl, rfl⟩) | (go_at_call 201; refine HB.mono ?_; rintro e v0 ⟨rfl, hr0, hg0⟩))
 have S0 := S1.call (l' := l1) (p' := p + 1) ⟨a + 1, hr0, by omega, (drop_one hal).2.1, hs⟩ hg0
 have S2 := S0.back hr0 ha hal2 hs
 obtain ⟨d0, d1, d2, f1, f3⟩ := hr0.cells
 clear S1 hg0 HB c2 f2 hle e0 e1 hal hA n97 n98 n110 n119 n104 n106 n108 n109 n77 n88 n90
 have hlx := lt_of_row S0.x
 have hgx := S0.gr.size
 have hrl := hr0.lt
 clear S0 hr0
 have hw : IntKind.i64.wrap (((a + 1 : Nat) : Int) - 1) = (a : Int) := by rw [IntKind.wrap_i64]; omega
 go_upto_region 38 with fail
 clear d0 d1 d2 f1 f3 hw
 have hoff : w.heap.size < (v0.setCell ⟨r, 1, none⟩ (.int .i64 (a : Int))).heap.size := by simp [World.setCell]; omega
 generalize v0.setCell _ _ = w3 at *
 have HC := HF r s l (p + 1) w3 S2.rd hp hpf
 rcases hf : funD (termD f) (p + 1) l with _ | ⟨⟨t, p2⟩, l3⟩
 ·rw [hf] at HC HD
  go_wp2_with (go_at_call 209; refine HC.mono ?_; rintro e v1 ⟨rfl, hg1⟩)
  exact ⟨rfl, by rw [← HQ.out, HD.out]; exact ⟨rfl, grownBy_trans S2.gr hg1⟩⟩
 rw [hf] at HC HD
 go_wp2_with (go_at_call 209; refine HC.mono ?_; rintro e v1 ⟨⟨so, c, rfl, htm⟩, hr1, hg1⟩; have S3 := S2.call hr1 hg1; have hgb := S2.gr.size; have HSL := Lib.hid htm.sl; clear S2 hr1 hg1 htm; obtain ⟨x0, x1, x2, x3, x4, x5, x6, x7, x8, y0, y1, y2, y3, y4, y5, y6, y7, y8⟩ := term_cells S3.x)
 refine bodyPost_ret (results_cell_row rfl _ _ w.heap.size _ _ _ _ rfl (set9 _ _ _ _ _ _ _ _ _ S3.x) Tryz.underlying78 rfl (by kernel_rfl)) rfl ?_
 rw [← HQ.out, HD.out]
 exact ⟨⟨so, c, rfl, so, c, rfl, HSL.out.off (OffB.nine _ _ _ _ _ _ _ _ _ _ _) hoff hgb⟩, (S3.fin _ _ _ _ _ _ _ _ _).1, (S3.fin _ _ _ _ _ _ _ _ _).2⟩
set_option maxRecDepth 100000 in
set_option maxHeartbeats 4000000 in
theorem term_none (f r : Nat) (s : ByteArray) (l : List UInt8) (p : Nat) (w : World) (h : RdL r s l p w) (hp : p ≤ 2000) (hx : p + 1 ≤ 2000 → byteD l = none) (hn : termD f p l = none) :
  Calls Tryz.prog 170 #[.pointer (some ⟨r, 0, none⟩)] w (TmPost r s f w (termD f p l)) := by
 generalize hQ : TmPost r s f w (termD f p l) = Q at *
 have HQ := Lib.hid hQ
 have HD := Lib.hid hn
 clear hQ hn
 have S0 := StO.start h
 unfold zeroRow at S0
 go_enter Tryz.func170, Tryz.ntmps170
 go_upto_region 1 with fail
 generalize w.alloc _ = w0 at *
 obtain ⟨c2, f2⟩ := S0.rd.parts
 go_upto_region 2 with fail
 have S1 := S0.parts
 clear S0 c2 f2
 generalize w0.setCell _ _ = w1 at *
 obtain ⟨c2, f2⟩ := S1.rd.parts
 rw [show ((p + 1 : Nat) : Int) = (p : Int) + 1 by omega] at c2
 by_cases cp : p + 1 ≤ 2000
 ·have hle : decide ((p : Int) + 1 ≤ 2000) = true := decide_eq_true (by omega)
  have HB := byte_l r s l (p + 1) w1 S1.rd
  rw [hx cp] at HB
  go_wp2_with (first | (go_at_call 171; refine (demand_yes _ _).mono ?_; rintro e w2 ⟨rfl, rfl⟩) | (go_at_call 201; refine HB.mono ?_; rintro e v0 ⟨rfl, hg0⟩))
  exact ⟨rfl, by rw [← HQ.out, HD.out]; exact ⟨rfl, grownBy_trans S1.gr hg0⟩⟩
 ·have hle : decide ((p : Int) + 1 ≤ 2000) = false := decide_eq_false (by omega)
  go_wp2_with (go_at_call 171; refine (demand_no _ _).mono ?_; rintro e w2 ⟨rfl, rfl⟩)
  exact ⟨rfl, by rw [← HQ.out, HD.out]; exact ⟨rfl, S1.gr⟩⟩
theorem term_step (f : Nat) (HI : ItemsP f) (HF : FunP f) : TermP (f + 1) := by
 intro r s l p w h hp hpf
 by_cases cp : p + 1 ≤ 2000
 case neg => exact term_none (f + 1) r s l p w h hp (fun e => absurd e cp) (by unfold termD; exact if_neg cp)
 rcases hx : byteD l with _ | ⟨n, l1⟩
 ·exact term_none (f + 1) r s l p w h hp (fun _ => hx) (by unfold termD; rw [if_pos cp, hx]; rfl)
 by_cases c97 : n = 97
 ·subst c97; exact term_97 f r s l p w h cp ⟨l1, hx⟩
 by_cases c98 : n = 98
 ·subst c98; exact term_98 f r s l p w h cp ⟨l1, hx⟩
 by_cases c110 : n = 110
 ·subst c110; exact term_110 f r s l p w h cp ⟨l1, hx⟩
 by_cases c119 : n = 119
 ·subst c119; exact term_119 f r s l p w h cp ⟨l1, hx⟩
 by_cases c104 : n = 104
 ·subst c104; exact term_104 f r s l p w h cp HI (by omega) ⟨l1, hx⟩
 by_cases c106 : n = 106
 ·subst c106; exact term_106 f r s l p w h cp ⟨l1, hx⟩
 by_cases c108 : n = 108
 ·subst c108; exact term_108 f r s l p w h cp HI (by omega) ⟨l1, hx⟩
 by_cases c109 : n = 109
 ·subst c109; exact term_109 f r s l p w h cp ⟨l1, hx⟩
 by_cases c77 : n = 77
 ·subst c77; exact term_77 f r s l p w h cp ⟨l1, hx⟩
 by_cases c88 : n = 88
 ·subst c88; exact term_88 f r s l p w h cp ⟨l1, hx⟩
 by_cases c90 : n = 90
 ·subst c90; exact term_90 f r s l p w h cp ⟨l1, hx⟩
 exact term_else f r s l p w h cp HF (by omega) n l1 hx c97 c98 c110 c119 c104 c106 c108 c109 c77 c88 c90
theorem term_all : ∀ f, TermP f
 | 0 => fun r s l p w h hp hpf => term_none 0 r s l p w h hp (fun e => by omega) rfl
 | f + 1 => term_step f (items_step f (term_all f)) (fun_step f (items_step f (term_all f)))
end Go.Proofs.YtghgbikmlbildaaGreatDoor
namespace Go.Proofs.YtghgbikmlbildaaGreatDoor
open Go.RowKit
set_option linter.unusedVariables false
set_option linter.unusedSimpArgs false

def DecN (K : Tm → Nat) (T : Nat → List UInt8 → Option ((Tm × Nat) × List UInt8)) : Prop := ∀ p l t p' l', T p l = some ((t, p'), l') → p' = p + K t
theorem itemsG_n {K : Tm → Nat} {T : Nat → List UInt8 → Option ((Tm × Nat) × List UInt8)} (H : DecN K T) : ∀ (n p : Nat) (l : List UInt8) (ts : List Tm) (p' : Nat) (l' : List UInt8), itemsG T n p l = some ((ts, p'), l') → p' = p + (ts.map K).sum
 | 0, p, l, ts, p', l', h => by
  simp only [itemsG, Option.some.injEq, Prod.mk.injEq] at h
  obtain ⟨⟨rfl, rfl⟩, rfl⟩ := h
  rfl
 | n + 1, p, l, ts, p', l', h => by
  unfold itemsG at h
  obtain ⟨x, hx, h⟩ := Option.bind_eq_some_iff.1 h
  obtain ⟨y, hy, h⟩ := Option.bind_eq_some_iff.1 h
  simp only [Option.some.injEq, Prod.mk.injEq] at h
  obtain ⟨⟨rfl, rfl⟩, rfl⟩ := h
  have e1 := H p l x.1.1 x.1.2 x.2 hx
  have e2 := itemsG_n H n x.1.2 x.2 y.1.1 y.1.2 y.2 hy
  rw [List.map_cons, List.sum_cons]; omega
theorem itemsD_n {K : Tm → Nat} {T : Nat → List UInt8 → Option ((Tm × Nat) × List UInt8)} (H : DecN K T) {n p : Nat} {l : List UInt8} {x : (List Tm × Nat) × List UInt8} (h : itemsD T n p l = some x) : x.1.2 = p + (x.1.1.map K).sum := by
 unfold itemsD at h
 split at h
 ·exact itemsG_n H n p l x.1.1 x.1.2 x.2 h
 ·exact absurd h (by simp)
theorem funD_n {K : Tm → Nat} {T : Nat → List UInt8 → Option ((Tm × Nat) × List UInt8)} (H : DecN K T) {p : Nat} {l : List UInt8} {t : Tm} {p' : Nat} {l' : List UInt8} (h : funD T p l = some ((t, p'), l')) : p' = p + (t.items.map K).sum := by
 unfold funD exportD closureD at h
 obtain ⟨x, hx, h⟩ := Option.bind_eq_some_iff.1 h
 split at h
 ·obtain ⟨a, ha, h⟩ := Option.bind_eq_some_iff.1 h
  obtain ⟨b, hb, h⟩ := Option.bind_eq_some_iff.1 h
  obtain ⟨c, hc, h⟩ := Option.bind_eq_some_iff.1 h
  split at h
  ·obtain ⟨d, hd, h⟩ := Option.bind_eq_some_iff.1 h
   simp only [Option.some.injEq, Prod.mk.injEq] at h
   obtain ⟨⟨rfl, rfl⟩, rfl⟩ := h
   rfl
  ·exact absurd h (by simp)
 split at h
 ·obtain ⟨a, ha, h⟩ := Option.bind_eq_some_iff.1 h
  obtain ⟨b, hb, h⟩ := Option.bind_eq_some_iff.1 h
  obtain ⟨c, hc, h⟩ := Option.bind_eq_some_iff.1 h
  obtain ⟨d, hd, h⟩ := Option.bind_eq_some_iff.1 h
  obtain ⟨e, he, h⟩ := Option.bind_eq_some_iff.1 h
  obtain ⟨q, hq, h⟩ := Option.bind_eq_some_iff.1 h
  simp only [Option.some.injEq, Prod.mk.injEq] at h
  obtain ⟨⟨rfl, rfl⟩, rfl⟩ := h
  exact itemsD_n H hq
 ·exact absurd h (by simp)
theorem tagD_n {K : Tm → Nat} {T : Nat → List UInt8 → Option ((Tm × Nat) × List UInt8)} (H : DecN K T) {p tag : Nat} {l0 l : List UInt8} {t : Tm} {p' : Nat} {l' : List UInt8} (h : tagD T p l0 tag l = some ((t, p'), l')) : p' = p + (t.items.map K).sum := by
 unfold tagD at h
 by_cases c : tag = 97
 ·rw [if_pos c] at h
  obtain ⟨x, hx, h⟩ := Option.bind_eq_some_iff.1 h
  simp only [Option.some.injEq, Prod.mk.injEq] at h
  obtain ⟨⟨rfl, rfl⟩, rfl⟩ := h; rfl
 rw [if_neg c] at h; clear c
 by_cases c : tag = 98
 ·rw [if_pos c] at h
  obtain ⟨x, hx, h⟩ := Option.bind_eq_some_iff.1 h
  split at h
  ·simp only [Option.some.injEq, Prod.mk.injEq] at h
   obtain ⟨⟨rfl, rfl⟩, rfl⟩ := h; rfl
  ·exact absurd h (by simp)
 rw [if_neg c] at h; clear c
 by_cases c : tag = 110
 ·rw [if_pos c] at h
  obtain ⟨x, hx, h⟩ := Option.bind_eq_some_iff.1 h
  simp only [Option.some.injEq, Prod.mk.injEq] at h
  obtain ⟨⟨rfl, rfl⟩, rfl⟩ := h; rfl
 rw [if_neg c] at h; clear c
 by_cases c : tag = 119
 ·rw [if_pos c] at h
  obtain ⟨x, hx, h⟩ := Option.bind_eq_some_iff.1 h
  obtain ⟨y, hy, h⟩ := Option.bind_eq_some_iff.1 h
  simp only [Option.some.injEq, Prod.mk.injEq] at h
  obtain ⟨⟨rfl, rfl⟩, rfl⟩ := h; rfl
 rw [if_neg c] at h; clear c
 by_cases c : tag = 104
 ·rw [if_pos c] at h
  obtain ⟨x, hx, h⟩ := Option.bind_eq_some_iff.1 h
  obtain ⟨y, hy, h⟩ := Option.bind_eq_some_iff.1 h
  simp only [Option.some.injEq, Prod.mk.injEq] at h
  obtain ⟨⟨rfl, rfl⟩, rfl⟩ := h; exact itemsD_n H hy
 rw [if_neg c] at h; clear c
 by_cases c : tag = 106
 ·rw [if_pos c] at h
  simp only [Option.some.injEq, Prod.mk.injEq] at h
  obtain ⟨⟨rfl, rfl⟩, rfl⟩ := h; rfl
 rw [if_neg c] at h; clear c
 by_cases c : tag = 108
 ·rw [if_pos c] at h
  obtain ⟨x, hx, h⟩ := Option.bind_eq_some_iff.1 h
  obtain ⟨y, hy, h⟩ := Option.bind_eq_some_iff.1 h
  simp only [Option.some.injEq, Prod.mk.injEq] at h
  obtain ⟨⟨rfl, rfl⟩, rfl⟩ := h; exact itemsD_n H hy
 rw [if_neg c] at h; clear c
 by_cases c : tag = 109
 ·rw [if_pos c] at h
  obtain ⟨x, hx, h⟩ := Option.bind_eq_some_iff.1 h
  obtain ⟨y, hy, h⟩ := Option.bind_eq_some_iff.1 h
  simp only [Option.some.injEq, Prod.mk.injEq] at h
  obtain ⟨⟨rfl, rfl⟩, rfl⟩ := h; rfl
 rw [if_neg c] at h; clear c
 by_cases c : tag = 77
 ·rw [if_pos c] at h
  obtain ⟨x, hx, h⟩ := Option.bind_eq_some_iff.1 h
  obtain ⟨y, hy, h⟩ := Option.bind_eq_some_iff.1 h
  split at h
  ·obtain ⟨z, hz, h⟩ := Option.bind_eq_some_iff.1 h
   simp only [Option.some.injEq, Prod.mk.injEq] at h
   obtain ⟨⟨rfl, rfl⟩, rfl⟩ := h; rfl
  ·exact absurd h (by simp)
 rw [if_neg c] at h; clear c
 by_cases c : tag = 88
 ·rw [if_pos c] at h
  obtain ⟨x, hx, h⟩ := Option.bind_eq_some_iff.1 h
  obtain ⟨y, hy, h⟩ := Option.bind_eq_some_iff.1 h
  obtain ⟨z, hz, h⟩ := Option.bind_eq_some_iff.1 h
  split at h
  ·obtain ⟨q, hq, h⟩ := Option.bind_eq_some_iff.1 h
   simp only [Option.some.injEq, Prod.mk.injEq] at h
   obtain ⟨⟨rfl, rfl⟩, rfl⟩ := h; rfl
  ·exact absurd h (by simp)
 rw [if_neg c] at h; clear c
 by_cases c : tag = 90
 ·rw [if_pos c] at h
  obtain ⟨x, hx, h⟩ := Option.bind_eq_some_iff.1 h
  split at h
  ·obtain ⟨y, hy, h⟩ := Option.bind_eq_some_iff.1 h
   obtain ⟨z, hz, h⟩ := Option.bind_eq_some_iff.1 h
   obtain ⟨q, hq, h⟩ := Option.bind_eq_some_iff.1 h
   simp only [Option.some.injEq, Prod.mk.injEq] at h
   obtain ⟨⟨rfl, rfl⟩, rfl⟩ := h; rfl
  ·exact absurd h (by simp)
 rw [if_neg c] at h; clear c
 exact funD_n H h
theorem termD_n : ∀ f, DecN (nodesF f) (termD f)
 | 0, p, l, t, p', l', h => absurd h (by simp [termD])
 | f + 1, p, l, t, p', l', h => by
  unfold termD at h
  split at h
  ·obtain ⟨x, hx, h⟩ := Option.bind_eq_some_iff.1 h
   have := tagD_n (termD_n f) h
   unfold nodesF; omega
  ·exact absurd h (by simp)
theorem cap_sum {f : Nat} : ∀ (ts : List Tm), (∀ x ∈ ts, capF f x + 1 ≤ 301 * nodesF f x) → sumN (ts.map (capF f)) + ts.length ≤ 301 * (ts.map (nodesF f)).sum
 | [], _ => Nat.le_refl _
 | x :: ts, h => by
  have h1 := h x (List.mem_cons_self ..)
  have h2 := cap_sum ts fun y hy => h y (List.mem_cons_of_mem _ hy)
  rw [List.map_cons, List.map_cons, List.sum_cons, List.length_cons]
  show capF f x + sumN (ts.map (capF f)) + _ ≤ _
  omega
/-- How much counting a term may cost. -/
theorem cap_nodes : ∀ (f : Nat) (t : Tm), OkF f t → capF f t + 1 ≤ 301 * nodesF f t
 | 0, t, h => h.elim
 | f + 1, t, h => by
  have h1 := cap_sum t.items fun x hx => cap_nodes f x (h.2 x hx)
  show 300 + t.items.length + sumN (t.items.map (capF f)) + 1 ≤ 301 * (1 + (t.items.map (nodesF f)).sum)
  omega
end Go.Proofs.YtghgbikmlbildaaGreatDoor
