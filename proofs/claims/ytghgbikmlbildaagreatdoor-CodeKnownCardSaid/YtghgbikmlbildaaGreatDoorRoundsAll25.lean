/-
  The unit reader's elements: the walks (printed by gen_kone.py). The unit reader: literals: the walks (printed by gen_kins.py). The unit reader: the states of an instruction: the walks (printed by gen_kins.py).
-/
import Derived.Test.YtghgbikmlbildaaGreatDoorRoundsAll24
namespace Go.Proofs.YtghgbikmlbildaaGreatDoor
open Go.RowKit
set_option linter.unusedVariables false
set_option linter.unusedSimpArgs false

theorem i64n {n : Nat} (h : n < 4398046511104) : I64 (n : Int) := by unfold I64; omega
theorem text_max {l l' : List UInt8} {a : ByteArray} (h : textD l = some (a, l')) : a.size ≤ maxLen := by have := (textD_enc h).2; unfold maxLen; omega
theorem argD_i64 {l l' : List UInt8} {a : RArg} (h : argD l = some (a, l')) : I64 a.kind ∧ I64 a.n := by have := argD_enc h; unfold I64; omega
/-- A reader of units at work: block X is the result's. -/
structure KSt (w0 : World) (r : Nat) (l : List UInt8) (X : Nat) (o : Obj) (wx : World) : Prop where
 rd : RdC r l wx
 gr : w0.grownBy wx (some r)
 x : wx.heap[X]? = some o
 hr : r < w0.heap.size
 hX : X = w0.heap.size
theorem KSt.start {r : Nat} {l : List UInt8} {w : World} (h : RdC r l w) (o : Obj) : KSt w r l w.heap.size o (w.alloc o) :=
 ⟨h.below ((Below.refl _ _).alloc (Nat.le_refl _) _), grownBy_below ((Below.refl _ _).alloc (Nat.le_refl _) _) _, heap_alloc_new _ _, h.lt, rfl⟩
theorem KSt.call {w0 : World} {r : Nat} {l : List UInt8} {X : Nat} {o : Obj} {wx wy : World} (h : KSt w0 r l X o wx) {l' : List UInt8} (hr : RdC r l' wy) (hg : wx.grownBy wy (some r)) : KSt w0 r l' X o wy :=
 ⟨hr, grownBy_trans h.gr hg, row_kept hg h.hr (Nat.le_of_eq h.hX.symm) h.x, h.hr, h.hX⟩
theorem KSt.off {w0 : World} {r : Nat} {l : List UInt8} {X : Nat} {o : Obj} {wx wy : World} (h : KSt w0 r l X o wx) (ho : OffB X wx wy) (hb : Below X wx wy) : RdC r l wy ∧ w0.grownBy wy (some r) := by
 have hX := h.hX; have hr := h.hr
 exact ⟨h.rd.off ho (by omega), grown_low h.gr (by rw [← hX]; exact hb)⟩
set_option maxRecDepth 100000 in
set_option maxHeartbeats 4000000 in
theorem kcase_any (r : Nat) (l : List UInt8) (w : World) (h : RdC r l w) :
  Calls Tryz.prog 106 #[.pointer (some ⟨r, 0, none⟩)] w (CasePost r w (caseD l)) := by
 generalize hQ : CasePost r w (caseD l) = Q at *
 have HQ := Lib.hid hQ
 clear hQ
 have S0 := KSt.start h (.cells #[.int .i64 0, .int .i64 0] 131)
 have HD : Hid (caseD l = (intD l).bind fun x => (intD x.2).bind fun y => some (⟨x.1, y.1⟩, y.2)) := Lib.hid rfl
 go_enter Tryz.func106, Tryz.ntmps106
 go_upto_region 1 with fail
 generalize w.alloc _ = w0 at *
 have H1 := knum_any r l _ S0.rd
 rcases h1 : vD l with _ | ⟨a, l1⟩
 ·rw [h1] at H1
  rw [show intD l = (vD l).bind fun x => some ((x.1 : Int), x.2) from rfl, h1] at HD
  go_wp2_with (go_at_call 56; refine H1.mono ?_; rintro e v1 ⟨rfl, hg1⟩)
  exact ⟨rfl, by rw [← HQ.out, HD.out]; exact ⟨rfl, grownBy_trans S0.gr hg1⟩⟩
 rw [h1] at H1
 rw [show intD l = (vD l).bind fun x => some ((x.1 : Int), x.2) from rfl, h1] at HD
 rw [Option.bind_some, Option.bind_some] at HD
 go_wp2_with (go_at_call 56; refine H1.mono ?_; rintro e v1 ⟨rfl, hr1, hg1⟩; have S1 := S0.call hr1 hg1; clear S0 H1 hr1 hg1)
 have H2 := knum_any r l1 _ S1.rd
 rcases h2 : vD l1 with _ | ⟨b, l2⟩
 ·rw [h2] at H2
  rw [show intD l1 = (vD l1).bind fun x => some ((x.1 : Int), x.2) from rfl, h2] at HD
  go_wp2_with (go_at_call 56; refine H2.mono ?_; rintro e v2 ⟨rfl, hg2⟩)
  exact ⟨rfl, by rw [← HQ.out, HD.out]; exact ⟨rfl, grownBy_trans S1.gr hg2⟩⟩
 rw [h2] at H2
 rw [show intD l1 = (vD l1).bind fun x => some ((x.1 : Int), x.2) from rfl, h2] at HD
 rw [Option.bind_some, Option.bind_some] at HD
 go_wp2_with (go_at_call 56; refine H2.mono ?_; rintro e v2 ⟨rfl, hr2, hg2⟩; have S2 := S1.call hr2 hg2; clear S1 H2 hr2 hg2; have x0 : v2.cell? ⟨w.heap.size, 0, none⟩ = some (.int .i64 0) := cell_of_row v2 _ 0 _ _ _ S2.x; have y0 : v2.frozen? ⟨w.heap.size, 0, none⟩ = false := frozen_of_row v2 _ 0 _ _ S2.x; have x1 : v2.cell? ⟨w.heap.size, 1, none⟩ = some (.int .i64 0) := cell_of_row v2 _ 1 _ _ _ S2.x; have y1 : v2.frozen? ⟨w.heap.size, 1, none⟩ = false := frozen_of_row v2 _ 1 _ _ S2.x)
 have hres : ((v2.setCell ⟨w.heap.size, 0, none⟩ (.int .i64 (a : Nat))).setCell ⟨w.heap.size, 1, none⟩ (.int .i64 (b : Nat))).heap[w.heap.size]? = some (.cells #[.int .i64 (a : Nat), .int .i64 (b : Nat)] 131 (0, 0)) := (heap_setCell_same _ _ 1 _ _ _ (heap_setCell_same _ _ 0 _ _ _ S2.x))
 refine bodyPost_ret (results_cell_row rfl _ _ w.heap.size _ _ _ _ rfl hres Tryz.underlying131 rfl (by kernel_rfl)) rfl ?_
 rw [← HQ.out, HD.out]
 exact ⟨⟨rfl, ⟨rfl, (i64n (vD_len h1).1), (i64n (vD_len h2).1)⟩⟩, S2.off ((OffB.set w.heap.size _ 0 _).trans (OffB.set w.heap.size _ 1 _)) (((Below.refl _ _).setCell (p := ⟨w.heap.size, 0, none⟩) (Nat.le_refl _) _).setCell (p := ⟨w.heap.size, 1, none⟩) (Nat.le_refl _) _)⟩
set_option maxRecDepth 100000 in
set_option maxHeartbeats 4000000 in
theorem kfun_any (r : Nat) (l : List UInt8) (w : World) (h : RdC r l w) :
  Calls Tryz.prog 62 #[.pointer (some ⟨r, 0, none⟩)] w (FunPost r w (fnD l)) := by
 generalize hQ : FunPost r w (fnD l) = Q at *
 have HQ := Lib.hid hQ
 clear hQ
 have S0 := KSt.start h (.cells #[.int .i64 0, .int .i64 0, .int .i64 0] 84)
 have HD : Hid (fnD l = (intD l).bind fun x => (intD x.2).bind fun y => (intD y.2).bind fun z => some (⟨x.1, y.1, z.1⟩, z.2)) := Lib.hid rfl
 go_enter Tryz.func62, Tryz.ntmps62
 go_upto_region 1 with fail
 generalize w.alloc _ = w0 at *
 have H1 := knum_any r l _ S0.rd
 rcases h1 : vD l with _ | ⟨a, l1⟩
 ·rw [h1] at H1
  rw [show intD l = (vD l).bind fun x => some ((x.1 : Int), x.2) from rfl, h1] at HD
  go_wp2_with (go_at_call 56; refine H1.mono ?_; rintro e v1 ⟨rfl, hg1⟩)
  exact ⟨rfl, by rw [← HQ.out, HD.out]; exact ⟨rfl, grownBy_trans S0.gr hg1⟩⟩
 rw [h1] at H1
 rw [show intD l = (vD l).bind fun x => some ((x.1 : Int), x.2) from rfl, h1] at HD
 rw [Option.bind_some, Option.bind_some] at HD
 go_wp2_with (go_at_call 56; refine H1.mono ?_; rintro e v1 ⟨rfl, hr1, hg1⟩; have S1 := S0.call hr1 hg1; clear S0 H1 hr1 hg1)
 have H2 := knum_any r l1 _ S1.rd
 rcases h2 : vD l1 with _ | ⟨b, l2⟩
 ·rw [h2] at H2
  rw [show intD l1 = (vD l1).bind fun x => some ((x.1 : Int), x.2) from rfl, h2] at HD
  go_wp2_with (go_at_call 56; refine H2.mono ?_; rintro e v2 ⟨rfl, hg2⟩)
  exact ⟨rfl, by rw [← HQ.out, HD.out]; exact ⟨rfl, grownBy_trans S1.gr hg2⟩⟩
 rw [h2] at H2
 rw [show intD l1 = (vD l1).bind fun x => some ((x.1 : Int), x.2) from rfl, h2] at HD
 rw [Option.bind_some, Option.bind_some] at HD
 go_wp2_with (go_at_call 56; refine H2.mono ?_; rintro e v2 ⟨rfl, hr2, hg2⟩; have S2 := S1.call hr2 hg2; clear S1 H2 hr2 hg2)
 have H3 := knum_any r l2 _ S2.rd
 rcases h3 : vD l2 with _ | ⟨c, l3⟩
 ·rw [h3] at H3
  rw [show intD l2 = (vD l2).bind fun x => some ((x.1 : Int), x.2) from rfl, h3] at HD
  go_wp2_with (go_at_call 56; refine H3.mono ?_; rintro e v3 ⟨rfl, hg3⟩)
  exact ⟨rfl, by rw [← HQ.out, HD.out]; exact ⟨rfl, grownBy_trans S2.gr hg3⟩⟩
 rw [h3] at H3
 rw [show intD l2 = (vD l2).bind fun x => some ((x.1 : Int), x.2) from rfl, h3] at HD
 rw [Option.bind_some, Option.bind_some] at HD
 go_wp2_with (go_at_call 56; refine H3.mono ?_; rintro e v3 ⟨rfl, hr3, hg3⟩; have S3 := S2.call hr3 hg3; clear S2 H3 hr3 hg3; have x0 : v3.cell? ⟨w.heap.size, 0, none⟩ = some (.int .i64 0) := cell_of_row v3 _ 0 _ _ _ S3.x; have y0 : v3.frozen? ⟨w.heap.size, 0, none⟩ = false := frozen_of_row v3 _ 0 _ _ S3.x; have x1 : v3.cell? ⟨w.heap.size, 1, none⟩ = some (.int .i64 0) := cell_of_row v3 _ 1 _ _ _ S3.x; have y1 : v3.frozen? ⟨w.heap.size, 1, none⟩ = false := frozen_of_row v3 _ 1 _ _ S3.x; have x2 : v3.cell? ⟨w.heap.size, 2, none⟩ = some (.int .i64 0) := cell_of_row v3 _ 2 _ _ _ S3.x; have y2 : v3.frozen? ⟨w.heap.size, 2, none⟩ = false := frozen_of_row v3 _ 2 _ _ S3.x)
 have hres : (((v3.setCell ⟨w.heap.size, 0, none⟩ (.int .i64 (a : Nat))).setCell ⟨w.heap.size, 1, none⟩ (.int .i64 (b : Nat))).setCell ⟨w.heap.size, 2, none⟩ (.int .i64 (c : Nat))).heap[w.heap.size]? = some (.cells #[.int .i64 (a : Nat), .int .i64 (b : Nat), .int .i64 (c : Nat)] 84 (0, 0)) := (heap_setCell_same _ _ 2 _ _ _ (heap_setCell_same _ _ 1 _ _ _ (heap_setCell_same _ _ 0 _ _ _ S3.x)))
 refine bodyPost_ret (results_cell_row rfl _ _ w.heap.size _ _ _ _ rfl hres Tryz.underlying84 rfl (by kernel_rfl)) rfl ?_
 rw [← HQ.out, HD.out]
 exact ⟨⟨rfl, ⟨rfl, (i64n (vD_len h1).1), (i64n (vD_len h2).1), (i64n (vD_len h3).1)⟩⟩, S3.off (((OffB.set w.heap.size _ 0 _).trans (OffB.set w.heap.size _ 1 _)).trans (OffB.set w.heap.size _ 2 _)) ((((Below.refl _ _).setCell (p := ⟨w.heap.size, 0, none⟩) (Nat.le_refl _) _).setCell (p := ⟨w.heap.size, 1, none⟩) (Nat.le_refl _) _).setCell (p := ⟨w.heap.size, 2, none⟩) (Nat.le_refl _) _)⟩
set_option maxRecDepth 100000 in
set_option maxHeartbeats 4000000 in
theorem kfunc_any (r : Nat) (l : List UInt8) (w : World) (h : RdC r l w) :
  Calls Tryz.prog 60 #[.pointer (some ⟨r, 0, none⟩)] w (FuncPost r w (funcD l)) := by
 generalize hQ : FuncPost r w (funcD l) = Q at *
 have HQ := Lib.hid hQ
 clear hQ
 have S0 := KSt.start h (.cells #[.string ⟨#[]⟩, .int .i64 0, .bool false, .int .i64 0] 81)
 have HD : Hid (funcD l = (textD l).bind fun x => (intD x.2).bind fun y => (boolD y.2).bind fun z => (intD z.2).bind fun q => some (⟨x.1, y.1, z.1, q.1⟩, q.2)) := Lib.hid rfl
 go_enter Tryz.func60, Tryz.ntmps60
 go_upto_region 1 with fail
 generalize w.alloc _ = w0 at *
 have H1 := ktext_any r l _ S0.rd
 rcases h1 : textD l with _ | ⟨a, l1⟩
 ·rw [h1] at H1 HD
  go_wp2_with (go_at_call 55; refine H1.mono ?_; rintro e v1 ⟨rfl, hg1⟩)
  exact ⟨rfl, by rw [← HQ.out, HD.out]; exact ⟨rfl, grownBy_trans S0.gr hg1⟩⟩
 rw [h1] at H1 HD
 rw [Option.bind_some] at HD
 go_wp2_with (go_at_call 55; refine H1.mono ?_; rintro e v1 ⟨rfl, hr1, hg1⟩; have S1 := S0.call hr1 hg1; clear S0 H1 hr1 hg1)
 have H2 := knum_any r l1 _ S1.rd
 rcases h2 : vD l1 with _ | ⟨b, l2⟩
 ·rw [h2] at H2
  rw [show intD l1 = (vD l1).bind fun x => some ((x.1 : Int), x.2) from rfl, h2] at HD
  go_wp2_with (go_at_call 56; refine H2.mono ?_; rintro e v2 ⟨rfl, hg2⟩)
  exact ⟨rfl, by rw [← HQ.out, HD.out]; exact ⟨rfl, grownBy_trans S1.gr hg2⟩⟩
 rw [h2] at H2
 rw [show intD l1 = (vD l1).bind fun x => some ((x.1 : Int), x.2) from rfl, h2] at HD
 rw [Option.bind_some, Option.bind_some] at HD
 go_wp2_with (go_at_call 56; refine H2.mono ?_; rintro e v2 ⟨rfl, hr2, hg2⟩; have S2 := S1.call hr2 hg2; clear S1 H2 hr2 hg2)
 have H3 := kbool_any r l2 _ S2.rd
 rcases h3 : boolD l2 with _ | ⟨c, l3⟩
 ·rw [h3] at H3 HD
  go_wp2_with (go_at_call 102; refine H3.mono ?_; rintro e v3 ⟨rfl, hg3⟩)
  exact ⟨rfl, by rw [← HQ.out, HD.out]; exact ⟨rfl, grownBy_trans S2.gr hg3⟩⟩
 rw [h3] at H3 HD
 rw [Option.bind_some] at HD
 go_wp2_with (go_at_call 102; refine H3.mono ?_; rintro e v3 ⟨rfl, hr3, hg3⟩; have S3 := S2.call hr3 hg3; clear S2 H3 hr3 hg3)
 have H4 := knum_any r l3 _ S3.rd
 rcases h4 : vD l3 with _ | ⟨d, l4⟩
 ·rw [h4] at H4
  rw [show intD l3 = (vD l3).bind fun x => some ((x.1 : Int), x.2) from rfl, h4] at HD
  go_wp2_with (go_at_call 56; refine H4.mono ?_; rintro e v4 ⟨rfl, hg4⟩)
  exact ⟨rfl, by rw [← HQ.out, HD.out]; exact ⟨rfl, grownBy_trans S3.gr hg4⟩⟩
 rw [h4] at H4
 rw [show intD l3 = (vD l3).bind fun x => some ((x.1 : Int), x.2) from rfl, h4] at HD
 rw [Option.bind_some, Option.bind_some] at HD
 go_wp2_with (go_at_call 56; refine H4.mono ?_; rintro e v4 ⟨rfl, hr4, hg4⟩; have S4 := S3.call hr4 hg4; clear S3 H4 hr4 hg4; have x0 : v4.cell? ⟨w.heap.size, 0, none⟩ = some (.string ⟨#[]⟩) := cell_of_row v4 _ 0 _ _ _ S4.x; have y0 : v4.frozen? ⟨w.heap.size, 0, none⟩ = false := frozen_of_row v4 _ 0 _ _ S4.x; have x1 : v4.cell? ⟨w.heap.size, 1, none⟩ = some (.int .i64 0) := cell_of_row v4 _ 1 _ _ _ S4.x; have y1 : v4.frozen? ⟨w.heap.size, 1, none⟩ = false := frozen_of_row v4 _ 1 _ _ S4.x; have x2 : v4.cell? ⟨w.heap.size, 2, none⟩ = some (.bool false) := cell_of_row v4 _ 2 _ _ _ S4.x; have y2 : v4.frozen? ⟨w.heap.size, 2, none⟩ = false := frozen_of_row v4 _ 2 _ _ S4.x; have x3 : v4.cell? ⟨w.heap.size, 3, none⟩ = some (.int .i64 0) := cell_of_row v4 _ 3 _ _ _ S4.x; have y3 : v4.frozen? ⟨w.heap.size, 3, none⟩ = false := frozen_of_row v4 _ 3 _ _ S4.x)
 have hres : ((((v4.setCell ⟨w.heap.size, 0, none⟩ (.string a)).setCell ⟨w.heap.size, 1, none⟩ (.int .i64 (b : Nat))).setCell ⟨w.heap.size, 2, none⟩ (.bool c)).setCell ⟨w.heap.size, 3, none⟩ (.int .i64 (d : Nat))).heap[w.heap.size]? = some (.cells #[.string a, .int .i64 (b : Nat), .bool c, .int .i64 (d : Nat)] 81 (0, 0)) := (heap_setCell_same _ _ 3 _ _ _ (heap_setCell_same _ _ 2 _ _ _ (heap_setCell_same _ _ 1 _ _ _ (heap_setCell_same _ _ 0 _ _ _ S4.x))))
 refine bodyPost_ret (results_cell_row rfl _ _ w.heap.size _ _ _ _ rfl hres Tryz.underlying81 rfl (by kernel_rfl)) rfl ?_
 rw [← HQ.out, HD.out]
 exact ⟨⟨rfl, ⟨rfl, (text_max h1), (i64n (vD_len h2).1), (i64n (vD_len h4).1)⟩⟩, S4.off ((((OffB.set w.heap.size _ 0 _).trans (OffB.set w.heap.size _ 1 _)).trans (OffB.set w.heap.size _ 2 _)).trans (OffB.set w.heap.size _ 3 _)) (((((Below.refl _ _).setCell (p := ⟨w.heap.size, 0, none⟩) (Nat.le_refl _) _).setCell (p := ⟨w.heap.size, 1, none⟩) (Nat.le_refl _) _).setCell (p := ⟨w.heap.size, 2, none⟩) (Nat.le_refl _) _).setCell (p := ⟨w.heap.size, 3, none⟩) (Nat.le_refl _) _)⟩
set_option maxRecDepth 100000 in
set_option maxHeartbeats 4000000 in
theorem kseg_any (r : Nat) (l : List UInt8) (w : World) (h : RdC r l w) :
  Calls Tryz.prog 108 #[.pointer (some ⟨r, 0, none⟩)] w (SegPost r w (segD l)) := by
 generalize hQ : SegPost r w (segD l) = Q at *
 have HQ := Lib.hid hQ
 clear hQ
 have S0 := KSt.start h (.cells #[.int .i64 0, .int .i64 0, .int .i64 0, .int .i64 0, .int .i64 0, .bool false] 133)
 have HD : Hid (segD l = (intD l).bind fun x => (argD x.2).bind fun y => (argD y.2).bind fun z => (boolD z.2).bind fun q => some (⟨x.1, y.1, z.1, q.1⟩, q.2)) := Lib.hid rfl
 go_enter Tryz.func108, Tryz.ntmps108
 go_upto_region 1 with fail
 generalize w.alloc _ = w0 at *
 have H1 := knum_any r l _ S0.rd
 rcases h1 : vD l with _ | ⟨a, l1⟩
 ·rw [h1] at H1
  rw [show intD l = (vD l).bind fun x => some ((x.1 : Int), x.2) from rfl, h1] at HD
  go_wp2_with (go_at_call 56; refine H1.mono ?_; rintro e v1 ⟨rfl, hg1⟩)
  exact ⟨rfl, by rw [← HQ.out, HD.out]; exact ⟨rfl, grownBy_trans S0.gr hg1⟩⟩
 rw [h1] at H1
 rw [show intD l = (vD l).bind fun x => some ((x.1 : Int), x.2) from rfl, h1] at HD
 rw [Option.bind_some, Option.bind_some] at HD
 go_wp2_with (go_at_call 56; refine H1.mono ?_; rintro e v1 ⟨rfl, hr1, hg1⟩; have S1 := S0.call hr1 hg1; clear S0 H1 hr1 hg1)
 have H2 := karg_any r l1 _ S1.rd
 rcases h2 : argD l1 with _ | ⟨b, l2⟩
 ·rw [h2] at H2 HD
  go_wp2_with (go_at_call 103; refine H2.mono ?_; rintro e v2 ⟨rfl, hg2⟩)
  exact ⟨rfl, by rw [← HQ.out, HD.out]; exact ⟨rfl, grownBy_trans S1.gr hg2⟩⟩
 rw [h2] at H2 HD
 rw [Option.bind_some] at HD
 go_wp2_with (go_at_call 103; refine H2.mono ?_; rintro e v2 ⟨rfl, hr2, hg2⟩; have S2 := S1.call hr2 hg2; clear S1 H2 hr2 hg2)
 have H3 := karg_any r l2 _ S2.rd
 rcases h3 : argD l2 with _ | ⟨c, l3⟩
 ·rw [h3] at H3 HD
  go_wp2_with (go_at_call 103; refine H3.mono ?_; rintro e v3 ⟨rfl, hg3⟩)
  exact ⟨rfl, by rw [← HQ.out, HD.out]; exact ⟨rfl, grownBy_trans S2.gr hg3⟩⟩
 rw [h3] at H3 HD
 rw [Option.bind_some] at HD
 go_wp2_with (go_at_call 103; refine H3.mono ?_; rintro e v3 ⟨rfl, hr3, hg3⟩; have S3 := S2.call hr3 hg3; clear S2 H3 hr3 hg3)
 have H4 := kbool_any r l3 _ S3.rd
 rcases h4 : boolD l3 with _ | ⟨d, l4⟩
 ·rw [h4] at H4 HD
  go_wp2_with (go_at_call 102; refine H4.mono ?_; rintro e v4 ⟨rfl, hg4⟩)
  exact ⟨rfl, by rw [← HQ.out, HD.out]; exact ⟨rfl, grownBy_trans S3.gr hg4⟩⟩
 rw [h4] at H4 HD
 rw [Option.bind_some] at HD
 go_wp2_with (go_at_call 102; refine H4.mono ?_; rintro e v4 ⟨rfl, hr4, hg4⟩; have S4 := S3.call hr4 hg4; clear S3 H4 hr4 hg4; have x0 : v4.cell? ⟨w.heap.size, 0, none⟩ = some (.int .i64 0) := cell_of_row v4 _ 0 _ _ _ S4.x; have y0 : v4.frozen? ⟨w.heap.size, 0, none⟩ = false := frozen_of_row v4 _ 0 _ _ S4.x; have x1 : v4.cell? ⟨w.heap.size, 1, none⟩ = some (.int .i64 0) := cell_of_row v4 _ 1 _ _ _ S4.x; have y1 : v4.frozen? ⟨w.heap.size, 1, none⟩ = false := frozen_of_row v4 _ 1 _ _ S4.x; have x2 : v4.cell? ⟨w.heap.size, 2, none⟩ = some (.int .i64 0) := cell_of_row v4 _ 2 _ _ _ S4.x; have y2 : v4.frozen? ⟨w.heap.size, 2, none⟩ = false := frozen_of_row v4 _ 2 _ _ S4.x; have x3 : v4.cell? ⟨w.heap.size, 3, none⟩ = some (.int .i64 0) := cell_of_row v4 _ 3 _ _ _ S4.x; have y3 : v4.frozen? ⟨w.heap.size, 3, none⟩ = false := frozen_of_row v4 _ 3 _ _ S4.x; have x4 : v4.cell? ⟨w.heap.size, 4, none⟩ = some (.int .i64 0) := cell_of_row v4 _ 4 _ _ _ S4.x; have y4 : v4.frozen? ⟨w.heap.size, 4, none⟩ = false := frozen_of_row v4 _ 4 _ _ S4.x; have x5 : v4.cell? ⟨w.heap.size, 5, none⟩ = some (.bool false) := cell_of_row v4 _ 5 _ _ _ S4.x; have y5 : v4.frozen? ⟨w.heap.size, 5, none⟩ = false := frozen_of_row v4 _ 5 _ _ S4.x)
 have hres : ((((((v4.setCell ⟨w.heap.size, 0, none⟩ (.int .i64 (a : Nat))).setCell ⟨w.heap.size, 1, none⟩ (.int .i64 b.kind)).setCell ⟨w.heap.size, 2, none⟩ (.int .i64 b.n)).setCell ⟨w.heap.size, 3, none⟩ (.int .i64 c.kind)).setCell ⟨w.heap.size, 4, none⟩ (.int .i64 c.n)).setCell ⟨w.heap.size, 5, none⟩ (.bool d)).heap[w.heap.size]? = some (.cells #[.int .i64 (a : Nat), .int .i64 b.kind, .int .i64 b.n, .int .i64 c.kind, .int .i64 c.n, .bool d] 133 (0, 0)) := (heap_setCell_same _ _ 5 _ _ _ (heap_setCell_same _ _ 4 _ _ _ (heap_setCell_same _ _ 3 _ _ _ (heap_setCell_same _ _ 2 _ _ _ (heap_setCell_same _ _ 1 _ _ _ (heap_setCell_same _ _ 0 _ _ _ S4.x))))))
 refine bodyPost_ret (results_cell_row rfl _ _ w.heap.size _ _ _ _ rfl hres Tryz.underlying133 rfl (by kernel_rfl)) rfl ?_
 rw [← HQ.out, HD.out]
 exact ⟨⟨rfl, ⟨rfl, (i64n (vD_len h1).1), (argD_i64 h2).1, (argD_i64 h2).2, (argD_i64 h3).1, (argD_i64 h3).2⟩⟩, S4.off ((((((OffB.set w.heap.size _ 0 _).trans (OffB.set w.heap.size _ 1 _)).trans (OffB.set w.heap.size _ 2 _)).trans (OffB.set w.heap.size _ 3 _)).trans (OffB.set w.heap.size _ 4 _)).trans (OffB.set w.heap.size _ 5 _)) (((((((Below.refl _ _).setCell (p := ⟨w.heap.size, 0, none⟩) (Nat.le_refl _) _).setCell (p := ⟨w.heap.size, 1, none⟩) (Nat.le_refl _) _).setCell (p := ⟨w.heap.size, 2, none⟩) (Nat.le_refl _) _).setCell (p := ⟨w.heap.size, 3, none⟩) (Nat.le_refl _) _).setCell (p := ⟨w.heap.size, 4, none⟩) (Nat.le_refl _) _).setCell (p := ⟨w.heap.size, 5, none⟩) (Nat.le_refl _) _)⟩
theorem kargp_any (r : Nat) (l : List UInt8) (w : World) (h : RdC r l w) : Calls Tryz.prog 103 #[.pointer (some ⟨r, 0, none⟩)] w (ArgPost r w (argD l)) := by
 refine (karg_any r l w h).mono ?_
 intro e w1 hp
 rcases h1 : argD l with _ | ⟨a, l1⟩
 ·rw [h1] at hp; exact hp
 ·rw [h1] at hp
  have := argD_enc h1
  exact ⟨⟨hp.1, rfl, (argD_i64 h1).1, (argD_i64 h1).2⟩, hp.2⟩
end Go.Proofs.YtghgbikmlbildaaGreatDoor
namespace Go.Proofs.YtghgbikmlbildaaGreatDoor
open Go.RowKit
set_option linter.unusedVariables false
set_option linter.unusedSimpArgs false

theorem infoLitK : (Tryz.prog.info? 78).map (fun i => (i.zero, i.size, i.bytes)) = some (some (.agg #[.int .i64 0, .int .i64 0, .int .i64 0, .string ⟨#[]⟩, .string ⟨#[]⟩, .int .i64 0, .slice none 0 0, .string ⟨#[]⟩, .int .i64 0]), 9, 112) := by kernel_rfl
/-- What the reader of one Lit may end in. -/
def LitPost (r : Nat) (w : World) (d : Option (Tm × List UInt8)) (e : Ending) (w' : World) : Prop :=
 match d with
 | none => e = gaveUp ∧ w.grownBy w' (some r)
 | some (x, l) => (∃ so c, e = .returned (.agg #[.int .i64 x.kind, .int .i64 x.int, .int .i64 x.gen, .string x.name, .string x.func, .int .i64 x.arity, .slice so x.items.length c, .string x.bytes, .int .i64 x.bits]) ∧ Way.tm.on w' (w.heap.size ≤ ·) (#[.int .i64 x.kind, .int .i64 x.int, .int .i64 x.gen, .string x.name, .string x.func, .int .i64 x.arity, .slice so x.items.length c, .string x.bytes, .int .i64 x.bits]).toList x) ∧ RdC r l w' ∧ w.grownBy w' (some r)
theorem Way.tmOf {w : World} {P : Nat → Prop} {t : Tm} {so : Option Addr} {c : Nat} (h : SlIn w P 9 (TmIn w P 1999) so t.items) : Way.tm.on w P (tmL t so c) t := ⟨so, c, rfl, h⟩
set_option maxRecDepth 100000 in
set_option maxHeartbeats 4000000 in
theorem klit_any (r : Nat) (l : List UInt8) (w : World) (h : RdC r l w) :
  Calls Tryz.prog 58 #[.pointer (some ⟨r, 0, none⟩)] w (LitPost r w (litD l)) := by
 generalize hQ : LitPost r w (litD l) = Q at *
 have HQ := Lib.hid hQ
 clear hQ
 have S0 := KSt.start h (.cells zeroRow 78)
 unfold zeroRow at S0
 have HD : Hid (litD l = (textD l).bind fun x => (wgetD x.1.data.toList).bind fun t => some (t, x.2)) := Lib.hid rfl
 go_enter Tryz.func58, Tryz.ntmps58
 go_upto_region 1 with fail
 generalize w.alloc _ = w0 at *
 have H1 := ktext_any r l _ S0.rd
 rcases h1 : textD l with _ | ⟨s, l1⟩
 ·rw [h1] at H1 HD
  go_wp2_with (go_at_call 55; refine H1.mono ?_; rintro e v1 ⟨rfl, hg1⟩)
  exact ⟨rfl, by rw [← HQ.out, HD.out]; exact ⟨rfl, grownBy_trans S0.gr hg1⟩⟩
 rw [h1] at H1 HD
 rw [Option.bind_some] at HD
 have hsz : s.size ≤ 9223372036854775807 := by have := (textD_enc h1).2; omega
 have HG := fun wx => wget_any s wx hsz
 unfold WGetQ at HG
 clear hsz
 rcases h2 : wgetD s.data.toList with _ | t
 ·rw [h2] at HD
  rw [h2] at HG
  go_wp2_with (first | (go_at_call 55; refine H1.mono ?_; rintro e v1 ⟨rfl, hr1, hg1⟩; have S1 := S0.call hr1 hg1; clear S0 hr1 hg1 H1) | (go_at_call 101; refine (HG _).mono ?_; rintro e v2 ⟨rfl, hb2⟩; have hgr : w.grownBy v2 (some r) := grown_low S1.gr (hb2.mono S1.gr.size)))
  exact ⟨rfl, by rw [← HQ.out, HD.out]; exact ⟨rfl, grown_low hgr ((Below.refl _ _).alloc hgr.size _)⟩⟩
 rw [h2] at HD
 rw [h2] at HG
 go_upto_region 4 with (first | (go_at_call 55; refine H1.mono ?_; rintro e v1 ⟨rfl, hr1, hg1⟩; have S1 := S0.call hr1 hg1; clear S0 hr1 hg1 H1) | (go_at_call 101; refine (HG _).mono ?_; rintro e v2 ⟨⟨so, c, rfl, htm⟩, hb2⟩))
 have hB3 := (Below.refl v2.heap.size v2).alloc (Nat.le_refl _) (.cells #[.int .i64 t.kind, .int .i64 t.int, .int .i64 t.gen, .string t.name, .string t.func, .int .i64 t.arity, .slice so t.items.length c, .string t.bytes, .int .i64 t.bits] 78)
 have hY3 := heap_alloc_new v2 (.cells #[.int .i64 t.kind, .int .i64 t.int, .int .i64 t.gen, .string t.name, .string t.func, .int .i64 t.arity, .slice so t.items.length c, .string t.bytes, .int .i64 t.bits] 78)
 have hlw := lt_of_row S1.x
 have hX3 := (hB3.block _ (Nat.lt_of_lt_of_le hlw hb2.size)).trans ((hb2.block _ hlw).trans S1.x)
 have hbb := hb2.trans (hB3.mono hb2.size)
 have hrd := S1.rd.below hbb
 have hgr : w.grownBy _ (some r) := grown_low S1.gr (hbb.mono S1.gr.size)
 have hsl := htm.sl.new hB3
 have hw1 : w.heap.size ≤ v1.heap.size := S1.gr.size
 have hne2 : w.heap.size < v2.heap.size := Nat.lt_of_lt_of_le hlw hb2.size
 have hrw := S1.hr
 clear htm hB3 hb2 hbb S1 HG
 generalize v2.alloc _ = v3 at *
 generalize v2.heap.size = Y at *
 obtain ⟨x0, x1, x2, x3, x4, x5, x6, x7, x8, y0, y1, y2, y3, y4, y5, y6, y7, y8⟩ := term_cells hX3
 obtain ⟨q0, q1, q2, q3, q4, q5, q6, q7, q8, z0, z1, z2, z3, z4, z5, z6, z7, z8⟩ := term_cells hY3
 go_wp2_with fail
 refine bodyPost_ret (results_cell_row rfl _ _ w.heap.size _ _ _ _ rfl (set9 _ _ _ _ _ _ _ _ _ hX3) Tryz.underlying78 rfl (by kernel_rfl)) rfl ?_
 rw [← HQ.out, HD.out]
 exact ⟨⟨so, c, rfl, Way.tmOf (hsl.off (OffB.nine _ _ _ _ _ _ _ _ _ _ _) hlw hw1)⟩, hrd.off (OffB.nine _ _ _ _ _ _ _ _ _ _ _) (by omega), grown_low hgr (below9 (Nat.le_refl _) (Below.refl _ _) _ _ _ _ _ _ _ _ _)⟩
set_option maxRecDepth 100000 in
set_option maxHeartbeats 8000000 in
theorem klistLit_any (r : Nat) (l0 : List UInt8) (w : World) (HO : ∀ (l : List UInt8) (wx : World), RdC r l wx → Calls Tryz.prog 58 #[.pointer (some ⟨r, 0, none⟩)] wx (LitPost r wx (litD l)))
  (HL : ∀ l x l', litD l = some (x, l') → l'.length < l.length) (h : RdC r l0 w) :
  Calls Tryz.prog 57 #[.pointer (some ⟨r, 0, none⟩), .func (.func 58) #[.pointer (some ⟨r, 0, none⟩)] #[]] w (LPost r w 9 Way.tm (listD litD l0)) := by
 generalize hQ : LPost r w 9 Way.tm (listD litD l0) = Q at *
 have HQ := Lib.hid hQ
 clear hQ
 have HOO := Lib.hid HO; have HLL := Lib.hid HL
 clear HO HL
 have HN := knum_any r l0 w h
 have HD : Hid (listD litD l0 = (vD l0).bind fun x => repD litD x.1 x.2) := Lib.hid rfl
 have hrw := h.lt
 have hlen0 := h.len
 go_enter Tryz.func57, Tryz.ntmps57
 rcases h1 : vD l0 with _ | ⟨n, l1⟩
 ·rw [h1] at HN HD
  go_wp2_with (go_at_call 56; refine HN.mono ?_; rintro e w1 ⟨rfl, hg1⟩)
  exact ⟨rfl, by rw [← HQ.out, HD.out]; exact ⟨rfl, hg1⟩⟩
 rw [h1] at HN HD
 rw [Option.bind_some] at HD
 have hn := vD_len h1
 go_wp2_with (go_at_call 56; refine HN.mono ?_; rintro e w1 ⟨rfl, hr1, hg1⟩)
 go_loopw [6, 5] (fun nv lv wr => ∃ (k : Nat) (l : List UInt8) (ts : List Tm), nv = .int .i64 k ∧ k + ts.length = n ∧ ts.length + l.length ≤ l0.length ∧ Hid (listD litD l0 = (repD litD k l).bind fun y => some (ts ++ y.1, y.2)) ∧ RdC r l wr ∧ AccG 78 9 Way.tm w.heap.size lv ts wr ∧ w.grownBy wr (some r)) (fun nv _ _ => (intOf nv).toNat)
 case atStart => exact ⟨n, l1, [], rfl, rfl, by simp; omega, Lib.hid (by rw [HD.out]; cases repD litD n l1 <;> rfl), hr1, AccG.nil _, hg1⟩
 case round =>
  obtain ⟨k, l, ts, rfl, hk, hll, HI, hrd, hacc, hg⟩ := hrel
  cases k with
  | zero =>
   obtain ⟨ao, cap, rfl, hsl⟩ := hacc.sl
   have HS := Lib.hid hsl
   clear hsl
   go_wp2_with fail
   rw [← HQ.out, HI.out]
   exact ⟨⟨_, _, by rw [List.append_nil], by rw [List.append_nil]; exact HS.out⟩, hrd, hg⟩
  | succ k =>
   obtain ⟨ao, cap0, rfl, -⟩ := hacc.sl
   have hpos : ((k + 1 : Nat) : Int) > 0 := by omega
   have HT := HOO.out l wr hrd
   rcases h2 : litD l with _ | ⟨x, l2⟩
   ·rw [h2] at HT
    go_wp2_with (go_at_call 58; refine HT.mono ?_; rintro e w2 ⟨rfl, hg2⟩)
    exact ⟨rfl, by rw [← HQ.out, HI.out, repD_succ, h2]; exact ⟨rfl, grownBy_trans hg hg2⟩⟩
   rw [h2] at HT
   have hlt := HLL.out l x l2 h2
   obtain ⟨i0, hi, hz0, hz1, hz2⟩ := info_parts infoLitK
   go_wp2_with (first
    | (go_at_call 58; refine HT.mono ?_; rintro e w2 ⟨⟨sx, cx, rfl, hval⟩, hr2, hg2⟩; obtain ⟨xs, ho, hR⟩ := ((hacc.grown hg2 hrw).below ((Below.refl _ _).alloc (Nat.le_refl _) (.cells #[.int .i64 x.kind, .int .i64 x.int, .int .i64 x.gen, .string x.name, .string x.func, .int .i64 x.arity, .slice sx x.items.length cx, .string x.bytes, .int .i64 x.bits] 78))).own)
    | (at_builtin; refine wpList_append_lies _ rfl (.tmp 13) (.tmp 16) 22 rfl w.heap.size 78 i0 _ 9 112 Tryz.underlying22 hi hz0 hz1 hz2 rfl (by decide) _ ts.length xs rfl ho ⟨w2.heap.size, 0, none⟩ 1 1 (#[.int .i64 x.kind, .int .i64 x.int, .int .i64 x.gen, .string x.name, .string x.func, .int .i64 x.arity, .slice sx x.items.length cx, .string x.bytes, .int .i64 x.bits]).toList rfl rfl (World.news_of_block (heap_alloc_new _ _)) (by simp [Value.oneCell']) (by decide) (by unfold maxLen; omega) (by omega) (by have := hg.size; have := hg2.size; simp; omega) _ rfl ?_; intro g cap w3 ho3 hg3 hat hlt3))
   have ho0 : ∀ k, (Value.slice ao ts.length cap0).ownBlock = some k → w.heap.size ≤ k ∧ k < wr.heap.size := by
    obtain ⟨xs0, ho0, -⟩ := hacc.own; exact ho0.lt
   have hb1 := (Below.refl w2.heap.size w2).alloc (Nat.le_refl _) (.cells #[.int .i64 x.kind, .int .i64 x.int, .int .i64 x.gen, .string x.name, .string x.func, .int .i64 x.arity, .slice sx x.items.length cx, .string x.bytes, .int .i64 x.bits] 78)
   have hacc2 : AccG 78 9 Way.tm w.heap.size (.slice (some ⟨g, 0, none⟩) (ts.length + 1) cap) (ts ++ [x]) w3 :=
    AccG.app (fun k e => (ho0 k e).2) hR (Way.below _ hb1 hval) rfl hg.size hg3 (fun k e => by
     have e : g = k := Option.some.inj e
     subst e
     exact hat.imp id fun h => Nat.le_of_eq h.symm) ho3
   have hr3 : RdC r l2 w3 := by
    obtain ⟨s, h1, h2⟩ := hr2.below hb1
    exact ⟨s, (hg3.block r (lt_of_row h1) fun e => by have := (ho0 r e.symm).1; omega).trans h1, h2⟩
   have hgw : w.grownBy w3 (some r) := grownBy_own (grown_low (grownBy_trans hg hg2) (hb1.mono (Nat.le_trans hg.size hg2.size))) hg3 (fun k e => (ho0 k e).1)
   go_wp2_with fail
   go_roundw
   case rel => exact ⟨k, l2, ts ++ [x], by go_num, by rw [List.length_append]; simp; omega, by rw [List.length_append]; simp; omega, Lib.hid (by
    rw [HI.out, repD_succ, h2, Option.bind_some]
    cases repD litD k l2 with
    | none => rfl
    | some y => simp only [Option.bind_some, List.append_assoc, List.cons_append, List.nil_append]), hr3, hacc2, hgw⟩
   case measure => simp [intOf]
end Go.Proofs.YtghgbikmlbildaaGreatDoor
namespace Go.Proofs.YtghgbikmlbildaaGreatDoor
open Go.RowKit
set_option linter.unusedVariables false
set_option linter.unusedSimpArgs false
theorem ins_cells {w : World} {B : Nat} {v0 v1 v2 v3 v4 v5 v6 v7 v8 v9 : Value} (h : w.heap[B]? = some (.cells #[v0, v1, v2, v3, v4, v5, v6, v7, v8, v9] 50 (0, 0))) :
  w.cell? ⟨B, 0, none⟩ = some v0 ∧ w.cell? ⟨B, 1, none⟩ = some v1 ∧ w.cell? ⟨B, 2, none⟩ = some v2 ∧ w.cell? ⟨B, 3, none⟩ = some v3 ∧ w.cell? ⟨B, 4, none⟩ = some v4 ∧ w.cell? ⟨B, 5, none⟩ = some v5 ∧ w.cell? ⟨B, 6, none⟩ = some v6 ∧ w.cell? ⟨B, 7, none⟩ = some v7 ∧ w.cell? ⟨B, 8, none⟩ = some v8 ∧ w.cell? ⟨B, 9, none⟩ = some v9 ∧ (w.frozen? ⟨B, 0, none⟩ = false ∧ w.frozen? ⟨B, 1, none⟩ = false ∧ w.frozen? ⟨B, 2, none⟩ = false ∧ w.frozen? ⟨B, 3, none⟩ = false ∧ w.frozen? ⟨B, 4, none⟩ = false ∧ w.frozen? ⟨B, 5, none⟩ = false ∧ w.frozen? ⟨B, 6, none⟩ = false ∧ w.frozen? ⟨B, 7, none⟩ = false ∧ w.frozen? ⟨B, 8, none⟩ = false ∧ w.frozen? ⟨B, 9, none⟩ = false) := by
 have hc := fun j => cell_of_row w B j _ _ _ h
 have hf := fun j => frozen_of_row w B j _ _ h
 exact ⟨hc 0, hc 1, hc 2, hc 3, hc 4, hc 5, hc 6, hc 7, hc 8, hc 9, hf 0, hf 1, hf 2, hf 3, hf 4, hf 5, hf 6, hf 7, hf 8, hf 9⟩
theorem set10 {w : World} {B : Nat} {a0 a1 a2 a3 a4 a5 a6 a7 a8 a9 : Value} (v0 v1 v2 v3 v4 v5 v6 v7 v8 v9 : Value) (h : w.heap[B]? = some (.cells #[a0, a1, a2, a3, a4, a5, a6, a7, a8, a9] 50 (0, 0))) :
  ((((((((((w.setCell ⟨B, 0, none⟩ v0).setCell ⟨B, 1, none⟩ v1).setCell ⟨B, 2, none⟩ v2).setCell ⟨B, 3, none⟩ v3).setCell ⟨B, 4, none⟩ v4).setCell ⟨B, 5, none⟩ v5).setCell ⟨B, 6, none⟩ v6).setCell ⟨B, 7, none⟩ v7).setCell ⟨B, 8, none⟩ v8).setCell ⟨B, 9, none⟩ v9).heap[B]? = some (.cells #[v0, v1, v2, v3, v4, v5, v6, v7, v8, v9] 50 (0, 0)) := by
 have h0 : (w.setCell ⟨B, 0, none⟩ v0).heap[B]? = some (.cells #[v0, a1, a2, a3, a4, a5, a6, a7, a8, a9] 50 (0, 0)) := heap_setCell_same _ _ 0 _ _ v0 h
 have h1 : ((w.setCell ⟨B, 0, none⟩ v0).setCell ⟨B, 1, none⟩ v1).heap[B]? = some (.cells #[v0, v1, a2, a3, a4, a5, a6, a7, a8, a9] 50 (0, 0)) := heap_setCell_same _ _ 1 _ _ v1 h0
 have h2 : (((w.setCell ⟨B, 0, none⟩ v0).setCell ⟨B, 1, none⟩ v1).setCell ⟨B, 2, none⟩ v2).heap[B]? = some (.cells #[v0, v1, v2, a3, a4, a5, a6, a7, a8, a9] 50 (0, 0)) := heap_setCell_same _ _ 2 _ _ v2 h1
 have h3 : ((((w.setCell ⟨B, 0, none⟩ v0).setCell ⟨B, 1, none⟩ v1).setCell ⟨B, 2, none⟩ v2).setCell ⟨B, 3, none⟩ v3).heap[B]? = some (.cells #[v0, v1, v2, v3, a4, a5, a6, a7, a8, a9] 50 (0, 0)) := heap_setCell_same _ _ 3 _ _ v3 h2
 have h4 : (((((w.setCell ⟨B, 0, none⟩ v0).setCell ⟨B, 1, none⟩ v1).setCell ⟨B, 2, none⟩ v2).setCell ⟨B, 3, none⟩ v3).setCell ⟨B, 4, none⟩ v4).heap[B]? = some (.cells #[v0, v1, v2, v3, v4, a5, a6, a7, a8, a9] 50 (0, 0)) := heap_setCell_same _ _ 4 _ _ v4 h3
 have h5 : ((((((w.setCell ⟨B, 0, none⟩ v0).setCell ⟨B, 1, none⟩ v1).setCell ⟨B, 2, none⟩ v2).setCell ⟨B, 3, none⟩ v3).setCell ⟨B, 4, none⟩ v4).setCell ⟨B, 5, none⟩ v5).heap[B]? = some (.cells #[v0, v1, v2, v3, v4, v5, a6, a7, a8, a9] 50 (0, 0)) := heap_setCell_same _ _ 5 _ _ v5 h4
 have h6 : (((((((w.setCell ⟨B, 0, none⟩ v0).setCell ⟨B, 1, none⟩ v1).setCell ⟨B, 2, none⟩ v2).setCell ⟨B, 3, none⟩ v3).setCell ⟨B, 4, none⟩ v4).setCell ⟨B, 5, none⟩ v5).setCell ⟨B, 6, none⟩ v6).heap[B]? = some (.cells #[v0, v1, v2, v3, v4, v5, v6, a7, a8, a9] 50 (0, 0)) := heap_setCell_same _ _ 6 _ _ v6 h5
 have h7 : ((((((((w.setCell ⟨B, 0, none⟩ v0).setCell ⟨B, 1, none⟩ v1).setCell ⟨B, 2, none⟩ v2).setCell ⟨B, 3, none⟩ v3).setCell ⟨B, 4, none⟩ v4).setCell ⟨B, 5, none⟩ v5).setCell ⟨B, 6, none⟩ v6).setCell ⟨B, 7, none⟩ v7).heap[B]? = some (.cells #[v0, v1, v2, v3, v4, v5, v6, v7, a8, a9] 50 (0, 0)) := heap_setCell_same _ _ 7 _ _ v7 h6
 have h8 : (((((((((w.setCell ⟨B, 0, none⟩ v0).setCell ⟨B, 1, none⟩ v1).setCell ⟨B, 2, none⟩ v2).setCell ⟨B, 3, none⟩ v3).setCell ⟨B, 4, none⟩ v4).setCell ⟨B, 5, none⟩ v5).setCell ⟨B, 6, none⟩ v6).setCell ⟨B, 7, none⟩ v7).setCell ⟨B, 8, none⟩ v8).heap[B]? = some (.cells #[v0, v1, v2, v3, v4, v5, v6, v7, v8, a9] 50 (0, 0)) := heap_setCell_same _ _ 8 _ _ v8 h7
 have h9 : ((((((((((w.setCell ⟨B, 0, none⟩ v0).setCell ⟨B, 1, none⟩ v1).setCell ⟨B, 2, none⟩ v2).setCell ⟨B, 3, none⟩ v3).setCell ⟨B, 4, none⟩ v4).setCell ⟨B, 5, none⟩ v5).setCell ⟨B, 6, none⟩ v6).setCell ⟨B, 7, none⟩ v7).setCell ⟨B, 8, none⟩ v8).setCell ⟨B, 9, none⟩ v9).heap[B]? = some (.cells #[v0, v1, v2, v3, v4, v5, v6, v7, v8, v9] 50 (0, 0)) := heap_setCell_same _ _ 9 _ _ v9 h8
 exact h9
theorem OffB.ten (X : Nat) (wx : World) (v0 v1 v2 v3 v4 v5 v6 v7 v8 v9 : Value) : OffB X wx ((((((((((wx.setCell ⟨X, 0, none⟩ v0).setCell ⟨X, 1, none⟩ v1).setCell ⟨X, 2, none⟩ v2).setCell ⟨X, 3, none⟩ v3).setCell ⟨X, 4, none⟩ v4).setCell ⟨X, 5, none⟩ v5).setCell ⟨X, 6, none⟩ v6).setCell ⟨X, 7, none⟩ v7).setCell ⟨X, 8, none⟩ v8).setCell ⟨X, 9, none⟩ v9) := (((((((((OffB.set X wx 0 v0).trans (OffB.set X _ 1 v1)).trans (OffB.set X _ 2 v2)).trans (OffB.set X _ 3 v3)).trans (OffB.set X _ 4 v4)).trans (OffB.set X _ 5 v5)).trans (OffB.set X _ 6 v6)).trans (OffB.set X _ 7 v7)).trans (OffB.set X _ 8 v8)).trans (OffB.set X _ 9 v9)
theorem below10 {w wx : World} {X : Nat} (h : Below X w wx) (v0 v1 v2 v3 v4 v5 v6 v7 v8 v9 : Value) : Below X w ((((((((((wx.setCell ⟨X, 0, none⟩ v0).setCell ⟨X, 1, none⟩ v1).setCell ⟨X, 2, none⟩ v2).setCell ⟨X, 3, none⟩ v3).setCell ⟨X, 4, none⟩ v4).setCell ⟨X, 5, none⟩ v5).setCell ⟨X, 6, none⟩ v6).setCell ⟨X, 7, none⟩ v7).setCell ⟨X, 8, none⟩ v8).setCell ⟨X, 9, none⟩ v9) := ((((((((((h.setCell (p := ⟨X, 0, none⟩) (Nat.le_refl _) v0).setCell (p := ⟨X, 1, none⟩) (Nat.le_refl _) v1).setCell (p := ⟨X, 2, none⟩) (Nat.le_refl _) v2).setCell (p := ⟨X, 3, none⟩) (Nat.le_refl _) v3).setCell (p := ⟨X, 4, none⟩) (Nat.le_refl _) v4).setCell (p := ⟨X, 5, none⟩) (Nat.le_refl _) v5).setCell (p := ⟨X, 6, none⟩) (Nat.le_refl _) v6).setCell (p := ⟨X, 7, none⟩) (Nat.le_refl _) v7).setCell (p := ⟨X, 8, none⟩) (Nat.le_refl _) v8).setCell (p := ⟨X, 9, none⟩) (Nat.le_refl _) v9)
/-- How an instruction lies whose slices lie in blocks of which P is true. -/
def InsIn (w : World) (P : Nat → Prop) (cs : List Value) (x : RIns) : Prop :=
 ∃ so sc co cc go gc, cs = [.int .i64 x.op, .int .i64 x.dst.kind, .int .i64 x.dst.n, .slice so x.src.length sc, .int .i64 x.to, .int .i64 x.n, .int .i64 x.live, .string x.name, .slice co x.cases.length cc, .slice go x.segs.length gc] ∧
  SlIn w P 2 ArgR so x.src ∧ SlIn w P 2 CaseR co x.cases ∧ SlIn w P 6 SegR go x.segs
def Way.ins : Way RIns := ⟨InsIn, fun hs hk hP ⟨so, sc, co, cc, go, gc, e, h1, h2, h3⟩ => ⟨so, sc, co, cc, go, gc, e, h1.kept hs hk hP fun _ _ h => h, h2.kept hs hk hP fun _ _ h => h, h3.kept hs hk hP fun _ _ h => h⟩⟩
theorem InsIn.ok {w : World} {P : Nat → Prop} {cs : List Value} {x : RIns} (h : InsIn w P cs x) (ho : InsOk x) : InsR w cs x := by
 obtain ⟨so, sc, co, cc, go, gc, e, h1, h2, h3⟩ := h
 refine ⟨⟨so, sc, co, cc, go, gc, e, h1.at fun _ _ _ h => h, h2.at fun _ _ _ h => h, h3.at fun _ _ _ h => h⟩, ho.op, ho.dst.1, ho.dst.2, ?_, ho.tgt, ho.n, ho.live, ?_, ?_, ?_⟩
 ·have := ho.srcL; unfold maxLen; omega
 ·have := ho.name; unfold maxLen; omega
 ·have := ho.casesL; unfold maxLen; omega
 ·have := ho.segsL; unfold maxLen; omega
/-- The reader of an instruction at work: block X is the result's (zero), Y the instruction's, R the row's. -/
structure ISt (w0 : World) (r : Nat) (l : List UInt8) (X Y R B h l1 l2 : Nat) (op : Int) (d : RArg) (ss : List RArg) (tg n lv : Int) (nm : ByteArray) (cs : List RCase) (gs : List RSeg) (wx : World) : Prop where
 rd : RdC r l wx
 gr : w0.grownBy wx (some r)
 x : wx.heap[X]? = some (.cells #[.int .i64 0, .int .i64 0, .int .i64 0, .slice none 0 0, .int .i64 0, .int .i64 0, .int .i64 0, .string ⟨#[]⟩, .slice none 0 0, .slice none 0 0] 50 (0, 0))
 rw : wx.heap[R]? = some (.cells #[.int .i64 (h : Nat), .int .i64 (l1 : Nat), .int .i64 (l2 : Nat)] 57 (0, 0))
 hr : r < w0.heap.size
 hX : X = w0.heap.size
 hY : X < Y
 hR : Y < R
 hB : R < B
 hBw : B ≤ wx.heap.size
 y : ∃ so sc co cc go gc, wx.heap[Y]? = some (.cells #[.int .i64 op, .int .i64 d.kind, .int .i64 d.n, .slice so ss.length sc, .int .i64 tg, .int .i64 n, .int .i64 lv, .string nm, .slice co cs.length cc, .slice go gs.length gc] 50 (0, 0)) ∧ SlIn wx (B ≤ ·) 2 ArgR so ss ∧ SlIn wx (B ≤ ·) 2 CaseR co cs ∧ SlIn wx (B ≤ ·) 6 SegR go gs
section
variable {w0 : World} {r : Nat} {l : List UInt8} {X Y R B h l1 l2 : Nat} {op : Int} {d : RArg} {ss : List RArg} {tg n lv : Int} {nm : ByteArray} {cs : List RCase} {gs : List RSeg} {wx wy : World}
theorem ISt.call (S : ISt w0 r l X Y R B h l1 l2 op d ss tg n lv nm cs gs wx) {l' : List UInt8} (hr : RdC r l' wy) (hg : wx.grownBy wy (some r)) : ISt w0 r l' X Y R B h l1 l2 op d ss tg n lv nm cs gs wy := by
 have hX := S.hX; have hY := S.hY; have hR := S.hR; have hB := S.hB; have hrw := S.hr
 obtain ⟨so, sc, co, cc, go, gc, hy, h1, h2, h3⟩ := S.y
 have hk : ∀ b, B ≤ b → b < wx.heap.size → wy.heap[b]? = wx.heap[b]? := fun b hb hl => hg.block b hl fun e => by have := Option.some.inj e; omega
 exact ⟨hr, grownBy_trans S.gr hg, row_kept hg S.hr (by omega) S.x, row_kept hg S.hr (by omega) S.rw, S.hr, S.hX, S.hY, S.hR, S.hB, Nat.le_trans S.hBw hg.size,
  so, sc, co, cc, go, gc, row_kept hg S.hr (by omega) hy, h1.kept hg.size hk (fun b h _ => h) fun _ _ h => h, h2.kept hg.size hk (fun b h _ => h) fun _ _ h => h, h3.kept hg.size hk (fun b h _ => h) fun _ _ h => h⟩
/-- Something is written into the instruction's block. -/
theorem ISt.put (S : ISt w0 r l X Y R B h l1 l2 op d ss tg n lv nm cs gs wx) (ho : OffB Y wx wy) (hbl : Below Y wx wy) {d' : RArg} {ss' : List RArg} {tg' n' lv' : Int} {nm' : ByteArray} {cs' : List RCase} {gs' : List RSeg}
  {so : Option Addr} {sc : Nat} {co : Option Addr} {cc : Nat} {go : Option Addr} {gc : Nat}
  (hy : wy.heap[Y]? = some (.cells #[.int .i64 op, .int .i64 d'.kind, .int .i64 d'.n, .slice so ss'.length sc, .int .i64 tg', .int .i64 n', .int .i64 lv', .string nm', .slice co cs'.length cc, .slice go gs'.length gc] 50 (0, 0))) (h1 : SlIn wx (B ≤ ·) 2 ArgR so ss') (h2 : SlIn wx (B ≤ ·) 2 CaseR co cs') (h3 : SlIn wx (B ≤ ·) 6 SegR go gs') : ISt w0 r l X Y R B h l1 l2 op d' ss' tg' n' lv' nm' cs' gs' wy := by
 have hX := S.hX; have hY := S.hY; have hR := S.hR; have hB := S.hB; have hrw := S.hr
 have hk : ∀ b, B ≤ b → b < wx.heap.size → wy.heap[b]? = wx.heap[b]? := fun b hb hl => ho.2 b (by omega)
 exact ⟨S.rd.off ho (by omega), grown_low S.gr (hbl.mono (by omega)), (ho.2 X (by omega)).trans S.x, (ho.2 R (by omega)).trans S.rw, S.hr, S.hX, S.hY, S.hR, S.hB, Nat.le_trans S.hBw ho.1,
  so, sc, co, cc, go, gc, hy, h1.kept ho.1 hk (fun b h _ => h) fun _ _ h => h, h2.kept ho.1 hk (fun b h _ => h) fun _ _ h => h, h3.kept ho.1 hk (fun b h _ => h) fun _ _ h => h⟩
theorem ISt.rowc (S : ISt w0 r l X Y R B h l1 l2 op d ss tg n lv nm cs gs wx) : wx.cell? ⟨R, 0, none⟩ = some (.int .i64 (h : Nat)) := cell_of_row wx R 0 _ _ _ S.rw
end
/-! ### The rest of an instruction, field by field -/
def i8 (h : Nat) (op : Int) (d : RArg) (ss : List RArg) (n : Int) (nm : ByteArray) (cs : List RCase) (gs : List RSeg) (tg : Int) : Dec RIns := fun l => (optD (hasB h 128) intD 0 l).bind fun v => some (⟨op, d, ss, tg, n, v.1, nm, cs, gs⟩, v.2)
def i7 (h : Nat) (op : Int) (d : RArg) (ss : List RArg) (n : Int) (nm : ByteArray) (cs : List RCase) (gs : List RSeg) : Dec RIns := fun l => (optD (hasB h 64) intD 0 l).bind fun t => i8 h op d ss n nm cs gs t.1 t.2
def i6 (h : Nat) (op : Int) (d : RArg) (ss : List RArg) (n : Int) (nm : ByteArray) (cs : List RCase) : Dec RIns := fun l => (optD (hasB h 32) (listD segD) [] l).bind fun g => i7 h op d ss n nm cs g.1 g.2
def i5 (h : Nat) (op : Int) (d : RArg) (ss : List RArg) (n : Int) (nm : ByteArray) : Dec RIns := fun l => (optD (hasB h 16) (listD caseD) [] l).bind fun c => i6 h op d ss n nm c.1 c.2
def i4 (h : Nat) (op : Int) (d : RArg) (ss : List RArg) (n : Int) : Dec RIns := fun l => (optD (hasB h 8) textD ⟨#[]⟩ l).bind fun m => i5 h op d ss n m.1 m.2
def i3 (h : Nat) (op : Int) (d : RArg) (ss : List RArg) : Dec RIns := fun l => (optD (hasB h 4) intD 0 l).bind fun n => i4 h op d ss n.1 n.2
def i2 (h : Nat) (op : Int) (d : RArg) : Dec RIns := fun l => (optD (hasB h 2) (listD argD) [] l).bind fun s => i3 h op d s.1 s.2
def i1 (h : Nat) (op : Int) : Dec RIns := fun l => (optD (hasB h 1) argD ⟨0, 0⟩ l).bind fun d => i2 h op d.1 d.2
theorem insG_i1 (h : Nat) (op : Int) (l : List UInt8) : insG op h l = i1 h op l := rfl
theorem optD_no {α : Type} (one : Dec α) (z : α) (l : List UInt8) : optD false one z l = some (z, l) := rfl
theorem optD_yes {α : Type} (one : Dec α) (z : α) (l : List UInt8) : optD true one z l = one l := rfl
def InsPost (r : Nat) (w : World) (d : Option (RIns × List UInt8)) (e : Ending) (w' : World) : Prop :=
 match d with
 | none => e = gaveUp ∧ w.grownBy w' (some r)
 | some (x, l) => (∃ so sc co cc go gc, e = .returned (.agg #[.int .i64 x.op, .int .i64 x.dst.kind, .int .i64 x.dst.n, .slice so x.src.length sc, .int .i64 x.to, .int .i64 x.n, .int .i64 x.live, .string x.name, .slice co x.cases.length cc, .slice go x.segs.length gc]) ∧ Way.ins.on w' (w.heap.size ≤ ·) (#[.int .i64 x.op, .int .i64 x.dst.kind, .int .i64 x.dst.n, .slice so x.src.length sc, .int .i64 x.to, .int .i64 x.n, .int .i64 x.live, .string x.name, .slice co x.cases.length cc, .slice go x.segs.length gc]).toList x) ∧ RdC r l w' ∧ w.grownBy w' (some r)
end Go.Proofs.YtghgbikmlbildaaGreatDoor
