/-
  The unit reader: an instruction: the walks (printed by gen_kins.py). The unit reader: the list of instructions: the walks (printed by gen_kins.py). code.Get: what is deferred: the walks (printed by gen_kcatch.py).
-/
import Derived.Deep.CutBlock
import Derived.Deep.DeepCutAuto
import Derived.Laws.CopyOwn
import Derived.Deep.RegionHeld3
import Derived.Defers
import Derived.Recover
import Derived.Test.YtghgbikmlbildaaGreatDoorRoundsAll25
namespace Go.Proofs.YtghgbikmlbildaaGreatDoor
open Go.RowKit
set_option linter.unusedVariables false
set_option linter.unusedSimpArgs false

theorem enc_lt {l e l' : List UInt8} (h : l = e ++ l') (hne : e ≠ []) : l'.length < l.length := by
 have := List.length_pos_iff.2 hne
 rw [h, List.length_append]; omega
theorem argD_lt : ∀ l x l', argD l = some (x, l') → l'.length < l.length := fun l x l' h => enc_lt (argD_enc h).1 (vint_ne _)
theorem caseD_lt : ∀ l x l', caseD l = some (x, l') → l'.length < l.length := fun l x l' h => enc_lt (caseD_enc l x l' h).1 (fun e => vint_ne _ (List.append_eq_nil_iff.1 e).1)
theorem segD_lt : ∀ l x l', segD l = some (x, l') → l'.length < l.length := fun l x l' h => enc_lt (segD_enc l x l' h).1 (fun e => vint_ne _ (List.append_eq_nil_iff.1 e).1)
theorem RowsAt.ne {r : Nat} {l : List UInt8} {w : World} (h : RowsAt w) (hr : RdC r l w) : 0 ≠ r := by
 intro e
 subst e
 obtain ⟨s, h1, -⟩ := hr
 have h2 := (h.2 0 (by omega)).1
 have h3 := cell_of_row w _ 0 _ _ _ h1
 exact absurd (h2.symm.trans h3) (by simp)
theorem RowsAt.grown {r : Nat} {l : List UInt8} {w w' : World} (h : RowsAt w) (hr : RdC r l w) (hg : w.grownBy w' (some r)) : RowsAt w' := by
 have hne := h.ne hr
 have hb : w'.heap[0]? = w.heap[0]? := hg.block _ h.1 (fun e => hne (Option.some.inj e))
 refine ⟨Nat.lt_of_lt_of_le h.1 hg.size, fun k hk => ?_⟩
 obtain ⟨a, b, c⟩ := h.2 k hk
 exact ⟨(World.cell?_of_block hb).trans a, (World.cell?_of_block hb).trans b, (World.cell?_of_block hb).trans c⟩

set_option maxRecDepth 100000 in
set_option maxHeartbeats 40000000 in
theorem kins_any (r : Nat) (l0 : List UInt8) (w : World) (hrows : RowsAt w) (h : RdC r l0 w) :
  Calls Tryz.prog 64 #[.pointer (some ⟨r, 0, none⟩)] w (InsPost r w (insD l0)) := by
 generalize hQ : InsPost r w (insD l0) = Q at *
 have HQ := Lib.hid hQ
 clear hQ
 have hmf : ∀ (fn : Fn) (first cap : Array Value) (w : World), (Instr.makeFunc fn first cap).run Tryz.prog w = .ok (.func fn first cap) w := fun _ _ _ _ => rfl
 have HD : Hid (insD l0 = (intD l0).bind fun o => if 1 ≤ o.1 ∧ o.1 ≤ 40 then insG o.1 (rowAt o.1).1.toNat o.2 else none) := Lib.hid rfl
 have S0 := KSt.start h (.cells #[.int .i64 0, .int .i64 0, .int .i64 0, .slice none 0 0, .int .i64 0, .int .i64 0, .int .i64 0, .string ⟨#[]⟩, .slice none 0 0, .slice none 0 0] 50)
 have hrw := h.lt
 have hRW := hrows.grown h S0.gr
 clear hrows
 go_enter Tryz.func64, Tryz.ntmps64
 go_upto_region 1 with fail
 generalize w.alloc _ = w0 at *
 have H1 := knum_any r l0 _ S0.rd
 rcases h1 : vD l0 with _ | ⟨a, l1⟩
 ·rw [h1] at H1
  rw [show intD l0 = (vD l0).bind fun x => some ((x.1 : Int), x.2) from rfl, h1] at HD
  go_wp2_with (go_at_call 56; refine H1.mono ?_; rintro e v1 ⟨rfl, hg1⟩)
  exact ⟨rfl, by rw [← HQ.out, HD.out]; exact ⟨rfl, grownBy_trans S0.gr hg1⟩⟩
 rw [h1] at H1
 rw [show intD l0 = (vD l0).bind fun x => some ((x.1 : Int), x.2) from rfl, h1] at HD
 rw [Option.bind_some, Option.bind_some] at HD
 have hrd0 := S0.rd
 go_upto_region 2 with (go_at_call 56; refine H1.mono ?_; rintro e v1 ⟨rfl, hr1, hg1⟩; have S1 := S0.call hr1 hg1; have hRW1 := hRW.grown hrd0 hg1; clear S0 H1 hr1 hg1 hRW hrd0)
 have hba := (Below.refl v1.heap.size v1).alloc (Nat.le_refl _) (.cells #[.int .i64 (a : Int), .int .i64 0, .int .i64 0, .slice none 0 0, .int .i64 0, .int .i64 0, .int .i64 0, .string ⟨#[]⟩, .slice none 0 0, .slice none 0 0] 50)
 have hy := heap_alloc_new v1 (.cells #[.int .i64 (a : Int), .int .i64 0, .int .i64 0, .slice none 0 0, .int .i64 0, .int .i64 0, .int .i64 0, .string ⟨#[]⟩, .slice none 0 0, .slice none 0 0] 50)
 have hlx := lt_of_row S1.x
 have hx := (hba.block _ hlx).trans S1.x
 have hrd := S1.rd.below hba
 have hgr := grown_low S1.gr (hba.mono S1.gr.size)
 have hRW2 := hRW1.below hba
 have hle := S1.gr.size
 clear S1 hba hRW1
 generalize v1.alloc _ = v2 at *
 generalize v1.heap.size = Y at *
 have hyl := lt_of_row hy
 have cy : v2.cell? ⟨Y, 0, none⟩ = some (.int .i64 (a : Int)) := cell_of_row v2 Y 0 _ _ _ hy
 generalize hop : (a : Int) = op at *
 by_cases c : 1 ≤ op ∧ op ≤ 40
 case neg =>
  rw [if_neg c] at HD
  have hro := rowOf_no op c v2
  go_wp2_with (go_at_call 31; refine hro.mono ?_; rintro e v3 ⟨rfl, hb3⟩)
  exact ⟨rfl, by rw [← HQ.out, HD.out]; exact ⟨rfl, grown_low (grown_low hgr (hb3.mono hgr.size)) ((Below.refl _ _).alloc (Nat.le_trans hgr.size hb3.size) _)⟩⟩
 rw [if_pos c] at HD
 have hro := rowOf_at c v2 hRW2
 have hrl := @rowAt_lt op
 have hh := hrl.1
 rw [insG_i1] at HD
 generalize (rowAt op).1.toNat = h at *
 generalize (rowAt op).2.1.toNat = k1 at *
 generalize (rowAt op).2.2.toNat = k2 at *
 clear hrl hRW2
 go_upto_region 3 with (go_at_call 31; refine hro.mono ?_; rintro e v3 ⟨rfl, hb3⟩)
 have hbr := (Below.refl v3.heap.size v3).alloc (Nat.le_refl _) (.cells #[.int .i64 (h : Nat), .int .i64 (k1 : Nat), .int .i64 (k2 : Nat)] 57)
 have hrr := heap_alloc_new v3 (.cells #[.int .i64 (h : Nat), .int .i64 (k1 : Nat), .int .i64 (k2 : Nat)] 57)
 have hsz : (v3.alloc (.cells #[.int .i64 (h : Nat), .int .i64 (k1 : Nat), .int .i64 (k2 : Nat)] 57)).heap.size = v3.heap.size + 1 := by simp
 have hbb := hb3.trans (hbr.mono hb3.size)
 have S : ISt w r l1 w.heap.size Y v3.heap.size (v3.heap.size + 1) h k1 k2 op ⟨0, 0⟩ [] 0 0 0 ⟨#[]⟩ [] [] (v3.alloc (.cells #[.int .i64 (h : Nat), .int .i64 (k1 : Nat), .int .i64 (k2 : Nat)] 57)) :=
  ⟨hrd.below hbb, grown_low hgr (hbb.mono hgr.size), (hbb.block _ (lt_of_row hx)).trans hx, hrr, hrw, rfl, hlx, Nat.lt_of_lt_of_le hyl hb3.size, Nat.lt_succ_self _, by rw [hsz]; exact Nat.le_refl _, none, 0, none, 0, none, 0, (hbb.block _ hyl).trans hy, .inl rfl, .inl rfl, .inl rfl⟩
 clear hbr hrr hsz hbb hro hb3 hx hrd hgr hy hyl cy hlx hle hrw
 generalize v3.alloc _ = v4 at *
 generalize v3.heap.size + 1 = B at *
 generalize v3.heap.size = R at *
 have HS := Lib.hid S
 clear S
 obtain ⟨a1, e1⟩ := has_test h 1 hh (by decide)
 obtain ⟨q1, hq1⟩ : ∃ q, hasB h 1 = q := ⟨_, rfl⟩
 obtain ⟨y1, hy1⟩ : ∃ y, h &&& 1 = y := ⟨_, rfl⟩
 rw [hy1] at a1 e1
 rw [hq1] at e1
 have HA1 : Hid (bits .and .i64 (h : Int) 1 = (y1 : Int)) := Lib.hid a1
 have HE1 := Lib.hid e1
 have HQ1 := Lib.hid hq1
 clear a1 e1 hq1 hy1
 obtain ⟨a2, e2⟩ := has_test h 2 hh (by decide)
 obtain ⟨q2, hq2⟩ : ∃ q, hasB h 2 = q := ⟨_, rfl⟩
 obtain ⟨y2, hy2⟩ : ∃ y, h &&& 2 = y := ⟨_, rfl⟩
 rw [hy2] at a2 e2
 rw [hq2] at e2
 have HA2 : Hid (bits .and .i64 (h : Int) 2 = (y2 : Int)) := Lib.hid a2
 have HE2 := Lib.hid e2
 have HQ2 := Lib.hid hq2
 clear a2 e2 hq2 hy2
 obtain ⟨a4, e4⟩ := has_test h 4 hh (by decide)
 obtain ⟨q4, hq4⟩ : ∃ q, hasB h 4 = q := ⟨_, rfl⟩
 obtain ⟨y4, hy4⟩ : ∃ y, h &&& 4 = y := ⟨_, rfl⟩
 rw [hy4] at a4 e4
 rw [hq4] at e4
 have HA4 : Hid (bits .and .i64 (h : Int) 4 = (y4 : Int)) := Lib.hid a4
 have HE4 := Lib.hid e4
 have HQ4 := Lib.hid hq4
 clear a4 e4 hq4 hy4
 obtain ⟨a8, e8⟩ := has_test h 8 hh (by decide)
 obtain ⟨q8, hq8⟩ : ∃ q, hasB h 8 = q := ⟨_, rfl⟩
 obtain ⟨y8, hy8⟩ : ∃ y, h &&& 8 = y := ⟨_, rfl⟩
 rw [hy8] at a8 e8
 rw [hq8] at e8
 have HA8 : Hid (bits .and .i64 (h : Int) 8 = (y8 : Int)) := Lib.hid a8
 have HE8 := Lib.hid e8
 have HQ8 := Lib.hid hq8
 clear a8 e8 hq8 hy8
 obtain ⟨a16, e16⟩ := has_test h 16 hh (by decide)
 obtain ⟨q16, hq16⟩ : ∃ q, hasB h 16 = q := ⟨_, rfl⟩
 obtain ⟨y16, hy16⟩ : ∃ y, h &&& 16 = y := ⟨_, rfl⟩
 rw [hy16] at a16 e16
 rw [hq16] at e16
 have HA16 : Hid (bits .and .i64 (h : Int) 16 = (y16 : Int)) := Lib.hid a16
 have HE16 := Lib.hid e16
 have HQ16 := Lib.hid hq16
 clear a16 e16 hq16 hy16
 obtain ⟨a32, e32⟩ := has_test h 32 hh (by decide)
 obtain ⟨q32, hq32⟩ : ∃ q, hasB h 32 = q := ⟨_, rfl⟩
 obtain ⟨y32, hy32⟩ : ∃ y, h &&& 32 = y := ⟨_, rfl⟩
 rw [hy32] at a32 e32
 rw [hq32] at e32
 have HA32 : Hid (bits .and .i64 (h : Int) 32 = (y32 : Int)) := Lib.hid a32
 have HE32 := Lib.hid e32
 have HQ32 := Lib.hid hq32
 clear a32 e32 hq32 hy32
 obtain ⟨a64, e64⟩ := has_test h 64 hh (by decide)
 obtain ⟨q64, hq64⟩ : ∃ q, hasB h 64 = q := ⟨_, rfl⟩
 obtain ⟨y64, hy64⟩ : ∃ y, h &&& 64 = y := ⟨_, rfl⟩
 rw [hy64] at a64 e64
 rw [hq64] at e64
 have HA64 : Hid (bits .and .i64 (h : Int) 64 = (y64 : Int)) := Lib.hid a64
 have HE64 := Lib.hid e64
 have HQ64 := Lib.hid hq64
 clear a64 e64 hq64 hy64
 obtain ⟨a128, e128⟩ := has_test h 128 hh (by decide)
 obtain ⟨q128, hq128⟩ : ∃ q, hasB h 128 = q := ⟨_, rfl⟩
 obtain ⟨y128, hy128⟩ : ∃ y, h &&& 128 = y := ⟨_, rfl⟩
 rw [hy128] at a128 e128
 rw [hq128] at e128
 have HA128 : Hid (bits .and .i64 (h : Int) 128 = (y128 : Int)) := Lib.hid a128
 have HE128 := Lib.hid e128
 have HQ128 := Lib.hid hq128
 clear a128 e128 hq128 hy128
 have hcR := HS.out.rowc
 have hac := HA1.out
 have hec := HE1.out
 go_upto_if 22 with fail
 clear hcR hac hec
 go_cut [] (fun wx => ∃ (d : RArg) (l2 : List UInt8), Hid (insD l0 = i2 h op d l2) ∧ Hid (ISt w r l2 w.heap.size Y R B h k1 k2 op d ([]) 0 0 0 (⟨#[]⟩) ([]) ([]) wx))
 case first =>
  unfold i1 at HD
  rw [HQ1.out] at HD
  cases q1 with
  | false =>
   rw [optD_no, Option.bind_some] at HD
   go_wp2_with fail
   go_meet
   case rel => exact ⟨⟨0, 0⟩, _, HD, HS⟩
  | true =>
   rw [optD_yes] at HD
   have S := HS.out
   have H := karg_any r l1 _ S.rd
   rcases h2 : argD l1 with _ | ⟨d2, l3⟩
   ·rw [h2] at H HD
    go_wp2_with (go_at_call 103; refine H.mono ?_; rintro e v5 ⟨rfl, hg5⟩)
    exact ⟨rfl, by rw [← HQ.out, HD.out]; exact ⟨rfl, grownBy_trans S.gr hg5⟩⟩
   rw [h2] at H HD
   rw [Option.bind_some] at HD
   go_wp2_with (go_at_call 103; refine H.mono ?_; rintro e v5 ⟨rfl, hr5, hg5⟩; have S2 := S.call hr5 hg5; clear S; obtain ⟨so, sc, co, cc, go, gc, hy, s1, s2, s3⟩ := S2.y; obtain ⟨q0, q1, q2, q3, q4, q5, q6, q7, q8, q9, z0, z1, z2, z3, z4, z5, z6, z7, z8, z9⟩ := ins_cells hy)
   clear q0 q1 q2 q3 q4 q5 q6 q7 q8 q9 z0 z1 z2 z3 z4 z5 z6 z7 z8 z9
   go_meet
   case rel => exact ⟨d2, l3, HD, Lib.hid (S2.put ((OffB.set Y _ 1 _).trans (OffB.set Y _ 2 _)) (((Below.refl _ _).setCell (p := ⟨Y, 1, none⟩) (Nat.le_refl _) _).setCell (p := ⟨Y, 2, none⟩) (Nat.le_refl _) _) (heap_setCell_same _ _ 2 _ _ _ (heap_setCell_same _ _ 1 _ _ _ hy)) s1 s2 s3)⟩
 case rest =>
  clear HD HS
  obtain ⟨d, l, HD, HS⟩ := hcut
  have hcR := HS.out.rowc
  have hac := HA2.out
  have hec := HE2.out
  go_upto_if 29 with fail
  clear hcR hac hec
  go_cut [] (fun wx => ∃ (ss : List RArg) (l2 : List UInt8), Hid (insD l0 = i3 h op d ss l2) ∧ Hid (ISt w r l2 w.heap.size Y R B h k1 k2 op d ss 0 0 0 (⟨#[]⟩) ([]) ([]) wx))
  case first =>
   unfold i2 at HD
   rw [HQ2.out] at HD
   cases q2 with
   | false =>
    rw [optD_no, Option.bind_some] at HD
    go_wp2_with fail
    go_meet
    case rel => exact ⟨[], _, HD, HS⟩
   | true =>
    rw [optD_yes] at HD
    have S := HS.out
    have H := klistArg_any r l _ (fun l wx h => kargp_any r l wx h) argD_lt S.rd
    rcases h2 : listD argD l with _ | ⟨ss2, l3⟩
    ·rw [h2] at H HD
     go_wp2_with (go_at_call 104; refine H.mono ?_; rintro e v5 ⟨rfl, hg5⟩)
     exact ⟨rfl, by rw [← HQ.out, HD.out]; exact ⟨rfl, grownBy_trans S.gr hg5⟩⟩
    rw [h2] at H HD
    rw [Option.bind_some] at HD
    have hBw := S.hBw
    go_wp2_with (go_at_call 104; refine H.mono ?_; rintro e v5 ⟨⟨so2, c2, rfl, hsl⟩, hr5, hg5⟩; have S2 := S.call hr5 hg5; clear S; obtain ⟨so, sc, co, cc, go, gc, hy, s1, s2, s3⟩ := S2.y; obtain ⟨q0, q1, q2, q3, q4, q5, q6, q7, q8, q9, z0, z1, z2, z3, z4, z5, z6, z7, z8, z9⟩ := ins_cells hy)
    clear q0 q1 q2 q3 q4 q5 q6 q7 q8 q9 z0 z1 z2 z3 z4 z5 z6 z7 z8 z9
    go_meet
    case rel => exact ⟨ss2, l3, HD, Lib.hid (S2.put (OffB.set Y _ 3 _) ((Below.refl _ _).setCell (p := ⟨Y, 3, none⟩) (Nat.le_refl _) _) (heap_setCell_same _ _ 3 _ _ _ hy) (hsl.kept (Nat.le_refl _) (fun _ _ _ => rfl) (fun b hb _ => Nat.le_trans hBw hb) fun _ _ h => h) s2 s3)⟩
  case rest =>
   clear HD HS
   obtain ⟨ss, l, HD, HS⟩ := hcut
   have hcR := HS.out.rowc
   have hac := HA4.out
   have hec := HE4.out
   go_upto_if 38 with fail
   clear hcR hac hec
   go_cut [] (fun wx => ∃ (n : Int) (l2 : List UInt8), Hid (insD l0 = i4 h op d ss n l2) ∧ Hid (ISt w r l2 w.heap.size Y R B h k1 k2 op d ss 0 n 0 (⟨#[]⟩) ([]) ([]) wx))
   case first =>
    unfold i3 at HD
    rw [HQ4.out] at HD
    cases q4 with
    | false =>
     rw [optD_no, Option.bind_some] at HD
     go_wp2_with fail
     go_meet
     case rel => exact ⟨0, _, HD, HS⟩
    | true =>
     rw [optD_yes] at HD
     have S := HS.out
     have H := knum_any r l _ S.rd
     rcases h2 : vD l with _ | ⟨n2, l3⟩
     ·rw [h2] at H
      rw [show intD l = (vD l).bind fun x => some ((x.1 : Int), x.2) from rfl, h2] at HD
      go_wp2_with (go_at_call 56; refine H.mono ?_; rintro e v5 ⟨rfl, hg5⟩)
      exact ⟨rfl, by rw [← HQ.out, HD.out]; exact ⟨rfl, grownBy_trans S.gr hg5⟩⟩
     rw [h2] at H
     rw [show intD l = (vD l).bind fun x => some ((x.1 : Int), x.2) from rfl, h2] at HD
     rw [Option.bind_some, Option.bind_some] at HD
     go_wp2_with (go_at_call 56; refine H.mono ?_; rintro e v5 ⟨rfl, hr5, hg5⟩; have S2 := S.call hr5 hg5; clear S; obtain ⟨so, sc, co, cc, go, gc, hy, s1, s2, s3⟩ := S2.y; obtain ⟨q0, q1, q2, q3, q4, q5, q6, q7, q8, q9, z0, z1, z2, z3, z4, z5, z6, z7, z8, z9⟩ := ins_cells hy)
     clear q0 q1 q2 q3 q4 q5 q6 q7 q8 q9 z0 z1 z2 z3 z4 z5 z6 z7 z8 z9
     go_meet
     case rel => exact ⟨((n2 : Nat) : Int), l3, HD, Lib.hid (S2.put (OffB.set Y _ 5 _) ((Below.refl _ _).setCell (p := ⟨Y, 5, none⟩) (Nat.le_refl _) _) (heap_setCell_same _ _ 5 _ _ _ hy) s1 s2 s3)⟩
   case rest =>
    clear HD HS
    obtain ⟨n, l, HD, HS⟩ := hcut
    have hcR := HS.out.rowc
    have hac := HA8.out
    have hec := HE8.out
    go_upto_if 45 with fail
    clear hcR hac hec
    go_cut [] (fun wx => ∃ (nm : ByteArray) (l2 : List UInt8), Hid (insD l0 = i5 h op d ss n nm l2) ∧ Hid (ISt w r l2 w.heap.size Y R B h k1 k2 op d ss 0 n 0 nm ([]) ([]) wx))
    case first =>
     unfold i4 at HD
     rw [HQ8.out] at HD
     cases q8 with
     | false =>
      rw [optD_no, Option.bind_some] at HD
      go_wp2_with fail
      go_meet
      case rel => exact ⟨⟨#[]⟩, _, HD, HS⟩
     | true =>
      rw [optD_yes] at HD
      have S := HS.out
      have H := ktext_any r l _ S.rd
      rcases h2 : textD l with _ | ⟨nm2, l3⟩
      ·rw [h2] at H HD
       go_wp2_with (go_at_call 55; refine H.mono ?_; rintro e v5 ⟨rfl, hg5⟩)
       exact ⟨rfl, by rw [← HQ.out, HD.out]; exact ⟨rfl, grownBy_trans S.gr hg5⟩⟩
      rw [h2] at H HD
      rw [Option.bind_some] at HD
      go_wp2_with (go_at_call 55; refine H.mono ?_; rintro e v5 ⟨rfl, hr5, hg5⟩; have S2 := S.call hr5 hg5; clear S; obtain ⟨so, sc, co, cc, go, gc, hy, s1, s2, s3⟩ := S2.y; obtain ⟨q0, q1, q2, q3, q4, q5, q6, q7, q8, q9, z0, z1, z2, z3, z4, z5, z6, z7, z8, z9⟩ := ins_cells hy)
      clear q0 q1 q2 q3 q4 q5 q6 q7 q8 q9 z0 z1 z2 z3 z4 z5 z6 z7 z8 z9
      go_meet
      case rel => exact ⟨nm2, l3, HD, Lib.hid (S2.put (OffB.set Y _ 7 _) ((Below.refl _ _).setCell (p := ⟨Y, 7, none⟩) (Nat.le_refl _) _) (heap_setCell_same _ _ 7 _ _ _ hy) s1 s2 s3)⟩
    case rest =>
     clear HD HS
     obtain ⟨nm, l, HD, HS⟩ := hcut
     have hcR := HS.out.rowc
     have hac := HA16.out
     have hec := HE16.out
     go_upto_if 52 with fail
     clear hcR hac hec
     go_cut [] (fun wx => ∃ (cs : List RCase) (l2 : List UInt8), Hid (insD l0 = i6 h op d ss n nm cs l2) ∧ Hid (ISt w r l2 w.heap.size Y R B h k1 k2 op d ss 0 n 0 nm cs ([]) wx))
     case first =>
      unfold i5 at HD
      rw [HQ16.out] at HD
      cases q16 with
      | false =>
       rw [optD_no, Option.bind_some] at HD
       go_wp2_with fail
       go_meet
       case rel => exact ⟨[], _, HD, HS⟩
      | true =>
       rw [optD_yes] at HD
       have S := HS.out
       have H := klistCase_any r l _ (fun l wx h => kcase_any r l wx h) caseD_lt S.rd
       rcases h2 : listD caseD l with _ | ⟨cs2, l3⟩
       ·rw [h2] at H HD
        go_wp2_with (go_at_call 105; refine H.mono ?_; rintro e v5 ⟨rfl, hg5⟩)
        exact ⟨rfl, by rw [← HQ.out, HD.out]; exact ⟨rfl, grownBy_trans S.gr hg5⟩⟩
       rw [h2] at H HD
       rw [Option.bind_some] at HD
       have hBw := S.hBw
       go_wp2_with (go_at_call 105; refine H.mono ?_; rintro e v5 ⟨⟨so2, c2, rfl, hsl⟩, hr5, hg5⟩; have S2 := S.call hr5 hg5; clear S; obtain ⟨so, sc, co, cc, go, gc, hy, s1, s2, s3⟩ := S2.y; obtain ⟨q0, q1, q2, q3, q4, q5, q6, q7, q8, q9, z0, z1, z2, z3, z4, z5, z6, z7, z8, z9⟩ := ins_cells hy)
       clear q0 q1 q2 q3 q4 q5 q6 q7 q8 q9 z0 z1 z2 z3 z4 z5 z6 z7 z8 z9
       go_meet
       case rel => exact ⟨cs2, l3, HD, Lib.hid (S2.put (OffB.set Y _ 8 _) ((Below.refl _ _).setCell (p := ⟨Y, 8, none⟩) (Nat.le_refl _) _) (heap_setCell_same _ _ 8 _ _ _ hy) s1 (hsl.kept (Nat.le_refl _) (fun _ _ _ => rfl) (fun b hb _ => Nat.le_trans hBw hb) fun _ _ h => h) s3)⟩
     case rest =>
      clear HD HS
      obtain ⟨cs, l, HD, HS⟩ := hcut
      have hcR := HS.out.rowc
      have hac := HA32.out
      have hec := HE32.out
      go_upto_if 61 with fail
      clear hcR hac hec
      go_cut [] (fun wx => ∃ (gs : List RSeg) (l2 : List UInt8), Hid (insD l0 = i7 h op d ss n nm cs gs l2) ∧ Hid (ISt w r l2 w.heap.size Y R B h k1 k2 op d ss 0 n 0 nm cs gs wx))
      case first =>
       unfold i6 at HD
       rw [HQ32.out] at HD
       cases q32 with
       | false =>
        rw [optD_no, Option.bind_some] at HD
        go_wp2_with fail
        go_meet
        case rel => exact ⟨[], _, HD, HS⟩
       | true =>
        rw [optD_yes] at HD
        have S := HS.out
        have H := klistSeg_any r l _ (fun l wx h => kseg_any r l wx h) segD_lt S.rd
        rcases h2 : listD segD l with _ | ⟨gs2, l3⟩
        ·rw [h2] at H HD
         go_wp2_with (go_at_call 107; refine H.mono ?_; rintro e v5 ⟨rfl, hg5⟩)
         exact ⟨rfl, by rw [← HQ.out, HD.out]; exact ⟨rfl, grownBy_trans S.gr hg5⟩⟩
        rw [h2] at H HD
        rw [Option.bind_some] at HD
        have hBw := S.hBw
        go_wp2_with (go_at_call 107; refine H.mono ?_; rintro e v5 ⟨⟨so2, c2, rfl, hsl⟩, hr5, hg5⟩; have S2 := S.call hr5 hg5; clear S; obtain ⟨so, sc, co, cc, go, gc, hy, s1, s2, s3⟩ := S2.y; obtain ⟨q0, q1, q2, q3, q4, q5, q6, q7, q8, q9, z0, z1, z2, z3, z4, z5, z6, z7, z8, z9⟩ := ins_cells hy)
        clear q0 q1 q2 q3 q4 q5 q6 q7 q8 q9 z0 z1 z2 z3 z4 z5 z6 z7 z8 z9
        go_meet
        case rel => exact ⟨gs2, l3, HD, Lib.hid (S2.put (OffB.set Y _ 9 _) ((Below.refl _ _).setCell (p := ⟨Y, 9, none⟩) (Nat.le_refl _) _) (heap_setCell_same _ _ 9 _ _ _ hy) s1 s2 (hsl.kept (Nat.le_refl _) (fun _ _ _ => rfl) (fun b hb _ => Nat.le_trans hBw hb) fun _ _ h => h))⟩
      case rest =>
       clear HD HS
       obtain ⟨gs, l, HD, HS⟩ := hcut
       have hcR := HS.out.rowc
       have hac := HA64.out
       have hec := HE64.out
       go_upto_if 70 with fail
       clear hcR hac hec
       go_cut [] (fun wx => ∃ (tg : Int) (l2 : List UInt8), Hid (insD l0 = i8 h op d ss n nm cs gs tg l2) ∧ Hid (ISt w r l2 w.heap.size Y R B h k1 k2 op d ss tg n 0 nm cs gs wx))
       case first =>
        unfold i7 at HD
        rw [HQ64.out] at HD
        cases q64 with
        | false =>
         rw [optD_no, Option.bind_some] at HD
         go_wp2_with fail
         go_meet
         case rel => exact ⟨0, _, HD, HS⟩
        | true =>
         rw [optD_yes] at HD
         have S := HS.out
         have H := knum_any r l _ S.rd
         rcases h2 : vD l with _ | ⟨tg2, l3⟩
         ·rw [h2] at H
          rw [show intD l = (vD l).bind fun x => some ((x.1 : Int), x.2) from rfl, h2] at HD
          go_wp2_with (go_at_call 56; refine H.mono ?_; rintro e v5 ⟨rfl, hg5⟩)
          exact ⟨rfl, by rw [← HQ.out, HD.out]; exact ⟨rfl, grownBy_trans S.gr hg5⟩⟩
         rw [h2] at H
         rw [show intD l = (vD l).bind fun x => some ((x.1 : Int), x.2) from rfl, h2] at HD
         rw [Option.bind_some, Option.bind_some] at HD
         go_wp2_with (go_at_call 56; refine H.mono ?_; rintro e v5 ⟨rfl, hr5, hg5⟩; have S2 := S.call hr5 hg5; clear S; obtain ⟨so, sc, co, cc, go, gc, hy, s1, s2, s3⟩ := S2.y; obtain ⟨q0, q1, q2, q3, q4, q5, q6, q7, q8, q9, z0, z1, z2, z3, z4, z5, z6, z7, z8, z9⟩ := ins_cells hy)
         clear q0 q1 q2 q3 q4 q5 q6 q7 q8 q9 z0 z1 z2 z3 z4 z5 z6 z7 z8 z9
         go_meet
         case rel => exact ⟨((tg2 : Nat) : Int), l3, HD, Lib.hid (S2.put (OffB.set Y _ 4 _) ((Below.refl _ _).setCell (p := ⟨Y, 4, none⟩) (Nat.le_refl _) _) (heap_setCell_same _ _ 4 _ _ _ hy) s1 s2 s3)⟩
       case rest =>
        clear HD HS
        obtain ⟨tg, l, HD, HS⟩ := hcut
        have hcR := HS.out.rowc
        have hac := HA128.out
        have hec := HE128.out
        go_upto_if 77 with fail
        clear hcR hac hec
        go_cut [] (fun wx => ∃ (lv : Int) (l2 : List UInt8), Hid (insD l0 = some (⟨op, d, ss, tg, n, lv, nm, cs, gs⟩, l2)) ∧ Hid (ISt w r l2 w.heap.size Y R B h k1 k2 op d ss tg n lv nm cs gs wx))
        case first =>
         unfold i8 at HD
         rw [HQ128.out] at HD
         cases q128 with
         | false =>
          rw [optD_no, Option.bind_some] at HD
          go_wp2_with fail
          go_meet
          case rel => exact ⟨0, _, HD, HS⟩
         | true =>
          rw [optD_yes] at HD
          have S := HS.out
          have H := knum_any r l _ S.rd
          rcases h2 : vD l with _ | ⟨lv2, l3⟩
          ·rw [h2] at H
           rw [show intD l = (vD l).bind fun x => some ((x.1 : Int), x.2) from rfl, h2] at HD
           go_wp2_with (go_at_call 56; refine H.mono ?_; rintro e v5 ⟨rfl, hg5⟩)
           exact ⟨rfl, by rw [← HQ.out, HD.out]; exact ⟨rfl, grownBy_trans S.gr hg5⟩⟩
          rw [h2] at H
          rw [show intD l = (vD l).bind fun x => some ((x.1 : Int), x.2) from rfl, h2] at HD
          rw [Option.bind_some, Option.bind_some] at HD
          go_wp2_with (go_at_call 56; refine H.mono ?_; rintro e v5 ⟨rfl, hr5, hg5⟩; have S2 := S.call hr5 hg5; clear S; obtain ⟨so, sc, co, cc, go, gc, hy, s1, s2, s3⟩ := S2.y; obtain ⟨q0, q1, q2, q3, q4, q5, q6, q7, q8, q9, z0, z1, z2, z3, z4, z5, z6, z7, z8, z9⟩ := ins_cells hy)
          clear q0 q1 q2 q3 q4 q5 q6 q7 q8 q9 z0 z1 z2 z3 z4 z5 z6 z7 z8 z9
          go_meet
          case rel => exact ⟨((lv2 : Nat) : Int), l3, HD, Lib.hid (S2.put (OffB.set Y _ 6 _) ((Below.refl _ _).setCell (p := ⟨Y, 6, none⟩) (Nat.le_refl _) _) (heap_setCell_same _ _ 6 _ _ _ hy) s1 s2 s3)⟩
        case rest =>
         clear HD HS
         obtain ⟨lv, l, HD, HS⟩ := hcut
         have S := HS.out
         clear HS
         obtain ⟨so, sc, co, cc, go, gc, hy, s1, s2, s3⟩ := S.y
         have hx := S.x
         have hXB : w.heap.size < B := by have := S.hY; have := S.hR; have := S.hB; omega
         have HC := Lib.hid (And.intro s1 (And.intro s2 (And.intro s3 hXB)))
         have HSS := Lib.hid S
         clear s1 s2 s3 hXB S hmf hop c hh
         clear HA1 HA2 HA4 HA8 HA16 HA32 HA64 HA128 HE1 HE2 HE4 HE8 HE16 HE32 HE64 HE128 HQ1 HQ2 HQ4 HQ8 HQ16 HQ32 HQ64 HQ128
         have HY := Lib.hid hy
         have HX := Lib.hid hx
         clear hy hx
         go_upto_region 21 with fail
         rename_i K hK
         refine wp_region_list ?_
         refine wpList_load_row rfl 50 (.tmp 3) rfl Y rfl 50 _ _ _ HY.out Tryz.underlying50 rfl (by kernel_rfl) ?_
         refine wpList_store_row rfl 50 (.tmp 2) (.tmp 81) rfl w.heap.size #[.int .i64 op, .int .i64 d.kind, .int .i64 d.n, .slice so ss.length sc, .int .i64 tg, .int .i64 n, .int .i64 lv, .string nm, .slice co cs.length cc, .slice go gs.length gc] rfl rfl 50 _ HX.out (by kernel_rfl) rfl (by simp [Value.oneCell']) ?_
         refine wpList_nil ?_
         refine hK _ _ ?_
         refine wp_ret ?_
         have hx := HX.out
         have S := HSS.out
         obtain ⟨s1, s2, s3, hXB⟩ := HC.out
         refine bodyPost_ret (results_cell_row rfl _ _ w.heap.size _ _ _ _ rfl (setRow_heap _ _ _ _ _ _ hx) Tryz.underlying50 rfl (by kernel_rfl)) rfl ?_
         rw [← HQ.out, HD.out]
         have ho : OffB w.heap.size wc (wc.setRow w.heap.size #[.int .i64 op, .int .i64 d.kind, .int .i64 d.n, .slice so ss.length sc, .int .i64 tg, .int .i64 n, .int .i64 lv, .string nm, .slice co cs.length cc, .slice go gs.length gc]) := ⟨by simp, fun b hb => setRow_other _ _ _ _ hb⟩
         have hk : ∀ b, B ≤ b → b < wc.heap.size → (wc.setRow w.heap.size #[.int .i64 op, .int .i64 d.kind, .int .i64 d.n, .slice so ss.length sc, .int .i64 tg, .int .i64 n, .int .i64 lv, .string nm, .slice co cs.length cc, .slice go gs.length gc]).heap[b]? = wc.heap[b]? := fun b hb _ => ho.2 b (by omega)
         have hP : ∀ b, B ≤ b → b < wc.heap.size → w.heap.size ≤ b := fun b hb _ => by omega
         have hrne : r ≠ w.heap.size := by have := S.hr; omega
         exact ⟨⟨so, sc, co, cc, go, gc, rfl, so, sc, co, cc, go, gc, rfl, s1.kept ho.1 hk hP fun _ _ h => h, s2.kept ho.1 hk hP fun _ _ h => h, s3.kept ho.1 hk hP fun _ _ h => h⟩, S.rd.off ho hrne, grown_low S.gr (below_setRow (Below.refl _ _) (Nat.le_refl _) _)⟩
end Go.Proofs.YtghgbikmlbildaaGreatDoor
namespace Go.Proofs.YtghgbikmlbildaaGreatDoor
open Go.RowKit
set_option linter.unusedVariables false
set_option linter.unusedSimpArgs false

theorem infoInsK : (Tryz.prog.info? 50).map (fun i => (i.zero, i.size, i.bytes)) = some (some (.agg #[.int .i64 0, .int .i64 0, .int .i64 0, .slice none 0 0, .int .i64 0, .int .i64 0, .int .i64 0, .string ⟨#[]⟩, .slice none 0 0, .slice none 0 0]), 10, 136) := by kernel_rfl
set_option maxRecDepth 100000 in
set_option maxHeartbeats 8000000 in
theorem klistIns_any (r : Nat) (l0 : List UInt8) (w : World) (hrows : RowsAt w) (HO : ∀ (l : List UInt8) (wx : World), RowsAt wx → RdC r l wx → Calls Tryz.prog 64 #[.pointer (some ⟨r, 0, none⟩)] wx (InsPost r wx (insD l)))
  (HL : ∀ l x l', insD l = some (x, l') → l'.length < l.length) (h : RdC r l0 w) :
  Calls Tryz.prog 63 #[.pointer (some ⟨r, 0, none⟩), .func (.func 64) #[.pointer (some ⟨r, 0, none⟩)] #[]] w (LPost r w 10 Way.ins (listD insD l0)) := by
 generalize hQ : LPost r w 10 Way.ins (listD insD l0) = Q at *
 have HQ := Lib.hid hQ
 clear hQ
 have HOO := Lib.hid HO; have HLL := Lib.hid HL
 clear HO HL
 have HN := knum_any r l0 w h
 have HD : Hid (listD insD l0 = (vD l0).bind fun x => repD insD x.1 x.2) := Lib.hid rfl
 have hrw := h.lt
 have hlen0 := h.len
 go_enter Tryz.func63, Tryz.ntmps63
 rcases h1 : vD l0 with _ | ⟨n, l1⟩
 ·rw [h1] at HN HD
  go_wp2_with (go_at_call 56; refine HN.mono ?_; rintro e w1 ⟨rfl, hg1⟩)
  exact ⟨rfl, by rw [← HQ.out, HD.out]; exact ⟨rfl, hg1⟩⟩
 rw [h1] at HN HD
 rw [Option.bind_some] at HD
 have hn := vD_len h1
 go_wp2_with (go_at_call 56; refine HN.mono ?_; rintro e w1 ⟨rfl, hr1, hg1⟩)
 go_loopw [6, 5] (fun nv lv wr => ∃ (k : Nat) (l : List UInt8) (ts : List RIns), nv = .int .i64 k ∧ k + ts.length = n ∧ ts.length + l.length ≤ l0.length ∧ Hid (listD insD l0 = (repD insD k l).bind fun y => some (ts ++ y.1, y.2)) ∧ RdC r l wr ∧ AccG 50 10 Way.ins w.heap.size lv ts wr ∧ w.grownBy wr (some r)) (fun nv _ _ => (intOf nv).toNat)
 case atStart => exact ⟨n, l1, [], rfl, rfl, by simp; omega, Lib.hid (by rw [HD.out]; cases repD insD n l1 <;> rfl), hr1, AccG.nil _, hg1⟩
 case round =>
  obtain ⟨k, l, ts, rfl, hk, hll, HI, hrd, hacc, hg⟩ := hrel
  cases k with
  | zero =>
   obtain ⟨ao, cap, rfl, hsl⟩ := hacc.sl
   have HS := Lib.hid hsl
   clear hsl
   go_wp2_with fail
   rw [← HQ.out, HI.out]
   exact ⟨⟨_, _, by rw [List.append_nil], by rw [List.append_nil]; exact HS.out⟩, hrd, hg⟩
  | succ k =>
   obtain ⟨ao, cap0, rfl, -⟩ := hacc.sl
   have hpos : ((k + 1 : Nat) : Int) > 0 := by omega
   have HT := HOO.out l wr (hrows.grown h hg) hrd
   rcases h2 : insD l with _ | ⟨x, l2⟩
   ·rw [h2] at HT
    go_wp2_with (go_at_call 64; refine HT.mono ?_; rintro e w2 ⟨rfl, hg2⟩)
    exact ⟨rfl, by rw [← HQ.out, HI.out, repD_succ, h2]; exact ⟨rfl, grownBy_trans hg hg2⟩⟩
   rw [h2] at HT
   have hlt := HLL.out l x l2 h2
   obtain ⟨i0, hi, hz0, hz1, hz2⟩ := info_parts infoInsK
   go_wp2_with (first
    | (go_at_call 64; refine HT.mono ?_; rintro e w2 ⟨⟨sx, sxc, cx, cxc, gx, gxc, rfl, hval⟩, hr2, hg2⟩; obtain ⟨xs, ho, hR⟩ := ((hacc.grown hg2 hrw).below ((Below.refl _ _).alloc (Nat.le_refl _) (.cells #[.int .i64 x.op, .int .i64 x.dst.kind, .int .i64 x.dst.n, .slice sx x.src.length sxc, .int .i64 x.to, .int .i64 x.n, .int .i64 x.live, .string x.name, .slice cx x.cases.length cxc, .slice gx x.segs.length gxc] 50))).own)
    | (at_builtin; refine wpList_append_lies _ rfl (.tmp 13) (.tmp 16) 25 rfl w.heap.size 50 i0 _ 10 136 Tryz.underlying25 hi hz0 hz1 hz2 rfl (by decide) _ ts.length xs rfl ho ⟨w2.heap.size, 0, none⟩ 1 1 (#[.int .i64 x.op, .int .i64 x.dst.kind, .int .i64 x.dst.n, .slice sx x.src.length sxc, .int .i64 x.to, .int .i64 x.n, .int .i64 x.live, .string x.name, .slice cx x.cases.length cxc, .slice gx x.segs.length gxc]).toList rfl rfl (World.news_of_block (heap_alloc_new _ _)) (by simp [Value.oneCell']) (by decide) (by unfold maxLen; omega) (by omega) (by have := hg.size; have := hg2.size; simp; omega) _ rfl ?_; intro g cap w3 ho3 hg3 hat hlt3))
   have ho0 : ∀ k, (Value.slice ao ts.length cap0).ownBlock = some k → w.heap.size ≤ k ∧ k < wr.heap.size := by
    obtain ⟨xs0, ho0, -⟩ := hacc.own; exact ho0.lt
   have hb1 := (Below.refl w2.heap.size w2).alloc (Nat.le_refl _) (.cells #[.int .i64 x.op, .int .i64 x.dst.kind, .int .i64 x.dst.n, .slice sx x.src.length sxc, .int .i64 x.to, .int .i64 x.n, .int .i64 x.live, .string x.name, .slice cx x.cases.length cxc, .slice gx x.segs.length gxc] 50)
   have hacc2 : AccG 50 10 Way.ins w.heap.size (.slice (some ⟨g, 0, none⟩) (ts.length + 1) cap) (ts ++ [x]) w3 :=
    AccG.app (fun k e => (ho0 k e).2) hR (Way.below _ hb1 hval) rfl hg.size hg3 (fun k e => by
     have e : g = k := Option.some.inj e
     subst e
     exact hat.imp id fun h => Nat.le_of_eq h.symm) ho3
   have hr3 : RdC r l2 w3 := by
    obtain ⟨s, h1, h2⟩ := hr2.below hb1
    exact ⟨s, (hg3.block r (lt_of_row h1) fun e => by have := (ho0 r e.symm).1; omega).trans h1, h2⟩
   have hgw : w.grownBy w3 (some r) := grownBy_own (grown_low (grownBy_trans hg hg2) (hb1.mono (Nat.le_trans hg.size hg2.size))) hg3 (fun k e => (ho0 k e).1)
   go_wp2_with fail
   go_roundw
   case rel => exact ⟨k, l2, ts ++ [x], by go_num, by rw [List.length_append]; simp; omega, by rw [List.length_append]; simp; omega, Lib.hid (by
    rw [HI.out, repD_succ, h2, Option.bind_some]
    cases repD insD k l2 with
    | none => rfl
    | some y => simp only [Option.bind_some, List.append_assoc, List.cons_append, List.nil_append]), hr3, hacc2, hgw⟩
   case measure => simp [intOf]
theorem insD_lt : ∀ l x l', insD l = some (x, l') → l'.length < l.length := fun l x l' h => enc_lt (insD_enc l x l' h).1 (fun e => vint_ne _ (List.append_eq_nil_iff.1 e).1)
theorem litD_lt : ∀ l x l', litD l = some (x, l') → l'.length < l.length := fun l x l' h => enc_lt (litD_enc l x l' h).1 (textW_ne _)
theorem funcD_lt : ∀ l x l', funcD l = some (x, l') → l'.length < l.length := fun l x l' h => enc_lt (funcD_enc l x l' h).1 (fun e => textW_ne _ (List.append_eq_nil_iff.1 e).1)
theorem fnD_lt : ∀ l x l', fnD l = some (x, l') → l'.length < l.length := fun l x l' h => enc_lt (fnD_enc l x l' h).1 (fun e => vint_ne _ (List.append_eq_nil_iff.1 e).1)
end Go.Proofs.YtghgbikmlbildaaGreatDoor
namespace Go.Proofs.YtghgbikmlbildaaGreatDoor
open Go.RowKit
set_option linter.unusedVariables false
set_option linter.unusedSimpArgs false

def zeroU : Array Value := #[.string ⟨#[]⟩, .int .i64 0, .slice none 0 0, .slice none 0 0, .slice none 0 0, .slice none 0 0]
/-- The two results of Get, as they lie. -/
structure Out2 (X : Nat) (w : World) (row : Array Value) (e : Value) : Prop where
 x : w.heap[X]? = some (.cells row 27 (0, 0))
 e : w.heap[X + 1]? = some (.cells #[e] 30 (0, 0))
theorem unit_cells {w : World} {B : Nat} {v0 v1 v2 v3 v4 v5 : Value} (h : w.heap[B]? = some (.cells #[v0, v1, v2, v3, v4, v5] 27 (0, 0))) :
  w.cell? ⟨B, 0, none⟩ = some v0 ∧ w.cell? ⟨B, 1, none⟩ = some v1 ∧ w.cell? ⟨B, 2, none⟩ = some v2 ∧ w.cell? ⟨B, 3, none⟩ = some v3 ∧ w.cell? ⟨B, 4, none⟩ = some v4 ∧ w.cell? ⟨B, 5, none⟩ = some v5 ∧ (w.frozen? ⟨B, 0, none⟩ = false ∧ w.frozen? ⟨B, 1, none⟩ = false ∧ w.frozen? ⟨B, 2, none⟩ = false ∧ w.frozen? ⟨B, 3, none⟩ = false ∧ w.frozen? ⟨B, 4, none⟩ = false ∧ w.frozen? ⟨B, 5, none⟩ = false) := by
 have hc := fun j => cell_of_row w B j _ _ _ h
 have hf := fun j => frozen_of_row w B j _ _ h
 exact ⟨hc 0, hc 1, hc 2, hc 3, hc 4, hc 5, hf 0, hf 1, hf 2, hf 3, hf 4, hf 5⟩
theorem set6 {w : World} {B : Nat} {a0 a1 a2 a3 a4 a5 : Value} (v0 v1 v2 v3 v4 v5 : Value) (h : w.heap[B]? = some (.cells #[a0, a1, a2, a3, a4, a5] 27 (0, 0))) :
  ((((((w.setCell ⟨B, 0, none⟩ v0).setCell ⟨B, 1, none⟩ v1).setCell ⟨B, 2, none⟩ v2).setCell ⟨B, 3, none⟩ v3).setCell ⟨B, 4, none⟩ v4).setCell ⟨B, 5, none⟩ v5).heap[B]? = some (.cells #[v0, v1, v2, v3, v4, v5] 27 (0, 0)) := by
 have h0 : (w.setCell ⟨B, 0, none⟩ v0).heap[B]? = some (.cells #[v0, a1, a2, a3, a4, a5] 27 (0, 0)) := heap_setCell_same _ _ 0 _ _ v0 h
 have h1 : ((w.setCell ⟨B, 0, none⟩ v0).setCell ⟨B, 1, none⟩ v1).heap[B]? = some (.cells #[v0, v1, a2, a3, a4, a5] 27 (0, 0)) := heap_setCell_same _ _ 1 _ _ v1 h0
 have h2 : (((w.setCell ⟨B, 0, none⟩ v0).setCell ⟨B, 1, none⟩ v1).setCell ⟨B, 2, none⟩ v2).heap[B]? = some (.cells #[v0, v1, v2, a3, a4, a5] 27 (0, 0)) := heap_setCell_same _ _ 2 _ _ v2 h1
 have h3 : ((((w.setCell ⟨B, 0, none⟩ v0).setCell ⟨B, 1, none⟩ v1).setCell ⟨B, 2, none⟩ v2).setCell ⟨B, 3, none⟩ v3).heap[B]? = some (.cells #[v0, v1, v2, v3, a4, a5] 27 (0, 0)) := heap_setCell_same _ _ 3 _ _ v3 h2
 have h4 : (((((w.setCell ⟨B, 0, none⟩ v0).setCell ⟨B, 1, none⟩ v1).setCell ⟨B, 2, none⟩ v2).setCell ⟨B, 3, none⟩ v3).setCell ⟨B, 4, none⟩ v4).heap[B]? = some (.cells #[v0, v1, v2, v3, v4, a5] 27 (0, 0)) := heap_setCell_same _ _ 4 _ _ v4 h3
 have h5 : ((((((w.setCell ⟨B, 0, none⟩ v0).setCell ⟨B, 1, none⟩ v1).setCell ⟨B, 2, none⟩ v2).setCell ⟨B, 3, none⟩ v3).setCell ⟨B, 4, none⟩ v4).setCell ⟨B, 5, none⟩ v5).heap[B]? = some (.cells #[v0, v1, v2, v3, v4, v5] 27 (0, 0)) := heap_setCell_same _ _ 5 _ _ v5 h4
 exact h5
theorem OffB.six (X : Nat) (wx : World) (v0 v1 v2 v3 v4 v5 : Value) : OffB X wx ((((((wx.setCell ⟨X, 0, none⟩ v0).setCell ⟨X, 1, none⟩ v1).setCell ⟨X, 2, none⟩ v2).setCell ⟨X, 3, none⟩ v3).setCell ⟨X, 4, none⟩ v4).setCell ⟨X, 5, none⟩ v5) := (((((OffB.set X wx 0 v0).trans (OffB.set X _ 1 v1)).trans (OffB.set X _ 2 v2)).trans (OffB.set X _ 3 v3)).trans (OffB.set X _ 4 v4)).trans (OffB.set X _ 5 v5)
theorem below6 {w wx : World} {X : Nat} (h : Below X w wx) (v0 v1 v2 v3 v4 v5 : Value) : Below X w ((((((wx.setCell ⟨X, 0, none⟩ v0).setCell ⟨X, 1, none⟩ v1).setCell ⟨X, 2, none⟩ v2).setCell ⟨X, 3, none⟩ v3).setCell ⟨X, 4, none⟩ v4).setCell ⟨X, 5, none⟩ v5) := ((((((h.setCell (p := ⟨X, 0, none⟩) (Nat.le_refl _) v0).setCell (p := ⟨X, 1, none⟩) (Nat.le_refl _) v1).setCell (p := ⟨X, 2, none⟩) (Nat.le_refl _) v2).setCell (p := ⟨X, 3, none⟩) (Nat.le_refl _) v3).setCell (p := ⟨X, 4, none⟩) (Nat.le_refl _) v4).setCell (p := ⟨X, 5, none⟩) (Nat.le_refl _) v5)
theorem Out2.six {X : Nat} {w : World} {a0 a1 a2 a3 a4 a5 e : Value} (h : Out2 X w #[a0, a1, a2, a3, a4, a5] e) (v0 v1 v2 v3 v4 v5 e2 : Value) : Out2 X (((((((w.setCell ⟨X, 0, none⟩ v0).setCell ⟨X, 1, none⟩ v1).setCell ⟨X, 2, none⟩ v2).setCell ⟨X, 3, none⟩ v3).setCell ⟨X, 4, none⟩ v4).setCell ⟨X, 5, none⟩ v5).setCell ⟨X + 1, 0, none⟩ e2) #[v0, v1, v2, v3, v4, v5] e2 :=
 ⟨((OffB.set (X + 1) _ 0 e2).2 _ (by omega)).trans (set6 _ _ _ _ _ _ h.x), heap_setCell_same _ _ 0 _ _ e2 (((OffB.six X w _ _ _ _ _ _).2 _ (by omega)).trans h.e)⟩
theorem Out2.below {X : Nat} {w w' : World} {row : Array Value} {e : Value} (h : Out2 X w row e) (hb : Below w.heap.size w w') : Out2 X w' row e :=
 ⟨(hb.block _ (lt_of_row h.x)).trans h.x, (hb.block _ (lt_of_row h.e)).trans h.e⟩
theorem Out2.grown {X : Nat} {w w' : World} {row : Array Value} {e : Value} (h : Out2 X w row e) (hg : w.grownBy w' (some (X + 2))) : Out2 X w' row e :=
 ⟨(hg.block _ (lt_of_row h.x) (by simp)).trans h.x, (hg.block _ (lt_of_row h.e) (by simp)).trans h.e⟩
set_option maxRecDepth 100000 in
set_option maxHeartbeats 4000000 in
theorem get_idle (a b : Value) (w : World) :
  CallsD Tryz.prog 54 #[a, b] .returning w fun e u' w' => e = .returned (.tuple #[]) ∧ u' = .returning ∧ w' = w := by
 refine callsD_of_wpS Tryz.func54 rfl fun c₀ cs hu => ?_
 apply wpS_seq
 generalize hK : Exit.thenS _ _ = K
 apply wpS_region
 simp [wpOpsS, go_sem, recoverD, hu, Tryz.ntmps54]
 subst hK
 simp only [Exit.thenS]
 refine wpS_of_wp ?_
 go_wp2_with fail
 cases c₀
 simp_all [bodyPostS, results, Tryz.results54]
set_option maxRecDepth 100000 in
set_option maxHeartbeats 4000000 in
theorem get_catch (X : Nat) (v0 v1 v2 v3 v4 v5 e : Value) (older : List PanicEntry) (w : World) (h : Out2 X w #[v0, v1, v2, v3, v4, v5] e) :
  CallsD Tryz.prog 54 #[.pointer (some ⟨X, 0, none⟩), .pointer (some ⟨X + 1, 0, none⟩)] (.panicking ({ v := .iface 91 (.agg #[]), recovered := false } :: older)) w fun e u' w' =>
   e = .returned (.tuple #[]) ∧ u' = .panicking ({ v := .iface 91 (.agg #[]), recovered := true } :: older) ∧ Out2 X w' zeroU (.int .i64 6) ∧ Below X w w' := by
 have hta : ∀ wx : World, (Instr.typeAssert (Value.iface 91 (.agg #[])) 20 91 true).run Tryz.prog wx = .ok (.tuple #[.agg #[], .bool true]) wx := fun wx => by kernel_rfl
 refine callsD_of_wpS Tryz.func54 rfl fun c₀ cs hu => ?_
 apply wpS_seq
 generalize hK : Exit.thenS _ _ = K
 apply wpS_region
 simp [wpOpsS, go_sem, recoverD, hu, Tryz.ntmps54]
 subst hK
 simp only [Exit.thenS]
 refine wpS_of_wp ?_
 have hx := lt_of_row h.x
 have hx1 := lt_of_row h.e
 have hb : Below w.heap.size w (w.alloc (.cells #[] 91)) := (Below.refl _ _).alloc (Nat.le_refl _) _
 have h2 : Out2 X (w.alloc (.cells #[] 91)) #[v0, v1, v2, v3, v4, v5] e := h.below hb
 go_upto_region 5 with fail
 generalize w.alloc _ = w1 at *
 clear h
 obtain ⟨c0, c1, c2, c3, c4, c5, d0, d1, d2, d3, d4, d5⟩ := unit_cells h2.x
 have k1 : w1.cell? ⟨X + 1, 0, none⟩ = some e := cell_of_row w1 _ 0 _ _ _ h2.e
 have f1 : w1.frozen? ⟨X + 1, 0, none⟩ = false := frozen_of_row w1 _ 0 _ _ h2.e
 have hO := h2.six (.string ⟨#[]⟩) (.int .i64 0) (.slice none 0 0) (.slice none 0 0) (.slice none 0 0) (.slice none 0 0) (.int .i64 6)
 have hB : Below X w _ := (below6 (hb.mono (Nat.le_of_lt hx)) (.string ⟨#[]⟩) (.int .i64 0) (.slice none 0 0) (.slice none 0 0) (.slice none 0 0) (.slice none 0 0)).setCell (p := ⟨X + 1, 0, none⟩) (show X ≤ X + 1 by omega) (.int .i64 6)
 go_wp2_with fail
 clear h2 c0 c1 c2 c3 c4 c5 d0 d1 d2 d3 d4 d5 k1 f1
 generalize World.setCell _ ⟨X + 1, 0, none⟩ _ = w9 at *
 simp [bodyPostS, results, Tryz.results54]
 exact ⟨hO, hB⟩
end Go.Proofs.YtghgbikmlbildaaGreatDoor
