/-
  CodeFinds: the walk.
-/
import Derived.Test.YtghgbikmlbildaaDoorWAwake
import Derived.Test.YtghgbikmlbildaaDoorCRaise
namespace Go.Proofs.YtghgbikmlbildaaDoor
open Go.RowKit
set_option linter.unusedVariables false
set_option linter.unusedSimpArgs false

set_option maxRecDepth 100000 in
set_option maxHeartbeats 8000000 in
theorem finds_walk (u : RUnit) (lo fo go co : Option Addr) (lc fc gc cc : Nat) (n : ByteArray) (op : Int) (w : World) (hup : UP w u lo fo go co) (hrows : RowsAt w) (hsp : SpaceAt w) (hn : n.size ≤ maxLen) :
    Calls Tryd.prog 4 #[.agg #[.string u.mdl, .int .i64 u.vsn, .slice lo u.lits.length lc, .slice fo u.funcs.length fc, .slice go u.funs.length gc, .slice co u.code.length cc], .string n, .int .i64 op] w fun e w' => e = .returned (.bool true) ∧ Below w.heap.size w w' := by
  have HUP := Lib.hid hup; have HR := Lib.hid hrows; have HS := Lib.hid hsp
  clear hup hrows hsp hn
  go_enter Tryd.func4, Tryd.ntmps4
  go_upto_region 1 with fail
  have hbx := ubox_new w u lo fo go co lc fc gc cc
  have hba : Below w.heap.size w (w.alloc (.cells #[.string u.mdl, .int .i64 u.vsn, .slice lo u.lits.length lc, .slice fo u.funcs.length fc, .slice go u.funs.length gc, .slice co u.code.length cc] 27)) := (Below.refl _ _).alloc (Nat.le_refl _) _
  generalize w.alloc (.cells #[.string u.mdl, .int .i64 u.vsn, .slice lo u.lits.length lc, .slice fo u.funcs.length fc, .slice go u.funs.length gc, .slice co u.code.length cc] 27) = Wa at *
  have HBA := Lib.hid hba; have HBX := Lib.hid hbx
  generalize hB : w.heap.size = B at *
  have HBE := Lib.hid hB
  clear hB hba
  have HUa : Hid (UP Wa u lo fo go co) := Lib.hid (HUP.out.below (by rw [HBE.out]; exact HBA.out))
  have HRa : Hid (RowsAt Wa) := Lib.hid (HR.out.below (by rw [HBE.out]; exact HBA.out))
  have HSa : Hid (SpaceAt Wa) := Lib.hid (HS.out.below (by rw [HBE.out]; exact HBA.out))
  have d0 := hbx.c0; have d1 := hbx.c1; have d2 := hbx.c2; have d3 := hbx.c3; have d4 := hbx.c4; have d5 := hbx.c5
  have hbl := hbx.lt
  clear hbx
  go_wp2_with fail
  refine (large_any u lo fo go co lc fc gc cc Wa HUa.out).mono ?_
  rintro e w1 ⟨b, rfl, hb1, -⟩
  have HB1 := Lib.hid hb1
  clear hb1 d0 d1 d2 d3 d4 d5
  cases b with
  | true =>
    go_wp2_with fail
    refine (awake_any w1 (HRa.out.below HB1.out) (HSa.out.below HB1.out)).mono ?_
    rintro e w2 ⟨rfl, hb2⟩
    go_wp2_with fail
    go_ret
    exact ⟨rfl, by rw [HBE.out]; exact HBA.out.trans ((HB1.out.trans (hb2.mono HB1.out.size)).mono (by have := HBA.out.size; have := HBE.out; omega))⟩
  | false =>
    go_wp2_with fail
    go_loopw [7] (fun av wr => ∃ ar : Int, -1 ≤ ar ∧ ar ≤ 4 ∧ av = .int .i64 ar ∧ Hid (Below Wa.heap.size Wa wr)) (fun av _ => (4 - intOf av).toNat)
    case atStart => exact ⟨-1, by decide, by decide, rfl, HB1⟩
    case round =>
      obtain ⟨ar, ha0, ha1, rfl, HBw⟩ := hrel
      rename World => wr
      have hbw := HBX.out.below HBw.out
      have d0 := hbw.c0; have d1 := hbw.c1; have d2 := hbw.c2; have d3 := hbw.c3; have d4 := hbw.c4; have d5 := hbw.c5
      have hbl2 := hbw.lt
      clear hbw
      by_cases hlt : ar < 4
      · have hf := find_any u lo fo go co lc fc gc cc n ar wr (HUa.out.below HBw.out)
        have HF := Lib.hid hf
        have hg := fun wx (hx : Below wr.heap.size wr wx) => rfind_any u lo fo go co lc fc gc cc n ar wx ((HUa.out.below HBw.out).below hx)
        have HG := Lib.hid hg
        clear hf hg
        generalize findI n ar u.funcs = fi at *
        generalize findB n ar u.funcs = fb at *
        go_wp2_with fail
        refine HF.out.mono ?_
        rintro e w2 ⟨rfl, hb2⟩
        have HB2 := Lib.hid (below_next HBw.out hb2)
        have HG2 := Lib.hid (HG.out _ hb2)
        clear hb2
        have hbw2 := HBX.out.below HB2.out
        clear d0 d1 d2 d3 d4 d5
        have d0 := hbw2.c0; have d1 := hbw2.c1; have d2 := hbw2.c2; have d3 := hbw2.c3; have d4 := hbw2.c4; have d5 := hbw2.c5
        clear hbw2
        go_wp2_with fail
        refine HG2.out.mono ?_
        rintro e w3 ⟨rfl, hb3⟩
        have HB3 := Lib.hid (below_next HB2.out hb3)
        clear hb3
        have t1 : (fi != fi) = false := by simp
        have t2 : (fb != fb) = false := by simp
        go_wp2_with fail
        go_roundw
        case rel => exact ⟨ar + 1, by omega, by omega, rfl, HB3⟩
        case measure => simp [intOf]; omega
      · have h1 := fun wx => raises_any op wx
        have h2 := fun wx => rraises_any op wx
        have H1 := Lib.hid h1; have H2 := Lib.hid h2
        clear h1 h2
        generalize raises op = q at *
        have t1 : (q == q) = true := by simp
        clear d0 d1 d2 d3 d4 d5
        go_wp2_with fail
        refine (H1.out _).mono ?_
        rintro e w2 ⟨rfl, rfl⟩
        go_wp2_with fail
        refine (H2.out _).mono ?_
        rintro e w3 ⟨rfl, hb3⟩
        have HB3 := Lib.hid (below_next HBw.out hb3)
        clear hb3
        go_wp2_with fail
        refine (awake_any w3 (HRa.out.below HB3.out) (HSa.out.below HB3.out)).mono ?_
        rintro e w4 ⟨rfl, hb4⟩
        go_wp2_with fail
        go_ret
        exact ⟨rfl, by rw [HBE.out]; exact HBA.out.trans ((HB3.out.trans (hb4.mono HB3.out.size)).mono (by have := HBA.out.size; have := HBE.out; omega))⟩
end Go.Proofs.YtghgbikmlbildaaDoor
