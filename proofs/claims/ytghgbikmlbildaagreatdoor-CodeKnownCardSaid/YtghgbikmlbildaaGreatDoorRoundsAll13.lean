/-
  Check: the walk. The writer of code: number, bool, arg: the walks. The writer of code: text, bool, arg: the walks. The encoding of a unit: plain functions, and how long they are. No program in sight.
-/
import Derived.Laws.AppendOwn
import Derived.OwnWalk
import Derived.Maps.AppendAt
import Derived.Lib.FrozenHead
import Derived.Lib.OwnKind
import Derived.Lib.AppendStr
import Derived.Test.YtghgbikmlbildaaGreatDoorRoundsAll02
import Derived.Test.YtghgbikmlbildaaGreatDoorRoundsAll07
import Derived.Test.YtghgbikmlbildaaGreatDoorRoundsAll08
import Derived.Test.YtghgbikmlbildaaGreatDoorRoundsAll10
import Derived.Test.YtghgbikmlbildaaGreatDoorRoundsAll12
namespace Go.Proofs.YtghgbikmlbildaaGreatDoor
open Go.RowKit
set_option linter.unusedVariables false
set_option linter.unusedSimpArgs false

/-- Has the table a row for an operation? -/
def opOk (op : Int) : Bool := decide (1 ≤ op ∧ op ≤ 40)
def rowAt (op : Int) : Int × Int × Int := (rowT[op.toNat]?).getD (0, 0, 0)
/-- Is an instruction well-formed, at its place? -/
def insB (u : RUnit) (i : Nat) (x : RIns) : Bool :=
 opOk x.op && (fieldsB u.lits.length x (rowAt x.op).1.toNat (rowAt x.op).2.1.toNat (rowAt x.op).2.2.toNat && (numberB u.funcs.length u.funs x && (namedB x && (listsB u.lits x && targetsB u.code i x (rowAt x.op).1.toNat))))
/-- The first instruction from i on that is not well-formed. -/
def badFrom (u : RUnit) : List RIns → Nat → Option Nat
 | [], _ => none
 | x :: l, i => if insB u i x = true then badFrom u l (i + 1) else some i
def checkI (f : Nat) (u : RUnit) : Int := if tablesB f u = true then (match badFrom u u.code 0 with | some i => (i : Int) | none => 0) else -1
def checkE (f : Nat) (u : RUnit) : Int := if tablesB f u = true then (match badFrom u u.code 0 with | some _ => 6 | none => 0) else 6
theorem bad_step (u : RUnit) {l : List RIns} {k : Nat} (h : k < l.length) : badFrom u (l.drop k) k = if insB u k l[k] = true then badFrom u (l.drop (k + 1)) (k + 1) else some k := by
 rw [List.drop_eq_getElem_cons h, badFrom]
theorem rowT_nat : ∀ k, (h : k < 41) → 0 ≤ (rowT[k]'h).1 ∧ (rowT[k]'h).1 < 1000 ∧ 0 ≤ (rowT[k]'h).2.1 ∧ (rowT[k]'h).2.1 < 1000 ∧ 0 ≤ (rowT[k]'h).2.2 ∧ (rowT[k]'h).2.2 < 1000 := by decide
/-- rowOf, in numbers. -/
theorem rowOf_at {op : Int} (h : 1 ≤ op ∧ op ≤ 40) (w : World) (hr : RowsAt w) :
  Calls Tryz.prog 31 #[.int .i64 op] w fun e w' => e = .returned (.tuple #[.agg #[.int .i64 ((rowAt op).1.toNat : Nat), .int .i64 ((rowAt op).2.1.toNat : Nat), .int .i64 ((rowAt op).2.2.toNat : Nat)], .bool true]) ∧ Below w.heap.size w w' := by
 obtain ⟨k, rfl⟩ : ∃ k : Nat, op = (k : Int) := ⟨op.toNat, by omega⟩
 have hk : k < 41 := by omega
 have h1 := rowOf_yes k (by omega) hk w hr
 obtain ⟨a, b, c, d, e, g⟩ := rowT_nat k hk
 have hra : rowAt (k : Int) = rowT[k]'hk := by unfold rowAt; rw [Int.toNat_natCast, List.getElem?_eq_getElem (by exact hk)]; rfl
 rw [hra, Int.toNat_of_nonneg a, Int.toNat_of_nonneg c, Int.toNat_of_nonneg e]
 exact h1
theorem rowAt_lt {op : Int} : (rowAt op).1.toNat < 1000 ∧ (rowAt op).2.1.toNat < 1000 ∧ (rowAt op).2.2.toNat < 1000 := by
 unfold rowAt
 by_cases h : op.toNat < 41
 ·obtain ⟨a, b, c, d, e, g⟩ := rowT_nat op.toNat h
  rw [List.getElem?_eq_getElem (by exact h)]
  simp only [Option.getD_some]
  omega
 ·rw [List.getElem?_eq_none (by exact Nat.le_of_not_lt h)]
  simp
theorem ret_ii {k k' : IntKind} {a b c d : Int} (h : a = b) (h' : c = d) : Ending.returned (.tuple #[.int k a, .int k' c]) = .returned (.tuple #[.int k b, .int k' d]) := by rw [h, h']
theorem lits_valid {f : Nat} {u : RUnit} (h : tablesB f u = true) : ∀ t ∈ u.lits, validF f t = true := by
 unfold tablesB at h
 rw [Bool.and_eq_true, Bool.and_eq_true] at h
 exact List.all_eq_true.1 h.2.1
set_option maxRecDepth 100000 in
set_option maxHeartbeats 40000000 in
theorem check_any (f : Nat) (u : RUnit) (lo fo go co : Option Addr) (lc fc gc cc : Nat) (w : World) (hrows : RowsAt w) (hsp : SpaceAt w) (hp : UP w u lo fo go co) (hlits : SlAt w 9 (TmAt w (f + 1)) lo u.lits) (hcap : ∀ t ∈ u.lits, (capF (f + 1) t : Int) ≤ 1152921504606846976) (hnm : ∀ x ∈ u.code, x.name.size ≤ 140737488355328) :
  Calls Tryz.prog 13 #[.agg #[.string u.mdl, .int .i64 u.vsn, .slice lo u.lits.length lc, .slice fo u.funcs.length fc, .slice go u.funs.length gc, .slice co u.code.length cc]] w fun e w' => e = .returned (.tuple #[.int .i64 (checkI (f + 1) u), .int .i64 (checkE (f + 1) u)]) ∧ Below w.heap.size w w' := by
 have HP := Lib.hid hp; have HRW := Lib.hid hrows; have HSP := Lib.hid hsp; have HLI := Lib.hid hlits; have HCAP := Lib.hid hcap; have HNM := Lib.hid hnm
 clear hrows hsp hp hlits hcap hnm
 have hbx := ubox_new w u lo fo go co lc fc gc cc
 have hba : Below w.heap.size w (w.alloc (.cells #[.string u.mdl, .int .i64 u.vsn, .slice lo u.lits.length lc, .slice fo u.funcs.length fc, .slice go u.funs.length gc, .slice co u.code.length cc] 27)) := (Below.refl _ _).alloc (Nat.le_refl _) _
 have hT := tables_any f w.heap.size u lo fo go co lc fc gc cc _ hbx (HP.out.below hba) (HLI.out.tms hba) HCAP.out
 have HBX := Lib.hid hbx; have HBA := Lib.hid hba
 have EI : Hid (checkI (f + 1) u = if tablesB (f + 1) u = true then (match badFrom u u.code 0 with | some i => (i : Int) | none => 0) else -1) := Lib.hid rfl
 have EE : Hid (checkE (f + 1) u = if tablesB (f + 1) u = true then (match badFrom u u.code 0 with | some _ => 6 | none => 0) else 6) := Lib.hid rfl
 clear hbx hba
 cases htb : tablesB (f + 1) u with
 | false =>
  rw [htb] at hT EI EE
  rw [if_neg (by decide)] at EI EE
  clear htb
  go_enter Tryz.func13, Tryz.ntmps13
  go_wp2_with fail
  refine hT.mono ?_
  rintro e w5 ⟨rfl, hb5⟩
  go_wp2_with fail
  go_ret2
  exact ⟨ret_ii EI.out.symm EE.out.symm, below_next HBA.out hb5⟩
 | true =>
  rw [htb] at hT EI EE
  rw [if_pos rfl] at EI EE
  have HLV := Lib.hid (lits_valid htb)
  have HI : Hid (badFrom u u.code 0 = badFrom u (u.code.drop 0) 0) := Lib.hid rfl
  clear htb
  have hcl := HP.out.codeLen
  go_enter Tryz.func13, Tryz.ntmps13
  go_wp2_with fail
  refine hT.mono ?_
  rintro e w5 ⟨rfl, hb5⟩
  have HB5 := Lib.hid (below_next HBA.out hb5)
  have HU5 := Lib.hid (HBX.out.below hb5)
  have d5 := HU5.out.c5
  have hsz : w.heap.size ≤ w5.heap.size := HB5.out.size
  clear hb5 hT HBX HBA
  generalize hBe : w.heap.size = B at *
  have HBE := Lib.hid hBe
  clear hBe
  go_wp2_with fail
  go_loopw [13] (fun i wr => ∃ k : Nat, k ≤ u.code.length ∧ i = .int .i64 k ∧ Hid (badFrom u u.code 0 = badFrom u (u.code.drop k) k) ∧ Below w5.heap.size w5 wr) (fun i _ => u.code.length - (intOf i).toNat)
  case atStart => exact ⟨0, Nat.zero_le _, rfl, HI, Below.refl _ _⟩
  case round =>
   obtain ⟨k, hk, rfl, HK, hBw⟩ := hrel
   rename World => wr
   by_cases hlt : k < u.code.length
   ·have HFW : Hid (Below w.heap.size w wr) := Lib.hid (by rw [HBE.out]; exact HB5.out.trans (hBw.mono hsz))
    obtain ⟨bc, oc, so, co', go', sc, cc', gc', hco, hxb⟩ := ibox_of (HP.out.below HFW.out).code hlt
    subst hco
    have HST := Lib.hid (bad_step u hlt)
    have hui := HU5.out.below hBw
    have e5 := hui.c5
    have c0 := hxb.c0
    have hbl := hxb.lt
    have hBl := hui.lt
    have hll := HP.out.litsLen
    have hrl := @rowAt_lt u.code[k].op
    have HINS : Hid (insB u k u.code[k] = (opOk u.code[k].op && (fieldsB u.lits.length u.code[k] (rowAt u.code[k].op).1.toNat (rowAt u.code[k].op).2.1.toNat (rowAt u.code[k].op).2.2.toNat && (numberB u.funcs.length u.funs u.code[k] && (namedB u.code[k] && (listsB u.lits u.code[k] && targetsB u.code k u.code[k] (rowAt u.code[k].op).1.toNat)))))) := Lib.hid rfl
    have cf := fun wx (hx : Below wr.heap.size wr wx) => fields_any B u lo fo go (some ⟨bc, oc, none⟩) lc fc gc cc bc (oc + k * 10) u.code[k] so co' go' sc cc' gc' (rowAt u.code[k].op).1.toNat (rowAt u.code[k].op).2.1.toNat (rowAt u.code[k].op).2.2.toNat wx (hui.below hx) hll (hxb.below hx) hrl.1 hrl.2.1 hrl.2.2
    have cn := fun wx (hx : Below wr.heap.size wr wx) => number_any B u lo fo go (some ⟨bc, oc, none⟩) lc fc gc cc bc (oc + k * 10) u.code[k] so co' go' sc cc' gc' wx (hui.below hx) HP.out.funcsLen HP.out.funsLen ((HP.out.below HFW.out).below hx).funs (hxb.below hx)
    have cm := fun wx (hx : Below wr.heap.size wr wx) => named_any bc (oc + k * 10) u.code[k] so co' go' sc cc' gc' wx ((HSP.out.below HFW.out).below hx) (hxb.below hx) (HNM.out _ (List.getElem_mem hlt))
    have cl := fun wx (hx : Below wr.heap.size wr wx) => lists_any B u lo fo go (some ⟨bc, oc, none⟩) lc fc gc cc bc (oc + k * 10) u.code[k] so co' go' sc cc' gc' f wx (hui.below hx) hll ⟨(HLI.out.tms HFW.out).tms hx, fun t ht => ⟨HLV.out t ht, HCAP.out t ht⟩⟩ (hxb.below hx)
    have ct := fun wx (hx : Below wr.heap.size wr wx) => targets_any B u lo fo go lc fc gc cc bc oc k (rowAt u.code[k].op).1.toNat (rowAt u.code[k].op).2.1.toNat (rowAt u.code[k].op).2.2.toNat so co' go' sc cc' gc' wx (hui.below hx) ((HP.out.below HFW.out).below hx).code hcl hlt u.code[k] (hxb.below hx) hrl.1
    have CF := Lib.hid cf; have CN := Lib.hid cn; have CM := Lib.hid cm; have CL := Lib.hid cl; have CT := Lib.hid ct
    clear cf cn cm cl ct hrl hxb hui
    by_cases hop : 1 ≤ u.code[k].op ∧ u.code[k].op ≤ 40
    ·have hro := rowOf_at hop wr (HRW.out.below HFW.out)
     have hok1 : opOk u.code[k].op = true := by unfold opOk; exact decide_eq_true hop
     rw [hok1] at HINS
     clear hop hok1
     generalize fieldsB u.lits.length u.code[k] (rowAt u.code[k].op).1.toNat (rowAt u.code[k].op).2.1.toNat (rowAt u.code[k].op).2.2.toNat = b1 at *
     generalize targetsB u.code k u.code[k] (rowAt u.code[k].op).1.toNat = b5 at *
     generalize numberB u.funcs.length u.funs u.code[k] = b2 at *
     generalize namedB u.code[k] = b3 at *
     generalize listsB u.lits u.code[k] = b4 at *
     generalize insB u k u.code[k] = ib at *
     generalize (rowAt u.code[k].op).1.toNat = h at *
     generalize (rowAt u.code[k].op).2.1.toNat = l1 at *
     generalize (rowAt u.code[k].op).2.2.toNat = l2 at *
     generalize u.code[k].op = op at *
     have hbad : ib = false → badFrom u u.code 0 = some k := fun e => by rw [HK.out, HST.out, e]; rfl
     have hgood : ib = true → badFrom u u.code 0 = badFrom u (u.code.drop (k + 1)) (k + 1) := fun e => by rw [HK.out, HST.out, e]; rfl
     have HBAD := Lib.hid hbad; have HGOOD := Lib.hid hgood
     clear hbad hgood
     cases b1 with
     | false =>
      have hb := HBAD.out (by rw [HINS.out]; rfl)
      have E1 : Hid (checkI (f + 1) u = k) := Lib.hid (by rw [EI.out, hb])
      have E2 : Hid (checkE (f + 1) u = 6) := Lib.hid (by rw [EE.out, hb])
      clear hb
      go_wp2_with fail
      refine hro.mono ?_
      rintro e w6 ⟨rfl, hb6⟩
      have HW := Lib.hid (hb6.alloc hb6.size (.cells #[.int .i64 (h : Nat), .int .i64 (l1 : Nat), .int .i64 (l2 : Nat)] 57))
      have hR := heap_alloc_new w6 (.cells #[.int .i64 (h : Nat), .int .i64 (l1 : Nat), .int .i64 (l2 : Nat)] 57)
      have HR := Lib.hid hR
      have HWW := Lib.hid (Below.refl (w6.alloc (.cells #[.int .i64 (h : Nat), .int .i64 (l1 : Nat), .int .i64 (l2 : Nat)] 57)).heap.size (w6.alloc (.cells #[.int .i64 (h : Nat), .int .i64 (l1 : Nat), .int .i64 (l2 : Nat)] 57)))
      clear hb6 hR
      go_wp2_with fail
      generalize w6.alloc (.cells #[.int .i64 (h : Nat), .int .i64 (l1 : Nat), .int .i64 (l2 : Nat)] 57) = W6 at *
      generalize w6.heap.size = R at *
      refine (CF.out _ HW.out).mono ?_
      rintro e v0 ⟨rfl, hc0⟩
      have HV0 := Lib.hid (below_next HW.out hc0)
      have HZ0 := Lib.hid (below_next HWW.out hc0)
      clear hc0
      go_wp2_with fail
      go_ret2
      exact ⟨ret_ii E1.out.symm E2.out.symm, HFW.out.trans (HV0.out.mono HFW.out.size)⟩
     | true =>
      cases b2 with
      | false =>
       have hb := HBAD.out (by rw [HINS.out]; rfl)
       have E1 : Hid (checkI (f + 1) u = k) := Lib.hid (by rw [EI.out, hb])
       have E2 : Hid (checkE (f + 1) u = 6) := Lib.hid (by rw [EE.out, hb])
       clear hb
       go_wp2_with fail
       refine hro.mono ?_
       rintro e w6 ⟨rfl, hb6⟩
       have HW := Lib.hid (hb6.alloc hb6.size (.cells #[.int .i64 (h : Nat), .int .i64 (l1 : Nat), .int .i64 (l2 : Nat)] 57))
       have hR := heap_alloc_new w6 (.cells #[.int .i64 (h : Nat), .int .i64 (l1 : Nat), .int .i64 (l2 : Nat)] 57)
       have HR := Lib.hid hR
       have HWW := Lib.hid (Below.refl (w6.alloc (.cells #[.int .i64 (h : Nat), .int .i64 (l1 : Nat), .int .i64 (l2 : Nat)] 57)).heap.size (w6.alloc (.cells #[.int .i64 (h : Nat), .int .i64 (l1 : Nat), .int .i64 (l2 : Nat)] 57)))
       clear hb6 hR
       go_wp2_with fail
       generalize w6.alloc (.cells #[.int .i64 (h : Nat), .int .i64 (l1 : Nat), .int .i64 (l2 : Nat)] 57) = W6 at *
       generalize w6.heap.size = R at *
       refine (CF.out _ HW.out).mono ?_
       rintro e v0 ⟨rfl, hc0⟩
       have HV0 := Lib.hid (below_next HW.out hc0)
       have HZ0 := Lib.hid (below_next HWW.out hc0)
       clear hc0
       go_wp2_with fail
       refine (CN.out _ HV0.out).mono ?_
       rintro e v1 ⟨rfl, hc1⟩
       have HV1 := Lib.hid (below_next HV0.out hc1)
       have HZ1 := Lib.hid (below_next HZ0.out hc1)
       clear hc1
       go_wp2_with fail
       go_ret2
       exact ⟨ret_ii E1.out.symm E2.out.symm, HFW.out.trans (HV1.out.mono HFW.out.size)⟩
      | true =>
       cases b3 with
       | false =>
        have hb := HBAD.out (by rw [HINS.out]; rfl)
        have E1 : Hid (checkI (f + 1) u = k) := Lib.hid (by rw [EI.out, hb])
        have E2 : Hid (checkE (f + 1) u = 6) := Lib.hid (by rw [EE.out, hb])
        clear hb
        go_wp2_with fail
        refine hro.mono ?_
        rintro e w6 ⟨rfl, hb6⟩
        have HW := Lib.hid (hb6.alloc hb6.size (.cells #[.int .i64 (h : Nat), .int .i64 (l1 : Nat), .int .i64 (l2 : Nat)] 57))
        have hR := heap_alloc_new w6 (.cells #[.int .i64 (h : Nat), .int .i64 (l1 : Nat), .int .i64 (l2 : Nat)] 57)
        have HR := Lib.hid hR
        have HWW := Lib.hid (Below.refl (w6.alloc (.cells #[.int .i64 (h : Nat), .int .i64 (l1 : Nat), .int .i64 (l2 : Nat)] 57)).heap.size (w6.alloc (.cells #[.int .i64 (h : Nat), .int .i64 (l1 : Nat), .int .i64 (l2 : Nat)] 57)))
        clear hb6 hR
        go_wp2_with fail
        generalize w6.alloc (.cells #[.int .i64 (h : Nat), .int .i64 (l1 : Nat), .int .i64 (l2 : Nat)] 57) = W6 at *
        generalize w6.heap.size = R at *
        refine (CF.out _ HW.out).mono ?_
        rintro e v0 ⟨rfl, hc0⟩
        have HV0 := Lib.hid (below_next HW.out hc0)
        have HZ0 := Lib.hid (below_next HWW.out hc0)
        clear hc0
        go_wp2_with fail
        refine (CN.out _ HV0.out).mono ?_
        rintro e v1 ⟨rfl, hc1⟩
        have HV1 := Lib.hid (below_next HV0.out hc1)
        have HZ1 := Lib.hid (below_next HZ0.out hc1)
        clear hc1
        go_wp2_with fail
        refine (CM.out _ HV1.out).mono ?_
        rintro e v2 ⟨rfl, hc2⟩
        have HV2 := Lib.hid (below_next HV1.out hc2)
        have HZ2 := Lib.hid (below_next HZ1.out hc2)
        clear hc2
        go_wp2_with fail
        go_ret2
        exact ⟨ret_ii E1.out.symm E2.out.symm, HFW.out.trans (HV2.out.mono HFW.out.size)⟩
       | true =>
        cases b4 with
        | false =>
         have hb := HBAD.out (by rw [HINS.out]; rfl)
         have E1 : Hid (checkI (f + 1) u = k) := Lib.hid (by rw [EI.out, hb])
         have E2 : Hid (checkE (f + 1) u = 6) := Lib.hid (by rw [EE.out, hb])
         clear hb
         go_wp2_with fail
         refine hro.mono ?_
         rintro e w6 ⟨rfl, hb6⟩
         have HW := Lib.hid (hb6.alloc hb6.size (.cells #[.int .i64 (h : Nat), .int .i64 (l1 : Nat), .int .i64 (l2 : Nat)] 57))
         have hR := heap_alloc_new w6 (.cells #[.int .i64 (h : Nat), .int .i64 (l1 : Nat), .int .i64 (l2 : Nat)] 57)
         have HR := Lib.hid hR
         have HWW := Lib.hid (Below.refl (w6.alloc (.cells #[.int .i64 (h : Nat), .int .i64 (l1 : Nat), .int .i64 (l2 : Nat)] 57)).heap.size (w6.alloc (.cells #[.int .i64 (h : Nat), .int .i64 (l1 : Nat), .int .i64 (l2 : Nat)] 57)))
         clear hb6 hR
         go_wp2_with fail
         generalize w6.alloc (.cells #[.int .i64 (h : Nat), .int .i64 (l1 : Nat), .int .i64 (l2 : Nat)] 57) = W6 at *
         generalize w6.heap.size = R at *
         refine (CF.out _ HW.out).mono ?_
         rintro e v0 ⟨rfl, hc0⟩
         have HV0 := Lib.hid (below_next HW.out hc0)
         have HZ0 := Lib.hid (below_next HWW.out hc0)
         clear hc0
         go_wp2_with fail
         refine (CN.out _ HV0.out).mono ?_
         rintro e v1 ⟨rfl, hc1⟩
         have HV1 := Lib.hid (below_next HV0.out hc1)
         have HZ1 := Lib.hid (below_next HZ0.out hc1)
         clear hc1
         go_wp2_with fail
         refine (CM.out _ HV1.out).mono ?_
         rintro e v2 ⟨rfl, hc2⟩
         have HV2 := Lib.hid (below_next HV1.out hc2)
         have HZ2 := Lib.hid (below_next HZ1.out hc2)
         clear hc2
         go_wp2_with fail
         refine (CL.out _ HV2.out).mono ?_
         rintro e v3 ⟨rfl, hc3⟩
         have HV3 := Lib.hid (below_next HV2.out hc3)
         have HZ3 := Lib.hid (below_next HZ2.out hc3)
         clear hc3
         go_wp2_with fail
         go_ret2
         exact ⟨ret_ii E1.out.symm E2.out.symm, HFW.out.trans (HV3.out.mono HFW.out.size)⟩
        | true =>
         cases b5 with
         | false =>
          have hb := HBAD.out (by rw [HINS.out]; rfl)
          have E1 : Hid (checkI (f + 1) u = k) := Lib.hid (by rw [EI.out, hb])
          have E2 : Hid (checkE (f + 1) u = 6) := Lib.hid (by rw [EE.out, hb])
          clear hb
          go_wp2_with fail
          refine hro.mono ?_
          rintro e w6 ⟨rfl, hb6⟩
          have HW := Lib.hid (hb6.alloc hb6.size (.cells #[.int .i64 (h : Nat), .int .i64 (l1 : Nat), .int .i64 (l2 : Nat)] 57))
          have hR := heap_alloc_new w6 (.cells #[.int .i64 (h : Nat), .int .i64 (l1 : Nat), .int .i64 (l2 : Nat)] 57)
          have HR := Lib.hid hR
          have HWW := Lib.hid (Below.refl (w6.alloc (.cells #[.int .i64 (h : Nat), .int .i64 (l1 : Nat), .int .i64 (l2 : Nat)] 57)).heap.size (w6.alloc (.cells #[.int .i64 (h : Nat), .int .i64 (l1 : Nat), .int .i64 (l2 : Nat)] 57)))
          clear hb6 hR
          go_wp2_with fail
          generalize w6.alloc (.cells #[.int .i64 (h : Nat), .int .i64 (l1 : Nat), .int .i64 (l2 : Nat)] 57) = W6 at *
          generalize w6.heap.size = R at *
          refine (CF.out _ HW.out).mono ?_
          rintro e v0 ⟨rfl, hc0⟩
          have HV0 := Lib.hid (below_next HW.out hc0)
          have HZ0 := Lib.hid (below_next HWW.out hc0)
          clear hc0
          go_wp2_with fail
          refine (CN.out _ HV0.out).mono ?_
          rintro e v1 ⟨rfl, hc1⟩
          have HV1 := Lib.hid (below_next HV0.out hc1)
          have HZ1 := Lib.hid (below_next HZ0.out hc1)
          clear hc1
          go_wp2_with fail
          refine (CM.out _ HV1.out).mono ?_
          rintro e v2 ⟨rfl, hc2⟩
          have HV2 := Lib.hid (below_next HV1.out hc2)
          have HZ2 := Lib.hid (below_next HZ1.out hc2)
          clear hc2
          go_wp2_with fail
          refine (CL.out _ HV2.out).mono ?_
          rintro e v3 ⟨rfl, hc3⟩
          have HV3 := Lib.hid (below_next HV2.out hc3)
          have HZ3 := Lib.hid (below_next HZ2.out hc3)
          clear hc3
          have hrr := (HZ3.out.block R (lt_of_row HR.out)).trans HR.out
          have g0 : v3.cell? ⟨R, 0, none⟩ = some (.int .i64 (h : Nat)) := by rw [cell_of_row _ _ _ _ _ _ hrr]; rfl
          have g1 : v3.cell? ⟨R, 1, none⟩ = some (.int .i64 (l1 : Nat)) := by rw [cell_of_row _ _ _ _ _ _ hrr]; rfl
          have g2 : v3.cell? ⟨R, 2, none⟩ = some (.int .i64 (l2 : Nat)) := by rw [cell_of_row _ _ _ _ _ _ hrr]; rfl
          clear hrr
          go_wp2_with fail
          refine (CT.out _ HV3.out).mono ?_
          rintro e v4 ⟨rfl, hc4⟩
          have HV4 := Lib.hid (below_next HV3.out hc4)
          have HZ4 := Lib.hid (below_next HZ3.out hc4)
          clear hc4
          go_wp2_with fail
          go_ret2
          exact ⟨ret_ii E1.out.symm E2.out.symm, HFW.out.trans (HV4.out.mono HFW.out.size)⟩
         | true =>
          have HNX := Lib.hid (HGOOD.out (by rw [HINS.out]; rfl))
          go_wp2_with fail
          refine hro.mono ?_
          rintro e w6 ⟨rfl, hb6⟩
          have HW := Lib.hid (hb6.alloc hb6.size (.cells #[.int .i64 (h : Nat), .int .i64 (l1 : Nat), .int .i64 (l2 : Nat)] 57))
          have hR := heap_alloc_new w6 (.cells #[.int .i64 (h : Nat), .int .i64 (l1 : Nat), .int .i64 (l2 : Nat)] 57)
          have HR := Lib.hid hR
          have HWW := Lib.hid (Below.refl (w6.alloc (.cells #[.int .i64 (h : Nat), .int .i64 (l1 : Nat), .int .i64 (l2 : Nat)] 57)).heap.size (w6.alloc (.cells #[.int .i64 (h : Nat), .int .i64 (l1 : Nat), .int .i64 (l2 : Nat)] 57)))
          clear hb6 hR
          go_wp2_with fail
          generalize w6.alloc (.cells #[.int .i64 (h : Nat), .int .i64 (l1 : Nat), .int .i64 (l2 : Nat)] 57) = W6 at *
          generalize w6.heap.size = R at *
          refine (CF.out _ HW.out).mono ?_
          rintro e v0 ⟨rfl, hc0⟩
          have HV0 := Lib.hid (below_next HW.out hc0)
          have HZ0 := Lib.hid (below_next HWW.out hc0)
          clear hc0
          go_wp2_with fail
          refine (CN.out _ HV0.out).mono ?_
          rintro e v1 ⟨rfl, hc1⟩
          have HV1 := Lib.hid (below_next HV0.out hc1)
          have HZ1 := Lib.hid (below_next HZ0.out hc1)
          clear hc1
          go_wp2_with fail
          refine (CM.out _ HV1.out).mono ?_
          rintro e v2 ⟨rfl, hc2⟩
          have HV2 := Lib.hid (below_next HV1.out hc2)
          have HZ2 := Lib.hid (below_next HZ1.out hc2)
          clear hc2
          go_wp2_with fail
          refine (CL.out _ HV2.out).mono ?_
          rintro e v3 ⟨rfl, hc3⟩
          have HV3 := Lib.hid (below_next HV2.out hc3)
          have HZ3 := Lib.hid (below_next HZ2.out hc3)
          clear hc3
          have hrr := (HZ3.out.block R (lt_of_row HR.out)).trans HR.out
          have g0 : v3.cell? ⟨R, 0, none⟩ = some (.int .i64 (h : Nat)) := by rw [cell_of_row _ _ _ _ _ _ hrr]; rfl
          have g1 : v3.cell? ⟨R, 1, none⟩ = some (.int .i64 (l1 : Nat)) := by rw [cell_of_row _ _ _ _ _ _ hrr]; rfl
          have g2 : v3.cell? ⟨R, 2, none⟩ = some (.int .i64 (l2 : Nat)) := by rw [cell_of_row _ _ _ _ _ _ hrr]; rfl
          clear hrr
          go_wp2_with fail
          refine (CT.out _ HV3.out).mono ?_
          rintro e v4 ⟨rfl, hc4⟩
          have HV4 := Lib.hid (below_next HV3.out hc4)
          have HZ4 := Lib.hid (below_next HZ3.out hc4)
          clear hc4
          go_wp2_with fail
          go_roundw
          case rel => exact ⟨k + 1, by omega, by go_num, HNX, hBw.trans (HV4.out.mono hBw.size)⟩
          case measure => simp [intOf]; omega
    ·have hb : badFrom u u.code 0 = some k := by rw [HK.out, HST.out, HINS.out]; unfold opOk; rw [decide_eq_false hop]; simp
     have E1 : Hid (checkI (f + 1) u = k) := Lib.hid (by rw [EI.out, hb])
     have E2 : Hid (checkE (f + 1) u = 6) := Lib.hid (by rw [EE.out, hb])
     have hro := rowOf_no u.code[k].op hop wr
     clear hb hop
     generalize u.code[k].op = op at *
     go_wp2_with fail
     refine hro.mono ?_
     rintro e w6 ⟨rfl, hb6⟩
     have HF := Lib.hid (HFW.out.trans (hb6.mono HFW.out.size))
     go_wp2_with fail
     go_ret2
     exact ⟨ret_ii E1.out.symm E2.out.symm, HF.out.alloc HF.out.size _⟩
   ·have E : Hid (badFrom u u.code 0 = none) := Lib.hid (by rw [HK.out, List.drop_eq_nil_of_le (by omega)]; rfl)
    have E1 : Hid (checkI (f + 1) u = 0) := Lib.hid (by rw [EI.out, E.out])
    have E2 : Hid (checkE (f + 1) u = 0) := Lib.hid (by rw [EE.out, E.out])
    have HF : Hid (Below w.heap.size w wr) := Lib.hid (by rw [HBE.out]; exact HB5.out.trans (hBw.mono hsz))
    go_wp2_with fail
    go_ret2
    exact ⟨ret_ii E1.out.symm E2.out.symm, HF.out⟩
end Go.Proofs.YtghgbikmlbildaaGreatDoor
namespace Go.Proofs.YtghgbikmlbildaaGreatDoor
open Go.RowKit
set_option linter.unusedVariables false
set_option linter.unusedSimpArgs false

/-- What a writer's work leaves as it is: every block that is neither a writer's nor bytes. -/
def Stays (w w' : World) : Prop := ∀ (k : Nat) (cs : Array Value) (t : TypeId) (fr : Nat × Nat), w.heap[k]? = some (.cells cs t fr) → t ≠ 5 → t ≠ 74 → w'.heap[k]? = some (.cells cs t fr)
theorem Stays.refl (w : World) : Stays w w := fun _ _ _ _ h _ _ => h
theorem Stays.trans {a b c : World} (h : Stays a b) (k : Stays b c) : Stays a c := fun i cs t fr hi h1 h2 => k i cs t fr (h i cs t fr hi h1 h2) h1 h2
theorem Stays.alloc {a b : World} (h : Stays a b) (o : Obj) : Stays a (b.alloc o) := fun i cs t fr hi h1 h2 => by
 have := h i cs t fr hi h1 h2
 exact (Below.heap_alloc b o i (lt_of_row this)).trans this
theorem Stays.below {a b c : World} (h : Stays a b) (hb : Below b.heap.size b c) : Stays a c := fun i cs t fr hi h1 h2 => by
 have := h i cs t fr hi h1 h2
 exact (hb.block i (lt_of_row this)).trans this
theorem Stays.grown {a b c : World} {B size n : Nat} {bv : Value} {xs : List Value} (h : Stays a b) (ho : b.ownsRow B 5 size bv n xs) (hg : b.grownBy c bv.ownBlock) : Stays a c := fun i cs t fr hi h1 h2 => by
 have hb := h i cs t fr hi h1 h2
 refine (hg.block i (lt_of_row hb) (fun e => ?_)).trans hb
 obtain ⟨c', fz, hk⟩ := Lib.ownsRow_kind ho i e.symm
 rw [hb] at hk
 injection hk with hk
 injection hk with _ h3 _
 exact h1 h3
theorem Stays.store {a b : World} {r : Nat} {cs0 : Array Value} {fr0 : Nat × Nat} (h : Stays a b) (hr : b.heap[r]? = some (.cells cs0 74 fr0)) (v : Value) : Stays a (b.setCell ⟨r, 0, none⟩ v) := fun i cs t fr hi h1 h2 => by
 have hb := h i cs t fr hi h1 h2
 refine (Below.heap_setCell _ _ _ _ (fun e => ?_)).trans hb
 simp only at e
 subst e
 rw [hb] at hr
 injection hr with hr
 injection hr with _ h3 _
 exact h2 h3

def byteC (l : List UInt8) : List Value := l.map fun b => Value.int .u8 (b.toNat : Int)
theorem byteC_app (a b : List UInt8) : byteC (a ++ b) = byteC a ++ byteC b := by simp [byteC]
/-- Block r is a writer that holds the bytes l; its row lies from block B on. -/
def WrAt (B r : Nat) (l : List UInt8) (w : World) : Prop := B ≤ r ∧ B ≤ w.heap.size ∧ ∃ bv, w.heap[r]? = some (.cells #[bv] 74 (0, 0)) ∧ w.ownsRow B 5 1 bv l.length (byteC l) ∧ bv.ownBlock ≠ some r
theorem infoByte : (Tryz.prog.info? 5).map (fun i => (i.zero, i.size, i.bytes)) = some (some (.int .u8 0), 1, 1) := by kernel_rfl
/-- A number's bytes. -/
def vintF : Nat → Nat → List UInt8
 | 0, _ => []
 | f + 1, n => if n < 128 then [UInt8.ofNat n] else UInt8.ofNat (n % 128 + 128) :: vintF f (n / 128)
def vint (n : Nat) : List UInt8 := vintF 10 n
theorem vintF_len : ∀ (f n : Nat), (vintF f n).length ≤ f
 | 0, _ => Nat.zero_le _
 | f + 1, n => by
  unfold vintF
  split
  ·simp
  ·have := vintF_len f (n / 128); simp; omega
theorem or_128 (m : Nat) : bits .or .u8 ((m : Int) % 256) 128 = (((UInt8.ofNat (m % 128 + 128)).toNat : Nat) : Int) := by
 have h1 : (BitVec.ofInt 8 ((m : Int) % 256)).toNat = m % 256 := by
  have e : ((m : Int) % 256) = ((m % 256 : Nat) : Int) := by omega
  rw [e, BitVec.ofInt_natCast, BitVec.toNat_ofNat]; omega
 have h2 : (BitVec.ofInt 8 128).toNat = 128 := by decide
 have hx : m % 256 ||| 128 = m % 128 + 128 := by
  have h := Nat.two_pow_add_eq_or_of_lt (i := 7) (b := m % 128) (by omega) 1
  have e : m % 256 = m % 128 ∨ m % 256 = 128 + m % 128 := by omega
  rcases e with e | e
  ·rw [e, Nat.or_comm]; rw [show (2 ^ 7 * 1 : Nat) = 128 by rfl] at h; omega
  ·rw [show (2 ^ 7 * 1 : Nat) = 128 by rfl] at h
   rw [e, h, Nat.or_comm 128, Nat.or_assoc, Nat.or_self, Nat.or_comm, ← h]; omega
 show IntKind.u8.wrap ((BitVec.ofInt 8 ((m : Int) % 256) ||| BitVec.ofInt 8 128).toNat : Int) = _
 rw [BitVec.toNat_or, h1, h2, hx, IntKind.wrap_u8, UInt8.toNat_ofNat']
 omega
theorem byte_of (m : Nat) : ((m : Int) % 256) = ((UInt8.ofNat m).toNat : Int) := by rw [UInt8.toNat_ofNat']; omega

theorem wr_store {B r : Nat} {l : List UInt8} {x : UInt8} {w : World} {bv v' : Value} (hBr : B ≤ r) (hBw : B ≤ w.heap.size) (hb : w.heap[r]? = some (.cells #[bv] 74 (0, 0))) (ho : w.ownsRow B 5 1 v' (l.length + 1) (byteC l ++ [.int .u8 (x.toNat : Int)])) (hne : v'.ownBlock ≠ some r) :
  WrAt B r (l ++ [x]) (w.setCell ⟨r, 0, none⟩ v') := by
 refine ⟨hBr, by simpa [World.setCell] using hBw, v', ?_, ?_, hne⟩
 ·simp [World.setCell, hb, Array.getElem?_modify]
 ·have e : byteC (l ++ [x]) = byteC l ++ [.int .u8 (x.toNat : Int)] := by rw [byteC_app]; rfl
  rw [e, List.length_append]
  exact ho.kept ⟨rfl, rfl, rfl, by simp [World.setCell], fun k _ hk => Below.heap_setCell _ _ _ _ (fun e => hk (by rw [e]))⟩ (.inr (fun e => hne e))
theorem slice_of_owns {w : World} {B : Nat} {e : TypeId} {size : Nat} {v : Value} {n : Nat} {xs : List Value} (h : w.ownsRow B e size v n xs) : ∃ ao cap, v = .slice ao n cap := by
 rcases h.2 with ⟨rfl, rfl⟩ | ⟨g, cap, cur, rfl, _⟩
 ·exact ⟨_, _, rfl⟩
 ·exact ⟨_, _, rfl⟩
set_option maxRecDepth 100000 in
set_option maxHeartbeats 4000000 in
theorem wnum_any (B r : Nat) (l : List UInt8) (n : Int) (w : World) (h : WrAt B r l w) (h0 : 0 ≤ n) (h1 : n ≤ 9223372036854775807) (hl : l.length ≤ 70368744177664) :
  Calls Tryz.prog 45 #[.pointer (some ⟨r, 0, none⟩), .int .i64 n] w fun e w' => e = .returned (.tuple #[]) ∧ WrAt B r (l ++ vint n.toNat) w' ∧ Below B w w' ∧ Stays w w' := by
 obtain ⟨i0, hi, hz0, hz1, hz2⟩ := info_parts infoByte
 obtain ⟨m0, rfl⟩ := Int.eq_ofNat_of_zero_le h0
 rw [Int.toNat_natCast]
 have HT : Hid (l ++ vint m0 = l ++ vintF 10 m0) := Lib.hid rfl
 have HBL := Lib.hid h.2.1
 go_enter Tryz.func45, Tryz.ntmps45
 go_wp2_with fail
 go_loopw [4] (fun uv wr => ∃ (m f : Nat) (l' : List UInt8), uv = .int .u64 m ∧ m < 128 ^ f * 128 ∧ Hid (l ++ vint m0 = l' ++ vintF (f + 1) m) ∧ f ≤ 9 ∧ l'.length ≤ l.length + 9 - f ∧ Hid (WrAt B r l' wr) ∧ Below B w wr ∧ Hid (Stays w wr)) (fun uv _ => (intOf uv).toNat)
 case atStart => exact ⟨m0, 9, l, by go_num, by omega, HT, Nat.le_refl _, by omega, Lib.hid h, Below.refl _ _, Lib.hid (Stays.refl _)⟩
 case round =>
  obtain ⟨m, f, l', rfl, hm, HV, hf, hll, HW, hB, HST⟩ := hrel
  rename World => wr
  obtain ⟨hBr, hBw, bv, hbk, hown, hne⟩ := HW.out
  have c0 : wr.cell? ⟨r, 0, none⟩ = some bv := by rw [cell_of_row _ _ _ _ _ _ hbk]; rfl
  have f0 : wr.frozen? ⟨r, 0, none⟩ = false := Lib.frozen_of_heap hbk 0
  have hrl := lt_of_row hbk
  by_cases hbig : 128 ≤ m
  ·have hf0 : f ≠ 0 := fun e => by subst e; simp at hm; omega
   obtain ⟨f', rfl⟩ := Nat.exists_eq_succ_of_ne_zero hf0
   have hor := or_128 m
   have HV2 : Hid (l ++ vint m0 = (l' ++ [UInt8.ofNat (m % 128 + 128)]) ++ vintF (f' + 1) (m / 128)) := Lib.hid (by
    rw [HV.out]; conv => lhs; rw [vintF, if_neg (by omega)]
    simp)
   generalize UInt8.ofNat (m % 128 + 128) = x at *
   go_wp2_with (at_builtin; refine wpList_append_own_at _ rfl (.tmp 15) (.tmp 19) 39 rfl B 5 i0 (.int .u8 0) 1 1 Tryz.underlying39 hi hz0 hz1 hz2 rfl (by decide) bv l'.length (byteC l') rfl (hown.alloc _) ⟨wr.heap.size, 0, none⟩ 1 1 [.int .u8 (x.toNat : Int)] rfl rfl (cell_one_new _ _ _) (ints_oneCell .u8 [(x.toNat : Int)]) (by unfold maxLen; omega) (by omega) (by simp; omega) ?_)
   intro v' w1 hown' hgrow hnil hloc
   have hbk1 : w1.heap[r]? = some (.cells #[bv] 74 (0, 0)) := by
    rw [hgrow.block r (by simp; omega) (fun e => hne e.symm)]
    exact (Below.heap_alloc _ _ _ hrl).trans hbk
   have k0 : w1.cell? ⟨r, 0, none⟩ = some bv := by rw [cell_of_row _ _ _ _ _ _ hbk1]; rfl
   have k1 : w1.frozen? ⟨r, 0, none⟩ = false := Lib.frozen_of_heap hbk1 0
   have hB1 : Below B w w1 := (hB.alloc hBw _).grown hgrow (by simp; omega) (fun k hk => (hown.lt k hk).1)
   have hne' : v'.ownBlock ≠ some r := by
    rcases hloc with e | e
    ·rw [e]; exact hne
    ·rw [e]; intro e2; have := Option.some.inj e2; omega
   have HW1 : Hid (WrAt B r (l' ++ [x]) (w1.setCell ⟨r, 0, none⟩ v')) := Lib.hid (wr_store hBr (Nat.le_trans hBw (by have := hgrow.size; simp at this; omega)) hbk1 hown' hne')
   have HST1 : Hid (Stays w (w1.setCell ⟨r, 0, none⟩ v')) := Lib.hid (((HST.out.alloc _).grown (hown.alloc _) hgrow).store hbk1 v')
   obtain ⟨ao', cap', rfl⟩ := slice_of_owns hown'
   clear hown hbk hgrow hown' hbk1 HW
   go_wp2_with fail
   go_roundw
   case rel => exact ⟨m / 128, f', l' ++ [x], by go_num, by rw [Nat.pow_succ] at hm; omega, HV2, by omega, by rw [List.length_append]; simp; omega, HW1, hB1.setCell (p := ⟨r, 0, none⟩) hBr _, HST1⟩
   case measure => simp [intOf]; omega
  ·have hby : Hid ((m : Int) = ((UInt8.ofNat m).toNat : Int)) := Lib.hid (by rw [UInt8.toNat_ofNat']; omega)
   have HV2 : Hid (l ++ vint m0 = l' ++ [UInt8.ofNat m]) := Lib.hid (by rw [HV.out, vintF, if_pos (by omega)])
   generalize UInt8.ofNat m = x at *
   go_wp2_with (at_builtin; refine wpList_append_own_at _ rfl (.tmp 27) (.tmp 30) 39 rfl B 5 i0 (.int .u8 0) 1 1 Tryz.underlying39 hi hz0 hz1 hz2 rfl (by decide) bv l'.length (byteC l') rfl (hown.alloc _) ⟨wr.heap.size, 0, none⟩ 1 1 [.int .u8 (m : Int)] rfl rfl (cell_one_new _ _ _) (ints_oneCell .u8 [(m : Int)]) (by unfold maxLen; omega) (by omega) (by simp; omega) ?_)
   intro v' w1 hown' hgrow hnil hloc
   rw [hby.out] at hown'
   have hbk1 : w1.heap[r]? = some (.cells #[bv] 74 (0, 0)) := by
    rw [hgrow.block r (by simp; omega) (fun e => hne e.symm)]
    exact (Below.heap_alloc _ _ _ hrl).trans hbk
   have k0 : w1.cell? ⟨r, 0, none⟩ = some bv := by rw [cell_of_row _ _ _ _ _ _ hbk1]; rfl
   have k1 : w1.frozen? ⟨r, 0, none⟩ = false := Lib.frozen_of_heap hbk1 0
   have hB1 : Below B w w1 := (hB.alloc hBw _).grown hgrow (by simp; omega) (fun k hk => (hown.lt k hk).1)
   have hne' : v'.ownBlock ≠ some r := by
    rcases hloc with e | e
    ·rw [e]; exact hne
    ·rw [e]; intro e2; have := Option.some.inj e2; omega
   have HW1 : Hid (WrAt B r (l' ++ [x]) (w1.setCell ⟨r, 0, none⟩ v')) := Lib.hid (wr_store hBr (Nat.le_trans hBw (by have := hgrow.size; simp at this; omega)) hbk1 hown' hne')
   have HST1 : Hid (Stays w (w1.setCell ⟨r, 0, none⟩ v')) := Lib.hid (((HST.out.alloc _).grown (hown.alloc _) hgrow).store hbk1 v')
   obtain ⟨ao', cap', rfl⟩ := slice_of_owns hown'
   clear hown hbk hgrow hown' hbk1 HW
   go_wp2_with fail
   go_end0
   exact ⟨rfl, by rw [HV2.out]; exact HW1.out, hB1.setCell (p := ⟨r, 0, none⟩) hBr _, HST1.out⟩

end Go.Proofs.YtghgbikmlbildaaGreatDoor
namespace Go.Proofs.YtghgbikmlbildaaGreatDoor
open Go.RowKit
set_option linter.unusedVariables false
set_option linter.unusedSimpArgs false

theorem ne_of_kind {w : World} {B : Nat} {e t : TypeId} {size : Nat} {v : Value} {n : Nat} {xs : List Value} {r : Nat} {cs : Array Value} {fr : Nat × Nat} (h : w.ownsRow B e size v n xs) (hb : w.heap[r]? = some (.cells cs t fr)) (hne : t ≠ e) : v.ownBlock ≠ some r := by
 intro hv
 obtain ⟨c, fz, hg⟩ := Lib.ownsRow_kind h r hv
 rw [hb] at hg
 injection hg with hg
 injection hg with _ h2 _
 exact hne h2
theorem byteC_str (s : ByteArray) : Lib.strCells s = byteC s.data.toList := rfl
theorem WrAt.next {B r : Nat} {l : List UInt8} {w w' : World} (h : WrAt B r l w) (hb : Below w.heap.size w w') : WrAt B r l w' := by
 obtain ⟨h1, h2, bv, h3, h4, h5⟩ := h
 exact ⟨h1, Nat.le_trans h2 hb.size, bv, (hb.block r (lt_of_row h3)).trans h3, h4.kept (row := none) ⟨hb.os, hb.tape, hb.output, hb.size, fun k hk _ => hb.block k hk⟩ (by cases hv : bv.ownBlock <;> simp), h5⟩
def textW (s : ByteArray) : List UInt8 := vint s.size ++ s.data.toList
theorem vint_len (n : Nat) : (vint n).length ≤ 10 := vintF_len 10 n
theorem wr_stores {B r : Nat} {l k : List UInt8} {w : World} {bv v' : Value} (hBr : B ≤ r) (hBw : B ≤ w.heap.size) (hb : w.heap[r]? = some (.cells #[bv] 74 (0, 0))) (ho : w.ownsRow B 5 1 v' (l.length + k.length) (byteC l ++ byteC k)) (hne : v'.ownBlock ≠ some r) :
  WrAt B r (l ++ k) (w.setCell ⟨r, 0, none⟩ v') := by
 refine ⟨hBr, by simpa [World.setCell] using hBw, v', ?_, ?_, hne⟩
 ·simp [World.setCell, hb, Array.getElem?_modify]
 ·rw [byteC_app, List.length_append]
  exact ho.kept ⟨rfl, rfl, rfl, by simp [World.setCell], fun k _ hk => Below.heap_setCell _ _ _ _ (fun e => hk (by rw [e]))⟩ (.inr (fun e => hne e))

set_option maxRecDepth 100000 in
set_option maxHeartbeats 4000000 in
theorem wtext_any (B r : Nat) (l : List UInt8) (s : ByteArray) (w : World) (h : WrAt B r l w) (hs : s.size ≤ 70368744177664) (hl : l.length ≤ 70368744170000) :
  Calls Tryz.prog 44 #[.pointer (some ⟨r, 0, none⟩), .string s] w fun e w' => e = .returned (.tuple #[]) ∧ WrAt B r (l ++ textW s) w' ∧ Below B w w' ∧ Stays w w' := by
 obtain ⟨i0, hi, hz0, hz1, hz2⟩ := info_parts infoByte
 have HL := Lib.hid (vint_len s.size)
 go_enter Tryz.func44, Tryz.ntmps44
 go_wp2_with (go_at_call 45; refine (wnum_any B r l (s.size : Int) _ h (by omega) (by omega) (by omega)).mono ?_)
 rintro e w1 ⟨rfl, h1, hb1, hst1⟩
 rw [Int.toNat_natCast] at h1
 obtain ⟨hBr, hBw, bv, hbk, hown, hne⟩ := h1
 have c0 : w1.cell? ⟨r, 0, none⟩ = some bv := by rw [cell_of_row _ _ _ _ _ _ hbk]; rfl
 have f0 : w1.frozen? ⟨r, 0, none⟩ = false := Lib.frozen_of_heap hbk 0
 have hrl := lt_of_row hbk
 have hll : (l ++ vint s.size).length ≤ 70368744177664 := by rw [List.length_append]; have := HL.out; omega
 go_wp2_with (at_builtin; refine Lib.wpList_append_own_string _ rfl (.tmp 12) (.tmp 13) 39 9 rfl B 5 i0 Tryz.underlying39 Tryz.underlying9 hi hz0 hz1 hz2 bv (l ++ vint s.size).length (byteC (l ++ vint s.size)) rfl hown s rfl (by unfold maxLen; omega) (by omega) hBw ?_)
 intro v' w2 hown' hgrow hnil
 have hbk1 : w2.heap[r]? = some (.cells #[bv] 74 (0, 0)) := by
  rw [hgrow.block r hrl (fun e => hne e.symm)]
  exact hbk
 have k0 : w2.cell? ⟨r, 0, none⟩ = some bv := by rw [cell_of_row _ _ _ _ _ _ hbk1]; rfl
 have k1 : w2.frozen? ⟨r, 0, none⟩ = false := Lib.frozen_of_heap hbk1 0
 have hB1 : Below B w w2 := hb1.grown hgrow hBw (fun k hk => (hown.lt k hk).1)
 have hne' : v'.ownBlock ≠ some r := ne_of_kind hown' hbk1 (by decide)
 have HW1 : Hid (WrAt B r (l ++ textW s) (w2.setCell ⟨r, 0, none⟩ v')) := Lib.hid (by
  have ho2 : w2.ownsRow B 5 1 v' ((l ++ vint s.size).length + s.data.toList.length) (byteC (l ++ vint s.size) ++ byteC s.data.toList) := by rw [List.length_append]; exact hown'
  have := wr_stores hBr (Nat.le_trans hBw hgrow.size) hbk1 ho2 hne'
  unfold textW; rwa [List.append_assoc] at this)
 have HST1 : Hid (Stays w (w2.setCell ⟨r, 0, none⟩ v')) := Lib.hid ((hst1.grown hown hgrow).store hbk1 v')
 clear hst1
 obtain ⟨ao', cap', rfl⟩ := slice_of_owns hown'
 clear hown hbk hgrow hown' hbk1
 go_wp2_with fail
 go_end0
 exact ⟨rfl, HW1.out, hB1.setCell (p := ⟨r, 0, none⟩) hBr _, HST1.out⟩

def boolW (b : Bool) : List UInt8 := vint (if b then 1 else 0)
set_option maxRecDepth 100000 in
set_option maxHeartbeats 4000000 in
theorem wbool_any (B r : Nat) (l : List UInt8) (b : Bool) (w : World) (h : WrAt B r l w) (hl : l.length ≤ 70368744170000) :
  Calls Tryz.prog 47 #[.pointer (some ⟨r, 0, none⟩), .bool b] w fun e w' => e = .returned (.tuple #[]) ∧ WrAt B r (l ++ boolW b) w' ∧ Below B w w' ∧ Stays w w' := by
 cases b
 ·go_enter Tryz.func47, Tryz.ntmps47
  go_wp2_with (go_at_call 45; refine (wnum_any B r l 0 _ h (by omega) (by omega) (by omega)).mono ?_)
  rintro e w1 ⟨rfl, h1, hb1, hst1⟩
  go_wp2_with fail
  go_end0
  exact ⟨rfl, h1, hb1, hst1⟩
 ·go_enter Tryz.func47, Tryz.ntmps47
  go_wp2_with (go_at_call 45; refine (wnum_any B r l 1 _ h (by omega) (by omega) (by omega)).mono ?_)
  rintro e w1 ⟨rfl, h1, hb1, hst1⟩
  go_wp2_with fail
  go_end0
  exact ⟨rfl, h1, hb1, hst1⟩

def argW (a : RArg) : List UInt8 := vint (4 * a.n + a.kind).toNat
set_option maxRecDepth 100000 in
set_option maxHeartbeats 4000000 in
theorem warg_any (B r : Nat) (l : List UInt8) (a : RArg) (w : World) (h : WrAt B r l w) (hl : l.length ≤ 70368744170000) (h0 : 0 ≤ a.n) (h1 : a.n ≤ 1000000000000) (h2 : 0 ≤ a.kind) (h3 : a.kind ≤ 3) :
  Calls Tryz.prog 98 #[.pointer (some ⟨r, 0, none⟩), .agg #[.int .i64 a.kind, .int .i64 a.n]] w fun e w' => e = .returned (.tuple #[]) ∧ WrAt B r (l ++ argW a) w' ∧ Below B w w' ∧ Stays w w' := by
 obtain ⟨ak, an⟩ := a
 simp only at *
 have HA : Hid (argW ⟨ak, an⟩ = vint (4 * an + ak).toNat) := Lib.hid rfl
 have HB := Lib.hid h.2.1
 go_enter Tryz.func98, Tryz.ntmps98
 have hA : ∀ (o : Obj), WrAt B r l (w.alloc o) := fun o => h.next ((Below.refl _ _).alloc (Nat.le_refl _) _)
 go_wp2_with (go_at_call 45; refine (wnum_any B r l (4 * an + ak) _ (hA _) (by omega) (by omega) (by omega)).mono ?_)
 rintro e w1 ⟨rfl, h1, hb1, hst1⟩
 go_wp2_with fail
 go_end0
 exact ⟨rfl, by rw [HA.out]; exact h1, ((Below.refl _ _).alloc HB.out _).trans hb1, ((Stays.refl w).alloc _).trans hst1⟩
end Go.Proofs.YtghgbikmlbildaaGreatDoor
namespace Go.Proofs.YtghgbikmlbildaaGreatDoor
open Go.RowKit

def srcW (l : List RArg) : List UInt8 := l.flatMap argW
def caseW (c : RCase) : List UInt8 := vint c.lit.toNat ++ vint c.to.toNat
def casesW (l : List RCase) : List UInt8 := l.flatMap caseW
def segW (g : RSeg) : List UInt8 := vint g.type.toNat ++ (argW g.val ++ (argW g.size ++ boolW g.little))
def segsW (l : List RSeg) : List UInt8 := l.flatMap segW
/-- A part of an instruction that is there or not. -/
def opt (b : Bool) (l : List UInt8) : List UInt8 := if b = true then l else []
def instrW (h : Nat) (x : RIns) : List UInt8 :=
 vint x.op.toNat ++ (opt (hasB h 1) (argW x.dst) ++ (opt (hasB h 2) (vint x.src.length ++ srcW x.src) ++ (opt (hasB h 4) (vint x.n.toNat) ++ (opt (hasB h 8) (textW x.name) ++
  (opt (hasB h 16) (vint x.cases.length ++ casesW x.cases) ++ (opt (hasB h 32) (vint x.segs.length ++ segsW x.segs) ++ (opt (hasB h 64) (vint x.to.toNat) ++ opt (hasB h 128) (vint x.live.toNat))))))))

structure WArg (a : RArg) : Prop where
 n0 : 0 ≤ a.n
 n1 : a.n ≤ 1000000
 k0 : 0 ≤ a.kind
 k1 : a.kind ≤ 3
structure WIns (h : Nat) (x : RIns) : Prop where
 op0 : 0 ≤ x.op
 op1 : x.op ≤ 1000
 dst : hasB h 1 = true → WArg x.dst
 src : ∀ a ∈ x.src, WArg a
 srcLen : x.src.length ≤ 1000
 n0 : 0 ≤ x.n
 n1 : x.n ≤ 1000000
 name : x.name.size ≤ 1000
 cases : ∀ c ∈ x.cases, 0 ≤ c.lit ∧ c.lit ≤ 1000000 ∧ 0 ≤ c.to ∧ c.to ≤ 1000000
 casesLen : x.cases.length ≤ 1000
 segs : ∀ g ∈ x.segs, 0 ≤ g.type ∧ g.type ≤ 1000 ∧ WArg g.val ∧ WArg g.size
 segsLen : x.segs.length ≤ 1000
 to0 : 0 ≤ x.to
 to1 : x.to ≤ 1000000
 live0 : 0 ≤ x.live
 live1 : x.live ≤ 1000000

theorem argW_len (a : RArg) : (argW a).length ≤ 10 := vint_len _
theorem boolW_len (b : Bool) : (boolW b).length ≤ 10 := vint_len _
theorem caseW_len (c : RCase) : (caseW c).length ≤ 20 := by have := vint_len c.lit.toNat; have := vint_len c.to.toNat; unfold caseW; simp; omega
theorem segW_len (g : RSeg) : (segW g).length ≤ 40 := by
 have := vint_len g.type.toNat; have := argW_len g.val; have := argW_len g.size; have := boolW_len g.little; unfold segW; simp; omega
theorem flat_len {α : Type} (f : α → List UInt8) (m : Nat) : ∀ (l : List α), (∀ a ∈ l, (f a).length ≤ m) → (l.flatMap f).length ≤ m * l.length
 | [], _ => by simp
 | a :: l, h => by
  have h1 := h a List.mem_cons_self
  have h2 := flat_len f m l (fun b hb => h b (List.mem_cons_of_mem _ hb))
  simp only [List.flatMap_cons, List.length_append, List.length_cons]
  rw [Nat.mul_add]; omega
theorem srcW_len (l : List RArg) : (srcW l).length ≤ 10 * l.length := flat_len _ _ _ fun a _ => argW_len a
theorem casesW_len (l : List RCase) : (casesW l).length ≤ 20 * l.length := flat_len _ _ _ fun a _ => caseW_len a
theorem segsW_len (l : List RSeg) : (segsW l).length ≤ 40 * l.length := flat_len _ _ _ fun a _ => segW_len a
theorem flat_step {α : Type} (f : α → List UInt8) (l : List α) {k : Nat} (h : k < l.length) : (l.take (k + 1)).flatMap f = (l.take k).flatMap f ++ f l[k] := by
 rw [List.take_add_one, List.getElem?_eq_getElem h, List.flatMap_append]; simp
theorem opt_len (b : Bool) (l : List UInt8) : (opt b l).length ≤ l.length := by unfold opt; split <;> simp
theorem textW_len (s : ByteArray) : (textW s).length ≤ 10 + s.size := by
 have := vint_len s.size; unfold textW; simp only [List.length_append, Array.length_toList]; show _ + s.size ≤ _; omega
theorem instrW_len {h : Nat} {x : RIns} (w : WIns h x) : (instrW h x).length ≤ 100000 := by
 have a1 := vint_len x.op.toNat
 have a2 := Nat.le_trans (opt_len (hasB h 1) (argW x.dst)) (argW_len _)
 have a3 := opt_len (hasB h 2) (vint x.src.length ++ srcW x.src)
 have b3 := vint_len x.src.length; have c3 := srcW_len x.src; have d3 := w.srcLen
 have a4 := Nat.le_trans (opt_len (hasB h 4) (vint x.n.toNat)) (vint_len _)
 have a5 := Nat.le_trans (opt_len (hasB h 8) (textW x.name)) (textW_len _); have b5 := w.name
 have a6 := opt_len (hasB h 16) (vint x.cases.length ++ casesW x.cases)
 have b6 := vint_len x.cases.length; have c6 := casesW_len x.cases; have d6 := w.casesLen
 have a7 := opt_len (hasB h 32) (vint x.segs.length ++ segsW x.segs)
 have b7 := vint_len x.segs.length; have c7 := segsW_len x.segs; have d7 := w.segsLen
 have a8 := Nat.le_trans (opt_len (hasB h 64) (vint x.to.toNat)) (vint_len _)
 have a9 := Nat.le_trans (opt_len (hasB h 128) (vint x.live.toNat)) (vint_len _)
 rw [List.length_append] at a3 a6 a7
 unfold instrW
 simp only [List.length_append]
 omega

/-- A function of a unit, a fun, encoded. -/
def funcW (f : RFunc) : List UInt8 := textW f.name ++ (vint f.arity.toNat ++ (boolW f.pub ++ vint f.entry.toNat))
def funW (f : RFun) : List UInt8 := vint f.arity.toNat ++ (vint f.free.toNat ++ vint f.entry.toNat)
theorem funcW_len (f : RFunc) : (funcW f).length ≤ 40 + f.name.size := by
 have := textW_len f.name; have := vint_len f.arity.toNat; have := boolW_len f.pub; have := vint_len f.entry.toNat; unfold funcW; simp only [List.length_append]; omega
theorem funW_len (f : RFun) : (funW f).length ≤ 30 := by
 have := vint_len f.arity.toNat; have := vint_len f.free.toNat; have := vint_len f.entry.toNat; unfold funW; simp only [List.length_append]; omega
end Go.Proofs.YtghgbikmlbildaaGreatDoor
