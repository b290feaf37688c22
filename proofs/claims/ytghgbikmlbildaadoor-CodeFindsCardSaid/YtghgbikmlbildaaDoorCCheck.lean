/-
  Check: the walk.
-/
import Derived.Test.YtghgbikmlbildaaDoorCTables
import Derived.Test.YtghgbikmlbildaaDoorCNumber4
import Derived.Test.YtghgbikmlbildaaDoorCNamed
import Derived.Test.YtghgbikmlbildaaDoorCLists2
import Derived.Test.YtghgbikmlbildaaDoorCTargets
namespace Go.Proofs.YtghgbikmlbildaaDoor
open Go.RowKit
set_option linter.unusedVariables false
set_option linter.unusedSimpArgs false

/-- Has the table a row for an operation? -/
def opOk (op : Int) : Bool := decide (1 ≤ op ∧ op ≤ 40)
def rowAt (op : Int) : Int × Int × Int := (rowT[op.toNat]?).getD (0, 0, 0)
/-- Is an instruction well-formed, at its place? -/
def insB (u : RUnit) (i : Nat) (x : RIns) : Bool :=
  opOk x.op && (fieldsB u.lits.length x (rowAt x.op).1.toNat (rowAt x.op).2.1.toNat (rowAt x.op).2.2.toNat && (numberB u.funcs.length u.funs x && (namedB x && (listsB u.lits x && targetsB u.code i x (rowAt x.op).1.toNat))))
/-- The first instruction from i on that is not well-formed. -/
def badFrom (u : RUnit) : List RIns → Nat → Option Nat
  | [], _ => none
  | x :: l, i => if insB u i x = true then badFrom u l (i + 1) else some i
def checkI (f : Nat) (u : RUnit) : Int := if tablesB f u = true then (match badFrom u u.code 0 with | some i => (i : Int) | none => 0) else -1
def checkE (f : Nat) (u : RUnit) : Int := if tablesB f u = true then (match badFrom u u.code 0 with | some _ => 6 | none => 0) else 6
theorem bad_step (u : RUnit) {l : List RIns} {k : Nat} (h : k < l.length) : badFrom u (l.drop k) k = if insB u k l[k] = true then badFrom u (l.drop (k + 1)) (k + 1) else some k := by
  rw [List.drop_eq_getElem_cons h, badFrom]
theorem rowT_nat : ∀ k, (h : k < 41) → 0 ≤ (rowT[k]'h).1 ∧ (rowT[k]'h).1 < 1000 ∧ 0 ≤ (rowT[k]'h).2.1 ∧ (rowT[k]'h).2.1 < 1000 ∧ 0 ≤ (rowT[k]'h).2.2 ∧ (rowT[k]'h).2.2 < 1000 := by decide
/-- rowOf, in numbers. -/
theorem rowOf_at {op : Int} (h : 1 ≤ op ∧ op ≤ 40) (w : World) (hr : RowsAt w) :
    Calls Tryd.prog 16 #[.int .i64 op] w fun e w' => e = .returned (.tuple #[.agg #[.int .i64 ((rowAt op).1.toNat : Nat), .int .i64 ((rowAt op).2.1.toNat : Nat), .int .i64 ((rowAt op).2.2.toNat : Nat)], .bool true]) ∧ Below w.heap.size w w' := by
  obtain ⟨k, rfl⟩ : ∃ k : Nat, op = (k : Int) := ⟨op.toNat, by omega⟩
  have hk : k < 41 := by omega
  have h1 := rowOf_yes k (by omega) hk w hr
  obtain ⟨a, b, c, d, e, g⟩ := rowT_nat k hk
  have hra : rowAt (k : Int) = rowT[k]'hk := by unfold rowAt; rw [Int.toNat_natCast, List.getElem?_eq_getElem (by exact hk)]; rfl
  rw [hra, Int.toNat_of_nonneg a, Int.toNat_of_nonneg c, Int.toNat_of_nonneg e]
  exact h1
theorem rowAt_lt {op : Int} : (rowAt op).1.toNat < 1000 ∧ (rowAt op).2.1.toNat < 1000 ∧ (rowAt op).2.2.toNat < 1000 := by
  unfold rowAt
  by_cases h : op.toNat < 41
  · obtain ⟨a, b, c, d, e, g⟩ := rowT_nat op.toNat h
    rw [List.getElem?_eq_getElem (by exact h)]
    simp only [Option.getD_some]
    omega
  · rw [List.getElem?_eq_none (by exact Nat.le_of_not_lt h)]
    simp
theorem ret_ii {k k' : IntKind} {a b c d : Int} (h : a = b) (h' : c = d) : Ending.returned (.tuple #[.int k a, .int k' c]) = .returned (.tuple #[.int k b, .int k' d]) := by rw [h, h']
theorem lits_valid {f : Nat} {u : RUnit} (h : tablesB f u = true) : ∀ t ∈ u.lits, validF f t = true := by
  unfold tablesB at h
  rw [Bool.and_eq_true, Bool.and_eq_true] at h
  exact List.all_eq_true.1 h.2.1
set_option maxRecDepth 100000 in
set_option maxHeartbeats 40000000 in
theorem check_any (f : Nat) (u : RUnit) (lo fo go co : Option Addr) (lc fc gc cc : Nat) (w : World) (hrows : RowsAt w) (hsp : SpaceAt w) (hp : UP w u lo fo go co) (hlits : SlAt w 9 (TmAt w (f + 1)) lo u.lits) (hcap : ∀ t ∈ u.lits, (capF (f + 1) t : Int) ≤ 1152921504606846976) (hnm : ∀ x ∈ u.code, x.name.size ≤ 140737488355328) :
    Calls Tryd.prog 7 #[.agg #[.string u.mdl, .int .i64 u.vsn, .slice lo u.lits.length lc, .slice fo u.funcs.length fc, .slice go u.funs.length gc, .slice co u.code.length cc]] w fun e w' => e = .returned (.tuple #[.int .i64 (checkI (f + 1) u), .int .i64 (checkE (f + 1) u)]) ∧ Below w.heap.size w w' := by
  have HP := Lib.hid hp; have HRW := Lib.hid hrows; have HSP := Lib.hid hsp; have HLI := Lib.hid hlits; have HCAP := Lib.hid hcap; have HNM := Lib.hid hnm
  clear hrows hsp hp hlits hcap hnm
  have hbx := ubox_new w u lo fo go co lc fc gc cc
  have hba : Below w.heap.size w (w.alloc (.cells #[.string u.mdl, .int .i64 u.vsn, .slice lo u.lits.length lc, .slice fo u.funcs.length fc, .slice go u.funs.length gc, .slice co u.code.length cc] 27)) := (Below.refl _ _).alloc (Nat.le_refl _) _
  have hT := tables_any f w.heap.size u lo fo go co lc fc gc cc _ hbx (HP.out.below hba) (HLI.out.tms hba) HCAP.out
  have HBX := Lib.hid hbx; have HBA := Lib.hid hba
  have EI : Hid (checkI (f + 1) u = if tablesB (f + 1) u = true then (match badFrom u u.code 0 with | some i => (i : Int) | none => 0) else -1) := Lib.hid rfl
  have EE : Hid (checkE (f + 1) u = if tablesB (f + 1) u = true then (match badFrom u u.code 0 with | some _ => 6 | none => 0) else 6) := Lib.hid rfl
  clear hbx hba
  cases htb : tablesB (f + 1) u with
  | false =>
    rw [htb] at hT EI EE
    rw [if_neg (by decide)] at EI EE
    clear htb
    go_enter Tryd.func7, Tryd.ntmps7
    go_wp2_with fail
    refine hT.mono ?_
    rintro e w5 ⟨rfl, hb5⟩
    go_wp2_with fail
    go_ret2
    exact ⟨ret_ii EI.out.symm EE.out.symm, below_next HBA.out hb5⟩
  | true =>
    rw [htb] at hT EI EE
    rw [if_pos rfl] at EI EE
    have HLV := Lib.hid (lits_valid htb)
    have HI : Hid (badFrom u u.code 0 = badFrom u (u.code.drop 0) 0) := Lib.hid rfl
    clear htb
    have hcl := HP.out.codeLen
    go_enter Tryd.func7, Tryd.ntmps7
    go_wp2_with fail
    refine hT.mono ?_
    rintro e w5 ⟨rfl, hb5⟩
    have HB5 := Lib.hid (below_next HBA.out hb5)
    have HU5 := Lib.hid (HBX.out.below hb5)
    have d5 := HU5.out.c5
    have hsz : w.heap.size ≤ w5.heap.size := HB5.out.size
    clear hb5 hT HBX HBA
    generalize hBe : w.heap.size = B at *
    have HBE := Lib.hid hBe
    clear hBe
    go_wp2_with fail
    go_loopw [13] (fun i wr => ∃ k : Nat, k ≤ u.code.length ∧ i = .int .i64 k ∧ Hid (badFrom u u.code 0 = badFrom u (u.code.drop k) k) ∧ Below w5.heap.size w5 wr) (fun i _ => u.code.length - (intOf i).toNat)
    case atStart => exact ⟨0, Nat.zero_le _, rfl, HI, Below.refl _ _⟩
    case round =>
      obtain ⟨k, hk, rfl, HK, hBw⟩ := hrel
      rename World => wr
      by_cases hlt : k < u.code.length
      · have HFW : Hid (Below w.heap.size w wr) := Lib.hid (by rw [HBE.out]; exact HB5.out.trans (hBw.mono hsz))
        obtain ⟨bc, oc, so, co', go', sc, cc', gc', hco, hxb⟩ := ibox_of (HP.out.below HFW.out).code hlt
        subst hco
        have HST := Lib.hid (bad_step u hlt)
        have hui := HU5.out.below hBw
        have e5 := hui.c5
        have c0 := hxb.c0
        have hbl := hxb.lt
        have hBl := hui.lt
        have hll := HP.out.litsLen
        have hrl := @rowAt_lt u.code[k].op
        have HINS : Hid (insB u k u.code[k] = (opOk u.code[k].op && (fieldsB u.lits.length u.code[k] (rowAt u.code[k].op).1.toNat (rowAt u.code[k].op).2.1.toNat (rowAt u.code[k].op).2.2.toNat && (numberB u.funcs.length u.funs u.code[k] && (namedB u.code[k] && (listsB u.lits u.code[k] && targetsB u.code k u.code[k] (rowAt u.code[k].op).1.toNat)))))) := Lib.hid rfl
        have cf := fun wx (hx : Below wr.heap.size wr wx) => fields_any B u lo fo go (some ⟨bc, oc, none⟩) lc fc gc cc bc (oc + k * 10) u.code[k] so co' go' sc cc' gc' (rowAt u.code[k].op).1.toNat (rowAt u.code[k].op).2.1.toNat (rowAt u.code[k].op).2.2.toNat wx (hui.below hx) hll (hxb.below hx) hrl.1 hrl.2.1 hrl.2.2
        have cn := fun wx (hx : Below wr.heap.size wr wx) => number_any B u lo fo go (some ⟨bc, oc, none⟩) lc fc gc cc bc (oc + k * 10) u.code[k] so co' go' sc cc' gc' wx (hui.below hx) HP.out.funcsLen HP.out.funsLen ((HP.out.below HFW.out).below hx).funs (hxb.below hx)
        have cm := fun wx (hx : Below wr.heap.size wr wx) => named_any bc (oc + k * 10) u.code[k] so co' go' sc cc' gc' wx ((HSP.out.below HFW.out).below hx) (hxb.below hx) (HNM.out _ (List.getElem_mem hlt))
        have cl := fun wx (hx : Below wr.heap.size wr wx) => lists_any B u lo fo go (some ⟨bc, oc, none⟩) lc fc gc cc bc (oc + k * 10) u.code[k] so co' go' sc cc' gc' f wx (hui.below hx) hll ⟨(HLI.out.tms HFW.out).tms hx, fun t ht => ⟨HLV.out t ht, HCAP.out t ht⟩⟩ (hxb.below hx)
        have ct := fun wx (hx : Below wr.heap.size wr wx) => targets_any B u lo fo go lc fc gc cc bc oc k (rowAt u.code[k].op).1.toNat (rowAt u.code[k].op).2.1.toNat (rowAt u.code[k].op).2.2.toNat so co' go' sc cc' gc' wx (hui.below hx) ((HP.out.below HFW.out).below hx).code hcl hlt u.code[k] (hxb.below hx) hrl.1
        have CF := Lib.hid cf; have CN := Lib.hid cn; have CM := Lib.hid cm; have CL := Lib.hid cl; have CT := Lib.hid ct
        clear cf cn cm cl ct hrl hxb hui
        by_cases hop : 1 ≤ u.code[k].op ∧ u.code[k].op ≤ 40
        · have hro := rowOf_at hop wr (HRW.out.below HFW.out)
          have hok1 : opOk u.code[k].op = true := by unfold opOk; exact decide_eq_true hop
          rw [hok1] at HINS
          clear hop hok1
          generalize fieldsB u.lits.length u.code[k] (rowAt u.code[k].op).1.toNat (rowAt u.code[k].op).2.1.toNat (rowAt u.code[k].op).2.2.toNat = b1 at *
          generalize targetsB u.code k u.code[k] (rowAt u.code[k].op).1.toNat = b5 at *
          generalize numberB u.funcs.length u.funs u.code[k] = b2 at *
          generalize namedB u.code[k] = b3 at *
          generalize listsB u.lits u.code[k] = b4 at *
          generalize insB u k u.code[k] = ib at *
          generalize (rowAt u.code[k].op).1.toNat = h at *
          generalize (rowAt u.code[k].op).2.1.toNat = l1 at *
          generalize (rowAt u.code[k].op).2.2.toNat = l2 at *
          generalize u.code[k].op = op at *
          have hbad : ib = false → badFrom u u.code 0 = some k := fun e => by rw [HK.out, HST.out, e]; rfl
          have hgood : ib = true → badFrom u u.code 0 = badFrom u (u.code.drop (k + 1)) (k + 1) := fun e => by rw [HK.out, HST.out, e]; rfl
          have HBAD := Lib.hid hbad; have HGOOD := Lib.hid hgood
          clear hbad hgood
          cases b1 with
          | false =>
            have hb := HBAD.out (by rw [HINS.out]; rfl)
            have E1 : Hid (checkI (f + 1) u = k) := Lib.hid (by rw [EI.out, hb])
            have E2 : Hid (checkE (f + 1) u = 6) := Lib.hid (by rw [EE.out, hb])
            clear hb
            go_wp2_with fail
            refine hro.mono ?_
            rintro e w6 ⟨rfl, hb6⟩
            have HW := Lib.hid (hb6.alloc hb6.size (.cells #[.int .i64 (h : Nat), .int .i64 (l1 : Nat), .int .i64 (l2 : Nat)] 54))
            have hR := heap_alloc_new w6 (.cells #[.int .i64 (h : Nat), .int .i64 (l1 : Nat), .int .i64 (l2 : Nat)] 54)
            have HR := Lib.hid hR
            have HWW := Lib.hid (Below.refl (w6.alloc (.cells #[.int .i64 (h : Nat), .int .i64 (l1 : Nat), .int .i64 (l2 : Nat)] 54)).heap.size (w6.alloc (.cells #[.int .i64 (h : Nat), .int .i64 (l1 : Nat), .int .i64 (l2 : Nat)] 54)))
            clear hb6 hR
            go_wp2_with fail
            generalize w6.alloc (.cells #[.int .i64 (h : Nat), .int .i64 (l1 : Nat), .int .i64 (l2 : Nat)] 54) = W6 at *
            generalize w6.heap.size = R at *
            refine (CF.out _ HW.out).mono ?_
            rintro e v0 ⟨rfl, hc0⟩
            have HV0 := Lib.hid (below_next HW.out hc0)
            have HZ0 := Lib.hid (below_next HWW.out hc0)
            clear hc0
            go_wp2_with fail
            go_ret2
            exact ⟨ret_ii E1.out.symm E2.out.symm, HFW.out.trans (HV0.out.mono HFW.out.size)⟩
          | true =>
            cases b2 with
            | false =>
              have hb := HBAD.out (by rw [HINS.out]; rfl)
              have E1 : Hid (checkI (f + 1) u = k) := Lib.hid (by rw [EI.out, hb])
              have E2 : Hid (checkE (f + 1) u = 6) := Lib.hid (by rw [EE.out, hb])
              clear hb
              go_wp2_with fail
              refine hro.mono ?_
              rintro e w6 ⟨rfl, hb6⟩
              have HW := Lib.hid (hb6.alloc hb6.size (.cells #[.int .i64 (h : Nat), .int .i64 (l1 : Nat), .int .i64 (l2 : Nat)] 54))
              have hR := heap_alloc_new w6 (.cells #[.int .i64 (h : Nat), .int .i64 (l1 : Nat), .int .i64 (l2 : Nat)] 54)
              have HR := Lib.hid hR
              have HWW := Lib.hid (Below.refl (w6.alloc (.cells #[.int .i64 (h : Nat), .int .i64 (l1 : Nat), .int .i64 (l2 : Nat)] 54)).heap.size (w6.alloc (.cells #[.int .i64 (h : Nat), .int .i64 (l1 : Nat), .int .i64 (l2 : Nat)] 54)))
              clear hb6 hR
              go_wp2_with fail
              generalize w6.alloc (.cells #[.int .i64 (h : Nat), .int .i64 (l1 : Nat), .int .i64 (l2 : Nat)] 54) = W6 at *
              generalize w6.heap.size = R at *
              refine (CF.out _ HW.out).mono ?_
              rintro e v0 ⟨rfl, hc0⟩
              have HV0 := Lib.hid (below_next HW.out hc0)
              have HZ0 := Lib.hid (below_next HWW.out hc0)
              clear hc0
              go_wp2_with fail
              refine (CN.out _ HV0.out).mono ?_
              rintro e v1 ⟨rfl, hc1⟩
              have HV1 := Lib.hid (below_next HV0.out hc1)
              have HZ1 := Lib.hid (below_next HZ0.out hc1)
              clear hc1
              go_wp2_with fail
              go_ret2
              exact ⟨ret_ii E1.out.symm E2.out.symm, HFW.out.trans (HV1.out.mono HFW.out.size)⟩
            | true =>
              cases b3 with
              | false =>
                have hb := HBAD.out (by rw [HINS.out]; rfl)
                have E1 : Hid (checkI (f + 1) u = k) := Lib.hid (by rw [EI.out, hb])
                have E2 : Hid (checkE (f + 1) u = 6) := Lib.hid (by rw [EE.out, hb])
                clear hb
                go_wp2_with fail
                refine hro.mono ?_
                rintro e w6 ⟨rfl, hb6⟩
                have HW := Lib.hid (hb6.alloc hb6.size (.cells #[.int .i64 (h : Nat), .int .i64 (l1 : Nat), .int .i64 (l2 : Nat)] 54))
                have hR := heap_alloc_new w6 (.cells #[.int .i64 (h : Nat), .int .i64 (l1 : Nat), .int .i64 (l2 : Nat)] 54)
                have HR := Lib.hid hR
                have HWW := Lib.hid (Below.refl (w6.alloc (.cells #[.int .i64 (h : Nat), .int .i64 (l1 : Nat), .int .i64 (l2 : Nat)] 54)).heap.size (w6.alloc (.cells #[.int .i64 (h : Nat), .int .i64 (l1 : Nat), .int .i64 (l2 : Nat)] 54)))
                clear hb6 hR
                go_wp2_with fail
                generalize w6.alloc (.cells #[.int .i64 (h : Nat), .int .i64 (l1 : Nat), .int .i64 (l2 : Nat)] 54) = W6 at *
                generalize w6.heap.size = R at *
                refine (CF.out _ HW.out).mono ?_
                rintro e v0 ⟨rfl, hc0⟩
                have HV0 := Lib.hid (below_next HW.out hc0)
                have HZ0 := Lib.hid (below_next HWW.out hc0)
                clear hc0
                go_wp2_with fail
                refine (CN.out _ HV0.out).mono ?_
                rintro e v1 ⟨rfl, hc1⟩
                have HV1 := Lib.hid (below_next HV0.out hc1)
                have HZ1 := Lib.hid (below_next HZ0.out hc1)
                clear hc1
                go_wp2_with fail
                refine (CM.out _ HV1.out).mono ?_
                rintro e v2 ⟨rfl, hc2⟩
                have HV2 := Lib.hid (below_next HV1.out hc2)
                have HZ2 := Lib.hid (below_next HZ1.out hc2)
                clear hc2
                go_wp2_with fail
                go_ret2
                exact ⟨ret_ii E1.out.symm E2.out.symm, HFW.out.trans (HV2.out.mono HFW.out.size)⟩
              | true =>
                cases b4 with
                | false =>
                  have hb := HBAD.out (by rw [HINS.out]; rfl)
                  have E1 : Hid (checkI (f + 1) u = k) := Lib.hid (by rw [EI.out, hb])
                  have E2 : Hid (checkE (f + 1) u = 6) := Lib.hid (by rw [EE.out, hb])
                  clear hb
                  go_wp2_with fail
                  refine hro.mono ?_
                  rintro e w6 ⟨rfl, hb6⟩
                  have HW := Lib.hid (hb6.alloc hb6.size (.cells #[.int .i64 (h : Nat), .int .i64 (l1 : Nat), .int .i64 (l2 : Nat)] 54))
                  have hR := heap_alloc_new w6 (.cells #[.int .i64 (h : Nat), .int .i64 (l1 : Nat), .int .i64 (l2 : Nat)] 54)
                  have HR := Lib.hid hR
                  have HWW := Lib.hid (Below.refl (w6.alloc (.cells #[.int .i64 (h : Nat), .int .i64 (l1 : Nat), .int .i64 (l2 : Nat)] 54)).heap.size (w6.alloc (.cells #[.int .i64 (h : Nat), .int .i64 (l1 : Nat), .int .i64 (l2 : Nat)] 54)))
                  clear hb6 hR
                  go_wp2_with fail
                  generalize w6.alloc (.cells #[.int .i64 (h : Nat), .int .i64 (l1 : Nat), .int .i64 (l2 : Nat)] 54) = W6 at *
                  generalize w6.heap.size = R at *
                  refine (CF.out _ HW.out).mono ?_
                  rintro e v0 ⟨rfl, hc0⟩
                  have HV0 := Lib.hid (below_next HW.out hc0)
                  have HZ0 := Lib.hid (below_next HWW.out hc0)
                  clear hc0
                  go_wp2_with fail
                  refine (CN.out _ HV0.out).mono ?_
                  rintro e v1 ⟨rfl, hc1⟩
                  have HV1 := Lib.hid (below_next HV0.out hc1)
                  have HZ1 := Lib.hid (below_next HZ0.out hc1)
                  clear hc1
                  go_wp2_with fail
                  refine (CM.out _ HV1.out).mono ?_
                  rintro e v2 ⟨rfl, hc2⟩
                  have HV2 := Lib.hid (below_next HV1.out hc2)
                  have HZ2 := Lib.hid (below_next HZ1.out hc2)
                  clear hc2
                  go_wp2_with fail
                  refine (CL.out _ HV2.out).mono ?_
                  rintro e v3 ⟨rfl, hc3⟩
                  have HV3 := Lib.hid (below_next HV2.out hc3)
                  have HZ3 := Lib.hid (below_next HZ2.out hc3)
                  clear hc3
                  go_wp2_with fail
                  go_ret2
                  exact ⟨ret_ii E1.out.symm E2.out.symm, HFW.out.trans (HV3.out.mono HFW.out.size)⟩
                | true =>
                  cases b5 with
                  | false =>
                    have hb := HBAD.out (by rw [HINS.out]; rfl)
                    have E1 : Hid (checkI (f + 1) u = k) := Lib.hid (by rw [EI.out, hb])
                    have E2 : Hid (checkE (f + 1) u = 6) := Lib.hid (by rw [EE.out, hb])
                    clear hb
                    go_wp2_with fail
                    refine hro.mono ?_
                    rintro e w6 ⟨rfl, hb6⟩
                    have HW := Lib.hid (hb6.alloc hb6.size (.cells #[.int .i64 (h : Nat), .int .i64 (l1 : Nat), .int .i64 (l2 : Nat)] 54))
                    have hR := heap_alloc_new w6 (.cells #[.int .i64 (h : Nat), .int .i64 (l1 : Nat), .int .i64 (l2 : Nat)] 54)
                    have HR := Lib.hid hR
                    have HWW := Lib.hid (Below.refl (w6.alloc (.cells #[.int .i64 (h : Nat), .int .i64 (l1 : Nat), .int .i64 (l2 : Nat)] 54)).heap.size (w6.alloc (.cells #[.int .i64 (h : Nat), .int .i64 (l1 : Nat), .int .i64 (l2 : Nat)] 54)))
                    clear hb6 hR
                    go_wp2_with fail
                    generalize w6.alloc (.cells #[.int .i64 (h : Nat), .int .i64 (l1 : Nat), .int .i64 (l2 : Nat)] 54) = W6 at *
                    generalize w6.heap.size = R at *
                    refine (CF.out _ HW.out).mono ?_
                    rintro e v0 ⟨rfl, hc0⟩
                    have HV0 := Lib.hid (below_next HW.out hc0)
                    have HZ0 := Lib.hid (below_next HWW.out hc0)
                    clear hc0
                    go_wp2_with fail
                    refine (CN.out _ HV0.out).mono ?_
                    rintro e v1 ⟨rfl, hc1⟩
                    have HV1 := Lib.hid (below_next HV0.out hc1)
                    have HZ1 := Lib.hid (below_next HZ0.out hc1)
                    clear hc1
                    go_wp2_with fail
                    refine (CM.out _ HV1.out).mono ?_
                    rintro e v2 ⟨rfl, hc2⟩
                    have HV2 := Lib.hid (below_next HV1.out hc2)
                    have HZ2 := Lib.hid (below_next HZ1.out hc2)
                    clear hc2
                    go_wp2_with fail
                    refine (CL.out _ HV2.out).mono ?_
                    rintro e v3 ⟨rfl, hc3⟩
                    have HV3 := Lib.hid (below_next HV2.out hc3)
                    have HZ3 := Lib.hid (below_next HZ2.out hc3)
                    clear hc3
                    have hrr := (HZ3.out.block R (lt_of_row HR.out)).trans HR.out
                    have g0 : v3.cell? ⟨R, 0, none⟩ = some (.int .i64 (h : Nat)) := by rw [cell_of_row _ _ _ _ _ _ hrr]; rfl
                    have g1 : v3.cell? ⟨R, 1, none⟩ = some (.int .i64 (l1 : Nat)) := by rw [cell_of_row _ _ _ _ _ _ hrr]; rfl
                    have g2 : v3.cell? ⟨R, 2, none⟩ = some (.int .i64 (l2 : Nat)) := by rw [cell_of_row _ _ _ _ _ _ hrr]; rfl
                    clear hrr
                    go_wp2_with fail
                    refine (CT.out _ HV3.out).mono ?_
                    rintro e v4 ⟨rfl, hc4⟩
                    have HV4 := Lib.hid (below_next HV3.out hc4)
                    have HZ4 := Lib.hid (below_next HZ3.out hc4)
                    clear hc4
                    go_wp2_with fail
                    go_ret2
                    exact ⟨ret_ii E1.out.symm E2.out.symm, HFW.out.trans (HV4.out.mono HFW.out.size)⟩
                  | true =>
                    have HNX := Lib.hid (HGOOD.out (by rw [HINS.out]; rfl))
                    go_wp2_with fail
                    refine hro.mono ?_
                    rintro e w6 ⟨rfl, hb6⟩
                    have HW := Lib.hid (hb6.alloc hb6.size (.cells #[.int .i64 (h : Nat), .int .i64 (l1 : Nat), .int .i64 (l2 : Nat)] 54))
                    have hR := heap_alloc_new w6 (.cells #[.int .i64 (h : Nat), .int .i64 (l1 : Nat), .int .i64 (l2 : Nat)] 54)
                    have HR := Lib.hid hR
                    have HWW := Lib.hid (Below.refl (w6.alloc (.cells #[.int .i64 (h : Nat), .int .i64 (l1 : Nat), .int .i64 (l2 : Nat)] 54)).heap.size (w6.alloc (.cells #[.int .i64 (h : Nat), .int .i64 (l1 : Nat), .int .i64 (l2 : Nat)] 54)))
                    clear hb6 hR
                    go_wp2_with fail
                    generalize w6.alloc (.cells #[.int .i64 (h : Nat), .int .i64 (l1 : Nat), .int .i64 (l2 : Nat)] 54) = W6 at *
                    generalize w6.heap.size = R at *
                    refine (CF.out _ HW.out).mono ?_
                    rintro e v0 ⟨rfl, hc0⟩
                    have HV0 := Lib.hid (below_next HW.out hc0)
                    have HZ0 := Lib.hid (below_next HWW.out hc0)
                    clear hc0
                    go_wp2_with fail
                    refine (CN.out _ HV0.out).mono ?_
                    rintro e v1 ⟨rfl, hc1⟩
                    have HV1 := Lib.hid (below_next HV0.out hc1)
                    have HZ1 := Lib.hid (below_next HZ0.out hc1)
                    clear hc1
                    go_wp2_with fail
                    refine (CM.out _ HV1.out).mono ?_
                    rintro e v2 ⟨rfl, hc2⟩
                    have HV2 := Lib.hid (below_next HV1.out hc2)
                    have HZ2 := Lib.hid (below_next HZ1.out hc2)
                    clear hc2
                    go_wp2_with fail
                    refine (CL.out _ HV2.out).mono ?_
                    rintro e v3 ⟨rfl, hc3⟩
                    have HV3 := Lib.hid (below_next HV2.out hc3)
                    have HZ3 := Lib.hid (below_next HZ2.out hc3)
                    clear hc3
                    have hrr := (HZ3.out.block R (lt_of_row HR.out)).trans HR.out
                    have g0 : v3.cell? ⟨R, 0, none⟩ = some (.int .i64 (h : Nat)) := by rw [cell_of_row _ _ _ _ _ _ hrr]; rfl
                    have g1 : v3.cell? ⟨R, 1, none⟩ = some (.int .i64 (l1 : Nat)) := by rw [cell_of_row _ _ _ _ _ _ hrr]; rfl
                    have g2 : v3.cell? ⟨R, 2, none⟩ = some (.int .i64 (l2 : Nat)) := by rw [cell_of_row _ _ _ _ _ _ hrr]; rfl
                    clear hrr
                    go_wp2_with fail
                    refine (CT.out _ HV3.out).mono ?_
                    rintro e v4 ⟨rfl, hc4⟩
                    have HV4 := Lib.hid (below_next HV3.out hc4)
                    have HZ4 := Lib.hid (below_next HZ3.out hc4)
                    clear hc4
                    go_wp2_with fail
                    go_roundw
                    case rel => exact ⟨k + 1, by omega, by go_num, HNX, hBw.trans (HV4.out.mono hBw.size)⟩
                    case measure => simp [intOf]; omega
        · have hb : badFrom u u.code 0 = some k := by rw [HK.out, HST.out, HINS.out]; unfold opOk; rw [decide_eq_false hop]; simp
          have E1 : Hid (checkI (f + 1) u = k) := Lib.hid (by rw [EI.out, hb])
          have E2 : Hid (checkE (f + 1) u = 6) := Lib.hid (by rw [EE.out, hb])
          have hro := rowOf_no u.code[k].op hop wr
          clear hb hop
          generalize u.code[k].op = op at *
          go_wp2_with fail
          refine hro.mono ?_
          rintro e w6 ⟨rfl, hb6⟩
          have HF := Lib.hid (HFW.out.trans (hb6.mono HFW.out.size))
          go_wp2_with fail
          go_ret2
          exact ⟨ret_ii E1.out.symm E2.out.symm, HF.out.alloc HF.out.size _⟩
      · have E : Hid (badFrom u u.code 0 = none) := Lib.hid (by rw [HK.out, List.drop_eq_nil_of_le (by omega)]; rfl)
        have E1 : Hid (checkI (f + 1) u = 0) := Lib.hid (by rw [EI.out, E.out])
        have E2 : Hid (checkE (f + 1) u = 0) := Lib.hid (by rw [EE.out, E.out])
        have HF : Hid (Below w.heap.size w wr) := Lib.hid (by rw [HBE.out]; exact HB5.out.trans (hBw.mono hsz))
        go_wp2_with fail
        go_ret2
        exact ⟨ret_ii E1.out.symm E2.out.symm, HF.out⟩
end Go.Proofs.YtghgbikmlbildaaDoor
