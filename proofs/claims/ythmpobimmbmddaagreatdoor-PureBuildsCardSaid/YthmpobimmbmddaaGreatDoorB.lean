/-
  stagehandlaw08.PureBuilds: for every input the law returns true. Conditions: none but that the inputs can be read.
-/
import Derived.Test.YthmpobimmbmddaaGreatDoorRows
import Derived.Lib.LaidU8
import Derived.Stop.LaidErr
import Derived.Test.YthmpobimmbmddaaGreatDoorCards
import Derived.Test.YthmpobimmbmddaaGreatDoorTie
import Derived.Deep.DeepHandedRow
import Derived.Deep.DeepLaidRun
import Derived.Deep.DeepWitnessRowRef
import Derived.ProofKit
import Derived.OpenShut
import Derived.ShutString
import Derived.Test.YthmpobimmbmddaaGreatDoorB11
import Derived.Test.YthmpobimmbmddaaGreatDoorB26
namespace Go.Proofs.YthmpobimmbmddaaGreatDoor
open Go.RowKit
set_option linter.unusedVariables false

set_option maxRecDepth 100000 in
theorem open_fdv {H : Type} {enc : TypeId × Value → H} {W : World} {base b0 : Nat} {spare : Nat → Bool} {held : Bool} {r : Reach} {v : Value} {d : DataW H} {p : List MemPlace}
    (hv : Value.okWide Tryz.prog W r b0 25 v) (h : DataW.Trod enc Tryz.prog W base spare held 25 v d p) (hw : Wt Tryz.prog 25 d) :
    ∃ ao c l f, v = .slice ao l.length c ∧ SlAt W 23 (FdR W f) ao l ∧ l.length ≤ maxLen := by
  obtain ⟨fuel, hf0⟩ := h
  obtain ⟨ao, c, l, f, e, hs, hl⟩ := open_fds hf0 hw
  refine ⟨ao, c, l, f, ?_, hs, hl⟩
  unfold Value.okWide at hv
  simp only [Tryz.underlying25] at hv
  have key : ∀ w : Value, (∀ cs, w ≠ .agg cs) → w.cells.toList = [Value.slice ao l.length c] → w = .slice ao l.length c := fun w hn he => by
    have hc : w.cells = #[w] := by
      unfold Value.cells
      split
      · exact absurd rfl (hn _)
      · rfl
    rw [hc] at he
    exact (List.cons.inj he).1
  refine key v (fun cs ec => ?_) e
  subst ec
  simp [Cell.okWide, Cell.ok, Tryz.underlying25] at hv
end Go.Proofs.YthmpobimmbmddaaGreatDoor
namespace Go.Proofs.YthmpobimmbmddaaGreatDoor
open Go.RowKit
set_option linter.unusedVariables false

theorem spaceName : Tryz.prog.globalNamed "strings.asciiSpace" = some 0 := by kernel_rfl
theorem spaceType : (Tryz.prog.globals[0]?).map (·.type) = some 111 := by kernel_rfl
theorem spaceCells : Tryz.prog.cellsOf 5 = 1 := by kernel_rfl
theorem spacesCells : Tryz.prog.cellsOf 111 = 256 := by kernel_rfl
theorem space_datum : (Rows.laid_strings_asciiSpace : DataW Unit) = Lib.tabData .u8 Lib.asciiSpaceTab := by kernel_rfl
theorem space_at {W : World} {a : String × DataW Unit} {rest : List (String × DataW Unit)} (h : laidMet Tryz.prog (a :: ("strings.asciiSpace", Rows.laid_strings_asciiSpace) :: rest) W) : SpaceAt W := by
  rw [space_datum] at h
  exact Lib.tabIs_of_head spaceName spaceType Tryz.underlying111 Tryz.underlying5 spaceCells spacesCells h.tail

/-- A world for the witness: the listed tables hold what their initialisers lay. -/
noncomputable def laidWorld (os : Os) : World :=
  let N := (World.settled Tryz.prog os).heap.size
  let w0 := World.holding Tryz.prog os ⟨#[.cells (Lib.whiteT.map fun (z : Nat) => Value.int .u16 (z : Int)).toArray 177, .cells #[.slice (some ⟨N, 0, none⟩) 7 7, .slice none 0 0, .int .i64 2] 174], #[], []⟩
  let put (h : Array Obj) (g : Nat) (cs : Array Value) : Array Obj := h.modify g fun
    | .cells _ t frozen => .cells cs t frozen
    | o => o
  let h1 := put w0.heap 0 (Lib.asciiSpaceTab.map fun z => Value.int .u8 z).toArray
  let h2 := put h1 2 #[.pointer (some ⟨N + 1, 0, none⟩)]
  { w0 with heap := h2 }
end Go.Proofs.YthmpobimmbmddaaGreatDoor
namespace Go.Proofs.YthmpobimmbmddaaGreatDoor.pureBuilds
open Go.ChangeShapes Go.WideShapes Go.ChangeAt Go.RowKit
open Go.ChangeMaps (open_string shut_string)
open Go.Proofs.YthmpobimmbmddaaGreatDoor
set_option linter.unusedVariables false
set_option linter.unusedSimpArgs false

theorem own : ownKnob Tryz.prog.godebug = none := by kernel_rfl
theorem laidOut : laidOutB Tryz.prog = true := by kernel_rfl

theorem laid_met (os : Os) : laidMet Tryz.prog Rows.pureBuildsRow.laid ((laidWorld os).forCall (fun _ _ => 0) ⟨#[], #[.slice none 0 0], []⟩).memory :=
  laidMet_of_run3 8 (by kernel_rfl) (by kernel_rfl) (by kernel_rfl)
theorem reads (os : Os) {H : Type} (enc : TypeId × Value → H) : ∃ ds places, DataW.whole enc Tryz.prog ((laidWorld os).forCall (fun _ _ => 0) ⟨#[], #[.slice none 0 0], []⟩).memory Tryz.f4.params.toList Rows.pureBuildsSpec.vars false (#[.slice none 0 0] : Array Value).toList 8 = some (ds, [], places) :=
  ⟨[.nil], [], by kernel_rfl⟩

set_option maxRecDepth 100000 in
theorem lifted (os : Os) (started : os.Started) (H : Type) (enc : TypeId × Value → H) (F : Stop.Interp) :
    ReturnsInHanded {} Tryz.checked os 4 .any ((OpenSpec.ofChange Rows.pureBuildsSpec).preRow enc Tryz.prog Tryz.f4 Rows.pureBuildsRow.domain false Rows.pureBuildsRow.laid) (((OpenSpec.ofChange Rows.pureBuildsSpec).at F).post enc Tryz.prog Tryz.f4 false true false false) := by
  obtain ⟨ds0, places, hx⟩ := reads os enc
  refine returnsInHanded_of_row (C := Tryz.checked) (s := OpenSpec.ofChange Rows.pureBuildsSpec) own started (by kernel_rfl) Tryz.func4
    (witness_row_atRef (enc := enc) (C := Tryz.checked) false (laidWorld os) #[.slice none 0 0] rfl (by kernel_rfl) (by kernel_rfl) (by kernel_rfl)
      (OpenSpec.preRow_of_cond 8 hx (by kernel_rfl) (fun k hk => by cases hk) (by kernel_rfl) (laid_met os))) ?_
  intro W base args ds gs before hval0 hW _ _ hsz hL _ _
  have hval : ∀ (j : Nat) t v, Tryz.f4.params[j]? = some t → args[j]? = some v → Value.okWide Tryz.prog W .any base t v := hval0
  have hW' := hW
  obtain ⟨p, q, hA0, hV, rfl, hfz, hnd⟩ := hW
  have hA : DataW.TrodAll enc Tryz.prog W 0 (fun _ => true) true Tryz.f4.params.toList args.toList ds p := hA0
  rw [Tryz.params4] at hA hval hsz
  obtain ⟨v0, vs0, d0, ds0, p0, q0, hargs, rfl, rfl, h0, r0⟩ := trodAll_cons hA
  obtain ⟨rfl, rfl, rfl⟩ := trodAll_nil r0
  obtain rfl : args = #[v0] := by cases args; simp_all
  obtain ⟨rfl, rfl⟩ := trodVars_none hV
  have k0 := h0
  obtain ⟨ao0, c0, l0, f0, rfl, hs0, hl0⟩ := open_fdv (hval 0 25 v0 rfl rfl) h0 (wt_each _ _ hsz 0 _ _ rfl rfl)
  clear hA0 hval0
  simp only [List.append_nil, List.nil_append] at hW'
  refine (builds_walk f0 l0 ao0 c0 W hs0 hl0 (space_at hL)).mono fun e W' ⟨he, bel⟩ => ?_
  subst he
  exact ⟨_, rfl, _, _, _, [], _, [], hW', trodAll_mk1 (shut_bool Tryz.underlying4 _), (trodAll_cons_mk (Below.trod laidOut (by kernel_rfl) (of_decide_eq_true (by kernel_rfl)) k0 bel (fun x hx => by first | exact absurd hx List.not_mem_nil | simpa using hW'.lt x (by simp [hx]))) trodAll_mk0), rfl, bel.frame _, fun h => by cases h⟩

theorem said : Rows.PureBuildsSaid :=
  OpenClaim.holds_of_cond 4 Tryz.f4 rfl rfl rfl rfl rfl rfl rfl ⟨rfl, rfl, rfl, rfl, rfl⟩ rfl rfl rfl rfl rfl (by kernel_rfl) Tryz.func4 (by kernel_rfl)
    (of_decide_eq_true (by kernel_rfl)) (by unfold Func.isWrapper; first | (rw [if_pos (by decide +kernel)]; kernel_rfl) | (rw [if_neg (by decide +kernel)]; exact ⟨rfl, rfl⟩))
    (fun os started H enc _ F => by rw [OpenClaim.pre_eq_preRow]; exact lifted os started H enc F)

/-- No parameter wants a stand-in; the program's own looks are off: what the card asks. -/
theorem plain (f : FuncId) (fn : Func) (hf : Tryz.pinned.checked.prog.funcNamed "stagehand/stagehandlaw08.PureBuilds" = some f) (hfn : Tryz.pinned.checked.prog.funcs[f]? = some fn) :
    true = Tryz.pinned.checked.prog.looks [] ∧ ∀ (j : Nat) t, fn.params[j]? = some t → Tryz.pinned.checked.prog.wantsStandIn t = false := by
  obtain rfl : f = 4 := Option.some.inj ((show Tryz.prog.funcNamed "stagehand/stagehandlaw08.PureBuilds" = some 4 by kernel_rfl).symm.trans hf) |>.symm
  obtain rfl : fn = Tryz.f4 := (Option.some.inj (Tryz.func4.symm.trans hfn)).symm
  refine ⟨by kernel_rfl, fun j t ht => ?_⟩
  rw [Tryz.params4] at ht
  have hm := Array.mem_of_getElem? ht
  have hc : t = 25 := by simpa using hm
  subst hc
  exact (show Tryz.prog.wantsStandIn 25 = false by kernel_rfl)

theorem proved : Rows.PureBuildsCardSaid :=
  Claim7.holds_tied_plain_at .later [] _ _ _ _ said (fun _ h => by cases h) (by kernel_rfl) (fun _ h => by cases h) pureBuilds_row_tie rfl ⟨rfl, rfl⟩ (by kernel_rfl) rfl plain (by kernel_rfl)
#print axioms proved
end Go.Proofs.YthmpobimmbmddaaGreatDoor.pureBuilds
