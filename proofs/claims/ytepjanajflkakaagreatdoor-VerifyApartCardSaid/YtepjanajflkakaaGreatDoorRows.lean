/-
  NARROWER THAN 'FOR EVERY INPUT', by the rows' own cells (each row's printed sentence says how): VerifyWheres: loops, laid · VerifyStates: loops, laid · VerifyUnreached: loops, laid · VerifyApart: loops, laid · VerifyKnown: laid · VerifyLoads: loops, laid.
  DERIVED. THE GIVEN ROWS OF THIS SEAT. 6 by the template 'for every input the law returns true; each argument reads behind the call as it read before'; 0 by the template 'total and deterministic' (their statements: YtepjanajflkakaaGreatDoorTotals.lean).
  GIVEN WITH THE SEED: the statements are not yours to turn. If you find one false, say at which input.
  Laid BY PROGRAM, IN A SANDBOX (cutbox-rows.mjs): the forced cells as the released guide's own fill.sh prints them over the translation a76bbf7fb08f02be… (all of the seat's roots in one cut). By AI agents, Wed Nov 11 2026. No macro, syntax, notation, axiom, sorry.
-/
import Derived.Test.YtepjanajflkakaaGreatDoorChecked
import GoSem.Claim
import GoSem.ClaimJoined
import GoSem.ClaimMapViews
import Derived.JoinedTies
import Derived.KernelRfl
namespace Go.Proofs.YtepjanajflkakaaGreatDoor
/- THE CELL 'sum', in the pinned program and in every row, IS THE sha256 OF THE DUMP (.gsa) THAT YtepjanajflkakaaGreatDoorProg.lean LOADS. Nothing in Lean hashes anything: it is a label: what it is worth is what the hold of that sum in a sandbox is worth. -/
noncomputable def Tryz.pinned : Pinned := { name := "ytepjanajflkakaagreatdoor", sum := "a76bbf7fb08f02be3951c2e7917dfc24d84aa1a059674a58365c82329b51f5d6", checked := Tryz.checked }
namespace Rows
def none {H : Type} : Left H := { results := [], args := [] }

/- WHAT THE LISTED PACKAGE-LEVEL VARIABLES READ AS WHEN THE CALL BEGINS. Each datum BY PROGRAM (the guide's laid-datum.mjs) off the statement by which the dump's own 'gosem.cut.vars' lays the variable. In a bare row this is a premise. The card (YtepjanajflkakaaGreatDoorCards.lean) ties it to the program's text. -/
def laid_unicode_White_Space {H : Type} : DataW H := .ptr (.agg [.slice [.agg [.lit (.int .u16 9), .lit (.int .u16 13), .lit (.int .u16 1)], .agg [.lit (.int .u16 32), .lit (.int .u16 133), .lit (.int .u16 101)], .agg [.lit (.int .u16 160), .lit (.int .u16 5760), .lit (.int .u16 5600)], .agg [.lit (.int .u16 8192), .lit (.int .u16 8202), .lit (.int .u16 1)], .agg [.lit (.int .u16 8232), .lit (.int .u16 8233), .lit (.int .u16 1)], .agg [.lit (.int .u16 8239), .lit (.int .u16 8287), .lit (.int .u16 48)], .agg [.lit (.int .u16 12288), .lit (.int .u16 12288), .lit (.int .u16 1)]] [], .nil, .lit (.int .i64 2)])
def laid_strings_asciiSpace {H : Type} : DataW H := .agg [.lit (.int .u8 0), .lit (.int .u8 0), .lit (.int .u8 0), .lit (.int .u8 0), .lit (.int .u8 0), .lit (.int .u8 0), .lit (.int .u8 0), .lit (.int .u8 0), .lit (.int .u8 0), .lit (.int .u8 1), .lit (.int .u8 1), .lit (.int .u8 1), .lit (.int .u8 1), .lit (.int .u8 1), .lit (.int .u8 0), .lit (.int .u8 0), .lit (.int .u8 0), .lit (.int .u8 0), .lit (.int .u8 0), .lit (.int .u8 0), .lit (.int .u8 0), .lit (.int .u8 0), .lit (.int .u8 0), .lit (.int .u8 0), .lit (.int .u8 0), .lit (.int .u8 0), .lit (.int .u8 0), .lit (.int .u8 0), .lit (.int .u8 0), .lit (.int .u8 0), .lit (.int .u8 0), .lit (.int .u8 0), .lit (.int .u8 1), .lit (.int .u8 0), .lit (.int .u8 0), .lit (.int .u8 0), .lit (.int .u8 0), .lit (.int .u8 0), .lit (.int .u8 0), .lit (.int .u8 0), .lit (.int .u8 0), .lit (.int .u8 0), .lit (.int .u8 0), .lit (.int .u8 0), .lit (.int .u8 0), .lit (.int .u8 0), .lit (.int .u8 0), .lit (.int .u8 0), .lit (.int .u8 0), .lit (.int .u8 0), .lit (.int .u8 0), .lit (.int .u8 0), .lit (.int .u8 0), .lit (.int .u8 0), .lit (.int .u8 0), .lit (.int .u8 0), .lit (.int .u8 0), .lit (.int .u8 0), .lit (.int .u8 0), .lit (.int .u8 0), .lit (.int .u8 0), .lit (.int .u8 0), .lit (.int .u8 0), .lit (.int .u8 0), .lit (.int .u8 0), .lit (.int .u8 0), .lit (.int .u8 0), .lit (.int .u8 0), .lit (.int .u8 0), .lit (.int .u8 0), .lit (.int .u8 0), .lit (.int .u8 0), .lit (.int .u8 0), .lit (.int .u8 0), .lit (.int .u8 0), .lit (.int .u8 0), .lit (.int .u8 0), .lit (.int .u8 0), .lit (.int .u8 0), .lit (.int .u8 0), .lit (.int .u8 0), .lit (.int .u8 0), .lit (.int .u8 0), .lit (.int .u8 0), .lit (.int .u8 0), .lit (.int .u8 0), .lit (.int .u8 0), .lit (.int .u8 0), .lit (.int .u8 0), .lit (.int .u8 0), .lit (.int .u8 0), .lit (.int .u8 0), .lit (.int .u8 0), .lit (.int .u8 0), .lit (.int .u8 0), .lit (.int .u8 0), .lit (.int .u8 0), .lit (.int .u8 0), .lit (.int .u8 0), .lit (.int .u8 0), .lit (.int .u8 0), .lit (.int .u8 0), .lit (.int .u8 0), .lit (.int .u8 0), .lit (.int .u8 0), .lit (.int .u8 0), .lit (.int .u8 0), .lit (.int .u8 0), .lit (.int .u8 0), .lit (.int .u8 0), .lit (.int .u8 0), .lit (.int .u8 0), .lit (.int .u8 0), .lit (.int .u8 0), .lit (.int .u8 0), .lit (.int .u8 0), .lit (.int .u8 0), .lit (.int .u8 0), .lit (.int .u8 0), .lit (.int .u8 0), .lit (.int .u8 0), .lit (.int .u8 0), .lit (.int .u8 0), .lit (.int .u8 0), .lit (.int .u8 0), .lit (.int .u8 0), .lit (.int .u8 0), .lit (.int .u8 0), .lit (.int .u8 0), .lit (.int .u8 0), .lit (.int .u8 0), .lit (.int .u8 0), .lit (.int .u8 0), .lit (.int .u8 0), .lit (.int .u8 0), .lit (.int .u8 0), .lit (.int .u8 0), .lit (.int .u8 0), .lit (.int .u8 0), .lit (.int .u8 0), .lit (.int .u8 0), .lit (.int .u8 0), .lit (.int .u8 0), .lit (.int .u8 0), .lit (.int .u8 0), .lit (.int .u8 0), .lit (.int .u8 0), .lit (.int .u8 0), .lit (.int .u8 0), .lit (.int .u8 0), .lit (.int .u8 0), .lit (.int .u8 0), .lit (.int .u8 0), .lit (.int .u8 0), .lit (.int .u8 0), .lit (.int .u8 0), .lit (.int .u8 0), .lit (.int .u8 0), .lit (.int .u8 0), .lit (.int .u8 0), .lit (.int .u8 0), .lit (.int .u8 0), .lit (.int .u8 0), .lit (.int .u8 0), .lit (.int .u8 0), .lit (.int .u8 0), .lit (.int .u8 0), .lit (.int .u8 0), .lit (.int .u8 0), .lit (.int .u8 0), .lit (.int .u8 0), .lit (.int .u8 0), .lit (.int .u8 0), .lit (.int .u8 0), .lit (.int .u8 0), .lit (.int .u8 0), .lit (.int .u8 0), .lit (.int .u8 0), .lit (.int .u8 0), .lit (.int .u8 0), .lit (.int .u8 0), .lit (.int .u8 0), .lit (.int .u8 0), .lit (.int .u8 0), .lit (.int .u8 0), .lit (.int .u8 0), .lit (.int .u8 0), .lit (.int .u8 0), .lit (.int .u8 0), .lit (.int .u8 0), .lit (.int .u8 0), .lit (.int .u8 0), .lit (.int .u8 0), .lit (.int .u8 0), .lit (.int .u8 0), .lit (.int .u8 0), .lit (.int .u8 0), .lit (.int .u8 0), .lit (.int .u8 0), .lit (.int .u8 0), .lit (.int .u8 0), .lit (.int .u8 0), .lit (.int .u8 0), .lit (.int .u8 0), .lit (.int .u8 0), .lit (.int .u8 0), .lit (.int .u8 0), .lit (.int .u8 0), .lit (.int .u8 0), .lit (.int .u8 0), .lit (.int .u8 0), .lit (.int .u8 0), .lit (.int .u8 0), .lit (.int .u8 0), .lit (.int .u8 0), .lit (.int .u8 0), .lit (.int .u8 0), .lit (.int .u8 0), .lit (.int .u8 0), .lit (.int .u8 0), .lit (.int .u8 0), .lit (.int .u8 0), .lit (.int .u8 0), .lit (.int .u8 0), .lit (.int .u8 0), .lit (.int .u8 0), .lit (.int .u8 0), .lit (.int .u8 0), .lit (.int .u8 0), .lit (.int .u8 0), .lit (.int .u8 0), .lit (.int .u8 0), .lit (.int .u8 0), .lit (.int .u8 0), .lit (.int .u8 0), .lit (.int .u8 0), .lit (.int .u8 0), .lit (.int .u8 0), .lit (.int .u8 0), .lit (.int .u8 0), .lit (.int .u8 0), .lit (.int .u8 0), .lit (.int .u8 0), .lit (.int .u8 0), .lit (.int .u8 0), .lit (.int .u8 0), .lit (.int .u8 0), .lit (.int .u8 0), .lit (.int .u8 0), .lit (.int .u8 0), .lit (.int .u8 0), .lit (.int .u8 0), .lit (.int .u8 0), .lit (.int .u8 0), .lit (.int .u8 0), .lit (.int .u8 0)]
def laid_stagehand_code_rows {H : Type} : DataW H := .agg [.agg [.lit (.int .i64 0), .lit (.int .i64 0), .lit (.int .i64 0)], .agg [.lit (.int .i64 3), .lit (.int .i64 1), .lit (.int .i64 1)], .agg [.lit (.int .i64 131), .lit (.int .i64 0), .lit (.int .i64 255)], .agg [.lit (.int .i64 131), .lit (.int .i64 2), .lit (.int .i64 2)], .agg [.lit (.int .i64 135), .lit (.int .i64 0), .lit (.int .i64 200)], .agg [.lit (.int .i64 7), .lit (.int .i64 1), .lit (.int .i64 1)], .agg [.lit (.int .i64 3), .lit (.int .i64 1), .lit (.int .i64 1)], .agg [.lit (.int .i64 3), .lit (.int .i64 1), .lit (.int .i64 1)], .agg [.lit (.int .i64 64), .lit (.int .i64 0), .lit (.int .i64 0)], .agg [.lit (.int .i64 70), .lit (.int .i64 1), .lit (.int .i64 1)], .agg [.lit (.int .i64 66), .lit (.int .i64 1), .lit (.int .i64 1)], .agg [.lit (.int .i64 66), .lit (.int .i64 2), .lit (.int .i64 2)], .agg [.lit (.int .i64 82), .lit (.int .i64 1), .lit (.int .i64 1)], .agg [.lit (.int .i64 203), .lit (.int .i64 0), .lit (.int .i64 255)], .agg [.lit (.int .i64 139), .lit (.int .i64 0), .lit (.int .i64 3)], .agg [.lit (.int .i64 12), .lit (.int .i64 0), .lit (.int .i64 0)], .agg [.lit (.int .i64 4), .lit (.int .i64 0), .lit (.int .i64 0)], .agg [.lit (.int .i64 4), .lit (.int .i64 0), .lit (.int .i64 0)], .agg [.lit (.int .i64 6), .lit (.int .i64 2), .lit (.int .i64 2)], .agg [.lit (.int .i64 6), .lit (.int .i64 2), .lit (.int .i64 2)], .agg [.lit (.int .i64 6), .lit (.int .i64 1), .lit (.int .i64 1)], .agg [.lit (.int .i64 6), .lit (.int .i64 1), .lit (.int .i64 1)], .agg [.lit (.int .i64 2), .lit (.int .i64 2), .lit (.int .i64 3)], .agg [.lit (.int .i64 2), .lit (.int .i64 2), .lit (.int .i64 3)], .agg [.lit (.int .i64 4), .lit (.int .i64 0), .lit (.int .i64 0)], .agg [.lit (.int .i64 0), .lit (.int .i64 0), .lit (.int .i64 0)], .agg [.lit (.int .i64 0), .lit (.int .i64 0), .lit (.int .i64 0)], .agg [.lit (.int .i64 2), .lit (.int .i64 2), .lit (.int .i64 2)], .agg [.lit (.int .i64 64), .lit (.int .i64 0), .lit (.int .i64 0)], .agg [.lit (.int .i64 0), .lit (.int .i64 0), .lit (.int .i64 0)], .agg [.lit (.int .i64 66), .lit (.int .i64 1), .lit (.int .i64 1)], .agg [.lit (.int .i64 199), .lit (.int .i64 1), .lit (.int .i64 1)], .agg [.lit (.int .i64 199), .lit (.int .i64 1), .lit (.int .i64 1)], .agg [.lit (.int .i64 197), .lit (.int .i64 0), .lit (.int .i64 0)], .agg [.lit (.int .i64 64), .lit (.int .i64 0), .lit (.int .i64 0)], .agg [.lit (.int .i64 161), .lit (.int .i64 0), .lit (.int .i64 0)], .agg [.lit (.int .i64 2), .lit (.int .i64 0), .lit (.int .i64 1)], .agg [.lit (.int .i64 64), .lit (.int .i64 0), .lit (.int .i64 0)], .agg [.lit (.int .i64 0), .lit (.int .i64 0), .lit (.int .i64 0)], .agg [.lit (.int .i64 64), .lit (.int .i64 0), .lit (.int .i64 0)], .agg [.lit (.int .i64 64), .lit (.int .i64 0), .lit (.int .i64 0)]]

/-- 'stagehandlaw18.VerifyWheres': WHATEVER THE INPUT: true; the input reads as it did. -/
def verifyWheresSpec : ChangeSpec := { name := "verifyWheres", fn := fun _ => fun
  | [d] => { results := [.lit (.bool true)], args := [d] }
  | _ => none }
def verifyWheresRow : OpenClaim := { program := "ytepjanajflkakaagreatdoor", sum := "a76bbf7fb08f02be3951c2e7917dfc24d84aa1a059674a58365c82329b51f5d6", func := "stagehand/stagehandlaw18.VerifyWheres", spec := "verifyWheres", inPlace := ["internal/bytealg.IndexByteString", "internal/bytealg.IndexString", "internal/bytealg.abigen_runtime_cmpstring"], unfollowed := true, recurses := true, named := ["stagehand/code.rows", "internal/bytealg.MaxLen", "strings.asciiSpace", "unicode.White_Space"], loops := true, plainKeys := false, apart := false, laid := [("unicode.White_Space", laid_unicode_White_Space), ("strings.asciiSpace", laid_strings_asciiSpace), ("stagehand/code.rows", laid_stagehand_code_rows)] }
def VerifyWheresSaid : Prop := verifyWheresRow.holds Tryz.pinned (OpenSpec.ofChange verifyWheresSpec)

/-- ITS FALSE NEIGHBOUR: 'it returns false'. Refute it at one input. -/
def verifyWheresWrong : ChangeSpec := { name := "verifyWheres", fn := fun _ => fun
  | [d] => { results := [.lit (.bool false)], args := [d] }
  | _ => none }
def VerifyWheresWrongFalsely : Prop := verifyWheresRow.holds Tryz.pinned (OpenSpec.ofChange verifyWheresWrong)

/-- 'stagehandlaw18.VerifyStates': WHATEVER THE INPUT: true; the input reads as it did. -/
def verifyStatesSpec : ChangeSpec := { name := "verifyStates", fn := fun _ => fun
  | [d] => { results := [.lit (.bool true)], args := [d] }
  | _ => none }
def verifyStatesRow : OpenClaim := { program := "ytepjanajflkakaagreatdoor", sum := "a76bbf7fb08f02be3951c2e7917dfc24d84aa1a059674a58365c82329b51f5d6", func := "stagehand/stagehandlaw18.VerifyStates", spec := "verifyStates", inPlace := ["internal/bytealg.IndexByteString", "internal/bytealg.IndexString", "internal/bytealg.abigen_runtime_cmpstring"], unfollowed := true, recurses := true, named := ["stagehand/code.rows", "internal/bytealg.MaxLen", "strings.asciiSpace", "unicode.White_Space"], loops := true, plainKeys := false, apart := false, laid := [("unicode.White_Space", laid_unicode_White_Space), ("strings.asciiSpace", laid_strings_asciiSpace), ("stagehand/code.rows", laid_stagehand_code_rows)] }
def VerifyStatesSaid : Prop := verifyStatesRow.holds Tryz.pinned (OpenSpec.ofChange verifyStatesSpec)

/-- ITS FALSE NEIGHBOUR: 'it returns false'. Refute it at one input. -/
def verifyStatesWrong : ChangeSpec := { name := "verifyStates", fn := fun _ => fun
  | [d] => { results := [.lit (.bool false)], args := [d] }
  | _ => none }
def VerifyStatesWrongFalsely : Prop := verifyStatesRow.holds Tryz.pinned (OpenSpec.ofChange verifyStatesWrong)

/-- 'stagehandlaw18.VerifyUnreached': WHATEVER THE INPUT: true; the input reads as it did. -/
def verifyUnreachedSpec : ChangeSpec := { name := "verifyUnreached", fn := fun _ => fun
  | [d1, d2, d3] => { results := [.lit (.bool true)], args := [d1, d2, d3] }
  | _ => none }
def verifyUnreachedRow : OpenClaim := { program := "ytepjanajflkakaagreatdoor", sum := "a76bbf7fb08f02be3951c2e7917dfc24d84aa1a059674a58365c82329b51f5d6", func := "stagehand/stagehandlaw18.VerifyUnreached", spec := "verifyUnreached", inPlace := ["internal/bytealg.IndexByteString", "internal/bytealg.IndexString", "internal/bytealg.abigen_runtime_cmpstring"], unfollowed := true, recurses := true, named := ["stagehand/code.rows", "internal/bytealg.MaxLen", "strings.asciiSpace", "unicode.White_Space"], loops := true, plainKeys := false, apart := false, laid := [("unicode.White_Space", laid_unicode_White_Space), ("strings.asciiSpace", laid_strings_asciiSpace), ("stagehand/code.rows", laid_stagehand_code_rows)] }
def VerifyUnreachedSaid : Prop := verifyUnreachedRow.holds Tryz.pinned (OpenSpec.ofChange verifyUnreachedSpec)

/-- ITS FALSE NEIGHBOUR: 'it returns false'. Refute it at one input. -/
def verifyUnreachedWrong : ChangeSpec := { name := "verifyUnreached", fn := fun _ => fun
  | [d1, d2, d3] => { results := [.lit (.bool false)], args := [d1, d2, d3] }
  | _ => none }
def VerifyUnreachedWrongFalsely : Prop := verifyUnreachedRow.holds Tryz.pinned (OpenSpec.ofChange verifyUnreachedWrong)

/-- 'stagehandlaw18.VerifyApart': WHATEVER THE INPUT: true; the input reads as it did. -/
def verifyApartSpec : ChangeSpec := { name := "verifyApart", fn := fun _ => fun
  | [d] => { results := [.lit (.bool true)], args := [d] }
  | _ => none }
def verifyApartRow : OpenClaim := { program := "ytepjanajflkakaagreatdoor", sum := "a76bbf7fb08f02be3951c2e7917dfc24d84aa1a059674a58365c82329b51f5d6", func := "stagehand/stagehandlaw18.VerifyApart", spec := "verifyApart", inPlace := ["internal/bytealg.IndexByteString", "internal/bytealg.IndexString", "internal/bytealg.abigen_runtime_cmpstring"], unfollowed := true, recurses := true, named := ["stagehand/code.rows", "internal/bytealg.MaxLen", "strings.asciiSpace", "unicode.White_Space"], loops := true, plainKeys := false, apart := false, laid := [("unicode.White_Space", laid_unicode_White_Space), ("strings.asciiSpace", laid_strings_asciiSpace), ("stagehand/code.rows", laid_stagehand_code_rows)] }
def VerifyApartSaid : Prop := verifyApartRow.holds Tryz.pinned (OpenSpec.ofChange verifyApartSpec)

/-- ITS FALSE NEIGHBOUR: 'it returns false'. Refute it at one input. -/
def verifyApartWrong : ChangeSpec := { name := "verifyApart", fn := fun _ => fun
  | [d] => { results := [.lit (.bool false)], args := [d] }
  | _ => none }
def VerifyApartWrongFalsely : Prop := verifyApartRow.holds Tryz.pinned (OpenSpec.ofChange verifyApartWrong)

/-- 'stagehandlaw18.VerifyKnown': WHATEVER THE INPUT: true; the input reads as it did. -/
def verifyKnownSpec : ChangeSpec := { name := "verifyKnown", fn := fun _ => fun
  | [] => { results := [.lit (.bool true)], args := [] }
  | _ => none }
def verifyKnownRow : OpenClaim := { program := "ytepjanajflkakaagreatdoor", sum := "a76bbf7fb08f02be3951c2e7917dfc24d84aa1a059674a58365c82329b51f5d6", func := "stagehand/stagehandlaw18.VerifyKnown", spec := "verifyKnown", inPlace := ["internal/bytealg.IndexByteString", "internal/bytealg.IndexString", "internal/bytealg.abigen_runtime_cmpstring"], unfollowed := true, recurses := true, named := ["stagehand/code.rows", "internal/bytealg.MaxLen", "strings.asciiSpace", "unicode.White_Space"], plainKeys := false, apart := false, laid := [("unicode.White_Space", laid_unicode_White_Space), ("strings.asciiSpace", laid_strings_asciiSpace), ("stagehand/code.rows", laid_stagehand_code_rows)] }
def VerifyKnownSaid : Prop := verifyKnownRow.holds Tryz.pinned (OpenSpec.ofChange verifyKnownSpec)

/-- ITS FALSE NEIGHBOUR: 'it returns false'. Refute it at one input. -/
def verifyKnownWrong : ChangeSpec := { name := "verifyKnown", fn := fun _ => fun
  | [] => { results := [.lit (.bool false)], args := [] }
  | _ => none }
def VerifyKnownWrongFalsely : Prop := verifyKnownRow.holds Tryz.pinned (OpenSpec.ofChange verifyKnownWrong)

/-- 'stagehandlaw18.VerifyLoads': WHATEVER THE INPUT: true; the input reads as it did. -/
def verifyLoadsSpec : ChangeSpec := { name := "verifyLoads", fn := fun _ => fun
  | [d1, d2, d3] => { results := [.lit (.bool true)], args := [d1, d2, d3] }
  | _ => none }
def verifyLoadsRow : OpenClaim := { program := "ytepjanajflkakaagreatdoor", sum := "a76bbf7fb08f02be3951c2e7917dfc24d84aa1a059674a58365c82329b51f5d6", func := "stagehand/stagehandlaw18.VerifyLoads", spec := "verifyLoads", inPlace := ["internal/bytealg.IndexByteString", "internal/bytealg.IndexString", "internal/bytealg.abigen_runtime_cmpstring"], unfollowed := true, recurses := true, named := ["stagehand/code.rows", "internal/bytealg.MaxLen", "strings.asciiSpace", "unicode.White_Space"], loops := true, plainKeys := false, apart := false, laid := [("unicode.White_Space", laid_unicode_White_Space), ("strings.asciiSpace", laid_strings_asciiSpace), ("stagehand/code.rows", laid_stagehand_code_rows)] }
def VerifyLoadsSaid : Prop := verifyLoadsRow.holds Tryz.pinned (OpenSpec.ofChange verifyLoadsSpec)

/-- ITS FALSE NEIGHBOUR: 'it returns false'. Refute it at one input. -/
def verifyLoadsWrong : ChangeSpec := { name := "verifyLoads", fn := fun _ => fun
  | [d1, d2, d3] => { results := [.lit (.bool false)], args := [d1, d2, d3] }
  | _ => none }
def VerifyLoadsWrongFalsely : Prop := verifyLoadsRow.holds Tryz.pinned (OpenSpec.ofChange verifyLoadsWrong)

/- THE SECOND FORM. 'bulk': how many values and letters a reading holds, each counted each time it is reached (what is shared counts as often as it is met; a slice's spare places count too). A statement '..UptoSaid' is the law's where the arguments, and the package variables that the reading takes, are together of bulk at most 1048576: NARROWER than '..Said'. Prove '..Said' where nothing that the law and all that it calls make is longer than what came in: it says more and counts as full. Else prove '..UptoSaid'. A law counts once. -/
mutual
def uptoBulk {H : Type} : DataW H → Nat
  | .lit (.string bytes) => bytes.length + 1
  | .lit _ => 1
  | .nil => 1
  | .ptr d => uptoBulk d + 1
  | .slice elems spare => uptoBulkAll elems + uptoBulkAll spare + 1
  | .agg parts => uptoBulkAll parts + 1
  | .iface _ d => uptoBulk d + 1
  | .map entries => uptoBulkEntries entries + 1
  | .held _ => 1
def uptoBulkAll {H : Type} : List (DataW H) → Nat
  | [] => 0
  | d :: r => uptoBulk d + uptoBulkAll r
def uptoBulkEntries {H : Type} : List (Lit × DataW H) → Nat
  | [] => 0
  | x :: r => uptoBulkEntry x + uptoBulkEntries r
def uptoBulkEntry {H : Type} : Lit × DataW H → Nat
  | (.string bytes, d) => bytes.length + uptoBulk d + 1
  | (_, d) => uptoBulk d + 1
 end
def uptoSmall : (H : Type) → List (DataW H) → Bool := fun _ ds => decide (uptoBulkAll ds ≤ 1048576)
def OpenSpec.upto (s : _root_.Go.ChangeSpec) : _root_.Go.OpenSpec := { _root_.Go.OpenSpec.ofChange s with cond := some uptoSmall }

/-- 'stagehandlaw18.VerifyWheres', WHERE WHAT IT READS IS OF BULK AT MOST 1048576: true; the input reads as it did. -/
def verifyWheresUptoRow : OpenClaim := { program := "ytepjanajflkakaagreatdoor", sum := "a76bbf7fb08f02be3951c2e7917dfc24d84aa1a059674a58365c82329b51f5d6", func := "stagehand/stagehandlaw18.VerifyWheres", spec := "verifyWheres", inPlace := ["internal/bytealg.IndexByteString", "internal/bytealg.IndexString", "internal/bytealg.abigen_runtime_cmpstring"], unfollowed := true, recurses := true, named := ["stagehand/code.rows", "internal/bytealg.MaxLen", "strings.asciiSpace", "unicode.White_Space"], loops := true, plainKeys := false, apart := false, laid := [("unicode.White_Space", laid_unicode_White_Space), ("strings.asciiSpace", laid_strings_asciiSpace), ("stagehand/code.rows", laid_stagehand_code_rows)], narrowed := true }
def VerifyWheresUptoSaid : Prop := verifyWheresUptoRow.holds Tryz.pinned (OpenSpec.upto verifyWheresSpec)

/-- 'stagehandlaw18.VerifyStates', WHERE WHAT IT READS IS OF BULK AT MOST 1048576: true; the input reads as it did. -/
def verifyStatesUptoRow : OpenClaim := { program := "ytepjanajflkakaagreatdoor", sum := "a76bbf7fb08f02be3951c2e7917dfc24d84aa1a059674a58365c82329b51f5d6", func := "stagehand/stagehandlaw18.VerifyStates", spec := "verifyStates", inPlace := ["internal/bytealg.IndexByteString", "internal/bytealg.IndexString", "internal/bytealg.abigen_runtime_cmpstring"], unfollowed := true, recurses := true, named := ["stagehand/code.rows", "internal/bytealg.MaxLen", "strings.asciiSpace", "unicode.White_Space"], loops := true, plainKeys := false, apart := false, laid := [("unicode.White_Space", laid_unicode_White_Space), ("strings.asciiSpace", laid_strings_asciiSpace), ("stagehand/code.rows", laid_stagehand_code_rows)], narrowed := true }
def VerifyStatesUptoSaid : Prop := verifyStatesUptoRow.holds Tryz.pinned (OpenSpec.upto verifyStatesSpec)

/-- 'stagehandlaw18.VerifyUnreached', WHERE WHAT IT READS IS OF BULK AT MOST 1048576: true; the input reads as it did. -/
def verifyUnreachedUptoRow : OpenClaim := { program := "ytepjanajflkakaagreatdoor", sum := "a76bbf7fb08f02be3951c2e7917dfc24d84aa1a059674a58365c82329b51f5d6", func := "stagehand/stagehandlaw18.VerifyUnreached", spec := "verifyUnreached", inPlace := ["internal/bytealg.IndexByteString", "internal/bytealg.IndexString", "internal/bytealg.abigen_runtime_cmpstring"], unfollowed := true, recurses := true, named := ["stagehand/code.rows", "internal/bytealg.MaxLen", "strings.asciiSpace", "unicode.White_Space"], loops := true, plainKeys := false, apart := false, laid := [("unicode.White_Space", laid_unicode_White_Space), ("strings.asciiSpace", laid_strings_asciiSpace), ("stagehand/code.rows", laid_stagehand_code_rows)], narrowed := true }
def VerifyUnreachedUptoSaid : Prop := verifyUnreachedUptoRow.holds Tryz.pinned (OpenSpec.upto verifyUnreachedSpec)

/-- 'stagehandlaw18.VerifyApart', WHERE WHAT IT READS IS OF BULK AT MOST 1048576: true; the input reads as it did. -/
def verifyApartUptoRow : OpenClaim := { program := "ytepjanajflkakaagreatdoor", sum := "a76bbf7fb08f02be3951c2e7917dfc24d84aa1a059674a58365c82329b51f5d6", func := "stagehand/stagehandlaw18.VerifyApart", spec := "verifyApart", inPlace := ["internal/bytealg.IndexByteString", "internal/bytealg.IndexString", "internal/bytealg.abigen_runtime_cmpstring"], unfollowed := true, recurses := true, named := ["stagehand/code.rows", "internal/bytealg.MaxLen", "strings.asciiSpace", "unicode.White_Space"], loops := true, plainKeys := false, apart := false, laid := [("unicode.White_Space", laid_unicode_White_Space), ("strings.asciiSpace", laid_strings_asciiSpace), ("stagehand/code.rows", laid_stagehand_code_rows)], narrowed := true }
def VerifyApartUptoSaid : Prop := verifyApartUptoRow.holds Tryz.pinned (OpenSpec.upto verifyApartSpec)

/-- 'stagehandlaw18.VerifyKnown', WHERE WHAT IT READS IS OF BULK AT MOST 1048576: true; the input reads as it did. -/
def verifyKnownUptoRow : OpenClaim := { program := "ytepjanajflkakaagreatdoor", sum := "a76bbf7fb08f02be3951c2e7917dfc24d84aa1a059674a58365c82329b51f5d6", func := "stagehand/stagehandlaw18.VerifyKnown", spec := "verifyKnown", inPlace := ["internal/bytealg.IndexByteString", "internal/bytealg.IndexString", "internal/bytealg.abigen_runtime_cmpstring"], unfollowed := true, recurses := true, named := ["stagehand/code.rows", "internal/bytealg.MaxLen", "strings.asciiSpace", "unicode.White_Space"], plainKeys := false, apart := false, laid := [("unicode.White_Space", laid_unicode_White_Space), ("strings.asciiSpace", laid_strings_asciiSpace), ("stagehand/code.rows", laid_stagehand_code_rows)], narrowed := true }
def VerifyKnownUptoSaid : Prop := verifyKnownUptoRow.holds Tryz.pinned (OpenSpec.upto verifyKnownSpec)

/-- 'stagehandlaw18.VerifyLoads', WHERE WHAT IT READS IS OF BULK AT MOST 1048576: true; the input reads as it did. -/
def verifyLoadsUptoRow : OpenClaim := { program := "ytepjanajflkakaagreatdoor", sum := "a76bbf7fb08f02be3951c2e7917dfc24d84aa1a059674a58365c82329b51f5d6", func := "stagehand/stagehandlaw18.VerifyLoads", spec := "verifyLoads", inPlace := ["internal/bytealg.IndexByteString", "internal/bytealg.IndexString", "internal/bytealg.abigen_runtime_cmpstring"], unfollowed := true, recurses := true, named := ["stagehand/code.rows", "internal/bytealg.MaxLen", "strings.asciiSpace", "unicode.White_Space"], loops := true, plainKeys := false, apart := false, laid := [("unicode.White_Space", laid_unicode_White_Space), ("strings.asciiSpace", laid_strings_asciiSpace), ("stagehand/code.rows", laid_stagehand_code_rows)], narrowed := true }
def VerifyLoadsUptoSaid : Prop := verifyLoadsUptoRow.holds Tryz.pinned (OpenSpec.upto verifyLoadsSpec)

end Rows
end Go.Proofs.YtepjanajflkakaaGreatDoor
