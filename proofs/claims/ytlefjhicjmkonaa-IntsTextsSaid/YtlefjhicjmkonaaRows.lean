/-
  No cell of these rows narrows 'for every input' (looked for: loops, veiled, ifaces, maps, wideKeys, modest, calm, conditions, laid).
  DERIVED. THE GIVEN ROWS OF THIS SEAT. 7 by the template 'for every input the law returns true; each argument reads behind the call as it read before'; 0 by the template 'total and deterministic' (their statements: YtlefjhicjmkonaaTotals.lean).
  GIVEN WITH THE SEED: the statements are not yours to turn. If you find one false, say at which input.
  Laid BY PROGRAM, IN A SANDBOX (cutbox-rows.mjs): the forced cells as the released guide's own fill.sh prints them over the translation 6c6095ac981e2395… (all of the seat's roots in one cut). By AI agents, Wed Nov 11 2026. No macro, syntax, notation, axiom, sorry.
-/
import Derived.Test.YtlefjhicjmkonaaChecked
import GoSem.Claim
import GoSem.ClaimJoined
import GoSem.ClaimMapViews
import Derived.JoinedTies
import Derived.KernelRfl
namespace Go.Proofs.Ytlefjhicjmkonaa
/- THE CELL 'sum', in the pinned program and in every row, IS THE sha256 OF THE DUMP (.gsa) THAT YtlefjhicjmkonaaProg.lean LOADS. Nothing in Lean hashes anything: it is a label: what it is worth is what the hold of that sum in a sandbox is worth. -/
noncomputable def Try.pinned : Pinned := { name := "ytlefjhicjmkonaa", sum := "6c6095ac981e2395b591046002426a879ade27a1e8c25f01edf50b82204bbbd9", checked := Try.checked }
namespace Rows
def none {H : Type} : Left H := { results := [], args := [] }

/-- 'stagehandlaw01.IntsTexts': WHATEVER THE INPUT: true; the input reads as it did. -/
def intsTextsSpec : ChangeSpec := { name := "intsTexts", fn := fun _ => fun
  | [d1, d2] => { results := [.lit (.bool true)], args := [d1, d2] }
  | _ => none }
def intsTextsRow : OpenClaim := { program := "ytlefjhicjmkonaa", sum := "6c6095ac981e2395b591046002426a879ade27a1e8c25f01edf50b82204bbbd9", func := "stagehand/stagehandlaw01.IntsTexts", spec := "intsTexts", unfollowed := true, recurses := true, apart := false }
def IntsTextsSaid : Prop := intsTextsRow.holds Try.pinned (OpenSpec.ofChange intsTextsSpec)

/-- ITS FALSE NEIGHBOUR: 'it returns false'. Refute it at one input. -/
def intsTextsWrong : ChangeSpec := { name := "intsTexts", fn := fun _ => fun
  | [d1, d2] => { results := [.lit (.bool false)], args := [d1, d2] }
  | _ => none }
def IntsTextsWrongFalsely : Prop := intsTextsRow.holds Try.pinned (OpenSpec.ofChange intsTextsWrong)

/-- 'stagehandlaw01.IntsRead': WHATEVER THE INPUT: true; the input reads as it did. -/
def intsReadSpec : ChangeSpec := { name := "intsRead", fn := fun _ => fun
  | [d1, d2] => { results := [.lit (.bool true)], args := [d1, d2] }
  | _ => none }
def intsReadRow : OpenClaim := { program := "ytlefjhicjmkonaa", sum := "6c6095ac981e2395b591046002426a879ade27a1e8c25f01edf50b82204bbbd9", func := "stagehand/stagehandlaw01.IntsRead", spec := "intsRead", unfollowed := true, recurses := true, apart := false }
def IntsReadSaid : Prop := intsReadRow.holds Try.pinned (OpenSpec.ofChange intsReadSpec)

/-- ITS FALSE NEIGHBOUR: 'it returns false'. Refute it at one input. -/
def intsReadWrong : ChangeSpec := { name := "intsRead", fn := fun _ => fun
  | [d1, d2] => { results := [.lit (.bool false)], args := [d1, d2] }
  | _ => none }
def IntsReadWrongFalsely : Prop := intsReadRow.holds Try.pinned (OpenSpec.ofChange intsReadWrong)

/-- 'stagehandlaw01.IntsShift': WHATEVER THE INPUT: true; the input reads as it did. -/
def intsShiftSpec : ChangeSpec := { name := "intsShift", fn := fun _ => fun
  | [d1, d2] => { results := [.lit (.bool true)], args := [d1, d2] }
  | _ => none }
def intsShiftRow : OpenClaim := { program := "ytlefjhicjmkonaa", sum := "6c6095ac981e2395b591046002426a879ade27a1e8c25f01edf50b82204bbbd9", func := "stagehand/stagehandlaw01.IntsShift", spec := "intsShift", unfollowed := true, recurses := true, apart := false }
def IntsShiftSaid : Prop := intsShiftRow.holds Try.pinned (OpenSpec.ofChange intsShiftSpec)

/-- ITS FALSE NEIGHBOUR: 'it returns false'. Refute it at one input. -/
def intsShiftWrong : ChangeSpec := { name := "intsShift", fn := fun _ => fun
  | [d1, d2] => { results := [.lit (.bool false)], args := [d1, d2] }
  | _ => none }
def IntsShiftWrongFalsely : Prop := intsShiftRow.holds Try.pinned (OpenSpec.ofChange intsShiftWrong)

/-- 'stagehandlaw01.IntsOrder': WHATEVER THE INPUT: true; the input reads as it did. -/
def intsOrderSpec : ChangeSpec := { name := "intsOrder", fn := fun _ => fun
  | [d1, d2, d3] => { results := [.lit (.bool true)], args := [d1, d2, d3] }
  | _ => none }
def intsOrderRow : OpenClaim := { program := "ytlefjhicjmkonaa", sum := "6c6095ac981e2395b591046002426a879ade27a1e8c25f01edf50b82204bbbd9", func := "stagehand/stagehandlaw01.IntsOrder", spec := "intsOrder", unfollowed := true, recurses := true, apart := false }
def IntsOrderSaid : Prop := intsOrderRow.holds Try.pinned (OpenSpec.ofChange intsOrderSpec)

/-- ITS FALSE NEIGHBOUR: 'it returns false'. Refute it at one input. -/
def intsOrderWrong : ChangeSpec := { name := "intsOrder", fn := fun _ => fun
  | [d1, d2, d3] => { results := [.lit (.bool false)], args := [d1, d2, d3] }
  | _ => none }
def IntsOrderWrongFalsely : Prop := intsOrderRow.holds Try.pinned (OpenSpec.ofChange intsOrderWrong)

/-- 'stagehandlaw01.IntsDivide': WHATEVER THE INPUT: true; the input reads as it did. -/
def intsDivideSpec : ChangeSpec := { name := "intsDivide", fn := fun _ => fun
  | [d1, d2] => { results := [.lit (.bool true)], args := [d1, d2] }
  | _ => none }
def intsDivideRow : OpenClaim := { program := "ytlefjhicjmkonaa", sum := "6c6095ac981e2395b591046002426a879ade27a1e8c25f01edf50b82204bbbd9", func := "stagehand/stagehandlaw01.IntsDivide", spec := "intsDivide", unfollowed := true, recurses := true, apart := false }
def IntsDivideSaid : Prop := intsDivideRow.holds Try.pinned (OpenSpec.ofChange intsDivideSpec)

/-- ITS FALSE NEIGHBOUR: 'it returns false'. Refute it at one input. -/
def intsDivideWrong : ChangeSpec := { name := "intsDivide", fn := fun _ => fun
  | [d1, d2] => { results := [.lit (.bool false)], args := [d1, d2] }
  | _ => none }
def IntsDivideWrongFalsely : Prop := intsDivideRow.holds Try.pinned (OpenSpec.ofChange intsDivideWrong)

/-- 'stagehandlaw01.IntsAdd': WHATEVER THE INPUT: true; the input reads as it did. -/
def intsAddSpec : ChangeSpec := { name := "intsAdd", fn := fun _ => fun
  | [d1, d2] => { results := [.lit (.bool true)], args := [d1, d2] }
  | _ => none }
def intsAddRow : OpenClaim := { program := "ytlefjhicjmkonaa", sum := "6c6095ac981e2395b591046002426a879ade27a1e8c25f01edf50b82204bbbd9", func := "stagehand/stagehandlaw01.IntsAdd", spec := "intsAdd", unfollowed := true, recurses := true, apart := false }
def IntsAddSaid : Prop := intsAddRow.holds Try.pinned (OpenSpec.ofChange intsAddSpec)

/-- ITS FALSE NEIGHBOUR: 'it returns false'. Refute it at one input. -/
def intsAddWrong : ChangeSpec := { name := "intsAdd", fn := fun _ => fun
  | [d1, d2] => { results := [.lit (.bool false)], args := [d1, d2] }
  | _ => none }
def IntsAddWrongFalsely : Prop := intsAddRow.holds Try.pinned (OpenSpec.ofChange intsAddWrong)

/-- 'stagehandlaw01.IntsBack': WHATEVER THE INPUT: true; the input reads as it did. -/
def intsBackSpec : ChangeSpec := { name := "intsBack", fn := fun _ => fun
  | [d1, d2, d3] => { results := [.lit (.bool true)], args := [d1, d2, d3] }
  | _ => none }
def intsBackRow : OpenClaim := { program := "ytlefjhicjmkonaa", sum := "6c6095ac981e2395b591046002426a879ade27a1e8c25f01edf50b82204bbbd9", func := "stagehand/stagehandlaw01.IntsBack", spec := "intsBack", unfollowed := true, recurses := true, apart := false }
def IntsBackSaid : Prop := intsBackRow.holds Try.pinned (OpenSpec.ofChange intsBackSpec)

/-- ITS FALSE NEIGHBOUR: 'it returns false'. Refute it at one input. -/
def intsBackWrong : ChangeSpec := { name := "intsBack", fn := fun _ => fun
  | [d1, d2, d3] => { results := [.lit (.bool false)], args := [d1, d2, d3] }
  | _ => none }
def IntsBackWrongFalsely : Prop := intsBackRow.holds Try.pinned (OpenSpec.ofChange intsBackWrong)

/- THE SECOND FORM. 'bulk': how many values and letters a reading holds, each counted each time it is reached (what is shared counts as often as it is met; a slice's spare places count too). A statement '..UptoSaid' is the law's where the arguments, and the package variables that the reading takes, are together of bulk at most 1048576: NARROWER than '..Said'. Prove '..Said' where nothing that the law and all that it calls make is longer than what came in: it says more and counts as full. Else prove '..UptoSaid'. A law counts once. -/
mutual
def uptoBulk {H : Type} : DataW H → Nat
  | .lit (.string bytes) => bytes.length + 1
  | .lit _ => 1
  | .nil => 1
  | .ptr d => uptoBulk d + 1
  | .slice elems spare => uptoBulkAll elems + uptoBulkAll spare + 1
  | .agg parts => uptoBulkAll parts + 1
  | .iface _ d => uptoBulk d + 1
  | .map entries => uptoBulkEntries entries + 1
  | .held _ => 1
def uptoBulkAll {H : Type} : List (DataW H) → Nat
  | [] => 0
  | d :: r => uptoBulk d + uptoBulkAll r
def uptoBulkEntries {H : Type} : List (Lit × DataW H) → Nat
  | [] => 0
  | x :: r => uptoBulkEntry x + uptoBulkEntries r
def uptoBulkEntry {H : Type} : Lit × DataW H → Nat
  | (.string bytes, d) => bytes.length + uptoBulk d + 1
  | (_, d) => uptoBulk d + 1
 end
def uptoSmall : (H : Type) → List (DataW H) → Bool := fun _ ds => decide (uptoBulkAll ds ≤ 1048576)
def OpenSpec.upto (s : _root_.Go.ChangeSpec) : _root_.Go.OpenSpec := { _root_.Go.OpenSpec.ofChange s with cond := some uptoSmall }

/-- 'stagehandlaw01.IntsTexts', WHERE WHAT IT READS IS OF BULK AT MOST 1048576: true; the input reads as it did. -/
def intsTextsUptoRow : OpenClaim := { program := "ytlefjhicjmkonaa", sum := "6c6095ac981e2395b591046002426a879ade27a1e8c25f01edf50b82204bbbd9", func := "stagehand/stagehandlaw01.IntsTexts", spec := "intsTexts", unfollowed := true, recurses := true, apart := false, narrowed := true }
def IntsTextsUptoSaid : Prop := intsTextsUptoRow.holds Try.pinned (OpenSpec.upto intsTextsSpec)

/-- 'stagehandlaw01.IntsRead', WHERE WHAT IT READS IS OF BULK AT MOST 1048576: true; the input reads as it did. -/
def intsReadUptoRow : OpenClaim := { program := "ytlefjhicjmkonaa", sum := "6c6095ac981e2395b591046002426a879ade27a1e8c25f01edf50b82204bbbd9", func := "stagehand/stagehandlaw01.IntsRead", spec := "intsRead", unfollowed := true, recurses := true, apart := false, narrowed := true }
def IntsReadUptoSaid : Prop := intsReadUptoRow.holds Try.pinned (OpenSpec.upto intsReadSpec)

/-- 'stagehandlaw01.IntsShift', WHERE WHAT IT READS IS OF BULK AT MOST 1048576: true; the input reads as it did. -/
def intsShiftUptoRow : OpenClaim := { program := "ytlefjhicjmkonaa", sum := "6c6095ac981e2395b591046002426a879ade27a1e8c25f01edf50b82204bbbd9", func := "stagehand/stagehandlaw01.IntsShift", spec := "intsShift", unfollowed := true, recurses := true, apart := false, narrowed := true }
def IntsShiftUptoSaid : Prop := intsShiftUptoRow.holds Try.pinned (OpenSpec.upto intsShiftSpec)

/-- 'stagehandlaw01.IntsOrder', WHERE WHAT IT READS IS OF BULK AT MOST 1048576: true; the input reads as it did. -/
def intsOrderUptoRow : OpenClaim := { program := "ytlefjhicjmkonaa", sum := "6c6095ac981e2395b591046002426a879ade27a1e8c25f01edf50b82204bbbd9", func := "stagehand/stagehandlaw01.IntsOrder", spec := "intsOrder", unfollowed := true, recurses := true, apart := false, narrowed := true }
def IntsOrderUptoSaid : Prop := intsOrderUptoRow.holds Try.pinned (OpenSpec.upto intsOrderSpec)

/-- 'stagehandlaw01.IntsDivide', WHERE WHAT IT READS IS OF BULK AT MOST 1048576: true; the input reads as it did. -/
def intsDivideUptoRow : OpenClaim := { program := "ytlefjhicjmkonaa", sum := "6c6095ac981e2395b591046002426a879ade27a1e8c25f01edf50b82204bbbd9", func := "stagehand/stagehandlaw01.IntsDivide", spec := "intsDivide", unfollowed := true, recurses := true, apart := false, narrowed := true }
def IntsDivideUptoSaid : Prop := intsDivideUptoRow.holds Try.pinned (OpenSpec.upto intsDivideSpec)

/-- 'stagehandlaw01.IntsAdd', WHERE WHAT IT READS IS OF BULK AT MOST 1048576: true; the input reads as it did. -/
def intsAddUptoRow : OpenClaim := { program := "ytlefjhicjmkonaa", sum := "6c6095ac981e2395b591046002426a879ade27a1e8c25f01edf50b82204bbbd9", func := "stagehand/stagehandlaw01.IntsAdd", spec := "intsAdd", unfollowed := true, recurses := true, apart := false, narrowed := true }
def IntsAddUptoSaid : Prop := intsAddUptoRow.holds Try.pinned (OpenSpec.upto intsAddSpec)

/-- 'stagehandlaw01.IntsBack', WHERE WHAT IT READS IS OF BULK AT MOST 1048576: true; the input reads as it did. -/
def intsBackUptoRow : OpenClaim := { program := "ytlefjhicjmkonaa", sum := "6c6095ac981e2395b591046002426a879ade27a1e8c25f01edf50b82204bbbd9", func := "stagehand/stagehandlaw01.IntsBack", spec := "intsBack", unfollowed := true, recurses := true, apart := false, narrowed := true }
def IntsBackUptoSaid : Prop := intsBackUptoRow.holds Try.pinned (OpenSpec.upto intsBackSpec)

end Rows
end Go.Proofs.Ytlefjhicjmkonaa
