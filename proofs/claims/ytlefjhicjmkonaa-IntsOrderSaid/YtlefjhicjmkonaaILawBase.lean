/-
  What the laws' walks share: a call's blocks told from the law's own beginning on; the bounds of a 64-bit argument.
-/
import Derived.Test.YtlefjhicjmkonaaIShown
import Derived.Test.YtlefjhicjmkonaaIRefMul
import Derived.Test.YtlefjhicjmkonaaIRefText
import Derived.Test.YtlefjhicjmkonaaIRefRead2
import Derived.Test.YtlefjhicjmkonaaIRound
import Derived.OpenShut
namespace Go.Proofs.Ytlefjhicjmkonaa
open Go.RowKit

theorem Calls.below {P : Program} {f : FuncId} {args : Array Value} {R : Ending} {w0 w1 : World} (h : Calls P f args w1 fun e w' => e = R ∧ Below w1.heap.size w1 w') (hb : Below w0.heap.size w0 w1) :
    Calls P f args w1 fun e w' => e = R ∧ Below w0.heap.size w0 w' := h.mono fun _ _ ⟨he, hw⟩ => ⟨he, hb.trans (hw.mono hb.size)⟩
theorem wf64 {a : Int} (h : (Lit.int .i64 a).wf = true) : I64 a := bounds_i64 h

end Go.Proofs.Ytlefjhicjmkonaa
