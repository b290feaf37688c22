/-
  A set of names with arities, as the map that tables makes: the laws of its look-up and its store.
-/
import Derived.Test.YtghgbikmlbildaaDoorCFields
import Derived.Maps.OwnOps
import Derived.Maps.OwnSet
import Derived.Maps.Views
import Derived.DeepKeys4
import Derived.WideKeyPair
namespace Go.Proofs.YtghgbikmlbildaaDoor
open Go.RowKit Go.Maps Go.WideMaps
set_option linter.unusedVariables false
set_option linter.unusedSimpArgs false

theorem sigLaid : laidOutB Tryd.prog = true := by kernel_rfl
theorem sigLaw : Keyed Tryd.prog 83 := Keyed.of_law (deep_law_laid sigLaid (m := 2) (by omega) (of_decide_eq_true (by kernel_rfl)) (by kernel_rfl) (by rw [Tryd.underlying83]))
theorem zeroBool (w : World) : (zeroValue 4).run Tryd.prog w = .ok (.bool false) w := by kernel_rfl
/-- The key of a name with an arity. -/
def sigKey (s : ByteArray) (a : Int) : Lit := .string (keyBytes [.string s.data.toList, .int .i64 a])
theorem sigKeyType : Tryd.prog.keyType 83 = true := by kernel_rfl
theorem sigCells : Tryd.prog.cellsOf 83 = 2 := by kernel_rfl
theorem strCells1 : Tryd.prog.cellsOf 9 = 1 := by kernel_rfl
theorem intCells1 : Tryd.prog.cellsOf 3 = 1 := by kernel_rfl
theorem sigTypes : ∃ m, Tryd.prog.types.size + 1 = m + 1 + 1 := ⟨Tryd.prog.types.size - 1, by have : 0 < Tryd.prog.types.size := of_decide_eq_true (by kernel_rfl); omega⟩
theorem keyOf_sig {s : ByteArray} {a : Int} (hs : s.size ≤ maxLen) (ha : I64 a) : keyOf Tryd.prog 83 (.agg #[.string s, .int .i64 a]) = some (sigKey s a) := by
  have hwf : (Lit.int .i64 a).wf = true := by
    obtain ⟨h1, h2⟩ := ha
    simp [Lit.wf, IntKind.min, IntKind.max, IntKind.bits, IntKind.signed]; omega
  unfold keyOf sigKey
  simp only [Tryd.underlying83]
  rw [if_pos (by simp [sigKeyType, Value.formed, Tryd.underlying83, sigCells])]
  obtain ⟨m, hm⟩ := sigTypes
  rw [hm]
  unfold Program.keyLits
  simp only [Tryd.underlying83, Value.cells]
  simp [Program.keyLits, Tryd.underlying9, Tryd.underlying3, strCells1, intCells1, hs, hwf]
  exact sigCells.symm
theorem sigKey_inj {s s' : ByteArray} {a a' : Int} (hs : s.size ≤ maxLen) (hs' : s'.size ≤ maxLen) (ha : I64 a) (ha' : I64 a') (h : sigKey s a = sigKey s' a') : s = s' ∧ a = a' := by
  have h1 := keyOf_sig hs ha
  have h2 := keyOf_sig hs' ha'
  rw [← h] at h2
  have h3 := sigLaw.inj h1 h2
  injection h3 with h3
  have h4 := congrArg Array.toList h3
  simp at h4
  exact h4
/-- Block M is a map of at most n entries that holds these names with arities. -/
def SigIs (w : World) (M n : Nat) (S : ByteArray → Int → Bool) : Prop := ∃ D : DataW Unit, w.ownsMap Tryd.prog 83 (plainElem Tryd.prog 4) M n D ∧ ∀ (s : ByteArray) (a : Int), s.size ≤ maxLen → I64 a → D.atKey (sigKey s a) (.lit (.bool false)) = .lit (.bool (S s a))
theorem SigIs.kept {w w' : World} {M n : Nat} {S : ByteArray → Int → Bool} (h : SigIs w M n S) (hb : Below w.heap.size w w') : SigIs w' M n S := by
  obtain ⟨D, h1, h2⟩ := h
  exact ⟨D, h1.kept (row := none) ⟨hb.os, hb.tape, hb.output, hb.size, fun k hk _ => hb.block k hk⟩ (by simp), h2⟩
theorem SigIs.lt {w : World} {M n : Nat} {S : ByteArray → Int → Bool} (h : SigIs w M n S) : M < w.heap.size := h.elim fun _ h => h.1.lt
theorem sig_made (w : World) : SigIs (w.alloc (.map #[] 0)) w.heap.size 0 (fun _ _ => false) := ⟨_, World.ownsMap_made w _ _ _, fun s a _ _ => rfl⟩
theorem plainElem_bool_inv {P : Program} {e : TypeId} (he : P.underlying e = some .bool) {v : Value} {z : DataW Unit × List MemPlace} (h : plainElem P e v = some z) : ∃ c, v = .bool c ∧ z = (.lit (.bool c), []) := by
  unfold plainElem at h
  rw [he] at h
  cases v <;> simp at h
  exact ⟨_, rfl, h.symm⟩
set_option maxRecDepth 100000 in
theorem sig_look {w : World} {M n : Nat} {S : ByteArray → Int → Bool} (h : SigIs w M n S) {s : ByteArray} {a : Int} (hs : s.size ≤ maxLen) (ha : I64 a) :
    (Instr.lookup 81 (.map (some M)) (.agg #[.string s, .int .i64 a]) false).run Tryd.prog w = .ok (.bool (S s a)) w := by
  obtain ⟨D, h1, h2⟩ := h
  obtain ⟨v, ps, hrun, hv⟩ := h1.lookup sigLaw Tryd.underlying81 (zeroBool w) (plainElem_bool Tryd.underlying4 false) (keyOf_sig hs ha)
  obtain ⟨c, rfl, hc⟩ := plainElem_bool_inv Tryd.underlying4 hv
  rw [h2 s a hs ha] at hc
  have e1 : (DataW.lit (.bool (S s a)) : DataW Unit) = .lit (.bool c) := congrArg Prod.fst hc
  have e2 : S s a = c := by injection e1 with e1; injection e1
  rw [hrun, e2]
theorem sig_put {w w' : World} {M n : Nat} {S : ByteArray → Int → Bool} {D : DataW Unit} (h1 : w.ownsMap Tryd.prog 83 (plainElem Tryd.prog 4) M n D) (h2 : ∀ (s : ByteArray) (a : Int), s.size ≤ maxLen → I64 a → D.atKey (sigKey s a) (.lit (.bool false)) = .lit (.bool (S s a)))
    {s : ByteArray} {a : Int} (hs : s.size ≤ maxLen) (ha : I64 a) (h3 : w'.ownsMap Tryd.prog 83 (plainElem Tryd.prog 4) M (n + 1) (D.put (sigKey s a) (.lit (.bool true)))) : SigIs w' M (n + 1) (fun s' a' => (s.data.toList == s'.data.toList && a == a') || S s' a') := by
  refine ⟨_, h3, fun s' a' hs' ha' => ?_⟩
  by_cases e : s' = s ∧ a' = a
  · obtain ⟨rfl, rfl⟩ := e
    rw [atKey_put_same h1.isMap (sigLaw.key (keyOf_sig hs ha))]
    simp
  · rw [atKey_put_other (fun h => e (sigKey_inj hs' hs ha' ha h)), h2 s' a' hs' ha']
    have : (s.data.toList == s'.data.toList && a == a') = false := by
      cases h : (s.data.toList == s'.data.toList && a == a') with
      | false => rfl
      | true =>
        rw [Bool.and_eq_true, beq_iff_eq, beq_iff_eq] at h
        exact absurd ⟨ByteArray.ext (Array.toList_inj.1 h.1.symm), h.2.symm⟩ e
    simp only [this, Bool.false_or]
end Go.Proofs.YtghgbikmlbildaaDoor
