/-
  A region that draws its order, by an invariant over what has come up. No program in sight.
-/
import Derived.Great.BuildSlice
import Derived.Below
import Derived.Orders
import Derived.WalkKit
namespace Go.Proofs.YthmpobimmbmddaaGreatDoor
open Go.RowKit
set_option linter.unusedVariables false
set_option linter.unusedSimpArgs false

def leftOf : List Bool → Nat
  | [] => 0
  | b :: l => (if b then 0 else 1) + leftOf l
theorem leftOf_set : ∀ (l : List Bool) (i : Nat), l[i]? = some false → leftOf (l.set i true) + 1 = leftOf l
  | [], i, h => by simp at h
  | b :: l, 0, h => by
    simp at h
    subst h
    show 0 + leftOf l + 1 = 1 + leftOf l
    omega
  | b :: l, i + 1, h => by
    have := leftOf_set l i (by simpa using h)
    show (if b then 0 else 1) + leftOf (l.set i true) + 1 = (if b then 0 else 1) + leftOf l
    omega
theorem leftOf_zero : ∀ (l : List Bool), leftOf l = 0 → ∀ (i : Nat) b, l[i]? = some b → b = true
  | [], _, i, b, h => by simp at h
  | b :: l, h0, 0, c, h => by
    simp at h
    subst h
    cases b with
    | true => rfl
    | false => have : 1 + leftOf l = 0 := h0; omega
  | b :: l, h0, i + 1, c, h => leftOf_zero l (by have : (if b then 0 else 1) + leftOf l = 0 := h0; omega) i c (by simpa using h)
theorem leftOf_rep : ∀ n : Nat, leftOf (List.replicate n false) = n
  | 0 => rfl
  | n + 1 => by
    show 1 + leftOf (List.replicate n false) = n + 1
    rw [leftOf_rep n]; omega
section
variable {P : Program} {ops : Array Oper} {Q : Exit → Act → World → Prop} {md : Region.Mode}
theorem ready_mem {listed : Array Bool} {i : Nat} (h : i ∈ Region.ready md ops listed) : i < ops.size ∧ listed.getD i true = false ∧ ∀ o, ops[i]? = some o → ∀ e ∈ o.after, Region.binds md e = true → listed.getD e.on false = true := by
  unfold Region.ready at h
  obtain ⟨h1, h2⟩ := List.mem_filter.1 h
  rw [Bool.and_eq_true] at h2
  refine ⟨List.mem_range.1 h1, by simpa using h2.1, fun o ho e he hb => ?_⟩
  have h3 := h2.2
  rw [ho] at h3
  have h4 := Array.all_eq_true_iff_forall_mem.1 (show o.after.all (fun e => !Region.binds md e || listed.getD e.on false) = true from h3) e he
  rw [hb] at h4
  exact h4
theorem mem_ready {listed : Array Bool} {i : Nat} {o : Oper} (hi : ops[i]? = some o) (h1 : listed.getD i true = false) (h2 : ∀ e ∈ o.after, Region.binds md e = true → listed.getD e.on false = true) : i ∈ Region.ready md ops listed := by
  unfold Region.ready
  refine List.mem_filter.2 ⟨List.mem_range.2 (Array.getElem?_eq_some_iff.1 hi).1, ?_⟩
  rw [Bool.and_eq_true, hi]
  refine ⟨by rw [h1]; rfl, ?_⟩
  show o.after.all _ = true
  refine Array.all_eq_true_iff_forall_mem.2 fun e he => ?_
  cases hb : Region.binds md e with
  | false => rfl
  | true => rw [h2 e he hb]; rfl
/-- THE LAW: what holds at the start and is kept by each operation that may come up holds at the end. -/
theorem wpAny_inv (Inv : Array Bool → Act → World → Prop)
    (hstep : ∀ listed a w i, listed.size = ops.size → Inv listed a w → i ∈ Region.ready md ops listed → wpOp P ops Q i (fun a' w' => Inv (listed.setIfInBounds i true) a' w') a w)
    (hend : ∀ listed a w, listed.size = ops.size → Inv listed a w → Region.ready md ops listed = [] → Q .normal a w) :
    ∀ (fuel : Nat) (listed : Array Bool) (a : Act) (w : World), listed.size = ops.size → leftOf listed.toList ≤ fuel → Inv listed a w → wpAny P md ops Q fuel listed a w
  | 0, listed, a, w, hs, hl, hi => by
    have hr : Region.ready md ops listed = [] := List.eq_nil_iff_forall_not_mem.2 fun i hi => by
      obtain ⟨h1, h2, -⟩ := ready_mem hi
      have h3 : listed[i]? = some false := by
        rw [← hs] at h1
        rw [Array.getElem?_eq_getElem h1]
        rw [Array.getD_eq_getD_getElem?, Array.getElem?_eq_getElem h1] at h2
        exact congrArg some h2
      have := leftOf_zero listed.toList (Nat.le_zero.1 hl) i false (by rw [Array.getElem?_toList]; exact h3)
      cases this
    exact ⟨hr, hend _ _ _ hs hi hr⟩
  | fuel + 1, listed, a, w, hs, hl, hi => by
    refine ⟨fun h => hend _ _ _ hs hi h, fun i hr => ?_⟩
    refine wpOp_mono (fun a' w' h' => ?_) (hstep _ _ _ _ hs hi hr)
    obtain ⟨h1, h2, -⟩ := ready_mem hr
    have h3 : listed[i]? = some false := by
      rw [← hs] at h1
      rw [Array.getElem?_eq_getElem h1]
      rw [Array.getD_eq_getD_getElem?, Array.getElem?_eq_getElem h1] at h2
      exact congrArg some h2
    refine wpAny_inv Inv hstep hend fuel _ a' w' (by simpa using hs) ?_ h'
    have h4 := leftOf_set listed.toList i (by rw [Array.getElem?_toList]; exact h3)
    rw [Array.toList_setIfInBounds]
    omega
/-- Each operation waits for earlier ones alone. -/
def backOk (md : Region.Mode) (ops : Array Oper) : Bool := (List.range ops.size).all fun i => match ops[i]? with
  | some o => o.after.all fun e => !Region.binds md e || decide (e.on < i)
  | none => true
theorem all_listed {listed : Array Bool} (hb : backOk md ops = true) (hs : listed.size = ops.size) (hr : Region.ready md ops listed = []) : ∀ i, i < ops.size → listed.getD i false = true := by
  intro i
  induction i using Nat.strongRecOn with
  | _ i ih =>
    intro hi
    cases h : listed.getD i false with
    | true => rfl
    | false =>
      exfalso
      have h1 : listed.getD i true = false := by
        rw [Array.getD_eq_getD_getElem?, Array.getElem?_eq_getElem (by omega)] at h ⊢
        exact h
      have ho : ops[i]? = some ops[i] := Array.getElem?_eq_getElem hi
      have hm : i ∈ Region.ready md ops listed := mem_ready ho h1 fun e he hbe => by
        have h2 := List.all_eq_true.1 hb i (List.mem_range.2 hi)
        rw [ho] at h2
        have h3 := Array.all_eq_true_iff_forall_mem.1 (show ops[i].after.all (fun e => !Region.binds md e || decide (e.on < i)) = true from h2) e he
        rw [hbe] at h3
        have h4 : e.on < i := of_decide_eq_true h3
        exact ih _ h4 (Nat.lt_trans h4 hi)
      rw [hr] at hm
      cases hm
/-- The region, by an invariant. -/
theorem wp_region_inv {id : Nat} {ops' : Array Oper} {a : Act} {w : World} (Inv : Array Bool → Act → World → Prop) (hm : P.follows .mixedOrders = true) (he : ops' = ops) (hb : backOk .any ops = true)
    (h0 : Inv (Array.replicate ops.size false) a w.drew)
    (hstep : ∀ listed a w i, listed.size = ops.size → Inv listed a w → i ∈ Region.ready .any ops listed → wpOp P ops Q i (fun a' w' => Inv (listed.setIfInBounds i true) a' w') a w)
    (hend : ∀ listed a w, Inv listed a w → (∀ i, i < ops.size → listed.getD i false = true) → Q .normal a w) : (Code.region id ops' true).wp P Q a w := by
  subst he
  refine wp_region_any hm ?_
  refine wpAny_inv Inv hstep (fun l a w hs hi hr => hend l a w hi (all_listed hb hs hr)) _ _ _ _ (by simp) ?_ h0
  rw [Array.toList_replicate, leftOf_rep]
  exact Nat.le_refl _
theorem wpOp_of {i : Nat} {o : Oper} {K : Act → World → Prop} {a : Act} {w : World} (ho : ops[i]? = some o) (hg : o.guard = none) (h : o.wp P a w K Q) : wpOp P ops Q i K a w := by
  unfold wpOp
  rw [ho]
  have hw : Region.wanted o (yielded ops a.tmps) = true := by simp [Region.wanted, hg]
  simp only [hw, if_true]
  exact .inl h
theorem wp_move {o : Oper} {a : Act} {w : World} {K : Act → World → Prop} (x : Operand) (ho : o.op = .move x) (h : K (a.put o.dst (a.eval x)) w) : o.wp P a w K Q := by
  unfold Oper.wp
  have : (execOp a.eval o).run P w = .ok (.value (a.eval x)) w := by simp [execOp, ho]
  rw [this]
  exact h
theorem wp_assign {o : Oper} {a : Act} {w : World} {K : Act → World → Prop} (x : Operand) (ho : o.op = .assign x) (h : K (a.put o.dst (a.eval x)) w) : o.wp P a w K Q := by
  unfold Oper.wp
  have : (execOp a.eval o).run P w = .ok (.value (a.eval x)) w := by simp [execOp, ho]
  rw [this]
  exact h
theorem wp_build' {o : Oper} {a : Act} {w : World} {K : Act → World → Prop} (t : TypeId) (parts : Array (Nat × Operand)) (ho : o.op = .build t parts) (cells : Array Value) (hb : P.built t (parts.map fun (i, x) => (i, a.eval x)).toList = some cells) (h : K (a.put o.dst (.agg cells)) w) : o.wp P a w K Q := by
  unfold Oper.wp execOp
  simp only [ho, Sem.run_bind, run_build w t _ _ hb, Result.andThen_ok]
  exact h
theorem wp_call' {o : Oper} {a : Act} {w : World} {K : Act → World → Prop} (f : FuncId) (args : Array Value) (hrun : (execOp a.eval o).run P w = .ok (.enter f args) w) (R : Value → World → Prop)
    (hc : Calls P f args w fun e w'' => ∃ v, e = .returned v ∧ R v w'') (h : ∀ v w'', R v w'' → K (a.put o.dst v) w'') : o.wp P a w K Q := by
  unfold Oper.wp
  rw [hrun, Oper.upon_enter]
  refine hc.mono fun e w'' hh => ?_
  obtain ⟨v, rfl, hv⟩ := hh
  exact h _ _ hv
theorem eval_put (a : Act) (d t : Tmp) (v : Value) (h : d < a.tmps.size) : (a.put (some d) v).eval (.tmp t) = if t = d then v else a.eval (.tmp t) := by
  show (a.tmps.setIfInBounds d v).getD t undef = if t = d then v else a.tmps.getD t undef
  rw [Array.getD_eq_getD_getElem?, Array.getD_eq_getD_getElem?, Array.getElem?_setIfInBounds]
  by_cases c : d = t
  · subst c; simp [h]
  · rw [if_neg c, if_neg (fun e => c e.symm)]
/-- The operations of a region, read off the code. -/
def regOps (id : Nat) : Code → Array Oper
  | .region i ops _ => if i = id then ops else #[]
  | .seq a b => let x := regOps id a; if x.size = 0 then regOps id b else x
  | .block _ b => regOps id b
  | _ => #[]
end
end Go.Proofs.YthmpobimmbmddaaGreatDoor
