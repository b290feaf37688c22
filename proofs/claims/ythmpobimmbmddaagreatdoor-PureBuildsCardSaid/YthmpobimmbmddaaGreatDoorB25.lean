/-
  A region that draws its order and at its end writes what it has read: what is read may be taken first, if it is as it was until a certain operation that waits for the reading. No program in sight. A region that draws its order: two operations of which either may come first. No program in sight. stagehandkit.Same of terms without items; Kept, KeptList: the walks (printed by gen_pkept.py). The kit's SameExc of equal exceptions without items: the walk. What both Bits return is flat: a term and an exception without items. Great: is a list of terms large? The walk.
-/
import Derived.OrdersHeld
import Derived.Deep.RegionHeld
import Derived.Lib.Hide
import Derived.KernelRfl
import Derived.Tactics
import Derived.BigQuiet
import Derived.Test.YthmpobimmbmddaaGreatDoorB01
import Derived.Test.YthmpobimmbmddaaGreatDoorB05
import Derived.Test.YthmpobimmbmddaaGreatDoorB11
import Derived.Test.YthmpobimmbmddaaGreatDoorB24
namespace Go.Proofs.YthmpobimmbmddaaGreatDoor
open Go.RowKit
set_option linter.unusedVariables false
set_option linter.unusedSimpArgs false

section
variable {P : Program} {ops : Array Oper} {Q : Exit → Act → World → Prop} {md : Region.Mode} {S1 S2 : World → Prop} {p : Nat}
/-- Whatever order is picked: S1 holds behind every operation, S2 until operation p has come up. -/
def wpAnyP (P : Program) (md : Region.Mode) (ops : Array Oper) (Q : Exit → Act → World → Prop) (p : Nat) (S1 S2 : World → Prop) : Nat → Array Bool → Act → World → Prop
  | 0, listed, a, w => Region.ready md ops listed = [] ∧ Q .normal a w
  | fuel + 1, listed, a, w => (Region.ready md ops listed = [] → Q .normal a w) ∧
    ∀ i ∈ Region.ready md ops listed, wpOp P ops Q i (fun a' w' => (S1 w' ∧ ((listed.setIfInBounds i true).getD p false = false → S2 w')) ∧ wpAnyP P md ops Q p S1 S2 fuel (listed.setIfInBounds i true) a' w') a w
theorem wpAny_of_P : ∀ (fuel : Nat) (listed : Array Bool) (a : Act) (w : World), wpAnyP P md ops Q p S1 S2 fuel listed a w → wpAny P md ops Q fuel listed a w
  | 0, _, _, _, h => h
  | fuel + 1, _, _, _, h => ⟨h.1, fun i hi => wpOp_mono (fun a' w' h' => wpAny_of_P fuel _ a' w' h'.2) (h.2 i hi)⟩
/-- What has come up has come up behind what it waits for. -/
def ClosedL (md : Region.Mode) (ops : Array Oper) (listed : Array Bool) : Prop := ∀ j o, listed.getD j false = true → ops[j]? = some o → ∀ e ∈ o.after, Region.binds md e = true → listed.getD e.on false = true
def closedB (md : Region.Mode) (ops : Array Oper) (listed : Array Bool) : Bool := (List.range ops.size).all fun j => !listed.getD j false || (match ops[j]? with
  | some o => o.after.all fun e => !Region.binds md e || listed.getD e.on false
  | none => true)
theorem closedB_spec {listed : Array Bool} (h : closedB md ops listed = true) : ClosedL md ops listed := fun j o hj ho e he hb => by
  have h1 := List.all_eq_true.1 h j (List.mem_range.2 (Array.getElem?_eq_some_iff.1 ho).1)
  rw [hj, ho] at h1
  have h2 := Array.all_eq_true_iff_forall_mem.1 (show o.after.all (fun e => !Region.binds md e || listed.getD e.on false) = true from by simpa using h1) e he
  rw [hb] at h2
  simpa using h2
theorem ClosedL.set {listed : Array Bool} {j : Nat} (h : ClosedL md ops listed) (hj : j ∈ Region.ready md ops listed) : ClosedL md ops (listed.setIfInBounds j true) := fun k o hk ho e he hb => by
  by_cases c : j = k
  · subst c
    obtain ⟨-, o', ho', hall⟩ := Go.mem_ready.1 hj
    rw [ho] at ho'
    injection ho' with ho'
    subst ho'
    exact getD_set_true (hall e he hb)
  · rw [getD_set_ne false c] at hk
    exact getD_set_true (h k o hk ho e he hb)
def waitsB (md : Region.Mode) (ops : Array Oper) (j i : Nat) : Bool := match ops[j]? with
  | some o => o.after.any fun e => Region.binds md e && e.on == i
  | none => false
/-- j waits for i through those named. -/
def needsB (md : Region.Mode) (ops : Array Oper) : List Nat → Nat → Nat → Bool
  | [], j, i => waitsB md ops j i
  | k :: r, j, i => waitsB md ops j k && needsB md ops r k i
theorem waits_listed {listed : Array Bool} {i j : Nat} (h : waitsB md ops j i = true) (hall : ∀ o, ops[j]? = some o → ∀ e ∈ o.after, Region.binds md e = true → listed.getD e.on false = true) : listed.getD i false = true := by
  unfold waitsB at h
  cases ho : ops[j]? with
  | none => rw [ho] at h; cases h
  | some o =>
    rw [ho] at h
    obtain ⟨e, he, hb⟩ := Array.any_eq_true'.1 (show o.after.any (fun e => Region.binds md e && e.on == i) = true from h)
    rw [Bool.and_eq_true, beq_iff_eq] at hb
    rw [← hb.2]
    exact hall o ho e he hb.1
theorem needs_listed {listed : Array Bool} (hc : ClosedL md ops listed) {i : Nat} : ∀ (r : List Nat) (j : Nat), needsB md ops r j i = true → (∀ o, ops[j]? = some o → ∀ e ∈ o.after, Region.binds md e = true → listed.getD e.on false = true) → listed.getD i false = true
  | [], j, h, hall => waits_listed h hall
  | k :: r, j, h, hall => by
    unfold needsB at h
    rw [Bool.and_eq_true] at h
    have hk := waits_listed h.1 hall
    exact needs_listed hc r k h.2 fun o ho e he hb => hc k o hk ho e he hb
theorem wpAnyP_first {i : Nat} {oi : Oper} {v : Value} {SA : World → Prop} (hi : ops[i]? = some oi) (hsel : ∀ (j : Nat) (o : Oper) cs b, ops[j]? = some o → o.op ≠ .select cs b)
    (hQ : ∀ c a w, Q (.panic c) (a.put oi.dst v) w → Q (.panic c) a w) (hip : i ≠ p) (h0 : ∀ w, S1 w → S2 w → SA w)
    (h1 : (∀ w, S1 w → SA w) ∨ ∃ f, needsB md ops f p i = true) :
    ∀ (fuel : Nat) (listed : Array Bool) (a : Act) (w : World), ClosedL md ops listed →
      (∀ j oj, ops[j]? = some oj → j ≠ i → listed.getD j true = false → (∀ e ∈ oj.after, Region.binds md e = true → e.on ≠ i) → oi.apart ops oj = true) →
      i ∈ Region.ready md ops listed → (listed.getD p false = true → ∀ w, S1 w → SA w) → YieldsIf P ops SA oi v a → S1 w → (listed.getD p false = false → S2 w) →
      wpAnyP P md ops Q p S1 S2 fuel (listed.setIfInBounds i true) (a.put oi.dst v) w → wpAnyP P md ops Q p S1 S2 (fuel + 1) listed a w := by
  intro fuel
  have key : ∀ (listed : Array Bool) (w : World), (listed.getD p false = true → ∀ w, S1 w → SA w) → S1 w → (listed.getD p false = false → S2 w) → SA w := fun listed w hp hs1 hs2 => by
    cases hb : listed.getD p false with
    | true => exact hp hb w hs1
    | false => exact h0 w hs1 (hs2 hb)
  have hbit : ∀ listed : Array Bool, (listed.setIfInBounds i true).getD p false = listed.getD p false := fun listed => getD_set_ne false hip
  induction fuel with
  | zero =>
    intro listed a w _ _ hr hp hy hs1 hs2 H
    refine ⟨fun h => (by rw [h] at hr; cases hr), fun j hj => ?_⟩
    by_cases hji : j = i
    · subst hji; exact hy.wpOp hi (key listed w hp hs1 hs2) ⟨⟨hs1, by rw [hbit]; exact hs2⟩, H⟩
    · have := ready_mono hj hji
      rw [H.1] at this
      cases this
  | succ fuel ih =>
    intro listed a w hcl hfree hr hp hy hs1 hs2 H
    refine ⟨fun h => (by rw [h] at hr; cases hr), fun j hj => ?_⟩
    by_cases hji : j = i
    · subst hji; exact hy.wpOp hi (key listed w hp hs1 hs2) ⟨⟨hs1, by rw [hbit]; exact hs2⟩, H⟩
    · have h2 := H.2 j (ready_mono hj hji)
      obtain ⟨hjun, oj, hoj, hall⟩ := Go.mem_ready.1 hj
      have hnot : ∀ e ∈ oj.after, Region.binds md e = true → e.on ≠ i := fun e he hb heq => by
        have h3 := hall e he hb
        have h4 := (Go.mem_ready.1 hr).1
        rw [heq] at h3
        rcases Nat.lt_or_ge i listed.size with h' | h'
        · simp [h'] at h3 h4; rw [h4] at h3; cases h3
        · simp [Array.getElem?_eq_none h'] at h3
      have h3 := wpOp_putIf hoj (hfree j oj hoj hji hjun hnot) (fun cs b => hsel i oi cs b hi) (fun cs b => hsel j oj cs b hoj) hQ hy h2
      have hfree' : ∀ k ok, ops[k]? = some ok → k ≠ i → (listed.setIfInBounds j true).getD k true = false → (∀ e ∈ ok.after, Region.binds md e = true → e.on ≠ i) → oi.apart ops ok = true := fun k ok hk hki hun hno => by
        refine hfree k ok hk hki ?_ hno
        by_cases hjk : j = k
        · subst hjk; exact hjun
        · rw [getD_set_ne true hjk] at hun; exact hun
      have hp' : (listed.setIfInBounds j true).getD p false = true → ∀ w, S1 w → SA w := fun hb => by
        by_cases hjp : j = p
        · rcases h1 with h1 | ⟨f, hf⟩
          · exact h1
          · subst hjp
            have h3 := needs_listed hcl f j hf fun o ho e he hb => by
              rw [hoj] at ho
              injection ho with ho
              subst ho
              exact hall e he hb
            have h4 := (Go.mem_ready.1 hr).1
            rcases Nat.lt_or_ge i listed.size with h' | h'
            · simp [h'] at h3 h4; rw [h4] at h3; cases h3
            · simp [Array.getElem?_eq_none h'] at h3
        · rw [getD_set_ne false hjp] at hb; exact hp hb
      have hsw : ((listed.setIfInBounds i true).setIfInBounds j true).getD p false = (listed.setIfInBounds j true).getD p false := by
        rw [Array.setIfInBounds_comm _ _ (Ne.symm hji)]; exact hbit _
      refine wpOp_mono (fun a' w' h4 => ?_) h3
      obtain ⟨hy', ⟨hs1', hs2'⟩, hrest⟩ := h4
      rw [hsw] at hs2'
      refine ⟨⟨hs1', hs2'⟩, ih (listed.setIfInBounds j true) a' w' (hcl.set hj) hfree' (ready_mono hr (Ne.symm hji)) hp' hy' hs1' hs2' ?_⟩
      rw [Array.setIfInBounds_comm _ _ hji]
      exact hrest
/-- A reading that holds until p, which waits for it, perhaps through others. -/
theorem wpAnyP_early (r : List Nat) {i : Nat} {oi : Oper} {v : Value} {fuel : Nat} {listed : Array Bool} {a : Act} {w : World} (hi : ops[i]? = some oi)
    (hs : Region.noSelect ops = true) (hf : Region.free md ops listed i = true) (hr : (Region.ready md ops listed).contains i = true) (hp : (i != p && (!listed.getD p false && (closedB md ops listed && needsB md ops r p i))) = true)
    (hQ : ∀ c a w, Q (.panic c) (a.put oi.dst v) w → Q (.panic c) a w) (hy : YieldsIf P ops (fun w => S1 w ∧ S2 w) oi v a) (hS : S1 w ∧ S2 w)
    (h : wpAnyP P md ops Q p S1 S2 fuel (listed.setIfInBounds i true) (a.put oi.dst v) w) : wpAnyP P md ops Q p S1 S2 (fuel + 1) listed a w := by
  rw [Bool.and_eq_true, Bool.and_eq_true, Bool.and_eq_true] at hp
  obtain ⟨h1, h2, h3, h4⟩ := hp
  have hl : listed.getD p false = false := by simpa using h2
  exact wpAnyP_first (SA := fun w => S1 w ∧ S2 w) hi (Region.noSelect_spec hs) hQ (by simpa using h1) (fun w a b => ⟨a, b⟩) (.inr ⟨_, h4⟩) fuel listed a w (closedB_spec h3) (Region.free_spec hi hf) (by simpa using hr) (fun h => by rw [hl] at h; cases h) hy hS.1 (fun _ => hS.2) h
/-- A reading that holds throughout. -/
theorem wpAnyP_late {i : Nat} {oi : Oper} {v : Value} {fuel : Nat} {listed : Array Bool} {a : Act} {w : World} (hi : ops[i]? = some oi)
    (hs : Region.noSelect ops = true) (hf : Region.free md ops listed i = true) (hr : (Region.ready md ops listed).contains i = true) (hp : (i != p && (!listed.getD p false && closedB md ops listed)) = true)
    (hQ : ∀ c a w, Q (.panic c) (a.put oi.dst v) w → Q (.panic c) a w) (hy : YieldsIf P ops S1 oi v a) (hS : S1 w ∧ S2 w)
    (h : wpAnyP P md ops Q p S1 S2 fuel (listed.setIfInBounds i true) (a.put oi.dst v) w) : wpAnyP P md ops Q p S1 S2 (fuel + 1) listed a w := by
  rw [Bool.and_eq_true, Bool.and_eq_true] at hp
  have hl : listed.getD p false = false := by simpa using hp.2.1
  exact wpAnyP_first (SA := S1) hi (Region.noSelect_spec hs) hQ (by simpa using hp.1) (fun w a _ => a) (.inl fun _ h => h) fuel listed a w (closedB_spec hp.2.2) (Region.free_spec hi hf) (by simpa using hr) (fun h => by rw [hl] at h; cases h) hy hS.1 (fun _ => hS.2) h
/-- One operation alone may come up, ahead of p. -/
theorem wpAnyP_one {i : Nat} {o : Oper} {fuel : Nat} {listed : Array Bool} {a : Act} {w : World} (hr : Region.ready md ops listed = [i]) (ho : ops[i]? = some o)
    (h : ∀ K : Act → World → Prop, Hid (∀ a' w', (S1 w' ∧ S2 w') → wpAnyP P md ops Q p S1 S2 fuel (listed.setIfInBounds i true) a' w' → K a' w') → (if Region.wanted o (yielded ops a.tmps) = true then Oper.wp P o a w K Q else K (a.put o.dst undef) w)) :
    wpAnyP P md ops Q p S1 S2 (fuel + 1) listed a w := by
  refine ⟨fun h0 => (by rw [hr] at h0; cases h0), fun j hj => ?_⟩
  rw [hr, List.mem_singleton] at hj
  subst hj
  have h1 := h (fun a' w' => (S1 w' ∧ ((listed.setIfInBounds j true).getD p false = false → S2 w')) ∧ wpAnyP P md ops Q p S1 S2 fuel (listed.setIfInBounds j true) a' w') (Lib.hid fun a' w' h1 h2 => ⟨⟨h1.1, fun _ => h1.2⟩, h2⟩)
  unfold wpOp
  rw [ho]
  show if Region.wanted o (yielded ops a.tmps) = true then _ else _
  split
  · rename_i hw; rw [if_pos hw] at h1; exact .inl h1
  · rename_i hw; rw [if_neg hw] at h1; exact h1
/-- The same, at p or behind it. -/
theorem wpAnyP_end {i : Nat} {o : Oper} {fuel : Nat} {listed : Array Bool} {a : Act} {w : World} (hr : Region.ready md ops listed = [i]) (ho : ops[i]? = some o) (hp : (listed.setIfInBounds i true).getD p false = true)
    (h : ∀ K : Act → World → Prop, Hid (∀ a' w', S1 w' → wpAnyP P md ops Q p S1 S2 fuel (listed.setIfInBounds i true) a' w' → K a' w') → (if Region.wanted o (yielded ops a.tmps) = true then Oper.wp P o a w K Q else K (a.put o.dst undef) w)) :
    wpAnyP P md ops Q p S1 S2 (fuel + 1) listed a w := by
  refine ⟨fun h0 => (by rw [hr] at h0; cases h0), fun j hj => ?_⟩
  rw [hr, List.mem_singleton] at hj
  subst hj
  have h1 := h (fun a' w' => (S1 w' ∧ ((listed.setIfInBounds j true).getD p false = false → S2 w')) ∧ wpAnyP P md ops Q p S1 S2 fuel (listed.setIfInBounds j true) a' w') (Lib.hid fun a' w' h1 h2 => ⟨⟨h1, fun h3 => (by rw [hp] at h3; cases h3)⟩, h2⟩)
  unfold wpOp
  rw [ho]
  show if Region.wanted o (yielded ops a.tmps) = true then _ else _
  split
  · rename_i hw; rw [if_pos hw] at h1; exact .inl h1
  · rename_i hw; rw [if_neg hw] at h1; exact h1
/-- The same four, what a program can find left to it. -/
theorem wpAnyP_earlyA (r : List Nat) (i : Nat) {oi : Oper} {v : Value} {fuel : Nat} {listed : Array Bool} {a : Act} {w : World} (hS : S1 w ∧ S2 w)
    (h : wpAnyP P md ops Q p S1 S2 fuel (listed.setIfInBounds i true) (a.put oi.dst v) w) (hi : ops[i]? = some oi := by exact rfl)
    (hs : Region.noSelect ops = true := by kernel_rfl) (hf : Region.free md ops listed i = true := by kernel_rfl) (hr : (Region.ready md ops listed).contains i = true := by kernel_rfl) (hp : (i != p && (!listed.getD p false && (closedB md ops listed && needsB md ops r p i))) = true := by kernel_rfl)
    (hQ : ∀ c a w, Q (.panic c) (a.put oi.dst v) w → Q (.panic c) a w := by exact fun _ _ _ h => h)
    (hy : YieldsIf P ops (fun w => S1 w ∧ S2 w) oi v a := by (refine Or.inl ⟨by rfl, ?_⟩; intro w hSw; (try dsimp only at hSw); go_simp; try with_reducible rfl)) : wpAnyP P md ops Q p S1 S2 (fuel + 1) listed a w :=
  wpAnyP_early r hi hs hf hr hp hQ hy hS h
theorem wpAnyP_lateA (i : Nat) {oi : Oper} {v : Value} {fuel : Nat} {listed : Array Bool} {a : Act} {w : World} (hS : S1 w ∧ S2 w)
    (h : wpAnyP P md ops Q p S1 S2 fuel (listed.setIfInBounds i true) (a.put oi.dst v) w) (hi : ops[i]? = some oi := by exact rfl)
    (hs : Region.noSelect ops = true := by kernel_rfl) (hf : Region.free md ops listed i = true := by kernel_rfl) (hr : (Region.ready md ops listed).contains i = true := by kernel_rfl) (hp : (i != p && (!listed.getD p false && closedB md ops listed)) = true := by kernel_rfl)
    (hQ : ∀ c a w, Q (.panic c) (a.put oi.dst v) w → Q (.panic c) a w := by exact fun _ _ _ h => h)
    (hy : YieldsIf P ops S1 oi v a := by (refine Or.inl ⟨by rfl, ?_⟩; intro w hSw; (try dsimp only at hSw); go_simp; try with_reducible rfl)) : wpAnyP P md ops Q p S1 S2 (fuel + 1) listed a w :=
  wpAnyP_late hi hs hf hr hp hQ hy hS h
theorem wpAnyP_oneA (i : Nat) {o : Oper} {fuel : Nat} {listed : Array Bool} {a : Act} {w : World}
    (h : ∀ K : Act → World → Prop, Hid (∀ a' w', (S1 w' ∧ S2 w') → wpAnyP P md ops Q p S1 S2 fuel (listed.setIfInBounds i true) a' w' → K a' w') → (if Region.wanted o (yielded ops a.tmps) = true then Oper.wp P o a w K Q else K (a.put o.dst undef) w))
    (hr : Region.ready md ops listed = [i] := by kernel_rfl) (ho : ops[i]? = some o := by exact rfl) :
    wpAnyP P md ops Q p S1 S2 (fuel + 1) listed a w := wpAnyP_one hr ho h
theorem wpAnyP_endA (i : Nat) {o : Oper} {fuel : Nat} {listed : Array Bool} {a : Act} {w : World}
    (h : ∀ K : Act → World → Prop, Hid (∀ a' w', S1 w' → wpAnyP P md ops Q p S1 S2 fuel (listed.setIfInBounds i true) a' w' → K a' w') → (if Region.wanted o (yielded ops a.tmps) = true then Oper.wp P o a w K Q else K (a.put o.dst undef) w))
    (hr : Region.ready md ops listed = [i] := by kernel_rfl) (ho : ops[i]? = some o := by exact rfl) (hp : (listed.setIfInBounds i true).getD p false = true := by kernel_rfl) :
    wpAnyP P md ops Q p S1 S2 (fuel + 1) listed a w := wpAnyP_end hr ho hp h
theorem wpAnyP_done {listed : Array Bool} {a : Act} {w : World} (hr : Region.ready md ops listed = []) (h : Q .normal a w) : ∀ fuel, wpAnyP P md ops Q p S1 S2 fuel listed a w
  | 0 => ⟨hr, h⟩
  | _ + 1 => ⟨fun _ => h, by rw [hr]; simp⟩
/-- THE BEGINNING. -/
theorem wp_region_P {id : Nat} {a : Act} {w : World} (p : Nat) (S1 S2 : World → Prop) (hm : P.follows .mixedOrders = true) (hS : S1 w.drew ∧ S2 w.drew)
    (h : S1 w.drew ∧ S2 w.drew → wpAnyP P .any ops Q p S1 S2 ops.size (Array.replicate ops.size false) a w.drew) : (Code.region id ops true).wp P Q a w :=
  wp_region_any hm (wpAny_of_P _ _ _ _ (h hS))
end
end Go.Proofs.YthmpobimmbmddaaGreatDoor
namespace Go.Proofs.YthmpobimmbmddaaGreatDoor
open Go.RowKit
set_option linter.unusedVariables false
set_option linter.unusedSimpArgs false

section
variable {P : Program} {ops : Array Oper} {Q : Exit → Act → World → Prop} {md : Region.Mode} {S1 : World → Prop} {p : Nat}
/-- Two operations may come up, either first. -/
theorem wpAnyP_two {i j : Nat} {oi oj : Oper} {fuel : Nat} {listed : Array Bool} {a : Act} {w : World} (hr : Region.ready md ops listed = [i, j]) (hi : ops[i]? = some oi) (hj : ops[j]? = some oj) (gi : oi.guard = none) (gj : oj.guard = none)
    (h1 : ∀ K : Act → World → Prop, Hid (∀ a' w', S1 w' → wpAnyP P md ops Q p S1 (fun _ => True) fuel (listed.setIfInBounds i true) a' w' → K a' w') → Oper.wp P oi a w K Q)
    (h2 : ∀ K : Act → World → Prop, Hid (∀ a' w', S1 w' → wpAnyP P md ops Q p S1 (fun _ => True) fuel (listed.setIfInBounds j true) a' w' → K a' w') → Oper.wp P oj a w K Q) :
    wpAnyP P md ops Q p S1 (fun _ => True) (fuel + 1) listed a w := by
  refine ⟨fun h0 => (by rw [hr] at h0; cases h0), fun k hk => ?_⟩
  rw [hr] at hk
  rcases List.mem_cons.1 hk with rfl | hk
  · exact wpOp_of hi gi (h1 _ (Lib.hid fun a' w' x y => ⟨⟨x, fun _ => trivial⟩, y⟩))
  · rw [List.mem_singleton] at hk
    subst hk
    exact wpOp_of hj gj (h2 _ (Lib.hid fun a' w' x y => ⟨⟨x, fun _ => trivial⟩, y⟩))
end
end Go.Proofs.YthmpobimmbmddaaGreatDoor
namespace Go.Proofs.YthmpobimmbmddaaGreatDoor
open Go.RowKit
set_option linter.unusedVariables false
set_option linter.unusedSimpArgs false

set_option maxRecDepth 100000 in
theorem samelist_nil (so so0 : Option Addr) (c c0 : Nat) (w : World) : Calls Tryz.prog 37 #[.slice so 0 c, .slice so0 0 c0] w fun e w' => e = .returned (.bool true) ∧ w' = w := by
  go_in
  go_wp2_with fail
  go_loop [5] (fun v => v = .int .i64 0) (fun _ => 0)
  case atStart => rfl
  case round =>
    obtain rfl := hrel
    go_wp2_with fail
    go_ret
    exact ⟨rfl, rfl⟩
set_option maxRecDepth 100000 in
set_option maxHeartbeats 4000000 in
theorem same_flat (k i g ar bt : Int) (nm fn by' : ByteArray) (so so0 : Option Addr) (c c0 : Nat) (w : World) : Calls Tryz.prog 13 #[.agg #[.int .i64 k, .int .i64 i, .int .i64 g, .string nm, .string fn, .int .i64 ar, .slice so 0 c, .string by', .int .i64 bt], .agg #[.int .i64 k, .int .i64 i, .int .i64 g, .string nm, .string fn, .int .i64 ar, .slice so0 0 c0, .string by', .int .i64 bt]] w fun e w' => e = .returned (.bool true) ∧ Below w.heap.size w w' := by
  obtain ⟨e0, e1, eb, es⟩ := new_two w (.cells #[.int .i64 k, .int .i64 i, .int .i64 g, .string nm, .string fn, .int .i64 ar, .slice so 0 c, .string by', .int .i64 bt] 28) (.cells #[.int .i64 k, .int .i64 i, .int .i64 g, .string nm, .string fn, .int .i64 ar, .slice so0 0 c0, .string by', .int .i64 bt] 28)
  have HB := Lib.hid eb
  go_in
  go_upto_region 1 with fail
  generalize (w.alloc _).alloc _ = W at *
  obtain ⟨a0, a1, a2, a3, a4, a5, a6, a7, a8⟩ := nine_cells e0
  obtain ⟨b0, b1, b2, b3, b4, b5, b6, b7, b8⟩ := nine_cells e1
  clear e0 e1 eb es
  go_wp2_with (first | (go_at_call 37; refine (samelist_nil _ _ _ _ _).mono ?_; rintro e w1 ⟨rfl, rfl⟩) | fail)
  go_ret
  exact ⟨rfl, HB.out⟩
def KeptP (f : Nat) : Prop := ∀ (B0 lo hi : Nat) (t : Tm) (so so0 : Option Addr) (c c0 : Nat) (w : World), LentL w B0 (LentT w B0 f) lo hi so c so0 t.items → capF (f + 1) t ≤ 1000000 → hi ≤ w.heap.size → B0 ≤ w.heap.size →
  Calls Tryz.prog 15 #[.agg #[.int .i64 t.kind, .int .i64 t.int, .int .i64 t.gen, .string t.name, .string t.func, .int .i64 t.arity, .slice so t.items.length c, .string t.bytes, .int .i64 t.bits], .agg #[.int .i64 t.kind, .int .i64 t.int, .int .i64 t.gen, .string t.name, .string t.func, .int .i64 t.arity, .slice so0 t.items.length c0, .string t.bytes, .int .i64 t.bits]] w fun e w' => e = .returned (.bool true) ∧ Below w.heap.size w w'
def KeptsP (f : Nat) : Prop := ∀ (B0 lo hi : Nat) (l : List Tm) (so so0 : Option Addr) (c c0 : Nat) (w : World), LentL w B0 (LentT w B0 f) lo hi so c so0 l → sumN (l.map (capF f)) + l.length ≤ 1000000 → hi ≤ w.heap.size → B0 ≤ w.heap.size →
  Calls Tryz.prog 38 #[.slice so l.length c, .slice so0 l.length c0] w fun e w' => e = .returned (.bool true) ∧ Below w.heap.size w w'
set_option maxRecDepth 100000 in
set_option maxHeartbeats 4000000 in
theorem kept_of (f : Nat) (HC : KeptsP f) : KeptP f := by
  intro B0 lo hi t so so0 c c0 w hs hcap h1 h2
  obtain ⟨e0, e1, eb, es⟩ := new_two w (.cells #[.int .i64 t.kind, .int .i64 t.int, .int .i64 t.gen, .string t.name, .string t.func, .int .i64 t.arity, .slice so t.items.length c, .string t.bytes, .int .i64 t.bits] 28) (.cells #[.int .i64 t.kind, .int .i64 t.int, .int .i64 t.gen, .string t.name, .string t.func, .int .i64 t.arity, .slice so0 t.items.length c0, .string t.bytes, .int .i64 t.bits] 28)
  have HB := Lib.hid eb; have HS := Lib.hid hs; have HCC := Lib.hid HC; have HH := Lib.hid (And.intro h1 h2)
  have HCAP : Hid (sumN (t.items.map (capF f)) + t.items.length ≤ 1000000) := Lib.hid (by have : 300 + t.items.length + sumN (t.items.map (capF f)) ≤ 1000000 := hcap; omega)
  have HE0 := Lib.hid e0; have HE1 := Lib.hid e1; have HES := Lib.hid es
  clear hs HC hcap h1 h2 eb e0 e1 es
  go_in
  go_upto_region 1 with fail
  generalize (w.alloc _).alloc _ = W at *
  have a6 : W.cell? ⟨w.heap.size, 6, none⟩ = some (.slice so t.items.length c) := by rw [cell_of_row _ _ _ _ _ _ HE0.out]; rfl
  have b6 : W.cell? ⟨w.heap.size + 1, 6, none⟩ = some (.slice so0 t.items.length c0) := by rw [cell_of_row _ _ _ _ _ _ HE1.out]; rfl
  have za : W.frozen? ⟨w.heap.size, 6, none⟩ = false := frozen_of_row _ _ 6 _ _ HE0.out
  have zb : W.frozen? ⟨w.heap.size + 1, 6, none⟩ = false := frozen_of_row _ _ 6 _ _ HE1.out
  go_quiet (fail)
  have hr0 : (W.drewN nq).heap[w.heap.size]? = _ := HE0.out
  have hr1 : (W.drewN nq).heap[w.heap.size + 1]? = _ := HE1.out
  have hbd : Below w.heap.size w (W.drewN nq) := below_drewN HB.out nq
  have hsd : (W.drewN nq).heap.size = w.heap.size + 2 := HES.out
  clear a6 b6 za zb
  go_upto_region 2 with fail
  generalize W.drewN nq = V at *
  have za : V.frozen? ⟨w.heap.size, 6, none⟩ = false := frozen_of_row _ _ 6 _ _ hr0
  have zb : V.frozen? ⟨w.heap.size + 1, 6, none⟩ = false := frozen_of_row _ _ 6 _ _ hr1
  have a6 : V.cell? ⟨w.heap.size, 6, none⟩ = some (.slice so t.items.length c) := by rw [cell_of_row _ _ _ _ _ _ hr0]; rfl
  have b6 : V.cell? ⟨w.heap.size + 1, 6, none⟩ = some (.slice so0 t.items.length c0) := by rw [cell_of_row _ _ _ _ _ _ hr1]; rfl
  have g0 : (World.setCell V ⟨w.heap.size, 6, none⟩ (.slice none 0 0)).heap[w.heap.size]? = some (.cells #[.int .i64 t.kind, .int .i64 t.int, .int .i64 t.gen, .string t.name, .string t.func, .int .i64 t.arity, .slice none 0 0, .string t.bytes, .int .i64 t.bits] 28 (0, 0)) := heap_setCell_same _ _ 6 _ _ _ hr0
  have g1 : (World.setCell V ⟨w.heap.size, 6, none⟩ (.slice none 0 0)).heap[w.heap.size + 1]? = _ := (heap_setCell_other V ⟨w.heap.size, 6, none⟩ (w.heap.size + 1) _ (by simp)).trans hr1
  have g2 : (World.setCell (World.setCell V ⟨w.heap.size, 6, none⟩ (.slice none 0 0)) ⟨w.heap.size + 1, 6, none⟩ (.slice none 0 0)).heap[w.heap.size + 1]? = some (.cells #[.int .i64 t.kind, .int .i64 t.int, .int .i64 t.gen, .string t.name, .string t.func, .int .i64 t.arity, .slice none 0 0, .string t.bytes, .int .i64 t.bits] 28 (0, 0)) := heap_setCell_same _ _ 6 _ _ _ g1
  have g3 : (World.setCell (World.setCell V ⟨w.heap.size, 6, none⟩ (.slice none 0 0)) ⟨w.heap.size + 1, 6, none⟩ (.slice none 0 0)).heap[w.heap.size]? = some (.cells #[.int .i64 t.kind, .int .i64 t.int, .int .i64 t.gen, .string t.name, .string t.func, .int .i64 t.arity, .slice none 0 0, .string t.bytes, .int .i64 t.bits] 28 (0, 0)) := (heap_setCell_other _ ⟨w.heap.size + 1, 6, none⟩ w.heap.size _ (by simp)).trans g0
  have hb2 : Below w.heap.size w (World.setCell (World.setCell V ⟨w.heap.size, 6, none⟩ (.slice none 0 0)) ⟨w.heap.size + 1, 6, none⟩ (.slice none 0 0)) := (hbd.setCell (p := ⟨w.heap.size, 6, none⟩) (Nat.le_refl _) _).setCell (p := ⟨w.heap.size + 1, 6, none⟩) (Nat.le_succ _) _
  clear hr0 hr1 hbd g0 g1
  go_upto_region 3 with fail
  generalize World.setCell (World.setCell _ _ _) _ _ = V2 at *
  clear a6 b6 za zb
  obtain ⟨a0, a1, a2, a3, a4, a5, a6, a7, a8⟩ := nine_cells g3
  obtain ⟨b0, b1, b2, b3, b4, b5, b6, b7, b8⟩ := nine_cells g2
  have HB2 := Lib.hid hb2
  have hS := same_flat t.kind t.int t.gen t.arity t.bits t.name t.func t.bytes none none 0 0 V2
  have HSM := Lib.hid hS
  have HKL := Lib.hid (fun wx (hx : Below V2.heap.size V2 wx) => HCC.out B0 lo hi t.items so so0 c c0 wx (HS.out.below (below_next hb2 hx) HH.out.1 HH.out.2) HCAP.out (by have := HH.out; have := (below_next hb2 hx).size; omega) (by have := HH.out; have := (below_next hb2 hx).size; omega))
  clear g2 g3 hb2 hS
  go_wp2_with (first | (go_at_call 13; refine HSM.out.mono ?_; rintro e w5 ⟨rfl, hb5⟩) | (go_at_call 38; refine (HKL.out _ hb5).mono ?_; rintro e w6 ⟨rfl, hb6⟩) | fail)
  go_ret
  exact ⟨rfl, below_next (below_next HB2.out hb5) hb6⟩
set_option maxRecDepth 100000 in
set_option maxHeartbeats 4000000 in
theorem kepts_of (f : Nat) (HC : ∀ g, f = g + 1 → KeptP g) : KeptsP f := by
  intro B0 lo hi l so so0 c c0 w hs hcap h1 h2
  have HS := Lib.hid hs; have HCC := Lib.hid HC; have HH := Lib.hid (And.intro h1 h2); have HCAP := Lib.hid hcap
  have hl : l.length ≤ 1000000 := by omega
  clear HC hcap
  rcases hs with ⟨rfl, rfl, rfl⟩ | ⟨hn, g, arr, a, e, rfl, g1, g2, hg, hc, hv, m1, m2, hx⟩
  · have hq := eql_none
    go_in
    go_wp2_with fail
    go_ret
    exact ⟨rfl, Below.refl _ _⟩
  · obtain ⟨ad, rfl⟩ : ∃ ad, so0 = some ad := by cases so0 with | none => exact absurd rfl hn | some ad => exact ⟨ad, rfl⟩
    have hq := eql_some
    have t1 : decide ((c : Int) < (l.length : Int) + 2) = false := decide_eq_false (by omega)
    have HG := Lib.hid hg; have HM1 := Lib.hid m1; have HM2 := Lib.hid m2; have HX := Lib.hid hx
    have HE : Hid (∀ k, k < l.length → ∀ {q}, q < e k → q < w.heap.size) := Lib.hid fun k hk q hq => by have := (hv k hk).2.2.1; omega
    have HEH : Hid (∀ k, k < l.length → e k ≤ w.heap.size) := Lib.hid fun k hk => by have := (hv k hk).2.2.1; omega
    clear hg m1 m2 hx hv hn g1 g2
    go_in
    go_upto_region 8 with fail
    have HKK : Hid (∀ wx, Below w.heap.size w wx → wx.cell? ⟨g, l.length * 9, none⟩ = some (.int .i64 (-7)) ∧ wx.cell? ⟨g, l.length * 9 + 1, none⟩ = some (.int .i64 4711) ∧ wx.cell? ⟨g, l.length * 9 + 2, none⟩ = some (.int .i64 0) ∧ wx.cell? ⟨g, l.length * 9 + 3, none⟩ = some (.string ⟨#[115, 112, 97, 114, 101]⟩) ∧ wx.cell? ⟨g, l.length * 9 + 4, none⟩ = some (.string ⟨#[]⟩) ∧ wx.cell? ⟨g, l.length * 9 + 5, none⟩ = some (.int .i64 0) ∧ wx.cell? ⟨g, l.length * 9 + 6, none⟩ = some (.slice none 0 0) ∧ wx.cell? ⟨g, l.length * 9 + 7, none⟩ = some (.string ⟨#[]⟩) ∧ wx.cell? ⟨g, l.length * 9 + 8, none⟩ = some (.int .i64 0) ∧ wx.cell? ⟨g, (l.length + 1) * 9, none⟩ = some (.int .i64 (-7)) ∧ wx.cell? ⟨g, (l.length + 1) * 9 + 1, none⟩ = some (.int .i64 4711) ∧ wx.cell? ⟨g, (l.length + 1) * 9 + 2, none⟩ = some (.int .i64 0) ∧ wx.cell? ⟨g, (l.length + 1) * 9 + 3, none⟩ = some (.string ⟨#[115, 112, 97, 114, 101]⟩) ∧ wx.cell? ⟨g, (l.length + 1) * 9 + 4, none⟩ = some (.string ⟨#[]⟩) ∧ wx.cell? ⟨g, (l.length + 1) * 9 + 5, none⟩ = some (.int .i64 0) ∧ wx.cell? ⟨g, (l.length + 1) * 9 + 6, none⟩ = some (.slice none 0 0) ∧ wx.cell? ⟨g, (l.length + 1) * 9 + 7, none⟩ = some (.string ⟨#[]⟩) ∧ wx.cell? ⟨g, (l.length + 1) * 9 + 8, none⟩ = some (.int .i64 0)) := Lib.hid fun wx hx => by
      have hr := (hx.block _ (lt_of_row HG.out)).trans HG.out
      have c1 : ∀ i, i < 9 → wx.cell? ⟨g, l.length * 9 + i, none⟩ = markRow[i]? := fun i hi => (cell_of_row _ _ _ _ _ _ hr).trans (HM1.out i hi)
      have c2 : ∀ i, i < 9 → wx.cell? ⟨g, (l.length + 1) * 9 + i, none⟩ = markRow[i]? := fun i hi => (cell_of_row _ _ _ _ _ _ hr).trans (HM2.out i hi)
      exact ⟨c1 0 (by decide), c1 1 (by decide), c1 2 (by decide), c1 3 (by decide), c1 4 (by decide), c1 5 (by decide), c1 6 (by decide), c1 7 (by decide), c1 8 (by decide), c2 0 (by decide), c2 1 (by decide), c2 2 (by decide), c2 3 (by decide), c2 4 (by decide), c2 5 (by decide), c2 6 (by decide), c2 7 (by decide), c2 8 (by decide)⟩
    have HD0 := Lib.hid (Below.refl w.heap.size w).drew
    have t2 : (l.length : Int) < (l.length : Int) + 2 := by omega
    have t4 : IntKind.i64.wrap ((l.length : Int) + 1) = (l.length : Int) + 1 := by rw [IntKind.wrap_i64]; omega
    have t5 : 0 ≤ (l.length : Int) + 1 := by omega
    have t6 : ((l.length : Int) + 1).toNat = l.length + 1 := by omega
    have t3 : (l.length : Int) + 1 < (l.length : Int) + 2 := by omega
    refine wp_region_P 19 (fun w' => w'.cell? ⟨g, l.length * 9, none⟩ = some (.int .i64 (-7)) ∧ w'.cell? ⟨g, l.length * 9 + 1, none⟩ = some (.int .i64 4711) ∧ w'.cell? ⟨g, l.length * 9 + 2, none⟩ = some (.int .i64 0) ∧ w'.cell? ⟨g, l.length * 9 + 3, none⟩ = some (.string ⟨#[115, 112, 97, 114, 101]⟩) ∧ w'.cell? ⟨g, l.length * 9 + 4, none⟩ = some (.string ⟨#[]⟩) ∧ w'.cell? ⟨g, l.length * 9 + 5, none⟩ = some (.int .i64 0) ∧ w'.cell? ⟨g, l.length * 9 + 6, none⟩ = some (.slice none 0 0) ∧ w'.cell? ⟨g, l.length * 9 + 7, none⟩ = some (.string ⟨#[]⟩) ∧ w'.cell? ⟨g, l.length * 9 + 8, none⟩ = some (.int .i64 0) ∧ w'.cell? ⟨g, (l.length + 1) * 9, none⟩ = some (.int .i64 (-7)) ∧ w'.cell? ⟨g, (l.length + 1) * 9 + 1, none⟩ = some (.int .i64 4711) ∧ w'.cell? ⟨g, (l.length + 1) * 9 + 2, none⟩ = some (.int .i64 0) ∧ w'.cell? ⟨g, (l.length + 1) * 9 + 3, none⟩ = some (.string ⟨#[115, 112, 97, 114, 101]⟩) ∧ w'.cell? ⟨g, (l.length + 1) * 9 + 4, none⟩ = some (.string ⟨#[]⟩) ∧ w'.cell? ⟨g, (l.length + 1) * 9 + 5, none⟩ = some (.int .i64 0) ∧ w'.cell? ⟨g, (l.length + 1) * 9 + 6, none⟩ = some (.slice none 0 0) ∧ w'.cell? ⟨g, (l.length + 1) * 9 + 7, none⟩ = some (.string ⟨#[]⟩) ∧ w'.cell? ⟨g, (l.length + 1) * 9 + 8, none⟩ = some (.int .i64 0)) (fun w' => True) (by kernel_rfl) ⟨HKK.out _ HD0.out, trivial⟩ (fun hHeld => ?_)
    refine wpAnyP_lateA 0 hHeld ?_
    simp only [Act.put, List.setIfInBounds_toArray, List.set_cons_zero, List.set_cons_succ, List.getElem_toArray, List.getElem_cons_zero, List.getElem_cons_succ]
    refine wpAnyP_lateA 1 hHeld ?_
    simp only [Act.put, List.setIfInBounds_toArray, List.set_cons_zero, List.set_cons_succ, List.getElem_toArray, List.getElem_cons_zero, List.getElem_cons_succ]
    refine wpAnyP_lateA 2 hHeld ?_
    simp only [Act.put, List.setIfInBounds_toArray, List.set_cons_zero, List.set_cons_succ, List.getElem_toArray, List.getElem_cons_zero, List.getElem_cons_succ]
    refine wpAnyP_lateA 3 hHeld ?_
    simp only [Act.put, List.setIfInBounds_toArray, List.set_cons_zero, List.set_cons_succ, List.getElem_toArray, List.getElem_cons_zero, List.getElem_cons_succ]
    refine wpAnyP_lateA 4 hHeld ?_
    simp only [Act.put, List.setIfInBounds_toArray, List.set_cons_zero, List.set_cons_succ, List.getElem_toArray, List.getElem_cons_zero, List.getElem_cons_succ]
    refine wpAnyP_oneA 5 fun KK hK => ?_
    go_simp
    refine (mark_any _).mono ?_
    rintro e w1 ⟨rfl, hb1⟩
    have HD1 := Lib.hid (HD0.out.trans (hb1.mono HD0.out.size))
    clear hb1
    refine hK.out _ _ ⟨HKK.out _ HD1.out, trivial⟩ ?_
    clear hK KK
    try simp only [Act.put, List.setIfInBounds_toArray, List.set_cons_zero, List.set_cons_succ, List.getElem_toArray, List.getElem_cons_zero, List.getElem_cons_succ]
    refine wpAnyP_oneA 6 fun KK hK => ?_
    go_simp
    refine (same_flat (-7) 4711 0 0 0 _ _ _ none none 0 0 _).mono ?_
    rintro e w2 ⟨rfl, hb2⟩
    have HD2 := Lib.hid (HD1.out.trans (hb2.mono HD1.out.size))
    clear hb2
    refine hK.out _ _ ⟨HKK.out _ HD2.out, trivial⟩ ?_
    clear hK KK
    try simp only [Act.put, List.setIfInBounds_toArray, List.set_cons_zero, List.set_cons_succ, List.getElem_toArray, List.getElem_cons_zero, List.getElem_cons_succ]
    refine wpAnyP_lateA 7 ⟨HKK.out _ HD2.out, trivial⟩ ?_
    simp only [Act.put, List.setIfInBounds_toArray, List.set_cons_zero, List.set_cons_succ, List.getElem_toArray, List.getElem_cons_zero, List.getElem_cons_succ]
    refine wpAnyP_lateA 8 ⟨HKK.out _ HD2.out, trivial⟩ ?_
    simp only [Act.put, List.setIfInBounds_toArray, List.set_cons_zero, List.set_cons_succ, List.getElem_toArray, List.getElem_cons_zero, List.getElem_cons_succ]
    refine wpAnyP_lateA 9 ⟨HKK.out _ HD2.out, trivial⟩ ?_
    simp only [Act.put, List.setIfInBounds_toArray, List.set_cons_zero, List.set_cons_succ, List.getElem_toArray, List.getElem_cons_zero, List.getElem_cons_succ]
    refine wpAnyP_lateA 10 ⟨HKK.out _ HD2.out, trivial⟩ ?_
    simp only [Act.put, List.setIfInBounds_toArray, List.set_cons_zero, List.set_cons_succ, List.getElem_toArray, List.getElem_cons_zero, List.getElem_cons_succ]
    refine wpAnyP_lateA 11 ⟨HKK.out _ HD2.out, trivial⟩ ?_
    simp only [Act.put, List.setIfInBounds_toArray, List.set_cons_zero, List.set_cons_succ, List.getElem_toArray, List.getElem_cons_zero, List.getElem_cons_succ]
    refine wpAnyP_lateA 12 ⟨HKK.out _ HD2.out, trivial⟩ ?_
    simp only [Act.put, List.setIfInBounds_toArray, List.set_cons_zero, List.set_cons_succ, List.getElem_toArray, List.getElem_cons_zero, List.getElem_cons_succ]
    refine wpAnyP_lateA 13 ⟨HKK.out _ HD2.out, trivial⟩ ?_
    simp only [Act.put, List.setIfInBounds_toArray, List.set_cons_zero, List.set_cons_succ, List.getElem_toArray, List.getElem_cons_zero, List.getElem_cons_succ]
    refine wpAnyP_lateA 14 ⟨HKK.out _ HD2.out, trivial⟩ ?_
    simp only [Act.put, List.setIfInBounds_toArray, List.set_cons_zero, List.set_cons_succ, List.getElem_toArray, List.getElem_cons_zero, List.getElem_cons_succ]
    refine wpAnyP_oneA 15 fun KK hK => ?_
    go_simp
    refine (mark_any _).mono ?_
    rintro e w3 ⟨rfl, hb3⟩
    have HD3 := Lib.hid (HD2.out.trans (hb3.mono HD2.out.size))
    clear hb3
    refine hK.out _ _ ⟨HKK.out _ HD3.out, trivial⟩ ?_
    clear hK KK
    try simp only [Act.put, List.setIfInBounds_toArray, List.set_cons_zero, List.set_cons_succ, List.getElem_toArray, List.getElem_cons_zero, List.getElem_cons_succ]
    refine wpAnyP_oneA 16 fun KK hK => ?_
    go_simp
    refine (same_flat (-7) 4711 0 0 0 _ _ _ none none 0 0 _).mono ?_
    rintro e w4 ⟨rfl, hb4⟩
    have HD4 := Lib.hid (HD3.out.trans (hb4.mono HD3.out.size))
    clear hb4
    refine hK.out _ _ ⟨HKK.out _ HD4.out, trivial⟩ ?_
    clear hK KK
    try simp only [Act.put, List.setIfInBounds_toArray, List.set_cons_zero, List.set_cons_succ, List.getElem_toArray, List.getElem_cons_zero, List.getElem_cons_succ]
    refine wpAnyP_lateA 17 ⟨HKK.out _ HD4.out, trivial⟩ ?_
    simp only [Act.put, List.setIfInBounds_toArray, List.set_cons_zero, List.set_cons_succ, List.getElem_toArray, List.getElem_cons_zero, List.getElem_cons_succ]
    refine wpAnyP_lateA 18 ⟨HKK.out _ HD4.out, trivial⟩ ?_
    simp only [Act.put, List.setIfInBounds_toArray, List.set_cons_zero, List.set_cons_succ, List.getElem_toArray, List.getElem_cons_zero, List.getElem_cons_succ]
    refine wpAnyP_done (by kernel_rfl) ?_ _
    clear t1 t2 t3 t4 t5 t6 HKK HM1 HM2 hHeld hq
    go_wp2_with fail
    go_loopw [6] (fun iv wr => ∃ k : Nat, k ≤ l.length ∧ iv = .int .i64 k ∧ Hid (Below w.heap.size w wr)) (fun iv _ => l.length - (intOf iv).toNat)
    case atStart => exact ⟨0, Nat.zero_le _, rfl, HD4⟩
    case round =>
      obtain ⟨k, hk, rfl, HBr⟩ := hrel
      rename World => wr
      by_cases hlt : k < l.length
      · cases f with
        | zero =>
          obtain ⟨cs, cs0, _, _, _, _, h⟩ := HX.out k hlt
          exact h.elim
        | succ f =>
          have t1 : decide ((k : Int) < (l.length : Int)) = true := decide_eq_true (by omega)
          have hct : capF (f + 1) l[k] ≤ 1000000 := by have := cap_mem (f := f + 1) (List.getElem_mem hlt); have := HCAP.out; omega
          obtain ⟨cs, cs0, _, _, k3, ⟨b, off, hao, k5, k6⟩, k7⟩ := HX.out k hlt
          obtain rfl := Option.some.inj hao
          have hr := (HBr.out.block _ (lt_of_row HG.out)).trans HG.out
          have hk7 := k7.kept (w' := wr) (B0' := B0) (lo' := a k) (hi' := e k) (fun q _ q2 => HBr.out.block q (HE.out k hlt q2)) (fun q q2 => HBr.out.block q (by have := HH.out; omega)) (Nat.le_refl _) (Nat.le_refl _) (Nat.le_refl _)
          have HEK := Lib.hid (HEH.out k hlt)
          generalize l[k] = t at *
          obtain ⟨⟨so, c2, so0, c02, rfl, rfl, hL⟩, hok⟩ := hk7
          have p9 : ∀ i, i < 9 → wr.cell? ⟨g, k * 9 + i, none⟩ = (tmRow t so c2)[i]? := fun i hi => (cell_of_row _ _ _ _ _ _ hr).trans (k3 i hi)
          have r9 : ∀ i, i < 9 → wr.cell? ⟨b, off + k * 9 + i, none⟩ = (tmRow t so0 c02)[i]? := fun i hi => (HBr.out.cell (p := ⟨b, off + k * 9 + i, none⟩) (by have := HH.out; show b < w.heap.size; omega)).trans (k6 i hi)
          have p0 : wr.cell? ⟨g, k * 9, none⟩ = some (.int .i64 t.kind) := p9 0 (by decide)
          have p1 : wr.cell? ⟨g, k * 9 + 1, none⟩ = some (.int .i64 t.int) := p9 1 (by decide)
          have p2 : wr.cell? ⟨g, k * 9 + 2, none⟩ = some (.int .i64 t.gen) := p9 2 (by decide)
          have p3 : wr.cell? ⟨g, k * 9 + 3, none⟩ = some (.string t.name) := p9 3 (by decide)
          have p4 : wr.cell? ⟨g, k * 9 + 4, none⟩ = some (.string t.func) := p9 4 (by decide)
          have p5 : wr.cell? ⟨g, k * 9 + 5, none⟩ = some (.int .i64 t.arity) := p9 5 (by decide)
          have p6 : wr.cell? ⟨g, k * 9 + 6, none⟩ = some (.slice so t.items.length c2) := p9 6 (by decide)
          have p7 : wr.cell? ⟨g, k * 9 + 7, none⟩ = some (.string t.bytes) := p9 7 (by decide)
          have p8 : wr.cell? ⟨g, k * 9 + 8, none⟩ = some (.int .i64 t.bits) := p9 8 (by decide)
          have r0 : wr.cell? ⟨b, off + k * 9, none⟩ = some (.int .i64 t.kind) := r9 0 (by decide)
          have r1 : wr.cell? ⟨b, off + k * 9 + 1, none⟩ = some (.int .i64 t.int) := r9 1 (by decide)
          have r2 : wr.cell? ⟨b, off + k * 9 + 2, none⟩ = some (.int .i64 t.gen) := r9 2 (by decide)
          have r3 : wr.cell? ⟨b, off + k * 9 + 3, none⟩ = some (.string t.name) := r9 3 (by decide)
          have r4 : wr.cell? ⟨b, off + k * 9 + 4, none⟩ = some (.string t.func) := r9 4 (by decide)
          have r5 : wr.cell? ⟨b, off + k * 9 + 5, none⟩ = some (.int .i64 t.arity) := r9 5 (by decide)
          have r6 : wr.cell? ⟨b, off + k * 9 + 6, none⟩ = some (.slice so0 t.items.length c02) := r9 6 (by decide)
          have r7 : wr.cell? ⟨b, off + k * 9 + 7, none⟩ = some (.string t.bytes) := r9 7 (by decide)
          have r8 : wr.cell? ⟨b, off + k * 9 + 8, none⟩ = some (.int .i64 t.bits) := r9 8 (by decide)
          have HKP := Lib.hid (fun wx (hx : Below wr.heap.size wr wx) => HCC.out f rfl B0 (a k) (e k) t so so0 c2 c02 wx (hL.below hx (by have := HEK.out; have := HBr.out.size; omega) (by have := HH.out; have := HBr.out.size; omega)) hct (by have := HEK.out; have := HBr.out.size; have := hx.size; omega) (by have := HH.out; have := HBr.out.size; have := hx.size; omega))
          have HDr := Lib.hid (Below.refl wr.heap.size wr).drew
          clear k3 k5 k6 k7 hr hL hok p9 r9 hct hao
          have t2 : (k : Int) < (l.length : Int) := by omega
          go_upto_region 13 with fail
          refine wp_region_P 8 (fun w' => True) (fun w' => w' = wr.drew) (by kernel_rfl) ⟨trivial, rfl⟩ (fun hHeld => ?_)
          refine wpAnyP_lateA 0 hHeld ?_
          simp only [Act.put, List.setIfInBounds_toArray, List.set_cons_zero, List.set_cons_succ, List.getElem_toArray, List.getElem_cons_zero, List.getElem_cons_succ]
          refine wpAnyP_lateA 1 hHeld ?_
          simp only [Act.put, List.setIfInBounds_toArray, List.set_cons_zero, List.set_cons_succ, List.getElem_toArray, List.getElem_cons_zero, List.getElem_cons_succ]
          refine wpAnyP_lateA 2 hHeld ?_
          simp only [Act.put, List.setIfInBounds_toArray, List.set_cons_zero, List.set_cons_succ, List.getElem_toArray, List.getElem_cons_zero, List.getElem_cons_succ]
          refine wpAnyP_earlyA [] 3 hHeld ?_
          simp only [Act.put, List.setIfInBounds_toArray, List.set_cons_zero, List.set_cons_succ, List.getElem_toArray, List.getElem_cons_zero, List.getElem_cons_succ]
          refine wpAnyP_lateA 4 hHeld ?_
          simp only [Act.put, List.setIfInBounds_toArray, List.set_cons_zero, List.set_cons_succ, List.getElem_toArray, List.getElem_cons_zero, List.getElem_cons_succ]
          refine wpAnyP_lateA 5 hHeld ?_
          simp only [Act.put, List.setIfInBounds_toArray, List.set_cons_zero, List.set_cons_succ, List.getElem_toArray, List.getElem_cons_zero, List.getElem_cons_succ]
          refine wpAnyP_lateA 6 hHeld ?_
          simp only [Act.put, List.setIfInBounds_toArray, List.set_cons_zero, List.set_cons_succ, List.getElem_toArray, List.getElem_cons_zero, List.getElem_cons_succ]
          refine wpAnyP_earlyA [] 7 hHeld ?_
          simp only [Act.put, List.setIfInBounds_toArray, List.set_cons_zero, List.set_cons_succ, List.getElem_toArray, List.getElem_cons_zero, List.getElem_cons_succ]
          refine wpAnyP_endA 8 fun KK hK => ?_
          go_simp
          refine (HKP.out _ HDr.out).mono ?_
          rintro e w5 ⟨rfl, hb5⟩
          have HB5 := Lib.hid (HBr.out.trans ((HDr.out.trans (hb5.mono HDr.out.size)).mono HBr.out.size))
          clear hb5
          refine hK.out _ _ trivial ?_
          clear hK KK
          try simp only [Act.put, List.setIfInBounds_toArray, List.set_cons_zero, List.set_cons_succ, List.getElem_toArray, List.getElem_cons_zero, List.getElem_cons_succ]
          refine wpAnyP_endA 9 fun KK hK => ?_
          go_simp
          refine hK.out _ _ trivial ?_
          clear hK KK
          try simp only [Act.put, List.setIfInBounds_toArray, List.set_cons_zero, List.set_cons_succ, List.getElem_toArray, List.getElem_cons_zero, List.getElem_cons_succ]
          refine wpAnyP_done (by kernel_rfl) ?_ _
          go_wp2_with fail
          go_roundw
          case rel => exact ⟨k + 1, by omega, by go_num, HB5⟩
          case measure => simp [intOf]; omega
      · have t1 : decide ((k : Int) < (l.length : Int)) = false := decide_eq_false (by omega)
        go_wp2_with fail
        go_ret
        exact ⟨rfl, HBr.out⟩
theorem kepts_any : ∀ f, KeptsP f
  | 0 => kepts_of 0 (fun g h => by cases h)
  | f + 1 => kepts_of (f + 1) (fun g h => by cases h; exact kept_of f (kepts_any f))
/-- stagehandkit.Kept of a lent term. -/
theorem kept_any (f : Nat) : KeptP f := kept_of f (kepts_any f)
end Go.Proofs.YthmpobimmbmddaaGreatDoor
namespace Go.Proofs.YthmpobimmbmddaaGreatDoor
open Go.RowKit
set_option linter.unusedVariables false
set_option linter.unusedSimpArgs false

set_option maxRecDepth 100000 in
set_option maxHeartbeats 4000000 in
theorem sameexc_flat (cl : ByteArray) (k i g ar bt : Int) (nm fn by' : ByteArray) (so so0 : Option Addr) (c c0 : Nat) (w : World) : Calls Tryz.prog 14 #[.agg #[.string cl, .int .i64 k, .int .i64 i, .int .i64 g, .string nm, .string fn, .int .i64 ar, .slice so 0 c, .string by', .int .i64 bt], .agg #[.string cl, .int .i64 k, .int .i64 i, .int .i64 g, .string nm, .string fn, .int .i64 ar, .slice so0 0 c0, .string by', .int .i64 bt]] w fun e w' => e = .returned (.bool true) ∧ Below w.heap.size w w' := by
  obtain ⟨e0, e1, eb, es⟩ := new_two w (.cells #[.string cl, .int .i64 k, .int .i64 i, .int .i64 g, .string nm, .string fn, .int .i64 ar, .slice so 0 c, .string by', .int .i64 bt] 34) (.cells #[.string cl, .int .i64 k, .int .i64 i, .int .i64 g, .string nm, .string fn, .int .i64 ar, .slice so0 0 c0, .string by', .int .i64 bt] 34)
  have HB := Lib.hid eb
  go_in
  go_upto_region 1 with fail
  generalize (w.alloc _).alloc _ = W at *
  have a0 := cell_of_row _ _ 0 _ _ _ e0; have a1 := cell_of_row _ _ 1 _ _ _ e0; have a2 := cell_of_row _ _ 2 _ _ _ e0; have a3 := cell_of_row _ _ 3 _ _ _ e0; have a4 := cell_of_row _ _ 4 _ _ _ e0; have a5 := cell_of_row _ _ 5 _ _ _ e0; have a6 := cell_of_row _ _ 6 _ _ _ e0; have a7 := cell_of_row _ _ 7 _ _ _ e0; have a8 := cell_of_row _ _ 8 _ _ _ e0; have a9 := cell_of_row _ _ 9 _ _ _ e0
  have b0 := cell_of_row _ _ 0 _ _ _ e1; have b1 := cell_of_row _ _ 1 _ _ _ e1; have b2 := cell_of_row _ _ 2 _ _ _ e1; have b3 := cell_of_row _ _ 3 _ _ _ e1; have b4 := cell_of_row _ _ 4 _ _ _ e1; have b5 := cell_of_row _ _ 5 _ _ _ e1; have b6 := cell_of_row _ _ 6 _ _ _ e1; have b7 := cell_of_row _ _ 7 _ _ _ e1; have b8 := cell_of_row _ _ 8 _ _ _ e1; have b9 := cell_of_row _ _ 9 _ _ _ e1
  clear e0 e1 eb es
  go_wp2_with (first | (go_at_call 13; refine (same_flat k i g ar bt nm fn by' so so0 c c0 _).mono ?_; rintro e w1 ⟨rfl, hb1⟩) | fail)
  go_ret
  exact ⟨rfl, below_next HB.out hb1⟩
end Go.Proofs.YthmpobimmbmddaaGreatDoor
namespace Go.Proofs.YthmpobimmbmddaaGreatDoor
open Go.RowKit
set_option linter.unusedVariables false
set_option linter.unusedSimpArgs false

theorem bitsq_flat (r : Option (List (List Bool))) : ∃ (k i g a b k2 i2 g2 a2 b2 : Int) (n fn y cl n2 fn2 y2 : ByteArray), ∀ w e w', BitsQ r w e w' →
    e = .returned (.tuple #[.agg #[.int .i64 k, .int .i64 i, .int .i64 g, .string n, .string fn, .int .i64 a, .slice none 0 0, .string y, .int .i64 b], .agg #[.string cl, .int .i64 k2, .int .i64 i2, .int .i64 g2, .string n2, .string fn2, .int .i64 a2, .slice none 0 0, .string y2, .int .i64 b2]]) ∧ Below w.heap.size w w' := by
  cases r with
  | none =>
    have key : ∀ w e w', BitsQ none w e w' → e = .returned (.tuple #[zeroV, failV ⟨#[98, 97, 100, 97, 114, 103]⟩]) ∧ Below w.heap.size w w' := fun w e w' h => ⟨h.1, h.2⟩
    exact ⟨_, _, _, _, _, _, _, _, _, _, _, _, _, _, _, _, _, key⟩
  | some ms =>
    by_cases h16 : ms.flatten.length ≤ 16384
    · have key : ∀ w e w', BitsQ (some ms) w e w' → e = .returned (.tuple #[bitsV' ms.flatten, noneV]) ∧ Below w.heap.size w w' := fun w e w' h => by
        have h1 : if ms.flatten.length ≤ 16384 then e = .returned (.tuple #[bitsV' ms.flatten, noneV]) else e = .returned (.tuple #[zeroV, failV ⟨#[115, 121, 115, 116, 101, 109, 95, 108, 105, 109, 105, 116]⟩]) := h.1
        rw [if_pos h16] at h1
        exact ⟨h1, h.2⟩
      exact ⟨_, _, _, _, _, _, _, _, _, _, _, _, _, _, _, _, _, key⟩
    · have key : ∀ w e w', BitsQ (some ms) w e w' → e = .returned (.tuple #[zeroV, failV ⟨#[115, 121, 115, 116, 101, 109, 95, 108, 105, 109, 105, 116]⟩]) ∧ Below w.heap.size w w' := fun w e w' h => by
        have h1 : if ms.flatten.length ≤ 16384 then e = .returned (.tuple #[bitsV' ms.flatten, noneV]) else e = .returned (.tuple #[zeroV, failV ⟨#[115, 121, 115, 116, 101, 109, 95, 108, 105, 109, 105, 116]⟩]) := h.1
        rw [if_neg h16] at h1
        exact ⟨h1, h.2⟩
      exact ⟨_, _, _, _, _, _, _, _, _, _, _, _, _, _, _, _, _, key⟩
end Go.Proofs.YthmpobimmbmddaaGreatDoor
namespace Go.Proofs.YthmpobimmbmddaaGreatDoor
open Go.RowKit
set_option linter.unusedVariables false
set_option linter.unusedSimpArgs false

set_option maxRecDepth 100000 in
set_option maxHeartbeats 4000000 in
theorem left_any : ∀ (f : Nat) (ao : Option Addr) (c : Nat) (l : List Tm) (m : Int) (w : World), SlAt w 9 (TmAt w f) ao l → l.length ≤ maxLen → -1 ≤ m → m ≤ 1000000 →
    Calls Tryz.prog 26 #[.slice ao l.length c, .int .i64 m] w fun e w' => e = .returned (.int .i64 (leftF f l m)) ∧ Below w.heap.size w w'
  | 0, ao, c, l, m, w, h, hl, h0, h1 => by
    obtain rfl := h.zero
    have HE : Hid (leftF 0 [] m = m) := Lib.hid rfl
    go_enter Tryz.func26, Tryz.ntmps26
    go_wp2_with fail
    go_loop [1, 5] (fun mv i => mv = .int .i64 m ∧ i = .int .i64 0) (fun _ _ => 0)
    case atStart => exact ⟨rfl, rfl⟩
    case round =>
      obtain ⟨rfl, rfl⟩ := hrel
      go_wp2_with fail
      go_ret
      exact ⟨ret1 HE.out.symm, Below.refl _ _⟩
  | f + 1, ao, c, l, m, w, h, hl, h0, h1 => by
    have IH := Lib.hid (left_any f)
    have HS := Lib.hid h
    have HV : Hid (leftF (f + 1) l m = leftL (leftF f) l m) := Lib.hid rfl
    have HM := Lib.hid (leftF_le f)
    clear h
    unfold maxLen at hl
    go_enter Tryz.func26, Tryz.ntmps26
    go_wp2_with fail
    go_loopw [1, 5] (fun mv i wr => ∃ (k : Nat) (m' : Int), k ≤ l.length ∧ i = .int .i64 k ∧ mv = .int .i64 m' ∧ -1 ≤ m' ∧ m' ≤ 1000000 ∧ Hid (leftL (leftF f) l m = leftL (leftF f) (l.drop k) m') ∧ Below w.heap.size w wr) (fun _ i _ => l.length - (intOf i).toNat)
    case atStart => exact ⟨0, m, Nat.zero_le _, rfl, rfl, h0, h1, Lib.hid rfl, Below.refl _ _⟩
    case round =>
      obtain ⟨k, m', hk, rfl, rfl, g0, g1, HG, hB⟩ := hrel
      rename World => wr
      by_cases hlt : k < l.length
      · by_cases hm : 0 ≤ m'
        · have hs2 := HS.out.tms hB
          obtain ⟨b, off, ai, ci, hao, hb, q0, q1, q2, q3, q4, q5, q6, q7, q8, hit, hok⟩ := hs2.tm hlt
          subst hao
          have hlong := leftL_long (rec := leftF f) hlt hm
          have hnext := leftL_next (rec := leftF f) hlt hm
          have HL1 := Lib.hid hlong; have HL2 := Lib.hid hnext; clear hlong hnext hs2
          obtain ⟨_, _, _, o3, o4, _, o6, o7, _⟩ := hok
          unfold maxLen at o3 o4 o6 o7
          generalize l[k] = t at *
          have HIT := Lib.hid hit; clear hit
          by_cases c1 : m' < t.name.size
          · have E : Hid (leftF (f + 1) l m = -1) := Lib.hid (by rw [HV.out, HG.out, HL1.out (.inl c1)])
            go_wp2_with fail
            all_goals go_ret
            all_goals exact ⟨ret1 E.out.symm, hB.alloc hB.size _⟩
          · by_cases c2 : m' < t.func.size
            · have E : Hid (leftF (f + 1) l m = -1) := Lib.hid (by rw [HV.out, HG.out, HL1.out (.inr (.inl c2))])
              go_wp2_with fail
              all_goals go_ret
              all_goals exact ⟨ret1 E.out.symm, hB.alloc hB.size _⟩
            · by_cases c3 : m' < t.bytes.size
              · have E : Hid (leftF (f + 1) l m = -1) := Lib.hid (by rw [HV.out, HG.out, HL1.out (.inr (.inr c3))])
                go_wp2_with fail
                all_goals go_ret
                all_goals exact ⟨ret1 E.out.symm, hB.alloc hB.size _⟩
              · have E := Lib.hid (HL2.out (by omega))
                have hBa := hB.alloc hB.size (.cells #[.int .i64 t.kind, .int .i64 t.int, .int .i64 t.gen, .string t.name, .string t.func, .int .i64 t.arity, .slice ai t.items.length ci, .string t.bytes, .int .i64 t.bits] 28)
                have HIT2 := Lib.hid (SlAt.tms HIT.out ((Below.refl wr.heap.size wr).alloc (Nat.le_refl _) (.cells #[.int .i64 t.kind, .int .i64 t.int, .int .i64 t.gen, .string t.name, .string t.func, .int .i64 t.arity, .slice ai t.items.length ci, .string t.bytes, .int .i64 t.bits] 28)))
                have HM2 := HM.out t.items (m' - 1 - t.name.size / 8 - t.func.size / 8 - t.bytes.size / 8) (by omega)
                generalize hn1 : leftF f t.items (m' - 1 - t.name.size / 8 - t.func.size / 8 - t.bytes.size / 8) = n1 at *
                have HN1 := Lib.hid hn1; clear hn1
                go_wp2_with fail
                refine (IH.out ai ci t.items _ _ HIT2.out (by unfold maxLen; omega) (by omega) (by omega)).mono ?_
                rintro e w5 ⟨rfl, hb5⟩
                rw [HN1.out]
                go_wp2_with fail
                go_roundw
                case rel => exact ⟨k + 1, n1, by omega, by go_num, rfl, by omega, by omega, Lib.hid (by rw [HG.out, E.out]), below_next hBa hb5⟩
                case measure => simp [intOf]; omega
        · have E : Hid (leftF (f + 1) l m = m') := Lib.hid (by rw [HV.out, HG.out, leftL_stop (.inr (by omega))])
          go_wp2_with fail
          go_ret
          exact ⟨ret1 E.out.symm, hB⟩
      · have E : Hid (leftF (f + 1) l m = m') := Lib.hid (by rw [HV.out, HG.out, leftL_stop (.inl (by rw [List.drop_eq_nil_iff]; omega))])
        go_wp2_with fail
        go_ret
        exact ⟨ret1 E.out.symm, hB⟩

theorem great_any (f : Nat) (ao : Option Addr) (c : Nat) (l : List Tm) (m : Int) (w : World) (h : SlAt w 9 (TmAt w f) ao l) (hl : l.length ≤ maxLen) (h0 : -1 ≤ m) (h1 : m ≤ 1000000) :
    Calls Tryz.prog 9 #[.slice ao l.length c, .int .i64 m] w fun e w' => e = .returned (.bool (decide (leftF f l m < 0))) ∧ Below w.heap.size w w' := by
  have hc := left_any f ao c l m w h hl h0 h1
  have hle := leftF_le f l m h0
  generalize leftF f l m = n at *
  go_enter Tryz.func9, Tryz.ntmps9
  go_wp2_with fail
  refine hc.mono ?_
  rintro e w1 ⟨rfl, hb1⟩
  go_wp2_with fail
  go_ret
  exact ⟨rfl, hb1⟩
end Go.Proofs.YthmpobimmbmddaaGreatDoor
