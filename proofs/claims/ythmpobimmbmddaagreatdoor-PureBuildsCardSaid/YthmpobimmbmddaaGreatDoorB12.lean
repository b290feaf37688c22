/-
  shown: the region that draws its order, by an invariant over what has come up (printed by gen_psreg.py). shown: the calls that every law of the layer makes first: the walk (printed by gen_pshown.py). Classes: the document's way and the program's are one. No program in sight.
-/
import Derived.Test.YthmpobimmbmddaaGreatDoorB03
import Derived.Test.YthmpobimmbmddaaGreatDoorB05
import Derived.Test.YthmpobimmbmddaaGreatDoorB11
namespace Go.Proofs.YthmpobimmbmddaaGreatDoor
open Go.RowKit
set_option linter.unusedVariables false
set_option linter.unusedSimpArgs false

abbrev frBad : Array Value := #[.string ⟨#[101, 114, 114, 111, 114]⟩, .int .i64 2, .int .i64 0, .int .i64 0, .string ⟨#[98, 97, 100, 97, 114, 105, 116, 104]⟩, .string ⟨#[]⟩, .int .i64 0, .slice none 0 0, .string ⟨#[]⟩, .int .i64 0]
theorem rint_is (n : Int) (w : World) : Calls Tryz.prog 17 #[.int .i64 n] w fun e w' => e = .returned (intV n) ∧ Below w.heap.size w w' := by
  go_enter Tryz.func17, Tryz.ntmps17
  go_wp2_with fail
  refine bodyPost_ret (results_cell_row rfl _ _ w.heap.size _ _ _ _ rfl (heap_alloc_new _ _) Tryz.underlying28 rfl (by kernel_rfl)) rfl ?_
  exact ⟨rfl, (Below.refl _ _).alloc (Nat.le_refl _) _⟩
def intT (n : Int) : Tm := .mk 1 n 0 ⟨#[]⟩ ⟨#[]⟩ 0 [] ⟨#[]⟩ 0
theorem intT_ok (n : Int) (h : I64 n) : (intT n).Ok := by
  have z : I64 0 := by unfold I64; omega
  have o : I64 1 := by unfold I64; omega
  have e : (ByteArray.mk #[]).size ≤ maxLen := by decide
  exact ⟨o, h, z, e, e, z, (by show 0 ≤ maxLen; decide), e, z⟩
/-- Two integers in a row. -/
abbrev twoR (a b : Int) : Array Value := #[.int .i64 1, .int .i64 a, .int .i64 0, .string ⟨#[]⟩, .string ⟨#[]⟩, .int .i64 0, .slice none 0 0, .string ⟨#[]⟩, .int .i64 0, .int .i64 1, .int .i64 b, .int .i64 0, .string ⟨#[]⟩, .string ⟨#[]⟩, .int .i64 0, .slice none 0 0, .string ⟨#[]⟩, .int .i64 0]
theorem two_sl {w : World} {g : Nat} {a b : Int} (ha : I64 a) (hb : I64 b) (h : w.heap[g]? = some (.cells (twoR a b) 28 (0, 0))) : SlAt w 9 (TmAt w 1) (some ⟨g, 0, none⟩) [intT a, intT b] := by
  refine .inr ⟨g, 0, rfl, lt_of_row h, fun j hj => ?_⟩
  have hj2 : j = 0 ∨ j = 1 := by simp at hj; omega
  rcases hj2 with rfl | rfl
  · refine ⟨[.int .i64 1, .int .i64 a, .int .i64 0, .string ⟨#[]⟩, .string ⟨#[]⟩, .int .i64 0, .slice none 0 0, .string ⟨#[]⟩, .int .i64 0], rfl, fun i hi => ?_, ⟨none, 0, rfl, .nil _ _ _ _⟩, intT_ok a ha⟩
    rw [cell_of_row _ _ _ _ _ _ h]
    match i, hi with
    | 0, _ => rfl
    | 1, _ => rfl
    | 2, _ => rfl
    | 3, _ => rfl
    | 4, _ => rfl
    | 5, _ => rfl
    | 6, _ => rfl
    | 7, _ => rfl
    | 8, _ => rfl
  · refine ⟨[.int .i64 1, .int .i64 b, .int .i64 0, .string ⟨#[]⟩, .string ⟨#[]⟩, .int .i64 0, .slice none 0 0, .string ⟨#[]⟩, .int .i64 0], rfl, fun i hi => ?_, ⟨none, 0, rfl, .nil _ _ _ _⟩, intT_ok b hb⟩
    rw [cell_of_row _ _ _ _ _ _ h]
    match i, hi with
    | 0, _ => rfl
    | 1, _ => rfl
    | 2, _ => rfl
    | 3, _ => rfl
    | 4, _ => rfl
    | 5, _ => rfl
    | 6, _ => rfl
    | 7, _ => rfl
    | 8, _ => rfl
theorem two_kind {a b : Int} : ∀ t ∈ [intT a, intT b], t.kind = 1 := by intro t h; simp at h; rcases h with rfl | rfl <;> rfl
theorem two_valid {a b : Int} : ∀ t ∈ [intT a, intT b], validF 1 t = true := by intro t h; simp at h; rcases h with rfl | rfl <;> rfl
theorem two_cap {a b : Int} : ∀ t ∈ [intT a, intT b], capF 1 t ≤ 1000 := by intro t h; simp at h; rcases h with rfl | rfl <;> (show 300 + 0 + sumN [] ≤ 1000; decide)
theorem apply_12 {w : World} {g : Nat} (h : w.heap[g]? = some (.cells (twoR 1 2) 28 (0, 0))) : Calls Tryz.prog 19 #[zeroV, .string ⟨#[43]⟩, .slice (some ⟨g, 0, none⟩) 2 2] w fun e w' => e = .returned (.tuple #[intV 3, noneV]) ∧ Below w.heap.size w w' :=
  apply_add [intT 1, intT 2] (some ⟨g, 0, none⟩) 2 w (two_sl (by unfold I64; omega) (by unfold I64; omega) h) rfl two_kind two_valid two_cap rfl rfl
theorem apply_10 {w : World} {g : Nat} (h : w.heap[g]? = some (.cells (twoR 1 0) 28 (0, 0))) : Calls Tryz.prog 19 #[zeroV, .string ⟨#[100, 105, 118]⟩, .slice (some ⟨g, 0, none⟩) 2 2] w fun e w' => e = .returned (.tuple #[zeroV, failV ⟨#[98, 97, 100, 97, 114, 105, 116, 104]⟩]) ∧ Below w.heap.size w w' :=
  apply_div [intT 1, intT 0] (some ⟨g, 0, none⟩) 2 w (two_sl (by unfold I64; omega) (by unfold I64; omega) h) rfl two_kind two_valid two_cap rfl rfl

noncomputable def sops : Array Oper := (Tryz.f6.body.map (regOps 3)).getD #[]
theorem sops_size : sops.size = 12 := by kernel_rfl
theorem sops_back : backOk .any sops = true := by kernel_rfl
/-- What a slot holds once its operation has come up. -/
inductive SFct where
  | val (v : Value)
  | two
def SFct.holds (w : World) (v : Value) : SFct → Prop
  | .val u => v = u
  | .two => ∃ g, v = .slice (some ⟨g, 0, none⟩) 2 2 ∧ w.heap[g]? = some (.cells (twoR 1 0) 28 (0, 0))
theorem SFct.below {w w' : World} {v : Value} (hb : Below w.heap.size w w') : ∀ {f : SFct}, f.holds w v → f.holds w' v
  | .val _, h => h
  | .two, ⟨g, e, h⟩ => ⟨g, e, (hb.block _ (lt_of_row h)).trans h⟩
abbrev resBad : Value := .tuple #[zeroV, failV ⟨#[98, 97, 100, 97, 114, 105, 116, 104]⟩]
def stab : Nat → SFct
  | 0 => .val zeroV
  | 1 => .val (intV 1)
  | 2 => .val (intV 0)
  | 3 => .two
  | 4 => .val resBad
  | 5 => .val resBad
  | 6 => .val zeroV
  | _ => .val (failV ⟨#[98, 97, 100, 97, 114, 105, 116, 104]⟩)
def sdst : Nat → Nat
  | 0 => 22
  | 1 => 23
  | 2 => 24
  | 3 => 25
  | 4 => 26
  | 5 => 21
  | 6 => 27
  | 7 => 28
  | 8 => 5
  | _ => 6
theorem sdst_lt : ∀ j, j < 10 → sdst j < 93 ∧ sdst j ≠ 1 ∧ sdst j ≠ 3 ∧ sdst j ≠ 4 ∧ ∀ k, k < 10 → k ≠ j → sdst k ≠ sdst j := by decide
/-- THE INVARIANT. A: the block of one; C, E: those of a and e. -/
structure SI (A C E : Nat) (W3 : World) (listed : Array Bool) (a : Act) (w : World) : Prop where
  sz : a.tmps.size = 93
  df : a.defers = []
  e1 : a.eval (.tmp 1) = .pointer (some ⟨A, 0, none⟩)
  e3 : a.eval (.tmp 3) = .pointer (some ⟨C, 0, none⟩)
  e4 : a.eval (.tmp 4) = .pointer (some ⟨E, 0, none⟩)
  bel : Below W3.heap.size W3 w
  one : w.heap[A]? = some (.cells #[.int .i64 1, .int .i64 1, .int .i64 0, .string ⟨#[]⟩, .string ⟨#[]⟩, .int .i64 0, .slice none 0 0, .string ⟨#[]⟩, .int .i64 0] 28 (0, 0))
  fc : ∀ i, i < 8 → listed.getD i false = true → (stab i).holds w (a.eval (.tmp (sdst i)))
  b5 : listed.getD 8 false = true → ∃ p, a.eval (.tmp 5) = .pointer (some ⟨p, 0, none⟩) ∧ W3.heap.size ≤ p ∧ (listed.getD 10 false = false → w.heap[p]? = some (.cells zRow9 28 (0, 0)))
  b6 : listed.getD 9 false = true → ∃ p, a.eval (.tmp 6) = .pointer (some ⟨p, 0, none⟩) ∧ W3.heap.size ≤ p ∧ w.heap[p]? = some (.cells (if listed.getD 11 false = true then frBad else zRow10) 34 (0, 0))
  oneW : W3.heap[A]? = some (.cells #[.int .i64 1, .int .i64 1, .int .i64 0, .string ⟨#[]⟩, .string ⟨#[]⟩, .int .i64 0, .slice none 0 0, .string ⟨#[]⟩, .int .i64 0] 28 (0, 0))
theorem ite_size (b : Bool) : (if b = true then frBad else zRow10).size = frBad.size := by cases b <;> rfl
theorem getD_other {l : Array Bool} {i j : Nat} (h : j ≠ i) : (l.setIfInBounds i true).getD j false = l.getD j false := by
  rw [Array.getD_eq_getD_getElem?, Array.getElem?_setIfInBounds_ne (fun e => h e.symm), ← Array.getD_eq_getD_getElem?]
/-- What is kept by an operation with a slot. -/
theorem SI.put {A C E : Nat} {W3 : World} {listed : Array Bool} {a : Act} {w : World} (h : SI A C E W3 listed a w) (i : Nat) (hi : i < 10) (v : Value) (w' : World) (hb : Below w.heap.size w w') (hv : i < 8 → (stab i).holds w' v)
    (h8 : i = 8 → ∃ p, v = .pointer (some ⟨p, 0, none⟩) ∧ W3.heap.size ≤ p ∧ w'.heap[p]? = some (.cells zRow9 28 (0, 0))) (h9 : i = 9 → ∃ p, v = .pointer (some ⟨p, 0, none⟩) ∧ W3.heap.size ≤ p ∧ w'.heap[p]? = some (.cells zRow10 34 (0, 0))) (hno : listed.getD 11 false = false) :
    SI A C E W3 (listed.setIfInBounds i true) (a.put (some (sdst i)) v) w' := by
  obtain ⟨hd, n1, n3, n4, hdd⟩ := sdst_lt i hi
  have hd' : sdst i < a.tmps.size := by rw [h.sz]; exact hd
  refine ⟨?_, h.df, ?_, ?_, ?_, below_next h.bel hb, (hb.block _ (lt_of_row h.one)).trans h.one, fun j hj hl => ?_, fun hl => ?_, fun hl => ?_, h.oneW⟩
  · show (a.tmps.setIfInBounds _ _).size = 93
    rw [Array.size_setIfInBounds]; exact h.sz
  · rw [eval_put _ _ _ _ hd', if_neg (fun e => n1 e.symm)]; exact h.e1
  · rw [eval_put _ _ _ _ hd', if_neg (fun e => n3 e.symm)]; exact h.e3
  · rw [eval_put _ _ _ _ hd', if_neg (fun e => n4 e.symm)]; exact h.e4
  · rw [eval_put _ _ _ _ hd']
    by_cases c : j = i
    · subst c; rw [if_pos rfl]; exact hv hj
    · rw [if_neg (hdd j (by omega) c)]
      rw [getD_other c] at hl
      exact SFct.below hb (h.fc j hj hl)
  · rw [show (5 : Nat) = sdst 8 from rfl, eval_put _ _ _ _ hd']
    by_cases c : 8 = i
    · subst c; rw [if_pos rfl]
      obtain ⟨p, e1, e2, e3⟩ := h8 rfl
      exact ⟨p, e1, e2, fun _ => e3⟩
    · rw [if_neg (hdd 8 (by omega) c)]
      rw [getD_other c] at hl
      obtain ⟨p, e1, e2, e3⟩ := h.b5 hl
      refine ⟨p, e1, e2, fun h10 => ?_⟩
      rw [getD_other (by omega)] at h10
      exact (hb.block _ (lt_of_row (e3 h10))).trans (e3 h10)
  · rw [show (6 : Nat) = sdst 9 from rfl, eval_put _ _ _ _ hd', getD_other (by omega), hno]
    by_cases c : 9 = i
    · subst c; rw [if_pos rfl]
      exact h9 rfl
    · rw [if_neg (hdd 9 (by omega) c)]
      rw [getD_other c] at hl
      obtain ⟨p, e1, e2, e3⟩ := h.b6 hl
      rw [hno] at e3
      exact ⟨p, e1, e2, (hb.block _ (lt_of_row e3)).trans e3⟩
noncomputable def sdepB (i d : Nat) : Bool := match sops[i]? with
  | some o => o.after.any fun e => Region.binds .any e && e.on == d
  | none => false
theorem sdep {listed : Array Bool} {i : Nat} (d : Nat) (hr : i ∈ Region.ready .any sops listed) (h : sdepB i d = true) : listed.getD d false = true := by
  unfold sdepB at h
  cases ho : sops[i]? with
  | none => rw [ho] at h; cases h
  | some o =>
    rw [ho] at h
    obtain ⟨e, he, hb⟩ := Array.any_eq_true'.1 (show o.after.any (fun e => Region.binds .any e && e.on == d) = true from h)
    rw [Bool.and_eq_true, beq_iff_eq] at hb
    rw [← hb.2]
    exact (ready_mem hr).2.2 o ho e he hb.1
theorem wp_run' {P : Program} {o : Oper} {a : Act} {w w' : World} {K : Act → World → Prop} {Q : Exit → Act → World → Prop} {v : Value} (hrun : (execOp a.eval o).run P w = .ok (.value v) w') (h : K (a.put o.dst v) w') : o.wp P a w K Q := by
  unfold Oper.wp
  rw [hrun]
  exact h
theorem info_two {P : Program} {t : TypeId} {z : Value} {n : Nat} (h : (P.info? t).map (fun i => (i.zero, i.size)) = some (some z, n)) : ∃ i, P.info? t = some i ∧ i.zero = some z ∧ i.size = n := by
  cases hi : P.info? t with
  | none => rw [hi] at h; cases h
  | some i =>
    rw [hi] at h
    have h := Option.some.inj h
    exact ⟨i, rfl, congrArg Prod.fst h, congrArg Prod.snd h⟩
theorem infoTerm2 : (Tryz.prog.info? 28).map (fun i => (i.zero, i.size)) = some (some (.agg zRow9), 9) := by kernel_rfl
/-- Store 11 comes last: while another operation may come up it has not. -/
theorem not_last {listed : Array Bool} {i : Nat} (hcl : listed.getD 11 false = true → ∀ j, j < 11 → listed.getD j false = true) (hr : i ∈ Region.ready .any sops listed) (hi : i < 11) : listed.getD 11 false = false := by
  cases h : listed.getD 11 false with
  | false => rfl
  | true =>
    have h1 := hcl h i hi
    have h2 := (ready_mem hr).2.1
    rw [Array.getD_eq_getD_getElem?] at h1 h2
    cases hx : listed[i]? with
    | none => rw [hx] at h1; cases h1
    | some b => rw [hx] at h1 h2; simp at h1 h2; rw [h1] at h2; cases h2
section
variable {A C E : Nat} {W3 : World} {listed : Array Bool} {a : Act} {w : World} {Q : Exit → Act → World → Prop}
set_option maxRecDepth 100000 in
theorem sst0 (hsz : 11 < listed.size) (h : SI A C E W3 listed a w) (hcl : listed.getD 11 false = true → ∀ j, j < 11 → listed.getD j false = true) (hr : 0 ∈ Region.ready .any sops listed) : wpOp Tryz.prog sops Q 0 (fun a' w' => SI A C E W3 (listed.setIfInBounds 0 true) a' w') a w := by
  have hno := not_last hcl hr (by decide)
  refine wpOp_of (o := _) rfl rfl ?_
  refine wp_run' (v := zeroV) (w' := w) (by kernel_rfl) ?_
  exact h.put 0 (by decide) _ _ (Below.refl _ _) (fun _ => rfl) (fun e => by cases e) (fun e => by cases e) hno
set_option maxRecDepth 100000 in
theorem sst1 (hsz : 11 < listed.size) (h : SI A C E W3 listed a w) (hcl : listed.getD 11 false = true → ∀ j, j < 11 → listed.getD j false = true) (hr : 1 ∈ Region.ready .any sops listed) : wpOp Tryz.prog sops Q 1 (fun a' w' => SI A C E W3 (listed.setIfInBounds 1 true) a' w') a w := by
  have hno := not_last hcl hr (by decide)
  refine wpOp_of (o := _) rfl rfl ?_
  refine wp_load_row 28 (.tmp 1) rfl A h.e1 28 _ _ _ h.one Tryz.underlying28 rfl (by kernel_rfl) ?_
  exact h.put 1 (by decide) _ _ (Below.refl _ _) (fun _ => rfl) (fun e => by cases e) (fun e => by cases e) hno
set_option maxRecDepth 100000 in
theorem sst2 (hsz : 11 < listed.size) (h : SI A C E W3 listed a w) (hcl : listed.getD 11 false = true → ∀ j, j < 11 → listed.getD j false = true) (hr : 2 ∈ Region.ready .any sops listed) : wpOp Tryz.prog sops Q 2 (fun a' w' => SI A C E W3 (listed.setIfInBounds 2 true) a' w') a w := by
  have hno := not_last hcl hr (by decide)
  refine wpOp_of (o := _) rfl rfl ?_
  refine wp_call' 17 #[.int .i64 0] (by kernel_rfl) (fun v w'' => v = intV 0 ∧ Below w.heap.size w w'') ((rint_is 0 w).mono fun e w'' hh => ⟨_, hh.1, rfl, hh.2⟩) ?_
  rintro v w'' ⟨rfl, hb⟩
  exact h.put 2 (by decide) _ _ hb (fun _ => rfl) (fun e => by cases e) (fun e => by cases e) hno
set_option maxRecDepth 100000 in
theorem sst3 (hsz : 11 < listed.size) (h : SI A C E W3 listed a w) (hcl : listed.getD 11 false = true → ∀ j, j < 11 → listed.getD j false = true) (hr : 3 ∈ Region.ready .any sops listed) : wpOp Tryz.prog sops Q 3 (fun a' w' => SI A C E W3 (listed.setIfInBounds 3 true) a' w') a w := by
  have hno := not_last hcl hr (by decide)
  refine wpOp_of (o := _) rfl rfl ?_
  have f1 : a.eval (.tmp 23) = _ := h.fc 1 (by decide) (sdep 1 hr (by kernel_rfl))
  have f2 : a.eval (.tmp 24) = _ := h.fc 2 (by decide) (sdep 2 hr (by kernel_rfl))
  obtain ⟨ie, hie, hz0, hz1⟩ := info_two infoTerm2
  refine wp_buildSlice _ _ _ _ rfl (twoR 1 0) ie _ Tryz.underlying26 hie hz0 (by rw [hz1]; decide) (by rw [hz1]; decide) ?_ ?_
  · rw [hz1]
    simp only [List.map_toArray, List.map_cons, List.map_nil, f1, f2]
    kernel_rfl
  exact h.put 3 (by decide) _ _ ((Below.refl _ _).alloc (Nat.le_refl _) _) (fun _ => ⟨_, rfl, heap_alloc_new _ _⟩) (fun e => by cases e) (fun e => by cases e) hno
set_option maxRecDepth 100000 in
theorem sst4 (hsz : 11 < listed.size) (h : SI A C E W3 listed a w) (hcl : listed.getD 11 false = true → ∀ j, j < 11 → listed.getD j false = true) (hr : 4 ∈ Region.ready .any sops listed) : wpOp Tryz.prog sops Q 4 (fun a' w' => SI A C E W3 (listed.setIfInBounds 4 true) a' w') a w := by
  have hno := not_last hcl hr (by decide)
  refine wpOp_of (o := _) rfl rfl ?_
  have f0 : a.eval (.tmp 22) = _ := h.fc 0 (by decide) (sdep 0 hr (by kernel_rfl))
  obtain ⟨g, f3, hg⟩ := h.fc 3 (by decide) (sdep 3 hr (by kernel_rfl))
  have f3 : a.eval (.tmp 25) = .slice (some ⟨g, 0, none⟩) 2 2 := f3
  refine wp_call' 19 #[zeroV, .string ⟨#[100, 105, 118]⟩, .slice (some ⟨g, 0, none⟩) 2 2] (by
    rw [← f3, ← f0]
    kernel_rfl) (fun v w'' => v = resBad ∧ Below w.heap.size w w'') ((apply_10 hg).mono fun e w'' hh => ⟨_, hh.1, rfl, hh.2⟩) ?_
  rintro v w'' ⟨rfl, hb⟩
  exact h.put 4 (by decide) _ _ hb (fun _ => rfl) (fun e => by cases e) (fun e => by cases e) hno
set_option maxRecDepth 100000 in
theorem sst5 (hsz : 11 < listed.size) (h : SI A C E W3 listed a w) (hcl : listed.getD 11 false = true → ∀ j, j < 11 → listed.getD j false = true) (hr : 5 ∈ Region.ready .any sops listed) : wpOp Tryz.prog sops Q 5 (fun a' w' => SI A C E W3 (listed.setIfInBounds 5 true) a' w') a w := by
  have hno := not_last hcl hr (by decide)
  refine wpOp_of (o := _) rfl rfl ?_
  have f4 : a.eval (.tmp 26) = _ := h.fc 4 (by decide) (sdep 4 hr (by kernel_rfl))
  refine wp_move _ rfl ?_
  exact h.put 5 (by decide) _ _ (Below.refl _ _) (fun _ => f4) (fun e => by cases e) (fun e => by cases e) hno
set_option maxRecDepth 100000 in
theorem sst6 (hsz : 11 < listed.size) (h : SI A C E W3 listed a w) (hcl : listed.getD 11 false = true → ∀ j, j < 11 → listed.getD j false = true) (hr : 6 ∈ Region.ready .any sops listed) : wpOp Tryz.prog sops Q 6 (fun a' w' => SI A C E W3 (listed.setIfInBounds 6 true) a' w') a w := by
  have hno := not_last hcl hr (by decide)
  refine wpOp_of (o := _) rfl rfl ?_
  have f5 : a.eval (.tmp 21) = _ := h.fc 5 (by decide) (sdep 5 hr (by kernel_rfl))
  refine wp_run' (v := zeroV) (w' := w) ?_ ?_
  · have hm : execOp a.eval (sops[6]'(by rw [sops_size]; decide)) = (Next.value <$> Instr.extract (a.eval (.tmp 21)) 0 : Sem Next) := by kernel_rfl
    refine (congrArg (fun s : Sem Next => s.run Tryz.prog w) hm).trans ?_
    rw [f5]
    kernel_rfl
  exact h.put 6 (by decide) _ _ (Below.refl _ _) (fun _ => rfl) (fun e => by cases e) (fun e => by cases e) hno
set_option maxRecDepth 100000 in
theorem sst7 (hsz : 11 < listed.size) (h : SI A C E W3 listed a w) (hcl : listed.getD 11 false = true → ∀ j, j < 11 → listed.getD j false = true) (hr : 7 ∈ Region.ready .any sops listed) : wpOp Tryz.prog sops Q 7 (fun a' w' => SI A C E W3 (listed.setIfInBounds 7 true) a' w') a w := by
  have hno := not_last hcl hr (by decide)
  refine wpOp_of (o := _) rfl rfl ?_
  have f5 : a.eval (.tmp 21) = _ := h.fc 5 (by decide) (sdep 5 hr (by kernel_rfl))
  refine wp_run' (v := failV ⟨#[98, 97, 100, 97, 114, 105, 116, 104]⟩) (w' := w) ?_ ?_
  · have hm : execOp a.eval (sops[7]'(by rw [sops_size]; decide)) = (Next.value <$> Instr.extract (a.eval (.tmp 21)) 1 : Sem Next) := by kernel_rfl
    refine (congrArg (fun s : Sem Next => s.run Tryz.prog w) hm).trans ?_
    rw [f5]
    kernel_rfl
  exact h.put 7 (by decide) _ _ (Below.refl _ _) (fun _ => rfl) (fun e => by cases e) (fun e => by cases e) hno
set_option maxRecDepth 100000 in
theorem sst8 (hsz : 11 < listed.size) (h : SI A C E W3 listed a w) (hcl : listed.getD 11 false = true → ∀ j, j < 11 → listed.getD j false = true) (hr : 8 ∈ Region.ready .any sops listed) : wpOp Tryz.prog sops Q 8 (fun a' w' => SI A C E W3 (listed.setIfInBounds 8 true) a' w') a w := by
  have hno := not_last hcl hr (by decide)
  refine wpOp_of (o := _) rfl rfl ?_
  refine wp_run' (v := .pointer (some ⟨w.heap.size, 0, none⟩)) (w' := w.alloc (.cells zRow9 28)) (by kernel_rfl) ?_
  exact h.put 8 (by decide) _ _ ((Below.refl _ _).alloc (Nat.le_refl _) _) (fun e => absurd e (by decide)) (fun _ => ⟨_, rfl, h.bel.size, heap_alloc_new _ _⟩) (fun e => by cases e) hno
set_option maxRecDepth 100000 in
theorem sst9 (hsz : 11 < listed.size) (h : SI A C E W3 listed a w) (hcl : listed.getD 11 false = true → ∀ j, j < 11 → listed.getD j false = true) (hr : 9 ∈ Region.ready .any sops listed) : wpOp Tryz.prog sops Q 9 (fun a' w' => SI A C E W3 (listed.setIfInBounds 9 true) a' w') a w := by
  have hno := not_last hcl hr (by decide)
  refine wpOp_of (o := _) rfl rfl ?_
  refine wp_run' (v := .pointer (some ⟨w.heap.size, 0, none⟩)) (w' := w.alloc (.cells zRow10 34)) (by kernel_rfl) ?_
  exact h.put 9 (by decide) _ _ ((Below.refl _ _).alloc (Nat.le_refl _) _) (fun e => absurd e (by decide)) (fun e => by cases e) (fun _ => ⟨_, rfl, h.bel.size, heap_alloc_new _ _⟩) hno
set_option maxRecDepth 100000 in
theorem sst10 (hsz : 11 < listed.size) (h : SI A C E W3 listed a w) (hcl : listed.getD 11 false = true → ∀ j, j < 11 → listed.getD j false = true) (hr : 10 ∈ Region.ready .any sops listed) : wpOp Tryz.prog sops Q 10 (fun a' w' => SI A C E W3 (listed.setIfInBounds 10 true) a' w') a w := by
  have hno := not_last hcl hr (by decide)
  refine wpOp_of (o := _) rfl rfl ?_
  have hd := fun d (h1 : sdepB 10 d = true) => sdep d hr h1
  have h10 : listed.getD 10 false = false := by
    have h2 := (ready_mem hr).2.1
    rw [Array.getD_eq_getD_getElem?] at h2 ⊢
    cases hx : listed[10]? with
    | none => rfl
    | some b => rw [hx] at h2; simpa using h2
  obtain ⟨p, e1, e2, e3⟩ := h.b5 (hd 8 (by kernel_rfl))
  obtain ⟨p6, g1, g2, g3⟩ := h.b6 (hd 9 (by kernel_rfl))
  rw [hno] at g3
  have f6 : a.eval (.tmp 27) = zeroV := h.fc 6 (by decide) (hd 6 (by kernel_rfl))
  have hne : p6 ≠ p := by intro e; rw [e, e3 h10] at g3; injection g3 with g3; injection g3 with _ g3 _; exact absurd g3 (by decide)
  refine wp_store_row 28 (.tmp 5) (.tmp 27) rfl p zRow9 e1 f6 28 _ (e3 h10) (by kernel_rfl) rfl (by simp [Value.oneCell']) ?_
  have hA : A ≠ p := by intro e; have h1 := h.oneW; rw [e] at h1; have := lt_of_row h1; omega
  refine ⟨h.sz, h.df, h.e1, h.e3, h.e4, below_setRow h.bel e2 _, by rw [setRow_other _ _ _ _ hA]; exact h.one, fun j hj hl => ?_, fun hl => ⟨p, e1, e2, fun h0 => ?_⟩, fun hl => ⟨p6, g1, g2, ?_⟩, h.oneW⟩
  · rw [getD_other (by omega)] at hl
    have hf := h.fc j hj hl
    match j, hj with
    | 0, _ => exact hf
    | 1, _ => exact hf
    | 2, _ => exact hf
    | 3, _ =>
      obtain ⟨g, q1, q2⟩ := hf
      refine ⟨g, q1, ?_⟩
      rw [setRow_other _ _ _ _ (by intro e; rw [e, e3 h10] at q2; injection q2 with q2; injection q2 with q2 _ _; have := congrArg Array.size q2; simp at this)]
      exact q2
    | 4, _ => exact hf
    | 5, _ => exact hf
    | 6, _ => exact hf
    | 7, _ => exact hf
  · exact absurd h0 (by
      have hs : 10 < listed.size := by
        have := hd 9 (by kernel_rfl)
        exact Nat.lt_of_succ_lt hsz
      rw [Array.getD_eq_getD_getElem?, Array.getElem?_setIfInBounds_self_of_lt hs]; simp)
  · rw [getD_other (by omega), hno, setRow_other _ _ _ _ hne]; exact g3
set_option maxRecDepth 100000 in
theorem sst11 (hsz : 11 < listed.size) (h : SI A C E W3 listed a w) (hcl : listed.getD 11 false = true → ∀ j, j < 11 → listed.getD j false = true) (hr : 11 ∈ Region.ready .any sops listed) : wpOp Tryz.prog sops Q 11 (fun a' w' => SI A C E W3 (listed.setIfInBounds 11 true) a' w') a w := by
  skip
  refine wpOp_of (o := _) rfl rfl ?_
  have hd := fun d (h1 : sdepB 11 d = true) => sdep d hr h1
  obtain ⟨p6, g1, g2, g3⟩ := h.b6 (hd 9 (by kernel_rfl))
  have f7 : a.eval (.tmp 28) = .agg frBad := h.fc 7 (by decide) (hd 7 (by kernel_rfl))
  refine wp_store_row 34 (.tmp 6) (.tmp 28) rfl p6 frBad g1 f7 34 _ g3 (by kernel_rfl) (ite_size _) (by simp [Value.oneCell']) ?_
  have hA : A ≠ p6 := by intro e; have h1 := h.oneW; rw [e] at h1; have := lt_of_row h1; omega
  refine ⟨h.sz, h.df, h.e1, h.e3, h.e4, below_setRow h.bel g2 _, by rw [setRow_other _ _ _ _ hA]; exact h.one, fun j hj hl => ?_, fun hl => ?_, fun hl => ⟨p6, g1, g2, ?_⟩, h.oneW⟩
  · rw [getD_other (by omega)] at hl
    have hf := h.fc j hj hl
    match j, hj with
    | 0, _ => exact hf
    | 1, _ => exact hf
    | 2, _ => exact hf
    | 3, _ =>
      obtain ⟨g, q1, q2⟩ := hf
      refine ⟨g, q1, ?_⟩
      rw [setRow_other _ _ _ _ (by intro e; rw [e, g3] at q2; injection q2 with q2; injection q2 with _ q2 _; exact absurd q2 (by decide))]
      exact q2
    | 4, _ => exact hf
    | 5, _ => exact hf
    | 6, _ => exact hf
    | 7, _ => exact hf
  · rw [getD_other (by omega)] at hl
    obtain ⟨p, e1, e2, e3⟩ := h.b5 hl
    refine ⟨p, e1, e2, fun h0 => ?_⟩
    rw [getD_other (by omega)] at h0
    rw [hd 10 (by kernel_rfl)] at h0
    cases h0
  · rw [Array.getD_eq_getD_getElem?, Array.getElem?_setIfInBounds_self_of_lt hsz]
    exact setRow_heap _ _ _ _ _ _ g3
theorem sclosed (hr : 11 ∈ Region.ready .any sops listed) (j : Nat) (hj : j < 11) : listed.getD j false = true := by
  have hd := fun d (h1 : sdepB 11 d = true) => sdep d hr h1
  match j, hj with
  | 0, _ => exact hd 0 (by kernel_rfl)
  | 1, _ => exact hd 1 (by kernel_rfl)
  | 2, _ => exact hd 2 (by kernel_rfl)
  | 3, _ => exact hd 3 (by kernel_rfl)
  | 4, _ => exact hd 4 (by kernel_rfl)
  | 5, _ => exact hd 5 (by kernel_rfl)
  | 6, _ => exact hd 6 (by kernel_rfl)
  | 7, _ => exact hd 7 (by kernel_rfl)
  | 8, _ => exact hd 8 (by kernel_rfl)
  | 9, _ => exact hd 9 (by kernel_rfl)
  | 10, _ => exact hd 10 (by kernel_rfl)
/-- The whole invariant: what has come up last has come up behind all else. -/
def SI2 (A C E : Nat) (W3 : World) (listed : Array Bool) (a : Act) (w : World) : Prop := SI A C E W3 listed a w ∧ 11 < listed.size ∧ (listed.getD 11 false = true → ∀ j, j < 11 → listed.getD j false = true)
theorem SI2.step (h : SI2 A C E W3 listed a w) (i : Nat) (hi : i < 12) (hr : i ∈ Region.ready .any sops listed) : wpOp Tryz.prog sops Q i (fun a' w' => SI2 A C E W3 (listed.setIfInBounds i true) a' w') a w := by
  have hk : ∀ a' w', SI A C E W3 (listed.setIfInBounds i true) a' w' → SI2 A C E W3 (listed.setIfInBounds i true) a' w' := fun a' w' hh => ⟨hh, by rw [Array.size_setIfInBounds]; exact h.2.1, fun h11 j hj => by
    by_cases c : i = 11
    · subst c; rw [getD_other (by omega)]; exact sclosed hr j hj
    · rw [getD_other (fun e => c e.symm)] at h11
      by_cases c2 : j = i
      · subst c2; rw [Array.getD_eq_getD_getElem?, Array.getElem?_setIfInBounds_self_of_lt (by have := h.2.1; omega)]; rfl
      · rw [getD_other c2]; exact h.2.2 h11 j hj⟩
  refine wpOp_mono (fun a' w' hh => hk a' w' hh) ?_
  match i, hi with
  | 0, _ => exact sst0 h.2.1 h.1 h.2.2 hr
  | 1, _ => exact sst1 h.2.1 h.1 h.2.2 hr
  | 2, _ => exact sst2 h.2.1 h.1 h.2.2 hr
  | 3, _ => exact sst3 h.2.1 h.1 h.2.2 hr
  | 4, _ => exact sst4 h.2.1 h.1 h.2.2 hr
  | 5, _ => exact sst5 h.2.1 h.1 h.2.2 hr
  | 6, _ => exact sst6 h.2.1 h.1 h.2.2 hr
  | 7, _ => exact sst7 h.2.1 h.1 h.2.2 hr
  | 8, _ => exact sst8 h.2.1 h.1 h.2.2 hr
  | 9, _ => exact sst9 h.2.1 h.1 h.2.2 hr
  | 10, _ => exact sst10 h.2.1 h.1 h.2.2 hr
  | 11, _ => exact sst11 h.2.1 h.1 h.2.2 hr

end
theorem arr_fun (t : Array Value) : t = ((List.range t.size).map (fun i => t.getD i undef)).toArray := by
  apply Array.ext
  · simp
  · intro i h1 h2
    simp [Array.getD_eq_getD_getElem?, h1]
theorem frame_fun (t : Array Value) (h : t.size = 93) : ∃ f : Nat → Value, t = #[f 0, f 1, f 2, f 3, f 4, f 5, f 6, f 7, f 8, f 9, f 10, f 11, f 12, f 13, f 14, f 15, f 16, f 17, f 18, f 19, f 20, f 21, f 22, f 23, f 24, f 25, f 26, f 27, f 28, f 29, f 30, f 31, f 32, f 33, f 34, f 35, f 36, f 37, f 38, f 39, f 40, f 41, f 42, f 43, f 44, f 45, f 46, f 47, f 48, f 49, f 50, f 51, f 52, f 53, f 54, f 55, f 56, f 57, f 58, f 59, f 60, f 61, f 62, f 63, f 64, f 65, f 66, f 67, f 68, f 69, f 70, f 71, f 72, f 73, f 74, f 75, f 76, f 77, f 78, f 79, f 80, f 81, f 82, f 83, f 84, f 85, f 86, f 87, f 88, f 89, f 90, f 91, f 92] ∧ ∀ i, f i = t.getD i undef := by
  refine ⟨fun i => t.getD i undef, ?_, fun _ => rfl⟩
  have e := arr_fun t
  rw [h] at e
  exact e
end Go.Proofs.YthmpobimmbmddaaGreatDoor
namespace Go.Proofs.YthmpobimmbmddaaGreatDoor
open Go.RowKit Go.Maps Go.WideMaps
set_option linter.unusedVariables false
set_option linter.unusedSimpArgs false

def tm0 : Tm := .mk 0 0 0 ⟨#[]⟩ ⟨#[]⟩ 0 [] ⟨#[]⟩ 0
theorem tm0_ok : tm0.Ok := by
  have z : I64 0 := by unfold I64; omega
  have e : (ByteArray.mk #[]).size ≤ maxLen := by decide
  exact ⟨z, z, z, e, e, z, (by show 0 ≤ maxLen; decide), e, z⟩
def fdAb : Fd := ⟨4, ⟨#[97, 98]⟩, tm0, tm0, false, false, false⟩
abbrev abR : Array Value := #[.int .i64 4, .string ⟨#[97, 98]⟩, .int .i64 0, .int .i64 0, .int .i64 0, .string ⟨#[]⟩, .string ⟨#[]⟩, .int .i64 0, .slice none 0 0, .string ⟨#[]⟩, .int .i64 0, .int .i64 0, .int .i64 0, .int .i64 0, .string ⟨#[]⟩, .string ⟨#[]⟩, .int .i64 0, .slice none 0 0, .string ⟨#[]⟩, .int .i64 0, .bool false, .bool false, .bool false]
set_option maxRecDepth 100000 in
theorem bits_ab {w : World} {g : Nat} (h : w.heap[g]? = some (.cells abR 30 (0, 0))) : Calls Tryz.prog 11 #[.slice (some ⟨g, 0, none⟩) 1 1] w fun e w' => e = .returned (.tuple #[.agg #[.int .i64 10, .int .i64 0, .int .i64 0, .string ⟨#[]⟩, .string ⟨#[]⟩, .int .i64 0, .slice none 0 0, .string ⟨#[97, 98]⟩, .int .i64 16], noneV]) ∧ Below w.heap.size w w' := by
  have hs : SlAt w 23 (FdR w 1) (some ⟨g, 0, none⟩) [fdAb] := .inr ⟨g, 0, rfl, lt_of_row h, fun j hj => by
    obtain rfl : j = 0 := by simpa using hj
    refine ⟨abR.toList, rfl, fun i hi => ?_, ⟨none, 0, none, 0, rfl, .nil _ _ _ _, .nil _ _ _ _⟩, by unfold I64 fdAb; simp, by show (2 : Nat) ≤ maxLen; decide, tm0_ok, tm0_ok⟩
    rw [cell_of_row _ _ _ _ _ _ h, show 0 + 0 * 23 + i = i by omega, Array.getElem?_toList]⟩
  refine (pbits_any 1 [fdAb] [some (bitsL [97, 98])] (some ⟨g, 0, none⟩) 1 w hs (by simp) rfl (fun k hk h2 => ?_) (fun k m hm => ?_)).mono ?_
  · obtain rfl : k = 0 := by simpa using hk
    exact field_text 1 fdAb rfl (by decide)
  · match k, hm with
    | 0, hm => simp at hm; subst hm; decide
    | k + 1, hm => simp at hm
  · rintro e w' ⟨h1, h2⟩
    have e1 : [bitsL [97, 98]].flatten = bitsL [97, 98] := by simp
    have e2 : bstr (bitsL [97, 98]) = ⟨#[97, 98]⟩ := bstr_bits ⟨#[97, 98]⟩
    have h1 : if [bitsL [97, 98]].flatten.length ≤ 16384 then e = .returned (.tuple #[bitsV' [bitsL [97, 98]].flatten, noneV]) else e = _ := h1
    rw [e1, if_pos (by decide)] at h1
    refine ⟨h1.trans ?_, h2⟩
    unfold bitsV'
    rw [e2]; rfl
set_option maxRecDepth 100000 in
theorem class_el : classB ⟨#[101, 108, 101, 109, 101, 110, 116]⟩ 2 = 1 := by kernel_rfl
set_option maxRecDepth 100000 in
theorem class_sp : classB ⟨#[115, 112, 97, 119, 110]⟩ 3 = 3 := by kernel_rfl
set_option maxRecDepth 100000 in
set_option maxHeartbeats 8000000 in
theorem shown_any (w : World) (hsp : SpaceAt w) : Calls Tryz.prog 6 #[] w fun e w' => e = .returned (.bool true) ∧ Below w.heap.size w w' := by
  have HSp := Lib.hid hsp
  clear hsp
  go_enter Tryz.func6, Tryz.ntmps6
  go_upto_region 2 with (first | (go_at_call 17; (first | (refine (rint_is 1 _).mono ?_; rintro e wa ⟨rfl, hba⟩) | (refine (rint_is 2 _).mono ?_; rintro e wb ⟨rfl, hbb⟩))) | fail)
  have hB := below_next hba hbb
  have h1 := two0 wb (.cells #[.int .i64 1, .int .i64 1, .int .i64 0, .string ⟨#[]⟩, .string ⟨#[]⟩, .int .i64 0, .slice none 0 0, .string ⟨#[]⟩, .int .i64 0] 28) (.cells #[.int .i64 1, .int .i64 2, .int .i64 0, .string ⟨#[]⟩, .string ⟨#[]⟩, .int .i64 0, .slice none 0 0, .string ⟨#[]⟩, .int .i64 0] 28)
  have h2 := two1 wb (.cells #[.int .i64 1, .int .i64 1, .int .i64 0, .string ⟨#[]⟩, .string ⟨#[]⟩, .int .i64 0, .slice none 0 0, .string ⟨#[]⟩, .int .i64 0] 28) (.cells #[.int .i64 1, .int .i64 2, .int .i64 0, .string ⟨#[]⟩, .string ⟨#[]⟩, .int .i64 0, .slice none 0 0, .string ⟨#[]⟩, .int .i64 0] 28)
  have h3 := below_next hB (two_below wb (.cells #[.int .i64 1, .int .i64 1, .int .i64 0, .string ⟨#[]⟩, .string ⟨#[]⟩, .int .i64 0, .slice none 0 0, .string ⟨#[]⟩, .int .i64 0] 28) (.cells #[.int .i64 1, .int .i64 2, .int .i64 0, .string ⟨#[]⟩, .string ⟨#[]⟩, .int .i64 0, .slice none 0 0, .string ⟨#[]⟩, .int .i64 0] 28))
  generalize hwc : (wb.alloc (.cells #[.int .i64 1, .int .i64 1, .int .i64 0, .string ⟨#[]⟩, .string ⟨#[]⟩, .int .i64 0, .slice none 0 0, .string ⟨#[]⟩, .int .i64 0] 28)).alloc (.cells #[.int .i64 1, .int .i64 2, .int .i64 0, .string ⟨#[]⟩, .string ⟨#[]⟩, .int .i64 0, .slice none 0 0, .string ⟨#[]⟩, .int .i64 0] 28) = wc at *
  have H1 := Lib.hid h1; have H3 := Lib.hid h3
  obtain ⟨a0, a1, a2, a3, a4, a5, a6, a7, a8, _⟩ := term_cells h1
  obtain ⟨b0, b1, b2, b3, b4, b5, b6, b7, b8, _⟩ := term_cells h2
  clear h1 h2 h3 hba hbb hB hwc
  generalize wb.heap.size = A at *
  go_upto_region 3 with (first | (go_at_call 19; refine (apply_12 (g := wc.heap.size) (heap_alloc_new _ _)).mono ?_; rintro e w2 ⟨rfl, hb2⟩) | fail)
  have hb2' := below_next H3.out (below_next ((Below.refl _ _).alloc (Nat.le_refl _) _) hb2)
  have h1 := ((below_next ((Below.refl wc.heap.size wc).alloc (Nat.le_refl _) (.cells (twoR 1 2) 28)) hb2).block _ (lt_of_row H1.out)).trans H1.out
  have h3 := two0 w2 (.cells #[.int .i64 1, .int .i64 3, .int .i64 0, .string ⟨#[]⟩, .string ⟨#[]⟩, .int .i64 0, .slice none 0 0, .string ⟨#[]⟩, .int .i64 0] 28) (.cells zRow10 34)
  have h4 := two1 w2 (.cells #[.int .i64 1, .int .i64 3, .int .i64 0, .string ⟨#[]⟩, .string ⟨#[]⟩, .int .i64 0, .slice none 0 0, .string ⟨#[]⟩, .int .i64 0] 28) (.cells zRow10 34)
  have hb3 := two_below w2 (.cells #[.int .i64 1, .int .i64 3, .int .i64 0, .string ⟨#[]⟩, .string ⟨#[]⟩, .int .i64 0, .slice none 0 0, .string ⟨#[]⟩, .int .i64 0] 28) (.cells zRow10 34)
  have H1b := Lib.hid ((hb3.block _ (lt_of_row h1)).trans h1)
  have H3b := Lib.hid (below_next hb2' hb3)
  have HA := Lib.hid h3; have HE := Lib.hid h4
  clear a0 a1 a2 a3 a4 a5 a6 a7 a8 b0 b1 b2 b3 b4 b5 b6 b7 b8 h1 h3 h4 hb3 hb2' hb2 H1 H3
  generalize (w2.alloc (.cells #[.int .i64 1, .int .i64 3, .int .i64 0, .string ⟨#[]⟩, .string ⟨#[]⟩, .int .i64 0, .slice none 0 0, .string ⟨#[]⟩, .int .i64 0] 28)).alloc (.cells zRow10 34) = W3 at *
  generalize w2.heap.size = C at *
  refine wp_region_inv (ops := sops) (SI2 A C (C + 1) W3) (by kernel_rfl) (by kernel_rfl) sops_back ?_ (fun listed a w i hs h hr => SI2.step h i (by rw [← sops_size]; exact (ready_mem hr).1) hr) ?_
  · have hd : Below W3.heap.size W3 W3.drew := (Below.refl _ _).drew
    have hl : ∀ j, (Array.replicate sops.size false).getD j false = false := fun j => by
      rw [Array.getD_eq_getD_getElem?, Array.getElem?_replicate]; split <;> rfl
    refine ⟨⟨rfl, rfl, rfl, rfl, rfl, hd, (hd.block _ (lt_of_row H1b.out)).trans H1b.out, fun i hi h => ?_, fun h => ?_, fun h => ?_, H1b.out⟩, by rw [Array.size_replicate, sops_size]; decide, fun h => ?_⟩
    · rw [hl] at h; cases h
    · rw [hl] at h; cases h
    · rw [hl] at h; cases h
    · rw [hl] at h; cases h
  intro listed a W4 h2 hall
  have h := h2.1
  obtain ⟨p, f6, hp, hrow⟩ := h.b6 (hall 9 (by rw [sops_size]; decide))
  rw [hall 11 (by rw [sops_size]; decide), if_pos rfl] at hrow
  have HF := Lib.hid hrow
  have HB4 := Lib.hid (below_next H3b.out h.bel)
  have HA4 := Lib.hid ((h.bel.block _ (lt_of_row HA.out)).trans HA.out)
  have HE4 := Lib.hid ((h.bel.block _ (lt_of_row HE.out)).trans HE.out)
  obtain ⟨tm, df⟩ := a
  obtain rfl : df = [] := h.df
  obtain ⟨f, hf, hfd⟩ := frame_fun tm h.sz
  have g3 : f 3 = .pointer (some ⟨C, 0, none⟩) := (hfd 3).trans h.e3
  have g4 : f 4 = .pointer (some ⟨C + 1, 0, none⟩) := (hfd 4).trans h.e4
  have g6 : f 6 = .pointer (some ⟨p, 0, none⟩) := (hfd 6).trans f6
  clear hrow hp f6 hfd h h2 hall HA HE H1b H3b listed
  subst hf
  simp only [g3, g4, g6]
  have HSp4 := Lib.hid (HSp.out.below HB4.out)
  go_upto_region 5 with (first | (go_at_call 19; refine (apply_foo _ HSp4.out).mono ?_; rintro e w5 ⟨rfl, hb5⟩) | fail)
  have HG := Lib.hid (two1 w5 (.cells zRow9 28) (.cells #[.string ⟨#[101, 114, 114, 111, 114]⟩, .int .i64 2, .int .i64 0, .int .i64 0, .string ⟨#[117, 110, 100, 101, 102]⟩, .string ⟨#[]⟩, .int .i64 0, .slice none 0 0, .string ⟨#[]⟩, .int .i64 0] 34))
  have hbx := two_below w5 (.cells zRow9 28) (.cells #[.string ⟨#[101, 114, 114, 111, 114]⟩, .int .i64 2, .int .i64 0, .int .i64 0, .string ⟨#[117, 110, 100, 101, 102]⟩, .string ⟨#[]⟩, .int .i64 0, .slice none 0 0, .string ⟨#[]⟩, .int .i64 0] 34)
  have hb45 := Lib.hid (below_next hb5 hbx)
  clear hbx hb5
  generalize (w5.alloc (.cells zRow9 28)).alloc (.cells #[.string ⟨#[101, 114, 114, 111, 114]⟩, .int .i64 2, .int .i64 0, .int .i64 0, .string ⟨#[117, 110, 100, 101, 102]⟩, .string ⟨#[]⟩, .int .i64 0, .slice none 0 0, .string ⟨#[]⟩, .int .i64 0] 34) = W5 at *
  obtain ⟨G, hG⟩ : ∃ G, G = w5.heap.size := ⟨_, rfl⟩
  rw [← hG] at HG ⊢
  clear hG
  go_upto_region 6 with (first | (go_at_call 11; refine (bits_ab (g := W5.heap.size) (heap_alloc_new _ _)).mono ?_; rintro e w6 ⟨rfl, hb6⟩) | fail)
  have HT := Lib.hid (two0 w6 (.cells #[.int .i64 10, .int .i64 0, .int .i64 0, .string ⟨#[]⟩, .string ⟨#[]⟩, .int .i64 0, .slice none 0 0, .string ⟨#[97, 98]⟩, .int .i64 16] 28) (.cells zRow10 34))
  have HX := Lib.hid (two1 w6 (.cells #[.int .i64 10, .int .i64 0, .int .i64 0, .string ⟨#[]⟩, .string ⟨#[]⟩, .int .i64 0, .slice none 0 0, .string ⟨#[97, 98]⟩, .int .i64 16] 28) (.cells zRow10 34))
  have hb46 := below_next hb45.out (below_next (below_next ((Below.refl _ _).alloc (Nat.le_refl _) _) hb6) (two_below w6 (.cells #[.int .i64 10, .int .i64 0, .int .i64 0, .string ⟨#[]⟩, .string ⟨#[]⟩, .int .i64 0, .slice none 0 0, .string ⟨#[97, 98]⟩, .int .i64 16] 28) (.cells zRow10 34)))
  have hb56 := below_next (below_next ((Below.refl W5.heap.size W5).alloc (Nat.le_refl _) (.cells abR 30)) hb6) (two_below w6 (.cells #[.int .i64 10, .int .i64 0, .int .i64 0, .string ⟨#[]⟩, .string ⟨#[]⟩, .int .i64 0, .slice none 0 0, .string ⟨#[97, 98]⟩, .int .i64 16] 28) (.cells zRow10 34))
  have HG6 := Lib.hid ((hb56.block _ (lt_of_row HG.out)).trans HG.out)
  have HF6 := Lib.hid ((hb46.block _ (lt_of_row HF.out)).trans HF.out)
  have HA6 := Lib.hid ((hb46.block _ (lt_of_row HA4.out)).trans HA4.out)
  have HE6 := Lib.hid ((hb46.block _ (lt_of_row HE4.out)).trans HE4.out)
  have HB6 := Lib.hid (below_next HB4.out hb46)
  have HS6 := Lib.hid (HSp4.out.below hb46)
  clear hb46 hb56 hb45 hb6 HG HF HA4 HE4 HB4 HSp4 HSp
  generalize (w6.alloc (.cells #[.int .i64 10, .int .i64 0, .int .i64 0, .string ⟨#[]⟩, .string ⟨#[]⟩, .int .i64 0, .slice none 0 0, .string ⟨#[97, 98]⟩, .int .i64 16] 28)).alloc (.cells zRow10 34) = W6 at *
  obtain ⟨T, hT⟩ : ∃ T, T = w6.heap.size := ⟨_, rfl⟩
  rw [← hT] at HT HX ⊢
  clear hT
  have a0 : W6.cell? ⟨C, 0, none⟩ = some (.int .i64 1) := cell_of_row _ _ 0 _ _ _ HA6.out
  have a1 : W6.cell? ⟨C, 1, none⟩ = some (.int .i64 3) := cell_of_row _ _ 1 _ _ _ HA6.out
  have e0 : W6.cell? ⟨C + 1, 0, none⟩ = some (.string ⟨#[]⟩) := cell_of_row _ _ 0 _ _ _ HE6.out
  have f0 : W6.cell? ⟨p, 0, none⟩ = some (.string ⟨#[101, 114, 114, 111, 114]⟩) := cell_of_row _ _ 0 _ _ _ HF6.out
  have f4 : W6.cell? ⟨p, 4, none⟩ = some (.string ⟨#[98, 97, 100, 97, 114, 105, 116, 104]⟩) := cell_of_row _ _ 4 _ _ _ HF6.out
  have g4 : W6.cell? ⟨G + 1, 4, none⟩ = some (.string ⟨#[117, 110, 100, 101, 102]⟩) := cell_of_row _ _ 4 _ _ _ HG6.out
  have t7 : W6.cell? ⟨T, 7, none⟩ = some (.string ⟨#[97, 98]⟩) := cell_of_row _ _ 7 _ _ _ HT.out
  have t8 : W6.cell? ⟨T, 8, none⟩ = some (.int .i64 16) := cell_of_row _ _ 8 _ _ _ HT.out
  have x0 : W6.cell? ⟨T + 1, 0, none⟩ = some (.string ⟨#[]⟩) := cell_of_row _ _ 0 _ _ _ HX.out
  clear HT HX HA6 HE6 HG6 HF6
  have hc1 := class_any ⟨#[101, 108, 101, 109, 101, 110, 116]⟩ 2 W6 HS6.out (by decide) (by unfold I64; omega)
  rw [class_el] at hc1
  have hc2 := fun wx (hx : Below W6.heap.size W6 wx) => class_any ⟨#[115, 112, 97, 119, 110]⟩ 3 wx (HS6.out.below hx) (by decide) (by unfold I64; omega)
  rw [class_sp] at hc2
  have HC1 := Lib.hid hc1; have HC2 := Lib.hid hc2
  clear hc1 hc2
  go_wp2_with fail
  refine HC1.out.mono ?_
  rintro e w7 ⟨rfl, hb7⟩
  go_wp2_with fail
  refine (HC2.out _ hb7).mono ?_
  rintro e w8 ⟨rfl, hb8⟩
  go_wp2_with fail
  go_ret
  exact ⟨rfl, below_next (below_next HB6.out hb7) hb8⟩
end Go.Proofs.YthmpobimmbmddaaGreatDoor
namespace Go.Proofs.YthmpobimmbmddaaGreatDoor
open Go.RowKit

/-! ### A word between blanks -/
def Tw (ws : List (List UInt8)) : List UInt8 := 32 :: ws.flatMap fun w => w ++ [32]
theorem Tw_cons (w : List UInt8) (ws : List (List UInt8)) : Tw (w :: ws) = 32 :: (w ++ Tw ws) := by
  unfold Tw; rw [List.flatMap_cons, List.append_assoc]; rfl
theorem word_eq : ∀ {x w b c : List UInt8}, 32 ∉ x → 32 ∉ w → x ++ 32 :: b = w ++ 32 :: c → x = w
  | [], [], _, _, _, _, _ => rfl
  | [], y :: w, _, _, _, hw, h => by
    injection h with h1 _
    subst h1
    exact absurd List.mem_cons_self hw
  | y :: x, [], _, _, hx, _, h => by
    injection h with h1 _
    subst h1
    exact absurd List.mem_cons_self hx
  | y :: x, z :: w, b, c, hx, hw, h => by
    injection h with h1 h2
    subst h1
    rw [word_eq (fun h => hx (List.mem_cons_of_mem _ h)) (fun h => hw (List.mem_cons_of_mem _ h)) h2]
theorem infix_word {x : List UInt8} (hx : 32 ∉ x) : ∀ (ws : List (List UInt8)), (∀ w ∈ ws, 32 ∉ w) → ((32 :: (x ++ [32])) <:+: Tw ws ↔ x ∈ ws)
  | [], _ => by
    constructor
    · rintro ⟨a, b, h⟩
      have := congrArg List.length h
      simp [Tw] at this
      omega
    · intro h; cases h
  | w :: ws, hws => by
    have ih := infix_word hx ws (fun v hv => hws v (List.mem_cons_of_mem _ hv))
    have hw := hws w List.mem_cons_self
    rw [Tw_cons]
    constructor
    · rintro ⟨a, b, h⟩
      cases a with
      | nil =>
        have h2 : x ++ 32 :: b = w ++ 32 :: ws.flatMap (fun w => w ++ [32]) := by
          simp only [List.nil_append, List.cons_append, List.append_assoc, List.cons.injEq, true_and] at h
          exact h
        rw [word_eq hx hw h2]
        exact List.mem_cons_self
      | cons y a =>
        have h2 : a ++ (32 :: (x ++ [32]) ++ b) = w ++ Tw ws := by
          rw [List.cons_append, List.cons_append] at h
          injection h with _ h
          rw [← h, List.append_assoc]
        rcases List.append_eq_append_iff.1 h2 with ⟨c, h3, h4⟩ | ⟨c, h3, h4⟩
        · cases c with
          | nil =>
            rw [List.append_nil] at h3
            refine List.mem_cons_of_mem _ (ih.1 ⟨[], b, ?_⟩)
            rw [List.nil_append, h4]; rfl
          | cons z c =>
            rw [List.cons_append, List.cons_append] at h4
            injection h4 with h5 _
            subst h5
            exact absurd (by rw [h3]; exact List.mem_append_right _ List.mem_cons_self) hw
        · exact List.mem_cons_of_mem _ (ih.1 ⟨c, b, by rw [h4, List.append_assoc]⟩)
    · intro h
      rcases List.mem_cons.1 h with rfl | h
      · exact ⟨[], ws.flatMap (fun w => w ++ [32]), by simp [Tw]⟩
      · obtain ⟨a, b, e⟩ := ih.2 h
        exact ⟨32 :: (w ++ a), b, by rw [← e]; simp⟩
/-- Does a text contain another one, place by place? -/
def holdsB (s p : List UInt8) : Bool := decide (∃ i, i < s.length + 1 ∧ i + p.length ≤ s.length ∧ (s.drop i).take p.length = p)
theorem holdsB_infix (s p : List UInt8) : holdsB s p = decide (p <:+: s) := by
  unfold holdsB
  rw [decide_eq_decide]
  constructor
  · rintro ⟨i, _, _, h⟩
    exact ⟨s.take i, (s.drop i).drop p.length, by
        rw [← h, List.length_take]; rw [List.append_assoc]; conv => rhs; rw [← List.take_append_drop i s]
        congr 1
        have : min p.length (s.drop i).length = p.length := by
          have := congrArg List.length h
          rw [List.length_take] at this; exact this
        rw [this]; exact List.take_append_drop _ _⟩
  · rintro ⟨a, b, rfl⟩
    refine ⟨a.length, by simp only [List.length_append]; omega, by simp only [List.length_append]; omega, ?_⟩
    rw [List.append_assoc, List.drop_left, List.take_left]

/-! ### The classes -/
def wordsR (c : Nat) : List (List UInt8) := if c = 1 then words1 else if c = 2 then words2 else if c = 3 then words3 else if c = 4 then words4 else []
def namesR (c : Nat) : List UInt8 := Tw (wordsR c)
def wordR (s : ByteArray) (n : Nat) : List UInt8 := s.data.toList ++ [47, UInt8.ofNat (48 + n)]
/-- The class of a name with an arity, as the document says it. -/
def classR (s : ByteArray) (n : Int) : Int :=
  if nameB s = true ∧ 0 ≤ n ∧ n ≤ 9 then
    if wordR s n.toNat ∈ words1 then 1 else if wordR s n.toNat ∈ words2 then 2 else if wordR s n.toNat ∈ words3 then 3 else if wordR s n.toNat ∈ words4 then 4 else 0
  else 0
theorem tabAll_eq {c : Int} : ∀ (ws : List (List UInt8)) (t : List UInt8 → Int) (k : List UInt8), tabAll c ws t k = if k ∈ ws then c else t k
  | [], t, k => by rw [if_neg (by simp)]; rfl
  | x :: ws, t, k => by
    show tabAll c ws (tabPut t x c) k = _
    rw [tabAll_eq ws _ k]
    by_cases h : k ∈ ws
    · rw [if_pos h, if_pos (List.mem_cons_of_mem _ h)]
    · rw [if_neg h]
      unfold tabPut
      by_cases e : k = x
      · rw [if_pos e, if_pos (by rw [e]; exact List.mem_cons_self)]
      · rw [if_neg e, if_neg (fun hm => (List.mem_cons.1 hm).elim e h)]
theorem words_apart : ((words1.all fun x => !(words2.elem x) && !(words3.elem x) && !(words4.elem x)) && (words2.all fun x => !(words3.elem x) && !(words4.elem x)) && (words3.all fun x => !(words4.elem x))) = true := by decide +kernel
/-- A name, a slash, a digit. -/
def formW (w : List UInt8) : Bool :=
  match w.reverse with
  | d :: 47 :: r => decide (48 ≤ d.toNat ∧ d.toNat ≤ 57) && (decide (47 ∉ r) && nameB ⟨r.reverse.toArray⟩)
  | _ => false
theorem words_form : (words1 ++ (words2 ++ (words3 ++ words4))).all formW = true := by decide +kernel
theorem words_noblank : (words1 ++ (words2 ++ (words3 ++ words4))).all (fun w => decide (32 ∉ w)) = true := by decide +kernel
theorem formW_of {w : List UInt8} (h : formW w = true) : ∃ (r : List UInt8) (d : UInt8), w = r ++ [47, d] ∧ 48 ≤ d.toNat ∧ d.toNat ≤ 57 ∧ 47 ∉ r ∧ nameB ⟨r.toArray⟩ = true := by
  unfold formW at h
  split at h
  · rename_i d r e
    rw [Bool.and_eq_true, Bool.and_eq_true, decide_eq_true_eq, decide_eq_true_eq] at h
    have e2 := congrArg List.reverse e
    rw [List.reverse_reverse] at e2
    refine ⟨r.reverse, d, by rw [e2]; simp, h.1.1, h.1.2, by simpa using h.2.1, h.2.2⟩
  · cases h
theorem slash_eq : ∀ {x w b c : List UInt8}, 47 ∉ x → 47 ∉ w → x ++ 47 :: b = w ++ 47 :: c → x = w ∧ b = c
  | [], [], _, _, _, _, h => by injection h with _ h; exact ⟨rfl, h⟩
  | [], y :: w, _, _, _, hw, h => by
    injection h with h1 _
    subst h1
    exact absurd List.mem_cons_self hw
  | y :: x, [], _, _, hx, _, h => by
    injection h with h1 _
    subst h1
    exact absurd List.mem_cons_self hx
  | y :: x, z :: w, b, c, hx, hw, h => by
    injection h with h1 h2
    subst h1
    obtain ⟨e1, e2⟩ := slash_eq (fun h => hx (List.mem_cons_of_mem _ h)) (fun h => hw (List.mem_cons_of_mem _ h)) h2
    exact ⟨by rw [e1], e2⟩
theorem indexByte_neg : ∀ (l : List UInt8) (c : UInt8), (0 ≤ Lib.indexByte l c) ↔ c ∈ l
  | [], c => by simp [Lib.indexByte]
  | b :: l, c => by
    have ih := indexByte_neg l c
    have hg := Lib.indexByte_ge l c
    unfold Lib.indexByte
    by_cases e : (b == c) = true
    · rw [if_pos e]
      simp [eq_of_beq e]
    · rw [if_neg e]
      have hne : b ≠ c := fun h => e (by rw [h]; exact beq_self_eq_true c)
      rw [List.mem_cons, ← ih]
      by_cases z : (Lib.indexByte l c == -1) = true
      · rw [if_pos z]
        have := eq_of_beq z
        constructor
        · intro h; omega
        · rintro (h | h)
          · exact absurd h.symm hne
          · omega
      · rw [if_neg z]
        have : Lib.indexByte l c ≠ -1 := fun h => z (by rw [h]; rfl)
        constructor
        · intro h; exact .inr (by omega)
        · intro _; omega
theorem txt_digit {n : Int} (h0 : 0 ≤ n) (h9 : n ≤ 9) : txt n = [UInt8.ofNat (48 + n.toNat)] := by
  unfold txt
  rw [if_neg (by omega), dig_small (by omega)]
  unfold dgt
  rw [show n.natAbs % 10 = n.toNat by omega]
theorem dig_two {m : Nat} (h : ¬ m < 10) : 2 ≤ (dig m).length := by
  rw [dig_big h]
  have : 1 ≤ (dig (m / 10)).length := by
    by_cases h2 : m / 10 < 10
    · rw [dig_small h2]; simp
    · rw [dig_big h2]; simp
  simp; omega
theorem txt_one {n : Int} (hn : 0 ≤ n) {d : UInt8} (h : txt n = [d]) : n ≤ 9 ∧ d = UInt8.ofNat (48 + n.toNat) := by
  by_cases h9 : n ≤ 9
  · rw [txt_digit hn h9] at h; injection h with h _; exact ⟨h9, h.symm⟩
  · have := dig_two (m := n.natAbs) (by omega)
    unfold txt at h
    rw [if_neg (by omega)] at h
    rw [h] at this
    simp at this
theorem name_noslash {s : ByteArray} (h : nameB s = true) : 47 ∉ s.data.toList ∧ 32 ∉ s.data.toList := by
  unfold nameB at h
  rw [Bool.and_eq_true, decide_eq_true_eq] at h
  have : ∀ c ∈ s.data.toList, c ≠ 47 ∧ c ≠ 32 := fun c hc => by
    obtain ⟨j, hj, rfl⟩ := List.getElem_of_mem hc
    have hj2 : j < s.size := by simpa using hj
    have h1 := h.2 j hj2
    have e : s[j].toNat = s.data.toList[j].toNat := by rw [Array.getElem_toList]; rfl
    rw [e] at h1
    constructor
    · intro h2; rw [h2] at h1; unfold okAt at h1; revert h1; simp
    · intro h2; rw [h2] at h1; unfold okAt at h1; revert h1; simp
  exact ⟨fun h => (this _ h).1 rfl, fun h => (this _ h).2 rfl⟩
theorem mem_form {w : List UInt8} (h : w ∈ words1 ∨ w ∈ words2 ∨ w ∈ words3 ∨ w ∈ words4) : formW w = true := by
  refine List.all_eq_true.1 words_form w ?_
  rw [List.mem_append, List.mem_append, List.mem_append]
  exact h
theorem classB_classR (s : ByteArray) (n : Int) : classB s n = classR s n := by
  have hap := words_apart
  simp only [Bool.and_eq_true, List.all_eq_true, Bool.not_eq_true'] at hap
  obtain ⟨⟨hap1, hap2⟩, hap3⟩ := hap
  have el : ∀ {x : List UInt8} {l : List (List UInt8)}, l.elem x = false → x ∉ l := fun h hm => by rw [List.elem_eq_true_of_mem hm] at h; cases h
  unfold classB
  by_cases hneg : n < 0 ∨ 0 ≤ Lib.indexByte s.data.toList 47
  · rw [if_pos hneg]
    unfold classR
    rw [if_neg]
    rintro ⟨h1, h2, h3⟩
    rcases hneg with h | h
    · omega
    · exact (name_noslash h1).1 ((indexByte_neg _ _).1 h)
  · rw [if_neg hneg]
    have hn0 : 0 ≤ n := by omega
    have hns : 47 ∉ s.data.toList := fun h => hneg (.inr ((indexByte_neg _ _).2 h))
    unfold classT
    rw [tabAll_eq, tabAll_eq, tabAll_eq, tabAll_eq]
    by_cases hm : (s.data.toList ++ [47] ++ txt n) ∈ words1 ∨ (s.data.toList ++ [47] ++ txt n) ∈ words2 ∨ (s.data.toList ++ [47] ++ txt n) ∈ words3 ∨ (s.data.toList ++ [47] ++ txt n) ∈ words4
    · obtain ⟨r, d, e, hd1, hd2, hr, hname⟩ := formW_of (mem_form hm)
      have e2 : s.data.toList ++ 47 :: txt n = r ++ 47 :: [d] := by rw [← e]; simp
      obtain ⟨e3, e4⟩ := slash_eq hns hr e2
      obtain ⟨h9, hd⟩ := txt_one hn0 e4
      have hv : nameB s = true := by
        have : s = ⟨r.toArray⟩ := by rw [← e3]
        rw [this]; exact hname
      have ew : s.data.toList ++ [47] ++ txt n = wordR s n.toNat := by unfold wordR; rw [e4, hd]; simp
      rw [ew] at hm ⊢
      have ecl : classR s n = if wordR s n.toNat ∈ words1 then 1 else if wordR s n.toNat ∈ words2 then 2 else if wordR s n.toNat ∈ words3 then 3 else if wordR s n.toNat ∈ words4 then 4 else 0 := by
        unfold classR; rw [if_pos ⟨hv, hn0, h9⟩]
      rw [ecl]
      clear ecl
      generalize wordR s n.toNat = x at *
      by_cases m1 : x ∈ words1
      · obtain ⟨⟨a, b⟩, c⟩ := hap1 x m1
        have a' := el a; have b' := el b; have c' := el c
        simp only [m1, a', b', c', if_true, if_false]
      · by_cases m2 : x ∈ words2
        · obtain ⟨a, b⟩ := hap2 x m2
          have a' := el a; have b' := el b
          simp only [m1, m2, a', b', if_true, if_false]
        · by_cases m3 : x ∈ words3
          · have a' := el (hap3 x m3)
            simp only [m1, m2, m3, a', if_true, if_false]
          · by_cases m4 : x ∈ words4
            · simp only [m1, m2, m3, m4, if_true, if_false]
            · rcases hm with h | h | h | h <;> contradiction
    · have h1 : ∀ {c : Prop} [Decidable c] {a b : Int}, ¬ c → (if c then a else b) = b := fun h => if_neg h
      rw [if_neg (fun h => hm (.inr (.inr (.inr h)))), if_neg (fun h => hm (.inr (.inr (.inl h)))), if_neg (fun h => hm (.inr (.inl h))), if_neg (fun h => hm (.inl h))]
      unfold classR
      by_cases hc : nameB s = true ∧ 0 ≤ n ∧ n ≤ 9
      · rw [if_pos hc]
        have ew : s.data.toList ++ [47] ++ txt n = wordR s n.toNat := by unfold wordR; rw [txt_digit hc.2.1 hc.2.2]; simp
        rw [ew] at hm
        rw [if_neg (fun h => hm (.inl h)), if_neg (fun h => hm (.inr (.inl h))), if_neg (fun h => hm (.inr (.inr (.inl h)))), if_neg (fun h => hm (.inr (.inr (.inr h))))]
      · rw [if_neg hc]
/-- A text of a class contains a name's word just if the class has it. -/
theorem holds_word {s : ByteArray} (hs : nameB s = true) {n : Nat} (hn : n ≤ 9) {c : Nat} (hc : 1 ≤ c ∧ c ≤ 4) : holdsB (namesR c) (32 :: (wordR s n ++ [32])) = decide (wordR s n ∈ wordsR c) := by
  rw [holdsB_infix, decide_eq_decide]
  refine infix_word ?_ _ (fun w hw => ?_)
  · unfold wordR
    intro h
    rw [List.mem_append] at h
    rcases h with h | h
    · exact (name_noslash hs).2 h
    · have : ∀ k, k ≤ 9 → (32 : UInt8) ∉ [47, UInt8.ofNat (48 + k)] := by decide
      exact this n hn h
  · refine of_decide_eq_true (List.all_eq_true.1 words_noblank w ?_)
    rw [List.mem_append, List.mem_append, List.mem_append]
    unfold wordsR at hw
    rcases (show c = 1 ∨ c = 2 ∨ c = 3 ∨ c = 4 by omega) with rfl | rfl | rfl | rfl
    · exact .inl hw
    · exact .inr (.inl hw)
    · exact .inr (.inr (.inl hw))
    · exact .inr (.inr (.inr hw))
end Go.Proofs.YthmpobimmbmddaaGreatDoor
