/-
  shown: the region that draws its order, by an invariant over what has come up (printed by gen_psreg.py).
-/
import Derived.Test.YthmpobimmbmddaaGreatDoorPFoo
import Derived.Test.YthmpobimmbmddaaGreatDoorVRegion
import Derived.Test.YthmpobimmbmddaaGreatDoorTCap
namespace Go.Proofs.YthmpobimmbmddaaGreatDoor
open Go.RowKit
set_option linter.unusedVariables false
set_option linter.unusedSimpArgs false

abbrev frBad : Array Value := #[.string ⟨#[101, 114, 114, 111, 114]⟩, .int .i64 2, .int .i64 0, .int .i64 0, .string ⟨#[98, 97, 100, 97, 114, 105, 116, 104]⟩, .string ⟨#[]⟩, .int .i64 0, .slice none 0 0, .string ⟨#[]⟩, .int .i64 0]
theorem rint_is (n : Int) (w : World) : Calls Tryz.prog 17 #[.int .i64 n] w fun e w' => e = .returned (intV n) ∧ Below w.heap.size w w' := by
  go_enter Tryz.func17, Tryz.ntmps17
  go_wp2_with fail
  refine bodyPost_ret (results_cell_row rfl _ _ w.heap.size _ _ _ _ rfl (heap_alloc_new _ _) Tryz.underlying28 rfl (by kernel_rfl)) rfl ?_
  exact ⟨rfl, (Below.refl _ _).alloc (Nat.le_refl _) _⟩
def intT (n : Int) : Tm := .mk 1 n 0 ⟨#[]⟩ ⟨#[]⟩ 0 [] ⟨#[]⟩ 0
theorem intT_ok (n : Int) (h : I64 n) : (intT n).Ok := by
  have z : I64 0 := by unfold I64; omega
  have o : I64 1 := by unfold I64; omega
  have e : (ByteArray.mk #[]).size ≤ maxLen := by decide
  exact ⟨o, h, z, e, e, z, (by show 0 ≤ maxLen; decide), e, z⟩
/-- Two integers in a row. -/
abbrev twoR (a b : Int) : Array Value := #[.int .i64 1, .int .i64 a, .int .i64 0, .string ⟨#[]⟩, .string ⟨#[]⟩, .int .i64 0, .slice none 0 0, .string ⟨#[]⟩, .int .i64 0, .int .i64 1, .int .i64 b, .int .i64 0, .string ⟨#[]⟩, .string ⟨#[]⟩, .int .i64 0, .slice none 0 0, .string ⟨#[]⟩, .int .i64 0]
theorem two_sl {w : World} {g : Nat} {a b : Int} (ha : I64 a) (hb : I64 b) (h : w.heap[g]? = some (.cells (twoR a b) 28 (0, 0))) : SlAt w 9 (TmAt w 1) (some ⟨g, 0, none⟩) [intT a, intT b] := by
  refine .inr ⟨g, 0, rfl, lt_of_row h, fun j hj => ?_⟩
  have hj2 : j = 0 ∨ j = 1 := by simp at hj; omega
  rcases hj2 with rfl | rfl
  · refine ⟨[.int .i64 1, .int .i64 a, .int .i64 0, .string ⟨#[]⟩, .string ⟨#[]⟩, .int .i64 0, .slice none 0 0, .string ⟨#[]⟩, .int .i64 0], rfl, fun i hi => ?_, ⟨none, 0, rfl, .nil _ _ _ _⟩, intT_ok a ha⟩
    rw [cell_of_row _ _ _ _ _ _ h]
    match i, hi with
    | 0, _ => rfl
    | 1, _ => rfl
    | 2, _ => rfl
    | 3, _ => rfl
    | 4, _ => rfl
    | 5, _ => rfl
    | 6, _ => rfl
    | 7, _ => rfl
    | 8, _ => rfl
  · refine ⟨[.int .i64 1, .int .i64 b, .int .i64 0, .string ⟨#[]⟩, .string ⟨#[]⟩, .int .i64 0, .slice none 0 0, .string ⟨#[]⟩, .int .i64 0], rfl, fun i hi => ?_, ⟨none, 0, rfl, .nil _ _ _ _⟩, intT_ok b hb⟩
    rw [cell_of_row _ _ _ _ _ _ h]
    match i, hi with
    | 0, _ => rfl
    | 1, _ => rfl
    | 2, _ => rfl
    | 3, _ => rfl
    | 4, _ => rfl
    | 5, _ => rfl
    | 6, _ => rfl
    | 7, _ => rfl
    | 8, _ => rfl
theorem two_kind {a b : Int} : ∀ t ∈ [intT a, intT b], t.kind = 1 := by intro t h; simp at h; rcases h with rfl | rfl <;> rfl
theorem two_valid {a b : Int} : ∀ t ∈ [intT a, intT b], validF 1 t = true := by intro t h; simp at h; rcases h with rfl | rfl <;> rfl
theorem two_cap {a b : Int} : ∀ t ∈ [intT a, intT b], capF 1 t ≤ 1000 := by intro t h; simp at h; rcases h with rfl | rfl <;> (show 300 + 0 + sumN [] ≤ 1000; decide)
theorem apply_12 {w : World} {g : Nat} (h : w.heap[g]? = some (.cells (twoR 1 2) 28 (0, 0))) : Calls Tryz.prog 19 #[zeroV, .string ⟨#[43]⟩, .slice (some ⟨g, 0, none⟩) 2 2] w fun e w' => e = .returned (.tuple #[intV 3, noneV]) ∧ Below w.heap.size w w' :=
  apply_add [intT 1, intT 2] (some ⟨g, 0, none⟩) 2 w (two_sl (by unfold I64; omega) (by unfold I64; omega) h) rfl two_kind two_valid two_cap rfl rfl
theorem apply_10 {w : World} {g : Nat} (h : w.heap[g]? = some (.cells (twoR 1 0) 28 (0, 0))) : Calls Tryz.prog 19 #[zeroV, .string ⟨#[100, 105, 118]⟩, .slice (some ⟨g, 0, none⟩) 2 2] w fun e w' => e = .returned (.tuple #[zeroV, failV ⟨#[98, 97, 100, 97, 114, 105, 116, 104]⟩]) ∧ Below w.heap.size w w' :=
  apply_div [intT 1, intT 0] (some ⟨g, 0, none⟩) 2 w (two_sl (by unfold I64; omega) (by unfold I64; omega) h) rfl two_kind two_valid two_cap rfl rfl

noncomputable def sops : Array Oper := (Tryz.f6.body.map (regOps 3)).getD #[]
theorem sops_size : sops.size = 12 := by kernel_rfl
theorem sops_back : backOk .any sops = true := by kernel_rfl
/-- What a slot holds once its operation has come up. -/
inductive SFct where
  | val (v : Value)
  | two
def SFct.holds (w : World) (v : Value) : SFct → Prop
  | .val u => v = u
  | .two => ∃ g, v = .slice (some ⟨g, 0, none⟩) 2 2 ∧ w.heap[g]? = some (.cells (twoR 1 0) 28 (0, 0))
theorem SFct.below {w w' : World} {v : Value} (hb : Below w.heap.size w w') : ∀ {f : SFct}, f.holds w v → f.holds w' v
  | .val _, h => h
  | .two, ⟨g, e, h⟩ => ⟨g, e, (hb.block _ (lt_of_row h)).trans h⟩
abbrev resBad : Value := .tuple #[zeroV, failV ⟨#[98, 97, 100, 97, 114, 105, 116, 104]⟩]
def stab : Nat → SFct
  | 0 => .val zeroV
  | 1 => .val (intV 1)
  | 2 => .val (intV 0)
  | 3 => .two
  | 4 => .val resBad
  | 5 => .val resBad
  | 6 => .val zeroV
  | _ => .val (failV ⟨#[98, 97, 100, 97, 114, 105, 116, 104]⟩)
def sdst : Nat → Nat
  | 0 => 22
  | 1 => 23
  | 2 => 24
  | 3 => 25
  | 4 => 26
  | 5 => 21
  | 6 => 27
  | 7 => 28
  | 8 => 5
  | _ => 6
theorem sdst_lt : ∀ j, j < 10 → sdst j < 93 ∧ sdst j ≠ 1 ∧ sdst j ≠ 3 ∧ sdst j ≠ 4 ∧ ∀ k, k < 10 → k ≠ j → sdst k ≠ sdst j := by decide
/-- THE INVARIANT. A: the block of one; C, E: those of a and e. -/
structure SI (A C E : Nat) (W3 : World) (listed : Array Bool) (a : Act) (w : World) : Prop where
  sz : a.tmps.size = 93
  df : a.defers = []
  e1 : a.eval (.tmp 1) = .pointer (some ⟨A, 0, none⟩)
  e3 : a.eval (.tmp 3) = .pointer (some ⟨C, 0, none⟩)
  e4 : a.eval (.tmp 4) = .pointer (some ⟨E, 0, none⟩)
  bel : Below W3.heap.size W3 w
  one : w.heap[A]? = some (.cells #[.int .i64 1, .int .i64 1, .int .i64 0, .string ⟨#[]⟩, .string ⟨#[]⟩, .int .i64 0, .slice none 0 0, .string ⟨#[]⟩, .int .i64 0] 28 (0, 0))
  fc : ∀ i, i < 8 → listed.getD i false = true → (stab i).holds w (a.eval (.tmp (sdst i)))
  b5 : listed.getD 8 false = true → ∃ p, a.eval (.tmp 5) = .pointer (some ⟨p, 0, none⟩) ∧ W3.heap.size ≤ p ∧ (listed.getD 10 false = false → w.heap[p]? = some (.cells zRow9 28 (0, 0)))
  b6 : listed.getD 9 false = true → ∃ p, a.eval (.tmp 6) = .pointer (some ⟨p, 0, none⟩) ∧ W3.heap.size ≤ p ∧ w.heap[p]? = some (.cells (if listed.getD 11 false = true then frBad else zRow10) 34 (0, 0))
  oneW : W3.heap[A]? = some (.cells #[.int .i64 1, .int .i64 1, .int .i64 0, .string ⟨#[]⟩, .string ⟨#[]⟩, .int .i64 0, .slice none 0 0, .string ⟨#[]⟩, .int .i64 0] 28 (0, 0))
theorem ite_size (b : Bool) : (if b = true then frBad else zRow10).size = frBad.size := by cases b <;> rfl
theorem getD_other {l : Array Bool} {i j : Nat} (h : j ≠ i) : (l.setIfInBounds i true).getD j false = l.getD j false := by
  rw [Array.getD_eq_getD_getElem?, Array.getElem?_setIfInBounds_ne (fun e => h e.symm), ← Array.getD_eq_getD_getElem?]
/-- What is kept by an operation with a slot. -/
theorem SI.put {A C E : Nat} {W3 : World} {listed : Array Bool} {a : Act} {w : World} (h : SI A C E W3 listed a w) (i : Nat) (hi : i < 10) (v : Value) (w' : World) (hb : Below w.heap.size w w') (hv : i < 8 → (stab i).holds w' v)
    (h8 : i = 8 → ∃ p, v = .pointer (some ⟨p, 0, none⟩) ∧ W3.heap.size ≤ p ∧ w'.heap[p]? = some (.cells zRow9 28 (0, 0))) (h9 : i = 9 → ∃ p, v = .pointer (some ⟨p, 0, none⟩) ∧ W3.heap.size ≤ p ∧ w'.heap[p]? = some (.cells zRow10 34 (0, 0))) (hno : listed.getD 11 false = false) :
    SI A C E W3 (listed.setIfInBounds i true) (a.put (some (sdst i)) v) w' := by
  obtain ⟨hd, n1, n3, n4, hdd⟩ := sdst_lt i hi
  have hd' : sdst i < a.tmps.size := by rw [h.sz]; exact hd
  refine ⟨?_, h.df, ?_, ?_, ?_, below_next h.bel hb, (hb.block _ (lt_of_row h.one)).trans h.one, fun j hj hl => ?_, fun hl => ?_, fun hl => ?_, h.oneW⟩
  · show (a.tmps.setIfInBounds _ _).size = 93
    rw [Array.size_setIfInBounds]; exact h.sz
  · rw [eval_put _ _ _ _ hd', if_neg (fun e => n1 e.symm)]; exact h.e1
  · rw [eval_put _ _ _ _ hd', if_neg (fun e => n3 e.symm)]; exact h.e3
  · rw [eval_put _ _ _ _ hd', if_neg (fun e => n4 e.symm)]; exact h.e4
  · rw [eval_put _ _ _ _ hd']
    by_cases c : j = i
    · subst c; rw [if_pos rfl]; exact hv hj
    · rw [if_neg (hdd j (by omega) c)]
      rw [getD_other c] at hl
      exact SFct.below hb (h.fc j hj hl)
  · rw [show (5 : Nat) = sdst 8 from rfl, eval_put _ _ _ _ hd']
    by_cases c : 8 = i
    · subst c; rw [if_pos rfl]
      obtain ⟨p, e1, e2, e3⟩ := h8 rfl
      exact ⟨p, e1, e2, fun _ => e3⟩
    · rw [if_neg (hdd 8 (by omega) c)]
      rw [getD_other c] at hl
      obtain ⟨p, e1, e2, e3⟩ := h.b5 hl
      refine ⟨p, e1, e2, fun h10 => ?_⟩
      rw [getD_other (by omega)] at h10
      exact (hb.block _ (lt_of_row (e3 h10))).trans (e3 h10)
  · rw [show (6 : Nat) = sdst 9 from rfl, eval_put _ _ _ _ hd', getD_other (by omega), hno]
    by_cases c : 9 = i
    · subst c; rw [if_pos rfl]
      exact h9 rfl
    · rw [if_neg (hdd 9 (by omega) c)]
      rw [getD_other c] at hl
      obtain ⟨p, e1, e2, e3⟩ := h.b6 hl
      rw [hno] at e3
      exact ⟨p, e1, e2, (hb.block _ (lt_of_row e3)).trans e3⟩
noncomputable def sdepB (i d : Nat) : Bool := match sops[i]? with
  | some o => o.after.any fun e => Region.binds .any e && e.on == d
  | none => false
theorem sdep {listed : Array Bool} {i : Nat} (d : Nat) (hr : i ∈ Region.ready .any sops listed) (h : sdepB i d = true) : listed.getD d false = true := by
  unfold sdepB at h
  cases ho : sops[i]? with
  | none => rw [ho] at h; cases h
  | some o =>
    rw [ho] at h
    obtain ⟨e, he, hb⟩ := Array.any_eq_true'.1 (show o.after.any (fun e => Region.binds .any e && e.on == d) = true from h)
    rw [Bool.and_eq_true, beq_iff_eq] at hb
    rw [← hb.2]
    exact (ready_mem hr).2.2 o ho e he hb.1
theorem wp_run' {P : Program} {o : Oper} {a : Act} {w w' : World} {K : Act → World → Prop} {Q : Exit → Act → World → Prop} {v : Value} (hrun : (execOp a.eval o).run P w = .ok (.value v) w') (h : K (a.put o.dst v) w') : o.wp P a w K Q := by
  unfold Oper.wp
  rw [hrun]
  exact h
theorem info_two {P : Program} {t : TypeId} {z : Value} {n : Nat} (h : (P.info? t).map (fun i => (i.zero, i.size)) = some (some z, n)) : ∃ i, P.info? t = some i ∧ i.zero = some z ∧ i.size = n := by
  cases hi : P.info? t with
  | none => rw [hi] at h; cases h
  | some i =>
    rw [hi] at h
    have h := Option.some.inj h
    exact ⟨i, rfl, congrArg Prod.fst h, congrArg Prod.snd h⟩
theorem infoTerm2 : (Tryz.prog.info? 28).map (fun i => (i.zero, i.size)) = some (some (.agg zRow9), 9) := by kernel_rfl
/-- Store 11 comes last: while another operation may come up it has not. -/
theorem not_last {listed : Array Bool} {i : Nat} (hcl : listed.getD 11 false = true → ∀ j, j < 11 → listed.getD j false = true) (hr : i ∈ Region.ready .any sops listed) (hi : i < 11) : listed.getD 11 false = false := by
  cases h : listed.getD 11 false with
  | false => rfl
  | true =>
    have h1 := hcl h i hi
    have h2 := (ready_mem hr).2.1
    rw [Array.getD_eq_getD_getElem?] at h1 h2
    cases hx : listed[i]? with
    | none => rw [hx] at h1; cases h1
    | some b => rw [hx] at h1 h2; simp at h1 h2; rw [h1] at h2; cases h2
section
variable {A C E : Nat} {W3 : World} {listed : Array Bool} {a : Act} {w : World} {Q : Exit → Act → World → Prop}
set_option maxRecDepth 100000 in
theorem sst0 (hsz : 11 < listed.size) (h : SI A C E W3 listed a w) (hcl : listed.getD 11 false = true → ∀ j, j < 11 → listed.getD j false = true) (hr : 0 ∈ Region.ready .any sops listed) : wpOp Tryz.prog sops Q 0 (fun a' w' => SI A C E W3 (listed.setIfInBounds 0 true) a' w') a w := by
  have hno := not_last hcl hr (by decide)
  refine wpOp_of (o := _) rfl rfl ?_
  refine wp_run' (v := zeroV) (w' := w) (by kernel_rfl) ?_
  exact h.put 0 (by decide) _ _ (Below.refl _ _) (fun _ => rfl) (fun e => by cases e) (fun e => by cases e) hno
set_option maxRecDepth 100000 in
theorem sst1 (hsz : 11 < listed.size) (h : SI A C E W3 listed a w) (hcl : listed.getD 11 false = true → ∀ j, j < 11 → listed.getD j false = true) (hr : 1 ∈ Region.ready .any sops listed) : wpOp Tryz.prog sops Q 1 (fun a' w' => SI A C E W3 (listed.setIfInBounds 1 true) a' w') a w := by
  have hno := not_last hcl hr (by decide)
  refine wpOp_of (o := _) rfl rfl ?_
  refine wp_load_row 28 (.tmp 1) rfl A h.e1 28 _ _ _ h.one Tryz.underlying28 rfl (by kernel_rfl) ?_
  exact h.put 1 (by decide) _ _ (Below.refl _ _) (fun _ => rfl) (fun e => by cases e) (fun e => by cases e) hno
set_option maxRecDepth 100000 in
theorem sst2 (hsz : 11 < listed.size) (h : SI A C E W3 listed a w) (hcl : listed.getD 11 false = true → ∀ j, j < 11 → listed.getD j false = true) (hr : 2 ∈ Region.ready .any sops listed) : wpOp Tryz.prog sops Q 2 (fun a' w' => SI A C E W3 (listed.setIfInBounds 2 true) a' w') a w := by
  have hno := not_last hcl hr (by decide)
  refine wpOp_of (o := _) rfl rfl ?_
  refine wp_call' 17 #[.int .i64 0] (by kernel_rfl) (fun v w'' => v = intV 0 ∧ Below w.heap.size w w'') ((rint_is 0 w).mono fun e w'' hh => ⟨_, hh.1, rfl, hh.2⟩) ?_
  rintro v w'' ⟨rfl, hb⟩
  exact h.put 2 (by decide) _ _ hb (fun _ => rfl) (fun e => by cases e) (fun e => by cases e) hno
set_option maxRecDepth 100000 in
theorem sst3 (hsz : 11 < listed.size) (h : SI A C E W3 listed a w) (hcl : listed.getD 11 false = true → ∀ j, j < 11 → listed.getD j false = true) (hr : 3 ∈ Region.ready .any sops listed) : wpOp Tryz.prog sops Q 3 (fun a' w' => SI A C E W3 (listed.setIfInBounds 3 true) a' w') a w := by
  have hno := not_last hcl hr (by decide)
  refine wpOp_of (o := _) rfl rfl ?_
  have f1 : a.eval (.tmp 23) = _ := h.fc 1 (by decide) (sdep 1 hr (by kernel_rfl))
  have f2 : a.eval (.tmp 24) = _ := h.fc 2 (by decide) (sdep 2 hr (by kernel_rfl))
  obtain ⟨ie, hie, hz0, hz1⟩ := info_two infoTerm2
  refine wp_buildSlice _ _ _ _ rfl (twoR 1 0) ie _ Tryz.underlying26 hie hz0 (by rw [hz1]; decide) (by rw [hz1]; decide) ?_ ?_
  · rw [hz1]
    simp only [List.map_toArray, List.map_cons, List.map_nil, f1, f2]
    kernel_rfl
  exact h.put 3 (by decide) _ _ ((Below.refl _ _).alloc (Nat.le_refl _) _) (fun _ => ⟨_, rfl, heap_alloc_new _ _⟩) (fun e => by cases e) (fun e => by cases e) hno
set_option maxRecDepth 100000 in
theorem sst4 (hsz : 11 < listed.size) (h : SI A C E W3 listed a w) (hcl : listed.getD 11 false = true → ∀ j, j < 11 → listed.getD j false = true) (hr : 4 ∈ Region.ready .any sops listed) : wpOp Tryz.prog sops Q 4 (fun a' w' => SI A C E W3 (listed.setIfInBounds 4 true) a' w') a w := by
  have hno := not_last hcl hr (by decide)
  refine wpOp_of (o := _) rfl rfl ?_
  have f0 : a.eval (.tmp 22) = _ := h.fc 0 (by decide) (sdep 0 hr (by kernel_rfl))
  obtain ⟨g, f3, hg⟩ := h.fc 3 (by decide) (sdep 3 hr (by kernel_rfl))
  have f3 : a.eval (.tmp 25) = .slice (some ⟨g, 0, none⟩) 2 2 := f3
  refine wp_call' 19 #[zeroV, .string ⟨#[100, 105, 118]⟩, .slice (some ⟨g, 0, none⟩) 2 2] (by
    rw [← f3, ← f0]
    kernel_rfl) (fun v w'' => v = resBad ∧ Below w.heap.size w w'') ((apply_10 hg).mono fun e w'' hh => ⟨_, hh.1, rfl, hh.2⟩) ?_
  rintro v w'' ⟨rfl, hb⟩
  exact h.put 4 (by decide) _ _ hb (fun _ => rfl) (fun e => by cases e) (fun e => by cases e) hno
set_option maxRecDepth 100000 in
theorem sst5 (hsz : 11 < listed.size) (h : SI A C E W3 listed a w) (hcl : listed.getD 11 false = true → ∀ j, j < 11 → listed.getD j false = true) (hr : 5 ∈ Region.ready .any sops listed) : wpOp Tryz.prog sops Q 5 (fun a' w' => SI A C E W3 (listed.setIfInBounds 5 true) a' w') a w := by
  have hno := not_last hcl hr (by decide)
  refine wpOp_of (o := _) rfl rfl ?_
  have f4 : a.eval (.tmp 26) = _ := h.fc 4 (by decide) (sdep 4 hr (by kernel_rfl))
  refine wp_move _ rfl ?_
  exact h.put 5 (by decide) _ _ (Below.refl _ _) (fun _ => f4) (fun e => by cases e) (fun e => by cases e) hno
set_option maxRecDepth 100000 in
theorem sst6 (hsz : 11 < listed.size) (h : SI A C E W3 listed a w) (hcl : listed.getD 11 false = true → ∀ j, j < 11 → listed.getD j false = true) (hr : 6 ∈ Region.ready .any sops listed) : wpOp Tryz.prog sops Q 6 (fun a' w' => SI A C E W3 (listed.setIfInBounds 6 true) a' w') a w := by
  have hno := not_last hcl hr (by decide)
  refine wpOp_of (o := _) rfl rfl ?_
  have f5 : a.eval (.tmp 21) = _ := h.fc 5 (by decide) (sdep 5 hr (by kernel_rfl))
  refine wp_run' (v := zeroV) (w' := w) ?_ ?_
  · have hm : execOp a.eval (sops[6]'(by rw [sops_size]; decide)) = (Next.value <$> Instr.extract (a.eval (.tmp 21)) 0 : Sem Next) := by kernel_rfl
    refine (congrArg (fun s : Sem Next => s.run Tryz.prog w) hm).trans ?_
    rw [f5]
    kernel_rfl
  exact h.put 6 (by decide) _ _ (Below.refl _ _) (fun _ => rfl) (fun e => by cases e) (fun e => by cases e) hno
set_option maxRecDepth 100000 in
theorem sst7 (hsz : 11 < listed.size) (h : SI A C E W3 listed a w) (hcl : listed.getD 11 false = true → ∀ j, j < 11 → listed.getD j false = true) (hr : 7 ∈ Region.ready .any sops listed) : wpOp Tryz.prog sops Q 7 (fun a' w' => SI A C E W3 (listed.setIfInBounds 7 true) a' w') a w := by
  have hno := not_last hcl hr (by decide)
  refine wpOp_of (o := _) rfl rfl ?_
  have f5 : a.eval (.tmp 21) = _ := h.fc 5 (by decide) (sdep 5 hr (by kernel_rfl))
  refine wp_run' (v := failV ⟨#[98, 97, 100, 97, 114, 105, 116, 104]⟩) (w' := w) ?_ ?_
  · have hm : execOp a.eval (sops[7]'(by rw [sops_size]; decide)) = (Next.value <$> Instr.extract (a.eval (.tmp 21)) 1 : Sem Next) := by kernel_rfl
    refine (congrArg (fun s : Sem Next => s.run Tryz.prog w) hm).trans ?_
    rw [f5]
    kernel_rfl
  exact h.put 7 (by decide) _ _ (Below.refl _ _) (fun _ => rfl) (fun e => by cases e) (fun e => by cases e) hno
set_option maxRecDepth 100000 in
theorem sst8 (hsz : 11 < listed.size) (h : SI A C E W3 listed a w) (hcl : listed.getD 11 false = true → ∀ j, j < 11 → listed.getD j false = true) (hr : 8 ∈ Region.ready .any sops listed) : wpOp Tryz.prog sops Q 8 (fun a' w' => SI A C E W3 (listed.setIfInBounds 8 true) a' w') a w := by
  have hno := not_last hcl hr (by decide)
  refine wpOp_of (o := _) rfl rfl ?_
  refine wp_run' (v := .pointer (some ⟨w.heap.size, 0, none⟩)) (w' := w.alloc (.cells zRow9 28)) (by kernel_rfl) ?_
  exact h.put 8 (by decide) _ _ ((Below.refl _ _).alloc (Nat.le_refl _) _) (fun e => absurd e (by decide)) (fun _ => ⟨_, rfl, h.bel.size, heap_alloc_new _ _⟩) (fun e => by cases e) hno
set_option maxRecDepth 100000 in
theorem sst9 (hsz : 11 < listed.size) (h : SI A C E W3 listed a w) (hcl : listed.getD 11 false = true → ∀ j, j < 11 → listed.getD j false = true) (hr : 9 ∈ Region.ready .any sops listed) : wpOp Tryz.prog sops Q 9 (fun a' w' => SI A C E W3 (listed.setIfInBounds 9 true) a' w') a w := by
  have hno := not_last hcl hr (by decide)
  refine wpOp_of (o := _) rfl rfl ?_
  refine wp_run' (v := .pointer (some ⟨w.heap.size, 0, none⟩)) (w' := w.alloc (.cells zRow10 34)) (by kernel_rfl) ?_
  exact h.put 9 (by decide) _ _ ((Below.refl _ _).alloc (Nat.le_refl _) _) (fun e => absurd e (by decide)) (fun e => by cases e) (fun _ => ⟨_, rfl, h.bel.size, heap_alloc_new _ _⟩) hno
set_option maxRecDepth 100000 in
theorem sst10 (hsz : 11 < listed.size) (h : SI A C E W3 listed a w) (hcl : listed.getD 11 false = true → ∀ j, j < 11 → listed.getD j false = true) (hr : 10 ∈ Region.ready .any sops listed) : wpOp Tryz.prog sops Q 10 (fun a' w' => SI A C E W3 (listed.setIfInBounds 10 true) a' w') a w := by
  have hno := not_last hcl hr (by decide)
  refine wpOp_of (o := _) rfl rfl ?_
  have hd := fun d (h1 : sdepB 10 d = true) => sdep d hr h1
  have h10 : listed.getD 10 false = false := by
    have h2 := (ready_mem hr).2.1
    rw [Array.getD_eq_getD_getElem?] at h2 ⊢
    cases hx : listed[10]? with
    | none => rfl
    | some b => rw [hx] at h2; simpa using h2
  obtain ⟨p, e1, e2, e3⟩ := h.b5 (hd 8 (by kernel_rfl))
  obtain ⟨p6, g1, g2, g3⟩ := h.b6 (hd 9 (by kernel_rfl))
  rw [hno] at g3
  have f6 : a.eval (.tmp 27) = zeroV := h.fc 6 (by decide) (hd 6 (by kernel_rfl))
  have hne : p6 ≠ p := by intro e; rw [e, e3 h10] at g3; injection g3 with g3; injection g3 with _ g3 _; exact absurd g3 (by decide)
  refine wp_store_row 28 (.tmp 5) (.tmp 27) rfl p zRow9 e1 f6 28 _ (e3 h10) (by kernel_rfl) rfl (by simp [Value.oneCell']) ?_
  have hA : A ≠ p := by intro e; have h1 := h.oneW; rw [e] at h1; have := lt_of_row h1; omega
  refine ⟨h.sz, h.df, h.e1, h.e3, h.e4, below_setRow h.bel e2 _, by rw [setRow_other _ _ _ _ hA]; exact h.one, fun j hj hl => ?_, fun hl => ⟨p, e1, e2, fun h0 => ?_⟩, fun hl => ⟨p6, g1, g2, ?_⟩, h.oneW⟩
  · rw [getD_other (by omega)] at hl
    have hf := h.fc j hj hl
    match j, hj with
    | 0, _ => exact hf
    | 1, _ => exact hf
    | 2, _ => exact hf
    | 3, _ =>
      obtain ⟨g, q1, q2⟩ := hf
      refine ⟨g, q1, ?_⟩
      rw [setRow_other _ _ _ _ (by intro e; rw [e, e3 h10] at q2; injection q2 with q2; injection q2 with q2 _ _; have := congrArg Array.size q2; simp at this)]
      exact q2
    | 4, _ => exact hf
    | 5, _ => exact hf
    | 6, _ => exact hf
    | 7, _ => exact hf
  · exact absurd h0 (by
      have hs : 10 < listed.size := by
        have := hd 9 (by kernel_rfl)
        exact Nat.lt_of_succ_lt hsz
      rw [Array.getD_eq_getD_getElem?, Array.getElem?_setIfInBounds_self_of_lt hs]; simp)
  · rw [getD_other (by omega), hno, setRow_other _ _ _ _ hne]; exact g3
set_option maxRecDepth 100000 in
theorem sst11 (hsz : 11 < listed.size) (h : SI A C E W3 listed a w) (hcl : listed.getD 11 false = true → ∀ j, j < 11 → listed.getD j false = true) (hr : 11 ∈ Region.ready .any sops listed) : wpOp Tryz.prog sops Q 11 (fun a' w' => SI A C E W3 (listed.setIfInBounds 11 true) a' w') a w := by
  skip
  refine wpOp_of (o := _) rfl rfl ?_
  have hd := fun d (h1 : sdepB 11 d = true) => sdep d hr h1
  obtain ⟨p6, g1, g2, g3⟩ := h.b6 (hd 9 (by kernel_rfl))
  have f7 : a.eval (.tmp 28) = .agg frBad := h.fc 7 (by decide) (hd 7 (by kernel_rfl))
  refine wp_store_row 34 (.tmp 6) (.tmp 28) rfl p6 frBad g1 f7 34 _ g3 (by kernel_rfl) (ite_size _) (by simp [Value.oneCell']) ?_
  have hA : A ≠ p6 := by intro e; have h1 := h.oneW; rw [e] at h1; have := lt_of_row h1; omega
  refine ⟨h.sz, h.df, h.e1, h.e3, h.e4, below_setRow h.bel g2 _, by rw [setRow_other _ _ _ _ hA]; exact h.one, fun j hj hl => ?_, fun hl => ?_, fun hl => ⟨p6, g1, g2, ?_⟩, h.oneW⟩
  · rw [getD_other (by omega)] at hl
    have hf := h.fc j hj hl
    match j, hj with
    | 0, _ => exact hf
    | 1, _ => exact hf
    | 2, _ => exact hf
    | 3, _ =>
      obtain ⟨g, q1, q2⟩ := hf
      refine ⟨g, q1, ?_⟩
      rw [setRow_other _ _ _ _ (by intro e; rw [e, g3] at q2; injection q2 with q2; injection q2 with _ q2 _; exact absurd q2 (by decide))]
      exact q2
    | 4, _ => exact hf
    | 5, _ => exact hf
    | 6, _ => exact hf
    | 7, _ => exact hf
  · rw [getD_other (by omega)] at hl
    obtain ⟨p, e1, e2, e3⟩ := h.b5 hl
    refine ⟨p, e1, e2, fun h0 => ?_⟩
    rw [getD_other (by omega)] at h0
    rw [hd 10 (by kernel_rfl)] at h0
    cases h0
  · rw [Array.getD_eq_getD_getElem?, Array.getElem?_setIfInBounds_self_of_lt hsz]
    exact setRow_heap _ _ _ _ _ _ g3
theorem sclosed (hr : 11 ∈ Region.ready .any sops listed) (j : Nat) (hj : j < 11) : listed.getD j false = true := by
  have hd := fun d (h1 : sdepB 11 d = true) => sdep d hr h1
  match j, hj with
  | 0, _ => exact hd 0 (by kernel_rfl)
  | 1, _ => exact hd 1 (by kernel_rfl)
  | 2, _ => exact hd 2 (by kernel_rfl)
  | 3, _ => exact hd 3 (by kernel_rfl)
  | 4, _ => exact hd 4 (by kernel_rfl)
  | 5, _ => exact hd 5 (by kernel_rfl)
  | 6, _ => exact hd 6 (by kernel_rfl)
  | 7, _ => exact hd 7 (by kernel_rfl)
  | 8, _ => exact hd 8 (by kernel_rfl)
  | 9, _ => exact hd 9 (by kernel_rfl)
  | 10, _ => exact hd 10 (by kernel_rfl)
/-- The whole invariant: what has come up last has come up behind all else. -/
def SI2 (A C E : Nat) (W3 : World) (listed : Array Bool) (a : Act) (w : World) : Prop := SI A C E W3 listed a w ∧ 11 < listed.size ∧ (listed.getD 11 false = true → ∀ j, j < 11 → listed.getD j false = true)
theorem SI2.step (h : SI2 A C E W3 listed a w) (i : Nat) (hi : i < 12) (hr : i ∈ Region.ready .any sops listed) : wpOp Tryz.prog sops Q i (fun a' w' => SI2 A C E W3 (listed.setIfInBounds i true) a' w') a w := by
  have hk : ∀ a' w', SI A C E W3 (listed.setIfInBounds i true) a' w' → SI2 A C E W3 (listed.setIfInBounds i true) a' w' := fun a' w' hh => ⟨hh, by rw [Array.size_setIfInBounds]; exact h.2.1, fun h11 j hj => by
    by_cases c : i = 11
    · subst c; rw [getD_other (by omega)]; exact sclosed hr j hj
    · rw [getD_other (fun e => c e.symm)] at h11
      by_cases c2 : j = i
      · subst c2; rw [Array.getD_eq_getD_getElem?, Array.getElem?_setIfInBounds_self_of_lt (by have := h.2.1; omega)]; rfl
      · rw [getD_other c2]; exact h.2.2 h11 j hj⟩
  refine wpOp_mono (fun a' w' hh => hk a' w' hh) ?_
  match i, hi with
  | 0, _ => exact sst0 h.2.1 h.1 h.2.2 hr
  | 1, _ => exact sst1 h.2.1 h.1 h.2.2 hr
  | 2, _ => exact sst2 h.2.1 h.1 h.2.2 hr
  | 3, _ => exact sst3 h.2.1 h.1 h.2.2 hr
  | 4, _ => exact sst4 h.2.1 h.1 h.2.2 hr
  | 5, _ => exact sst5 h.2.1 h.1 h.2.2 hr
  | 6, _ => exact sst6 h.2.1 h.1 h.2.2 hr
  | 7, _ => exact sst7 h.2.1 h.1 h.2.2 hr
  | 8, _ => exact sst8 h.2.1 h.1 h.2.2 hr
  | 9, _ => exact sst9 h.2.1 h.1 h.2.2 hr
  | 10, _ => exact sst10 h.2.1 h.1 h.2.2 hr
  | 11, _ => exact sst11 h.2.1 h.1 h.2.2 hr

end
theorem arr_fun (t : Array Value) : t = ((List.range t.size).map (fun i => t.getD i undef)).toArray := by
  apply Array.ext
  · simp
  · intro i h1 h2
    simp [Array.getD_eq_getD_getElem?, h1]
theorem frame_fun (t : Array Value) (h : t.size = 93) : ∃ f : Nat → Value, t = #[f 0, f 1, f 2, f 3, f 4, f 5, f 6, f 7, f 8, f 9, f 10, f 11, f 12, f 13, f 14, f 15, f 16, f 17, f 18, f 19, f 20, f 21, f 22, f 23, f 24, f 25, f 26, f 27, f 28, f 29, f 30, f 31, f 32, f 33, f 34, f 35, f 36, f 37, f 38, f 39, f 40, f 41, f 42, f 43, f 44, f 45, f 46, f 47, f 48, f 49, f 50, f 51, f 52, f 53, f 54, f 55, f 56, f 57, f 58, f 59, f 60, f 61, f 62, f 63, f 64, f 65, f 66, f 67, f 68, f 69, f 70, f 71, f 72, f 73, f 74, f 75, f 76, f 77, f 78, f 79, f 80, f 81, f 82, f 83, f 84, f 85, f 86, f 87, f 88, f 89, f 90, f 91, f 92] ∧ ∀ i, f i = t.getD i undef := by
  refine ⟨fun i => t.getD i undef, ?_, fun _ => rfl⟩
  have e := arr_fun t
  rw [h] at e
  exact e
end Go.Proofs.YthmpobimmbmddaaGreatDoor
