/-
  FilePuts: the walk.
-/
import Derived.Test.YteleaiodkljigaaDoorFLawGets
import Derived.Test.YteleaiodkljigaaDoorFOpen
import Derived.Maps.AppendAt
namespace Go.Proofs.YteleaiodkljigaaDoor
open Go.RowKit Go.Shelf Go.Lib
set_option linter.unusedVariables false

theorem wpList_append_run {P : Program} {w : World} {ops : Array Oper} {rest : List Oper} {o : Oper} {a : Act} {Q : Exit → Act → World → Prop} (hgd : o.guard = none) (s x : Operand) (t1 t2 : TypeId)
    (ho : o.op = .call { callee := .builtin .append, args := #[s, x], argTypes := #[t1, t2] }) (v1 v2 : Value) (hs : a.eval s = v1) (hx : a.eval x = v2) {v' : Value} {w' : World}
    (hrun : (Builtin.append_ #[t1, t2] o.type #[v1, v2]).run P w = .ok v' w') (h : wpList P ops Q rest (a.put o.dst v') w') : wpList P ops Q (o :: rest) a w :=
  wpList_plain hgd fun _ hK => by
    unfold Oper.wp execOp
    simp only [ho, resolve, invoke, builtin, Sem.run_bind, Sem.run_pure, Result.andThen_ok, List.map_toArray, List.map_cons, List.map_nil, hs, hx, hrun]
    exact hK _ _ h

theorem cellsC_len (l : List Ch) : (cellsC l).length = l.length * 2 := by
  induction l with
  | nil => rfl
  | cons x l ih =>
    have : (cellsC (x :: l)).length = 2 + (cellsC l).length := by simp [cellsC, encC]; omega
    rw [this, ih, List.length_cons]; omega
theorem cellsC_one (l : List Ch) : ∀ u ∈ cellsC l, u.oneCell' = true := by
  intro u hu
  unfold cellsC at hu
  rw [List.mem_flatMap] at hu
  obtain ⟨x, _, hx⟩ := hu
  simp [encC] at hx
  rcases hx with rfl | rfl <;> rfl
theorem row_cells {w : World} {b off : Nat} {l : List Ch} (h : RowAt w b off l) (j : Nat) (u : Value) (hu : (cellsC l)[j]? = some u) : w.cell? ((⟨b, off, none⟩ : Addr).add j) = some u := by
  have hadd : (⟨b, off, none⟩ : Addr).add j = ⟨b, off + j, none⟩ := by unfold Addr.add; split <;> simp_all
  have hj : j < l.length * 2 := by
    have := (List.getElem?_eq_some_iff.1 hu).1
    rwa [cellsC_len] at this
  have hr := h.2 (j / 2) (by omega)
  have hc := cellsC_get l (j / 2) (by omega)
  rw [hadd]
  rcases Nat.mod_two_eq_zero_or_one j with h0 | h1
  · have e : j / 2 * 2 = j := by omega
    rw [e] at hr hc
    rw [hr.1, ← hc.1, hu]
  · have e : j / 2 * 2 + 1 = j := by omega
    have e2 : off + j / 2 * 2 + 1 = off + j := by omega
    rw [e] at hc
    rw [e2] at hr
    rw [hr.2, ← hc.2, hu]

/-- append onto an empty row of the call's own. -/
theorem app_s (g : Nat) (w : World) (t : TypeId) (fr : Nat × Nat) (hg : w.heap[g]? = some (.cells #[] 41 (0, 0))) (ao : Option Addr) (c : Nat) (l : List Ch) (h : ListS w ao l) (hsm : l.length ≤ 40) :
    ∃ v' w', (Builtin.append_ #[30, 30] 30 #[.slice (some ⟨g, 0, none⟩) 0 0, .slice ao l.length c]).run Tryd.prog w = .ok v' w' ∧ w'.ownsRow g 41 2 v' l.length (cellsC l) ∧ Below g w w' := by
  obtain ⟨i0, hi, hz0, hz1, hz2⟩ := info_parts infoChunk
  have hgl := lt_of_row hg
  have hown : w.ownsRow g 41 2 (.slice (some ⟨g, 0, none⟩) 0 0) 0 [] := ⟨by simp, .inr ⟨g, 0, #[], rfl, Nat.le_refl _, hg, Nat.le_refl _, by simp [maxLen], by simp, by simp⟩⟩
  cases ao with
  | none =>
    have hl : l = [] := by
      rcases h with h | ⟨b, off, e, _⟩
      · exact h
      · cases e
    subst hl
    refine ⟨_, w, ?_, by simpa [cellsC] using hown, Below.refl _ _⟩
    simp [Builtin.append_, run_underlying Tryd.underlying30, sizeOf, typeInfo, hi, Builtin.lenOf, Builtin.firstCells, storeCells]
  | some a =>
    have hcells : ∀ j u, (cellsC l)[j]? = some u → w.cell? (a.add j) = some u := by
      rcases h with rfl | ⟨b, off, e, hr⟩
      · intro j u hu; simp [cellsC] at hu
      · cases e; exact row_cells hr
    obtain ⟨v', w', hrun, h2, h3, _, h5⟩ := run_append_own_at (P := Tryd.prog) w g 30 30 41 i0 _ 2 32 Tryd.underlying30 hi hz0 hz1 hz2 rfl (by decide) _ 0 [] hown a l.length c (cellsC l) (cellsC_len l) hcells (cellsC_one l) (by unfold maxLen; omega) (by omega) (by omega)
    exact ⟨v', w', hrun, by simpa using h2, (Below.refl _ _).grown h3 (by omega) (fun k hk => by simp [Value.ownBlock] at hk; omega)⟩

set_option maxRecDepth 100000 in
set_option maxHeartbeats 4000000 in
theorem puts_walk (o0 : Option Addr) (c0 : Nat) (l : List Ch) (w : World) (h0 : ListS w o0 l ∧ l.length ≤ maxLen) :
    Calls Tryd.prog 5 #[.slice o0 l.length c0] w fun e w' => e = .returned (.bool true) ∧ Below w.heap.size w w' := by
  obtain ⟨hls, hl⟩ := h0
  unfold maxLen at hl
  have HL := Lib.hid hls
  have hlg := large_s o0 c0 l w hls (by omega)
  clear hls
  go_enter Tryd.func5, Tryd.ntmps5
  go_wp2_with fail
  refine hlg.mono ?_
  rintro e w1 ⟨b, rfl, hsm, rfl⟩
  cases b with
  | true =>
    go_wp2_with (go_at_call 10; refine (awake_any _).mono ?_; rintro e w1 ⟨rfl, hb1⟩)
    go_ret
    exact ⟨rfl, hb1⟩
  | false =>
    have hsmall := hsm rfl
    have HS := Lib.hid hsmall
    have h40 := hsmall.1
    clear hsm hlg hsmall
    have hba := (Below.refl w.heap.size w).alloc (Nat.le_refl _) (.cells #[] 41)
    obtain ⟨v', w9, hrun, hown, hbe⟩ := app_s w.heap.size (w.alloc (.cells #[] 41)) 0 (0, 0) (heap_alloc_new _ _) o0 c0 l (HL.out.below hba) h40
    have HRUN := Lib.hid hrun
    have hB9 : Below w.heap.size w w9 := hba.trans hbe
    have hla := list_of_owns hown
    obtain ⟨ao, cap, hv, hs9⟩ := listS_of hla
    subst hv
    have HA := Lib.hid hs9
    have HL9 := Lib.hid (HL.out.below hB9)
    clear hrun hba hbe hown hla hs9
    have hEE : (putE l == putE l) = true := beq_self_eq_true _
    have hpu := fun wx hx => put_s ao cap l wx hx HS.out
    have hrp := fun wx hx => rput_s o0 c0 l wx hx HS.out
    generalize putV l = V at *
    generalize putE l = E at *
    go_wp2_with (at_builtin; refine wpList_append_run rfl (.tmp 11) (.tmp 12) _ _ rfl _ _ rfl rfl HRUN.out ?_)
    refine (hpu _ HA.out).mono ?_
    rintro e w2 ⟨rfl, hb2⟩
    have HA2 := Lib.hid (HA.out.below hb2); have HL2 := Lib.hid (HL9.out.below hb2)
    have hB2 := below_next hB9 hb2
    clear HRUN hpu hB9
    go_wp2_with fail
    refine (hrp _ HL2.out).mono ?_
    rintro e w3 ⟨rfl, hb3⟩
    have HA3 := Lib.hid (HA2.out.below hb3); have HL3 := Lib.hid (HL2.out.below hb3)
    have hB3 := below_next hB2 hb3
    go_wp2_with fail
    refine (same_yes _ _ _ _ l _ HA3.out HL3.out (by omega)).mono ?_
    rintro e w4 ⟨rfl, hb4⟩
    go_wp2_with fail
    refine (awake_any _).mono ?_
    rintro e w5 ⟨rfl, hb5⟩
    go_wp2_with fail
    go_ret
    exact ⟨rfl, below_next (below_next hB3 hb4) hb5⟩

end Go.Proofs.YteleaiodkljigaaDoor
