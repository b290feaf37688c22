/-
  A list of chunks that came in.
-/
import Derived.Test.YteleaiodkljigaaDoorFDistinct
import Derived.Deep.SlicePairs
import Derived.DataReads
namespace Go.Proofs.YteleaiodkljigaaDoor
open Go.RowKit Go.WideShapes Go.ChangeShapes Go.Deep
set_option linter.unusedVariables false

theorem nCellsC : Tryd.prog.cellsOf 41 = 2 := by kernel_rfl
theorem nCellsS : Tryd.prog.cellsOf 9 = 1 := by kernel_rfl

theorem open_chunks {H : Type} {enc : TypeId × Value → H} {W : World} {base b0 : Nat} {spare : Nat → Bool} {held : Bool} {r : Reach} {v : Value} {d : DataW H} {p : List MemPlace}
    (hv : Value.okWide Tryd.prog W r b0 30 v) (h : DataW.Trod enc Tryd.prog W base spare held 30 v d p) :
    ∃ (ao : Option Addr) (c : Nat) (l : List Ch), v = .slice ao l.length c ∧ ListS W ao l ∧ l.length ≤ maxLen := by
  obtain ⟨a0, len, cap, rfl⟩ := okWide_slice Tryd.underlying30 hv
  obtain ⟨fuel, hf⟩ := h
  rcases open_slice_pairs Tryd.underlying30 Tryd.underlying41 nCellsC rfl rfl nCellsS nCellsS hf with ⟨hcs, hx⟩ | ⟨a, len', cap', m, n, V0, V1, D0, D1, P0, P1, hcs, hb, hl, hm, hmm, hx, hi⟩
  · simp [Value.cells] at hcs
    obtain ⟨rfl, rfl, rfl⟩ := hcs
    exact ⟨none, 0, [], rfl, .inl rfl, Nat.zero_le _⟩
  · simp [Value.cells] at hcs
    obtain ⟨rfl, rfl, rfl⟩ := hcs
    have hlm : len ≤ m := by rw [hmm]; split <;> omega
    have hs : ∀ i, i < m → ∃ s t : ByteArray, V0 i = .string s ∧ V1 i = .string t := fun i him => by
      obtain ⟨_, _, h0, h1⟩ := hi i him
      obtain ⟨s, e0, _, _⟩ := DataW.trod_string Tryd.underlying9 h0
      obtain ⟨t, e1, _, _⟩ := DataW.trod_string Tryd.underlying9 h1
      exact ⟨s, t, by simpa using e0, by simpa using e1⟩
    let S : Nat → ByteArray := fun i => match V0 i with | .string s => s | _ => ByteArray.empty
    let T : Nat → ByteArray := fun i => match V1 i with | .string s => s | _ => ByteArray.empty
    refine ⟨some a, cap, (List.range len).map fun i => (S i, T i), by simp, ?_, by simp; omega⟩
    rcases Nat.eq_zero_or_pos len with h0 | h0
    · left; subst h0; rfl
    · right
      have hsp : a.spot = none := by
        have := (hi 0 (by omega)).1
        rw [Nat.zero_mul] at this
        exact World.cell?_spot (a := a) this
      obtain ⟨b, off, sp⟩ := a
      simp only at hsp
      subst hsp
      have hadd : ∀ k, (⟨b, off, none⟩ : Addr).add k = ⟨b, off + k, none⟩ := fun k => by unfold Addr.add; split <;> simp_all
      refine ⟨b, off, rfl, ?_, fun j hj => ?_⟩
      · have := (hi 0 (by omega)).1
        rw [hadd] at this
        rcases Nat.lt_or_ge b W.heap.size with h | h
        · exact h
        · simp [World.cell?, Array.getElem?_eq_none h] at this
      · have hjl : j < len := by simpa using hj
        obtain ⟨s, t, e0, e1⟩ := hs j (by omega)
        have c0 := (hi j (by omega)).1
        have c1 := (hi j (by omega)).2.1
        rw [hadd, e0] at c0
        rw [hadd, e1] at c1
        have eS : S j = s := by simp only [S, e0]
        have eT : T j = t := by simp only [T, e1]
        rw [getElem!_pos _ j hj]
        simp only [List.getElem_map, List.getElem_range, eS, eT]
        exact ⟨c0, by rw [← Nat.add_assoc] at c1; exact c1⟩

end Go.Proofs.YteleaiodkljigaaDoor
