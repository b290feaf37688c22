/-
  What is not too large to be tried has few nodes; targets ahead. No program in sight.
-/
import Derived.Test.YtghgbikmlbildaaDoorWOk
namespace Go.Proofs.YtghgbikmlbildaaDoor
open Go.RowKit

theorem left_cap {w : World} : ∀ (f : Nat) (l : List Tm) (m : Int), (∀ t ∈ l, ∃ cs, TmAt w f cs t) → 0 ≤ leftF f l m → ((sumN (l.map (capF f)) + l.length : Nat) : Int) ≤ 301 * (m - leftF f l m)
  | 0, l, m, h, _ => by
    cases l with
    | nil => show ((0 + 0 : Nat) : Int) ≤ 301 * (m - m); omega
    | cons t l => obtain ⟨cs, hf⟩ := h t List.mem_cons_self; exact hf.elim
  | f + 1, l, m, h, hp => by
    have IH := left_cap (w := w) f
    show ((sumN (l.map (capF (f + 1))) + l.length : Nat) : Int) ≤ 301 * (m - leftL (leftF f) l m)
    have hp : 0 ≤ leftL (leftF f) l m := hp
    induction l generalizing m with
    | nil => show ((0 + 0 : Nat) : Int) ≤ 301 * (m - m); omega
    | cons t l ih =>
      unfold leftL at hp ⊢
      by_cases h0 : m < 0
      · rw [if_pos h0] at hp; omega
      · rw [if_neg h0] at hp ⊢
        by_cases h1 : m < t.name.size ∨ m < t.func.size ∨ m < t.bytes.size
        · rw [if_pos h1] at hp; omega
        · rw [if_neg h1] at hp ⊢
          have hm1 : -1 ≤ m - 1 - (t.name.size : Int) / 8 - (t.func.size : Int) / 8 - (t.bytes.size : Int) / 8 := by omega
          have hm2 : m - 1 - (t.name.size : Int) / 8 - (t.func.size : Int) / 8 - (t.bytes.size : Int) / 8 ≤ m - 1 := by omega
          generalize m - 1 - (t.name.size : Int) / 8 - (t.func.size : Int) / 8 - (t.bytes.size : Int) / 8 = m1 at *
          have hle := leftF_le f t.items m1 hm1
          have hle2 := leftL_le (leftF_le f) l (leftF f t.items m1) hle.1
          obtain ⟨cs, ⟨ao, c, _, hs⟩, _⟩ := h t List.mem_cons_self
          have hi := IH t.items m1 (fun x hx => by
            obtain ⟨j, hj, rfl⟩ := List.getElem_of_mem hx
            obtain ⟨_, _, _, _, hr⟩ := hs.row hj
            obtain ⟨cs', _, _, h'⟩ := hr j hj
            exact ⟨cs', h'⟩) (by omega)
          have hl := ih (leftF f t.items m1) (fun x hx => h x (List.mem_cons_of_mem _ hx)) (by simpa [leftF] using hp) hp
          have e1 : sumN ((t :: l).map (capF (f + 1))) = (300 + t.items.length + sumN (t.items.map (capF f))) + sumN (l.map (capF (f + 1))) := rfl
          rw [e1, List.length_cons]
          omega
theorem sumN_mem : ∀ (l : List Nat) (x : Nat), x ∈ l → x ≤ sumN l
  | [], _, h => by cases h
  | y :: l, x, h => by
    show x ≤ y + sumN l
    rcases List.mem_cons.1 h with rfl | h
    · omega
    · have := sumN_mem l x h; omega
/-- A depth for the literals of a unit that is not too large, and that their counting does not run over. -/
theorem depth_of {w : World} {lo : Option Addr} {l : List Tm} {f : Nat} (h : SlAt w 9 (TmAt w f) lo l) (hp : 0 ≤ leftF f l 4000) : ∃ g, SlAt w 9 (TmAt w (g + 1)) lo l ∧ ∀ t ∈ l, (capF (g + 1) t : Int) ≤ 1152921504606846976 := by
  cases f with
  | zero => obtain rfl := h.zero; exact ⟨0, .inl rfl, fun t ht => by cases ht⟩
  | succ g =>
    refine ⟨g, h, fun t ht => ?_⟩
    have hc := left_cap (w := w) (g + 1) l 4000 (fun x hx => by
      obtain ⟨j, hj, rfl⟩ := List.getElem_of_mem hx
      obtain ⟨_, _, _, _, hr⟩ := h.row hj
      obtain ⟨cs', _, _, h'⟩ := hr j hj
      exact ⟨cs', h'⟩) hp
    have hm := sumN_mem (l.map (capF (g + 1))) _ (List.mem_map.2 ⟨t, ht, rfl⟩)
    omega
/-- Operations with a target that lies ahead. -/
def aheadL : List Int := [8, 9, 10, 11, 12, 13, 28, 30, 31, 32, 33, 34, 37]
theorem rowT_to : ∀ k : Nat, (h : k < 41) → 1 ≤ k → (hasB (rowT[k]'h).1.toNat 64 = true ↔ ((k : Int) ∈ aheadL ∨ k = 39 ∨ k = 40)) := by decide
theorem rowAt_to {op : Int} (h : 1 ≤ op ∧ op ≤ 40) : hasB (rowAt op).1.toNat 64 = true ↔ (op ∈ aheadL ∨ op = 39 ∨ op = 40) := by
  obtain ⟨k, rfl⟩ : ∃ k : Nat, op = (k : Int) := ⟨op.toNat, by omega⟩
  have hk : k < 41 := by omega
  have hra : rowAt (k : Int) = rowT[k]'hk := by unfold rowAt; rw [Int.toNat_natCast, List.getElem?_eq_getElem (by exact hk)]; rfl
  rw [hra, rowT_to k hk (by omega)]
  constructor
  · rintro (h | h | h)
    · exact .inl h
    · exact .inr (.inl (by omega))
    · exact .inr (.inr (by omega))
  · rintro (h | h | h)
    · exact .inl h
    · exact .inr (.inl (by omega))
    · exact .inr (.inr (by omega))
/-- Where the targets of a well-formed instruction lie. -/
structure Ahead (u : RUnit) (i : Nat) (x : RIns) : Prop where
  cases : ∀ c ∈ x.cases, (i : Int) < c.to ∧ c.to < u.code.length
  jump : (x.op = 39 ∨ x.op = 40) ∧ 0 ≤ x.to ∧ x.to < u.code.length ∧ opAt u.code x.to = 37 ∨ x.op ∈ aheadL ∧ (i : Int) < x.to ∧ x.to < u.code.length ∨ x.op ∉ aheadL ∧ x.op ≠ 39 ∧ x.op ≠ 40 ∧ x.to = 0
theorem ahead_of {u : RUnit} {i : Nat} {x : RIns} (h : insB u i x = true) : Ahead u i x := by
  unfold insB at h
  simp only [Bool.and_eq_true] at h
  obtain ⟨h0, h1, h2, h3, h4, h5⟩ := h
  have hop : 1 ≤ x.op ∧ x.op ≤ 40 := by unfold opOk at h0; exact of_decide_eq_true h0
  have hto := rowAt_to hop
  obtain ⟨r16, _, _, _⟩ := rowAt_facts hop
  generalize (rowAt x.op).1.toNat = h at *
  unfold fieldsB at h1
  simp only [Bool.and_eq_true] at h1
  obtain ⟨f1, f2, f3, f4, f5, f6, f7, f8, f9, f10⟩ := h1
  unfold targetsB at h5
  by_cases ho : x.op = 39 ∨ x.op = 40
  · rw [if_pos ho, Bool.and_eq_true] at h5
    have hw := wi_iff h5.1
    refine ⟨fun c hc => ?_, .inl ⟨ho, hw.1, by omega, eq_of_beq h5.2⟩⟩
    have hn : hasB h 16 = false := by
      cases e : hasB h 16 with
      | false => rfl
      | true => have := r16 e; omega
    rw [hn, Bool.false_or] at f9
    have := eq_of_beq f9
    rw [List.length_eq_zero_iff] at this
    rw [this] at hc; cases hc
  · rw [if_neg ho, Bool.and_eq_true] at h5
    refine ⟨fun c hc => ?_, ?_⟩
    · have := wi_iff (List.all_eq_true.1 h5.1 c hc); omega
    · by_cases hm : x.op ∈ aheadL
      · have ht := hto.2 (.inl hm)
        rw [ht] at h5
        have hw : (i : Int) + 1 ≤ x.to ∧ x.to ≤ (u.code.length : Int) - 1 := wi_iff (by simpa using h5.2)
        exact .inr (.inl ⟨hm, by omega, by omega⟩)
      · have ht : hasB h 64 = false := by
          cases e : hasB h 64 with
          | false => rfl
          | true => rcases hto.1 e with h | h | h
                    · exact absurd h hm
                    · exact absurd (.inl h) ho
                    · exact absurd (.inr h) ho
        rw [ht, Bool.false_or] at f7
        exact .inr (.inr ⟨hm, fun e => ho (.inl e), fun e => ho (.inr e), eq_of_beq f7⟩)
end Go.Proofs.YtghgbikmlbildaaDoor
