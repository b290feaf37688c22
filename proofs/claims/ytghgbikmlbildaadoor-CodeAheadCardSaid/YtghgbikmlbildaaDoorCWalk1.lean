/-
  left, Great, large, Find, Raises: the walks.
-/
import Derived.Test.YtghgbikmlbildaaDoorProg
import Derived.Test.YtghgbikmlbildaaDoorCPlain
import Derived.Test.YtghgbikmlbildaaDoorURow
import Derived.WalkKit
import Derived.WalkSpells
import Derived.WalkLawsBesides
import Derived.Handy
import Derived.Lib.Hide
import Derived.Deep.QuietTactic
import Derived.BigQuiet
namespace Go.Proofs.YtghgbikmlbildaaDoor
open Go.RowKit
set_option linter.unusedVariables false

theorem below_next {w a b : World} (h : Below w.heap.size w a) (k : Below a.heap.size a b) : Below w.heap.size w b := h.trans (k.mono h.size)
theorem below_drewN {B : Nat} {a w : World} (h : Below B a w) (n : Nat) : Below B a (w.drewN n) := ⟨h.os, h.tape, h.output, h.size, h.block⟩

theorem SlAt.zero {w : World} {ao : Option Addr} {l : List Tm} (h : SlAt w 9 (TmAt w 0) ao l) : l = [] := by
  rcases h with h | ⟨b, off, e, hb, hr⟩
  · exact h
  · cases l with
    | nil => rfl
    | cons t l =>
      obtain ⟨cs, _, _, hf⟩ := hr 0 (by simp)
      exact hf.elim
theorem SlAt.tms {w w' : World} {f : Nat} {ao : Option Addr} {l : List Tm} (h : SlAt w 9 (TmAt w f) ao l) (hb : Below w.heap.size w w') : SlAt w' 9 (TmAt w' f) ao l := h.mono hb fun _ _ h => h.below hb

set_option maxRecDepth 100000 in
set_option maxHeartbeats 4000000 in
theorem left_any : ∀ (f : Nat) (ao : Option Addr) (c : Nat) (l : List Tm) (m : Int) (w : World), SlAt w 9 (TmAt w f) ao l → l.length ≤ maxLen → -1 ≤ m → m ≤ 1000000 →
    Calls Tryd.prog 23 #[.slice ao l.length c, .int .i64 m] w fun e w' => e = .returned (.int .i64 (leftF f l m)) ∧ Below w.heap.size w w'
  | 0, ao, c, l, m, w, h, hl, h0, h1 => by
    obtain rfl := h.zero
    have HE : Hid (leftF 0 [] m = m) := Lib.hid rfl
    go_enter Tryd.func23, Tryd.ntmps23
    go_wp2_with fail
    go_loop [1, 5] (fun mv i => mv = .int .i64 m ∧ i = .int .i64 0) (fun _ _ => 0)
    case atStart => exact ⟨rfl, rfl⟩
    case round =>
      obtain ⟨rfl, rfl⟩ := hrel
      go_wp2_with fail
      go_ret
      exact ⟨ret1 HE.out.symm, Below.refl _ _⟩
  | f + 1, ao, c, l, m, w, h, hl, h0, h1 => by
    have IH := Lib.hid (left_any f)
    have HS := Lib.hid h
    have HV : Hid (leftF (f + 1) l m = leftL (leftF f) l m) := Lib.hid rfl
    have HM := Lib.hid (leftF_le f)
    clear h
    unfold maxLen at hl
    go_enter Tryd.func23, Tryd.ntmps23
    go_wp2_with fail
    go_loopw [1, 5] (fun mv i wr => ∃ (k : Nat) (m' : Int), k ≤ l.length ∧ i = .int .i64 k ∧ mv = .int .i64 m' ∧ -1 ≤ m' ∧ m' ≤ 1000000 ∧ Hid (leftL (leftF f) l m = leftL (leftF f) (l.drop k) m') ∧ Below w.heap.size w wr) (fun _ i _ => l.length - (intOf i).toNat)
    case atStart => exact ⟨0, m, Nat.zero_le _, rfl, rfl, h0, h1, Lib.hid rfl, Below.refl _ _⟩
    case round =>
      obtain ⟨k, m', hk, rfl, rfl, g0, g1, HG, hB⟩ := hrel
      rename World => wr
      by_cases hlt : k < l.length
      · by_cases hm : 0 ≤ m'
        · have hs2 := HS.out.tms hB
          obtain ⟨b, off, ai, ci, hao, hb, q0, q1, q2, q3, q4, q5, q6, q7, q8, hit, hok⟩ := hs2.tm hlt
          subst hao
          have hlong := leftL_long (rec := leftF f) hlt hm
          have hnext := leftL_next (rec := leftF f) hlt hm
          have HL1 := Lib.hid hlong; have HL2 := Lib.hid hnext; clear hlong hnext hs2
          obtain ⟨_, _, _, o3, o4, _, o6, o7, _⟩ := hok
          unfold maxLen at o3 o4 o6 o7
          generalize l[k] = t at *
          have HIT := Lib.hid hit; clear hit
          by_cases c1 : m' < t.name.size
          · have E : Hid (leftF (f + 1) l m = -1) := Lib.hid (by rw [HV.out, HG.out, HL1.out (.inl c1)])
            go_wp2_with fail
            all_goals go_ret
            all_goals exact ⟨ret1 E.out.symm, hB.alloc hB.size _⟩
          · by_cases c2 : m' < t.func.size
            · have E : Hid (leftF (f + 1) l m = -1) := Lib.hid (by rw [HV.out, HG.out, HL1.out (.inr (.inl c2))])
              go_wp2_with fail
              all_goals go_ret
              all_goals exact ⟨ret1 E.out.symm, hB.alloc hB.size _⟩
            · by_cases c3 : m' < t.bytes.size
              · have E : Hid (leftF (f + 1) l m = -1) := Lib.hid (by rw [HV.out, HG.out, HL1.out (.inr (.inr c3))])
                go_wp2_with fail
                all_goals go_ret
                all_goals exact ⟨ret1 E.out.symm, hB.alloc hB.size _⟩
              · have E := Lib.hid (HL2.out (by omega))
                have hBa := hB.alloc hB.size (.cells #[.int .i64 t.kind, .int .i64 t.int, .int .i64 t.gen, .string t.name, .string t.func, .int .i64 t.arity, .slice ai t.items.length ci, .string t.bytes, .int .i64 t.bits] 73)
                have HIT2 := Lib.hid (SlAt.tms HIT.out ((Below.refl wr.heap.size wr).alloc (Nat.le_refl _) (.cells #[.int .i64 t.kind, .int .i64 t.int, .int .i64 t.gen, .string t.name, .string t.func, .int .i64 t.arity, .slice ai t.items.length ci, .string t.bytes, .int .i64 t.bits] 73)))
                have HM2 := HM.out t.items (m' - 1 - t.name.size / 8 - t.func.size / 8 - t.bytes.size / 8) (by omega)
                generalize hn1 : leftF f t.items (m' - 1 - t.name.size / 8 - t.func.size / 8 - t.bytes.size / 8) = n1 at *
                have HN1 := Lib.hid hn1; clear hn1
                go_wp2_with fail
                refine (IH.out ai ci t.items _ _ HIT2.out (by unfold maxLen; omega) (by omega) (by omega)).mono ?_
                rintro e w5 ⟨rfl, hb5⟩
                rw [HN1.out]
                go_wp2_with fail
                go_roundw
                case rel => exact ⟨k + 1, n1, by omega, by go_num, rfl, by omega, by omega, Lib.hid (by rw [HG.out, E.out]), below_next hBa hb5⟩
                case measure => simp [intOf]; omega
        · have E : Hid (leftF (f + 1) l m = m') := Lib.hid (by rw [HV.out, HG.out, leftL_stop (.inr (by omega))])
          go_wp2_with fail
          go_ret
          exact ⟨ret1 E.out.symm, hB⟩
      · have E : Hid (leftF (f + 1) l m = m') := Lib.hid (by rw [HV.out, HG.out, leftL_stop (.inl (by rw [List.drop_eq_nil_iff]; omega))])
        go_wp2_with fail
        go_ret
        exact ⟨ret1 E.out.symm, hB⟩

theorem great_any (f : Nat) (ao : Option Addr) (c : Nat) (l : List Tm) (m : Int) (w : World) (h : SlAt w 9 (TmAt w f) ao l) (hl : l.length ≤ maxLen) (h0 : -1 ≤ m) (h1 : m ≤ 1000000) :
    Calls Tryd.prog 12 #[.slice ao l.length c, .int .i64 m] w fun e w' => e = .returned (.bool (decide (leftF f l m < 0))) ∧ Below w.heap.size w w' := by
  have hc := left_any f ao c l m w h hl h0 h1
  have hle := leftF_le f l m h0
  generalize leftF f l m = n at *
  go_enter Tryd.func12, Tryd.ntmps12
  go_wp2_with fail
  refine hc.mono ?_
  rintro e w1 ⟨rfl, hb1⟩
  go_wp2_with fail
  go_ret
  exact ⟨rfl, hb1⟩

/-- The terms of a list are of one depth. -/
theorem tms_depth {w : World} {ao : Option Addr} {l : List Tm} (h : SlAt w 9 (TmA w) ao l) : ∃ f, SlAt w 9 (TmAt w f) ao l := by
  rcases h with h | ⟨b, off, e, hb, hr⟩
  · exact ⟨0, .inl h⟩
  · have : ∀ m, m ≤ l.length → ∃ f, ∀ j (hj : j < l.length), j < m → ∃ cs : List Value, cs.length = 9 ∧ (∀ i, i < 9 → w.cell? ⟨b, off + j * 9 + i, none⟩ = cs[i]?) ∧ TmAt w f cs l[j] := by
      intro m
      induction m with
      | zero => exact fun _ => ⟨0, fun j _ h => absurd h (Nat.not_lt_zero _)⟩
      | succ m ih =>
        intro hm
        obtain ⟨f, hf⟩ := ih (by omega)
        obtain ⟨cs, h1, h2, g, h3⟩ := hr m (by omega)
        refine ⟨max f g, fun j hj hjm => ?_⟩
        by_cases e : j = m
        · subst e; exact ⟨cs, h1, h2, TmAt.le (Nat.le_max_right _ _) h3⟩
        · obtain ⟨cs', a1, a2, a3⟩ := hf j hj (by omega)
          exact ⟨cs', a1, a2, TmAt.le (Nat.le_max_left _ _) a3⟩
    obtain ⟨f, hf⟩ := this l.length (Nat.le_refl _)
    exact ⟨f, .inr ⟨b, off, e, hb, fun j hj => hf j hj hj⟩⟩

end Go.Proofs.YtghgbikmlbildaaDoor
