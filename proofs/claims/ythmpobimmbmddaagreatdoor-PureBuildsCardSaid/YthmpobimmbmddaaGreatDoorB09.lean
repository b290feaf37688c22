/-
  What the closures of terms.kinds leave, in one form (printed by gen_of1.py).
-/
import Derived.Test.YthmpobimmbmddaaGreatDoorB08
namespace Go.Proofs.YthmpobimmbmddaaGreatDoor
open Go.RowKit
set_option linter.unusedVariables false
set_option linter.unusedSimpArgs false

/-- A term without the fields that its kind uses. -/
def leftT (t : Tm) : Tm :=
  if t.kind = 1 then .mk t.kind 0 t.gen t.name t.func t.arity t.items t.bytes t.bits else if t.kind = 2 then .mk t.kind t.int t.gen ⟨#[]⟩ t.func t.arity t.items t.bytes t.bits else if t.kind = 3 then .mk t.kind 0 0 ⟨#[]⟩ t.func t.arity t.items t.bytes t.bits else if t.kind = 4 then .mk t.kind 0 0 ⟨#[]⟩ t.func 0 [] t.bytes t.bits else if t.kind = 5 then .mk t.kind t.int t.gen ⟨#[]⟩ ⟨#[]⟩ 0 t.items t.bytes t.bits else if t.kind = 6 then .mk t.kind 0 0 ⟨#[]⟩ t.func t.arity t.items t.bytes t.bits else if t.kind = 7 then .mk t.kind t.int t.gen t.name t.func t.arity [] t.bytes t.bits else if t.kind = 8 then .mk t.kind t.int t.gen t.name t.func t.arity t.items t.bytes t.bits else if t.kind = 9 then .mk t.kind t.int t.gen t.name t.func t.arity [] t.bytes t.bits else if t.kind = 10 then .mk t.kind t.int t.gen t.name t.func t.arity t.items ⟨#[]⟩ 0 else t
def zeroTm : Tm := .mk 0 0 0 ⟨#[]⟩ ⟨#[]⟩ 0 [] ⟨#[]⟩ 0
/-- The same with the kind 0. -/
def left0 (t : Tm) : Tm := .mk 0 (leftT t).int (leftT t).gen (leftT t).name (leftT t).func (leftT t).arity (leftT t).items (leftT t).bytes (leftT t).bits
theorem zS_is (s : ByteArray) : (s.toList == (ByteArray.mk #[]).toList) = zS s := by
  unfold zS
  rw [ByteArray.toList_eq, ByteArray.toList_eq]
  rw [Bool.eq_iff_iff, beq_iff_eq, decide_eq_true_eq]
  constructor
  · intro h
    have h2 : s.data.toList.length = 0 := congrArg List.length h
    rw [Array.length_toList] at h2; exact h2
  · intro h
    have : s.data.size = 0 := h
    have : s.data = #[] := Array.eq_empty_of_size_eq_zero this
    rw [this]
theorem zI_is (n : Int) : (n == 0) = zI n := by unfold zI; rw [Bool.eq_iff_iff, beq_iff_eq, decide_eq_true_eq]
theorem zL_is (rec : Tm → Tm → Bool) (l : List Tm) : sameL rec l [] = zL l := by cases l <;> rfl
theorem zS_nil : zS (ByteArray.mk #[]) = true := rfl
theorem zI_nil : zI 0 = true := rfl
theorem zL_nil : zL [] = true := rfl
theorem same_zero (f : Nat) (a : Tm) : sameF (f + 1) a zeroTm = (zI a.kind && (zI a.int && (zI a.gen && (zS a.name && (zS a.func && (zI a.arity && (zS a.bytes && zI a.bits)))))) && zL a.items) := by
  unfold sameF flatB zeroTm
  simp only [Tm.kind, Tm.int, Tm.gen, Tm.name, Tm.func, Tm.arity, Tm.items, Tm.bytes, Tm.bits, zS_is, zI_is, zL_is]
theorem okK_none {t : Tm} (h : ¬ (t.kind = 1 ∨ t.kind = 2 ∨ t.kind = 3 ∨ t.kind = 4 ∨ t.kind = 5 ∨ t.kind = 6 ∨ t.kind = 7 ∨ t.kind = 8 ∨ t.kind = 9 ∨ t.kind = 10)) : okK t = false := by
  unfold okK
  simp only [not_or] at h
  obtain ⟨h1, h2, h3, h4, h5, h6, h7, h8, h9, h10⟩ := h
  rw [if_neg h1, if_neg h2, if_neg (by omega), if_neg h4, if_neg h5, if_neg h7, if_neg h8, if_neg h9, if_neg h10]
theorem nat_le (n m : Nat) : decide (n ≤ m) = decide ((n : Int) ≤ (m : Int)) := by rw [Bool.eq_iff_iff, decide_eq_true_eq, decide_eq_true_eq]; omega
theorem loc_of (f : Nat) (t : Tm) : (okK t && sameF (f + 1) (left0 t) zeroTm) = locB t := by
  rw [same_zero]
  obtain ⟨tk, ti, tg, tn, tf, ta, tl, ty, tz⟩ := t
  by_cases h : tk = 1 ∨ tk = 2 ∨ tk = 3 ∨ tk = 4 ∨ tk = 5 ∨ tk = 6 ∨ tk = 7 ∨ tk = 8 ∨ tk = 9 ∨ tk = 10
  · unfold left0 locB
    rcases h with rfl | rfl | rfl | rfl | rfl | rfl | rfl | rfl | rfl | rfl
    all_goals
      generalize okK (Tm.mk _ ti tg tn tf ta tl ty tz) = q
      simp only [leftT, zeroK, Tm.kind, Tm.int, Tm.gen, Tm.name, Tm.func, Tm.arity, Tm.items, Tm.bytes, Tm.bits]
      simp [zS_nil, zI_nil, zL_nil]
      try (cases q <;> cases zI ti <;> cases zI tg <;> cases zS tn <;> cases zS tf <;> cases zI ta <;> cases zL tl <;> cases zS ty <;> cases zI tz <;> rfl)
  · have : okK (Tm.mk tk ti tg tn tf ta tl ty tz) = false := okK_none h
    unfold locB
    rw [this, Bool.false_and, Bool.false_and]

/-- What a closure of terms.kinds tells of a term. -/
def KindQ (w0 w : World) (f : Nat) (t : Tm) (e : Ending) (w' : World) : Prop := ∃ so' c', e = .returned (.tuple #[.agg #[.int .i64 (leftT t).kind, .int .i64 (leftT t).int, .int .i64 (leftT t).gen, .string (leftT t).name, .string (leftT t).func, .int .i64 (leftT t).arity, .slice so' (leftT t).items.length c', .string (leftT t).bytes, .int .i64 (leftT t).bits], .bool (okK t)]) ∧
  SlAt w0 9 (TmAt w0 f) so' (leftT t).items ∧ Below w.heap.size w w'
section
variable (t : Tm) (so : Option Addr) (c f : Nat) (w0 w : World)

theorem kindQ_0 (hs : SlAt w0 9 (TmAt w0 f) so t.items) (hk : t.kind = 0) : Calls Tryz.prog 206 #[.agg #[.int .i64 t.kind, .int .i64 t.int, .int .i64 t.gen, .string t.name, .string t.func, .int .i64 t.arity, .slice so t.items.length c, .string t.bytes, .int .i64 t.bits]] w (KindQ w0 w f t) := by
  have e1 : leftT t = t := by unfold leftT; simp [hk]
  have e2 : okK t = false := by unfold okK; simp [hk]
  refine (kind_none t.kind t.int t.gen t.name t.func t.arity so t.items.length c t.bytes t.bits w).mono ?_
  rintro e w' ⟨rfl, hb'⟩
  refine ⟨so, c, ?_, ?_, hb'⟩
  · (rw [e1, e2]) <;> rfl
  · rw [e1]; exact hs
theorem kindQ_1 (hs : SlAt w0 9 (TmAt w0 f) so t.items) (hk : t.kind = 1) : Calls Tryz.prog 207 #[.agg #[.int .i64 t.kind, .int .i64 t.int, .int .i64 t.gen, .string t.name, .string t.func, .int .i64 t.arity, .slice so t.items.length c, .string t.bytes, .int .i64 t.bits]] w (KindQ w0 w f t) := by
  have e1 : leftT t = .mk t.kind 0 t.gen t.name t.func t.arity t.items t.bytes t.bits := by unfold leftT; simp [hk]
  have e2 : okK t = true := by unfold okK; simp [hk]
  refine (kind_int t.kind t.int t.gen t.name t.func t.arity so t.items.length c t.bytes t.bits w).mono ?_
  rintro e w' ⟨rfl, hb'⟩
  refine ⟨so, c, ?_, ?_, hb'⟩
  · (rw [e1, e2]) <;> rfl
  · rw [e1]; exact hs
theorem kindQ_2 (hs : SlAt w0 9 (TmAt w0 f) so t.items) (hk : t.kind = 2) : Calls Tryz.prog 208 #[.agg #[.int .i64 t.kind, .int .i64 t.int, .int .i64 t.gen, .string t.name, .string t.func, .int .i64 t.arity, .slice so t.items.length c, .string t.bytes, .int .i64 t.bits]] w (KindQ w0 w f t) := by
  have e1 : leftT t = .mk t.kind t.int t.gen ⟨#[]⟩ t.func t.arity t.items t.bytes t.bits := by unfold leftT; simp [hk]
  have e2 : okK t = nameB t.name := by unfold okK; simp [hk]
  refine (kind_atom t.kind t.int t.gen t.name t.func t.arity so t.items.length c t.bytes t.bits w).mono ?_
  rintro e w' ⟨rfl, hb'⟩
  refine ⟨so, c, ?_, ?_, hb'⟩
  · (rw [e1, e2]) <;> rfl
  · rw [e1]; exact hs
theorem kindQ_3 (hs : SlAt w0 9 (TmAt w0 f) so t.items) (hk : t.kind = 3) : Calls Tryz.prog 203 #[.agg #[.int .i64 t.kind, .int .i64 t.int, .int .i64 t.gen, .string t.name, .string t.func, .int .i64 t.arity, .slice so t.items.length c, .string t.bytes, .int .i64 t.bits]] w (KindQ w0 w f t) := by
  have e1 : leftT t = .mk t.kind 0 0 ⟨#[]⟩ t.func t.arity t.items t.bytes t.bits := by unfold leftT; simp [hk]
  have e2 : okK t = (wi t.int 1 2147483647 && wi t.gen 1 2147483647 && nameB t.name) := by unfold okK; simp [hk]
  refine (kind_num t.kind t.int t.gen t.name t.func t.arity so t.items.length c t.bytes t.bits w).mono ?_
  rintro e w' ⟨rfl, hb'⟩
  refine ⟨so, c, ?_, ?_, hb'⟩
  · (rw [e1, e2]) <;> rfl
  · rw [e1]; exact hs
theorem kindQ_4 (hs : SlAt w0 9 (TmAt w0 f) so t.items) (hk : t.kind = 4) : Calls Tryz.prog 209 #[.agg #[.int .i64 t.kind, .int .i64 t.int, .int .i64 t.gen, .string t.name, .string t.func, .int .i64 t.arity, .slice so t.items.length c, .string t.bytes, .int .i64 t.bits]] w (KindQ w0 w f t) := by
  have e1 : leftT t = .mk t.kind 0 0 ⟨#[]⟩ t.func 0 [] t.bytes t.bits := by unfold leftT; simp [hk]
  have e2 : okK t = (wi t.int 0 999 && wi t.gen 1 2147483647 && nameB t.name && wi t.arity 0 16 && decide ((t.items.length : Int) ≤ (200 : Nat))) := by rw [← nat_le]; unfold okK; simp [hk]
  refine (kind_closure t.kind t.int t.gen t.name t.func t.arity so t.items.length c t.bytes t.bits w).mono ?_
  rintro e w' ⟨rfl, hb'⟩
  refine ⟨none, 0, ?_, ?_, hb'⟩
  · (rw [e1, e2]) <;> rfl
  · rw [e1]; exact SlAt.nil w0 9 _ none
theorem kindQ_5 (hs : SlAt w0 9 (TmAt w0 f) so t.items) (hk : t.kind = 5) : Calls Tryz.prog 210 #[.agg #[.int .i64 t.kind, .int .i64 t.int, .int .i64 t.gen, .string t.name, .string t.func, .int .i64 t.arity, .slice so t.items.length c, .string t.bytes, .int .i64 t.bits]] w (KindQ w0 w f t) := by
  have e1 : leftT t = .mk t.kind t.int t.gen ⟨#[]⟩ ⟨#[]⟩ 0 t.items t.bytes t.bits := by unfold leftT; simp [hk]
  have e2 : okK t = (nameB t.name && nameB t.func && wi t.arity 0 16) := by unfold okK; simp [hk]
  refine (kind_export t.kind t.int t.gen t.name t.func t.arity so t.items.length c t.bytes t.bits w).mono ?_
  rintro e w' ⟨rfl, hb'⟩
  refine ⟨so, c, ?_, ?_, hb'⟩
  · (rw [e1, e2]) <;> rfl
  · rw [e1]; exact hs
theorem kindQ_6 (hs : SlAt w0 9 (TmAt w0 f) so t.items) (hk : t.kind = 6) : Calls Tryz.prog 203 #[.agg #[.int .i64 t.kind, .int .i64 t.int, .int .i64 t.gen, .string t.name, .string t.func, .int .i64 t.arity, .slice so t.items.length c, .string t.bytes, .int .i64 t.bits]] w (KindQ w0 w f t) := by
  have e1 : leftT t = .mk t.kind 0 0 ⟨#[]⟩ t.func t.arity t.items t.bytes t.bits := by unfold leftT; simp [hk]
  have e2 : okK t = (wi t.int 1 2147483647 && wi t.gen 1 2147483647 && nameB t.name) := by unfold okK; simp [hk]
  refine (kind_num t.kind t.int t.gen t.name t.func t.arity so t.items.length c t.bytes t.bits w).mono ?_
  rintro e w' ⟨rfl, hb'⟩
  refine ⟨so, c, ?_, ?_, hb'⟩
  · (rw [e1, e2]) <;> rfl
  · rw [e1]; exact hs
theorem kindQ_7 (hs : SlAt w0 9 (TmAt w0 f) so t.items) (hk : t.kind = 7) : Calls Tryz.prog 211 #[.agg #[.int .i64 t.kind, .int .i64 t.int, .int .i64 t.gen, .string t.name, .string t.func, .int .i64 t.arity, .slice so t.items.length c, .string t.bytes, .int .i64 t.bits]] w (KindQ w0 w f t) := by
  have e1 : leftT t = .mk t.kind t.int t.gen t.name t.func t.arity [] t.bytes t.bits := by unfold leftT; simp [hk]
  have e2 : okK t = decide ((t.items.length : Int) ≤ (255 : Nat)) := by rw [← nat_le]; unfold okK; simp [hk]
  refine (kind_tuple t.kind t.int t.gen t.name t.func t.arity so t.items.length c t.bytes t.bits w).mono ?_
  rintro e w' ⟨rfl, hb'⟩
  refine ⟨none, 0, ?_, ?_, hb'⟩
  · (rw [e1, e2]) <;> rfl
  · rw [e1]; exact SlAt.nil w0 9 _ none
theorem kindQ_8 (hs : SlAt w0 9 (TmAt w0 f) so t.items) (hk : t.kind = 8) : Calls Tryz.prog 212 #[.agg #[.int .i64 t.kind, .int .i64 t.int, .int .i64 t.gen, .string t.name, .string t.func, .int .i64 t.arity, .slice so t.items.length c, .string t.bytes, .int .i64 t.bits]] w (KindQ w0 w f t) := by
  have e1 : leftT t = .mk t.kind t.int t.gen t.name t.func t.arity t.items t.bytes t.bits := by unfold leftT; simp [hk]
  have e2 : okK t = true := by unfold okK; simp [hk]
  refine (kind_nil t.kind t.int t.gen t.name t.func t.arity so t.items.length c t.bytes t.bits w).mono ?_
  rintro e w' ⟨rfl, hb'⟩
  refine ⟨so, c, ?_, ?_, hb'⟩
  · (rw [e1, e2]) <;> rfl
  · rw [e1]; exact hs
theorem kindQ_9 (hs : SlAt w0 9 (TmAt w0 f) so t.items) (hb : Below w0.heap.size w0 w) (hl : t.items.length ≤ maxLen) (hk : t.kind = 9) : Calls Tryz.prog 213 #[.agg #[.int .i64 t.kind, .int .i64 t.int, .int .i64 t.gen, .string t.name, .string t.func, .int .i64 t.arity, .slice so t.items.length c, .string t.bytes, .int .i64 t.bits]] w (KindQ w0 w f t) := by
  have e1 : leftT t = .mk t.kind t.int t.gen t.name t.func t.arity [] t.bytes t.bits := by unfold leftT; simp [hk]
  have e2 : okK t = (decide (2 ≤ t.items.length) && decide (lastK t.items ≠ 9)) := by unfold okK; simp [hk]
  by_cases h2 : t.items.length < 2
  · refine (kind_list0 t.kind t.int t.gen t.name t.func t.arity so t.items.length c t.bytes t.bits w h2).mono ?_
    rintro e w' ⟨rfl, hb'⟩
    refine ⟨none, 0, ?_, ?_, hb'⟩
    · rw [e1, e2, decide_eq_false (by omega)]; rfl
    · rw [e1]; exact SlAt.nil w0 9 _ none
  · obtain ⟨m, hm⟩ : ∃ m, t.items.length = m + 2 := ⟨t.items.length - 2, by omega⟩
    have hm1 : m + 1 < t.items.length := by omega
    have hbf := hs.row hm1
    obtain ⟨b, off, rfl, hbl, hrow⟩ := hbf
    obtain ⟨cs, _, hcs, hR⟩ := hrow (m + 1) hm1
    have hcell : w.cell? ⟨b, off + (m + 1) * 9, none⟩ = some (.int .i64 (t.items[m + 1]).kind) := by
      refine (hb.cell (p := ⟨b, off + (m + 1) * 9, none⟩) hbl).trans ?_
      rw [show off + (m + 1) * 9 = off + (m + 1) * 9 + 0 by rfl, hcs 0 (by decide)]
      cases f with
      | zero => exact hR.elim
      | succ f => obtain ⟨⟨ai, ci, rfl, _⟩, _⟩ := hR; rfl
    have hk9 : lastK t.items = (t.items[m + 1]).kind := by
      unfold lastK
      rw [List.getLast?_eq_getElem?, hm, show m + 2 - 1 = m + 1 by rfl, List.getElem?_eq_getElem hm1]
    unfold maxLen at hl
    have h := kind_list2 t.kind t.int t.gen t.name t.func t.arity c t.bytes t.bits w b off m (t.items[m + 1]).kind (by omega) (Nat.lt_of_lt_of_le hbl hb.size) hcell
    rw [← hm] at h
    refine h.mono ?_
    rintro e w' ⟨rfl, hb'⟩
    refine ⟨none, 0, ?_, ?_, hb'⟩
    · rw [e1, e2, decide_eq_true (by omega), hk9, Bool.true_and, show (t.items[m + 1].kind != 9) = decide (t.items[m + 1].kind ≠ 9) by (rw [Bool.eq_iff_iff, bne_iff_ne, decide_eq_true_eq])]; rfl
    · rw [e1]; exact SlAt.nil w0 9 _ none
theorem kindQ_10 (hs : SlAt w0 9 (TmAt w0 f) so t.items) (hy : t.bytes.size ≤ maxLen) (hz : I64 t.bits) (hk : t.kind = 10) : Calls Tryz.prog 214 #[.agg #[.int .i64 t.kind, .int .i64 t.int, .int .i64 t.gen, .string t.name, .string t.func, .int .i64 t.arity, .slice so t.items.length c, .string t.bytes, .int .i64 t.bits]] w (KindQ w0 w f t) := by
  have e1 : leftT t = .mk t.kind t.int t.gen t.name t.func t.arity t.items ⟨#[]⟩ 0 := by unfold leftT; simp [hk]
  have e2 : okK t = bitsV t.bytes t.bits := by unfold okK bitsB; simp [hk]
  refine (kind_bits t.kind t.int t.gen t.name t.func t.arity so t.items.length c t.bytes t.bits w hy hz).mono ?_
  rintro e w' ⟨rfl, hb'⟩
  refine ⟨so, c, ?_, ?_, hb'⟩
  · (rw [e1, e2]) <;> rfl
  · rw [e1]; exact hs
end
end Go.Proofs.YthmpobimmbmddaaGreatDoor
