/-
  Texts and numbers are inverse to each other: the plain law. No program in sight.
-/
import Derived.Test.YtlefjhicjmkonaaIReadPlain
namespace Go.Proofs.Ytlefjhicjmkonaa
open Go.RowKit

theorem dgt_nat (m : Nat) : (dgt m).toNat = 48 + m % 10 := by have := dgt_toNat m; omega
theorem isD_dgt (m : Nat) : isD (dgt m) = true := by unfold isD; rw [dgt_nat]; exact decide_eq_true (by omega)
theorem dig_ne (m : Nat) : dig m ≠ [] := by
  by_cases h : m < 10
  · rw [dig_small h]; simp
  · rw [dig_big h]; simp
theorem val_dig : ∀ (f m : Nat), m < f → val (dig m) = m
  | 0, _, h => absurd h (Nat.not_lt_zero _)
  | f + 1, m, h => by
    by_cases hs : m < 10
    · rw [dig_small hs]
      show 10 * 0 + ((dgt m).toNat - 48) = m
      rw [dgt_nat]; omega
    · rw [dig_big hs, val_snoc, val_dig f (m / 10) (by omega), dgt_nat]; omega
theorem all_dig : ∀ (f m : Nat), m < f → (dig m).all isD = true
  | 0, _, h => absurd h (Nat.not_lt_zero _)
  | f + 1, m, h => by
    by_cases hs : m < 10
    · rw [dig_small hs]; simp [isD_dgt]
    · rw [dig_big hs, List.all_append, all_dig f (m / 10) (by omega)]; simp [isD_dgt]
theorem getD_append0 {l : List UInt8} (h : l ≠ []) (r : List UInt8) : (l ++ r).getD 0 0 = l.getD 0 0 := by
  cases l with
  | nil => exact absurd rfl h
  | cons a l => rfl
theorem first_dig : ∀ (f m : Nat), m < f → 0 < m → (dig m).getD 0 0 ≠ 48
  | 0, _, h, _ => absurd h (Nat.not_lt_zero _)
  | f + 1, m, h, h0 => by
    by_cases hs : m < 10
    · rw [dig_small hs]
      intro e
      have e2 : dgt m = 48 := e
      have := dgt_nat m
      rw [e2] at this
      have h48 : (48 : UInt8).toNat = 48 := rfl
      omega
    · rw [dig_big hs, getD_append0 (dig_ne _)]; exact first_dig f (m / 10) (by omega) (by omega)
theorem dgs_dig (m : Nat) : dgs (dig m) = true := by
  unfold dgs
  rw [all_dig (m + 1) m (by omega)]
  have h1 : 0 < (dig m).length := List.length_pos_iff.2 (dig_ne m)
  by_cases h0 : 0 < m
  · have := first_dig (m + 1) m (by omega) h0
    simp only [decide_eq_true h1, decide_eq_true this]; simp
  · have : (dig m).length ≤ 1 := by rw [dig_small (by omega)]; exact Nat.le_refl _
    simp only [decide_eq_true h1, decide_eq_true this]; simp
theorem dgt_of {b : UInt8} (h : 48 ≤ b.toNat ∧ b.toNat ≤ 57) (v : Nat) (hv : v % 10 = b.toNat - 48) : dgt v = b := by
  apply UInt8.toNat_inj.1
  rw [dgt_nat]; omega
theorem dig_val : ∀ (f : Nat) (l : List UInt8), l.length < f → dgs l = true → dig (val l) = l
  | 0, _, h, _ => absurd h (Nat.not_lt_zero _)
  | f + 1, l, h, hd => by
    have hl := dgs_len hd
    have hne : l ≠ [] := List.length_pos_iff.1 hl
    have hb := dgs_digit hd (l.length - 1) (by omega)
    have hsplit : l = l.take (l.length - 1) ++ [l[l.length - 1]] := by
      have := List.take_succ_eq_append_getElem (l := l) (i := l.length - 1) (by omega)
      rw [← this, List.take_of_length_le (by omega)]
    have hval := val_take (l := l) (k := l.length - 1) (by omega)
    rw [List.take_of_length_le (show l.length ≤ l.length - 1 + 1 by omega)] at hval
    by_cases h1 : l.length = 1
    · have e : l.take (l.length - 1) = [] := by rw [h1]; rfl
      rw [e] at hval hsplit
      have hv : val l = l[l.length - 1].toNat - 48 := by rw [hval]; show 10 * 0 + _ = _; omega
      rw [dig_small (by omega), dgt_of hb _ (by omega)]
      exact hsplit.symm
    · have hdi : dgs (l.take (l.length - 1)) = true := by
        refine dgs_yes (by rw [List.length_take]; omega) (fun j hj => ?_) (fun hj => ?_)
        · rw [List.length_take] at hj
          have := dgs_digit hd j (by omega)
          simpa using this
        · have := dgs_first hd (by omega)
          simpa using this
      have hpos : 1 ≤ val (l.take (l.length - 1)) := by
        have h2 := val_mono (l.take (l.length - 1)) 1
        have h3 : val (l.take 1) = 10 * val (l.take 0) + (l[0].toNat - 48) := val_take (l := l) (k := 0) (by omega)
        have h4 := dgs_first hd (by omega)
        have h5 := dgs_digit hd 0 (by omega)
        rw [List.take_take, Nat.min_eq_left (by omega)] at h2
        have h6 : val (l.take 0) = 0 := rfl
        omega
      have ih := dig_val f (l.take (l.length - 1)) (by rw [List.length_take]; omega) hdi
      rw [dig_big (by omega), dgt_of hb _ (by omega), show val l / 10 = val (l.take (l.length - 1)) by omega, ih]
      exact hsplit.symm
/-! ### Read of a text, the text of what was read -/
theorem sgn_cons (a : UInt8) (l : List UInt8) : sgn (a :: l) = decide (a = 45) := by
  unfold sgn; simp
theorem sgn_dig (m : Nat) : sgn (dig m) = false := by
  have h0 : 0 < (dig m).length := List.length_pos_iff.2 (dig_ne m)
  rw [sgn_of h0]
  have := dgs_digit (dgs_dig m) 0 h0
  exact decide_eq_false (by omega)
theorem rd_txt {n : Int} : form (txt n) = true ∧ num (txt n) = n := by
  by_cases h : n < 0
  · have e : txt n = 45 :: dig n.natAbs := by unfold txt; rw [if_pos h]
    have hs : sgn (txt n) = true := by rw [e, sgn_cons]; exact decide_eq_true rfl
    have hm : mag (txt n) = dig n.natAbs := by rw [(form_neg hs).1, e]; rfl
    refine ⟨?_, ?_⟩
    · unfold form
      rw [hm, dgs_dig, e]
      have : ¬ (45 :: dig n.natAbs = [45, 48]) := fun c => by
        have c2 : dig n.natAbs = [48] := by simpa using c
        have := first_dig (n.natAbs + 1) n.natAbs (by omega) (by omega)
        rw [c2] at this
        exact this rfl
      rw [decide_eq_false this]; rfl
    · rw [(form_neg hs).2, hm, val_dig _ _ (Nat.lt_succ_self _)]; omega
  · have e : txt n = dig n.natAbs := by unfold txt; rw [if_neg h]
    have hs : sgn (txt n) = false := by rw [e]; exact sgn_dig _
    refine ⟨?_, ?_⟩
    · unfold form
      rw [(form_pos hs).1, e, dgs_dig]
      have : ¬ (dig n.natAbs = [45, 48]) := fun c => by
        have := sgn_dig n.natAbs
        rw [c] at this
        exact absurd this (by decide)
      rw [decide_eq_false this]; rfl
    · rw [(form_pos hs).2, (form_pos hs).1, e, val_dig _ _ (Nat.lt_succ_self _)]; omega
theorem rdv_txt {n : Int} (hn : I64 n) : rdv (txt n) = n := by unfold rdv; rw [if_pos rd_txt.1, rd_txt.2, okv_fit hn]
theorem rde_txt {n : Int} (hn : I64 n) : rde (txt n) = 0 := by unfold rde; rw [if_pos rd_txt.1, rd_txt.2, oke_fit hn]
theorem txt_len {n : Int} (hn : I64 n) : (txt n).length ≤ 20 := by
  unfold I64 at hn
  have := dig_len 18 n.natAbs (by omega)
  unfold txt
  split
  · simp; omega
  · omega
theorem txt_size {n : Int} (hn : I64 n) : (ByteArray.mk (txt n).toArray).size ≤ maxLen := by
  have h1 := txt_len hn
  have h2 : (ByteArray.mk (txt n).toArray).size = (txt n).length := by simp [ByteArray.size]
  rw [h2]; unfold maxLen; omega
theorem txt_num {l : List UInt8} (h : form l = true) : txt (num l) = l := by
  have hd : dgs (mag l) = true := by unfold form at h; simp only [Bool.and_eq_true] at h; exact h.1
  have hne : l ≠ [45, 48] := by unfold form at h; simp only [Bool.and_eq_true] at h; have := h.2; simpa using this
  have hv := dig_val _ _ (Nat.lt_succ_self _) hd
  cases hs : sgn l with
  | true =>
    have hm := (form_neg hs).1
    have hl : l = 45 :: mag l := by
      unfold sgn at hs
      have := of_decide_eq_true hs
      cases l with
      | nil => simp at this
      | cons a r =>
        have ha : a = 45 := this.2
        rw [hm, ha]; rfl
    have hpos : 0 < val (mag l) := by
      rcases Nat.eq_zero_or_pos (val (mag l)) with h0 | h0
      · rw [h0] at hv
        have h48 : dig 0 = [48] := by decide
        rw [h48] at hv
        rw [← hv] at hl
        exact absurd hl hne
      · exact h0
    rw [(form_neg hs).2]
    unfold txt
    rw [if_pos (by omega), Int.natAbs_neg, Int.natAbs_natCast, hv]
    exact hl.symm
  | false =>
    have hm := (form_pos hs).1
    rw [(form_pos hs).2]
    unfold txt
    rw [if_neg (by omega), Int.natAbs_natCast, hv, hm]
theorem rd_err {l : List UInt8} (h : decide (rde l = 0) = false) : rdv l = 0 := by
  have h := of_decide_eq_false h
  unfold rde at h
  unfold rdv
  by_cases hf : form l = true
  · rw [if_pos hf] at h ⊢
    by_cases hi : I64 (num l)
    · exact absurd (oke_fit hi) h
    · exact okv_not hi
  · rw [if_neg hf]
theorem rd_fit (l : List UInt8) : I64 (rdv l) := by
  unfold rdv
  split
  · exact okv_i64 _
  · decide
theorem rd_ok {l : List UInt8} (h : decide (rde l = 0) = true) : txt (rdv l) = l := by
  have h := of_decide_eq_true h
  unfold rde at h
  unfold rdv
  by_cases hf : form l = true
  · rw [if_pos hf] at h ⊢
    by_cases hi : I64 (num l)
    · rw [okv_fit hi, txt_num hf]
    · rw [oke_not hi] at h; exact absurd h (by decide)
  · rw [if_neg hf] at h; exact absurd h (by decide)

end Go.Proofs.Ytlefjhicjmkonaa
