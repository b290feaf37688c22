/-
  Bit strings, plain: bytes as bits, bits packed in bytes, one step of the writer. No program in sight.
-/
import Derived.Test.YthmpobimmbmddaaGreatDoorUMem
namespace Go.Proofs.YthmpobimmbmddaaGreatDoor
set_option linter.unusedVariables false
set_option linter.unusedSimpArgs false

/-- Bit j of a row of bits, the first one the highest, as a byte. -/
def pkN : Nat → List Bool → Nat
  | 0, _ => 0
  | n + 1, [] => 0
  | n + 1, b :: l => (if b then 2 ^ n else 0) + pkN n l
def pk (m : List Bool) : Nat := pkN 8 m
theorem pkN_nil (n : Nat) : pkN n [] = 0 := by cases n <;> rfl
theorem pkN_lt : ∀ (n : Nat) (m : List Bool), pkN n m < 2 ^ n
  | 0, _ => by simp [pkN]
  | n + 1, [] => by simp [pkN]; exact Nat.pos_of_ne_zero (by simp)
  | n + 1, b :: l => by
    have := pkN_lt n l
    unfold pkN
    rw [Nat.pow_succ]
    split <;> omega
theorem pk_lt (m : List Bool) : pk m < 256 := pkN_lt 8 m
theorem pkN_bit : ∀ (n : Nat) (m : List Bool) (i : Nat), (pkN n m).testBit i = (decide (i < n) && (m[n - 1 - i]?).getD false)
  | 0, m, i => by simp [pkN]
  | n + 1, [], i => by simp [pkN]
  | n + 1, b :: l, i => by
    have hlt := pkN_lt n l
    have ih := pkN_bit n l i
    unfold pkN
    have e : (if b = true then 2 ^ n else 0) + pkN n l = 2 ^ n * (if b = true then 1 else 0) + pkN n l := by split <;> simp
    rw [e, Nat.testBit_two_pow_mul_add _ hlt]
    by_cases hi : i < n
    · rw [if_pos hi, ih]
      have h1 : n + 1 - 1 - i = (n - 1 - i) + 1 := by omega
      rw [h1, List.getElem?_cons_succ]
      simp [hi, Nat.lt_succ_of_lt hi]
    · rw [if_neg hi]
      by_cases hn : i = n
      · subst hn
        simp
        cases b <;> simp
      · have h1 : ¬ i < n + 1 := by omega
        have h2 : 0 < i - n := by omega
        simp only [h1, decide_false, Bool.false_and]
        obtain ⟨k, hk⟩ : ∃ k, i - n = k + 1 := ⟨i - n - 1, by omega⟩
        rw [hk]
        cases b <;> simp [Nat.testBit_succ]
theorem pk_bit (m : List Bool) (i : Nat) : (pk m).testBit i = (decide (i < 8) && (m[7 - i]?).getD false) := pkN_bit 8 m i

/-- The bits of a byte, of bytes. -/
def byteB (c : UInt8) : List Bool := [c.toNat.testBit 7, c.toNat.testBit 6, c.toNat.testBit 5, c.toNat.testBit 4, c.toNat.testBit 3, c.toNat.testBit 2, c.toNat.testBit 1, c.toNat.testBit 0]
def bitsL (l : List UInt8) : List Bool := l.flatMap byteB
theorem byteB_len (c : UInt8) : (byteB c).length = 8 := rfl
theorem bitsL_len : ∀ l : List UInt8, (bitsL l).length = 8 * l.length
  | [] => rfl
  | c :: l => by
    have := bitsL_len l
    unfold bitsL at this ⊢
    rw [List.flatMap_cons, List.length_append, this, byteB_len, List.length_cons]; omega
theorem byteB_at (c : UInt8) (i : Nat) (h : i < 8) : (byteB c)[i]? = some (c.toNat.testBit (7 - i)) := by
  match i, h with
  | 0, _ => rfl
  | 1, _ => rfl
  | 2, _ => rfl
  | 3, _ => rfl
  | 4, _ => rfl
  | 5, _ => rfl
  | 6, _ => rfl
  | 7, _ => rfl
theorem bitsL_at : ∀ (l : List UInt8) (i : Nat), (bitsL l)[i]? = (l[i / 8]?).map fun c => c.toNat.testBit (7 - i % 8)
  | [], i => by simp [bitsL]
  | c :: l, i => by
    have ih := bitsL_at l (i - 8)
    have e : bitsL (c :: l) = byteB c ++ bitsL l := by unfold bitsL; rw [List.flatMap_cons]
    rw [e]
    by_cases h : i < 8
    · rw [List.getElem?_append_left (by rw [byteB_len]; exact h), byteB_at c i h]
      have h0 : i / 8 = 0 := by omega
      have h1 : i % 8 = i := by omega
      rw [h0, h1]; rfl
    · rw [List.getElem?_append_right (by rw [byteB_len]; omega), byteB_len, ih]
      have h0 : i / 8 = (i - 8) / 8 + 1 := by omega
      have h1 : (i - 8) % 8 = i % 8 := by omega
      rw [h0, h1, List.getElem?_cons_succ]

/-- Bits packed in bytes, the last one filled up with zeros. -/
def packF : Nat → List Bool → List UInt8
  | 0, _ => []
  | f + 1, m => if m.length = 0 then [] else UInt8.ofNat (pk m) :: packF f (m.drop 8)
def packB (m : List Bool) : List UInt8 := packF m.length m
theorem packF_more : ∀ (f g : Nat) (m : List Bool), m.length ≤ f → m.length ≤ g → packF f m = packF g m
  | 0, 0, m, _, _ => rfl
  | 0, g + 1, m, h, _ => by unfold packF; rw [if_pos (by omega)]
  | f + 1, 0, m, _, h => by unfold packF; rw [if_pos (by omega)]
  | f + 1, g + 1, m, h1, h2 => by
    unfold packF
    split
    · rfl
    · rw [packF_more f g (m.drop 8) (by rw [List.length_drop]; omega) (by rw [List.length_drop]; omega)]
theorem packB_nil : packB [] = [] := rfl
theorem packB_cons (m : List Bool) (h : m ≠ []) : packB m = UInt8.ofNat (pk m) :: packB (m.drop 8) := by
  have hp : 0 < m.length := List.length_pos_iff.2 h
  obtain ⟨k, hk⟩ : ∃ k, m.length = k + 1 := ⟨m.length - 1, by omega⟩
  unfold packB
  rw [hk]
  show (if m.length = 0 then [] else _) = _
  rw [if_neg (by omega), packF_more k (m.drop 8).length _ (by rw [List.length_drop]; omega) (Nat.le_refl _)]
theorem pkN_take : ∀ (n : Nat) (m r : List Bool), n ≤ m.length → pkN n (m ++ r) = pkN n m
  | 0, _, _, _ => rfl
  | n + 1, [], _, h => by simp at h
  | n + 1, b :: l, r, h => by
    show _ + pkN n (l ++ r) = _ + pkN n l
    rw [pkN_take n l r (by simpa using h)]
theorem packB_app : ∀ (q : Nat) (a m : List Bool), a.length = 8 * q → packB (a ++ m) = packB a ++ packB m
  | 0, a, m, h => by
    have : a = [] := List.length_eq_zero_iff.1 (by omega)
    subst this; rfl
  | q + 1, a, m, h => by
    have ha : a ≠ [] := by intro e; subst e; simp at h
    rw [packB_cons (a ++ m) (by simp [ha]), packB_cons a ha, List.drop_append_of_le_length (by omega), packB_app q (a.drop 8) m (by rw [List.length_drop]; omega)]
    have : pk (a ++ m) = pk a := pkN_take 8 a m (by omega)
    rw [this]; rfl
theorem packB_one (m : List Bool) (h : m ≠ []) (h8 : m.length ≤ 8) : packB m = [UInt8.ofNat (pk m)] := by
  rw [packB_cons m h, List.drop_eq_nil_of_le h8]; rfl
theorem packB_len : ∀ (n : Nat) (m : List Bool), m.length ≤ n → (packB m).length = (m.length + 7) / 8
  | 0, m, h => by
    have : m = [] := List.length_eq_zero_iff.1 (by omega)
    subst this; rfl
  | n + 1, m, h => by
    by_cases hm : m = []
    · subst hm; rfl
    · have hp : 0 < m.length := List.length_pos_iff.2 hm
      rw [packB_cons m hm, List.length_cons, packB_len n (m.drop 8) (by rw [List.length_drop]; omega), List.length_drop]
      omega
theorem packB_length (m : List Bool) : (packB m).length = (m.length + 7) / 8 := packB_len m.length m (Nat.le_refl _)

/-- The bits of a row from i on, at most n. -/
def sub (l : List Bool) (i n : Nat) : List Bool := (l.drop i).take n
theorem sub_at (l : List Bool) (i n j : Nat) : (sub l i n)[j]? = if j < n then l[i + j]? else none := by
  unfold sub
  rw [List.getElem?_take]
  split
  · rw [List.getElem?_drop]
  · rfl
theorem sub_len (l : List Bool) (i n : Nat) (h : i + n ≤ l.length) : (sub l i n).length = n := by
  unfold sub; rw [List.length_take, List.length_drop]; omega
theorem sub_add (l : List Bool) (i n k : Nat) : sub l i (n + k) = sub l i n ++ sub l (i + n) k := by
  unfold sub; rw [List.take_add, List.drop_drop]
theorem testBit_ext {a b : Nat} (h : ∀ i, a.testBit i = b.testBit i) : a = b := Nat.eq_of_testBit_eq h
theorem u8_bit (c : UInt8) (i : Nat) (h : 8 ≤ i) : c.toNat.testBit i = false := by
  apply Nat.testBit_lt_two_pow
  have h1 : c.toNat < 2 ^ 8 := c.toNat_lt
  exact Nat.lt_of_lt_of_le h1 (Nat.pow_le_pow_right (by decide) h)
/-- The eight bits from i on, masked to the first many. -/
theorem eight_is (l : List UInt8) (i many : Nat) (c d : UInt8) (hm : many ≤ 8) (hc : l[i / 8]? = some c) (hd : (l[i / 8 + 1]?).getD 0 = d) (hin : i + many ≤ 8 * l.length) :
    (((c.toNat <<< (i % 8)) % 256 ||| d.toNat >>> (8 - i % 8)) &&& ((255 <<< (8 - many)) % 256)) = pk (sub (bitsL l) i many) := by
  have h256 : (256 : Nat) = 2 ^ 8 := rfl
  have h255 : (255 : Nat) = 2 ^ 8 - 1 := rfl
  apply testBit_ext
  intro j
  rw [pk_bit, Nat.testBit_and, Nat.testBit_or, h256, Nat.testBit_mod_two_pow, Nat.testBit_mod_two_pow, Nat.testBit_shiftLeft, Nat.testBit_shiftLeft, Nat.testBit_shiftRight, h255, Nat.testBit_two_pow_sub_one]
  by_cases hj : j < 8
  · rw [sub_at]
    by_cases hk : 7 - j < many
    · rw [if_pos hk, bitsL_at]
      have e1 : 8 - many ≤ j := by omega
      have e2 : j - (8 - many) < 8 := by omega
      simp only [hj, decide_true, Bool.true_and, e1, e2, Bool.and_true]
      by_cases hs : i % 8 ≤ j
      · have q1 : (i + (7 - j)) / 8 = i / 8 := by omega
        have q2 : 7 - (i + (7 - j)) % 8 = j - i % 8 := by omega
        rw [q1, hc, Option.map_some, q2, Option.getD_some, u8_bit d _ (by omega)]
        simp [hs]
      · have q1 : (i + (7 - j)) / 8 = i / 8 + 1 := by omega
        have q2 : 7 - (i + (7 - j)) % 8 = 8 - i % 8 + j := by omega
        have hl : i / 8 + 1 < l.length := by omega
        rw [List.getElem?_eq_getElem hl, Option.getD_some] at hd
        rw [q1, List.getElem?_eq_getElem hl, hd, Option.map_some, q2, Option.getD_some]
        simp [hs]
    · rw [if_neg hk]
      have e1 : ¬ 8 - many ≤ j := by omega
      simp [e1]
  · simp [hj]
theorem pk_or (r m : List Bool) (h : r.length < 8) : pk r ||| pk m >>> r.length = pk (r ++ m) := by
  apply testBit_ext
  intro j
  rw [Nat.testBit_or, Nat.testBit_shiftRight, pk_bit, pk_bit, pk_bit]
  by_cases hj : j < 8
  · by_cases hr : 7 - j < r.length
    · have e : ¬ r.length + j < 8 := by omega
      rw [List.getElem?_append_left hr]
      simp [hj, e]
    · have e : r.length + j < 8 := by omega
      have e2 : 7 - (r.length + j) = 7 - j - r.length := by omega
      rw [List.getElem?_append_right (by omega), List.getElem?_eq_none (by omega)]
      simp [hj, e, e2]
  · have e : ¬ r.length + j < 8 := by omega
    simp [hj, e]
theorem pk_shl (r m : List Bool) (h : r.length < 8) (hr : 0 < r.length) (h8 : m.length ≤ 8) : (pk m <<< (8 - r.length)) % 256 = pk ((r ++ m).drop 8) := by
  have h256 : (256 : Nat) = 2 ^ 8 := rfl
  apply testBit_ext
  intro j
  rw [h256, Nat.testBit_mod_two_pow, Nat.testBit_shiftLeft, pk_bit, pk_bit, List.getElem?_drop]
  by_cases hj : j < 8
  · rw [List.getElem?_append_right (by omega)]
    by_cases hg : 8 - r.length ≤ j
    · have e1 : j - (8 - r.length) < 8 := by omega
      have e2 : 7 - (j - (8 - r.length)) = 8 + (7 - j) - r.length := by omega
      simp [hj, hg, e1, e2]
    · have hn : m[8 + (7 - j) - r.length]? = none := List.getElem?_eq_none (by omega)
      rw [hn]; simp [hg]
  · simp [hj]
theorem packB_even (l m : List Bool) (h : l.length % 8 = 0) : packB (l ++ m) = packB l ++ packB m := packB_app (l.length / 8) l m (by omega)
theorem packB_split (l : List Bool) (h : 0 < l.length % 8) : ∃ (A : List UInt8) (r : List Bool), packB l = A ++ [UInt8.ofNat (pk r)] ∧ r.length = l.length % 8 ∧ A.length = l.length / 8 ∧ ∀ m, packB (l ++ m) = A ++ packB (r ++ m) := by
  have e : l = l.take (8 * (l.length / 8)) ++ l.drop (8 * (l.length / 8)) := (List.take_append_drop _ _).symm
  have h1 : (l.take (8 * (l.length / 8))).length = 8 * (l.length / 8) := by rw [List.length_take]; omega
  have h2 : (l.drop (8 * (l.length / 8))).length = l.length % 8 := by rw [List.length_drop]; omega
  refine ⟨packB (l.take (8 * (l.length / 8))), l.drop (8 * (l.length / 8)), ?_, h2, ?_, fun m => ?_⟩
  · have := packB_app _ _ (l.drop (8 * (l.length / 8))) h1
    rw [← e] at this
    rw [this, packB_one (l.drop (8 * (l.length / 8))) (by intro e; rw [e] at h2; simp at h2; omega) (by omega)]
  · rw [packB_length, h1]; omega
  · have := packB_app _ _ (l.drop (8 * (l.length / 8)) ++ m) h1
    rw [← List.append_assoc, ← e] at this
    exact this
/-- One step of the writer, the bits written so far not a whole number of bytes: the last byte is filled, and perhaps one more comes. -/
theorem packB_part (l m : List Bool) (h : 0 < l.length % 8) (h8 : m.length ≤ 8) : ∃ (A : List UInt8) (x : UInt8), packB l = A ++ [x] ∧ A.length = l.length / 8 ∧
    packB (l ++ m) = A ++ [UInt8.ofNat (x.toNat ||| pk m >>> (l.length % 8))] ++ (if 8 - l.length % 8 < m.length then [UInt8.ofNat ((pk m <<< (8 - l.length % 8)) % 256)] else []) := by
  obtain ⟨A, r, h1, h2, h3, h4⟩ := packB_split l h
  refine ⟨A, _, h1, h3, ?_⟩
  have hr : r ++ m ≠ [] := by intro e; have := congrArg List.length e; rw [List.length_append, List.length_nil] at this; omega
  rw [h4 m, packB_cons _ hr, ← h2, ← pk_or r m (by omega)]
  have e : (UInt8.ofNat (pk r)).toNat = pk r := by rw [UInt8.toNat_ofNat']; exact Nat.mod_eq_of_lt (pk_lt r)
  rw [e, List.append_assoc]
  congr 1
  split
  · rename_i h5
    rw [packB_one _ (by intro e; have := congrArg List.length e; rw [List.length_drop, List.length_append, List.length_nil] at this; omega) (by rw [List.length_drop, List.length_append]; omega), pk_shl r m (by omega) (by omega) h8]
    rfl
  · rename_i h5
    rw [List.drop_eq_nil_of_le (by rw [List.length_append]; omega)]
    rfl
/-- A row of bytes with that many bits is valid. -/
def ValidB (y : List UInt8) (n : Nat) : Prop := y = packB (sub (bitsL y) 0 n) ∧ y.length = (n + 7) / 8
theorem bitsL_pack (m : List Bool) : sub (bitsL (packB m)) 0 m.length = m := by
  apply List.ext_getElem?
  intro j
  rw [sub_at]
  split
  · rename_i hj
    rw [Nat.zero_add, bitsL_at]
    have hq : packB m = packB (m.take (8 * (j / 8))) ++ packB (m.drop (8 * (j / 8))) := by
      have h1 : (m.take (8 * (j / 8))).length = 8 * (j / 8) := by rw [List.length_take]; omega
      have := packB_app _ _ (m.drop (8 * (j / 8))) h1
      rwa [List.take_append_drop] at this
    have hl : (packB (m.take (8 * (j / 8)))).length = j / 8 := by rw [packB_length, List.length_take]; omega
    have hne : m.drop (8 * (j / 8)) ≠ [] := by intro e; have := congrArg List.length e; rw [List.length_drop, List.length_nil] at this; omega
    rw [hq, List.getElem?_append_right (by omega), hl, Nat.sub_self, packB_cons _ hne, List.getElem?_cons_zero, Option.map_some]
    have e : (UInt8.ofNat (pk (m.drop (8 * (j / 8))))).toNat = pk (m.drop (8 * (j / 8))) := by rw [UInt8.toNat_ofNat']; exact Nat.mod_eq_of_lt (pk_lt _)
    rw [e, pk_bit, List.getElem?_drop]
    have e1 : 7 - j % 8 < 8 := by omega
    have e2 : 8 * (j / 8) + (7 - (7 - j % 8)) = j := by omega
    rw [e2, List.getElem?_eq_getElem hj]
    simp [e1]
  · rename_i hj
    rw [List.getElem?_eq_none (by omega)]
end Go.Proofs.YthmpobimmbmddaaGreatDoor
