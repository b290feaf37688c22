/-
  The checksum of a string with some bits turned: the plain laws. No program in sight.
-/
import Derived.Test.YteleaiodkljigaaDoorFBack
namespace Go.Proofs.YteleaiodkljigaaDoor

/-- The bits of a string as one number, the first bit the lowest. -/
def LE : List UInt8 → Nat
  | [] => 0
  | b :: l => b.toNat ^^^ (256 * LE l)
theorem steps_mul : ∀ (k m : Nat), steps k (2 ^ k * m) = m
  | 0, m => by simp [steps]
  | k + 1, m => by
    have h : step (2 ^ (k + 1) * m) = 2 ^ k * m := by
      unfold step
      have e : 2 ^ (k + 1) * m = 2 * (2 ^ k * m) := by rw [Nat.pow_succ, Nat.mul_comm (2 ^ k) 2, Nat.mul_assoc]
      rw [e, if_neg (by omega)]; omega
    rw [steps, h, steps_mul k m]
theorem foldl_LE : ∀ (l : List UInt8) (n : Nat), l.foldl upd n = steps (8 * l.length) (n ^^^ LE l)
  | [], n => by simp [steps, LE]
  | b :: l, n => by
    rw [List.foldl_cons, foldl_LE l, List.length_cons, show 8 * (l.length + 1) = 8 + 8 * l.length by omega, steps_add]
    congr 1
    have h8 := steps_mul 8 (LE l)
    rw [show (2 : Nat) ^ 8 = 256 from rfl] at h8
    rw [LE, ← Nat.xor_assoc, steps_xor, h8]
    rfl
theorem steps_ne : ∀ (k m : Nat), m ≠ 0 → m < 4294967296 → steps k m ≠ 0
  | 0, m, h, _ => h
  | k + 1, m, h, hl => by
    rw [steps]
    refine steps_ne k (step m) ?_ (step_lt hl)
    unfold step
    split
    · intro he
      have h2 : m / 2 = 3988292384 := by
        have := congrArg (fun x => x ^^^ 3988292384) he
        simpa [Nat.xor_assoc] using this
      omega
    · omega
/-- Two strings of one length whose bits differ within 32 consecutive ones only. -/
theorem burst {b c : List UInt8} {s m : Nat} (hlen : c.length = b.length) (hs : s ≤ 8 * b.length) (hm : m < 4294967296) (h : LE c = LE b ^^^ (2 ^ s * m)) : crc c = crc b ↔ m = 0 := by
  constructor
  · intro he
    apply Classical.byContradiction
    intro hm0
    have h1 : crcRun c = crcRun b := by
      have := congrArg (fun x => x ^^^ 4294967295) he
      unfold crc at this
      simpa [Nat.xor_assoc] using this
    unfold crcRun at h1
    rw [foldl_LE, foldl_LE, hlen, h, ← Nat.xor_assoc, steps_xor] at h1
    have h2 := congrArg (fun x => steps (8 * b.length) (4294967295 ^^^ LE b) ^^^ x) h1
    have h3 : steps (8 * b.length) (2 ^ s * m) = 0 := by
      have : steps (8 * b.length) (4294967295 ^^^ LE b) ^^^ (steps (8 * b.length) (4294967295 ^^^ LE b) ^^^ steps (8 * b.length) (2 ^ s * m)) = steps (8 * b.length) (4294967295 ^^^ LE b) ^^^ steps (8 * b.length) (4294967295 ^^^ LE b) := h2
      rw [← Nat.xor_assoc, Nat.xor_self, Nat.zero_xor] at this
      exact this
    rw [show 8 * b.length = s + (8 * b.length - s) by omega, steps_add, steps_mul] at h3
    exact steps_ne _ m hm0 hm h3
  · intro h0
    rw [h0, Nat.mul_zero, Nat.xor_zero] at h
    unfold crc crcRun
    rw [foldl_LE, foldl_LE, hlen, h]
/-- One bit turned. -/
def turn (l : List UInt8) (k : Nat) : List UInt8 := l.set (k / 8) (l[k / 8]! ^^^ UInt8.ofNat (2 ^ (k % 8)))
theorem turn_len (l : List UInt8) (k : Nat) : (turn l k).length = l.length := by unfold turn; simp
theorem mul_xor (k a b : Nat) : 2 ^ k * (a ^^^ b) = (2 ^ k * a) ^^^ (2 ^ k * b) := by
  rw [Nat.mul_comm, Nat.mul_comm (2 ^ k) a, Nat.mul_comm (2 ^ k) b, ← Nat.shiftLeft_eq, ← Nat.shiftLeft_eq, ← Nat.shiftLeft_eq, Nat.shiftLeft_xor_distrib]
theorem LE_set : ∀ (l : List UInt8) (i : Nat) (x : UInt8), i < l.length → LE (l.set i (l[i]! ^^^ x)) = LE l ^^^ (2 ^ (8 * i) * x.toNat)
  | [], i, x, h => absurd h (Nat.not_lt_zero _)
  | b :: l, 0, x, _ => by
    simp only [List.set_cons_zero, LE, List.getElem!_cons_zero, UInt8.toNat_xor, Nat.mul_zero, Nat.pow_zero, Nat.one_mul]
    rw [Nat.xor_assoc, Nat.xor_comm x.toNat, ← Nat.xor_assoc]
  | b :: l, i + 1, x, h => by
    have ih := LE_set l i x (by simpa using h)
    simp only [List.set_cons_succ, LE, List.getElem!_cons_succ]
    rw [ih, show (256 : Nat) = 2 ^ 8 from rfl, mul_xor, ← Nat.xor_assoc, show 8 * (i + 1) = 8 + 8 * i by omega, Nat.pow_add, Nat.mul_assoc]
theorem LE_turn (l : List UInt8) (k : Nat) (h : k < 8 * l.length) : LE (turn l k) = LE l ^^^ 2 ^ k := by
  unfold turn
  rw [LE_set l (k / 8) _ (by omega), UInt8.toNat_ofNat']
  have h8 : k % 8 < 8 := Nat.mod_lt _ (by decide)
  have : 2 ^ (k % 8) < 2 ^ 8 := Nat.pow_lt_pow_right (by decide) h8
  rw [Nat.mod_eq_of_lt this, ← Nat.pow_add]
  congr 2
  omega
/-- The mask's first bits, turned into a string from bit s on. -/
theorem mask_next {b c : List UInt8} {s i mask : Nat} (h : LE c = LE b ^^^ (2 ^ s * (mask % 2 ^ i))) (hk : s + i < 8 * c.length) (hb : mask / 2 ^ i % 2 = 1) :
    LE (turn c (s + i)) = LE b ^^^ (2 ^ s * (mask % 2 ^ (i + 1))) := by
  have e : mask % 2 ^ (i + 1) = (mask % 2 ^ i) ^^^ 2 ^ i := by
    have h1 : mask % 2 ^ (i + 1) = mask % 2 ^ i + 2 ^ i * (mask / 2 ^ i % 2) := by rw [Nat.pow_succ, Nat.mod_mul]
    rw [hb, Nat.mul_one] at h1
    rw [h1]
    have hlt : mask % 2 ^ i < 2 ^ i := Nat.mod_lt _ (Nat.two_pow_pos i)
    have := Nat.two_pow_add_eq_or_of_lt hlt 1
    rw [Nat.mul_one, Nat.add_comm] at this
    rw [this]
    apply Nat.eq_of_testBit_eq
    intro j
    rw [Nat.testBit_or, Nat.testBit_xor, Nat.testBit_two_pow]
    by_cases hj : i = j
    · subst hj
      rw [Nat.testBit_lt_two_pow hlt]; simp
    · simp [hj]
  rw [LE_turn c (s + i) hk, h, e, mul_xor, ← Nat.pow_add, Nat.xor_assoc]
theorem mask_keep {mask i : Nat} (hb : mask / 2 ^ i % 2 = 0) : mask % 2 ^ (i + 1) = mask % 2 ^ i := by
  rw [Nat.pow_succ, Nat.mod_mul, hb, Nat.mul_zero, Nat.add_zero]
/-- A file with one bit turned is none. -/
theorem getE_turn {b : List UInt8} {k : Nat} (h : getE b = 0) (hk : k < 8 * b.length) : getE (turn b k) ≠ 0 := by
  intro h2
  obtain ⟨a1, a2, _⟩ := get_ok h
  obtain ⟨b1, b2, _⟩ := get_ok h2
  rw [turn_len] at b1
  generalize hn : b.length - 4 = n at *
  by_cases hlt : k / 8 < n
  · have t1 : (turn b k).take n = turn (b.take n) k := by
      unfold turn
      rw [List.take_set]
      congr 2
      have hb : k / 8 < b.length := by omega
      have ht : k / 8 < (b.take n).length := by rw [List.length_take]; omega
      rw [getElem!_pos b _ hb, getElem!_pos (b.take n) _ ht, List.getElem_take]
    have t2 : (turn b k).drop n = b.drop n := by
      unfold turn
      rw [List.drop_set, if_pos hlt]
    rw [t1, t2, ← a1] at b1
    have hl : (b.take n).length = n := by rw [List.length_take]; omega
    have hc := be4_inj (crc_lt _) (crc_lt _) b1
    have := (burst (b := b.take n) (c := turn (b.take n) k) (s := k) (m := 1) (turn_len _ _) (by omega) (by decide) (by rw [LE_turn _ _ (by omega), Nat.mul_one])).1 hc
    omega
  · have t1 : (turn b k).take n = b.take n := by
      unfold turn
      rw [List.take_set]
      exact List.set_eq_of_length_le (by rw [List.length_take]; omega)
    rw [t1, a1] at b1
    have hLE := LE_turn b k hk
    have hx : turn b k = b := by rw [← List.take_append_drop n (turn b k), ← b1, t1, List.take_append_drop]
    rw [hx] at hLE
    have h0 : (2 : Nat) ^ k = 0 := by
      have := congrArg (fun x => LE b ^^^ x) hLE
      simp only [← Nat.xor_assoc, Nat.xor_self, Nat.zero_xor] at this
      exact this.symm
    have := Nat.two_pow_pos k
    omega
/-- A file cut short is none; nor is one with something behind it. -/
theorem getE_cut {b : List UInt8} {k : Nat} (h : getE b = 0) (hk : k < b.length) : getE (b.take k) ≠ 0 := by
  intro h2
  obtain ⟨a1, a2, a3⟩ := get_ok h
  obtain ⟨b1, b2, b3⟩ := get_ok h2
  rw [List.length_take] at b2 b3
  have e : ((b.take k).drop 4).take 4 = (b.drop 4).take 4 := by
    rw [List.drop_take, List.take_take]; congr 1; omega
  rw [e, a3] at b3
  omega
theorem getE_more {b more : List UInt8} (h : getE b = 0) (hm : more ≠ []) : getE (b ++ more) ≠ 0 := by
  intro h2
  obtain ⟨a1, a2, a3⟩ := get_ok h
  obtain ⟨b1, b2, b3⟩ := get_ok h2
  have e : ((b ++ more).drop 4).take 4 = (b.drop 4).take 4 := by
    rw [List.drop_append_of_le_length (by omega), List.take_append_of_le_length (by rw [List.length_drop]; omega)]
  have hl : more.length ≠ 0 := fun h0 => hm (List.eq_nil_of_length_eq_zero h0)
  rw [e, a3, List.length_append] at b3
  omega

end Go.Proofs.YteleaiodkljigaaDoor
