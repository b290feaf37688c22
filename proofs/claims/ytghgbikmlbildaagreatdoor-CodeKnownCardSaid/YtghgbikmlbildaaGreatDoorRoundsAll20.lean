/-
  What the external format's reader accepts is the encoding of what it returns. What the external format's reader makes of an encoding: the numbers, strings and names. What the external format's reader makes of the encoding of a well-formed term. A valid term has at most 2000 parts; the encoding of a valid term is read back, and of no two. Terms stay where they lie while a reader is written: its block has too few cells for them.
-/
import Derived.Test.YtghgbikmlbildaaGreatDoorRoundsAll04
import Derived.Test.YtghgbikmlbildaaGreatDoorRoundsAll19
namespace Go.Proofs.YtghgbikmlbildaaGreatDoor
open Go.RowKit
set_option linter.unusedVariables false
set_option linter.unusedSimpArgs false

theorem itemsG_enc {T : Nat → List UInt8 → Option ((Tm × Nat) × List UInt8)} {E : Tm → List UInt8} (H : ∀ p l t p' l', T p l = some ((t, p'), l') → l = E t ++ l') :
  ∀ (n p : Nat) (l : List UInt8) (ts : List Tm) (p' : Nat) (l' : List UInt8), itemsG T n p l = some ((ts, p'), l') → l = ts.flatMap E ++ l' ∧ ts.length = n
 | 0, p, l, ts, p', l', h => by
  simp only [itemsG, Option.some.injEq, Prod.mk.injEq] at h
  rw [← h.1.1, ← h.2]; exact ⟨rfl, rfl⟩
 | n + 1, p, l, ts, p', l', h => by
  unfold itemsG at h
  obtain ⟨x, hx, h⟩ := Option.bind_eq_some_iff.1 h
  obtain ⟨y, hy, h⟩ := Option.bind_eq_some_iff.1 h
  simp only [Option.some.injEq, Prod.mk.injEq] at h
  have e1 := H p l x.1.1 x.1.2 x.2 hx
  have e2 := itemsG_enc H n x.1.2 x.2 y.1.1 y.1.2 y.2 hy
  rw [← h.1.1, ← h.2]
  refine ⟨?_, by rw [List.length_cons, e2.2]⟩
  rw [List.flatMap_cons, List.append_assoc, ← e2.1]; exact e1
theorem itemsD_enc {T : Nat → List UInt8 → Option ((Tm × Nat) × List UInt8)} {E : Tm → List UInt8} (H : ∀ p l t p' l', T p l = some ((t, p'), l') → l = E t ++ l')
  {n p : Nat} {l : List UInt8} {ts : List Tm} {p' : Nat} {l' : List UInt8} (h : itemsD T n p l = some ((ts, p'), l')) : l = ts.flatMap E ++ l' ∧ ts.length = n ∧ n ≤ 2000 := by
 unfold itemsD at h
 split at h
 ·next c => have := itemsG_enc H n p l ts p' l' h; exact ⟨this.1, this.2, c⟩
 ·exact absurd h (by simp)
theorem exportD_enc {E : Tm → List UInt8} {p : Nat} {l : List UInt8} {t : Tm} {p' : Nat} {l' : List UInt8} (h : exportD p l = some ((t, p'), l')) : 113 :: l = (headE t ++ t.items.flatMap E) ++ l' := by
 unfold exportD at h
 obtain ⟨x, hx, h⟩ := Option.bind_eq_some_iff.1 h
 obtain ⟨y, hy, h⟩ := Option.bind_eq_some_iff.1 h
 obtain ⟨z, hz, h⟩ := Option.bind_eq_some_iff.1 h
 split at h
 ·next c =>
  obtain ⟨q, hq, h⟩ := Option.bind_eq_some_iff.1 h
  simp only [Option.some.injEq, Prod.mk.injEq] at h
  have e1 := nameD_enc (b := x.1) (l2 := x.2) hx
  have e2 := nameD_enc (b := y.1) (l2 := y.2) hy
  have e3 := byteD_enc (n := z.1) (l2 := z.2) hz
  have e4 := byteD_enc (n := q.1) (l2 := q.2) hq
  have hi : intE (q.1 : Int) = [97, UInt8.ofNat q.1] := by unfold intE; rw [if_pos (by omega)]; rfl
  rw [← h.1.1, ← h.2, e1.1, e2.1, e3.1, e4.1, c]
  show _ = ((113 :: (atomE x.1 ++ (atomE y.1 ++ intE (q.1 : Int)))) ++ []) ++ q.2
  rw [hi]; simp
 ·exact absurd h (by simp)
theorem closureD_enc {T : Nat → List UInt8 → Option ((Tm × Nat) × List UInt8)} {E : Tm → List UInt8} (H : ∀ p l t p' l', T p l = some ((t, p'), l') → l = E t ++ l')
  {p : Nat} {l : List UInt8} {t : Tm} {p' : Nat} {l' : List UInt8} (h : closureD T p l = some ((t, p'), l')) : 112 :: l = (headE t ++ t.items.flatMap E) ++ l' := by
 unfold closureD at h
 obtain ⟨a, ha, h⟩ := Option.bind_eq_some_iff.1 h
 obtain ⟨b, hb, h⟩ := Option.bind_eq_some_iff.1 h
 obtain ⟨c, hc, h⟩ := Option.bind_eq_some_iff.1 h
 obtain ⟨d, hd, h⟩ := Option.bind_eq_some_iff.1 h
 obtain ⟨e, he, h⟩ := Option.bind_eq_some_iff.1 h
 obtain ⟨q, hq, h⟩ := Option.bind_eq_some_iff.1 h
 simp only [Option.some.injEq, Prod.mk.injEq] at h
 have e1 := byteD_enc (n := a.1) (l2 := a.2) ha
 have e2 := numD_enc (n := b.1) (l2 := b.2) hb
 have e3 := byteD_enc (n := c.1) (l2 := c.2) hc
 have e4 := nameD_enc (b := d.1) (l2 := d.2) hd
 have e5 := numD_enc (n := e.1) (l2 := e.2) he
 have e6 := itemsD_enc H (ts := q.1.1) (p' := q.1.2) (l' := q.2) hq
 rw [← h.1.1, ← h.2, e1.1, e2.1, e3.1, e4.1, e5.1, e6.1]
 show _ = ((112 :: UInt8.ofNat ((a.1 : Int).toNat) :: (beN 2 (b.1 : Int) ++ (UInt8.ofNat q.1.1.length :: (atomE d.1 ++ beN 4 (e.1 : Int))))) ++ q.1.1.flatMap E) ++ q.2
 rw [e6.2.1]; simp
theorem sgn_be {n : Nat} (h : n < 4294967296) : beN 4 (sgn32 n) = beN 4 n := by
 unfold sgn32
 split
 ·rfl
 ·have : ∀ (k : Nat) (a : Int), k ≤ 4 → beN k (a - 4294967296) = beN k a := by
   intro k
   induction k with
   | zero => intro a _; rfl
   | succ k ih =>
    intro a hk
    show UInt8.ofNat _ :: beN k _ = UInt8.ofNat _ :: beN k _
    rw [ih a (by omega)]
    congr 2
    have : k = 0 ∨ k = 1 ∨ k = 2 ∨ k = 3 := by omega
    rcases this with rfl | rfl | rfl | rfl <;> simp <;> omega
  exact this 4 n (by omega)
theorem funD_enc {T : Nat → List UInt8 → Option ((Tm × Nat) × List UInt8)} {E : Tm → List UInt8} (H : ∀ p l t p' l', T p l = some ((t, p'), l') → l = E t ++ l')
  {p : Nat} {l : List UInt8} {t : Tm} {p' : Nat} {l' : List UInt8} (h : funD T p l = some ((t, p'), l')) : l = (headE t ++ t.items.flatMap E) ++ l' := by
 unfold funD at h
 obtain ⟨x, hx, h⟩ := Option.bind_eq_some_iff.1 h
 have e1 := byteD_enc (n := x.1) (l2 := x.2) hx
 split at h
 ·next c => rw [e1.1, c]; exact exportD_enc h
 ·split at h
  ·next c => rw [e1.1, c]; exact closureD_enc H h
  ·exact absurd h (by simp)
theorem tagD_enc {T : Nat → List UInt8 → Option ((Tm × Nat) × List UInt8)} {E : Tm → List UInt8} (H : ∀ p l t p' l', T p l = some ((t, p'), l') → l = E t ++ l')
  {p tag : Nat} {l0 l : List UInt8} {t : Tm} {p' : Nat} {l' : List UInt8} (h0 : l0 = UInt8.ofNat tag :: l) (h : tagD T p l0 tag l = some ((t, p'), l')) : l0 = (headE t ++ t.items.flatMap E) ++ l' := by
 unfold tagD at h
 by_cases c : tag = 97
 ·rw [if_pos c] at h
  obtain ⟨x, hx, h⟩ := Option.bind_eq_some_iff.1 h
  simp only [Option.some.injEq, Prod.mk.injEq] at h
  have e1 := byteD_enc (n := x.1) (l2 := x.2) hx
  have hi : intE (x.1 : Int) = [97, UInt8.ofNat x.1] := by unfold intE; rw [if_pos (by omega)]; rfl
  rw [h0, c, ← h.1.1, ← h.2, e1.1]; show _ = (intE (x.1 : Int) ++ []) ++ x.2; rw [hi]; rfl
 rw [if_neg c] at h
 by_cases c : tag = 98
 ·rw [if_pos c] at h
  obtain ⟨x, hx, h⟩ := Option.bind_eq_some_iff.1 h
  have e1 := numD_enc (n := x.1) (l2 := x.2) hx
  split at h
  ·next c2 =>
   simp only [Option.some.injEq, Prod.mk.injEq] at h
   have hx4 : x.1 < 4294967296 := e1.2
   have hs : -2147483648 ≤ sgn32 x.1 ∧ sgn32 x.1 ≤ 2147483647 := by unfold sgn32; split <;> omega
   have hi : intE (sgn32 x.1) = 98 :: beN 4 (sgn32 x.1) := by unfold intE; rw [if_neg (by omega), if_pos hs]
   rw [h0, c, ← h.1.1, ← h.2, e1.1]; show _ = (intE (sgn32 x.1) ++ []) ++ x.2; rw [hi, sgn_be hx4]; simp
  ·exact absurd h (by simp)
 rw [if_neg c] at h
 by_cases c : tag = 110
 ·rw [if_pos c] at h
  obtain ⟨x, hx, h⟩ := Option.bind_eq_some_iff.1 h
  simp only [Option.some.injEq, Prod.mk.injEq] at h
  have e1 := largeD_enc (n := x.1) (l2 := x.2) hx
  rw [h0, c, ← h.1.1, ← h.2]; show 110 :: l = (intE x.1 ++ []) ++ x.2; rw [e1, List.append_nil]
 rw [if_neg c] at h
 by_cases c : tag = 119
 ·rw [if_pos c] at h
  obtain ⟨x, hx, h⟩ := Option.bind_eq_some_iff.1 h
  obtain ⟨y, hy, h⟩ := Option.bind_eq_some_iff.1 h
  simp only [Option.some.injEq, Prod.mk.injEq] at h
  have e1 := byteD_enc (n := x.1) (l2 := x.2) hx
  have e2 := strD_enc (b := y.1) (l2 := y.2) hy
  rw [h0, c, ← h.1.1, ← h.2, e1.1, e2.1, ← e2.2]; show _ = (atomE y.1 ++ []) ++ y.2; rw [List.append_nil]; rfl
 rw [if_neg c] at h
 by_cases c : tag = 104
 ·rw [if_pos c] at h
  obtain ⟨x, hx, h⟩ := Option.bind_eq_some_iff.1 h
  obtain ⟨y, hy, h⟩ := Option.bind_eq_some_iff.1 h
  simp only [Option.some.injEq, Prod.mk.injEq] at h
  have e1 := byteD_enc (n := x.1) (l2 := x.2) hx
  have e2 := itemsD_enc H (ts := y.1.1) (p' := y.1.2) (l' := y.2) hy
  rw [h0, c, ← h.1.1, ← h.2, e1.1, e2.1, ← e2.2.1]; rfl
 rw [if_neg c] at h
 by_cases c : tag = 106
 ·rw [if_pos c] at h
  simp only [Option.some.injEq, Prod.mk.injEq] at h
  rw [h0, c, ← h.1.1, ← h.2]; rfl
 rw [if_neg c] at h
 by_cases c : tag = 108
 ·rw [if_pos c] at h
  obtain ⟨x, hx, h⟩ := Option.bind_eq_some_iff.1 h
  obtain ⟨y, hy, h⟩ := Option.bind_eq_some_iff.1 h
  simp only [Option.some.injEq, Prod.mk.injEq] at h
  have e1 := numD_enc (n := x.1) (l2 := x.2) hx
  have e2 := itemsD_enc H (ts := y.1.1) (p' := y.1.2) (l' := y.2) hy
  have e3 : ((y.1.1.length : Int) - 1) = (x.1 : Int) := by omega
  rw [h0, c, ← h.1.1, ← h.2, e1.1, e2.1]
  show _ = ((108 :: beN 4 ((y.1.1.length : Int) - 1)) ++ y.1.1.flatMap E) ++ y.2
  rw [e3]; simp
 rw [if_neg c] at h
 by_cases c : tag = 109
 ·rw [if_pos c] at h
  obtain ⟨x, hx, h⟩ := Option.bind_eq_some_iff.1 h
  obtain ⟨y, hy, h⟩ := Option.bind_eq_some_iff.1 h
  simp only [Option.some.injEq, Prod.mk.injEq] at h
  have e1 := numD_enc (n := x.1) (l2 := x.2) hx
  have e2 := strD_enc (b := y.1) (l2 := y.2) hy
  have hh : headE (tmK 10 (bytes := y.1) (bits := 8 * (y.1.size : Int))) = 109 :: (beN 4 y.1.size ++ y.1.data.toList) := by
   show (if (8 * (y.1.size : Int)) % 8 = 0 then _ else _) = _
   rw [if_pos (by omega)]; rfl
  rw [h0, c, ← h.1.1, ← h.2, e1.1, e2.1, hh, e2.2]; show _ = ((109 :: (beN 4 x.1 ++ y.1.data.toList)) ++ []) ++ y.2; simp
 rw [if_neg c] at h
 by_cases c : tag = 77
 ·rw [if_pos c] at h
  obtain ⟨x, hx, h⟩ := Option.bind_eq_some_iff.1 h
  obtain ⟨y, hy, h⟩ := Option.bind_eq_some_iff.1 h
  split at h
  ·next c2 =>
   obtain ⟨z, hz, h⟩ := Option.bind_eq_some_iff.1 h
   simp only [Option.some.injEq, Prod.mk.injEq] at h
   have e1 := numD_enc (n := x.1) (l2 := x.2) hx
   have e2 := byteD_enc (n := y.1) (l2 := y.2) hy
   have e3 := strD_enc (b := z.1) (l2 := z.2) hz
   have hm : (8 * ((x.1 : Int) - 1) + y.1) % 8 = y.1 := by omega
   have hh : headE (tmK 10 (bytes := z.1) (bits := 8 * ((x.1 : Int) - 1) + y.1)) = 77 :: (beN 4 z.1.size ++ (UInt8.ofNat y.1 :: z.1.data.toList)) := by
    show (if (8 * ((x.1 : Int) - 1) + y.1) % 8 = 0 then _ else 77 :: (beN 4 z.1.size ++ (UInt8.ofNat ((8 * ((x.1 : Int) - 1) + y.1) % 8).toNat :: z.1.data.toList))) = _
    rw [if_neg (by omega), hm]; rfl
   rw [h0, c, ← h.1.1, ← h.2, e1.1, e2.1, e3.1, hh, e3.2]; show _ = ((77 :: (beN 4 x.1 ++ (UInt8.ofNat y.1 :: z.1.data.toList))) ++ []) ++ z.2; simp
  ·exact absurd h (by simp)
 rw [if_neg c] at h
 by_cases c : tag = 88
 ·rw [if_pos c] at h
  obtain ⟨x, hx, h⟩ := Option.bind_eq_some_iff.1 h
  obtain ⟨y, hy, h⟩ := Option.bind_eq_some_iff.1 h
  obtain ⟨z, hz, h⟩ := Option.bind_eq_some_iff.1 h
  split at h
  ·next c2 =>
   obtain ⟨q, hq, h⟩ := Option.bind_eq_some_iff.1 h
   simp only [Option.some.injEq, Prod.mk.injEq] at h
   have e1 := nameD_enc (b := x.1) (l2 := x.2) hx
   have e2 := numD_enc (n := y.1) (l2 := y.2) hy
   have e3 := numD_enc (n := z.1) (l2 := z.2) hz
   have e4 := numD_enc (n := q.1) (l2 := q.2) hq
   rw [h0, c, ← h.1.1, ← h.2, e1.1, e2.1, e3.1, e4.1, c2]
   show _ = ((88 :: (atomE x.1 ++ (beN 4 y.1 ++ (beN 4 0 ++ beN 4 q.1)))) ++ []) ++ q.2; simp
  ·exact absurd h (by simp)
 rw [if_neg c] at h
 by_cases c : tag = 90
 ·rw [if_pos c] at h
  obtain ⟨x, hx, h⟩ := Option.bind_eq_some_iff.1 h
  split at h
  ·next c2 =>
   obtain ⟨y, hy, h⟩ := Option.bind_eq_some_iff.1 h
   obtain ⟨z, hz, h⟩ := Option.bind_eq_some_iff.1 h
   obtain ⟨q, hq, h⟩ := Option.bind_eq_some_iff.1 h
   simp only [Option.some.injEq, Prod.mk.injEq] at h
   have e1 := numD_enc (n := x.1) (l2 := x.2) hx
   have e2 := nameD_enc (b := y.1) (l2 := y.2) hy
   have e3 := numD_enc (n := z.1) (l2 := z.2) hz
   have e4 := numD_enc (n := q.1) (l2 := q.2) hq
   rw [h0, c, ← h.1.1, ← h.2, e1.1, e2.1, e3.1, e4.1, c2]
   show _ = ((90 :: 0 :: 1 :: (atomE y.1 ++ (beN 4 z.1 ++ beN 4 q.1))) ++ []) ++ q.2
   rw [show beN 2 ((1 : Nat) : Int) = [0, 1] from rfl]; simp
  ·exact absurd h (by simp)
 rw [if_neg c] at h
 exact funD_enc H h
theorem termD_enc : ∀ (f p : Nat) (l : List UInt8) (t : Tm) (p' : Nat) (l' : List UInt8), termD f p l = some ((t, p'), l') → l = codeE f t ++ l'
 | 0, p, l, t, p', l', h => absurd h (by simp [termD])
 | f + 1, p, l, t, p', l', h => by
  unfold termD at h
  split at h
  ·obtain ⟨x, hx, h⟩ := Option.bind_eq_some_iff.1 h
   have e1 := byteD_enc (n := x.1) (l2 := x.2) hx
   exact tagD_enc (termD_enc f) e1.1 h
  ·exact absurd h (by simp)
end Go.Proofs.YtghgbikmlbildaaGreatDoor
namespace Go.Proofs.YtghgbikmlbildaaGreatDoor
open Go.RowKit
set_option linter.unusedVariables false
set_option linter.unusedSimpArgs false

theorem beV_cons (c : UInt8) (l : List UInt8) : beV (c :: l) = c.toNat * 256 ^ l.length + beV l := by
 have := fold_be l (256 * 0 + c.toNat)
 rw [Nat.mul_zero, Nat.zero_add] at this
 show l.foldl (fun n c => 256 * n + c.toNat) (256 * 0 + c.toNat) = _
 rw [Nat.mul_zero, Nat.zero_add]; exact this
theorem beV_beN : ∀ (k n : Nat), beV (beN k (n : Int)) = n % 256 ^ k
 | 0, n => by rw [Nat.pow_zero, Nat.mod_one]; rfl
 | k + 1, n => by
  have e : (2 : Int) ^ (8 * k) = ((256 ^ k : Nat) : Int) := by
   rw [Int.natCast_pow, Int.pow_mul]; rfl
  have h : beN (k + 1) (n : Int) = UInt8.ofNat (n / 256 ^ k % 256) :: beN k n := by
   show UInt8.ofNat ((n : Int) / 2 ^ (8 * k) % 256).toNat :: beN k n = _
   rw [e, ← Int.natCast_ediv]; congr 2
  rw [h, beV_cons, beN_len, beV_beN k n, UInt8.toNat_ofNat', Nat.mod_eq_of_lt (a := n / 256 ^ k % 256) (by omega), Nat.pow_succ, Nat.mod_mul, Nat.mul_comm (256 ^ k), Nat.add_comm]
theorem numD_dec {k n : Nat} (h : n < 256 ^ k) (l : List UInt8) : numD k (beN k (n : Int) ++ l) = some (n, l) := by
 have hl := beN_len k (n : Int)
 unfold numD
 rw [if_pos (by rw [List.length_append]; omega), List.take_left' hl, List.drop_left' hl, beV_beN, Nat.mod_eq_of_lt h]
theorem numD_dec' {k : Nat} {n : Int} (h0 : 0 ≤ n) (h : n.toNat < 256 ^ k) (l : List UInt8) : numD k (beN k n ++ l) = some (n.toNat, l) := by
 have := numD_dec h l
 rwa [Int.toNat_of_nonneg h0] at this
theorem strD_dec (b : ByteArray) (l : List UInt8) : strD b.size (b.data.toList ++ l) = some (b, l) := by
 have hl : b.data.toList.length = b.size := rfl
 unfold strD
 rw [if_pos (by rw [List.length_append]; omega), List.take_left' hl, List.drop_left' hl]
theorem byteD_dec {n : Nat} (h : n < 256) (l : List UInt8) : byteD (UInt8.ofNat n :: l) = some (n, l) := by
 show some ((UInt8.ofNat n).toNat, l) = _
 rw [UInt8.toNat_ofNat', Nat.mod_eq_of_lt (by omega)]
theorem nameD_dec {b : ByteArray} (h : b.size < 256) (l : List UInt8) : nameD (atomE b ++ l) = some (b, l) := by
 unfold nameD
 rw [show atomE b ++ l = UInt8.ofNat 119 :: (UInt8.ofNat b.size :: (b.data.toList ++ l)) from rfl, byteD_dec (by omega), Option.bind_some, if_pos rfl, byteD_dec h, Option.bind_some, strD_dec]
theorem leV_leN : ∀ (f n : Nat), n < 256 ^ f → leV (leN f n) = n
 | 0, n, h => by rw [Nat.pow_zero] at h; have : n = 0 := by omega
                 subst this; rfl
 | f + 1, n, h => by
  unfold leN
  split
  ·next c => rw [c]; rfl
  ·show 256 * leV (leN f (n / 256)) + (UInt8.ofNat n).toNat = n
   rw [leV_leN f (n / 256) (by rw [Nat.pow_succ] at h; omega), UInt8.toNat_ofNat']
   show 256 * (n / 256) + n % 256 = n; omega
theorem leN_last : ∀ (f n : Nat), n < 256 ^ f → 0 < n → (leN f n).getD ((leN f n).length - 1) 0 ≠ 0
 | 0, n, h, h0 => by rw [Nat.pow_zero] at h; omega
 | f + 1, n, h, h0 => by
  unfold leN
  rw [if_neg (by omega)]
  by_cases c : n / 256 = 0
  ·have e : leN f (n / 256) = [] := by rw [c]; cases f <;> rfl
   rw [e]; show UInt8.ofNat n ≠ 0
   intro e2
   have := congrArg UInt8.toNat e2
   rw [UInt8.toNat_ofNat'] at this
   have h256 : n % 256 = 0 := this
   omega
  ·have ih := leN_last f (n / 256) (by rw [Nat.pow_succ] at h; omega) (by omega)
   have hne : leN f (n / 256) ≠ [] := fun e => by rw [e] at ih; exact ih rfl
   obtain ⟨c2, l2, e⟩ := List.exists_cons_of_ne_nil hne
   rw [e] at ih ⊢
   exact ih
theorem leN_ge : ∀ (f n : Nat), n < 256 ^ f → ∀ k, 256 ^ k ≤ n → k < (leN f n).length
 | 0, n, h, k, hk => by have := Nat.pow_pos (n := k) (show 0 < 256 by omega); rw [Nat.pow_zero] at h; omega
 | f + 1, n, h, k, hk => by
  have hp := Nat.pow_pos (n := k) (show 0 < 256 by omega)
  unfold leN
  rw [if_neg (by omega), List.length_cons]
  cases k with
  | zero => omega
  | succ k =>
   have := leN_ge f (n / 256) (by rw [Nat.pow_succ] at h; omega) k (by rw [Nat.pow_succ] at hk; omega)
   omega
theorem largeD_dec {n : Int} (h : I64 n) (hb : n < -2147483648 ∨ 2147483647 < n) (l : List UInt8) : ∃ l2, bigE n = 110 :: l2 ∧ largeD (l2 ++ l) = some (n, l) := by
 unfold I64 at h
 refine ⟨_, rfl, ?_⟩
 have hu : n.natAbs < 256 ^ 8 := by rw [show (256 : Nat) ^ 8 = 18446744073709551616 from rfl]; omega
 have hz := leN_len 8 n.natAbs
 have hg := leN_ge 8 n.natAbs hu 3 (by rw [show (256 : Nat) ^ 3 = 16777216 from rfl]; omega)
 have hlast := leN_last 8 n.natAbs hu (by omega)
 have hv := leV_leN 8 n.natAbs hu
 generalize leN 8 n.natAbs = c at *
 have hs : (if n < 0 then (1 : UInt8) else 0) = UInt8.ofNat (if n < 0 then 1 else 0) := by split <;> rfl
 have hc : (⟨c.toArray⟩ : ByteArray).size = c.length := by simp [ByteArray.size]
 have hstr := strD_dec ⟨c.toArray⟩ l
 rw [hc] at hstr
 have hstr : strD c.length (c ++ l) = some (⟨c.toArray⟩, l) := by simpa using hstr
 unfold largeD
 rw [hs]
 show (byteD (UInt8.ofNat c.length :: (UInt8.ofNat (if n < 0 then 1 else 0) :: (c ++ l)))).bind _ = _
 rw [byteD_dec (by omega), Option.bind_some, byteD_dec (by split <;> omega), Option.bind_some, if_pos ⟨by omega, hz, by split <;> omega⟩, hstr, Option.bind_some]
 have hV : largeV (if n < 0 then 1 else 0) ⟨c.toArray⟩ = some n := by
  unfold largeV
  rw [hc]
  rw [if_neg (by simpa using hlast)]
  have hv : leV (⟨c.toArray⟩ : ByteArray).data.toList = n.natAbs := by simpa using hv
  rw [hv]
  by_cases c0 : n < 0
  ·rw [if_pos c0, if_pos rfl, if_pos (by omega)]; congr 1; omega
  ·rw [if_neg c0, if_neg (by omega), if_pos (by omega)]; congr 1; omega
 rw [hV, Option.bind_some]
end Go.Proofs.YtghgbikmlbildaaGreatDoor
namespace Go.Proofs.YtghgbikmlbildaaGreatDoor
open Go.RowKit
set_option linter.unusedVariables false
set_option linter.unusedSimpArgs false

/-- How many parts a term has, up to a depth. -/
def nodesF : Nat → Tm → Nat
 | 0, _ => 0
 | f + 1, t => 1 + (t.items.map (nodesF f)).sum
/-- Its numbers are of 64 bits, up to a depth. -/
def OkF : Nat → Tm → Prop
 | 0, _ => False
 | f + 1, t => t.Ok ∧ ∀ x ∈ t.items, OkF f x
theorem itemsG_dec {T : Nat → List UInt8 → Option ((Tm × Nat) × List UInt8)} {E : Tm → List UInt8} {N : Tm → Nat} :
  ∀ (ts : List Tm) (p : Nat) (l : List UInt8), (∀ x ∈ ts, ∀ p l, p + N x ≤ 2000 → T p (E x ++ l) = some ((x, p + N x), l)) → p + (ts.map N).sum ≤ 2000 → itemsG T ts.length p (ts.flatMap E ++ l) = some ((ts, p + (ts.map N).sum), l)
 | [], p, l, _, _ => rfl
 | x :: ts, p, l, H, hp => by
  rw [List.map_cons, List.sum_cons] at hp
  have ih := itemsG_dec ts (p + N x) l (fun y hy => H y (List.mem_cons_of_mem _ hy)) (by omega)
  rw [List.length_cons, List.flatMap_cons, List.append_assoc]
  unfold itemsG
  rw [H x (List.mem_cons_self ..) p _ (by omega), Option.bind_some]
  show (itemsG T ts.length (p + N x) (ts.flatMap E ++ l)).bind _ = _
  rw [ih, Option.bind_some, List.map_cons, List.sum_cons, Nat.add_assoc]
theorem bz {b : ByteArray} (h : b.size = 0) : b = ⟨#[]⟩ := ByteArray.ext (Array.eq_empty_of_size_eq_zero h)
/-- A term with nothing in the fields that its kind does not use. -/
theorem tm_of {t : Tm} (h : zeroK t = true) :
  (¬ (t.kind = 1 ∨ t.kind = 3 ∨ t.kind = 4 ∨ t.kind = 6) → t.int = 0) ∧ (¬ (t.kind = 3 ∨ t.kind = 4 ∨ t.kind = 6) → t.gen = 0) ∧ (¬ (t.kind = 2 ∨ t.kind = 3 ∨ t.kind = 4 ∨ t.kind = 5 ∨ t.kind = 6) → t.name = ⟨#[]⟩) ∧
  (¬ t.kind = 5 → t.func = ⟨#[]⟩) ∧ (¬ (t.kind = 4 ∨ t.kind = 5) → t.arity = 0) ∧ (¬ (t.kind = 4 ∨ t.kind = 7 ∨ t.kind = 9) → t.items = []) ∧ (¬ t.kind = 10 → t.bytes = ⟨#[]⟩) ∧ (¬ t.kind = 10 → t.bits = 0) := by
 unfold zeroK at h
 simp only [Bool.and_eq_true, Bool.or_eq_true, decide_eq_true_eq, zI, zS, zL] at h
 obtain ⟨⟨⟨⟨⟨⟨⟨h1, h2⟩, h3⟩, h4⟩, h5⟩, h6⟩, h7⟩, h8⟩ := h
 exact ⟨fun c => h1.resolve_left c, fun c => h2.resolve_left c, fun c => bz (h3.resolve_left c), fun c => bz (h4.resolve_left c), fun c => h5.resolve_left c, fun c => List.length_eq_zero_iff.1 (h6.resolve_left c), fun c => bz (h7.resolve_left c), fun c => h8.resolve_left c⟩
theorem tm_eta (t : Tm) : t = .mk t.kind t.int t.gen t.name t.func t.arity t.items t.bytes t.bits := by cases t; rfl
theorem eta_1 {t : Tm} (hz : zeroK t = true) (hk : t.kind = 1) : t = tmK 1 (int := t.int) := by
 obtain ⟨h1, h2, h3, h4, h5, h6, h7, h8⟩ := tm_of hz
 conv => lhs; rw [tm_eta t]
 rw [hk, h2 (by omega), h3 (by omega), h4 (by omega), h5 (by omega), h6 (by omega), h7 (by omega), h8 (by omega)]; rfl
theorem eta_2 {t : Tm} (hz : zeroK t = true) (hk : t.kind = 2) : t = tmK 2 (name := t.name) := by
 obtain ⟨h1, h2, h3, h4, h5, h6, h7, h8⟩ := tm_of hz
 conv => lhs; rw [tm_eta t]
 rw [hk, h1 (by omega), h2 (by omega), h4 (by omega), h5 (by omega), h6 (by omega), h7 (by omega), h8 (by omega)]; rfl
theorem eta_3 {t : Tm} (hz : zeroK t = true) (hk : t.kind = 3) : t = tmK 3 (int := t.int) (gen := t.gen) (name := t.name) := by
 obtain ⟨h1, h2, h3, h4, h5, h6, h7, h8⟩ := tm_of hz
 conv => lhs; rw [tm_eta t]
 rw [hk, h4 (by omega), h5 (by omega), h6 (by omega), h7 (by omega), h8 (by omega)]; rfl
theorem eta_4 {t : Tm} (hz : zeroK t = true) (hk : t.kind = 4) : t = tmK 4 (int := t.int) (gen := t.gen) (name := t.name) (arity := t.arity) (items := t.items) := by
 obtain ⟨h1, h2, h3, h4, h5, h6, h7, h8⟩ := tm_of hz
 conv => lhs; rw [tm_eta t]
 rw [hk, h4 (by omega), h7 (by omega), h8 (by omega)]; rfl
theorem eta_5 {t : Tm} (hz : zeroK t = true) (hk : t.kind = 5) : t = tmK 5 (name := t.name) (func := t.func) (arity := t.arity) := by
 obtain ⟨h1, h2, h3, h4, h5, h6, h7, h8⟩ := tm_of hz
 conv => lhs; rw [tm_eta t]
 rw [hk, h1 (by omega), h2 (by omega), h6 (by omega), h7 (by omega), h8 (by omega)]; rfl
theorem eta_6 {t : Tm} (hz : zeroK t = true) (hk : t.kind = 6) : t = tmK 6 (int := t.int) (gen := t.gen) (name := t.name) := by
 obtain ⟨h1, h2, h3, h4, h5, h6, h7, h8⟩ := tm_of hz
 conv => lhs; rw [tm_eta t]
 rw [hk, h4 (by omega), h5 (by omega), h6 (by omega), h7 (by omega), h8 (by omega)]; rfl
theorem eta_7 {t : Tm} (hz : zeroK t = true) (hk : t.kind = 7) : t = tmK 7 (items := t.items) := by
 obtain ⟨h1, h2, h3, h4, h5, h6, h7, h8⟩ := tm_of hz
 conv => lhs; rw [tm_eta t]
 rw [hk, h1 (by omega), h2 (by omega), h3 (by omega), h4 (by omega), h5 (by omega), h7 (by omega), h8 (by omega)]; rfl
theorem eta_8 {t : Tm} (hz : zeroK t = true) (hk : t.kind = 8) : t = tmK 8 := by
 obtain ⟨h1, h2, h3, h4, h5, h6, h7, h8⟩ := tm_of hz
 conv => lhs; rw [tm_eta t]
 rw [hk, h1 (by omega), h2 (by omega), h3 (by omega), h4 (by omega), h5 (by omega), h6 (by omega), h7 (by omega), h8 (by omega)]; rfl
theorem eta_9 {t : Tm} (hz : zeroK t = true) (hk : t.kind = 9) : t = tmK 9 (items := t.items) := by
 obtain ⟨h1, h2, h3, h4, h5, h6, h7, h8⟩ := tm_of hz
 conv => lhs; rw [tm_eta t]
 rw [hk, h1 (by omega), h2 (by omega), h3 (by omega), h4 (by omega), h5 (by omega), h7 (by omega), h8 (by omega)]; rfl
theorem eta_10 {t : Tm} (hz : zeroK t = true) (hk : t.kind = 10) : t = tmK 10 (bytes := t.bytes) (bits := t.bits) := by
 obtain ⟨h1, h2, h3, h4, h5, h6, h7, h8⟩ := tm_of hz
 conv => lhs; rw [tm_eta t]
 rw [hk, h1 (by omega), h2 (by omega), h3 (by omega), h4 (by omega), h5 (by omega), h6 (by omega)]; rfl
theorem sum_ge {N : Tm → Nat} : ∀ (ts : List Tm), (∀ x ∈ ts, 1 ≤ N x) → ts.length ≤ (ts.map N).sum
 | [], _ => Nat.le_refl _
 | x :: ts, h => by
  have h1 := h x (List.mem_cons_self ..)
  have h2 := sum_ge ts fun y hy => h y (List.mem_cons_of_mem _ hy)
  rw [List.map_cons, List.sum_cons, List.length_cons]; omega
theorem nodes_ge {f : Nat} {t : Tm} (h : formF f t = true) : 1 ≤ nodesF f t := by
 cases f with
 | zero => exact absurd h (by simp [formF])
 | succ f => unfold nodesF; omega
/-- The step: a term whose parts are read rightly is read rightly. -/
theorem tag_dec {f : Nat} (T : Nat → List UInt8 → Option ((Tm × Nat) × List UInt8)) (t : Tm) (p : Nat) (l : List UInt8) (hl : locB t = true) (hok : t.Ok)
  (H : ∀ x ∈ t.items, ∀ p l, p + nodesF f x ≤ 2000 → T p (codeE f x ++ l) = some ((x, p + nodesF f x), l)) (hN : ∀ x ∈ t.items, 1 ≤ nodesF f x) (hp : p + (t.items.map (nodesF f)).sum ≤ 2000) :
  ∃ (tag : Nat) (l1 : List UInt8), headE t ++ t.items.flatMap (codeE f) ++ l = UInt8.ofNat tag :: l1 ∧ tag < 256 ∧ tagD T p (headE t ++ t.items.flatMap (codeE f) ++ l) tag l1 = some ((t, p + (t.items.map (nodesF f)).sum), l) := by
 unfold locB at hl
 rw [Bool.and_eq_true] at hl
 obtain ⟨hk, hz⟩ := hl
 have hlen := sum_ge t.items hN
 have hit : t.items.length ≤ 2000 → itemsD T t.items.length p (t.items.flatMap (codeE f) ++ l) = some ((t.items, p + (t.items.map (nodesF f)).sum), l) := fun c => by
  unfold itemsD; rw [if_pos c]; exact itemsG_dec t.items p l H hp
 have hit := hit (by omega)
 obtain ⟨ok1, ok2, ok3, -⟩ := hok
 obtain ⟨h1, h2, h3, h4, h5, h6, h7, h8⟩ := tm_of hz
 by_cases k1 : t.kind = 1
 ·have he := eta_1 hz k1
  have hh : headE t = intE t.int := by unfold headE; rw [if_pos k1]
  have hi : t.items = [] := h6 (by omega)
  simp only [hi, hh, List.flatMap_nil, List.append_nil, List.map_nil, List.sum_nil, Nat.add_zero]
  by_cases c1 : 0 ≤ t.int ∧ t.int ≤ 255
  ·refine ⟨97, UInt8.ofNat t.int.toNat :: l, by unfold intE; rw [if_pos c1]; rfl, by omega, ?_⟩
   unfold tagD; rw [if_pos rfl]
   rw [byteD_dec (by omega), Option.bind_some]
   show some ((tmK 1 (int := (t.int.toNat : Int)), p), l) = _
   rw [Int.toNat_of_nonneg c1.1, ← he]
  ·by_cases c2 : -2147483648 ≤ t.int ∧ t.int ≤ 2147483647
   ·have hs : sgn32 (t.int % 4294967296).toNat = t.int := by unfold sgn32; split <;> omega
    have hb : beN 4 t.int = beN 4 ((t.int % 4294967296).toNat : Nat) := by
     have := sgn_be (n := (t.int % 4294967296).toNat) (by omega)
     rw [hs] at this; exact this
    refine ⟨98, beN 4 t.int ++ l, by unfold intE; rw [if_neg c1, if_pos c2]; rfl, by omega, ?_⟩
    unfold tagD; rw [if_neg (by omega), if_pos rfl]
    rw [hb, numD_dec (by rw [show (256 : Nat) ^ 4 = 4294967296 from rfl]; omega), Option.bind_some]
    show (if sgn32 (t.int % 4294967296).toNat < 0 ∨ 255 < sgn32 (t.int % 4294967296).toNat then some ((tmK 1 (int := sgn32 (t.int % 4294967296).toNat), p), l) else none) = _
    rw [hs, if_pos (by omega), ← he]
   ·obtain ⟨l2, e1, e2⟩ := largeD_dec ok2 (by omega) l
    refine ⟨110, l2 ++ l, by unfold intE; rw [if_neg c1, if_neg c2, e1]; rfl, by omega, ?_⟩
    unfold tagD; rw [if_neg (by omega), if_neg (by omega), if_pos rfl]
    rw [e2, Option.bind_some]
    show some ((tmK 1 (int := t.int), p), l) = _
    rw [← he]
 by_cases k2 : t.kind = 2
 ·have he := eta_2 hz k2
  have hh : headE t = atomE t.name := by unfold headE; rw [if_neg k1, if_pos k2]
  have hi : t.items = [] := h6 (by omega)
  have hn : nameB t.name = true := by unfold okK at hk; rw [if_neg k1, if_pos k2] at hk; exact hk
  have hm := nameB_max hn
  simp only [hi, hh, List.flatMap_nil, List.append_nil, List.map_nil, List.sum_nil, Nat.add_zero]
  refine ⟨119, UInt8.ofNat t.name.size :: (t.name.data.toList ++ l), rfl, by omega, ?_⟩
  unfold tagD; rw [if_neg (by omega), if_neg (by omega), if_neg (by omega), if_pos rfl]
  rw [byteD_dec (by omega), Option.bind_some]
  show (strD t.name.size (t.name.data.toList ++ l)).bind _ = _
  rw [strD_dec, Option.bind_some]
  show some ((tmK 2 (name := t.name), p), l) = _
  rw [← he]
 by_cases k3 : t.kind = 3
 ·have he := eta_3 hz k3
  have hh : headE t = 90 :: 0 :: 1 :: (atomE t.name ++ (beN 4 t.gen ++ beN 4 t.int)) := by unfold headE; rw [if_neg k1, if_neg k2, if_pos k3]
  have hq : wi t.int 1 2147483647 = true ∧ wi t.gen 1 2147483647 = true ∧ nameB t.name = true := by unfold okK at hk; rw [if_neg k1, if_neg k2, if_pos (.inl k3)] at hk; simpa [Bool.and_eq_true, and_assoc] using hk
  have hm := nameB_max hq.2.2; have hw1 := wi_of hq.1; have hw2 := wi_of hq.2.1
  have hi : t.items = [] := h6 (by omega)
  simp only [hi, hh, List.flatMap_nil, List.append_nil, List.map_nil, List.sum_nil, Nat.add_zero]
  refine ⟨90, 0 :: 1 :: (atomE t.name ++ (beN 4 t.gen ++ (beN 4 t.int ++ l))), by simp, by omega, ?_⟩
  unfold tagD; rw [if_neg (by omega), if_neg (by omega), if_neg (by omega), if_neg (by omega), if_neg (by omega), if_neg (by omega), if_neg (by omega), if_neg (by omega), if_neg (by omega), if_neg (by omega), if_pos rfl]
  rw [show numD 2 (0 :: 1 :: (atomE t.name ++ (beN 4 t.gen ++ (beN 4 t.int ++ l)))) = some (1, atomE t.name ++ (beN 4 t.gen ++ (beN 4 t.int ++ l))) from numD_dec (k := 2) (n := 1) (by decide) _, Option.bind_some, if_pos rfl]
  rw [nameD_dec (by omega), Option.bind_some]
  rw [numD_dec' (by omega) (by rw [show (256 : Nat) ^ 4 = 4294967296 from rfl]; omega), Option.bind_some]
  rw [numD_dec' (by omega) (by rw [show (256 : Nat) ^ 4 = 4294967296 from rfl]; omega), Option.bind_some]
  show some ((tmK 3 (int := (t.int.toNat : Int)) (gen := (t.gen.toNat : Int)) (name := t.name), p), l) = _
  rw [Int.toNat_of_nonneg (by omega), Int.toNat_of_nonneg (by omega), ← he]
 by_cases k4 : t.kind = 4
 ·have he := eta_4 hz k4
  have h36 : ¬ (t.kind = 3 ∨ t.kind = 6) := by omega
  have hh : headE t = 112 :: UInt8.ofNat t.arity.toNat :: (beN 2 t.int ++ (UInt8.ofNat t.items.length :: (atomE t.name ++ beN 4 t.gen))) := by unfold headE; rw [if_neg k1, if_neg k2, if_neg k3, if_pos k4]
  have hq : wi t.int 0 999 = true ∧ wi t.gen 1 2147483647 = true ∧ nameB t.name = true ∧ wi t.arity 0 16 = true ∧ t.items.length ≤ 200 := by unfold okK at hk; rw [if_neg k1, if_neg k2, if_neg h36, if_pos k4] at hk; simpa [Bool.and_eq_true, and_assoc] using hk
  have hm := nameB_max hq.2.2.1; have hw1 := wi_of hq.1; have hw2 := wi_of hq.2.1; have hw3 := wi_of hq.2.2.2.1
  rw [hh]
  refine ⟨112, UInt8.ofNat t.arity.toNat :: (beN 2 t.int ++ (UInt8.ofNat t.items.length :: (atomE t.name ++ (beN 4 t.gen ++ (t.items.flatMap (codeE f) ++ l))))), by simp, by omega, ?_⟩
  rw [show 112 :: UInt8.ofNat t.arity.toNat :: (beN 2 t.int ++ (UInt8.ofNat t.items.length :: (atomE t.name ++ beN 4 t.gen))) ++ t.items.flatMap (codeE f) ++ l = UInt8.ofNat 112 :: (UInt8.ofNat t.arity.toNat :: (beN 2 t.int ++ (UInt8.ofNat t.items.length :: (atomE t.name ++ (beN 4 t.gen ++ (t.items.flatMap (codeE f) ++ l)))))) by simp]
  unfold tagD; rw [if_neg (by omega), if_neg (by omega), if_neg (by omega), if_neg (by omega), if_neg (by omega), if_neg (by omega), if_neg (by omega), if_neg (by omega), if_neg (by omega), if_neg (by omega), if_neg (by omega)]
  unfold funD; rw [byteD_dec (by omega), Option.bind_some, if_neg (show ¬ (112 : Nat) = 113 by decide), if_pos rfl]
  unfold closureD
  rw [byteD_dec (by omega), Option.bind_some]
  rw [numD_dec' (by omega) (by rw [show (256 : Nat) ^ 2 = 65536 from rfl]; omega), Option.bind_some]
  rw [byteD_dec (by omega), Option.bind_some, nameD_dec (by omega), Option.bind_some]
  rw [numD_dec' (by omega) (by rw [show (256 : Nat) ^ 4 = 4294967296 from rfl]; omega), Option.bind_some, hit, Option.bind_some]
  show some ((tmK 4 (int := (t.int.toNat : Int)) (gen := (t.gen.toNat : Int)) (name := t.name) (arity := (t.arity.toNat : Int)) (items := t.items), _), l) = _
  rw [Int.toNat_of_nonneg (by omega), Int.toNat_of_nonneg (by omega), Int.toNat_of_nonneg (by omega), ← he]
 by_cases k5 : t.kind = 5
 ·have he := eta_5 hz k5
  have h36 : ¬ (t.kind = 3 ∨ t.kind = 6) := by omega
  have hh : headE t = 113 :: (atomE t.name ++ (atomE t.func ++ intE t.arity)) := by unfold headE; rw [if_neg k1, if_neg k2, if_neg k3, if_neg k4, if_pos k5]
  have hq : nameB t.name = true ∧ nameB t.func = true ∧ wi t.arity 0 16 = true := by unfold okK at hk; rw [if_neg k1, if_neg k2, if_neg h36, if_neg k4, if_pos k5] at hk; simpa [Bool.and_eq_true, and_assoc] using hk
  have hm := nameB_max hq.1; have hm2 := nameB_max hq.2.1; have hw3 := wi_of hq.2.2
  have ha : intE t.arity = [97, UInt8.ofNat t.arity.toNat] := by unfold intE; rw [if_pos (by omega)]
  have hi : t.items = [] := h6 (by omega)
  simp only [hi, hh, List.flatMap_nil, List.append_nil, List.map_nil, List.sum_nil, Nat.add_zero]
  refine ⟨113, atomE t.name ++ (atomE t.func ++ (UInt8.ofNat 97 :: UInt8.ofNat t.arity.toNat :: l)), by rw [ha]; simp, by omega, ?_⟩
  rw [show 113 :: (atomE t.name ++ (atomE t.func ++ intE t.arity)) ++ l = UInt8.ofNat 113 :: (atomE t.name ++ (atomE t.func ++ (UInt8.ofNat 97 :: UInt8.ofNat t.arity.toNat :: l))) by rw [ha]; simp]
  unfold tagD; rw [if_neg (by omega), if_neg (by omega), if_neg (by omega), if_neg (by omega), if_neg (by omega), if_neg (by omega), if_neg (by omega), if_neg (by omega), if_neg (by omega), if_neg (by omega), if_neg (by omega)]
  unfold funD; rw [byteD_dec (by omega), Option.bind_some, if_pos rfl]
  unfold exportD
  rw [nameD_dec (by omega), Option.bind_some, nameD_dec (by omega), Option.bind_some, byteD_dec (by omega), Option.bind_some, if_pos rfl, byteD_dec (by omega), Option.bind_some]
  show some ((tmK 5 (name := t.name) (func := t.func) (arity := (t.arity.toNat : Int)), p), l) = _
  rw [Int.toNat_of_nonneg (by omega), ← he]
 by_cases k6 : t.kind = 6
 ·have he := eta_6 hz k6
  have hh : headE t = 88 :: (atomE t.name ++ (beN 4 t.int ++ (beN 4 0 ++ beN 4 t.gen))) := by unfold headE; rw [if_neg k1, if_neg k2, if_neg k3, if_neg k4, if_neg k5, if_pos k6]
  have hq : wi t.int 1 2147483647 = true ∧ wi t.gen 1 2147483647 = true ∧ nameB t.name = true := by unfold okK at hk; rw [if_neg k1, if_neg k2, if_pos (.inr k6)] at hk; simpa [Bool.and_eq_true, and_assoc] using hk
  have hm := nameB_max hq.2.2; have hw1 := wi_of hq.1; have hw2 := wi_of hq.2.1
  have hi : t.items = [] := h6 (by omega)
  simp only [hi, hh, List.flatMap_nil, List.append_nil, List.map_nil, List.sum_nil, Nat.add_zero]
  refine ⟨88, atomE t.name ++ (beN 4 t.int ++ (beN 4 ((0 : Nat) : Int) ++ (beN 4 t.gen ++ l))), by simp, by omega, ?_⟩
  unfold tagD; rw [if_neg (by omega), if_neg (by omega), if_neg (by omega), if_neg (by omega), if_neg (by omega), if_neg (by omega), if_neg (by omega), if_neg (by omega), if_neg (by omega), if_pos rfl]
  rw [nameD_dec (by omega), Option.bind_some, numD_dec' (by omega) (by rw [show (256 : Nat) ^ 4 = 4294967296 from rfl]; omega), Option.bind_some, numD_dec (by decide), Option.bind_some, if_pos rfl, numD_dec' (by omega) (by rw [show (256 : Nat) ^ 4 = 4294967296 from rfl]; omega), Option.bind_some]
  show some ((tmK 6 (int := (t.int.toNat : Int)) (gen := (t.gen.toNat : Int)) (name := t.name), p), l) = _
  rw [Int.toNat_of_nonneg (by omega), Int.toNat_of_nonneg (by omega), ← he]
 by_cases k7 : t.kind = 7
 ·have he := eta_7 hz k7
  have h36 : ¬ (t.kind = 3 ∨ t.kind = 6) := by omega
  have hh : headE t = [104, UInt8.ofNat t.items.length] := by unfold headE; rw [if_neg k1, if_neg k2, if_neg k3, if_neg k4, if_neg k5, if_neg k6, if_pos k7]
  have hq : t.items.length ≤ 255 := by unfold okK at hk; rw [if_neg k1, if_neg k2, if_neg h36, if_neg k4, if_neg k5, if_pos k7] at hk; simpa using hk
  rw [hh]
  refine ⟨104, UInt8.ofNat t.items.length :: (t.items.flatMap (codeE f) ++ l), by simp, by omega, ?_⟩
  unfold tagD; rw [if_neg (by omega), if_neg (by omega), if_neg (by omega), if_neg (by omega), if_pos rfl]
  rw [byteD_dec (by omega), Option.bind_some, hit, Option.bind_some]
  show some ((tmK 7 (items := t.items), _), l) = _
  rw [← he]
 by_cases k8 : t.kind = 8
 ·have he := eta_8 hz k8
  have hh : headE t = [106] := by unfold headE; rw [if_neg k1, if_neg k2, if_neg k3, if_neg k4, if_neg k5, if_neg k6, if_neg k7, if_pos k8]
  have hi : t.items = [] := h6 (by omega)
  simp only [hi, hh, List.flatMap_nil, List.append_nil, List.map_nil, List.sum_nil, Nat.add_zero]
  refine ⟨106, l, rfl, by omega, ?_⟩
  unfold tagD; rw [if_neg (by omega), if_neg (by omega), if_neg (by omega), if_neg (by omega), if_neg (by omega), if_pos rfl]
  rw [← he]
 by_cases k9 : t.kind = 9
 ·have he := eta_9 hz k9
  have h36 : ¬ (t.kind = 3 ∨ t.kind = 6) := by omega
  have hh : headE t = 108 :: beN 4 ((t.items.length : Int) - 1) := by unfold headE; rw [if_neg k1, if_neg k2, if_neg k3, if_neg k4, if_neg k5, if_neg k6, if_neg k7, if_neg k8, if_pos k9]
  have hq : 2 ≤ t.items.length := by unfold okK at hk; rw [if_neg k1, if_neg k2, if_neg h36, if_neg k4, if_neg k5, if_neg k7, if_neg k8, if_pos k9] at hk; simp at hk; exact hk.1
  have hn : ((t.items.length : Int) - 1).toNat + 1 = t.items.length := by omega
  rw [hh]
  refine ⟨108, beN 4 ((t.items.length : Int) - 1) ++ (t.items.flatMap (codeE f) ++ l), by simp, by omega, ?_⟩
  unfold tagD; rw [if_neg (by omega), if_neg (by omega), if_neg (by omega), if_neg (by omega), if_neg (by omega), if_neg (by omega), if_pos rfl]
  rw [numD_dec' (by omega) (by rw [show (256 : Nat) ^ 4 = 4294967296 from rfl]; omega), Option.bind_some]
  show (itemsD T (((t.items.length : Int) - 1).toNat + 1) p _).bind _ = _
  rw [hn, hit, Option.bind_some]
  show some ((tmK 9 (items := t.items), _), l) = _
  rw [← he]
 by_cases k10 : t.kind = 10
 ·have he := eta_10 hz k10
  have h36 : ¬ (t.kind = 3 ∨ t.kind = 6) := by omega
  have hq : bitsB t = true := by unfold okK at hk; rw [if_neg k1, if_neg k2, if_neg h36, if_neg k4, if_neg k5, if_neg k7, if_neg k8, if_neg k9, if_pos k10] at hk; exact hk
  have hv := bitsV_len hq
  have hi : t.items = [] := h6 (by omega)
  by_cases c : t.bits % 8 = 0
  ·have hh : headE t = 109 :: (beN 4 t.bytes.size ++ t.bytes.data.toList) := by unfold headE; rw [if_neg k1, if_neg k2, if_neg k3, if_neg k4, if_neg k5, if_neg k6, if_neg k7, if_neg k8, if_neg k9, if_pos k10, if_pos c]
   simp only [hi, hh, List.flatMap_nil, List.append_nil, List.map_nil, List.sum_nil, Nat.add_zero]
   refine ⟨109, beN 4 (t.bytes.size : Nat) ++ (t.bytes.data.toList ++ l), by simp, by omega, ?_⟩
   unfold tagD; rw [if_neg (by omega), if_neg (by omega), if_neg (by omega), if_neg (by omega), if_neg (by omega), if_neg (by omega), if_neg (by omega), if_pos rfl]
   rw [numD_dec (by rw [show (256 : Nat) ^ 4 = 4294967296 from rfl]; omega), Option.bind_some, strD_dec, Option.bind_some]
   show some ((tmK 10 (bytes := t.bytes) (bits := 8 * (t.bytes.size : Int)), p), l) = _
   rw [show 8 * (t.bytes.size : Int) = t.bits by omega, ← he]
  ·have hh : headE t = 77 :: (beN 4 t.bytes.size ++ (UInt8.ofNat (t.bits % 8).toNat :: t.bytes.data.toList)) := by unfold headE; rw [if_neg k1, if_neg k2, if_neg k3, if_neg k4, if_neg k5, if_neg k6, if_neg k7, if_neg k8, if_neg k9, if_pos k10, if_neg c]
   simp only [hi, hh, List.flatMap_nil, List.append_nil, List.map_nil, List.sum_nil, Nat.add_zero]
   refine ⟨77, beN 4 (t.bytes.size : Nat) ++ (UInt8.ofNat (t.bits % 8).toNat :: (t.bytes.data.toList ++ l)), by simp, by omega, ?_⟩
   unfold tagD; rw [if_neg (by omega), if_neg (by omega), if_neg (by omega), if_neg (by omega), if_neg (by omega), if_neg (by omega), if_neg (by omega), if_neg (by omega), if_pos rfl]
   rw [numD_dec (by rw [show (256 : Nat) ^ 4 = 4294967296 from rfl]; omega), Option.bind_some, byteD_dec (by omega), Option.bind_some, if_pos (by omega), strD_dec, Option.bind_some]
   show some ((tmK 10 (bytes := t.bytes) (bits := 8 * ((t.bytes.size : Int) - 1) + ((t.bits % 8).toNat : Int)), p), l) = _
   rw [show 8 * ((t.bytes.size : Int) - 1) + ((t.bits % 8).toNat : Int) = t.bits by omega, ← he]
 ·exfalso
  have h36 : ¬ (t.kind = 3 ∨ t.kind = 6) := by omega
  unfold okK at hk
  rw [if_neg k1, if_neg k2, if_neg h36, if_neg k4, if_neg k5, if_neg k7, if_neg k8, if_neg k9, if_neg k10] at hk
  exact absurd hk (by decide)
theorem termD_dec : ∀ (f p : Nat) (t : Tm) (l : List UInt8), formF f t = true → OkF f t → p + nodesF f t ≤ 2000 → termD f p (codeE f t ++ l) = some ((t, p + nodesF f t), l)
 | 0, p, t, l, h, _, _ => absurd h (by simp [formF])
 | f + 1, p, t, l, h, ho, hp => by
  unfold formF at h
  rw [Bool.and_eq_true, List.all_eq_true] at h
  unfold nodesF at hp ⊢
  have H : ∀ x ∈ t.items, ∀ p l, p + nodesF f x ≤ 2000 → termD f p (codeE f x ++ l) = some ((x, p + nodesF f x), l) := fun x hx p l hp => termD_dec f p x l (h.2 x hx) (ho.2 x hx) hp
  obtain ⟨tag, l1, e1, e2, e3⟩ := tag_dec (f := f) (termD f) t (p + 1) l h.1 ho.1 H (fun x hx => nodes_ge (h.2 x hx)) (by omega)
  show termD (f + 1) p (headE t ++ t.items.flatMap (codeE f) ++ l) = _
  unfold termD
  rw [if_pos (by omega)]
  have hb : byteD (headE t ++ t.items.flatMap (codeE f) ++ l) = some (tag, l1) := by rw [e1]; exact byteD_dec e2 l1
  rw [hb, Option.bind_some]
  show tagD (termD f) (p + 1) _ tag l1 = _
  rw [e3, Nat.add_assoc]
end Go.Proofs.YtghgbikmlbildaaGreatDoor
namespace Go.Proofs.YtghgbikmlbildaaGreatDoor
open Go.RowKit
set_option linter.unusedVariables false
set_option linter.unusedSimpArgs false

theorem sum_whole {f : Nat} : ∀ (ts : List Tm), (∀ x ∈ ts, (nodesF f x : Int) ≤ wholeF f x) → ((ts.map (nodesF f)).sum : Int) ≤ sumI (ts.map (wholeF f))
 | [], _ => Int.le_refl _
 | x :: ts, h => by
  have h1 := h x (List.mem_cons_self ..)
  have h2 := sum_whole ts fun y hy => h y (List.mem_cons_of_mem _ hy)
  rw [List.map_cons, List.sum_cons, List.map_cons]
  show _ ≤ wholeF f x + sumI (ts.map (wholeF f))
  rw [Int.natCast_add]; omega
theorem nodes_whole : ∀ (f : Nat) (t : Tm), formF f t = true → (nodesF f t : Int) ≤ wholeF f t
 | 0, t, h => absurd h (by simp [formF])
 | f + 1, t, h => by
  unfold formF locB at h
  rw [Bool.and_eq_true, Bool.and_eq_true, List.all_eq_true] at h
  have h1 := (headE_len h.1.1).2
  have h2 := sum_whole t.items fun x hx => nodes_whole f x (h.2 x hx)
  show ((1 + (t.items.map (nodesF f)).sum : Nat) : Int) ≤ ownSize t + sumI (t.items.map (wholeF f))
  rw [Int.natCast_add]; omega
/-- The encoding of a valid term is read back. -/
theorem valid_dec {f : Nat} {t : Tm} (hv : validF f t = true) (ho : OkF f t) (l : List UInt8) : termD f 0 (codeE f t ++ l) = some ((t, nodesF f t), l) := by
 unfold validF at hv
 rw [Bool.and_eq_true, decide_eq_true_eq] at hv
 have := nodes_whole f t hv.1
 have h := termD_dec f 0 t l hv.1 ho (by omega)
 rwa [Nat.zero_add] at h
/-- No encoding of a valid term begins another's. -/
theorem valid_one {f : Nat} {t u : Tm} (hv : validF f t = true) (ho : OkF f t) (hv2 : validF f u = true) (ho2 : OkF f u) {l m : List UInt8} (h : codeE f t ++ l = codeE f u ++ m) : t = u ∧ l = m := by
 have h1 := valid_dec hv ho l
 rw [h, valid_dec hv2 ho2 m] at h1
 simp only [Option.some.injEq, Prod.mk.injEq] at h1
 exact ⟨h1.1.1.symm, h1.2.symm⟩
end Go.Proofs.YtghgbikmlbildaaGreatDoor
namespace Go.Proofs.YtghgbikmlbildaaGreatDoor
open Go.RowKit
set_option linter.unusedVariables false
set_option linter.unusedSimpArgs false

theorem cell_none {w : World} {r o : Nat} {cs : Array Value} {T : TypeId} {fr : Nat × Nat} (h : w.heap[r]? = some (.cells cs T fr)) (ho : cs.size ≤ o) : w.cell? ⟨r, o, none⟩ = none := by
 rw [cell_of_row w r o _ _ _ h]; exact Array.getElem?_eq_none ho
theorem cell_kept {w w' : World} {r b o : Nat} (hg : w.grownBy w' (some r)) (hb : b < w.heap.size) (hne : b ≠ r) : w'.cell? ⟨b, o, none⟩ = w.cell? ⟨b, o, none⟩ := by
 have h := hg.block b hb (fun e => hne (Option.some.inj e))
 unfold World.cell?; rw [h]
theorem SlAt.grown {α : Type} {w w' : World} {size r : Nat} {R R' : List Value → α → Prop} {ao : Option Addr} {l : List α} {cs : Array Value} {T : TypeId} {fr : Nat × Nat} (h : SlAt w size R ao l) (hg : w.grownBy w' (some r)) (hr : w.heap[r]? = some (.cells cs T fr)) (hsz : cs.size < size) (hR : ∀ cs a, R cs a → R' cs a) : SlAt w' size R' ao l := by
 rcases h with h | ⟨b, off, e, hB, hx⟩
 ·exact .inl h
 ·by_cases hl : l = []
  ·exact .inl hl
  have hpos : 0 < l.length := List.length_pos_iff.2 hl
  have hne : b ≠ r := by
   intro c
   obtain ⟨cs', hlen, hc, -⟩ := hx 0 hpos
   have h1 := hc (size - 1) (by omega)
   rw [c, cell_none hr (by omega), List.getElem?_eq_getElem (by omega)] at h1
   exact absurd h1 (by simp)
  refine .inr ⟨b, off, e, Nat.lt_of_lt_of_le hB hg.size, fun j hj => ?_⟩
  obtain ⟨cs', hlen, hc, hR'⟩ := hx j hj
  exact ⟨cs', hlen, fun i hi => (cell_kept hg hB hne).trans (hc i hi), hR _ _ hR'⟩
theorem TmAt.grown {w w' : World} {r : Nat} {cs : Array Value} {T : TypeId} {fr : Nat × Nat} (hg : w.grownBy w' (some r)) (hr : w.heap[r]? = some (.cells cs T fr)) (hsz : cs.size < 9) : ∀ {f : Nat} {vs : List Value} {t : Tm}, TmAt w f vs t → TmAt w' f vs t
 | 0, _, _, h => h
 | _ + 1, _, _, ⟨⟨ao, c, e, hs⟩, ho⟩ => ⟨⟨ao, c, e, hs.grown hg hr hsz fun _ _ h => TmAt.grown hg hr hsz h⟩, ho⟩
theorem grown_low {w a b : World} {o : Option Nat} (h : w.grownBy a o) (hb : Below w.heap.size a b) : w.grownBy b o :=
 ⟨hb.os.trans h.os, hb.tape.trans h.tape, hb.output.trans h.output, Nat.le_trans h.size hb.size, fun k hk hn => (hb.block k hk).trans (h.block k hk hn)⟩
/-- A block behind those that were there stays when a reader that was there is written. -/
theorem row_kept {w a b : World} {r k : Nat} {x : Obj} (hg : a.grownBy b (some r)) (hr : r < w.heap.size) (hk : w.heap.size ≤ k) (h : a.heap[k]? = some x) : b.heap[k]? = some x :=
 (hg.block k (Array.getElem?_eq_some_iff.1 h).1 (fun e => by have := Option.some.inj e; omega)).trans h
/-- A reader at work: block X is the result's (zero), block Y holds the term in the making. -/
structure StX (w0 : World) (r : Nat) (s : ByteArray) (l : List UInt8) (p X Y : Nat) (row : Array Value) (wx : World) : Prop where
 rd : RdL r s l p wx
 gr : w0.grownBy wx (some r)
 x : wx.heap[X]? = some (.cells zeroRow 78 (0, 0))
 y : wx.heap[Y]? = some (.cells row 78 (0, 0))
 hr : r < w0.heap.size
 hX : X = w0.heap.size
 hY : X < Y
theorem StX.call {w0 : World} {r : Nat} {s : ByteArray} {l : List UInt8} {p X Y : Nat} {row : Array Value} {wx wy : World} (h : StX w0 r s l p X Y row wx) {l' : List UInt8} {p' : Nat} (hr : RdL r s l' p' wy) (hg : wx.grownBy wy (some r)) : StX w0 r s l' p' X Y row wy :=
 ⟨hr, grownBy_trans h.gr hg, row_kept hg h.hr (Nat.le_of_eq h.hX.symm) h.x, row_kept hg h.hr (by have := h.hX; have := h.hY; omega) h.y, h.hr, h.hX, h.hY⟩
theorem StX.set {w0 : World} {r : Nat} {s : ByteArray} {l : List UInt8} {p X Y : Nat} {row : Array Value} {wx : World} (h : StX w0 r s l p X Y row wx) (j : Nat) (v : Value) : StX w0 r s l p X Y (row.setIfInBounds j v) (wx.setCell ⟨Y, j, none⟩ v) := by
 have hY := h.hY; have hX := h.hX; have hr := h.hr
 obtain ⟨a, ha, hl⟩ := h.rd
 have e : ∀ k, k ≠ Y → (wx.setCell ⟨Y, j, none⟩ v).heap[k]? = wx.heap[k]? := fun k hk => heap_setCell_other _ _ _ _ (by simpa using hk)
 exact ⟨⟨a, (e r (by omega)).trans ha, hl⟩, grown_low h.gr ((Below.refl _ _).setCell (show w0.heap.size ≤ Y by omega) _), (e X (by omega)).trans h.x, heap_setCell_same _ _ j _ _ v h.y, hr, hX, hY⟩
/-- A reader at work: block X is the result's (zero). -/
structure StO (w0 : World) (r : Nat) (s : ByteArray) (l : List UInt8) (p X : Nat) (wx : World) : Prop where
 rd : RdL r s l p wx
 gr : w0.grownBy wx (some r)
 x : wx.heap[X]? = some (.cells zeroRow 78 (0, 0))
 hr : r < w0.heap.size
 hX : X = w0.heap.size
theorem StO.start {r : Nat} {s : ByteArray} {l : List UInt8} {p : Nat} {w : World} (h : RdL r s l p w) : StO w r s l p w.heap.size (w.alloc (.cells zeroRow 78)) :=
 ⟨h.below ((Below.refl _ _).alloc (Nat.le_refl _) _), grown_low (grownBy_refl w _) ((Below.refl _ _).alloc (Nat.le_refl _) _), heap_alloc_new _ _, h.lt, rfl⟩
theorem StO.call {w0 : World} {r : Nat} {s : ByteArray} {l : List UInt8} {p X : Nat} {wx wy : World} (h : StO w0 r s l p X wx) {l' : List UInt8} {p' : Nat} (hr : RdL r s l' p' wy) (hg : wx.grownBy wy (some r)) : StO w0 r s l' p' X wy :=
 ⟨hr, grownBy_trans h.gr hg, row_kept hg h.hr (Nat.le_of_eq h.hX.symm) h.x, h.hr, h.hX⟩
theorem StO.new {w0 : World} {r : Nat} {s : ByteArray} {l : List UInt8} {p X : Nat} {wx : World} (h : StO w0 r s l p X wx) (row : Array Value) : StX w0 r s l p X wx.heap.size row (wx.alloc (.cells row 78)) := by
 have hl := lt_of_row h.x
 have hX := h.hX
 exact ⟨h.rd.below ((Below.refl _ _).alloc (Nat.le_refl _) _), grown_low h.gr ((Below.refl _ _).alloc (by omega) _), (Below.heap_alloc _ _ _ hl).trans h.x, heap_alloc_new _ _, h.hr, hX, hl⟩
/-- The term is laid into the result's block. -/
theorem StX.fin {w0 : World} {r : Nat} {s : ByteArray} {l : List UInt8} {p X Y : Nat} {row : Array Value} {wx : World} (h : StX w0 r s l p X Y row wx) (v0 v1 v2 v3 v4 v5 v6 v7 v8 : Value) :
  RdL r s l p (((((((((wx.setCell ⟨X, 0, none⟩ v0).setCell ⟨X, 1, none⟩ v1).setCell ⟨X, 2, none⟩ v2).setCell ⟨X, 3, none⟩ v3).setCell ⟨X, 4, none⟩ v4).setCell ⟨X, 5, none⟩ v5).setCell ⟨X, 6, none⟩ v6).setCell ⟨X, 7, none⟩ v7).setCell ⟨X, 8, none⟩ v8) ∧
  w0.grownBy (((((((((wx.setCell ⟨X, 0, none⟩ v0).setCell ⟨X, 1, none⟩ v1).setCell ⟨X, 2, none⟩ v2).setCell ⟨X, 3, none⟩ v3).setCell ⟨X, 4, none⟩ v4).setCell ⟨X, 5, none⟩ v5).setCell ⟨X, 6, none⟩ v6).setCell ⟨X, 7, none⟩ v7).setCell ⟨X, 8, none⟩ v8) (some r) := by
 have hX := h.hX; have hr := h.hr
 have hb := below9 (B := X) (Nat.le_refl X) (Below.refl X wx) v0 v1 v2 v3 v4 v5 v6 v7 v8
 obtain ⟨a, ha, hl⟩ := h.rd
 refine ⟨⟨a, (hb.block r (by omega)).trans ha, hl⟩, grown_low h.gr ?_⟩
 rw [← hX]; exact hb
end Go.Proofs.YtghgbikmlbildaaGreatDoor
