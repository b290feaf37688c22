/-
  The external format's decoder: what it returns has numbers of 64 bits; how many parts it counts. Terms in memory whose parts lie in blocks of a given kind; rows of terms that a slice owns. The external format's reader: items: the walk. The external format's reader: how its states go on; terms.Int, terms.Nil. The external format's reader: fun: the walks (printed by gen_hterm.py).
-/
import Derived.Deep.AppendLies
import Derived.Deep.RegionHeld3
import Derived.Test.YtghgbikmlbildaaGreatDoorRoundsAll20
namespace Go.Proofs.YtghgbikmlbildaaGreatDoor
open Go.RowKit
set_option linter.unusedVariables false
set_option linter.unusedSimpArgs false

/-- What a decoder of terms keeps. -/
def DecOk (G : Tm → Prop) (T : Nat → List UInt8 → Option ((Tm × Nat) × List UInt8)) : Prop :=
 ∀ p l t p' l', T p l = some ((t, p'), l') → p ≤ 2000 → l.length ≤ maxLen → G t ∧ p ≤ p' ∧ p' ≤ 2000 ∧ l'.length ≤ l.length
theorem byteD_len {l l2 : List UInt8} {n : Nat} (h : byteD l = some (n, l2)) : n < 256 ∧ l2.length ≤ l.length := by
 have e := byteD_enc h
 exact ⟨e.2, by rw [e.1, List.length_cons]; omega⟩
theorem numD_len {k : Nat} {l l2 : List UInt8} {n : Nat} (h : numD k l = some (n, l2)) : n < 256 ^ k ∧ l2.length ≤ l.length := by
 have e := numD_enc h
 exact ⟨e.2, by rw [e.1, List.length_append]; omega⟩
theorem strD_len {k : Nat} {l l2 : List UInt8} {b : ByteArray} (h : strD k l = some (b, l2)) : b.size = k ∧ b.size ≤ l.length ∧ l2.length ≤ l.length := by
 have e := strD_enc h
 have : b.data.toList.length = b.size := rfl
 exact ⟨e.2, by rw [e.1, List.length_append]; omega, by rw [e.1, List.length_append]; omega⟩
theorem nameD_len {l l2 : List UInt8} {b : ByteArray} (h : nameD l = some (b, l2)) : b.size < 256 ∧ l2.length ≤ l.length := by
 have e := nameD_enc h
 exact ⟨e.2, by rw [e.1, List.length_append]; omega⟩
theorem largeV_ok {m : Nat} {b : ByteArray} {n : Int} (h : largeV m b = some n) : I64 n := by
 unfold largeV at h
 unfold I64
 split at h
 ·exact absurd h (by simp)
 split at h
 ·split at h
  ·next c => simp only [Option.some.injEq] at h; omega
  ·exact absurd h (by simp)
 ·split at h
  ·next c => simp only [Option.some.injEq] at h; omega
  ·exact absurd h (by simp)
theorem largeD_len {l l2 : List UInt8} {n : Int} (h : largeD l = some (n, l2)) : I64 n ∧ l2.length ≤ l.length := by
 unfold largeD at h
 obtain ⟨x, hx, h⟩ := Option.bind_eq_some_iff.1 h
 obtain ⟨y, hy, h⟩ := Option.bind_eq_some_iff.1 h
 split at h
 ·obtain ⟨z, hz, h⟩ := Option.bind_eq_some_iff.1 h
  obtain ⟨v, hv, h⟩ := Option.bind_eq_some_iff.1 h
  simp only [Option.some.injEq, Prod.mk.injEq] at h
  have e1 := byteD_len (n := x.1) (l2 := x.2) hx
  have e2 := byteD_len (n := y.1) (l2 := y.2) hy
  have e3 := strD_len (b := z.1) (l2 := z.2) hz
  exact ⟨h.1 ▸ largeV_ok hv, by rw [← h.2]; omega⟩
 ·exact absurd h (by simp)
theorem itemsG_ok {G : Tm → Prop} {T : Nat → List UInt8 → Option ((Tm × Nat) × List UInt8)} (H : DecOk G T) : ∀ (n p : Nat) (l : List UInt8) (ts : List Tm) (p' : Nat) (l' : List UInt8), itemsG T n p l = some ((ts, p'), l') → p ≤ 2000 → l.length ≤ maxLen →
  (∀ x ∈ ts, G x) ∧ ts.length = n ∧ p ≤ p' ∧ p' ≤ 2000 ∧ l'.length ≤ l.length
 | 0, p, l, ts, p', l', h, hp, hl => by
  simp only [itemsG, Option.some.injEq, Prod.mk.injEq] at h
  obtain ⟨⟨rfl, rfl⟩, rfl⟩ := h
  exact ⟨fun x hx => absurd hx (by simp), rfl, Nat.le_refl _, hp, Nat.le_refl _⟩
 | n + 1, p, l, ts, p', l', h, hp, hl => by
  unfold itemsG at h
  obtain ⟨x, hx, h⟩ := Option.bind_eq_some_iff.1 h
  obtain ⟨y, hy, h⟩ := Option.bind_eq_some_iff.1 h
  simp only [Option.some.injEq, Prod.mk.injEq] at h
  obtain ⟨⟨rfl, rfl⟩, rfl⟩ := h
  have e1 := H p l x.1.1 x.1.2 x.2 hx hp hl
  have e2 := itemsG_ok H n x.1.2 x.2 y.1.1 y.1.2 y.2 hy e1.2.2.1 (by omega)
  refine ⟨fun z hz => ?_, by rw [List.length_cons, e2.2.1], by omega, by omega, by omega⟩
  rcases List.mem_cons.1 hz with rfl | hz
  ·exact e1.1
  ·exact e2.1 z hz
theorem itemsD_ok {G : Tm → Prop} {T : Nat → List UInt8 → Option ((Tm × Nat) × List UInt8)} (H : DecOk G T) {n p : Nat} {l : List UInt8} {ts : List Tm} {p' : Nat} {l' : List UInt8} (h : itemsD T n p l = some ((ts, p'), l')) (hp : p ≤ 2000) (hl : l.length ≤ maxLen) :
  (∀ x ∈ ts, G x) ∧ ts.length ≤ 2000 ∧ p ≤ p' ∧ p' ≤ 2000 ∧ l'.length ≤ l.length := by
 unfold itemsD at h
 split at h
 ·next c => have := itemsG_ok H n p l ts p' l' h hp hl; exact ⟨this.1, by omega, this.2.2⟩
 ·exact absurd h (by simp)
theorem ok_of {k int gen : Int} {name func : ByteArray} {arity : Int} {items : List Tm} {bytes : ByteArray} {bits : Int} (h1 : I64 k) (h2 : I64 int) (h3 : I64 gen) (h4 : name.size ≤ maxLen) (h5 : func.size ≤ maxLen) (h6 : I64 arity) (h7 : items.length ≤ maxLen) (h8 : bytes.size ≤ maxLen) (h9 : I64 bits) : (tmK k int gen name func arity items bytes bits).Ok :=
 ⟨h1, h2, h3, h4, h5, h6, h7, h8, h9⟩
theorem exportD_ok {G : Tm → Prop} {p : Nat} {l : List UInt8} {t : Tm} {p' : Nat} {l' : List UInt8} (h : exportD p l = some ((t, p'), l')) : (t.Ok ∧ ∀ x ∈ t.items, G x) ∧ p' = p ∧ l'.length ≤ l.length := by
 unfold exportD at h
 obtain ⟨x, hx, h⟩ := Option.bind_eq_some_iff.1 h
 obtain ⟨y, hy, h⟩ := Option.bind_eq_some_iff.1 h
 obtain ⟨z, hz, h⟩ := Option.bind_eq_some_iff.1 h
 split at h
 ·obtain ⟨q, hq, h⟩ := Option.bind_eq_some_iff.1 h
  simp only [Option.some.injEq, Prod.mk.injEq] at h
  obtain ⟨⟨rfl, rfl⟩, rfl⟩ := h
  have e1 := nameD_len (b := x.1) (l2 := x.2) hx
  have e2 := nameD_len (b := y.1) (l2 := y.2) hy
  have e3 := byteD_len (n := z.1) (l2 := z.2) hz
  have e4 := byteD_len (n := q.1) (l2 := q.2) hq
  refine ⟨⟨ok_of (by unfold I64; omega) (by unfold I64; omega) (by unfold I64; omega) (by unfold maxLen; omega) (by unfold maxLen; omega) (by unfold I64; omega) (Nat.zero_le _) (Nat.zero_le _) (by unfold I64; omega), fun x hx => absurd hx (by simp [tmK, Tm.items])⟩, rfl, by omega⟩
 ·exact absurd h (by simp)
theorem closureD_ok {G : Tm → Prop} {T : Nat → List UInt8 → Option ((Tm × Nat) × List UInt8)} (H : DecOk G T) {p : Nat} {l : List UInt8} {t : Tm} {p' : Nat} {l' : List UInt8} (h : closureD T p l = some ((t, p'), l')) (hp : p ≤ 2000) (hl : l.length ≤ maxLen) : (t.Ok ∧ ∀ x ∈ t.items, G x) ∧ p ≤ p' ∧ p' ≤ 2000 ∧ l'.length ≤ l.length := by
 unfold closureD at h
 obtain ⟨a, ha, h⟩ := Option.bind_eq_some_iff.1 h
 obtain ⟨b, hb, h⟩ := Option.bind_eq_some_iff.1 h
 obtain ⟨c, hc, h⟩ := Option.bind_eq_some_iff.1 h
 obtain ⟨d, hd, h⟩ := Option.bind_eq_some_iff.1 h
 obtain ⟨e, he, h⟩ := Option.bind_eq_some_iff.1 h
 obtain ⟨q, hq, h⟩ := Option.bind_eq_some_iff.1 h
 simp only [Option.some.injEq, Prod.mk.injEq] at h
 obtain ⟨⟨rfl, rfl⟩, rfl⟩ := h
 have e1 := byteD_len (n := a.1) (l2 := a.2) ha
 have e2 := numD_len (n := b.1) (l2 := b.2) hb
 have e3 := byteD_len (n := c.1) (l2 := c.2) hc
 have e4 := nameD_len (b := d.1) (l2 := d.2) hd
 have e5 := numD_len (n := e.1) (l2 := e.2) he
 have e6 := itemsD_ok H (ts := q.1.1) (p' := q.1.2) (l' := q.2) hq hp (by omega)
 rw [show (256 : Nat) ^ 2 = 65536 from rfl] at e2
 rw [show (256 : Nat) ^ 4 = 4294967296 from rfl] at e5
 exact ⟨⟨ok_of (by unfold I64; omega) (by unfold I64; omega) (by unfold I64; omega) (by unfold maxLen; omega) (Nat.zero_le _) (by unfold I64; omega) (by unfold maxLen; omega) (Nat.zero_le _) (by unfold I64; omega), e6.1⟩, e6.2.2.1, e6.2.2.2.1, by omega⟩
theorem funD_ok {G : Tm → Prop} {T : Nat → List UInt8 → Option ((Tm × Nat) × List UInt8)} (H : DecOk G T) {p : Nat} {l : List UInt8} {t : Tm} {p' : Nat} {l' : List UInt8} (h : funD T p l = some ((t, p'), l')) (hp : p ≤ 2000) (hl : l.length ≤ maxLen) : (t.Ok ∧ ∀ x ∈ t.items, G x) ∧ p ≤ p' ∧ p' ≤ 2000 ∧ l'.length ≤ l.length := by
 unfold funD at h
 obtain ⟨x, hx, h⟩ := Option.bind_eq_some_iff.1 h
 have e1 := byteD_len (n := x.1) (l2 := x.2) hx
 split at h
 ·have := exportD_ok (G := G) h; exact ⟨this.1, by omega, by omega, by omega⟩
 split at h
 ·have := closureD_ok H h hp (by omega); exact ⟨this.1, this.2.1, this.2.2.1, by omega⟩
 ·exact absurd h (by simp)
theorem sgn_ok {n : Nat} (h : n < 4294967296) : I64 (sgn32 n) := by unfold sgn32 I64; split <;> omega
set_option maxHeartbeats 1000000 in
theorem tagD_ok {G : Tm → Prop} {T : Nat → List UInt8 → Option ((Tm × Nat) × List UInt8)} (H : DecOk G T) {p tag : Nat} {l0 l : List UInt8} {t : Tm} {p' : Nat} {l' : List UInt8} (h : tagD T p l0 tag l = some ((t, p'), l')) (hp : p ≤ 2000) (hl0 : l0.length ≤ maxLen) (hl : l.length ≤ l0.length) :
  (t.Ok ∧ ∀ x ∈ t.items, G x) ∧ p ≤ p' ∧ p' ≤ 2000 ∧ l'.length ≤ l0.length := by
 have h256 : (256 : Nat) ^ 4 = 4294967296 := rfl
 have no : ∀ x ∈ ([] : List Tm), G x := fun x hx => absurd hx (by simp)
 unfold tagD at h
 by_cases c : tag = 97
 ·rw [if_pos c] at h
  obtain ⟨x, hx, h⟩ := Option.bind_eq_some_iff.1 h
  simp only [Option.some.injEq, Prod.mk.injEq] at h
  obtain ⟨⟨rfl, rfl⟩, rfl⟩ := h
  have e1 := byteD_len (n := x.1) (l2 := x.2) hx
  exact ⟨⟨ok_of (by unfold I64; omega) (by unfold I64; omega) (by unfold I64; omega) (Nat.zero_le _) (Nat.zero_le _) (by unfold I64; omega) (Nat.zero_le _) (Nat.zero_le _) (by unfold I64; omega), no⟩, Nat.le_refl _, hp, by omega⟩
 rw [if_neg c] at h; clear c
 by_cases c : tag = 98
 ·rw [if_pos c] at h
  obtain ⟨x, hx, h⟩ := Option.bind_eq_some_iff.1 h
  have e1 := numD_len (n := x.1) (l2 := x.2) hx
  split at h
  ·simp only [Option.some.injEq, Prod.mk.injEq] at h
   obtain ⟨⟨rfl, rfl⟩, rfl⟩ := h
   exact ⟨⟨ok_of (by unfold I64; omega) (sgn_ok (by omega)) (by unfold I64; omega) (Nat.zero_le _) (Nat.zero_le _) (by unfold I64; omega) (Nat.zero_le _) (Nat.zero_le _) (by unfold I64; omega), no⟩, Nat.le_refl _, hp, by omega⟩
  ·exact absurd h (by simp)
 rw [if_neg c] at h; clear c
 by_cases c : tag = 110
 ·rw [if_pos c] at h
  obtain ⟨x, hx, h⟩ := Option.bind_eq_some_iff.1 h
  simp only [Option.some.injEq, Prod.mk.injEq] at h
  obtain ⟨⟨rfl, rfl⟩, rfl⟩ := h
  have e1 := largeD_len (n := x.1) (l2 := x.2) hx
  exact ⟨⟨ok_of (by unfold I64; omega) e1.1 (by unfold I64; omega) (Nat.zero_le _) (Nat.zero_le _) (by unfold I64; omega) (Nat.zero_le _) (Nat.zero_le _) (by unfold I64; omega), no⟩, Nat.le_refl _, hp, by omega⟩
 rw [if_neg c] at h; clear c
 by_cases c : tag = 119
 ·rw [if_pos c] at h
  obtain ⟨x, hx, h⟩ := Option.bind_eq_some_iff.1 h
  obtain ⟨y, hy, h⟩ := Option.bind_eq_some_iff.1 h
  simp only [Option.some.injEq, Prod.mk.injEq] at h
  obtain ⟨⟨rfl, rfl⟩, rfl⟩ := h
  have e1 := byteD_len (n := x.1) (l2 := x.2) hx
  have e2 := strD_len (b := y.1) (l2 := y.2) hy
  exact ⟨⟨ok_of (by unfold I64; omega) (by unfold I64; omega) (by unfold I64; omega) (by unfold maxLen; omega) (Nat.zero_le _) (by unfold I64; omega) (Nat.zero_le _) (Nat.zero_le _) (by unfold I64; omega), no⟩, Nat.le_refl _, hp, by omega⟩
 rw [if_neg c] at h; clear c
 by_cases c : tag = 104
 ·rw [if_pos c] at h
  obtain ⟨x, hx, h⟩ := Option.bind_eq_some_iff.1 h
  obtain ⟨y, hy, h⟩ := Option.bind_eq_some_iff.1 h
  simp only [Option.some.injEq, Prod.mk.injEq] at h
  obtain ⟨⟨rfl, rfl⟩, rfl⟩ := h
  have e1 := byteD_len (n := x.1) (l2 := x.2) hx
  have e2 := itemsD_ok H (ts := y.1.1) (p' := y.1.2) (l' := y.2) hy hp (by omega)
  exact ⟨⟨ok_of (by unfold I64; omega) (by unfold I64; omega) (by unfold I64; omega) (Nat.zero_le _) (Nat.zero_le _) (by unfold I64; omega) (by unfold maxLen; omega) (Nat.zero_le _) (by unfold I64; omega), e2.1⟩, e2.2.2.1, e2.2.2.2.1, by omega⟩
 rw [if_neg c] at h; clear c
 by_cases c : tag = 106
 ·rw [if_pos c] at h
  simp only [Option.some.injEq, Prod.mk.injEq] at h
  obtain ⟨⟨rfl, rfl⟩, rfl⟩ := h
  exact ⟨⟨ok_of (by unfold I64; omega) (by unfold I64; omega) (by unfold I64; omega) (Nat.zero_le _) (Nat.zero_le _) (by unfold I64; omega) (Nat.zero_le _) (Nat.zero_le _) (by unfold I64; omega), no⟩, Nat.le_refl _, hp, by omega⟩
 rw [if_neg c] at h; clear c
 by_cases c : tag = 108
 ·rw [if_pos c] at h
  obtain ⟨x, hx, h⟩ := Option.bind_eq_some_iff.1 h
  obtain ⟨y, hy, h⟩ := Option.bind_eq_some_iff.1 h
  simp only [Option.some.injEq, Prod.mk.injEq] at h
  obtain ⟨⟨rfl, rfl⟩, rfl⟩ := h
  have e1 := numD_len (n := x.1) (l2 := x.2) hx
  have e2 := itemsD_ok H (ts := y.1.1) (p' := y.1.2) (l' := y.2) hy hp (by omega)
  exact ⟨⟨ok_of (by unfold I64; omega) (by unfold I64; omega) (by unfold I64; omega) (Nat.zero_le _) (Nat.zero_le _) (by unfold I64; omega) (by unfold maxLen; omega) (Nat.zero_le _) (by unfold I64; omega), e2.1⟩, e2.2.2.1, e2.2.2.2.1, by omega⟩
 rw [if_neg c] at h; clear c
 by_cases c : tag = 109
 ·rw [if_pos c] at h
  obtain ⟨x, hx, h⟩ := Option.bind_eq_some_iff.1 h
  obtain ⟨y, hy, h⟩ := Option.bind_eq_some_iff.1 h
  simp only [Option.some.injEq, Prod.mk.injEq] at h
  obtain ⟨⟨rfl, rfl⟩, rfl⟩ := h
  have e1 := numD_len (n := x.1) (l2 := x.2) hx
  have e2 := strD_len (b := y.1) (l2 := y.2) hy
  exact ⟨⟨ok_of (by unfold I64; omega) (by unfold I64; omega) (by unfold I64; omega) (Nat.zero_le _) (Nat.zero_le _) (by unfold I64; omega) (Nat.zero_le _) (by omega) (by unfold I64; omega), no⟩, Nat.le_refl _, hp, by omega⟩
 rw [if_neg c] at h; clear c
 by_cases c : tag = 77
 ·rw [if_pos c] at h
  obtain ⟨x, hx, h⟩ := Option.bind_eq_some_iff.1 h
  obtain ⟨y, hy, h⟩ := Option.bind_eq_some_iff.1 h
  split at h
  ·obtain ⟨z, hz, h⟩ := Option.bind_eq_some_iff.1 h
   simp only [Option.some.injEq, Prod.mk.injEq] at h
   obtain ⟨⟨rfl, rfl⟩, rfl⟩ := h
   have e1 := numD_len (n := x.1) (l2 := x.2) hx
   have e2 := byteD_len (n := y.1) (l2 := y.2) hy
   have e3 := strD_len (b := z.1) (l2 := z.2) hz
   exact ⟨⟨ok_of (by unfold I64; omega) (by unfold I64; omega) (by unfold I64; omega) (Nat.zero_le _) (Nat.zero_le _) (by unfold I64; omega) (Nat.zero_le _) (by omega) (by unfold I64; omega), no⟩, Nat.le_refl _, hp, by omega⟩
  ·exact absurd h (by simp)
 rw [if_neg c] at h; clear c
 by_cases c : tag = 88
 ·rw [if_pos c] at h
  obtain ⟨x, hx, h⟩ := Option.bind_eq_some_iff.1 h
  obtain ⟨y, hy, h⟩ := Option.bind_eq_some_iff.1 h
  obtain ⟨z, hz, h⟩ := Option.bind_eq_some_iff.1 h
  split at h
  ·obtain ⟨q, hq, h⟩ := Option.bind_eq_some_iff.1 h
   simp only [Option.some.injEq, Prod.mk.injEq] at h
   obtain ⟨⟨rfl, rfl⟩, rfl⟩ := h
   have e1 := nameD_len (b := x.1) (l2 := x.2) hx
   have e2 := numD_len (n := y.1) (l2 := y.2) hy
   have e3 := numD_len (n := z.1) (l2 := z.2) hz
   have e4 := numD_len (n := q.1) (l2 := q.2) hq
   exact ⟨⟨ok_of (by unfold I64; omega) (by unfold I64; omega) (by unfold I64; omega) (by unfold maxLen; omega) (Nat.zero_le _) (by unfold I64; omega) (Nat.zero_le _) (Nat.zero_le _) (by unfold I64; omega), no⟩, Nat.le_refl _, hp, by omega⟩
  ·exact absurd h (by simp)
 rw [if_neg c] at h; clear c
 by_cases c : tag = 90
 ·rw [if_pos c] at h
  obtain ⟨x, hx, h⟩ := Option.bind_eq_some_iff.1 h
  split at h
  ·obtain ⟨y, hy, h⟩ := Option.bind_eq_some_iff.1 h
   obtain ⟨z, hz, h⟩ := Option.bind_eq_some_iff.1 h
   obtain ⟨q, hq, h⟩ := Option.bind_eq_some_iff.1 h
   simp only [Option.some.injEq, Prod.mk.injEq] at h
   obtain ⟨⟨rfl, rfl⟩, rfl⟩ := h
   have e1 := numD_len (n := x.1) (l2 := x.2) hx
   have e2 := nameD_len (b := y.1) (l2 := y.2) hy
   have e3 := numD_len (n := z.1) (l2 := z.2) hz
   have e4 := numD_len (n := q.1) (l2 := q.2) hq
   exact ⟨⟨ok_of (by unfold I64; omega) (by unfold I64; omega) (by unfold I64; omega) (by unfold maxLen; omega) (Nat.zero_le _) (by unfold I64; omega) (Nat.zero_le _) (Nat.zero_le _) (by unfold I64; omega), no⟩, Nat.le_refl _, hp, by omega⟩
  ·exact absurd h (by simp)
 rw [if_neg c] at h; clear c
 exact funD_ok H h hp hl0
theorem termD_ok : ∀ (f : Nat), DecOk (OkF f) (termD f)
 | 0, p, l, t, p', l', h, _, _ => absurd h (by simp [termD])
 | f + 1, p, l, t, p', l', h, hp, hl => by
  unfold termD at h
  split at h
  ·next c =>
   obtain ⟨x, hx, h⟩ := Option.bind_eq_some_iff.1 h
   have e1 := byteD_len (n := x.1) (l2 := x.2) hx
   have := tagD_ok (termD_ok f) h c hl e1.2
   exact ⟨this.1, by omega, this.2.2⟩
  ·exact absurd h (by simp)
end Go.Proofs.YtghgbikmlbildaaGreatDoor
namespace Go.Proofs.YtghgbikmlbildaaGreatDoor
open Go.RowKit
set_option linter.unusedVariables false
set_option linter.unusedSimpArgs false

/-- The terms of a slice that lies in a block of which P is true. -/
def SlIn {α : Type} (w : World) (P : Nat → Prop) (size : Nat) (R : List Value → α → Prop) (ao : Option Addr) (l : List α) : Prop :=
 l = [] ∨ ∃ b off, ao = some ⟨b, off, none⟩ ∧ P b ∧ b < w.heap.size ∧ ∀ j (h : j < l.length), ∃ cs : List Value, cs.length = size ∧ (∀ i, i < size → w.cell? ⟨b, off + j * size + i, none⟩ = cs[i]?) ∧ R cs l[j]
theorem SlIn.at {α : Type} {w : World} {P : Nat → Prop} {size : Nat} {R R' : List Value → α → Prop} {ao : Option Addr} {l : List α} (h : SlIn w P size R ao l) (hR : ∀ j (h : j < l.length) cs, R cs l[j] → R' cs l[j]) : SlAt w size R' ao l := by
 rcases h with h | ⟨b, off, e, -, hB, hx⟩
 ·exact .inl h
 ·exact .inr ⟨b, off, e, hB, fun j hj => (hx j hj).elim fun cs ⟨a, c, d⟩ => ⟨cs, a, c, hR j hj _ d⟩⟩
theorem SlIn.kept {α : Type} {w w' : World} {P P' : Nat → Prop} {size : Nat} {R R' : List Value → α → Prop} {ao : Option Addr} {l : List α} (h : SlIn w P size R ao l) (hs : w.heap.size ≤ w'.heap.size)
  (hk : ∀ b, P b → b < w.heap.size → w'.heap[b]? = w.heap[b]?) (hP : ∀ b, P b → b < w.heap.size → P' b) (hR : ∀ cs a, R cs a → R' cs a) : SlIn w' P' size R' ao l := by
 rcases h with h | ⟨b, off, e, hb, hB, hx⟩
 ·exact .inl h
 ·refine .inr ⟨b, off, e, hP b hb hB, Nat.lt_of_lt_of_le hB hs, fun j hj => ?_⟩
  obtain ⟨cs, hlen, hc, hR'⟩ := hx j hj
  exact ⟨cs, hlen, fun i hi => (show w'.cell? ⟨b, off + j * size + i, none⟩ = w.cell? ⟨b, off + j * size + i, none⟩ by unfold World.cell?; rw [hk b hb hB]).trans (hc i hi), hR _ _ hR'⟩
/-- Cells hold a term whose depth is at most f and whose parts lie in blocks of which P is true. -/
def TmIn (w : World) (P : Nat → Prop) : Nat → List Value → Tm → Prop
 | 0, _, _ => False
 | f + 1, cs, t => ∃ ao c, cs = [.int .i64 t.kind, .int .i64 t.int, .int .i64 t.gen, .string t.name, .string t.func, .int .i64 t.arity, .slice ao t.items.length c, .string t.bytes, .int .i64 t.bits] ∧ SlIn w P 9 (TmIn w P f) ao t.items
theorem TmIn.kept {w w' : World} {P P' : Nat → Prop} (hs : w.heap.size ≤ w'.heap.size) (hk : ∀ b, P b → b < w.heap.size → w'.heap[b]? = w.heap[b]?) (hP : ∀ b, P b → b < w.heap.size → P' b) :
  ∀ {f : Nat} {cs : List Value} {t : Tm}, TmIn w P f cs t → TmIn w' P' f cs t
 | 0, _, _, h => h
 | _ + 1, _, _, ⟨ao, c, e, h⟩ => ⟨ao, c, e, h.kept hs hk hP fun _ _ h => TmIn.kept hs hk hP h⟩
theorem TmIn.ok {w : World} {P : Nat → Prop} : ∀ {f : Nat} {cs : List Value} {t : Tm}, TmIn w P f cs t → OkF f t → TmAt w f cs t
 | 0, _, _, h, _ => h
 | f + 1, _, _, ⟨ao, c, e, h⟩, ho => ⟨⟨ao, c, e, h.at fun j hj cs hx => TmIn.ok hx (ho.2 _ (List.getElem_mem hj))⟩, ho.1⟩
theorem TmIn.below {w w' : World} {P : Nat → Prop} (hb : Below w.heap.size w w') {f : Nat} {cs : List Value} {t : Tm} (h : TmIn w P f cs t) : TmIn w' P f cs t := h.kept hb.size (fun b _ hl => hb.block b hl) fun b h _ => h
theorem TmIn.len {w : World} {P : Nat → Prop} {f : Nat} {cs : List Value} {t : Tm} (h : TmIn w P f cs t) : cs.length = 9 := by
 cases f with
 | zero => exact h.elim
 | succ f => obtain ⟨ao, c, e, -⟩ := h; rw [e]; rfl
/-- Rows of cells, one behind the other, hold the elements of a list. -/
def RowsIn {α : Type} (size : Nat) (R : List Value → α → Prop) : List Value → List α → Prop
 | xs, [] => xs = []
 | xs, t :: ts => ∃ cs ys, xs = cs ++ ys ∧ cs.length = size ∧ R cs t ∧ RowsIn size R ys ts
theorem RowsIn.mono {α : Type} {size : Nat} {R R' : List Value → α → Prop} (hR : ∀ cs a, R cs a → R' cs a) : ∀ {ts : List α} {xs : List Value}, RowsIn size R xs ts → RowsIn size R' xs ts
 | [], _, h => h
 | _ :: _, _, ⟨cs, ys, a, b, c, d⟩ => ⟨cs, ys, a, b, hR _ _ c, RowsIn.mono hR d⟩
theorem RowsIn.snoc {α : Type} {size : Nat} {R : List Value → α → Prop} {cs : List Value} {t : α} (hl : cs.length = size) (hR : R cs t) : ∀ {ts : List α} {xs : List Value}, RowsIn size R xs ts → RowsIn size R (xs ++ cs) (ts ++ [t])
 | [], xs, h => ⟨cs, [], by rw [show xs = [] from h]; simp, hl, hR, rfl⟩
 | _ :: _, _, ⟨cs', ys, a, b, c, d⟩ => ⟨cs', ys ++ cs, by rw [a, List.append_assoc], b, c, RowsIn.snoc hl hR d⟩
theorem RowsIn.get {α : Type} {size : Nat} {R : List Value → α → Prop} : ∀ {ts : List α} {xs : List Value}, RowsIn size R xs ts → ∀ j (h : j < ts.length), ∃ cs : List Value, cs.length = size ∧ (∀ i, i < size → xs[j * size + i]? = cs[i]?) ∧ R cs ts[j]
 | [], _, _, j, h => absurd h (Nat.not_lt_zero _)
 | t :: ts, _, ⟨cs, ys, a, b, c, d⟩, 0, _ => ⟨cs, b, fun i hi => by rw [a, Nat.zero_mul, Nat.zero_add, List.getElem?_append_left (by omega)], c⟩
 | t :: ts, _, ⟨cs, ys, a, b, c, d⟩, j + 1, h => by
  obtain ⟨cs', h1, h2, h3⟩ := RowsIn.get d j (by simpa using h)
  refine ⟨cs', h1, fun i hi => ?_, h3⟩
  rw [a, List.getElem?_append_right (by rw [b, Nat.succ_mul]; omega), ← h2 i hi]
  congr 1
  rw [b, Nat.succ_mul]; omega
/-- What a slice owns lies where it lies. -/
theorem owns_slIn {α : Type} {w : World} {B size : Nat} {e : TypeId} {v : Value} {xs : List Value} {ts : List α} {R : List Value → α → Prop} (h : w.ownsRow B e size v ts.length xs) (hr : RowsIn size R xs ts) : ∃ ao c, v = .slice ao ts.length c ∧ SlIn w (B ≤ ·) size R ao ts := by
 rcases h.2 with ⟨rfl, h0⟩ | ⟨g, cap, cur, rfl, hB, hg, h1, h2, h3, h4⟩
 ·exact ⟨none, 0, by rw [h0], .inl (List.eq_nil_of_length_eq_zero h0)⟩
 ·refine ⟨_, _, rfl, .inr ⟨g, 0, rfl, hB, lt_of_row hg, fun j hj => ?_⟩⟩
  obtain ⟨cs, k1, k2, k3⟩ := hr.get j hj
  refine ⟨cs, k1, fun i hi => ?_, k3⟩
  rw [Nat.zero_add, cell_of_row w g _ _ _ _ hg, ← k2 i hi, ← h4, ← Array.getElem?_toList, List.getElem?_take]
  have : j * size + i < ts.length * size := by
   have h5 : (j + 1) * size ≤ ts.length * size := Nat.mul_le_mul_right _ hj
   rw [Nat.succ_mul] at h5; omega
  rw [if_pos this]
theorem infoTerm : (Tryz.prog.info? 78).map (fun i => (i.zero, i.size, i.bytes)) = some (some (.agg #[.int .i64 0, .int .i64 0, .int .i64 0, .string ⟨#[]⟩, .string ⟨#[]⟩, .int .i64 0, .slice none 0 0, .string ⟨#[]⟩, .int .i64 0]), 9, 112) := by kernel_rfl
/-- The reader's row of terms, while it grows: each term's parts lie in new blocks that are not the row's own. -/
structure AccAt (B : Nat) (f : Nat) (v : Value) (ts : List Tm) (w : World) : Prop where
 own : ∃ xs, w.ownsRow B 78 9 v ts.length xs ∧ RowsIn 9 (TmIn w (fun b => B ≤ b ∧ v.ownBlock ≠ some b) f) xs ts
theorem AccAt.nil (B f : Nat) (w : World) : AccAt B f (.slice none 0 0) [] w := ⟨⟨[], World.ownsRow_nil _ _ _ _, rfl⟩⟩
theorem AccAt.grown {B f r : Nat} {v : Value} {ts : List Tm} {w w' : World} (h : AccAt B f v ts w) (hg : w.grownBy w' (some r)) (hr : r < B) : AccAt B f v ts w' := by
 obtain ⟨xs, ho, hR⟩ := h.own
 exact ⟨xs, ho.kept hg (.inr fun e => by have := (ho.lt r e).1; omega), hR.mono fun _ _ h => h.kept hg.size (fun b hb hl => hg.block b hl fun e => by have := Option.some.inj e; omega) fun b hb _ => hb⟩
theorem AccAt.below {B f : Nat} {v : Value} {ts : List Tm} {w w' : World} (h : AccAt B f v ts w) (hb : Below w.heap.size w w') : AccAt B f v ts w' := by
 obtain ⟨xs, ho, hR⟩ := h.own
 exact ⟨xs, ho.kept (grownBy_below hb none) (by cases v.ownBlock <;> simp), hR.mono fun _ _ h => h.below hb⟩
theorem AccAt.sl {B f : Nat} {v : Value} {ts : List Tm} {w : World} (h : AccAt B f v ts w) : ∃ ao c, v = .slice ao ts.length c ∧ SlIn w (B ≤ ·) 9 (TmIn w (B ≤ ·) f) ao ts := by
 obtain ⟨xs, ho, hR⟩ := h.own
 exact owns_slIn ho (hR.mono fun _ _ h => h.kept (Nat.le_refl _) (fun _ _ _ => rfl) fun b hb _ => hb.1)
/-- A term that lies in blocks behind all that were there is appended. -/
theorem AccAt.app {B f : Nat} {v v' : Value} {ts : List Tm} {w0 w w' : World} {xs cs : List Value} {t : Tm} (h0 : AccAt B f v ts w0) (hlt : ∀ k, v.ownBlock = some k → k < w0.heap.size) (ho : w.ownsRow B 78 9 v ts.length xs) (hR : RowsIn 9 (TmIn w (fun b => B ≤ b ∧ v.ownBlock ≠ some b) f) xs ts)
  (ht : TmIn w (w0.heap.size ≤ ·) f cs t) (hB : B ≤ w0.heap.size) (hg : w.grownBy w' v.ownBlock) (hat : ∀ k, v'.ownBlock = some k → v.ownBlock = some k ∨ w.heap.size ≤ k) (ho' : w'.ownsRow B 78 9 v' (ts.length + 1) (xs ++ cs)) : AccAt B f v' (ts ++ [t]) w' := by
 have hne : ∀ b, v.ownBlock ≠ some b → b < w.heap.size → v'.ownBlock ≠ some b := fun b h1 h2 e => by
  rcases hat b e with h | h
  ·exact h1 h
  ·omega
 refine ⟨xs ++ cs, by rw [List.length_append]; exact ho', RowsIn.snoc ht.len (ht.kept hg.size (fun b hb hl => hg.block b hl fun e => by have := hlt b e.symm; omega) fun b hb hl => ⟨Nat.le_trans hB hb, hne b (fun e => by have := hlt b e; omega) hl⟩) (hR.mono fun _ _ h => h.kept hg.size (fun b hb hl => hg.block b hl fun e => hb.2 e.symm) fun b hb hl => ⟨hb.1, hne b hb.2 hl⟩)⟩
def tmL (t : Tm) (so : Option Addr) (c : Nat) : List Value := [.int .i64 t.kind, .int .i64 t.int, .int .i64 t.gen, .string t.name, .string t.func, .int .i64 t.arity, .slice so t.items.length c, .string t.bytes, .int .i64 t.bits]
/-- What the reader of terms may end in. -/
def TmPost (r : Nat) (s : ByteArray) (f : Nat) (w : World) (d : Option ((Tm × Nat) × List UInt8)) (e : Ending) (w' : World) : Prop :=
 match d with
 | none => e = refused ∧ w.grownBy w' (some r)
 | some ((t, p), l) => (∃ so c, e = .returned (.agg #[.int .i64 t.kind, .int .i64 t.int, .int .i64 t.gen, .string t.name, .string t.func, .int .i64 t.arity, .slice so t.items.length c, .string t.bytes, .int .i64 t.bits]) ∧ TmIn w' (w.heap.size ≤ ·) f (tmL t so c) t) ∧ RdL r s l p w' ∧ w.grownBy w' (some r)
/-- What the reader of items may end in. -/
def ItPost (r : Nat) (s : ByteArray) (f : Nat) (w : World) (d : Option ((List Tm × Nat) × List UInt8)) (e : Ending) (w' : World) : Prop :=
 match d with
 | none => e = refused ∧ w.grownBy w' (some r)
 | some ((ts, p), l) => (∃ so c, e = .returned (.slice so ts.length c) ∧ SlIn w' (w.heap.size ≤ ·) 9 (TmIn w' (w.heap.size ≤ ·) f) so ts) ∧ RdL r s l p w' ∧ w.grownBy w' (some r)
/-- The reader of terms, with so much fuel. -/
def TermP (f : Nat) : Prop := ∀ (r : Nat) (s : ByteArray) (l : List UInt8) (p : Nat) (w : World), RdL r s l p w → p ≤ 2000 → 2000 ≤ p + f →
 Calls Tryz.prog 170 #[.pointer (some ⟨r, 0, none⟩)] w (TmPost r s f w (termD f p l))
def ItemsP (f : Nat) : Prop := ∀ (r : Nat) (s : ByteArray) (l : List UInt8) (p n : Nat) (w : World), RdL r s l p w → p ≤ 2000 → 2000 ≤ p + f → n ≤ 1099511627776 →
 Calls Tryz.prog 206 #[.pointer (some ⟨r, 0, none⟩), .int .i64 n] w (ItPost r s f w (itemsD (termD f) n p l))
theorem RdL.grown_new {r : Nat} {s : ByteArray} {l : List UInt8} {p : Nat} {w : World} (h : RdL r s l p w) (o : Obj) : RdL r s l p (w.alloc o) := h.below ((Below.refl _ _).alloc (Nat.le_refl _) _)
theorem RdL.len {r : Nat} {s : ByteArray} {l : List UInt8} {p : Nat} {w : World} (h : RdL r s l p w) : l.length ≤ maxLen := by
 obtain ⟨a, h1, h2, h3, h4⟩ := h
 have := left_len h2 h3
 unfold maxLen; omega
end Go.Proofs.YtghgbikmlbildaaGreatDoor
namespace Go.Proofs.YtghgbikmlbildaaGreatDoor
open Go.RowKit
set_option linter.unusedVariables false
set_option linter.unusedSimpArgs false

theorem itemsG_succ (T : Nat → List UInt8 → Option ((Tm × Nat) × List UInt8)) (n p : Nat) (l : List UInt8) : itemsG T (n + 1) p l = (T p l).bind fun x => (itemsG T n x.1.2 x.2).bind fun y => some ((x.1.1 :: y.1.1, y.1.2), y.2) := rfl
theorem grownBy_own {a b c : World} {r : Nat} {o : Option Nat} (h : a.grownBy b (some r)) (h' : b.grownBy c o) (ho : ∀ k, o = some k → a.heap.size ≤ k) : a.grownBy c (some r) :=
 ⟨h'.os.trans h.os, h'.tape.trans h.tape, h'.output.trans h.output, Nat.le_trans h.size h'.size, fun k hk hn => (h'.block k (Nat.lt_of_lt_of_le hk h.size) (fun e => by have := ho k e.symm; omega)).trans (h.block k hk hn)⟩
set_option maxRecDepth 100000 in
set_option maxHeartbeats 8000000 in
theorem items_step (f : Nat) (HT : TermP f) : ItemsP f := by
 intro r s l0 p0 n w h hp hpf hn
 generalize hQ : ItPost r s f w (itemsD (termD f) n p0 l0) = Q at *
 have HQ := Lib.hid hQ
 clear hQ
 have HTT := Lib.hid HT
 clear HT
 by_cases c : n ≤ 2000
 case neg =>
  have hle : decide ((n : Int) ≤ 2000) = false := decide_eq_false (by omega)
  have HD : Hid (itemsD (termD f) n p0 l0 = none) := Lib.hid (if_neg c)
  go_enter Tryz.func206, Tryz.ntmps206
  go_wp2_with (go_at_call 171; refine (demand_no _ _).mono ?_; rintro e w1 ⟨rfl, rfl⟩)
  exact ⟨rfl, by rw [← HQ.out, HD.out]; exact ⟨rfl, grownBy_refl _ _⟩⟩
 have hle : decide ((n : Int) ≤ 2000) = true := decide_eq_true (by omega)
 have HD : Hid (itemsD (termD f) n p0 l0 = itemsG (termD f) n p0 l0) := Lib.hid (if_pos c)
 have hrw := h.lt
 go_enter Tryz.func206, Tryz.ntmps206
 go_wp2_with (go_at_call 171; refine (demand_yes _ _).mono ?_; rintro e w1 ⟨rfl, rfl⟩)
 clear hle
 go_loopw [1, 5] (fun nv lv wr => ∃ (k p : Nat) (l : List UInt8) (ts : List Tm), nv = .int .i64 k ∧ k + ts.length = n ∧ p ≤ 2000 ∧ 2000 ≤ p + f ∧ Hid (itemsG (termD f) n p0 l0 = (itemsG (termD f) k p l).bind fun y => some ((ts ++ y.1.1, y.1.2), y.2)) ∧ RdL r s l p wr ∧ AccAt w.heap.size f lv ts wr ∧ w.grownBy wr (some r)) (fun nv _ _ => (intOf nv).toNat)
 case atStart => exact ⟨n, p0, l0, [], rfl, rfl, hp, hpf, Lib.hid (by cases itemsG (termD f) n p0 l0 <;> rfl), h, AccAt.nil _ _ _, grownBy_refl _ _⟩
 case round =>
  obtain ⟨k, p, l, ts, rfl, hk, hp1, hp2, HI, hrd, hacc, hg⟩ := hrel
  cases k with
  | zero =>
   obtain ⟨ao, cap, rfl, hsl⟩ := hacc.sl
   have HS := Lib.hid hsl
   clear hsl
   go_wp2_with fail
   rw [← HQ.out, HD.out, HI.out]
   exact ⟨⟨_, _, by rw [List.append_nil], by rw [List.append_nil]; exact HS.out⟩, hrd, hg⟩
  | succ k =>
   obtain ⟨ao, cap0, rfl, -⟩ := hacc.sl
   have hpos : ((k + 1 : Nat) : Int) > 0 := by omega
   have HT := HTT.out r s l p wr hrd hp1 hp2
   rcases h1 : termD f p l with _ | ⟨⟨t, p2⟩, l2⟩
   ·rw [h1] at HT
    go_wp2_with (go_at_call 170; refine HT.mono ?_; rintro e w1 ⟨rfl, hg1⟩)
    exact ⟨rfl, by rw [← HQ.out, HD.out, HI.out, itemsG_succ, h1]; exact ⟨rfl, grownBy_trans hg hg1⟩⟩
   rw [h1] at HT
   have hok := termD_ok f p l t p2 l2 h1 hp1 hrd.len
   obtain ⟨i0, hi, hz0, hz1, hz2⟩ := info_parts infoTerm
   go_wp2_with (first
    | (go_at_call 170; refine HT.mono ?_; rintro e w1 ⟨⟨so, c, rfl, htm⟩, hr1, hg1⟩; obtain ⟨xs, ho, hR⟩ := ((hacc.grown hg1 hrw).below ((Below.refl _ _).alloc (Nat.le_refl _) (.cells #[.int .i64 t.kind, .int .i64 t.int, .int .i64 t.gen, .string t.name, .string t.func, .int .i64 t.arity, .slice so t.items.length c, .string t.bytes, .int .i64 t.bits] 78))).own)
    | (at_builtin; refine wpList_append_lies _ rfl (.tmp 14) (.tmp 17) 22 rfl w.heap.size 78 i0 _ 9 112 Tryz.underlying22 hi hz0 hz1 hz2 rfl (by decide) _ ts.length xs rfl ho ⟨w1.heap.size, 0, none⟩ 1 1 (tmL t so c) rfl rfl (World.news_of_block (heap_alloc_new _ _)) (by simp [tmL, Value.oneCell']) (by decide) (by unfold maxLen; omega) (by omega) (by have := hg.size; have := hg1.size; simp; omega) _ rfl ?_; intro g cap w2 ho2 hg2 hat hlt))
   have ho0 : ∀ k, (Value.slice ao ts.length cap0).ownBlock = some k → w.heap.size ≤ k ∧ k < wr.heap.size := by
    obtain ⟨xs0, ho0, -⟩ := hacc.own; exact ho0.lt
   have hb1 := (Below.refl w1.heap.size w1).alloc (Nat.le_refl _) (.cells #[.int .i64 t.kind, .int .i64 t.int, .int .i64 t.gen, .string t.name, .string t.func, .int .i64 t.arity, .slice so t.items.length c, .string t.bytes, .int .i64 t.bits] 78)
   have hacc2 : AccAt w.heap.size f (.slice (some ⟨g, 0, none⟩) (ts.length + 1) cap) (ts ++ [t]) w2 :=
    hacc.app (fun k e => (ho0 k e).2) ho hR (htm.below hb1) hg.size hg2 (fun k e => by
     have e : g = k := Option.some.inj e
     subst e
     exact hat.imp id fun h => Nat.le_of_eq h.symm) ho2
   have hr2 : RdL r s l2 p2 w2 := by
    obtain ⟨a, h1, h2⟩ := hr1.below hb1
    exact ⟨a, (hg2.block r h1.lt fun e => by have := (ho0 r e.symm).1; omega).trans h1, h2⟩
   have hgw : w.grownBy w2 (some r) := grownBy_own (grown_low (grownBy_trans hg hg1) (hb1.mono (Nat.le_trans hg.size hg1.size))) hg2 (fun k e => (ho0 k e).1)
   go_wp2_with fail
   go_roundw
   case rel => exact ⟨k, p2, l2, ts ++ [t], by go_num, by rw [List.length_append]; simp; omega, hok.2.2.1, by omega, Lib.hid (by
    rw [HI.out, itemsG_succ, h1, Option.bind_some]
    cases itemsG (termD f) k p2 l2 with
    | none => rfl
    | some y => simp only [Option.bind_some, List.append_assoc, List.cons_append, List.nil_append]), hr2, hacc2, hgw⟩
   case measure => simp [intOf]
end Go.Proofs.YtghgbikmlbildaaGreatDoor
namespace Go.Proofs.YtghgbikmlbildaaGreatDoor
open Go.RowKit
set_option linter.unusedVariables false
set_option linter.unusedSimpArgs false

/-- All blocks but one are as they were. -/
def OffB (X : Nat) (w w' : World) : Prop := w.heap.size ≤ w'.heap.size ∧ ∀ b, b ≠ X → w'.heap[b]? = w.heap[b]?
theorem OffB.set (X : Nat) (w : World) (j : Nat) (v : Value) : OffB X w (w.setCell ⟨X, j, none⟩ v) :=
 ⟨by simp [World.setCell], fun b hb => heap_setCell_other _ _ _ _ (by simpa using hb)⟩
theorem OffB.trans {X : Nat} {a b c : World} (h : OffB X a b) (h' : OffB X b c) : OffB X a c := ⟨Nat.le_trans h.1 h'.1, fun k hk => (h'.2 k hk).trans (h.2 k hk)⟩
theorem OffB.nine (X : Nat) (wx : World) (v0 v1 v2 v3 v4 v5 v6 v7 v8 : Value) :
  OffB X wx (((((((((wx.setCell ⟨X, 0, none⟩ v0).setCell ⟨X, 1, none⟩ v1).setCell ⟨X, 2, none⟩ v2).setCell ⟨X, 3, none⟩ v3).setCell ⟨X, 4, none⟩ v4).setCell ⟨X, 5, none⟩ v5).setCell ⟨X, 6, none⟩ v6).setCell ⟨X, 7, none⟩ v7).setCell ⟨X, 8, none⟩ v8) :=
 ((((((((OffB.set X wx 0 v0).trans (OffB.set X _ 1 v1)).trans (OffB.set X _ 2 v2)).trans (OffB.set X _ 3 v3)).trans (OffB.set X _ 4 v4)).trans (OffB.set X _ 5 v5)).trans (OffB.set X _ 6 v6)).trans (OffB.set X _ 7 v7)).trans (OffB.set X _ 8 v8)
theorem SlIn.off {w w' : World} {X B B' f : Nat} {ao : Option Addr} {ts : List Tm} (h : SlIn w (B ≤ ·) 9 (TmIn w (B ≤ ·) f) ao ts) (ho : OffB X w w') (hX : X < B) (hB : B' ≤ B) : SlIn w' (B' ≤ ·) 9 (TmIn w' (B' ≤ ·) f) ao ts :=
 h.kept ho.1 (fun b hb _ => ho.2 b (by omega)) (fun b hb _ => Nat.le_trans hB hb) fun _ _ h => h.kept ho.1 (fun b hb _ => ho.2 b (by omega)) (fun b hb _ => Nat.le_trans hB hb)
theorem StO.fin {w0 : World} {r : Nat} {s : ByteArray} {l : List UInt8} {p X : Nat} {wx : World} (h : StO w0 r s l p X wx) (v0 v1 v2 v3 v4 v5 v6 v7 v8 : Value) :
  RdL r s l p (((((((((wx.setCell ⟨X, 0, none⟩ v0).setCell ⟨X, 1, none⟩ v1).setCell ⟨X, 2, none⟩ v2).setCell ⟨X, 3, none⟩ v3).setCell ⟨X, 4, none⟩ v4).setCell ⟨X, 5, none⟩ v5).setCell ⟨X, 6, none⟩ v6).setCell ⟨X, 7, none⟩ v7).setCell ⟨X, 8, none⟩ v8) ∧
  w0.grownBy (((((((((wx.setCell ⟨X, 0, none⟩ v0).setCell ⟨X, 1, none⟩ v1).setCell ⟨X, 2, none⟩ v2).setCell ⟨X, 3, none⟩ v3).setCell ⟨X, 4, none⟩ v4).setCell ⟨X, 5, none⟩ v5).setCell ⟨X, 6, none⟩ v6).setCell ⟨X, 7, none⟩ v7).setCell ⟨X, 8, none⟩ v8) (some r) := by
 have hX := h.hX; have hr := h.hr
 have hb := below9 (B := X) (Nat.le_refl X) (Below.refl X wx) v0 v1 v2 v3 v4 v5 v6 v7 v8
 obtain ⟨a, ha, hl⟩ := h.rd
 refine ⟨⟨a, (hb.block r (by omega)).trans ha, hl⟩, grown_low h.gr ?_⟩
 rw [← hX]; exact hb
theorem StO.below {w0 : World} {r : Nat} {s : ByteArray} {l : List UInt8} {p X : Nat} {wx wy : World} (h : StO w0 r s l p X wx) (hb : Below wx.heap.size wx wy) : StO w0 r s l p X wy :=
 ⟨h.rd.below hb, grown_low h.gr (hb.mono h.gr.size), (hb.block X (lt_of_row h.x)).trans h.x, h.hr, h.hX⟩
theorem RdL.parts {r : Nat} {s : ByteArray} {l : List UInt8} {p : Nat} {w : World} (h : RdL r s l p w) : w.cell? ⟨r, 2, none⟩ = some (.int .i64 p) ∧ w.frozen? ⟨r, 2, none⟩ = false := by
 obtain ⟨a, h, -⟩ := h; exact ⟨h.cells.2.2.1, h.cells.2.2.2.2⟩
theorem RdAt.parts {r : Nat} {s : ByteArray} {a p : Nat} {w : World} (h : RdAt r s a p w) : RdAt r s a (p + 1) (w.setCell ⟨r, 2, none⟩ (.int .i64 ((p : Int) + 1))) := by
 have := heap_setCell_same w r 2 _ _ (.int .i64 ((p : Int) + 1)) h
 exact this.trans (by rw [show ((p : Int) + 1) = ((p + 1 : Nat) : Int) by omega]; rfl)
theorem StO.parts {w0 : World} {r : Nat} {s : ByteArray} {l : List UInt8} {p X : Nat} {wx : World} (h : StO w0 r s l p X wx) : StO w0 r s l (p + 1) X (wx.setCell ⟨r, 2, none⟩ (.int .i64 ((p : Int) + 1))) := by
 have hX := h.hX; have hr := h.hr
 obtain ⟨a, ha, hl⟩ := h.rd
 exact ⟨⟨a, ha.parts, hl⟩, grownBy_trans h.gr (grownBy_set _ r 2 _), (heap_setCell_other _ _ _ _ (by simp; omega)).trans h.x, hr, hX⟩
set_option maxRecDepth 100000 in
set_option maxHeartbeats 4000000 in
theorem tint_any (n : Int) (w : World) : Calls Tryz.prog 202 #[.int .i64 n] w fun e w' => e = .returned (.agg #[.int .i64 1, .int .i64 n, .int .i64 0, .string ⟨#[]⟩, .string ⟨#[]⟩, .int .i64 0, .slice none 0 0, .string ⟨#[]⟩, .int .i64 0]) ∧ Below w.heap.size w w' := by
 have x := heap_alloc_new w (.cells zeroRow 78)
 go_enter Tryz.func202, Tryz.ntmps202
 go_upto_region 1 with fail
 have hb : Below w.heap.size w (w.alloc (.cells zeroRow 78)) := (Below.refl _ _).alloc (Nat.le_refl _) _
 unfold zeroRow at x hb
 generalize w.alloc _ = w1 at *
 obtain ⟨x0, x1, x2, x3, x4, x5, x6, x7, x8, y0, y1, y2, y3, y4, y5, y6, y7, y8⟩ := term_cells x
 go_wp2_with fail
 refine bodyPost_ret (results_cell_row rfl _ _ w.heap.size _ _ _ _ rfl (set9 _ _ _ _ _ _ _ _ _ x) Tryz.underlying78 rfl (by kernel_rfl)) rfl ?_
 exact ⟨rfl, below9 (Nat.le_refl _) hb _ _ _ _ _ _ _ _ _⟩
set_option maxRecDepth 100000 in
set_option maxHeartbeats 4000000 in
theorem tnil_any (w : World) : Calls Tryz.prog 207 #[] w fun e w' => e = .returned (.agg #[.int .i64 8, .int .i64 0, .int .i64 0, .string ⟨#[]⟩, .string ⟨#[]⟩, .int .i64 0, .slice none 0 0, .string ⟨#[]⟩, .int .i64 0]) ∧ Below w.heap.size w w' := by
 have x := heap_alloc_new w (.cells zeroRow 78)
 go_enter Tryz.func207, Tryz.ntmps207
 go_upto_region 1 with fail
 have hb : Below w.heap.size w (w.alloc (.cells zeroRow 78)) := (Below.refl _ _).alloc (Nat.le_refl _) _
 unfold zeroRow at x hb
 generalize w.alloc _ = w1 at *
 obtain ⟨x0, x1, x2, x3, x4, x5, x6, x7, x8, y0, y1, y2, y3, y4, y5, y6, y7, y8⟩ := term_cells x
 go_wp2_with fail
 refine bodyPost_ret (results_cell_row rfl _ _ w.heap.size _ _ _ _ rfl (set9 _ _ _ _ _ _ _ _ _ x) Tryz.underlying78 rfl (by kernel_rfl)) rfl ?_
 exact ⟨rfl, below9 (Nat.le_refl _) hb _ _ _ _ _ _ _ _ _⟩
end Go.Proofs.YtghgbikmlbildaaGreatDoor
namespace Go.Proofs.YtghgbikmlbildaaGreatDoor
open Go.RowKit
set_option linter.unusedVariables false
set_option linter.unusedSimpArgs false

set_option maxRecDepth 100000 in
set_option maxHeartbeats 4000000 in
theorem export_l (f r : Nat) (s : ByteArray) (l : List UInt8) (p : Nat) (w : World) (h : RdL r s l p w) (hx : ∃ l1, byteD l = some (113, l1)) :
  Calls Tryz.prog 209 #[.pointer (some ⟨r, 0, none⟩)] w (TmPost r s (f + 1) w (funD (termD f) p l)) := by
 generalize hQ : TmPost r s (f + 1) w (funD (termD f) p l) = Q at *
 have HQ := Lib.hid hQ
 clear hQ
 obtain ⟨l1, hx⟩ := hx
 have HD : Hid (funD (termD f) p l = (nameD l1).bind fun x => (nameD x.2).bind fun y => (byteD y.2).bind fun z => if z.1 = 97 then (byteD z.2).bind fun q => some ((tmK 5 (name := x.1) (func := y.1) (arity := q.1), p), q.2) else none) := Lib.hid (by unfold funD; rw [hx, Option.bind_some]; exact if_pos rfl)
 have HB := fun wx (hh : RdL r s l p wx) => byte_l r s l p wx hh
 rw [hx] at HB
 have S0 := StO.start h
 go_enter Tryz.func209, Tryz.ntmps209
 go_wp2_with (go_at_call 201; refine (HB _ (h.grown_new _)).mono ?_; rintro e v0 ⟨rfl, hr0, hg0⟩; have S00 := S0.call hr0 hg0; clear S0 hr0 hg0 HB)
 have S0 := S00
 clear S00
 have H1 := name_l r s l1 p _ S0.rd
 rcases h1 : nameD l1 with _ | ⟨nm, l2⟩
 ·rw [h1] at H1 HD
  go_wp2_with (go_at_call 208; refine H1.mono ?_; rintro e v1 ⟨rfl, hg1⟩)
  exact ⟨rfl, by rw [← HQ.out, HD.out]; exact ⟨rfl, grownBy_trans S0.gr hg1⟩⟩
 rw [h1] at H1 HD
 rw [Option.bind_some] at HD
 go_wp2_with (go_at_call 208; refine H1.mono ?_; rintro e v1 ⟨rfl, hr1, hg1⟩; have S1 := S0.call hr1 hg1; clear S0 H1 hr1 hg1)
 have S1n := S1.new #[.int .i64 5, .int .i64 0, .int .i64 0, .string nm, .string ⟨#[]⟩, .int .i64 0, .slice none 0 0, .string ⟨#[]⟩, .int .i64 0]
 clear S1
 generalize v1.alloc _ = u1w at *
 generalize v1.heap.size = Y at *
 have H2 := name_l r s l2 p _ S1n.rd
 rcases h2 : nameD l2 with _ | ⟨fm, l3⟩
 ·rw [h2] at H2 HD
  go_wp2_with (go_at_call 208; refine H2.mono ?_; rintro e v2 ⟨rfl, hg2⟩)
  exact ⟨rfl, by rw [← HQ.out, HD.out]; exact ⟨rfl, grownBy_trans S1n.gr hg2⟩⟩
 rw [h2] at H2 HD
 rw [Option.bind_some] at HD
 go_wp2_with (go_at_call 208; refine H2.mono ?_; rintro e v2 ⟨rfl, hr2, hg2⟩; have S2 := S1n.call hr2 hg2; clear S1n H2 hr2 hg2; obtain ⟨q0, q1, q2, q3, q4, q5, q6, q7, q8, z0, z1, z2, z3, z4, z5, z6, z7, z8⟩ := term_cells S2.y)
 have S2s := S2.set 4 (.string fm)
 clear S2 q0 q1 q2 q3 q4 q5 q6 q7 q8 z0 z1 z2 z3 z4 z5 z6 z7 z8
 generalize v2.setCell _ _ = u2w at *
 have H3 := byte_l r s l3 p _ S2s.rd
 rcases h3 : byteD l3 with _ | ⟨n, l4⟩
 ·rw [h3] at H3 HD
  go_wp2_with (go_at_call 201; refine H3.mono ?_; rintro e v3 ⟨rfl, hg3⟩)
  exact ⟨rfl, by rw [← HQ.out, HD.out]; exact ⟨rfl, grownBy_trans S2s.gr hg3⟩⟩
 rw [h3] at H3 HD
 rw [Option.bind_some] at HD
 by_cases c : n = 97
 case neg =>
  rw [if_neg c] at HD
  have hne : ((n : Int) == 97) = false := beq_eq_false_iff_ne.2 (by omega)
  go_wp2_with (go_at_call 201; refine H3.mono ?_; rintro e v3 ⟨rfl, hr3, hg3⟩)
  go_wp2_with (go_at_call 171; refine (demand_no _ _).mono ?_; rintro e d3 ⟨rfl, rfl⟩)
  exact ⟨rfl, by rw [← HQ.out, HD.out]; exact ⟨rfl, grownBy_trans S2s.gr hg3⟩⟩
 subst c
 rw [if_pos rfl] at HD
 go_wp2_with (go_at_call 201; refine H3.mono ?_; rintro e v3 ⟨rfl, hr3, hg3⟩; have S3 := S2s.call hr3 hg3; clear S2s H3 hr3 hg3)
 go_wp2_with (go_at_call 171; refine (demand_yes _ _).mono ?_; rintro e d3 ⟨rfl, rfl⟩)
 have H4 := byte_l r s l4 p _ S3.rd
 rcases h4 : byteD l4 with _ | ⟨m, l5⟩
 ·rw [h4] at H4 HD
  go_wp2_with (go_at_call 201; refine H4.mono ?_; rintro e v4 ⟨rfl, hg4⟩)
  exact ⟨rfl, by rw [← HQ.out, HD.out]; exact ⟨rfl, grownBy_trans S3.gr hg4⟩⟩
 rw [h4] at H4 HD
 rw [Option.bind_some] at HD
 go_upto_region 7 with (go_at_call 201; refine H4.mono ?_; rintro e v4 ⟨rfl, hr4, hg4⟩; have S4 := S3.call hr4 hg4; clear S3 H4 hr4 hg4; obtain ⟨q0, q1, q2, q3, q4, q5, q6, q7, q8, z0, z1, z2, z3, z4, z5, z6, z7, z8⟩ := term_cells S4.y)
 have S4s := S4.set 5 (.int .i64 m)
 clear S4 q0 q1 q2 q3 q4 q5 q6 q7 q8 z0 z1 z2 z3 z4 z5 z6 z7 z8
 generalize v4.setCell _ _ = u4w at *
 have hXY := S4s.hY
 rw [S4s.hX] at hXY
 obtain ⟨q0, q1, q2, q3, q4, q5, q6, q7, q8, z0, z1, z2, z3, z4, z5, z6, z7, z8⟩ := term_cells S4s.y
 have x9 := S4s.x
 rw [S4s.hX] at x9
 obtain ⟨x0, x1, x2, x3, x4, x5, x6, x7, x8, y0, y1, y2, y3, y4, y5, y6, y7, y8⟩ := term_cells x9
 clear x9
 go_wp2_with fail
 refine bodyPost_ret (results_cell_row rfl _ _ w.heap.size _ _ _ _ rfl (set9 _ _ _ _ _ _ _ _ _ S4s.x) Tryz.underlying78 rfl (by kernel_rfl)) rfl ?_
 rw [← HQ.out, HD.out]
 exact ⟨⟨none, 0, rfl, none, 0, rfl, .inl rfl⟩, (S4s.fin _ _ _ _ _ _ _ _ _).1, (S4s.fin _ _ _ _ _ _ _ _ _).2⟩

set_option maxRecDepth 100000 in
set_option maxHeartbeats 4000000 in
theorem closure_l (f r : Nat) (s : ByteArray) (l : List UInt8) (p : Nat) (w : World) (h : RdL r s l p w) (HI : ItemsP f) (hp : p ≤ 2000) (hpf : 2000 ≤ p + f) (hx : ∃ l1, byteD l = some (112, l1)) :
  Calls Tryz.prog 209 #[.pointer (some ⟨r, 0, none⟩)] w (TmPost r s (f + 1) w (funD (termD f) p l)) := by
 generalize hQ : TmPost r s (f + 1) w (funD (termD f) p l) = Q at *
 have HQ := Lib.hid hQ
 clear hQ
 obtain ⟨l1, hx⟩ := hx
 have HD : Hid (funD (termD f) p l = (byteD l1).bind fun a => (numD 2 a.2).bind fun b => (byteD b.2).bind fun c => (nameD c.2).bind fun d => (numD 4 d.2).bind fun e => (itemsD (termD f) c.1 p e.2).bind fun q => some ((tmK 4 (int := b.1) (gen := e.1) (name := d.1) (arity := a.1) (items := q.1.1), q.1.2), q.2)) := Lib.hid (by unfold funD; rw [hx, Option.bind_some]; exact (if_neg (show ¬ (112 : Nat) = 113 by decide)).trans (if_pos rfl))
 have HB := fun wx (hh : RdL r s l p wx) => byte_l r s l p wx hh
 rw [hx] at HB
 have S0 := StO.start h
 go_enter Tryz.func209, Tryz.ntmps209
 go_wp2_with (go_at_call 201; refine (HB _ (h.grown_new _)).mono ?_; rintro e v0 ⟨rfl, hr0, hg0⟩; have S00 := S0.call hr0 hg0; clear S0 hr0 hg0 HB)
 have S0 := S00
 clear S00
 have H1 := byte_l r s l1 p _ S0.rd
 rcases h1 : byteD l1 with _ | ⟨ar, l2⟩
 ·rw [h1] at H1 HD
  go_wp2_with (go_at_call 201; refine H1.mono ?_; rintro e v1 ⟨rfl, hg1⟩)
  exact ⟨rfl, by rw [← HQ.out, HD.out]; exact ⟨rfl, grownBy_trans S0.gr hg1⟩⟩
 rw [h1] at H1 HD
 rw [Option.bind_some] at HD
 go_wp2_with (go_at_call 201; refine H1.mono ?_; rintro e v1 ⟨rfl, hr1, hg1⟩; have S1 := S0.call hr1 hg1; clear S0 H1 hr1 hg1)
 have S1n := S1.new #[.int .i64 4, .int .i64 0, .int .i64 0, .string ⟨#[]⟩, .string ⟨#[]⟩, .int .i64 ar, .slice none 0 0, .string ⟨#[]⟩, .int .i64 0]
 clear S1
 generalize v1.alloc _ = u1w at *
 generalize v1.heap.size = Y at *
 have H2 := number_l r s l2 p 2 _ S1n.rd (by omega)
 rcases h2 : numD 2 l2 with _ | ⟨i2, l3⟩
 ·rw [h2] at H2 HD
  go_wp2_with (go_at_call 203; refine H2.mono ?_; rintro e v2 ⟨rfl, hg2⟩)
  exact ⟨rfl, by rw [← HQ.out, HD.out]; exact ⟨rfl, grownBy_trans S1n.gr hg2⟩⟩
 rw [h2] at H2 HD
 rw [Option.bind_some] at HD
 go_wp2_with (go_at_call 203; refine H2.mono ?_; rintro e v2 ⟨rfl, hr2, hg2⟩; have S2 := S1n.call hr2 hg2; clear S1n H2 hr2 hg2; obtain ⟨q0, q1, q2, q3, q4, q5, q6, q7, q8, z0, z1, z2, z3, z4, z5, z6, z7, z8⟩ := term_cells S2.y)
 have S2s := S2.set 1 (.int .i64 i2)
 clear S2 q0 q1 q2 q3 q4 q5 q6 q7 q8 z0 z1 z2 z3 z4 z5 z6 z7 z8
 generalize v2.setCell _ _ = u2w at *
 have H3 := byte_l r s l3 p _ S2s.rd
 rcases h3 : byteD l3 with _ | ⟨n, l4⟩
 ·rw [h3] at H3 HD
  go_wp2_with (go_at_call 201; refine H3.mono ?_; rintro e v3 ⟨rfl, hg3⟩)
  exact ⟨rfl, by rw [← HQ.out, HD.out]; exact ⟨rfl, grownBy_trans S2s.gr hg3⟩⟩
 rw [h3] at H3 HD
 rw [Option.bind_some] at HD
 go_wp2_with (go_at_call 201; refine H3.mono ?_; rintro e v3 ⟨rfl, hr3, hg3⟩; have S3 := S2s.call hr3 hg3; clear S2s H3 hr3 hg3)
 have H4 := name_l r s l4 p _ S3.rd
 rcases h4 : nameD l4 with _ | ⟨nm, l5⟩
 ·rw [h4] at H4 HD
  go_wp2_with (go_at_call 208; refine H4.mono ?_; rintro e v4 ⟨rfl, hg4⟩)
  exact ⟨rfl, by rw [← HQ.out, HD.out]; exact ⟨rfl, grownBy_trans S3.gr hg4⟩⟩
 rw [h4] at H4 HD
 rw [Option.bind_some] at HD
 go_wp2_with (go_at_call 208; refine H4.mono ?_; rintro e v4 ⟨rfl, hr4, hg4⟩; have S4 := S3.call hr4 hg4; clear S3 H4 hr4 hg4; obtain ⟨q0, q1, q2, q3, q4, q5, q6, q7, q8, z0, z1, z2, z3, z4, z5, z6, z7, z8⟩ := term_cells S4.y)
 have S4s := S4.set 3 (.string nm)
 clear S4 q0 q1 q2 q3 q4 q5 q6 q7 q8 z0 z1 z2 z3 z4 z5 z6 z7 z8
 generalize v4.setCell _ _ = u4w at *
 have H5 := number_l r s l5 p 4 _ S4s.rd (by omega)
 rcases h5 : numD 4 l5 with _ | ⟨g4, l6⟩
 ·rw [h5] at H5 HD
  go_wp2_with (go_at_call 203; refine H5.mono ?_; rintro e v5 ⟨rfl, hg5⟩)
  exact ⟨rfl, by rw [← HQ.out, HD.out]; exact ⟨rfl, grownBy_trans S4s.gr hg5⟩⟩
 rw [h5] at H5 HD
 rw [Option.bind_some] at HD
 go_wp2_with (go_at_call 203; refine H5.mono ?_; rintro e v5 ⟨rfl, hr5, hg5⟩; have S5 := S4s.call hr5 hg5; clear S4s H5 hr5 hg5; obtain ⟨q0, q1, q2, q3, q4, q5, q6, q7, q8, z0, z1, z2, z3, z4, z5, z6, z7, z8⟩ := term_cells S5.y)
 have S5s := S5.set 2 (.int .i64 g4)
 clear S5 q0 q1 q2 q3 q4 q5 q6 q7 q8 z0 z1 z2 z3 z4 z5 z6 z7 z8
 generalize v5.setCell _ _ = u5w at *
 have hn := (byteD_len h3).1
 have hyb := lt_of_row S5s.y
 have hxb := lt_of_row S5s.x
 have hgb := S5s.gr.size
 have H6 := HI r s l6 p n _ S5s.rd (by omega) (by omega) (by omega)
 rcases h6 : itemsD (termD f) n p l6 with _ | ⟨⟨ts, p2⟩, l7⟩
 ·rw [h6] at H6 HD
  go_wp2_with (go_at_call 206; refine H6.mono ?_; rintro e v6 ⟨rfl, hg6⟩)
  exact ⟨rfl, by rw [← HQ.out, HD.out]; exact ⟨rfl, grownBy_trans S5s.gr hg6⟩⟩
 rw [h6] at H6 HD
 rw [Option.bind_some] at HD
 go_upto_region 15 with (go_at_call 206; refine H6.mono ?_; rintro e v6 ⟨⟨so, c, rfl, hsl⟩, hr6, hg6⟩; have S6 := S5s.call hr6 hg6; clear S5s H6 hr6 hg6; have HSL := Lib.hid hsl; clear hsl; obtain ⟨q0, q1, q2, q3, q4, q5, q6, q7, q8, z0, z1, z2, z3, z4, z5, z6, z7, z8⟩ := term_cells S6.y)
 have HSM := Lib.hid (HSL.out.off (OffB.set Y _ 6 (.slice so ts.length c)) hyb (Nat.le_refl _))
 have HBX := Lib.hid (Nat.lt_trans S6.hY hyb)
 clear HSL
 have S6s := S6.set 6 (.slice so ts.length c)
 clear S6 q0 q1 q2 q3 q4 q5 q6 q7 q8 z0 z1 z2 z3 z4 z5 z6 z7 z8
 generalize v6.setCell _ _ = u6w at *
 have hXY := S6s.hY
 rw [S6s.hX] at hXY
 obtain ⟨q0, q1, q2, q3, q4, q5, q6, q7, q8, z0, z1, z2, z3, z4, z5, z6, z7, z8⟩ := term_cells S6s.y
 have x9 := S6s.x
 rw [S6s.hX] at x9
 obtain ⟨x0, x1, x2, x3, x4, x5, x6, x7, x8, y0, y1, y2, y3, y4, y5, y6, y7, y8⟩ := term_cells x9
 clear x9
 go_wp2_with fail
 refine bodyPost_ret (results_cell_row rfl _ _ w.heap.size _ _ _ _ rfl (set9 _ _ _ _ _ _ _ _ _ S6s.x) Tryz.underlying78 rfl (by kernel_rfl)) rfl ?_
 rw [← HQ.out, HD.out]
 exact ⟨⟨so, c, rfl, so, c, rfl, HSM.out.off (OffB.nine _ _ _ _ _ _ _ _ _ _ _) HBX.out hgb⟩, (S6s.fin _ _ _ _ _ _ _ _ _).1, (S6s.fin _ _ _ _ _ _ _ _ _).2⟩

def FunP (f : Nat) : Prop := ∀ (r : Nat) (s : ByteArray) (l : List UInt8) (p : Nat) (w : World), RdL r s l p w → p ≤ 2000 → 2000 ≤ p + f →
 Calls Tryz.prog 209 #[.pointer (some ⟨r, 0, none⟩)] w (TmPost r s (f + 1) w (funD (termD f) p l))
set_option maxRecDepth 100000 in
set_option maxHeartbeats 4000000 in
theorem fun_step (f : Nat) (HI : ItemsP f) : FunP f := by
 intro r s l p w h hp hpf
 rcases hx : byteD l with _ | ⟨n, l1⟩
 ·have HD : Hid (funD (termD f) p l = none) := Lib.hid (by unfold funD; rw [hx]; rfl)
  have HB := fun wx (hh : RdL r s l p wx) => byte_l r s l p wx hh
  rw [hx] at HB
  have S0 := StO.start h
  go_enter Tryz.func209, Tryz.ntmps209
  go_wp2_with (go_at_call 201; refine (HB _ (h.grown_new _)).mono ?_; rintro e v0 ⟨rfl, hg0⟩)
  exact ⟨rfl, by rw [HD.out]; exact ⟨rfl, grownBy_trans S0.gr hg0⟩⟩
 by_cases c1 : n = 113
 ·subst c1; exact export_l f r s l p w h ⟨l1, hx⟩
 by_cases c2 : n = 112
 ·subst c2; exact closure_l f r s l p w h HI hp hpf ⟨l1, hx⟩
 have HD : Hid (funD (termD f) p l = none) := Lib.hid (by unfold funD; rw [hx, Option.bind_some, if_neg c1, if_neg c2])
 have HB := fun wx (hh : RdL r s l p wx) => byte_l r s l p wx hh
 rw [hx] at HB
 have S0 := StO.start h
 have n1 : ((n : Int) == 113) = false := beq_eq_false_iff_ne.2 (by omega)
 have n2 : ((n : Int) == 112) = false := beq_eq_false_iff_ne.2 (by omega)
 go_enter Tryz.func209, Tryz.ntmps209
 go_wp2_with (go_at_call 201; refine (HB _ (h.grown_new _)).mono ?_; rintro e v0 ⟨rfl, hr0, hg0⟩)
 exact ⟨rfl, by rw [HD.out]; exact ⟨rfl, grownBy_trans S0.gr hg0⟩⟩
end Go.Proofs.YtghgbikmlbildaaGreatDoor
