/-
  The form of a file: the plain functions. No program in sight.
-/
import Derived.Test.YteleaiodkljigaaDoorFSumPlain
namespace Go.Proofs.YteleaiodkljigaaDoor

/-- A number as four bytes. -/
def be4 (n : Nat) : List UInt8 := [UInt8.ofNat (n / 16777216), UInt8.ofNat (n / 65536), UInt8.ofNat (n / 256), UInt8.ofNat n]
/-- A letter or a digit. -/
def isAN (b : Nat) : Bool := decide (97 ≤ b ∧ b ≤ 122) || (decide (65 ≤ b ∧ b ≤ 90) || decide (48 ≤ b ∧ b ≤ 57))
/-- The name of a chunk that may be in a list. -/
def nm (l : List UInt8) : Bool := decide (l.length = 4) && (!decide (l = [67, 83, 85, 77]) && l.all fun b => isAN b.toNat)
/-- A chunk: its name and its data. -/
abbrev Ch := ByteArray × ByteArray
/-- Each has the name of a chunk, and another than those before it. -/
def good (l : List Ch) (i : Nat) : Bool := nm l[i]!.1.data.toList && decide (∀ j, j < i → l[j]!.1.data.toList ≠ l[i]!.1.data.toList)
def dst (l : List Ch) : Bool := (List.range l.length).all (good l)
theorem dst_yes {l : List Ch} (h : ∀ i, i < l.length → good l i = true) : dst l = true := by
  unfold dst; rw [List.all_eq_true]; intro x hx; exact h x (List.mem_range.1 hx)
theorem dst_no {l : List Ch} {i : Nat} (hi : i < l.length) (h : good l i = false) : dst l = false := by
  unfold dst; rw [List.all_eq_false]; exact ⟨i, List.mem_range.2 hi, by simp [h]⟩
def pad4 (n : Nat) : Nat := (n + 3) / 4 * 4
/-- The bytes of a chunk in a file. -/
def chB (x : Ch) : List UInt8 := x.1.data.toList ++ be4 x.2.size ++ x.2.data.toList ++ List.replicate (pad4 x.2.size - x.2.size) 0
def szL (l : List Ch) : Nat := l.foldl (fun n x => n + (8 + pad4 x.2.size)) 20
def runB (z : Nat) (l : List Ch) : List UInt8 := l.foldl (fun acc x => acc ++ chB x) ([83, 72, 78, 68] ++ be4 (z - 8))
/-- The file of a list, without its last four bytes; the file. -/
def bodyB (l : List Ch) : List UInt8 := runB (szL l) l ++ ([67, 83, 85, 77] ++ be4 4)
def fileB (l : List Ch) : List UInt8 := bodyB l ++ be4 (crc (bodyB l))
def putV (l : List Ch) : List UInt8 := if dst l = true then (if 16 < l.length ∨ 16777216 < szL l then [] else fileB l) else []
def putE (l : List Ch) : Int := if dst l = true then (if 16 < l.length ∨ 16777216 < szL l then 3 else 0) else 2
/-- Few chunks, none of them great. -/
def Small (l : List Ch) : Prop := l.length ≤ 40 ∧ ∀ j, j < l.length → l[j]!.2.size ≤ 60000 ∧ l[j]!.1.size ≤ 100
theorem take_bang {l : List Ch} {k : Nat} (h : k < l.length) : l.take (k + 1) = l.take k ++ [l[k]!] := by
  rw [List.take_succ_eq_append_getElem h]; simp [h]
theorem szL_take {l : List Ch} {k : Nat} (h : k < l.length) : szL (l.take (k + 1)) = szL (l.take k) + (8 + pad4 l[k]!.2.size) := by
  rw [take_bang h]; simp [szL]
theorem runB_take {l : List Ch} {k : Nat} (z : Nat) (h : k < l.length) : runB z (l.take (k + 1)) = runB z (l.take k) ++ chB l[k]! := by
  rw [take_bang h]; simp [runB]
theorem pad4_le (n : Nat) : n ≤ pad4 n ∧ pad4 n ≤ n + 3 := by unfold pad4; omega
theorem szL_le {l : List Ch} (h : Small l) : ∀ k, k ≤ l.length → szL (l.take k) ≤ 20 + k * 60012 ∧ 20 ≤ szL (l.take k)
  | 0, _ => by simp [szL]
  | k + 1, hk => by
    have ih := szL_le h k (by omega)
    have h1 := (h.2 k (by omega)).1
    have h2 := (pad4_le l[k]!.2.size).2
    rw [szL_take (by omega)]
    omega
def num4 : List UInt8 → Nat
  | [a, b, c, d] => a.toNat * 16777216 + b.toNat * 65536 + c.toNat * 256 + d.toNat
  | _ => 0
theorem len4 {l : List UInt8} (h : l.length = 4) : ∃ a b c d, l = [a, b, c, d] := by
  rcases l with _ | ⟨a, _ | ⟨b, _ | ⟨c, _ | ⟨d, _ | ⟨e, l⟩⟩⟩⟩⟩ <;> simp at h
  exact ⟨a, b, c, d, rfl⟩
theorem num4_lt (l : List UInt8) : num4 l < 4294967296 := by
  unfold num4
  split
  · rename_i a b c d
    have := a.toNat_lt; have := b.toNat_lt; have := c.toNat_lt; have := d.toNat_lt
    omega
  · decide
/-- What the next chunk is: its name, its data, what is left. -/
def chunkP (r : List UInt8) : Option (List UInt8 × List UInt8 × List UInt8) :=
  if r.length < 8 then none
  else if r.length < 8 + pad4 (num4 ((r.drop 4).take 4)) then none
  else if ((r.drop (8 + num4 ((r.drop 4).take 4))).take (pad4 (num4 ((r.drop 4).take 4)) - num4 ((r.drop 4).take 4))).all (· == 0) = true then
    some (r.take 4, (r.drop 8).take (num4 ((r.drop 4).take 4)), r.drop (8 + pad4 (num4 ((r.drop 4).take 4))))
  else none
def CSUM : List UInt8 := [67, 83, 85, 77]
/-- The chunks up to the last one: at most n more. -/
def allP : Nat → List Ch → List UInt8 → Option (List Ch)
  | 0, _, _ => none
  | n + 1, acc, rest => match chunkP rest with
    | none => none
    | some (nm, dt, r') => if nm = CSUM then (if dt.length = 4 ∧ r' = [] then some acc else none) else allP n (acc ++ [(⟨nm.toArray⟩, ⟨dt.toArray⟩)]) r'
theorem chunkP_len {r a b c : List UInt8} (h : chunkP r = some (a, b, c)) : c.length ≤ r.length := by
  unfold chunkP at h
  split at h
  · cases h
  · split at h
    · cases h
    · split at h
      · cases h
        rw [List.length_drop]; omega
      · cases h
theorem allP_none {n : Nat} {acc : List Ch} {rest : List UInt8} (h : chunkP rest = none) : allP (n + 1) acc rest = none := by
  unfold allP; rw [h]
theorem allP_last {n : Nat} {acc : List Ch} {rest dt r' : List UInt8} (h : chunkP rest = some (CSUM, dt, r')) : allP (n + 1) acc rest = if dt.length = 4 ∧ r' = [] then some acc else none := by
  unfold allP; rw [h]; exact if_pos rfl
theorem allP_next {n : Nat} {acc : List Ch} {rest nm dt r' : List UInt8} (h : chunkP rest = some (nm, dt, r')) (hn : nm ≠ CSUM) : allP (n + 1) acc rest = allP n (acc ++ [(⟨nm.toArray⟩, ⟨dt.toArray⟩)]) r' := by
  conv => lhs; unfold allP
  rw [h]; exact if_neg hn
theorem allP_len : ∀ {n : Nat} {acc : List Ch} {rest : List UInt8} {l : List Ch}, allP n acc rest = some l → l.length ≤ acc.length + n
  | 0, _, _, _, h => by cases h
  | n + 1, acc, rest, l, h => by
    cases hc : chunkP rest with
    | none => rw [allP_none hc] at h; cases h
    | some p =>
      obtain ⟨nm, dt, r'⟩ := p
      by_cases hn : nm = CSUM
      · subst hn
        rw [allP_last hc] at h
        split at h
        · cases h; omega
        · cases h
      · rw [allP_next hc hn] at h
        have := allP_len h
        simp at this
        omega
def MAGIC : List UInt8 := [83, 72, 78, 68]
/-- The list of a file's chunks, where it has the form of one. -/
def formP (b : List UInt8) : Option (List Ch) :=
  if b.length < 8 then none
  else if b.take 4 = MAGIC ∧ num4 ((b.drop 4).take 4) = b.length - 8 then (match allP 17 [] (b.drop 8) with
    | none => none
    | some l => if dst l = true then some l else none)
  else none
def getL (b : List UInt8) : List Ch :=
  if 16777216 < b.length then [] else match formP b with
    | none => []
    | some l => if be4 (crc (b.take (b.length - 4))) = b.drop (b.length - 4) then l else []
def getE (b : List UInt8) : Int :=
  if 16777216 < b.length then 3 else match formP b with
    | none => 6
    | some _ => if be4 (crc (b.take (b.length - 4))) = b.drop (b.length - 4) then 0 else 260

end Go.Proofs.YteleaiodkljigaaDoor
