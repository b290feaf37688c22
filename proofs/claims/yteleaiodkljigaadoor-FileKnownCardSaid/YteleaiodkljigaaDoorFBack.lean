/-
  To read a file and to write it are inverse; what the reference reads: the plain laws. No program in sight.
-/
import Derived.Test.YteleaiodkljigaaDoorFDefs
namespace Go.Proofs.YteleaiodkljigaaDoor

theorem num4_be4 {n : Nat} (h : n < 4294967296) : num4 (be4 n) = n := by
  simp only [num4, be4, UInt8.toNat_ofNat']; omega
theorem be4_num4 {l : List UInt8} (h : l.length = 4) : be4 (num4 l) = l := by
  obtain ⟨a, b, c, d, rfl⟩ := len4 h
  have ha := a.toNat_lt; have hb := b.toNat_lt; have hc := c.toNat_lt; have hd := d.toNat_lt
  have e (x : UInt8) (m : Nat) (h : m % 256 = x.toNat) : UInt8.ofNat m = x := by
    apply UInt8.toNat_inj.1; rw [UInt8.toNat_ofNat']; exact h
  simp only [be4, num4]
  rw [e a _ (by omega), e b _ (by omega), e c _ (by omega), e d _ (by omega)]
theorem be4_inj {a b : Nat} (ha : a < 4294967296) (hb : b < 4294967296) (h : be4 a = be4 b) : a = b := by
  rw [← num4_be4 ha, ← num4_be4 hb, h]
theorem be4_len (n : Nat) : (be4 n).length = 4 := rfl
/-- The bytes of chunks one after the other. -/
def flat (l : List Ch) : List UInt8 := l.flatMap chB
theorem foldl_flat (l : List Ch) : ∀ acc : List UInt8, l.foldl (fun acc x => acc ++ chB x) acc = acc ++ flat l := by
  induction l with
  | nil => intro acc; simp [flat]
  | cons x l ih => intro acc; rw [List.foldl_cons, ih]; simp [flat]
theorem runB_flat (z : Nat) (l : List Ch) : runB z l = MAGIC ++ be4 (z - 8) ++ flat l := foldl_flat l _
/-- A chunk with a name of four bytes that is not the last one's, and data whose length four bytes tell. -/
def Fit (x : Ch) : Prop := x.1.size = 4 ∧ x.1.data.toList ≠ CSUM ∧ x.2.size < 4294967296
theorem chB_len {x : Ch} (h : x.1.size = 4) : (chB x).length = 8 + pad4 x.2.size := by
  have e1 : x.1.data.toList.length = x.1.size := Array.length_toList
  have e2 : x.2.data.toList.length = x.2.size := Array.length_toList
  have := pad4_le x.2.size
  simp only [chB, List.length_append, List.length_replicate, be4_len]
  omega
theorem foldl_sz (l : List Ch) (h : ∀ x, x ∈ l → x.1.size = 4) : ∀ n : Nat, l.foldl (fun n x => n + (8 + pad4 x.2.size)) n = n + (flat l).length := by
  induction l with
  | nil => intro n; simp [flat]
  | cons x l ih =>
    intro n
    rw [List.foldl_cons, ih (fun y hy => h y (List.mem_cons_of_mem _ hy))]
    have := chB_len (h x List.mem_cons_self)
    simp only [flat, List.flatMap_cons, List.length_append]
    omega
theorem szL_flat {l : List Ch} (h : ∀ x, x ∈ l → x.1.size = 4) : szL l = 20 + (flat l).length := foldl_sz l h 20
theorem bodyB_len {l : List Ch} (h : ∀ x, x ∈ l → x.1.size = 4) : (bodyB l).length = szL l - 4 := by
  rw [bodyB, runB_flat, szL_flat h]
  simp only [List.length_append, be4_len, MAGIC, List.length_cons, List.length_nil]
  omega
theorem zeros_of {l : List UInt8} (h : l.all (· == 0) = true) : l = List.replicate l.length 0 := by
  apply List.eq_replicate_iff.2 ⟨rfl, ?_⟩
  intro b hb
  have := List.all_eq_true.1 h b hb
  exact eq_of_beq this
theorem zeros_all (n : Nat) : (List.replicate n (0 : UInt8)).all (· == 0) = true := by
  rw [List.all_eq_true]; intro b hb; rw [List.eq_of_mem_replicate hb]; rfl
theorem chunkP_app {nm dt : List UInt8} (r : List UInt8) (h4 : nm.length = 4) (hd : dt.length < 4294967296) :
    chunkP (nm ++ be4 dt.length ++ dt ++ List.replicate (pad4 dt.length - dt.length) 0 ++ r) = some (nm, dt, r) := by
  have hp := pad4_le dt.length
  generalize hz : List.replicate (pad4 dt.length - dt.length) (0 : UInt8) = z
  have hzl : z.length = pad4 dt.length - dt.length := by rw [← hz]; simp
  have hza : z.all (· == 0) = true := by rw [← hz]; exact zeros_all _
  have e : nm ++ be4 dt.length ++ dt ++ z ++ r = nm ++ (be4 dt.length ++ (dt ++ (z ++ r))) := by simp
  have d4 : (nm ++ (be4 dt.length ++ (dt ++ (z ++ r)))).drop 4 = be4 dt.length ++ (dt ++ (z ++ r)) := List.drop_left' h4
  have t4 : (nm ++ (be4 dt.length ++ (dt ++ (z ++ r)))).take 4 = nm := List.take_left' h4
  have d8 : (nm ++ (be4 dt.length ++ (dt ++ (z ++ r)))).drop 8 = dt ++ (z ++ r) := by
    rw [show 8 = 4 + 4 from rfl, ← List.drop_drop, d4]; exact List.drop_left' (be4_len _)
  have tn : ((nm ++ (be4 dt.length ++ (dt ++ (z ++ r)))).drop 4).take 4 = be4 dt.length := by rw [d4]; exact List.take_left' (be4_len _)
  have dn : (nm ++ (be4 dt.length ++ (dt ++ (z ++ r)))).drop (8 + dt.length) = z ++ r := by
    rw [← List.drop_drop, d8]; exact List.drop_left' rfl
  have dp : (nm ++ (be4 dt.length ++ (dt ++ (z ++ r)))).drop (8 + pad4 dt.length) = r := by
    rw [show 8 + pad4 dt.length = (8 + dt.length) + (pad4 dt.length - dt.length) by omega, ← List.drop_drop, dn]; exact List.drop_left' hzl
  have hlen : (nm ++ (be4 dt.length ++ (dt ++ (z ++ r)))).length = 8 + pad4 dt.length + r.length := by
    simp only [List.length_append, be4_len]; omega
  rw [e]
  unfold chunkP
  rw [if_neg (by omega), tn, num4_be4 hd, if_neg (by omega), dn, t4, dp, d8, List.take_left' hzl, if_pos hza, List.take_left' rfl]
theorem chunkP_inv {r nm dt r' : List UInt8} (h : chunkP r = some (nm, dt, r')) :
    r = nm ++ be4 dt.length ++ dt ++ List.replicate (pad4 dt.length - dt.length) 0 ++ r' ∧ nm.length = 4 ∧ dt.length < 4294967296 := by
  unfold chunkP at h
  split at h
  · cases h
  · rename_i h8
    split at h
    · cases h
    · rename_i hp
      split at h
      · rename_i hz
        cases h
        generalize hn : num4 ((r.drop 4).take 4) = n at *
        have hnl : n < 4294967296 := by rw [← hn]; exact num4_lt _
        have hpn := pad4_le n
        have hb : be4 n = (r.drop 4).take 4 := by rw [← hn]; exact be4_num4 (by rw [List.length_take, List.length_drop]; omega)
        have hdl : ((r.drop 8).take n).length = n := by rw [List.length_take, List.length_drop]; omega
        have hz2 := zeros_of hz
        have hzl : ((r.drop (8 + n)).take (pad4 n - n)).length = pad4 n - n := by rw [List.length_take, List.length_drop]; omega
        rw [hzl] at hz2
        rw [hdl, hb, ← hz2]
        refine ⟨?_, by rw [List.length_take]; omega, hnl⟩
        have e4 : r.drop (8 + pad4 n) = (r.drop (8 + n)).drop (pad4 n - n) := by rw [List.drop_drop]; congr 1; omega
        have e3 : r.drop (8 + n) = (r.drop 8).drop n := by rw [List.drop_drop]
        have e2 : r.drop 8 = (r.drop 4).drop 4 := by rw [List.drop_drop]
        rw [List.append_assoc, e4, List.take_append_drop, e3, List.append_assoc, List.take_append_drop, e2, List.append_assoc, List.take_append_drop, List.take_append_drop]
      · cases h
theorem eta_chunk (x : Ch) : ((⟨x.1.data.toList.toArray⟩, ⟨x.2.data.toList.toArray⟩) : Ch) = x := by
  rcases x with ⟨⟨a⟩, ⟨b⟩⟩; simp
theorem csum_len : CSUM.length = 4 := rfl
theorem pad4_four : pad4 4 - 4 = 0 := rfl
theorem last_chunk {t : List UInt8} (h : t.length = 4) : chunkP (CSUM ++ be4 4 ++ t) = some (CSUM, t, []) := by
  have := chunkP_app (nm := CSUM) (dt := t) [] csum_len (by omega)
  rw [h, pad4_four] at this
  simpa using this
theorem allP_app (t : List UInt8) (ht : t.length = 4) : ∀ (l acc : List Ch) (n : Nat), l.length < n → (∀ x, x ∈ l → Fit x) → allP n acc (flat l ++ (CSUM ++ be4 4 ++ t)) = some (acc ++ l)
  | [], acc, n + 1, _, _ => by
    rw [show flat [] ++ (CSUM ++ be4 4 ++ t) = CSUM ++ be4 4 ++ t from rfl, allP_last (last_chunk ht), if_pos ⟨ht, rfl⟩, List.append_nil]
  | x :: l, acc, n + 1, hn, hf => by
    obtain ⟨f1, f2, f3⟩ := hf x List.mem_cons_self
    have e1 : x.1.data.toList.length = x.1.size := Array.length_toList
    have e2 : x.2.data.toList.length = x.2.size := Array.length_toList
    have hc := chunkP_app (nm := x.1.data.toList) (dt := x.2.data.toList) (flat l ++ (CSUM ++ be4 4 ++ t)) (by omega) (by omega)
    rw [e2] at hc
    have ef : flat (x :: l) ++ (CSUM ++ be4 4 ++ t) = chB x ++ (flat l ++ (CSUM ++ be4 4 ++ t)) := by simp [flat]
    rw [ef, show chB x = x.1.data.toList ++ be4 x.2.size ++ x.2.data.toList ++ List.replicate (pad4 x.2.size - x.2.size) 0 from rfl, allP_next hc f2, eta_chunk,
      allP_app t ht l (acc ++ [x]) n (by simpa using hn) (fun y hy => hf y (List.mem_cons_of_mem _ hy))]
    simp
theorem allP_inv : ∀ (n : Nat) (acc : List Ch) (rest : List UInt8) (l : List Ch), allP n acc rest = some l →
    ∃ l' t, l = acc ++ l' ∧ rest = flat l' ++ (CSUM ++ be4 4 ++ t) ∧ t.length = 4 ∧ l'.length < n ∧ ∀ x, x ∈ l' → Fit x
  | 0, _, _, _, h => by cases h
  | n + 1, acc, rest, l, h => by
    cases hc : chunkP rest with
    | none => rw [allP_none hc] at h; cases h
    | some p =>
      obtain ⟨nm, dt, r'⟩ := p
      obtain ⟨hr, hnl, hdl⟩ := chunkP_inv hc
      by_cases hn : nm = CSUM
      · subst hn
        rw [allP_last hc] at h
        by_cases c : dt.length = 4 ∧ r' = []
        · rw [if_pos c] at h
          cases h
          obtain ⟨c1, rfl⟩ := c
          refine ⟨[], dt, by simp, ?_, c1, Nat.zero_lt_succ _, fun x hx => absurd hx List.not_mem_nil⟩
          rw [hr, c1, pad4_four]
          simp [flat]
        · rw [if_neg c] at h; cases h
      · rw [allP_next hc hn] at h
        obtain ⟨l', t, rfl, hr', ht, hl, hf⟩ := allP_inv n _ _ _ h
        refine ⟨(⟨nm.toArray⟩, ⟨dt.toArray⟩) :: l', t, by simp, ?_, ht, by simpa using hl, ?_⟩
        · have hds : (⟨dt.toArray⟩ : ByteArray).size = dt.length := by show dt.toArray.size = _; simp
          rw [hr, hr']
          simp [flat, chB, hds]
        · intro x hx
          rcases List.mem_cons.1 hx with rfl | hx
          · exact ⟨by show nm.toArray.size = 4; simpa using hnl, by simpa using hn, by show dt.toArray.size < _; simpa using hdl⟩
          · exact hf x hx
theorem flat_len (l : List Ch) (x : Ch) (h : x ∈ l) : x.2.size ≤ (flat l).length := by
  induction l with
  | nil => exact absurd h List.not_mem_nil
  | cons y l ih =>
    have e : (flat (y :: l)).length = (chB y).length + (flat l).length := by simp [flat]
    rcases List.mem_cons.1 h with rfl | h
    · have e2 : x.2.data.toList.length = x.2.size := Array.length_toList
      have : (chB x).length = x.1.data.toList.length + 4 + x.2.size + (pad4 x.2.size - x.2.size) := by
        simp only [chB, List.length_append, List.length_replicate, be4_len]; omega
      omega
    · have := ih h; omega
theorem dst_names {l : List Ch} (h : dst l = true) : ∀ x, x ∈ l → x.1.size = 4 ∧ x.1.data.toList ≠ CSUM := by
  intro x hx
  obtain ⟨i, hi, rfl⟩ := List.getElem_of_mem hx
  have hg := List.all_eq_true.1 h i (List.mem_range.2 hi)
  unfold good at hg
  rw [Bool.and_eq_true] at hg
  have hn := hg.1
  have e : l[i]! = l[i] := by simp [hi]
  rw [e] at hn
  unfold nm at hn
  simp only [Bool.and_eq_true, decide_eq_true_eq, Bool.not_eq_true', decide_eq_false_iff_not] at hn
  exact ⟨by have := hn.1; rw [Array.length_toList] at this; exact this, hn.2.1⟩

/-- What is written is read. -/
theorem form_of_body {l : List Ch} {t : List UInt8} (hd : dst l = true) (hl : l.length ≤ 16) (hz : szL l ≤ 16777216) (ht : t.length = 4) : formP (bodyB l ++ t) = some l := by
  have hnm := dst_names hd
  have h4 : ∀ x, x ∈ l → x.1.size = 4 := fun x hx => (hnm x hx).1
  have hsz := szL_flat h4
  have hfit : ∀ x, x ∈ l → Fit x := fun x hx => ⟨(hnm x hx).1, (hnm x hx).2, by have := flat_len l x hx; omega⟩
  have e : bodyB l ++ t = MAGIC ++ (be4 (szL l - 8) ++ (flat l ++ (CSUM ++ be4 4 ++ t))) := by
    rw [bodyB, runB_flat]; simp [CSUM]
  have hlen : (bodyB l ++ t).length = szL l := by rw [List.length_append, bodyB_len h4]; omega
  have t4 : (bodyB l ++ t).take 4 = MAGIC := by rw [e]; exact List.take_left' rfl
  have d4 : (bodyB l ++ t).drop 4 = be4 (szL l - 8) ++ (flat l ++ (CSUM ++ be4 4 ++ t)) := by rw [e]; exact List.drop_left' rfl
  have d8 : (bodyB l ++ t).drop 8 = flat l ++ (CSUM ++ be4 4 ++ t) := by
    rw [show 8 = 4 + 4 from rfl, ← List.drop_drop, d4]; exact List.drop_left' (be4_len _)
  have n4 : num4 (((bodyB l ++ t).drop 4).take 4) = szL l - 8 := by rw [d4, List.take_left' (be4_len _)]; exact num4_be4 (by omega)
  unfold formP
  rw [if_neg (by omega), if_pos ⟨t4, by rw [n4, hlen]⟩, d8, allP_app t ht l [] 17 (by omega) hfit]
  exact if_pos hd
/-- What is read is what was written. -/
theorem body_of_form {b : List UInt8} {l : List Ch} (h : formP b = some l) (hb : b.length ≤ 16777216) : dst l = true ∧ l.length ≤ 16 ∧ szL l = b.length ∧ bodyB l = b.take (b.length - 4) ∧ 20 ≤ b.length := by
  unfold formP at h
  split at h
  · cases h
  · rename_i h8
    split at h
    · rename_i hc
      obtain ⟨hm, hn⟩ := hc
      cases ha : allP 17 [] (b.drop 8) with
      | none => rw [ha] at h; cases h
      | some l2 =>
        rw [ha] at h
        by_cases hd : dst l2 = true
        · have h' : (if dst l2 = true then some l2 else none) = some l := h
          rw [if_pos hd] at h'
          obtain ⟨l', t, hl, hr, ht, hn17, hf⟩ := allP_inv _ _ _ _ ha
          rw [List.nil_append] at hl
          cases h'
          subst hl
          have h4 : ∀ x, x ∈ l → x.1.size = 4 := fun x hx => (hf x hx).1
          have hsz := szL_flat h4
          have hlen := congrArg List.length hr
          simp only [List.length_append, List.length_drop, csum_len, be4_len, ht] at hlen
          have hszb : szL l = b.length := by omega
          have hbe : be4 (szL l - 8) = (b.drop 4).take 4 := by rw [hszb, ← hn]; exact be4_num4 (by rw [List.length_take, List.length_drop]; omega)
          have e : b = bodyB l ++ t := by
            rw [bodyB, runB_flat, hbe, ← hm]
            have e1 : b = b.take 4 ++ ((b.drop 4).take 4 ++ b.drop 8) := by
              have : b.drop 8 = (b.drop 4).drop 4 := by rw [List.drop_drop]
              rw [this, List.take_append_drop, List.take_append_drop]
            conv => lhs; rw [e1, hr]
            simp [CSUM]
          refine ⟨hd, by omega, hszb, ?_, by omega⟩
          have hl2 := bodyB_len h4
          conv => rhs; rw [e]
          have : b.length - 4 = (bodyB l).length := by omega
          rw [← e, this, e]
          simp
        · have h' : (if dst l2 = true then some l2 else none) = some l := h
          rw [if_neg hd] at h'; cases h'
    · cases h

/-! ### What the reference reads -/
/-- The reference's chunks: at most f of them. -/
def chunksR : Nat → List UInt8 → List Ch
  | 0, _ => []
  | f + 1, r => if r.length < 8 ∨ r.take 4 = CSUM then [] else
    if r.length - 8 < num4 ((r.drop 4).take 4) then [] else
      (⟨(r.take 4).toArray⟩, ⟨((r.drop 8).take (num4 ((r.drop 4).take 4))).toArray⟩) :: chunksR f (r.drop (8 + pad4 (num4 ((r.drop 4).take 4))))
theorem chunksR_nil {f : Nat} {r : List UInt8} (h : r.length < 8 ∨ r.take 4 = CSUM) : chunksR f r = [] := by
  cases f with
  | zero => rfl
  | succ f => unfold chunksR; rw [if_pos h]
theorem chunksR_app (t : List UInt8) : ∀ (l : List Ch) (f : Nat), l.length ≤ f → (∀ x, x ∈ l → Fit x) → chunksR f (flat l ++ (CSUM ++ t)) = l
  | [], f, _, _ => chunksR_nil (.inr (show List.take 4 (CSUM ++ t) = CSUM from List.take_left' rfl))
  | x :: l, f + 1, hn, hf => by
    obtain ⟨f1, f2, f3⟩ := hf x List.mem_cons_self
    have e1 : x.1.data.toList.length = x.1.size := Array.length_toList
    have e2 : x.2.data.toList.length = x.2.size := Array.length_toList
    have ef : flat (x :: l) ++ (CSUM ++ t) = chB x ++ (flat l ++ (CSUM ++ t)) := by simp [flat]
    rw [ef]
    have hl := chB_len f1
    have hp := pad4_le x.2.size
    generalize hR : flat l ++ (CSUM ++ t) = R
    have e : chB x ++ R = x.1.data.toList ++ (be4 x.2.size ++ (x.2.data.toList ++ (List.replicate (pad4 x.2.size - x.2.size) 0 ++ R))) := by simp [chB]
    have t4 : (chB x ++ R).take 4 = x.1.data.toList := by rw [e]; exact List.take_left' (by omega)
    have d4 : (chB x ++ R).drop 4 = be4 x.2.size ++ (x.2.data.toList ++ (List.replicate (pad4 x.2.size - x.2.size) 0 ++ R)) := by rw [e]; exact List.drop_left' (by omega)
    have d8 : (chB x ++ R).drop 8 = x.2.data.toList ++ (List.replicate (pad4 x.2.size - x.2.size) 0 ++ R) := by
      rw [show 8 = 4 + 4 from rfl, ← List.drop_drop, d4]; exact List.drop_left' (be4_len _)
    have dp : (chB x ++ R).drop (8 + pad4 x.2.size) = R := List.drop_left' hl
    have n4 : num4 (((chB x ++ R).drop 4).take 4) = x.2.size := by rw [d4, List.take_left' (be4_len _)]; exact num4_be4 f3
    have hlen : (chB x ++ R).length = 8 + pad4 x.2.size + R.length := by rw [List.length_append, hl]
    unfold chunksR
    rw [n4, if_neg (by rw [t4]; exact fun h => h.elim (fun h => by omega) f2), if_neg (by omega), t4, d8, dp, List.take_left' e2, eta_chunk, ← hR,
      chunksR_app t l f (by simpa using hn) (fun y hy => hf y (List.mem_cons_of_mem _ hy))]
/-- What the reference's Get makes of a string. -/
def rgL (b : List UInt8) : List Ch :=
  if 16777216 < b.length then [] else if b.length < 4 then [] else
    if 16 < (chunksR b.length (b.drop 8)).length ∨ dst (chunksR b.length (b.drop 8)) = false ∨ bodyB (chunksR b.length (b.drop 8)) ≠ b.take (b.length - 4) then [] else
      if be4 (crc (bodyB (chunksR b.length (b.drop 8)))) = b.drop (b.length - 4) then chunksR b.length (b.drop 8) else []
def rgE (b : List UInt8) : Int :=
  if 16777216 < b.length then 3 else if b.length < 4 then 6 else
    if 16 < (chunksR b.length (b.drop 8)).length ∨ dst (chunksR b.length (b.drop 8)) = false ∨ bodyB (chunksR b.length (b.drop 8)) ≠ b.take (b.length - 4) then 6 else
      if be4 (crc (bodyB (chunksR b.length (b.drop 8)))) = b.drop (b.length - 4) then 0 else 260
theorem rget_eq (b : List UInt8) : rgL b = getL b ∧ rgE b = getE b := by
  unfold rgL rgE getL getE
  by_cases hb : 16777216 < b.length
  · rw [if_pos hb, if_pos hb, if_pos hb, if_pos hb]; exact ⟨rfl, rfl⟩
  · rw [if_neg hb, if_neg hb, if_neg hb, if_neg hb]
    by_cases h4 : b.length < 4
    · have : formP b = none := if_pos (by omega)
      rw [if_pos h4, if_pos h4, this]; exact ⟨rfl, rfl⟩
    · rw [if_neg h4, if_neg h4]
      cases hf : formP b with
      | some l =>
        obtain ⟨hd, hl, hs, hbo, h20⟩ := body_of_form hf (by omega)
        have hnm := dst_names hd
        have h4' : ∀ x, x ∈ l → x.1.size = 4 := fun x hx => (hnm x hx).1
        have hsz := szL_flat h4'
        have hfit : ∀ x, x ∈ l → Fit x := fun x hx => ⟨(hnm x hx).1, (hnm x hx).2, by have := flat_len l x hx; omega⟩
        have hch : chunksR b.length (b.drop 8) = l := by
          have e : b = bodyB l ++ b.drop (b.length - 4) := by rw [hbo, List.take_append_drop]
          have e8 : b.drop 8 = flat l ++ (CSUM ++ (be4 4 ++ b.drop (b.length - 4))) := by
            generalize b.drop (b.length - 4) = t at e
            have e2 : b = (MAGIC ++ be4 (szL l - 8)) ++ (flat l ++ (CSUM ++ (be4 4 ++ t))) := by rw [e, bodyB, runB_flat]; simp [CSUM]
            rw [e2]; exact List.drop_left' rfl
          rw [e8]; exact chunksR_app _ l _ (by omega) hfit
        have hneg : ¬ (16 < l.length ∨ dst l = false ∨ bodyB l ≠ b.take (b.length - 4)) := by
          rw [hd]; exact fun h => h.elim (fun h => by omega) (fun h => h.elim (fun h => by cases h) (fun h => h hbo))
        rw [hch, if_neg hneg, if_neg hneg, hbo]
        exact ⟨rfl, rfl⟩
      | none =>
        generalize chunksR b.length (b.drop 8) = l
        have hc : 16 < l.length ∨ dst l = false ∨ bodyB l ≠ b.take (b.length - 4) := by
          by_cases c1 : 16 < l.length
          · exact .inl c1
          · cases hd : dst l with
            | false => exact .inr (.inl rfl)
            | true =>
              refine .inr (.inr (fun hbo => ?_))
              have hl2 := bodyB_len (fun x hx => (dst_names hd x hx).1)
              have hsz := szL_flat (fun x hx => (dst_names hd x hx).1)
              have hlen := congrArg List.length hbo
              rw [List.length_take] at hlen
              have e : b = bodyB l ++ b.drop (b.length - 4) := by rw [hbo, List.take_append_drop]
              have := form_of_body (t := b.drop (b.length - 4)) hd (by omega) (by omega) (by rw [List.length_drop]; omega)
              rw [← e, hf] at this
              cases this
        rw [if_pos hc, if_pos hc]
        exact ⟨rfl, rfl⟩
/-! ### Get and Put -/
theorem get_put {l : List Ch} (h : putE l = 0) : getL (putV l) = l ∧ getE (putV l) = 0 ∧ (putV l).length = szL l ∧ szL l ≤ 16777216 ∧ 20 ≤ szL l := by
  unfold putE at h
  by_cases hd : dst l = true
  · rw [if_pos hd] at h
    by_cases hc : 16 < l.length ∨ 16777216 < szL l
    · rw [if_pos hc] at h; cases h
    · have hl : l.length ≤ 16 := by omega
      have hz : szL l ≤ 16777216 := by omega
      have hv : putV l = bodyB l ++ be4 (crc (bodyB l)) := by unfold putV; rw [if_pos hd, if_neg hc]; rfl
      have h4 : ∀ x, x ∈ l → x.1.size = 4 := fun x hx => (dst_names hd x hx).1
      have hbl := bodyB_len h4
      have hsz := szL_flat h4
      have hf := form_of_body (t := be4 (crc (bodyB l))) hd hl hz (be4_len _)
      rw [← hv] at hf
      have hlen : (putV l).length = szL l := by rw [hv, List.length_append, be4_len]; omega
      have ht : (putV l).take ((putV l).length - 4) = bodyB l := by rw [hlen, hv]; exact List.take_left' (by omega)
      have hdr : (putV l).drop ((putV l).length - 4) = be4 (crc (bodyB l)) := by rw [hlen, hv]; exact List.drop_left' (by omega)
      unfold getL getE
      rw [if_neg (by omega), if_neg (by omega), hf, ht, hdr]
      exact ⟨if_pos rfl, if_pos rfl, hlen, hz, by omega⟩
  · rw [if_neg hd] at h; cases h
theorem put_get {b : List UInt8} (h : getE b = 0) : putV (getL b) = b ∧ putE (getL b) = 0 := by
  unfold getE at h
  unfold getL
  by_cases hb : 16777216 < b.length
  · rw [if_pos hb] at h; cases h
  · rw [if_neg hb] at h ⊢
    cases hf : formP b with
    | none => rw [hf] at h; cases h
    | some l =>
      rw [hf] at h
      obtain ⟨hd, hl, hs, hbo, h20⟩ := body_of_form hf (by omega)
      have h' : (if be4 (crc (b.take (b.length - 4))) = b.drop (b.length - 4) then (0 : Int) else 260) = 0 := h
      by_cases hc : be4 (crc (b.take (b.length - 4))) = b.drop (b.length - 4)
      · show putV (if be4 (crc (b.take (b.length - 4))) = b.drop (b.length - 4) then l else []) = b ∧ putE (if be4 (crc (b.take (b.length - 4))) = b.drop (b.length - 4) then l else []) = 0
        rw [if_pos hc]
        unfold putV putE
        rw [if_pos hd, if_pos hd, if_neg (by omega), if_neg (by omega), fileB, hbo, hc, List.take_append_drop]
        exact ⟨rfl, rfl⟩
      · rw [if_neg hc] at h'; cases h'
theorem get_bad {b : List UInt8} (h : getE b ≠ 0) : getL b = [] := by
  unfold getE at h
  unfold getL
  by_cases hb : 16777216 < b.length
  · rw [if_pos hb]
  · rw [if_neg hb] at h ⊢
    cases hf : formP b with
    | none => rfl
    | some l =>
      rw [hf] at h
      have h' : (if be4 (crc (b.take (b.length - 4))) = b.drop (b.length - 4) then (0 : Int) else 260) ≠ 0 := h
      show (if be4 (crc (b.take (b.length - 4))) = b.drop (b.length - 4) then l else []) = []
      by_cases hc : be4 (crc (b.take (b.length - 4))) = b.drop (b.length - 4)
      · rw [if_pos hc] at h'; exact absurd rfl h'
      · rw [if_neg hc]
theorem getE_or (b : List UInt8) (h : b.length ≤ 16777216) : getE b = 0 ∨ getE b = 6 ∨ getE b = 260 := by
  unfold getE
  rw [if_neg (by omega)]
  cases formP b with
  | none => exact .inr (.inl rfl)
  | some l =>
    show (if be4 (crc (b.take (b.length - 4))) = b.drop (b.length - 4) then (0 : Int) else 260) = 0 ∨ _ ∨ (if be4 (crc (b.take (b.length - 4))) = b.drop (b.length - 4) then (0 : Int) else 260) = 260
    split
    · exact .inl rfl
    · exact .inr (.inr rfl)
/-- What is got has a checksum that fits, and the length that its head says. -/
theorem get_ok {b : List UInt8} (h : getE b = 0) : be4 (crc (b.take (b.length - 4))) = b.drop (b.length - 4) ∧ 8 ≤ b.length ∧ num4 ((b.drop 4).take 4) = b.length - 8 := by
  unfold getE at h
  by_cases hb : 16777216 < b.length
  · rw [if_pos hb] at h; cases h
  · rw [if_neg hb] at h
    cases hf : formP b with
    | none => rw [hf] at h; cases h
    | some l =>
      rw [hf] at h
      have h' : (if be4 (crc (b.take (b.length - 4))) = b.drop (b.length - 4) then (0 : Int) else 260) = 0 := h
      by_cases hc : be4 (crc (b.take (b.length - 4))) = b.drop (b.length - 4)
      · refine ⟨hc, ?_⟩
        unfold formP at hf
        split at hf
        · cases hf
        · split at hf
          · rename_i h8 hh; exact ⟨by omega, hh.2⟩
          · cases hf
      · rw [if_neg hc] at h'; cases h'

end Go.Proofs.YteleaiodkljigaaDoor
