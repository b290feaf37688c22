/-
  Classes: the document's way and the program's are one. No program in sight.
-/
import Derived.Test.YthmpobimmbmddaaGreatDoorCClasses
import Derived.Test.YthmpobimmbmddaaGreatDoorCNames
namespace Go.Proofs.YthmpobimmbmddaaGreatDoor
open Go.RowKit

/-! ### A word between blanks -/
def Tw (ws : List (List UInt8)) : List UInt8 := 32 :: ws.flatMap fun w => w ++ [32]
theorem Tw_cons (w : List UInt8) (ws : List (List UInt8)) : Tw (w :: ws) = 32 :: (w ++ Tw ws) := by
  unfold Tw; rw [List.flatMap_cons, List.append_assoc]; rfl
theorem word_eq : ∀ {x w b c : List UInt8}, 32 ∉ x → 32 ∉ w → x ++ 32 :: b = w ++ 32 :: c → x = w
  | [], [], _, _, _, _, _ => rfl
  | [], y :: w, _, _, _, hw, h => by
    injection h with h1 _
    subst h1
    exact absurd List.mem_cons_self hw
  | y :: x, [], _, _, hx, _, h => by
    injection h with h1 _
    subst h1
    exact absurd List.mem_cons_self hx
  | y :: x, z :: w, b, c, hx, hw, h => by
    injection h with h1 h2
    subst h1
    rw [word_eq (fun h => hx (List.mem_cons_of_mem _ h)) (fun h => hw (List.mem_cons_of_mem _ h)) h2]
theorem infix_word {x : List UInt8} (hx : 32 ∉ x) : ∀ (ws : List (List UInt8)), (∀ w ∈ ws, 32 ∉ w) → ((32 :: (x ++ [32])) <:+: Tw ws ↔ x ∈ ws)
  | [], _ => by
    constructor
    · rintro ⟨a, b, h⟩
      have := congrArg List.length h
      simp [Tw] at this
      omega
    · intro h; cases h
  | w :: ws, hws => by
    have ih := infix_word hx ws (fun v hv => hws v (List.mem_cons_of_mem _ hv))
    have hw := hws w List.mem_cons_self
    rw [Tw_cons]
    constructor
    · rintro ⟨a, b, h⟩
      cases a with
      | nil =>
        have h2 : x ++ 32 :: b = w ++ 32 :: ws.flatMap (fun w => w ++ [32]) := by
          simp only [List.nil_append, List.cons_append, List.append_assoc, List.cons.injEq, true_and] at h
          exact h
        rw [word_eq hx hw h2]
        exact List.mem_cons_self
      | cons y a =>
        have h2 : a ++ (32 :: (x ++ [32]) ++ b) = w ++ Tw ws := by
          rw [List.cons_append, List.cons_append] at h
          injection h with _ h
          rw [← h, List.append_assoc]
        rcases List.append_eq_append_iff.1 h2 with ⟨c, h3, h4⟩ | ⟨c, h3, h4⟩
        · cases c with
          | nil =>
            rw [List.append_nil] at h3
            refine List.mem_cons_of_mem _ (ih.1 ⟨[], b, ?_⟩)
            rw [List.nil_append, h4]; rfl
          | cons z c =>
            rw [List.cons_append, List.cons_append] at h4
            injection h4 with h5 _
            subst h5
            exact absurd (by rw [h3]; exact List.mem_append_right _ List.mem_cons_self) hw
        · exact List.mem_cons_of_mem _ (ih.1 ⟨c, b, by rw [h4, List.append_assoc]⟩)
    · intro h
      rcases List.mem_cons.1 h with rfl | h
      · exact ⟨[], ws.flatMap (fun w => w ++ [32]), by simp [Tw]⟩
      · obtain ⟨a, b, e⟩ := ih.2 h
        exact ⟨32 :: (w ++ a), b, by rw [← e]; simp⟩
/-- Does a text contain another one, place by place? -/
def holdsB (s p : List UInt8) : Bool := decide (∃ i, i < s.length + 1 ∧ i + p.length ≤ s.length ∧ (s.drop i).take p.length = p)
theorem holdsB_infix (s p : List UInt8) : holdsB s p = decide (p <:+: s) := by
  unfold holdsB
  rw [decide_eq_decide]
  constructor
  · rintro ⟨i, _, _, h⟩
    exact ⟨s.take i, (s.drop i).drop p.length, by
        rw [← h, List.length_take]; rw [List.append_assoc]; conv => rhs; rw [← List.take_append_drop i s]
        congr 1
        have : min p.length (s.drop i).length = p.length := by
          have := congrArg List.length h
          rw [List.length_take] at this; exact this
        rw [this]; exact List.take_append_drop _ _⟩
  · rintro ⟨a, b, rfl⟩
    refine ⟨a.length, by simp only [List.length_append]; omega, by simp only [List.length_append]; omega, ?_⟩
    rw [List.append_assoc, List.drop_left, List.take_left]

/-! ### The classes -/
def wordsR (c : Nat) : List (List UInt8) := if c = 1 then words1 else if c = 2 then words2 else if c = 3 then words3 else if c = 4 then words4 else []
def namesR (c : Nat) : List UInt8 := Tw (wordsR c)
def wordR (s : ByteArray) (n : Nat) : List UInt8 := s.data.toList ++ [47, UInt8.ofNat (48 + n)]
/-- The class of a name with an arity, as the document says it. -/
def classR (s : ByteArray) (n : Int) : Int :=
  if nameB s = true ∧ 0 ≤ n ∧ n ≤ 9 then
    if wordR s n.toNat ∈ words1 then 1 else if wordR s n.toNat ∈ words2 then 2 else if wordR s n.toNat ∈ words3 then 3 else if wordR s n.toNat ∈ words4 then 4 else 0
  else 0
theorem tabAll_eq {c : Int} : ∀ (ws : List (List UInt8)) (t : List UInt8 → Int) (k : List UInt8), tabAll c ws t k = if k ∈ ws then c else t k
  | [], t, k => by rw [if_neg (by simp)]; rfl
  | x :: ws, t, k => by
    show tabAll c ws (tabPut t x c) k = _
    rw [tabAll_eq ws _ k]
    by_cases h : k ∈ ws
    · rw [if_pos h, if_pos (List.mem_cons_of_mem _ h)]
    · rw [if_neg h]
      unfold tabPut
      by_cases e : k = x
      · rw [if_pos e, if_pos (by rw [e]; exact List.mem_cons_self)]
      · rw [if_neg e, if_neg (fun hm => (List.mem_cons.1 hm).elim e h)]
theorem words_apart : ((words1.all fun x => !(words2.elem x) && !(words3.elem x) && !(words4.elem x)) && (words2.all fun x => !(words3.elem x) && !(words4.elem x)) && (words3.all fun x => !(words4.elem x))) = true := by decide +kernel
/-- A name, a slash, a digit. -/
def formW (w : List UInt8) : Bool :=
  match w.reverse with
  | d :: 47 :: r => decide (48 ≤ d.toNat ∧ d.toNat ≤ 57) && (decide (47 ∉ r) && nameB ⟨r.reverse.toArray⟩)
  | _ => false
theorem words_form : (words1 ++ (words2 ++ (words3 ++ words4))).all formW = true := by decide +kernel
theorem words_noblank : (words1 ++ (words2 ++ (words3 ++ words4))).all (fun w => decide (32 ∉ w)) = true := by decide +kernel
theorem formW_of {w : List UInt8} (h : formW w = true) : ∃ (r : List UInt8) (d : UInt8), w = r ++ [47, d] ∧ 48 ≤ d.toNat ∧ d.toNat ≤ 57 ∧ 47 ∉ r ∧ nameB ⟨r.toArray⟩ = true := by
  unfold formW at h
  split at h
  · rename_i d r e
    rw [Bool.and_eq_true, Bool.and_eq_true, decide_eq_true_eq, decide_eq_true_eq] at h
    have e2 := congrArg List.reverse e
    rw [List.reverse_reverse] at e2
    refine ⟨r.reverse, d, by rw [e2]; simp, h.1.1, h.1.2, by simpa using h.2.1, h.2.2⟩
  · cases h
theorem slash_eq : ∀ {x w b c : List UInt8}, 47 ∉ x → 47 ∉ w → x ++ 47 :: b = w ++ 47 :: c → x = w ∧ b = c
  | [], [], _, _, _, _, h => by injection h with _ h; exact ⟨rfl, h⟩
  | [], y :: w, _, _, _, hw, h => by
    injection h with h1 _
    subst h1
    exact absurd List.mem_cons_self hw
  | y :: x, [], _, _, hx, _, h => by
    injection h with h1 _
    subst h1
    exact absurd List.mem_cons_self hx
  | y :: x, z :: w, b, c, hx, hw, h => by
    injection h with h1 h2
    subst h1
    obtain ⟨e1, e2⟩ := slash_eq (fun h => hx (List.mem_cons_of_mem _ h)) (fun h => hw (List.mem_cons_of_mem _ h)) h2
    exact ⟨by rw [e1], e2⟩
theorem indexByte_neg : ∀ (l : List UInt8) (c : UInt8), (0 ≤ Lib.indexByte l c) ↔ c ∈ l
  | [], c => by simp [Lib.indexByte]
  | b :: l, c => by
    have ih := indexByte_neg l c
    have hg := Lib.indexByte_ge l c
    unfold Lib.indexByte
    by_cases e : (b == c) = true
    · rw [if_pos e]
      simp [eq_of_beq e]
    · rw [if_neg e]
      have hne : b ≠ c := fun h => e (by rw [h]; exact beq_self_eq_true c)
      rw [List.mem_cons, ← ih]
      by_cases z : (Lib.indexByte l c == -1) = true
      · rw [if_pos z]
        have := eq_of_beq z
        constructor
        · intro h; omega
        · rintro (h | h)
          · exact absurd h.symm hne
          · omega
      · rw [if_neg z]
        have : Lib.indexByte l c ≠ -1 := fun h => z (by rw [h]; rfl)
        constructor
        · intro h; exact .inr (by omega)
        · intro _; omega
theorem txt_digit {n : Int} (h0 : 0 ≤ n) (h9 : n ≤ 9) : txt n = [UInt8.ofNat (48 + n.toNat)] := by
  unfold txt
  rw [if_neg (by omega), dig_small (by omega)]
  unfold dgt
  rw [show n.natAbs % 10 = n.toNat by omega]
theorem dig_two {m : Nat} (h : ¬ m < 10) : 2 ≤ (dig m).length := by
  rw [dig_big h]
  have : 1 ≤ (dig (m / 10)).length := by
    by_cases h2 : m / 10 < 10
    · rw [dig_small h2]; simp
    · rw [dig_big h2]; simp
  simp; omega
theorem txt_one {n : Int} (hn : 0 ≤ n) {d : UInt8} (h : txt n = [d]) : n ≤ 9 ∧ d = UInt8.ofNat (48 + n.toNat) := by
  by_cases h9 : n ≤ 9
  · rw [txt_digit hn h9] at h; injection h with h _; exact ⟨h9, h.symm⟩
  · have := dig_two (m := n.natAbs) (by omega)
    unfold txt at h
    rw [if_neg (by omega)] at h
    rw [h] at this
    simp at this
theorem name_noslash {s : ByteArray} (h : nameB s = true) : 47 ∉ s.data.toList ∧ 32 ∉ s.data.toList := by
  unfold nameB at h
  rw [Bool.and_eq_true, decide_eq_true_eq] at h
  have : ∀ c ∈ s.data.toList, c ≠ 47 ∧ c ≠ 32 := fun c hc => by
    obtain ⟨j, hj, rfl⟩ := List.getElem_of_mem hc
    have hj2 : j < s.size := by simpa using hj
    have h1 := h.2 j hj2
    have e : s[j].toNat = s.data.toList[j].toNat := by rw [Array.getElem_toList]; rfl
    rw [e] at h1
    constructor
    · intro h2; rw [h2] at h1; unfold okAt at h1; revert h1; simp
    · intro h2; rw [h2] at h1; unfold okAt at h1; revert h1; simp
  exact ⟨fun h => (this _ h).1 rfl, fun h => (this _ h).2 rfl⟩
theorem mem_form {w : List UInt8} (h : w ∈ words1 ∨ w ∈ words2 ∨ w ∈ words3 ∨ w ∈ words4) : formW w = true := by
  refine List.all_eq_true.1 words_form w ?_
  rw [List.mem_append, List.mem_append, List.mem_append]
  exact h
theorem classB_classR (s : ByteArray) (n : Int) : classB s n = classR s n := by
  have hap := words_apart
  simp only [Bool.and_eq_true, List.all_eq_true, Bool.not_eq_true'] at hap
  obtain ⟨⟨hap1, hap2⟩, hap3⟩ := hap
  have el : ∀ {x : List UInt8} {l : List (List UInt8)}, l.elem x = false → x ∉ l := fun h hm => by rw [List.elem_eq_true_of_mem hm] at h; cases h
  unfold classB
  by_cases hneg : n < 0 ∨ 0 ≤ Lib.indexByte s.data.toList 47
  · rw [if_pos hneg]
    unfold classR
    rw [if_neg]
    rintro ⟨h1, h2, h3⟩
    rcases hneg with h | h
    · omega
    · exact (name_noslash h1).1 ((indexByte_neg _ _).1 h)
  · rw [if_neg hneg]
    have hn0 : 0 ≤ n := by omega
    have hns : 47 ∉ s.data.toList := fun h => hneg (.inr ((indexByte_neg _ _).2 h))
    unfold classT
    rw [tabAll_eq, tabAll_eq, tabAll_eq, tabAll_eq]
    by_cases hm : (s.data.toList ++ [47] ++ txt n) ∈ words1 ∨ (s.data.toList ++ [47] ++ txt n) ∈ words2 ∨ (s.data.toList ++ [47] ++ txt n) ∈ words3 ∨ (s.data.toList ++ [47] ++ txt n) ∈ words4
    · obtain ⟨r, d, e, hd1, hd2, hr, hname⟩ := formW_of (mem_form hm)
      have e2 : s.data.toList ++ 47 :: txt n = r ++ 47 :: [d] := by rw [← e]; simp
      obtain ⟨e3, e4⟩ := slash_eq hns hr e2
      obtain ⟨h9, hd⟩ := txt_one hn0 e4
      have hv : nameB s = true := by
        have : s = ⟨r.toArray⟩ := by rw [← e3]
        rw [this]; exact hname
      have ew : s.data.toList ++ [47] ++ txt n = wordR s n.toNat := by unfold wordR; rw [e4, hd]; simp
      rw [ew] at hm ⊢
      have ecl : classR s n = if wordR s n.toNat ∈ words1 then 1 else if wordR s n.toNat ∈ words2 then 2 else if wordR s n.toNat ∈ words3 then 3 else if wordR s n.toNat ∈ words4 then 4 else 0 := by
        unfold classR; rw [if_pos ⟨hv, hn0, h9⟩]
      rw [ecl]
      clear ecl
      generalize wordR s n.toNat = x at *
      by_cases m1 : x ∈ words1
      · obtain ⟨⟨a, b⟩, c⟩ := hap1 x m1
        have a' := el a; have b' := el b; have c' := el c
        simp only [m1, a', b', c', if_true, if_false]
      · by_cases m2 : x ∈ words2
        · obtain ⟨a, b⟩ := hap2 x m2
          have a' := el a; have b' := el b
          simp only [m1, m2, a', b', if_true, if_false]
        · by_cases m3 : x ∈ words3
          · have a' := el (hap3 x m3)
            simp only [m1, m2, m3, a', if_true, if_false]
          · by_cases m4 : x ∈ words4
            · simp only [m1, m2, m3, m4, if_true, if_false]
            · rcases hm with h | h | h | h <;> contradiction
    · have h1 : ∀ {c : Prop} [Decidable c] {a b : Int}, ¬ c → (if c then a else b) = b := fun h => if_neg h
      rw [if_neg (fun h => hm (.inr (.inr (.inr h)))), if_neg (fun h => hm (.inr (.inr (.inl h)))), if_neg (fun h => hm (.inr (.inl h))), if_neg (fun h => hm (.inl h))]
      unfold classR
      by_cases hc : nameB s = true ∧ 0 ≤ n ∧ n ≤ 9
      · rw [if_pos hc]
        have ew : s.data.toList ++ [47] ++ txt n = wordR s n.toNat := by unfold wordR; rw [txt_digit hc.2.1 hc.2.2]; simp
        rw [ew] at hm
        rw [if_neg (fun h => hm (.inl h)), if_neg (fun h => hm (.inr (.inl h))), if_neg (fun h => hm (.inr (.inr (.inl h)))), if_neg (fun h => hm (.inr (.inr (.inr h))))]
      · rw [if_neg hc]
/-- A text of a class contains a name's word just if the class has it. -/
theorem holds_word {s : ByteArray} (hs : nameB s = true) {n : Nat} (hn : n ≤ 9) {c : Nat} (hc : 1 ≤ c ∧ c ≤ 4) : holdsB (namesR c) (32 :: (wordR s n ++ [32])) = decide (wordR s n ∈ wordsR c) := by
  rw [holdsB_infix, decide_eq_decide]
  refine infix_word ?_ _ (fun w hw => ?_)
  · unfold wordR
    intro h
    rw [List.mem_append] at h
    rcases h with h | h
    · exact (name_noslash hs).2 h
    · have : ∀ k, k ≤ 9 → (32 : UInt8) ∉ [47, UInt8.ofNat (48 + k)] := by decide
      exact this n hn h
  · refine of_decide_eq_true (List.all_eq_true.1 words_noblank w ?_)
    rw [List.mem_append, List.mem_append, List.mem_append]
    unfold wordsR at hw
    rcases (show c = 1 ∨ c = 2 ∨ c = 3 ∨ c = 4 by omega) with rfl | rfl | rfl | rfl
    · exact .inl hw
    · exact .inr (.inl hw)
    · exact .inr (.inr (.inl hw))
    · exact .inr (.inr (.inr hw))
end Go.Proofs.YthmpobimmbmddaaGreatDoor
