/-
  The numbers of a well-formed unit are ones that can be written. No program in sight.
-/
import Derived.Test.YtghgbikmlbildaaDoorCCheck
import Derived.Test.YtghgbikmlbildaaDoorWPlain
namespace Go.Proofs.YtghgbikmlbildaaDoor
open Go.RowKit

theorem wi_iff {n a b : Int} (h : wi n a b = true) : a ≤ n ∧ n ≤ b := by
  unfold wi at h; rw [Bool.and_eq_true, decide_eq_true_eq, decide_eq_true_eq] at h; exact h
theorem opdB_arg {nl : Nat} {a : RArg} (hl : nl ≤ 65535) (h : opdB nl a = true) : WArg a := by
  unfold opdB at h
  split at h
  · obtain ⟨h1, h2⟩ := wi_iff h; exact ⟨h1, by omega, by omega, by omega⟩
  · split at h
    · obtain ⟨h1, h2⟩ := wi_iff h; exact ⟨h1, by omega, by omega, by omega⟩
    · split at h
      · obtain ⟨h1, h2⟩ := wi_iff h; exact ⟨h1, by omega, by omega, by omega⟩
      · cases h
theorem toList_size (s : ByteArray) : s.toList.length = s.size := by rw [ByteArray.toList_eq]; rfl
theorem size_of_eq {s : ByteArray} {l : List UInt8} (h : (s.toList == l) = true) : s.size = l.length := by rw [← toList_size, eq_of_beq h]
theorem operB_len {s : ByteArray} {n : Int} (h : operB s n = true) : s.size ≤ 100 := by
  unfold operB at h
  split at h
  · rename_i e; rw [size_of_eq e]; decide
  · split at h
    · rename_i e
      rw [Bool.or_eq_true] at e
      rcases e with e | e <;> rw [size_of_eq e] <;> decide
    · split at h
      · rename_i e
        rw [List.any_eq_true] at e
        obtain ⟨x, hx, e⟩ := e
        rw [size_of_eq e]
        have : opTwo.all (fun x => decide (x.length ≤ 100)) = true := by decide
        exact of_decide_eq_true (List.all_eq_true.1 this x hx)
      · cases h
theorem tabAll_ne {c : Int} : ∀ (ws : List (List UInt8)) (t : List UInt8 → Int) {k : List UInt8}, tabAll c ws t k ≠ 0 → k ∈ ws ∨ t k ≠ 0
  | [], _, _, h => .inr h
  | x :: ws, t, k, h => by
    have h' : tabAll c ws (tabPut t x c) k ≠ 0 := h
    rcases tabAll_ne ws _ h' with h1 | h1
    · exact .inl (List.mem_cons_of_mem _ h1)
    · unfold tabPut at h1
      by_cases e : k = x
      · subst e; exact .inl List.mem_cons_self
      · rw [if_neg e] at h1; exact .inr h1
theorem words_short : (words4 ++ (words3 ++ (words2 ++ words1))).all (fun x => decide (x.length ≤ 100)) = true := by decide
theorem classT_short {k : List UInt8} (h : classT k ≠ 0) : k.length ≤ 100 := by
  have hm : k ∈ words4 ++ (words3 ++ (words2 ++ words1)) := by
    unfold classT at h
    rw [List.mem_append, List.mem_append, List.mem_append]
    rcases tabAll_ne _ _ h with h | h
    · exact .inl h
    · rcases tabAll_ne _ _ h with h | h
      · exact .inr (.inl h)
      · rcases tabAll_ne _ _ h with h | h
        · exact .inr (.inr (.inl h))
        · rcases tabAll_ne _ _ h with h | h
          · exact .inr (.inr (.inr h))
          · exact absurd rfl h
  exact of_decide_eq_true (List.all_eq_true.1 words_short _ hm)
theorem classB_len {s : ByteArray} {n c : Int} (h : (classB s n == c) = true) (hc : c ≠ 0) : s.size ≤ 100 := by
  have h := eq_of_beq h
  unfold classB at h
  split at h
  · exact absurd h.symm hc
  · have := classT_short (k := s.data.toList ++ [47] ++ txt n) (by rw [h]; exact hc)
    rw [List.length_append, List.length_append, Array.length_toList] at this
    show s.data.size ≤ 100
    omega
theorem namedB_len {x : RIns} (h : namedB x = true) (ho : x.op = 13 ∨ x.op = 14 ∨ x.op = 15) : x.name.size ≤ 100 := by
  unfold namedB at h
  split at h
  · rw [Bool.or_eq_true, Bool.or_eq_true, Bool.or_eq_true, Bool.and_eq_true, Bool.and_eq_true] at h
    rcases h with (h | h) | (h | h)
    · rw [size_of_eq h]; decide
    · rw [size_of_eq h.1]; decide
    · exact operB_len h.2
    · exact classB_len h (by decide)
  · split at h
    · rw [Bool.or_eq_true, Bool.or_eq_true] at h
      rcases h with (h | h) | h
      · exact operB_len h
      · exact classB_len h (by decide)
      · exact classB_len h (by decide)
    · split at h
      · rw [Bool.or_eq_true, Bool.and_eq_true] at h
        rcases h with h | h
        · rw [size_of_eq h.1]; decide
        · exact classB_len h (by decide)
      · omega
/-- What the table says of single fields. -/
theorem rowT_facts : ∀ k, (h : k < 41) → (hasB (rowT[k]'h).1.toNat 16 = true → k = 12) ∧ (hasB (rowT[k]'h).1.toNat 8 = true → k = 13 ∨ k = 14 ∨ k = 15) ∧
    (hasB (rowT[k]'h).1.toNat 4 = true → k = 4 ∨ k = 5 ∨ k = 9 ∨ k = 15 ∨ k = 16 ∨ k = 17 ∨ k = 18 ∨ k = 19 ∨ k = 20 ∨ k = 21 ∨ k = 24 ∨ k = 31 ∨ k = 32 ∨ k = 33) ∧ (rowT[k]'h).2.2 ≤ 255 := by decide
theorem rowAt_facts {op : Int} (h : 1 ≤ op ∧ op ≤ 40) : (hasB (rowAt op).1.toNat 16 = true → op = 12) ∧ (hasB (rowAt op).1.toNat 8 = true → op = 13 ∨ op = 14 ∨ op = 15) ∧
    (hasB (rowAt op).1.toNat 4 = true → op = 4 ∨ op = 5 ∨ op = 9 ∨ op = 15 ∨ op = 16 ∨ op = 17 ∨ op = 18 ∨ op = 19 ∨ op = 20 ∨ op = 21 ∨ op = 24 ∨ op = 31 ∨ op = 32 ∨ op = 33) ∧ (rowAt op).2.2 ≤ 255 := by
  obtain ⟨k, rfl⟩ : ∃ k : Nat, op = (k : Int) := ⟨op.toNat, by omega⟩
  have hk : k < 41 := by omega
  have hra : rowAt (k : Int) = rowT[k]'hk := by unfold rowAt; rw [Int.toNat_natCast, List.getElem?_eq_getElem (by exact hk)]; rfl
  rw [hra]
  obtain ⟨a, b, c, d⟩ := rowT_facts k hk
  exact ⟨fun h => by have := a h; omega, fun h => by have := b h; omega, fun h => by have := c h; omega, d⟩
theorem numberB_n {nf : Nat} {funs : List RFun} {x : RIns} (hf : nf ≤ 200) (hg : funs.length ≤ 1000) (h : numberB nf funs x = true)
    (ho : x.op = 4 ∨ x.op = 5 ∨ x.op = 9 ∨ x.op = 15 ∨ x.op = 16 ∨ x.op = 17 ∨ x.op = 18 ∨ x.op = 19 ∨ x.op = 20 ∨ x.op = 21 ∨ x.op = 24 ∨ x.op = 31 ∨ x.op = 32 ∨ x.op = 33) : 0 ≤ x.n ∧ x.n ≤ 1000000 := by
  unfold numberB at h
  split at h
  · rw [Bool.and_eq_true] at h; have := wi_iff h.1; omega
  · split at h
    · have := wi_iff h; omega
    · split at h
      · have := wi_iff h; omega
      · split at h
        · have := wi_iff h; omega
        · split at h
          · have := wi_iff h; omega
          · split at h
            · have := wi_iff h; omega
            · split at h
              · have := wi_iff h; omega
              · split at h
                · rw [Bool.or_eq_true, decide_eq_true_eq, decide_eq_true_eq] at h; omega
                · omega
structure TabOk (u : RUnit) : Prop where
  mdl : u.mdl.size ≤ 32
  vsn0 : 1 ≤ u.vsn
  vsn1 : u.vsn ≤ 2147483647
  code0 : 1 ≤ u.code.length
  code1 : u.code.length ≤ 524288
  lits : u.lits.length ≤ 65535
  funcs : u.funcs.length ≤ 200
  funs : u.funs.length ≤ 1000
  func : ∀ g ∈ u.funcs, g.name.size ≤ 32 ∧ 0 ≤ g.arity ∧ g.arity ≤ 16 ∧ 0 ≤ g.entry ∧ g.entry ≤ 524288
  fn : ∀ g ∈ u.funs, 0 ≤ g.arity ∧ g.arity ≤ 16 ∧ 0 ≤ g.free ∧ g.free ≤ 200 ∧ 0 ≤ g.entry ∧ g.entry ≤ 524288
theorem nameB_size {s : ByteArray} (h : nameB s = true) : s.size ≤ 32 := by
  unfold nameB at h
  rw [Bool.and_eq_true, Bool.and_eq_true, decide_eq_true_eq, decide_eq_true_eq] at h
  exact h.1.2
theorem tab_ok {f : Nat} {u : RUnit} (h : tablesB f u = true) : TabOk u := by
  unfold tablesB tabA at h
  simp only [Bool.and_eq_true, decide_eq_true_eq] at h
  obtain ⟨⟨h1, h2, h3, h4, h5, h6, h7, h8⟩, _, hf, hg⟩ := h
  refine ⟨nameB_size h1, h2, h3, by omega, by omega, h6, h7, h8, fun g hm => ?_, fun g hm => ?_⟩
  · obtain ⟨k, hk, rfl⟩ := List.getElem_of_mem hm
    have := (of_decide_eq_true hf k hk).1
    unfold fnOk at this
    rw [Bool.and_eq_true, Bool.and_eq_true] at this
    have a := wi_iff this.2.1; have b := wi_iff this.2.2
    exact ⟨nameB_size this.1, by omega, by omega, by omega, by omega⟩
  · have := List.all_eq_true.1 hg g hm
    unfold funB at this
    rw [Bool.and_eq_true, Bool.and_eq_true] at this
    have a := wi_iff this.1; have b := wi_iff this.2.1; have c := wi_iff this.2.2
    omega
theorem ins_ok {u : RUnit} {i : Nat} {x : RIns} (ht : TabOk u) (h : insB u i x = true) : WIns (rowAt x.op).1.toNat x := by
  unfold insB at h
  simp only [Bool.and_eq_true] at h
  obtain ⟨h0, h1, h2, h3, h4, h5⟩ := h
  have hop : 1 ≤ x.op ∧ x.op ≤ 40 := by unfold opOk at h0; exact of_decide_eq_true h0
  obtain ⟨r16, r8, r4, rhi⟩ := rowAt_facts hop
  obtain ⟨l1, l2, l3⟩ := @rowAt_lt x.op
  generalize (rowAt x.op).1.toNat = h at *
  unfold fieldsB at h1
  simp only [Bool.and_eq_true] at h1
  obtain ⟨f1, f2, f3, f4, f5, f6, f7, f8, f9, f10⟩ := h1
  have w3 := wi_iff f3; have w4 := wi_iff f4
  have hlit := ht.lits; have hcode := ht.code1
  unfold listsB at h4
  simp only [Bool.and_eq_true, decide_eq_true_eq] at h4
  obtain ⟨⟨g1, g2⟩, g3, g4⟩ := h4
  have hto : 0 ≤ x.to ∧ x.to ≤ 1000000 ∧ (∀ c ∈ x.cases, 0 ≤ c.to ∧ c.to ≤ 1000000) := by
    unfold targetsB at h5
    split at h5
    · rename_i ho
      rw [Bool.and_eq_true] at h5
      have := wi_iff h5.1
      refine ⟨by omega, by omega, fun c hc => ?_⟩
      have hn : hasB h 16 = false := by
        cases e : hasB h 16 with
        | false => rfl
        | true => have := r16 e; omega
      rw [hn, Bool.false_or] at f9
      have := eq_of_beq f9
      rw [List.length_eq_zero_iff] at this
      rw [this] at hc; cases hc
    · rw [Bool.and_eq_true] at h5
      refine ⟨?_, ?_, fun c hc => ?_⟩
      · cases e : hasB h 64 with
        | false => rw [e, Bool.false_or] at f7; have := eq_of_beq f7; omega
        | true => rw [e] at h5; have := wi_iff (show wi x.to ((i : Int) + 1) ((u.code.length : Int) - 1) = true from h5.2); omega
      · cases e : hasB h 64 with
        | false => rw [e, Bool.false_or] at f7; have := eq_of_beq f7; omega
        | true => rw [e] at h5; have := wi_iff (show wi x.to ((i : Int) + 1) ((u.code.length : Int) - 1) = true from h5.2); omega
      · have := wi_iff (List.all_eq_true.1 h5.1 c hc); omega
  refine ⟨by omega, by omega, fun e => ?_, fun a ha => opdB_arg hlit (List.all_eq_true.1 f2 a ha), by omega, ?_, ?_, ?_, fun c hc => ?_, ?_, fun g hg => ?_, by omega, hto.1, hto.2.1, by omega, by omega⟩
  · unfold dstB at f1
    rw [if_pos e, Bool.and_eq_true] at f1
    exact opdB_arg hlit f1.2
  · cases e : hasB h 4 with
    | false => rw [e, Bool.false_or] at f5; have := eq_of_beq f5; omega
    | true => exact (numberB_n ht.funcs ht.funs h2 (r4 e)).1
  · cases e : hasB h 4 with
    | false => rw [e, Bool.false_or] at f5; have := eq_of_beq f5; omega
    | true => exact (numberB_n ht.funcs ht.funs h2 (r4 e)).2
  · cases e : hasB h 8 with
    | false =>
      rw [e, Bool.false_or, List.isEmpty_iff] at f6
      have := toList_size x.name; rw [f6] at this; simp at this; omega
    | true => exact Nat.le_trans (namedB_len h3 (r8 e)) (by omega)
  · obtain ⟨k, hk, rfl⟩ := List.getElem_of_mem hc
    have := of_decide_eq_true g3 k hk
    unfold caseOk at this
    rw [Bool.and_eq_true, clit_at hk] at this
    have := wi_iff this.1
    exact ⟨by omega, by omega, hto.2.2 _ hc⟩
  · cases e : hasB h 16 with
    | false => rw [e, Bool.false_or] at f9; have := eq_of_beq f9; omega
    | true =>
      have h12 := r16 e
      rw [Bool.or_eq_true] at g1
      rcases g1 with g1 | g1
      · rw [h12] at g1; cases g1
      · have := wi_iff g1; omega
  · have := List.all_eq_true.1 g4 g hg
    unfold segB at this
    simp only [Bool.and_eq_true] at this
    obtain ⟨s1, s2, s3, _⟩ := this
    have s1 := wi_iff s1
    refine ⟨by omega, by omega, opdB_arg hlit s2, ?_⟩
    rw [Bool.or_eq_true, Bool.and_eq_true, decide_eq_true_eq, decide_eq_true_eq] at s3
    rcases s3 with s3 | s3
    · exact ⟨by omega, by omega, by omega, by omega⟩
    · exact opdB_arg hlit s3
theorem bad_none {u : RUnit} : ∀ (l : List RIns) (i : Nat), badFrom u l i = none → ∀ k (h : k < l.length), insB u (i + k) l[k] = true
  | [], _, _, k, h => absurd h (Nat.not_lt_zero _)
  | x :: l, i, hb, k, h => by
    unfold badFrom at hb
    split at hb
    · rename_i e
      cases k with
      | zero => exact e
      | succ k =>
        have := bad_none l (i + 1) hb k (by simpa using h)
        rw [show i + (k + 1) = i + 1 + k by omega]
        exact this
    · cases hb
/-- A unit that Check accepts: its tables and its instructions can be written. -/
theorem check_ok {f : Nat} {u : RUnit} (h : checkE f u = 0) : TabOk u ∧ tablesB f u = true ∧ ∀ k (hk : k < u.code.length), insB u k u.code[k] = true := by
  unfold checkE at h
  split at h
  · rename_i ht
    cases hb : badFrom u u.code 0 with
    | some i => rw [hb] at h; exact absurd (show (6 : Int) = 0 from h) (by decide)
    | none =>
      refine ⟨tab_ok ht, ht, fun k hk => ?_⟩
      have := bad_none u.code 0 hb k hk
      rwa [Nat.zero_add] at this
  · exact absurd h (by decide)
end Go.Proofs.YtghgbikmlbildaaDoor
