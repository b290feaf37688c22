/-
  The numbers of a well-formed unit are ones that can be written. No program in sight. The writer of code: an instruction: the walk (printed by gen_instr.py).
-/
import Derived.Deep.DeepCutAuto
import Derived.Test.YtghgbikmlbildaaGreatDoorRoundsAll12
import Derived.Test.YtghgbikmlbildaaGreatDoorRoundsAll13
namespace Go.Proofs.YtghgbikmlbildaaGreatDoor
open Go.RowKit

theorem wi_iff {n a b : Int} (h : wi n a b = true) : a ≤ n ∧ n ≤ b := by
 unfold wi at h; rw [Bool.and_eq_true, decide_eq_true_eq, decide_eq_true_eq] at h; exact h
theorem opdB_arg {nl : Nat} {a : RArg} (hl : nl ≤ 65535) (h : opdB nl a = true) : WArg a := by
 unfold opdB at h
 split at h
 ·obtain ⟨h1, h2⟩ := wi_iff h; exact ⟨h1, by omega, by omega, by omega⟩
 ·split at h
  ·obtain ⟨h1, h2⟩ := wi_iff h; exact ⟨h1, by omega, by omega, by omega⟩
  ·split at h
   ·obtain ⟨h1, h2⟩ := wi_iff h; exact ⟨h1, by omega, by omega, by omega⟩
   ·cases h
theorem toList_size (s : ByteArray) : s.toList.length = s.size := by rw [ByteArray.toList_eq]; rfl
theorem size_of_eq {s : ByteArray} {l : List UInt8} (h : (s.toList == l) = true) : s.size = l.length := by rw [← toList_size, eq_of_beq h]
theorem operB_len {s : ByteArray} {n : Int} (h : operB s n = true) : s.size ≤ 100 := by
 unfold operB at h
 split at h
 ·rename_i e; rw [size_of_eq e]; decide
 ·split at h
  ·rename_i e
   rw [Bool.or_eq_true] at e
   rcases e with e | e <;> rw [size_of_eq e] <;> decide
  ·split at h
   ·rename_i e
    rw [List.any_eq_true] at e
    obtain ⟨x, hx, e⟩ := e
    rw [size_of_eq e]
    have : opTwo.all (fun x => decide (x.length ≤ 100)) = true := by decide
    exact of_decide_eq_true (List.all_eq_true.1 this x hx)
   ·cases h
theorem tabAll_ne {c : Int} : ∀ (ws : List (List UInt8)) (t : List UInt8 → Int) {k : List UInt8}, tabAll c ws t k ≠ 0 → k ∈ ws ∨ t k ≠ 0
 | [], _, _, h => .inr h
 | x :: ws, t, k, h => by
  have h' : tabAll c ws (tabPut t x c) k ≠ 0 := h
  rcases tabAll_ne ws _ h' with h1 | h1
  ·exact .inl (List.mem_cons_of_mem _ h1)
  ·unfold tabPut at h1
   by_cases e : k = x
   ·subst e; exact .inl List.mem_cons_self
   ·rw [if_neg e] at h1; exact .inr h1
theorem words_short : (words4 ++ (words3 ++ (words2 ++ words1))).all (fun x => decide (x.length ≤ 100)) = true := by decide
theorem classT_short {k : List UInt8} (h : classT k ≠ 0) : k.length ≤ 100 := by
 have hm : k ∈ words4 ++ (words3 ++ (words2 ++ words1)) := by
  unfold classT at h
  rw [List.mem_append, List.mem_append, List.mem_append]
  rcases tabAll_ne _ _ h with h | h
  ·exact .inl h
  ·rcases tabAll_ne _ _ h with h | h
   ·exact .inr (.inl h)
   ·rcases tabAll_ne _ _ h with h | h
    ·exact .inr (.inr (.inl h))
    ·rcases tabAll_ne _ _ h with h | h
     ·exact .inr (.inr (.inr h))
     ·exact absurd rfl h
 exact of_decide_eq_true (List.all_eq_true.1 words_short _ hm)
theorem classB_len {s : ByteArray} {n c : Int} (h : (classB s n == c) = true) (hc : c ≠ 0) : s.size ≤ 100 := by
 have h := eq_of_beq h
 unfold classB at h
 split at h
 ·exact absurd h.symm hc
 ·have := classT_short (k := s.data.toList ++ [47] ++ txt n) (by rw [h]; exact hc)
  rw [List.length_append, List.length_append, Array.length_toList] at this
  show s.data.size ≤ 100
  omega
theorem namedB_len {x : RIns} (h : namedB x = true) (ho : x.op = 13 ∨ x.op = 14 ∨ x.op = 15) : x.name.size ≤ 100 := by
 unfold namedB at h
 split at h
 ·rw [Bool.or_eq_true, Bool.or_eq_true, Bool.or_eq_true, Bool.and_eq_true, Bool.and_eq_true] at h
  rcases h with (h | h) | (h | h)
  ·rw [size_of_eq h]; decide
  ·rw [size_of_eq h.1]; decide
  ·exact operB_len h.2
  ·exact classB_len h (by decide)
 ·split at h
  ·rw [Bool.or_eq_true, Bool.or_eq_true] at h
   rcases h with (h | h) | h
   ·exact operB_len h
   ·exact classB_len h (by decide)
   ·exact classB_len h (by decide)
  ·split at h
   ·rw [Bool.or_eq_true, Bool.and_eq_true] at h
    rcases h with h | h
    ·rw [size_of_eq h.1]; decide
    ·exact classB_len h (by decide)
   ·omega
/-- What the table says of single fields. -/
theorem rowT_facts : ∀ k, (h : k < 41) → (hasB (rowT[k]'h).1.toNat 16 = true → k = 12) ∧ (hasB (rowT[k]'h).1.toNat 8 = true → k = 13 ∨ k = 14 ∨ k = 15) ∧
  (hasB (rowT[k]'h).1.toNat 4 = true → k = 4 ∨ k = 5 ∨ k = 9 ∨ k = 15 ∨ k = 16 ∨ k = 17 ∨ k = 18 ∨ k = 19 ∨ k = 20 ∨ k = 21 ∨ k = 24 ∨ k = 31 ∨ k = 32 ∨ k = 33) ∧ (rowT[k]'h).2.2 ≤ 255 := by decide
theorem rowAt_facts {op : Int} (h : 1 ≤ op ∧ op ≤ 40) : (hasB (rowAt op).1.toNat 16 = true → op = 12) ∧ (hasB (rowAt op).1.toNat 8 = true → op = 13 ∨ op = 14 ∨ op = 15) ∧
  (hasB (rowAt op).1.toNat 4 = true → op = 4 ∨ op = 5 ∨ op = 9 ∨ op = 15 ∨ op = 16 ∨ op = 17 ∨ op = 18 ∨ op = 19 ∨ op = 20 ∨ op = 21 ∨ op = 24 ∨ op = 31 ∨ op = 32 ∨ op = 33) ∧ (rowAt op).2.2 ≤ 255 := by
 obtain ⟨k, rfl⟩ : ∃ k : Nat, op = (k : Int) := ⟨op.toNat, by omega⟩
 have hk : k < 41 := by omega
 have hra : rowAt (k : Int) = rowT[k]'hk := by unfold rowAt; rw [Int.toNat_natCast, List.getElem?_eq_getElem (by exact hk)]; rfl
 rw [hra]
 obtain ⟨a, b, c, d⟩ := rowT_facts k hk
 exact ⟨fun h => by have := a h; omega, fun h => by have := b h; omega, fun h => by have := c h; omega, d⟩
theorem numberB_n {nf : Nat} {funs : List RFun} {x : RIns} (hf : nf ≤ 200) (hg : funs.length ≤ 1000) (h : numberB nf funs x = true)
  (ho : x.op = 4 ∨ x.op = 5 ∨ x.op = 9 ∨ x.op = 15 ∨ x.op = 16 ∨ x.op = 17 ∨ x.op = 18 ∨ x.op = 19 ∨ x.op = 20 ∨ x.op = 21 ∨ x.op = 24 ∨ x.op = 31 ∨ x.op = 32 ∨ x.op = 33) : 0 ≤ x.n ∧ x.n ≤ 1000000 := by
 unfold numberB at h
 split at h
 ·rw [Bool.and_eq_true] at h; have := wi_iff h.1; omega
 ·split at h
  ·have := wi_iff h; omega
  ·split at h
   ·have := wi_iff h; omega
   ·split at h
    ·have := wi_iff h; omega
    ·split at h
     ·have := wi_iff h; omega
     ·split at h
      ·have := wi_iff h; omega
      ·split at h
       ·have := wi_iff h; omega
       ·split at h
        ·rw [Bool.or_eq_true, decide_eq_true_eq, decide_eq_true_eq] at h; omega
        ·omega
structure TabOk (u : RUnit) : Prop where
 mdl : u.mdl.size ≤ 32
 vsn0 : 1 ≤ u.vsn
 vsn1 : u.vsn ≤ 2147483647
 code0 : 1 ≤ u.code.length
 code1 : u.code.length ≤ 524288
 lits : u.lits.length ≤ 65535
 funcs : u.funcs.length ≤ 200
 funs : u.funs.length ≤ 1000
 func : ∀ g ∈ u.funcs, g.name.size ≤ 32 ∧ 0 ≤ g.arity ∧ g.arity ≤ 16 ∧ 0 ≤ g.entry ∧ g.entry ≤ 524288
 fn : ∀ g ∈ u.funs, 0 ≤ g.arity ∧ g.arity ≤ 16 ∧ 0 ≤ g.free ∧ g.free ≤ 200 ∧ 0 ≤ g.entry ∧ g.entry ≤ 524288
theorem nameB_size {s : ByteArray} (h : nameB s = true) : s.size ≤ 32 := by
 unfold nameB at h
 rw [Bool.and_eq_true, Bool.and_eq_true, decide_eq_true_eq, decide_eq_true_eq] at h
 exact h.1.2
theorem tab_ok {f : Nat} {u : RUnit} (h : tablesB f u = true) : TabOk u := by
 unfold tablesB tabA at h
 simp only [Bool.and_eq_true, decide_eq_true_eq] at h
 obtain ⟨⟨h1, h2, h3, h4, h5, h6, h7, h8⟩, _, hf, hg⟩ := h
 refine ⟨nameB_size h1, h2, h3, by omega, by omega, h6, h7, h8, fun g hm => ?_, fun g hm => ?_⟩
 ·obtain ⟨k, hk, rfl⟩ := List.getElem_of_mem hm
  have := (of_decide_eq_true hf k hk).1
  unfold fnOk at this
  rw [Bool.and_eq_true, Bool.and_eq_true] at this
  have a := wi_iff this.2.1; have b := wi_iff this.2.2
  exact ⟨nameB_size this.1, by omega, by omega, by omega, by omega⟩
 ·have := List.all_eq_true.1 hg g hm
  unfold funB at this
  rw [Bool.and_eq_true, Bool.and_eq_true] at this
  have a := wi_iff this.1; have b := wi_iff this.2.1; have c := wi_iff this.2.2
  omega
theorem ins_ok {u : RUnit} {i : Nat} {x : RIns} (ht : TabOk u) (h : insB u i x = true) : WIns (rowAt x.op).1.toNat x := by
 unfold insB at h
 simp only [Bool.and_eq_true] at h
 obtain ⟨h0, h1, h2, h3, h4, h5⟩ := h
 have hop : 1 ≤ x.op ∧ x.op ≤ 40 := by unfold opOk at h0; exact of_decide_eq_true h0
 obtain ⟨r16, r8, r4, rhi⟩ := rowAt_facts hop
 obtain ⟨l1, l2, l3⟩ := @rowAt_lt x.op
 generalize (rowAt x.op).1.toNat = h at *
 unfold fieldsB at h1
 simp only [Bool.and_eq_true] at h1
 obtain ⟨f1, f2, f3, f4, f5, f6, f7, f8, f9, f10⟩ := h1
 have w3 := wi_iff f3; have w4 := wi_iff f4
 have hlit := ht.lits; have hcode := ht.code1
 unfold listsB at h4
 simp only [Bool.and_eq_true, decide_eq_true_eq] at h4
 obtain ⟨⟨g1, g2⟩, g3, g4⟩ := h4
 have hto : 0 ≤ x.to ∧ x.to ≤ 1000000 ∧ (∀ c ∈ x.cases, 0 ≤ c.to ∧ c.to ≤ 1000000) := by
  unfold targetsB at h5
  split at h5
  ·rename_i ho
   rw [Bool.and_eq_true] at h5
   have := wi_iff h5.1
   refine ⟨by omega, by omega, fun c hc => ?_⟩
   have hn : hasB h 16 = false := by
    cases e : hasB h 16 with
    | false => rfl
    | true => have := r16 e; omega
   rw [hn, Bool.false_or] at f9
   have := eq_of_beq f9
   rw [List.length_eq_zero_iff] at this
   rw [this] at hc; cases hc
  ·rw [Bool.and_eq_true] at h5
   refine ⟨?_, ?_, fun c hc => ?_⟩
   ·cases e : hasB h 64 with
    | false => rw [e, Bool.false_or] at f7; have := eq_of_beq f7; omega
    | true => rw [e] at h5; have := wi_iff (show wi x.to ((i : Int) + 1) ((u.code.length : Int) - 1) = true from h5.2); omega
   ·cases e : hasB h 64 with
    | false => rw [e, Bool.false_or] at f7; have := eq_of_beq f7; omega
    | true => rw [e] at h5; have := wi_iff (show wi x.to ((i : Int) + 1) ((u.code.length : Int) - 1) = true from h5.2); omega
   ·have := wi_iff (List.all_eq_true.1 h5.1 c hc); omega
 refine ⟨by omega, by omega, fun e => ?_, fun a ha => opdB_arg hlit (List.all_eq_true.1 f2 a ha), by omega, ?_, ?_, ?_, fun c hc => ?_, ?_, fun g hg => ?_, by omega, hto.1, hto.2.1, by omega, by omega⟩
 ·unfold dstB at f1
  rw [if_pos e, Bool.and_eq_true] at f1
  exact opdB_arg hlit f1.2
 ·cases e : hasB h 4 with
  | false => rw [e, Bool.false_or] at f5; have := eq_of_beq f5; omega
  | true => exact (numberB_n ht.funcs ht.funs h2 (r4 e)).1
 ·cases e : hasB h 4 with
  | false => rw [e, Bool.false_or] at f5; have := eq_of_beq f5; omega
  | true => exact (numberB_n ht.funcs ht.funs h2 (r4 e)).2
 ·cases e : hasB h 8 with
  | false =>
   rw [e, Bool.false_or, List.isEmpty_iff] at f6
   have := toList_size x.name; rw [f6] at this; simp at this; omega
  | true => exact Nat.le_trans (namedB_len h3 (r8 e)) (by omega)
 ·obtain ⟨k, hk, rfl⟩ := List.getElem_of_mem hc
  have := of_decide_eq_true g3 k hk
  unfold caseOk at this
  rw [Bool.and_eq_true, clit_at hk] at this
  have := wi_iff this.1
  exact ⟨by omega, by omega, hto.2.2 _ hc⟩
 ·cases e : hasB h 16 with
  | false => rw [e, Bool.false_or] at f9; have := eq_of_beq f9; omega
  | true =>
   have h12 := r16 e
   rw [Bool.or_eq_true] at g1
   rcases g1 with g1 | g1
   ·rw [h12] at g1; cases g1
   ·have := wi_iff g1; omega
 ·have := List.all_eq_true.1 g4 g hg
  unfold segB at this
  simp only [Bool.and_eq_true] at this
  obtain ⟨s1, s2, s3, _⟩ := this
  have s1 := wi_iff s1
  refine ⟨by omega, by omega, opdB_arg hlit s2, ?_⟩
  rw [Bool.or_eq_true, Bool.and_eq_true, decide_eq_true_eq, decide_eq_true_eq] at s3
  rcases s3 with s3 | s3
  ·exact ⟨by omega, by omega, by omega, by omega⟩
  ·exact opdB_arg hlit s3
theorem bad_none {u : RUnit} : ∀ (l : List RIns) (i : Nat), badFrom u l i = none → ∀ k (h : k < l.length), insB u (i + k) l[k] = true
 | [], _, _, k, h => absurd h (Nat.not_lt_zero _)
 | x :: l, i, hb, k, h => by
  unfold badFrom at hb
  split at hb
  ·rename_i e
   cases k with
   | zero => exact e
   | succ k =>
    have := bad_none l (i + 1) hb k (by simpa using h)
    rw [show i + (k + 1) = i + 1 + k by omega]
    exact this
  ·cases hb
/-- A unit that Check accepts: its tables and its instructions can be written. -/
theorem check_ok {f : Nat} {u : RUnit} (h : checkE f u = 0) : TabOk u ∧ tablesB f u = true ∧ ∀ k (hk : k < u.code.length), insB u k u.code[k] = true := by
 unfold checkE at h
 split at h
 ·rename_i ht
  cases hb : badFrom u u.code 0 with
  | some i => rw [hb] at h; exact absurd (show (6 : Int) = 0 from h) (by decide)
  | none =>
   refine ⟨tab_ok ht, ht, fun k hk => ?_⟩
   have := bad_none u.code 0 hb k hk
   rwa [Nat.zero_add] at this
 ·exact absurd h (by decide)
end Go.Proofs.YtghgbikmlbildaaGreatDoor
namespace Go.Proofs.YtghgbikmlbildaaGreatDoor
open Go.RowKit
set_option linter.unusedVariables false
set_option linter.unusedSimpArgs false

theorem srcW_nil : srcW [] = [] := rfl
theorem opt_yes (l k : List UInt8) : opt true l ++ k = l ++ k := rfl
theorem opt_no (l k : List UInt8) : opt false l ++ k = k := rfl
theorem srcW_step (l : List RArg) {k : Nat} (h : k < l.length) : srcW (l.drop k) = argW l[k] ++ srcW (l.drop (k + 1)) := by
 unfold srcW; rw [List.drop_eq_getElem_cons h]; rfl
theorem casesW_step (l : List RCase) {k : Nat} (h : k < l.length) : casesW (l.drop k) = vint l[k].lit.toNat ++ (vint l[k].to.toNat ++ casesW (l.drop (k + 1))) := by
 unfold casesW; rw [List.drop_eq_getElem_cons h, List.flatMap_cons]; unfold caseW; rw [List.append_assoc]
theorem segsW_step (l : List RSeg) {k : Nat} (h : k < l.length) : segsW (l.drop k) = vint l[k].type.toNat ++ (argW l[k].val ++ (argW l[k].size ++ (boolW l[k].little ++ segsW (l.drop (k + 1))))) := by
 unfold segsW; rw [List.drop_eq_getElem_cons h, List.flatMap_cons]; unfold segW; simp only [List.append_assoc]
theorem instrW_end (h : Nat) (x : RIns) : instrW h x = vint x.op.toNat ++ (opt (hasB h 1) (argW x.dst) ++ (opt (hasB h 2) (vint x.src.length ++ srcW x.src) ++ (opt (hasB h 4) (vint x.n.toNat) ++ (opt (hasB h 8) (textW x.name) ++
  (opt (hasB h 16) (vint x.cases.length ++ casesW x.cases) ++ (opt (hasB h 32) (vint x.segs.length ++ segsW x.segs) ++ (opt (hasB h 64) (vint x.to.toNat) ++ (opt (hasB h 128) (vint x.live.toNat) ++ [])))))))) := by
 rw [List.append_nil]; rfl
theorem has_test (h f : Nat) (hh : h < 1000) (hf : f < 1000) : bits .and .i64 (h : Int) (f : Int) = ((h &&& f : Nat) : Int) ∧ ((((h &&& f : Nat) : Int) != 0) = hasB h f) := by
 refine ⟨and_i64 h f (by omega) (by omega), ?_⟩
 unfold hasB
 by_cases c : h &&& f = 0
 ·rw [c]; rfl
 ·rw [decide_eq_true c]; rw [bne_iff_ne]; omega
theorem WrAt.base {B r : Nat} {l : List UInt8} {w w' : World} (h : WrAt B r l w) (hb : Below w.heap.size w w') : WrAt B r l w' := h.next hb
set_option maxRecDepth 100000 in
set_option maxHeartbeats 40000000 in
theorem winstr_any (w0 : World) (r : Nat) (l : List UInt8) (b o : Nat) (x : RIns) (so co go : Option Addr) (sc cc gc : Nat) (w : World)
  (hrows : RowsAt w0) (hwr : WrAt w0.heap.size r l w) (hb0 : Below w0.heap.size w0 w) (hx : IBox w0 b o x so co go sc cc gc) (hop : 1 ≤ x.op ∧ x.op ≤ 40) (hw : WIns (rowAt x.op).1.toNat x) (hl : l.length ≤ 70368740000000) :
  Calls Tryz.prog 48 #[.pointer (some ⟨r, 0, none⟩), .pointer (some ⟨b, o, none⟩)] w fun e w' => e = .returned (.tuple #[]) ∧ WrAt w0.heap.size r (l ++ instrW (rowAt x.op).1.toNat x) w' ∧ Below w0.heap.size w w' ∧ Stays w w' := by
 have HWR := Lib.hid hwr; have HX := Lib.hid hx; have HW := Lib.hid hw
 have hro := rowOf_at hop w (hrows.below hb0)
 have hrl := @rowAt_lt x.op
 have hxw := hx.below hb0
 have c0 := hxw.c0
 have hbl := hxw.lt
 have HBB : Hid (w0.heap.size ≤ w.heap.size) := Lib.hid hb0.size
 have HB0 := Lib.hid hb0
 have HE := Lib.hid (instrW_end (rowAt x.op).1.toNat x)
 have ht1 := has_test (rowAt x.op).1.toNat 1 hrl.1 (by decide)
 have ht2 := has_test (rowAt x.op).1.toNat 2 hrl.1 (by decide)
 have ht4 := has_test (rowAt x.op).1.toNat 4 hrl.1 (by decide)
 have ht8 := has_test (rowAt x.op).1.toNat 8 hrl.1 (by decide)
 have ht16 := has_test (rowAt x.op).1.toNat 16 hrl.1 (by decide)
 have ht32 := has_test (rowAt x.op).1.toNat 32 hrl.1 (by decide)
 have ht64 := has_test (rowAt x.op).1.toNat 64 hrl.1 (by decide)
 have ht128 := has_test (rowAt x.op).1.toNat 128 hrl.1 (by decide)
 have HDST := Lib.hid hw.dst
 clear hwr hx hw hrows hb0 hxw hrl hop
 generalize instrW (rowAt x.op).1.toNat x = WW at *
 generalize hasB (rowAt x.op).1.toNat 1 = q1 at *
 generalize hasB (rowAt x.op).1.toNat 2 = q2 at *
 generalize hasB (rowAt x.op).1.toNat 4 = q4 at *
 generalize hasB (rowAt x.op).1.toNat 8 = q8 at *
 generalize hasB (rowAt x.op).1.toNat 16 = q16 at *
 generalize hasB (rowAt x.op).1.toNat 32 = q32 at *
 generalize hasB (rowAt x.op).1.toNat 64 = q64 at *
 generalize hasB (rowAt x.op).1.toNat 128 = q128 at *
 generalize (rowAt x.op).1.toNat &&& 1 = y1 at *
 generalize (rowAt x.op).1.toNat &&& 2 = y2 at *
 generalize (rowAt x.op).1.toNat &&& 4 = y4 at *
 generalize (rowAt x.op).1.toNat &&& 8 = y8 at *
 generalize (rowAt x.op).1.toNat &&& 16 = y16 at *
 generalize (rowAt x.op).1.toNat &&& 32 = y32 at *
 generalize (rowAt x.op).1.toNat &&& 64 = y64 at *
 generalize (rowAt x.op).1.toNat &&& 128 = y128 at *
 generalize (rowAt x.op).1.toNat = h at *
 generalize (rowAt x.op).2.1.toNat = l1 at *
 generalize (rowAt x.op).2.2.toNat = l2 at *
 obtain ⟨a1, e1⟩ := ht1
 have a1' : bits .and .i64 (h : Int) 1 = (y1 : Int) := a1
 clear a1
 obtain ⟨a2, e2⟩ := ht2
 have a2' : bits .and .i64 (h : Int) 2 = (y2 : Int) := a2
 clear a2
 obtain ⟨a4, e4⟩ := ht4
 have a4' : bits .and .i64 (h : Int) 4 = (y4 : Int) := a4
 clear a4
 obtain ⟨a8, e8⟩ := ht8
 have a8' : bits .and .i64 (h : Int) 8 = (y8 : Int) := a8
 clear a8
 obtain ⟨a16, e16⟩ := ht16
 have a16' : bits .and .i64 (h : Int) 16 = (y16 : Int) := a16
 clear a16
 obtain ⟨a32, e32⟩ := ht32
 have a32' : bits .and .i64 (h : Int) 32 = (y32 : Int) := a32
 clear a32
 obtain ⟨a64, e64⟩ := ht64
 have a64' : bits .and .i64 (h : Int) 64 = (y64 : Int) := a64
 clear a64
 obtain ⟨a128, e128⟩ := ht128
 have a128' : bits .and .i64 (h : Int) 128 = (y128 : Int) := a128
 clear a128
 go_enter Tryz.func48, Tryz.ntmps48
 go_upto_region 1 with (go_at_call 31; refine hro.mono ?_; rintro e w6 ⟨rfl, hb6⟩)
 clear hro
 have HWa := Lib.hid (hb6.alloc hb6.size (.cells #[.int .i64 (h : Nat), .int .i64 (l1 : Nat), .int .i64 (l2 : Nat)] 57))
 have HSa : Hid (Stays w (w6.alloc (.cells #[.int .i64 (h : Nat), .int .i64 (l1 : Nat), .int .i64 (l2 : Nat)] 57))) := Lib.hid (((Stays.refl w).below hb6).alloc _)
 have HRa := Lib.hid (heap_alloc_new w6 (.cells #[.int .i64 (h : Nat), .int .i64 (l1 : Nat), .int .i64 (l2 : Nat)] 57))
 clear hb6
 generalize w6.alloc (.cells #[.int .i64 (h : Nat), .int .i64 (l1 : Nat), .int .i64 (l2 : Nat)] 57) = Wa at *
 generalize w6.heap.size = R at *
 have HXa : Hid (Below w0.heap.size w0 Wa) := Lib.hid (HB0.out.trans (HWa.out.mono HBB.out))
 have HWRa := Lib.hid (HWR.out.next HWa.out)
 have HBa : Hid (w0.heap.size ≤ Wa.heap.size) := Lib.hid (Nat.le_trans HBB.out HWa.out.size)
 clear c0 hbl HWR
 have hxa := HX.out.below HXa.out
 have c0 := hxa.c0
 have hbl := hxa.lt
 clear hxa
 have HW0 : Hid (l ++ WW = (l ++ vint x.op.toNat) ++ (opt q1 (argW x.dst) ++ (opt q2 ((vint x.src.length ++ srcW x.src)) ++ (opt q4 (vint x.n.toNat) ++ (opt q8 (textW x.name) ++ (opt q16 ((vint x.cases.length ++ casesW x.cases)) ++ (opt q32 ((vint x.segs.length ++ segsW x.segs)) ++ (opt q64 (vint x.to.toNat) ++ (opt q128 (vint x.live.toNat) ++ ([] : List UInt8)))))))))) := Lib.hid (by rw [HE.out, List.append_assoc])
 generalize hWW : l ++ WW = W at *
 have HWW := Lib.hid hWW
 clear hWW
 have hvl := vint_len x.op.toNat
 go_upto_if 29 with (go_at_call 45; refine (wnum_any w0.heap.size r l x.op _ HWRa.out HW.out.op0 (Int.le_trans HW.out.op1 (by decide)) (by omega)).mono ?_; rintro e w1 ⟨rfl, h1, hb1, hs1⟩; have hcR : w1.cell? ⟨R, 0, none⟩ = some (.int .i64 (h : Nat)) := by rw [cell_of_row _ _ _ _ _ _ (hs1 _ _ _ _ HRa.out (by decide) (by decide))]; rfl)
 have HH1 := Lib.hid h1; have HHB1 := Lib.hid hb1; have HHS1 := Lib.hid hs1
 clear h1 hb1 hs1 c0
 obtain ⟨p, HP, hpl, HWp, HBp, HSp⟩ : ∃ p : List UInt8, Hid (W = p ++ (opt q1 (argW x.dst) ++ (opt q2 ((vint x.src.length ++ srcW x.src)) ++ (opt q4 (vint x.n.toNat) ++ (opt q8 (textW x.name) ++ (opt q16 ((vint x.cases.length ++ casesW x.cases)) ++ (opt q32 ((vint x.segs.length ++ segsW x.segs)) ++ (opt q64 (vint x.to.toNat) ++ (opt q128 (vint x.live.toNat) ++ ([] : List UInt8)))))))))) ∧ p.length ≤ l.length + 110 ∧ Hid (WrAt w0.heap.size r p w1) ∧ Hid (Below w0.heap.size Wa w1) ∧ Hid (Stays Wa w1) := ⟨_, HW0, by rw [List.length_append]; omega, HH1, HHB1, HHS1⟩
 clear HW0 HH1 HHB1 HHS1 hcR
 go_cut [] (fun wx => ∃ p : List UInt8, Hid (W = p ++ (opt q2 ((vint x.src.length ++ srcW x.src)) ++ (opt q4 (vint x.n.toNat) ++ (opt q8 (textW x.name) ++ (opt q16 ((vint x.cases.length ++ casesW x.cases)) ++ (opt q32 ((vint x.segs.length ++ segsW x.segs)) ++ (opt q64 (vint x.to.toNat) ++ (opt q128 (vint x.live.toNat) ++ ([] : List UInt8))))))))) ∧ p.length ≤ l.length + 50110 ∧ Hid (WrAt w0.heap.size r p wx) ∧ Hid (Below w0.heap.size Wa wx) ∧ Hid (Stays Wa wx))
 case first =>
  cases q1 with
  | false =>
   go_wp2_with fail
   go_meet
   case rel => exact ⟨p, Lib.hid (by rw [HP.out]; rfl), by omega, HWp, HBp, HSp⟩
  | true =>
   have hxc := HX.out.below (HXa.out.trans HBp.out)
   have k1 := hxc.c1; have k2 := hxc.c2; have hbl2 := hxc.lt
   clear hxc
   have hd := HDST.out rfl
   have hal := argW_len x.dst
   go_wp2_with (go_at_call 98; refine (warg_any w0.heap.size r p x.dst _ HWp.out (by omega) hd.n0 (Int.le_trans hd.n1 (by decide)) hd.k0 hd.k1).mono ?_; rintro e w2 ⟨rfl, h2, hb2, hs2⟩)
   go_meet
   case rel => exact ⟨p ++ argW x.dst, Lib.hid (by rw [HP.out, opt_yes]; rw [List.append_assoc]), by (try simp only [List.length_append]); omega, Lib.hid h2, Lib.hid (HBp.out.trans hb2), Lib.hid (HSp.out.trans hs2)⟩
 case rest =>
  obtain ⟨p, HP, hpl, HWp, HBp, HSp⟩ := hcut
  have hcR : wc.cell? ⟨R, 0, none⟩ = some (.int .i64 (h : Nat)) := by rw [cell_of_row _ _ _ _ _ _ (HSp.out _ _ _ _ HRa.out (by decide) (by decide))]; rfl
  go_upto_if 39 with fail
  clear hcR
  go_cut [] (fun wx => ∃ p : List UInt8, Hid (W = p ++ (opt q4 (vint x.n.toNat) ++ (opt q8 (textW x.name) ++ (opt q16 ((vint x.cases.length ++ casesW x.cases)) ++ (opt q32 ((vint x.segs.length ++ segsW x.segs)) ++ (opt q64 (vint x.to.toNat) ++ (opt q128 (vint x.live.toNat) ++ ([] : List UInt8)))))))) ∧ p.length ≤ l.length + 100110 ∧ Hid (WrAt w0.heap.size r p wx) ∧ Hid (Below w0.heap.size Wa wx) ∧ Hid (Stays Wa wx))
  case first =>
   cases q2 with
   | false =>
    go_wp2_with fail
    go_meet
    case rel => exact ⟨p, Lib.hid (by rw [HP.out]; rfl), by omega, HWp, HBp, HSp⟩
   | true =>
    have hxc := HX.out.below (HXa.out.trans HBp.out)
    have kc := hxc.c3; have hbl2 := hxc.lt
    clear hxc
    have hlen := HW.out.srcLen
    have hvl := vint_len x.src.length
    go_wp2_with (go_at_call 45; refine (wnum_any w0.heap.size r p (x.src.length : Int) _ HWp.out (by omega) (by omega) (by omega)).mono ?_; rintro e w2 ⟨rfl, h2, hb2, hs2⟩; have kc2 := (HX.out.below (HXa.out.trans (HBp.out.trans hb2))).c3)
    rw [Int.toNat_natCast] at h2
    have HQ : Hid (W = (p ++ vint x.src.length) ++ (srcW (x.src.drop 0) ++ (opt q4 (vint x.n.toNat) ++ (opt q8 (textW x.name) ++ (opt q16 ((vint x.cases.length ++ casesW x.cases)) ++ (opt q32 ((vint x.segs.length ++ segsW x.segs)) ++ (opt q64 (vint x.to.toNat) ++ (opt q128 (vint x.live.toNat) ++ ([] : List UInt8))))))))) := Lib.hid (by rw [HP.out, opt_yes, List.drop_zero]; simp only [List.append_assoc])
    have hpl2 : (p ++ vint x.src.length).length ≤ p.length + 10 := by rw [List.length_append]; omega
    generalize p ++ vint x.src.length = p2 at *
    have HB2 := Lib.hid (HBp.out.trans hb2); have HS2 := Lib.hid (HSp.out.trans hs2); have HW2 := Lib.hid h2
    clear hb2 hs2 h2 kc
    go_loopw [52] (fun iv wr => ∃ (k : Nat) (p' : List UInt8), k ≤ x.src.length ∧ iv = .int .i64 k ∧ Hid (W = p' ++ (srcW (x.src.drop k) ++ (opt q4 (vint x.n.toNat) ++ (opt q8 (textW x.name) ++ (opt q16 ((vint x.cases.length ++ casesW x.cases)) ++ (opt q32 ((vint x.segs.length ++ segsW x.segs)) ++ (opt q64 (vint x.to.toNat) ++ (opt q128 (vint x.live.toNat) ++ ([] : List UInt8))))))))) ∧ p'.length ≤ p2.length + 10 * k ∧ Hid (WrAt w0.heap.size r p' wr) ∧ Hid (Below w0.heap.size Wa wr) ∧ Hid (Stays Wa wr)) (fun iv _ => x.src.length - (intOf iv).toNat)
    case atStart => exact ⟨0, p2, Nat.zero_le _, rfl, HQ, by omega, HW2, HB2, HS2⟩
    case round =>
     obtain ⟨k, p', hk, rfl, HK, hpk, HWk, HBk, HSk⟩ := hrel
     rename World => wr
     by_cases hlt : k < x.src.length
     ·obtain ⟨b2, off, hao, hb2, q0, q1, r0, r1⟩ := (HX.out.below (HXa.out.trans HBk.out)).src.arg hlt
      subst hao
      have HST := Lib.hid (srcW_step x.src hlt)
      have HAW := Lib.hid (HW.out.src _ (List.getElem_mem hlt))
      generalize x.src[k] = a at *
      have hba := (Below.refl wr.heap.size wr).alloc (Nat.le_refl _) (.cells #[.int .i64 a.kind, .int .i64 a.n] 45)
      have hsa := (Stays.refl wr).alloc (.cells #[.int .i64 a.kind, .int .i64 a.n] 45)
      have hal := argW_len a
      have HBA := Lib.hid hba; have HSA := Lib.hid hsa
      clear hba hsa
      go_wp2_with (go_at_call 98; refine (warg_any w0.heap.size r p' a _ (HWk.out.next HBA.out) (by omega) HAW.out.n0 (Int.le_trans HAW.out.n1 (by decide)) HAW.out.k0 HAW.out.k1).mono ?_; rintro e w3 ⟨rfl, h3, hb3, hs3⟩)
      go_roundw
      case rel => exact ⟨k + 1, p' ++ argW a, by omega, by go_num, Lib.hid (by rw [HK.out, HST.out]; simp only [List.append_assoc]), by rw [List.length_append]; omega, Lib.hid h3, Lib.hid ((HBk.out.trans (HBA.out.mono (Nat.le_trans HBa.out HBk.out.size))).trans hb3), Lib.hid ((HSk.out.trans HSA.out).trans hs3)⟩
      case measure => simp [intOf]; omega
     ·have HZ : Hid (W = p' ++ (opt q4 (vint x.n.toNat) ++ (opt q8 (textW x.name) ++ (opt q16 ((vint x.cases.length ++ casesW x.cases)) ++ (opt q32 ((vint x.segs.length ++ segsW x.segs)) ++ (opt q64 (vint x.to.toNat) ++ (opt q128 (vint x.live.toNat) ++ ([] : List UInt8)))))))) := Lib.hid (by rw [HK.out, List.drop_eq_nil_of_le (by omega)]; rfl)
      go_wp2_with fail
      go_meet
      case rel => exact ⟨p', HZ, by omega, HWk, HBk, HSk⟩
  case rest =>
   obtain ⟨p, HP, hpl, HWp, HBp, HSp⟩ := hcut
   have hcR : wc.cell? ⟨R, 0, none⟩ = some (.int .i64 (h : Nat)) := by rw [cell_of_row _ _ _ _ _ _ (HSp.out _ _ _ _ HRa.out (by decide) (by decide))]; rfl
   go_upto_if 63 with fail
   clear hcR
   go_cut [] (fun wx => ∃ p : List UInt8, Hid (W = p ++ (opt q8 (textW x.name) ++ (opt q16 ((vint x.cases.length ++ casesW x.cases)) ++ (opt q32 ((vint x.segs.length ++ segsW x.segs)) ++ (opt q64 (vint x.to.toNat) ++ (opt q128 (vint x.live.toNat) ++ ([] : List UInt8))))))) ∧ p.length ≤ l.length + 150110 ∧ Hid (WrAt w0.heap.size r p wx) ∧ Hid (Below w0.heap.size Wa wx) ∧ Hid (Stays Wa wx))
   case first =>
    cases q4 with
    | false =>
     go_wp2_with fail
     go_meet
     case rel => exact ⟨p, Lib.hid (by rw [HP.out]; rfl), by omega, HWp, HBp, HSp⟩
    | true =>
     have hxc := HX.out.below (HXa.out.trans HBp.out)
     have k5 := hxc.c5; have hbl2 := hxc.lt
     clear hxc
     have hal := vint_len x.n.toNat
     go_wp2_with (go_at_call 45; refine (wnum_any w0.heap.size r p x.n _ HWp.out HW.out.n0 (Int.le_trans HW.out.n1 (by decide)) (by omega)).mono ?_; rintro e w2 ⟨rfl, h2, hb2, hs2⟩)
     go_meet
     case rel => exact ⟨p ++ vint x.n.toNat, Lib.hid (by rw [HP.out, opt_yes]; rw [List.append_assoc]), by (try simp only [List.length_append]); omega, (Lib.hid h2), (Lib.hid (HBp.out.trans hb2)), (Lib.hid (HSp.out.trans hs2))⟩
   case rest =>
    obtain ⟨p, HP, hpl, HWp, HBp, HSp⟩ := hcut
    have hcR : wc.cell? ⟨R, 0, none⟩ = some (.int .i64 (h : Nat)) := by rw [cell_of_row _ _ _ _ _ _ (HSp.out _ _ _ _ HRa.out (by decide) (by decide))]; rfl
    go_upto_if 73 with fail
    clear hcR
    go_cut [] (fun wx => ∃ p : List UInt8, Hid (W = p ++ (opt q16 ((vint x.cases.length ++ casesW x.cases)) ++ (opt q32 ((vint x.segs.length ++ segsW x.segs)) ++ (opt q64 (vint x.to.toNat) ++ (opt q128 (vint x.live.toNat) ++ ([] : List UInt8)))))) ∧ p.length ≤ l.length + 200110 ∧ Hid (WrAt w0.heap.size r p wx) ∧ Hid (Below w0.heap.size Wa wx) ∧ Hid (Stays Wa wx))
    case first =>
     cases q8 with
     | false =>
      go_wp2_with fail
      go_meet
      case rel => exact ⟨p, Lib.hid (by rw [HP.out]; rfl), by omega, HWp, HBp, HSp⟩
     | true =>
      have hxc := HX.out.below (HXa.out.trans HBp.out)
      have k7 := hxc.c7; have hbl2 := hxc.lt
      clear hxc
      have hal := textW_len x.name
      have hns := HW.out.name
      go_wp2_with (go_at_call 44; refine (wtext_any w0.heap.size r p x.name _ HWp.out (by omega) (by omega)).mono ?_; rintro e w2 ⟨rfl, h2, hb2, hs2⟩)
      go_meet
      case rel => exact ⟨p ++ textW x.name, Lib.hid (by rw [HP.out, opt_yes]; rw [List.append_assoc]), by (try simp only [List.length_append]); omega, Lib.hid h2, Lib.hid (HBp.out.trans hb2), Lib.hid (HSp.out.trans hs2)⟩
    case rest =>
     obtain ⟨p, HP, hpl, HWp, HBp, HSp⟩ := hcut
     have hcR : wc.cell? ⟨R, 0, none⟩ = some (.int .i64 (h : Nat)) := by rw [cell_of_row _ _ _ _ _ _ (HSp.out _ _ _ _ HRa.out (by decide) (by decide))]; rfl
     go_upto_if 83 with fail
     clear hcR
     go_cut [] (fun wx => ∃ p : List UInt8, Hid (W = p ++ (opt q32 ((vint x.segs.length ++ segsW x.segs)) ++ (opt q64 (vint x.to.toNat) ++ (opt q128 (vint x.live.toNat) ++ ([] : List UInt8))))) ∧ p.length ≤ l.length + 250110 ∧ Hid (WrAt w0.heap.size r p wx) ∧ Hid (Below w0.heap.size Wa wx) ∧ Hid (Stays Wa wx))
     case first =>
      cases q16 with
      | false =>
       go_wp2_with fail
       go_meet
       case rel => exact ⟨p, Lib.hid (by rw [HP.out]; rfl), by omega, HWp, HBp, HSp⟩
      | true =>
       have hxc := HX.out.below (HXa.out.trans HBp.out)
       have kc := hxc.c8; have hbl2 := hxc.lt
       clear hxc
       have hlen := HW.out.casesLen
       have hvl := vint_len x.cases.length
       go_wp2_with (go_at_call 45; refine (wnum_any w0.heap.size r p (x.cases.length : Int) _ HWp.out (by omega) (by omega) (by omega)).mono ?_; rintro e w2 ⟨rfl, h2, hb2, hs2⟩; have kc2 := (HX.out.below (HXa.out.trans (HBp.out.trans hb2))).c8)
       rw [Int.toNat_natCast] at h2
       have HQ : Hid (W = (p ++ vint x.cases.length) ++ (casesW (x.cases.drop 0) ++ (opt q32 ((vint x.segs.length ++ segsW x.segs)) ++ (opt q64 (vint x.to.toNat) ++ (opt q128 (vint x.live.toNat) ++ ([] : List UInt8)))))) := Lib.hid (by rw [HP.out, opt_yes, List.drop_zero]; simp only [List.append_assoc])
       have hpl2 : (p ++ vint x.cases.length).length ≤ p.length + 10 := by rw [List.length_append]; omega
       generalize p ++ vint x.cases.length = p2 at *
       have HB2 := Lib.hid (HBp.out.trans hb2); have HS2 := Lib.hid (HSp.out.trans hs2); have HW2 := Lib.hid h2
       clear hb2 hs2 h2 kc
       go_loopw [96] (fun iv wr => ∃ (k : Nat) (p' : List UInt8), k ≤ x.cases.length ∧ iv = .int .i64 k ∧ Hid (W = p' ++ (casesW (x.cases.drop k) ++ (opt q32 ((vint x.segs.length ++ segsW x.segs)) ++ (opt q64 (vint x.to.toNat) ++ (opt q128 (vint x.live.toNat) ++ ([] : List UInt8)))))) ∧ p'.length ≤ p2.length + 20 * k ∧ Hid (WrAt w0.heap.size r p' wr) ∧ Hid (Below w0.heap.size Wa wr) ∧ Hid (Stays Wa wr)) (fun iv _ => x.cases.length - (intOf iv).toNat)
       case atStart => exact ⟨0, p2, Nat.zero_le _, rfl, HQ, by omega, HW2, HB2, HS2⟩
       case round =>
        obtain ⟨k, p', hk, rfl, HK, hpk, HWk, HBk, HSk⟩ := hrel
        rename World => wr
        by_cases hlt : k < x.cases.length
        ·obtain ⟨b2, off, hao, hb2, q0, q1, r0, r1⟩ := (HX.out.below (HXa.out.trans HBk.out)).cases.case hlt
         subst hao
         have HST := Lib.hid (casesW_step x.cases hlt)
         have HAW := Lib.hid (HW.out.cases _ (List.getElem_mem hlt))
         generalize x.cases[k] = a at *
         have hba := (Below.refl wr.heap.size wr).alloc (Nat.le_refl _) (.cells #[.int .i64 a.lit, .int .i64 a.to] 131)
         have hsa := (Stays.refl wr).alloc (.cells #[.int .i64 a.lit, .int .i64 a.to] 131)
         have hLc := heap_alloc_new wr (.cells #[.int .i64 a.lit, .int .i64 a.to] 131)
         have hal := vint_len a.lit.toNat; have hal2 := vint_len a.to.toNat
         have HBA := Lib.hid hba; have HSA := Lib.hid hsa; have HLC := Lib.hid hLc
         clear hba hsa hLc
         go_wp2_with fail
         refine (wnum_any w0.heap.size r p' a.lit _ (HWk.out.next HBA.out) HAW.out.1 (Int.le_trans HAW.out.2.1 (by decide)) (by omega)).mono ?_
         rintro e w3 ⟨rfl, h3, hb3, hs3⟩
         have g1 : w3.cell? ⟨wr.heap.size, 1, none⟩ = some (.int .i64 a.to) := by rw [cell_of_row _ _ _ _ _ _ (hs3 _ _ _ _ HLC.out (by decide) (by decide))]; rfl
         have H3 := Lib.hid h3; have HB3 := Lib.hid hb3; have HS3 := Lib.hid hs3
         clear h3 hb3 hs3
         go_wp2_with fail
         refine (wnum_any w0.heap.size r (p' ++ vint a.lit.toNat) a.to _ H3.out HAW.out.2.2.1 (Int.le_trans HAW.out.2.2.2 (by decide)) (by rw [List.length_append]; omega)).mono ?_
         rintro e w4 ⟨rfl, h4, hb4, hs4⟩
         go_wp2_with fail
         go_roundw
         case rel => exact ⟨k + 1, (p' ++ vint a.lit.toNat) ++ vint a.to.toNat, by omega, by go_num, Lib.hid (by rw [HK.out, HST.out]; simp only [List.append_assoc]), by rw [List.length_append, List.length_append]; omega, Lib.hid h4, Lib.hid (((HBk.out.trans (HBA.out.mono (Nat.le_trans HBa.out HBk.out.size))).trans HB3.out).trans hb4), Lib.hid (((HSk.out.trans HSA.out).trans HS3.out).trans hs4)⟩
         case measure => simp [intOf]; omega
        ·have HZ : Hid (W = p' ++ (opt q32 ((vint x.segs.length ++ segsW x.segs)) ++ (opt q64 (vint x.to.toNat) ++ (opt q128 (vint x.live.toNat) ++ ([] : List UInt8))))) := Lib.hid (by rw [HK.out, List.drop_eq_nil_of_le (by omega)]; rfl)
         go_wp2_with fail
         go_meet
         case rel => exact ⟨p', HZ, by omega, HWk, HBk, HSk⟩
     case rest =>
      obtain ⟨p, HP, hpl, HWp, HBp, HSp⟩ := hcut
      have hcR : wc.cell? ⟨R, 0, none⟩ = some (.int .i64 (h : Nat)) := by rw [cell_of_row _ _ _ _ _ _ (HSp.out _ _ _ _ HRa.out (by decide) (by decide))]; rfl
      go_upto_if 112 with fail
      clear hcR
      go_cut [] (fun wx => ∃ p : List UInt8, Hid (W = p ++ (opt q64 (vint x.to.toNat) ++ (opt q128 (vint x.live.toNat) ++ ([] : List UInt8)))) ∧ p.length ≤ l.length + 300110 ∧ Hid (WrAt w0.heap.size r p wx) ∧ Hid (Below w0.heap.size Wa wx) ∧ Hid (Stays Wa wx))
      case first =>
       cases q32 with
       | false =>
        go_wp2_with fail
        go_meet
        case rel => exact ⟨p, Lib.hid (by rw [HP.out]; rfl), by omega, HWp, HBp, HSp⟩
       | true =>
        have hxc := HX.out.below (HXa.out.trans HBp.out)
        have kc := hxc.c9; have hbl2 := hxc.lt
        clear hxc
        have hlen := HW.out.segsLen
        have hvl := vint_len x.segs.length
        go_wp2_with (go_at_call 45; refine (wnum_any w0.heap.size r p (x.segs.length : Int) _ HWp.out (by omega) (by omega) (by omega)).mono ?_; rintro e w2 ⟨rfl, h2, hb2, hs2⟩; have kc2 := (HX.out.below (HXa.out.trans (HBp.out.trans hb2))).c9)
        rw [Int.toNat_natCast] at h2
        have HQ : Hid (W = (p ++ vint x.segs.length) ++ (segsW (x.segs.drop 0) ++ (opt q64 (vint x.to.toNat) ++ (opt q128 (vint x.live.toNat) ++ ([] : List UInt8))))) := Lib.hid (by rw [HP.out, opt_yes, List.drop_zero]; simp only [List.append_assoc])
        have hpl2 : (p ++ vint x.segs.length).length ≤ p.length + 10 := by rw [List.length_append]; omega
        generalize p ++ vint x.segs.length = p2 at *
        have HB2 := Lib.hid (HBp.out.trans hb2); have HS2 := Lib.hid (HSp.out.trans hs2); have HW2 := Lib.hid h2
        clear hb2 hs2 h2 kc
        go_loopw [125] (fun iv wr => ∃ (k : Nat) (p' : List UInt8), k ≤ x.segs.length ∧ iv = .int .i64 k ∧ Hid (W = p' ++ (segsW (x.segs.drop k) ++ (opt q64 (vint x.to.toNat) ++ (opt q128 (vint x.live.toNat) ++ ([] : List UInt8))))) ∧ p'.length ≤ p2.length + 40 * k ∧ Hid (WrAt w0.heap.size r p' wr) ∧ Hid (Below w0.heap.size Wa wr) ∧ Hid (Stays Wa wr)) (fun iv _ => x.segs.length - (intOf iv).toNat)
        case atStart => exact ⟨0, p2, Nat.zero_le _, rfl, HQ, by omega, HW2, HB2, HS2⟩
        case round =>
         obtain ⟨k, p', hk, rfl, HK, hpk, HWk, HBk, HSk⟩ := hrel
         rename World => wr
         by_cases hlt : k < x.segs.length
         ·obtain ⟨b2, off, hao, hb2, q0, q1, q2, q3, q4, q5, r0, r1, r2, r3, r4⟩ := (HX.out.below (HXa.out.trans HBk.out)).segs.seg hlt
          subst hao
          have HST := Lib.hid (segsW_step x.segs hlt)
          have HAW := Lib.hid (HW.out.segs _ (List.getElem_mem hlt))
          generalize x.segs[k] = a at *
          have hba := (Below.refl wr.heap.size wr).alloc (Nat.le_refl _) (.cells #[.int .i64 a.type, .int .i64 a.val.kind, .int .i64 a.val.n, .int .i64 a.size.kind, .int .i64 a.size.n, .bool a.little] 133)
          have hsa := (Stays.refl wr).alloc (.cells #[.int .i64 a.type, .int .i64 a.val.kind, .int .i64 a.val.n, .int .i64 a.size.kind, .int .i64 a.size.n, .bool a.little] 133)
          have hLc := heap_alloc_new wr (.cells #[.int .i64 a.type, .int .i64 a.val.kind, .int .i64 a.val.n, .int .i64 a.size.kind, .int .i64 a.size.n, .bool a.little] 133)
          have hal := vint_len a.type.toNat; have hal2 := argW_len a.val; have hal3 := argW_len a.size; have hal4 := boolW_len a.little
          have HBA := Lib.hid hba; have HSA := Lib.hid hsa; have HLC := Lib.hid hLc
          clear hba hsa hLc
          go_wp2_with fail
          refine (wnum_any w0.heap.size r p' a.type _ (HWk.out.next HBA.out) HAW.out.1 (Int.le_trans HAW.out.2.1 (by decide)) (by omega)).mono ?_
          rintro e w3 ⟨rfl, h3, hb3, hs3⟩
          have HL3 := Lib.hid (hs3 _ _ _ _ HLC.out (by decide) (by decide))
          have H3 := Lib.hid h3; have HB3 := Lib.hid hb3; have HS3 := Lib.hid hs3
          clear h3 hb3 hs3
          have g1 : w3.cell? ⟨wr.heap.size, 1, none⟩ = some (.int .i64 a.val.kind) := by rw [cell_of_row _ _ _ _ _ _ HL3.out]; rfl
          have g2 : w3.cell? ⟨wr.heap.size, 2, none⟩ = some (.int .i64 a.val.n) := by rw [cell_of_row _ _ _ _ _ _ HL3.out]; rfl
          go_wp2_with fail
          refine (warg_any w0.heap.size r (p' ++ vint a.type.toNat) a.val _ H3.out (by rw [List.length_append]; omega) HAW.out.2.2.1.n0 (Int.le_trans HAW.out.2.2.1.n1 (by decide)) HAW.out.2.2.1.k0 HAW.out.2.2.1.k1).mono ?_
          rintro e w4 ⟨rfl, h4, hb4, hs4⟩
          have HL4 := Lib.hid (hs4 _ _ _ _ HL3.out (by decide) (by decide))
          have H4 := Lib.hid h4; have HB4 := Lib.hid hb4; have HS4 := Lib.hid hs4
          clear h4 hb4 hs4 g1 g2
          have g3 : w4.cell? ⟨wr.heap.size, 3, none⟩ = some (.int .i64 a.size.kind) := by rw [cell_of_row _ _ _ _ _ _ HL4.out]; rfl
          have g4 : w4.cell? ⟨wr.heap.size, 4, none⟩ = some (.int .i64 a.size.n) := by rw [cell_of_row _ _ _ _ _ _ HL4.out]; rfl
          go_wp2_with fail
          refine (warg_any w0.heap.size r ((p' ++ vint a.type.toNat) ++ argW a.val) a.size _ H4.out (by rw [List.length_append, List.length_append]; omega) HAW.out.2.2.2.n0 (Int.le_trans HAW.out.2.2.2.n1 (by decide)) HAW.out.2.2.2.k0 HAW.out.2.2.2.k1).mono ?_
          rintro e w5 ⟨rfl, h5, hb5, hs5⟩
          have HL5 := Lib.hid (hs5 _ _ _ _ HL4.out (by decide) (by decide))
          have H5 := Lib.hid h5; have HB5 := Lib.hid hb5; have HS5 := Lib.hid hs5
          clear h5 hb5 hs5 g3 g4
          have g5 : w5.cell? ⟨wr.heap.size, 5, none⟩ = some (.bool a.little) := by rw [cell_of_row _ _ _ _ _ _ HL5.out]; rfl
          go_wp2_with fail
          refine (wbool_any w0.heap.size r (((p' ++ vint a.type.toNat) ++ argW a.val) ++ argW a.size) a.little _ H5.out (by rw [List.length_append, List.length_append, List.length_append]; omega)).mono ?_
          rintro e w7 ⟨rfl, h7, hb7, hs7⟩
          go_wp2_with fail
          go_roundw
          case rel => exact ⟨k + 1, (((p' ++ vint a.type.toNat) ++ argW a.val) ++ argW a.size) ++ boolW a.little, by omega, by go_num, Lib.hid (by rw [HK.out, HST.out]; simp only [List.append_assoc]), by simp only [List.length_append]; omega, Lib.hid h7, Lib.hid (((((HBk.out.trans (HBA.out.mono (Nat.le_trans HBa.out HBk.out.size))).trans HB3.out).trans HB4.out).trans HB5.out).trans hb7), Lib.hid (((((HSk.out.trans HSA.out).trans HS3.out).trans HS4.out).trans HS5.out).trans hs7)⟩
          case measure => simp [intOf]; omega
         ·have HZ : Hid (W = p' ++ (opt q64 (vint x.to.toNat) ++ (opt q128 (vint x.live.toNat) ++ ([] : List UInt8)))) := Lib.hid (by rw [HK.out, List.drop_eq_nil_of_le (by omega)]; rfl)
          go_wp2_with fail
          go_meet
          case rel => exact ⟨p', HZ, by omega, HWk, HBk, HSk⟩
      case rest =>
       obtain ⟨p, HP, hpl, HWp, HBp, HSp⟩ := hcut
       have hcR : wc.cell? ⟨R, 0, none⟩ = some (.int .i64 (h : Nat)) := by rw [cell_of_row _ _ _ _ _ _ (HSp.out _ _ _ _ HRa.out (by decide) (by decide))]; rfl
       go_upto_if 149 with fail
       clear hcR
       go_cut [] (fun wx => ∃ p : List UInt8, Hid (W = p ++ (opt q128 (vint x.live.toNat) ++ ([] : List UInt8))) ∧ p.length ≤ l.length + 350110 ∧ Hid (WrAt w0.heap.size r p wx) ∧ Hid (Below w0.heap.size Wa wx) ∧ Hid (Stays Wa wx))
       case first =>
        cases q64 with
        | false =>
         go_wp2_with fail
         go_meet
         case rel => exact ⟨p, Lib.hid (by rw [HP.out]; rfl), by omega, HWp, HBp, HSp⟩
        | true =>
         have hxc := HX.out.below (HXa.out.trans HBp.out)
         have k4 := hxc.c4; have hbl2 := hxc.lt
         clear hxc
         have hal := vint_len x.to.toNat
         go_wp2_with (go_at_call 45; refine (wnum_any w0.heap.size r p x.to _ HWp.out HW.out.to0 (Int.le_trans HW.out.to1 (by decide)) (by omega)).mono ?_; rintro e w2 ⟨rfl, h2, hb2, hs2⟩)
         go_meet
         case rel => exact ⟨p ++ vint x.to.toNat, Lib.hid (by rw [HP.out, opt_yes]; rw [List.append_assoc]), by (try simp only [List.length_append]); omega, (Lib.hid h2), (Lib.hid (HBp.out.trans hb2)), (Lib.hid (HSp.out.trans hs2))⟩
       case rest =>
        obtain ⟨p, HP, hpl, HWp, HBp, HSp⟩ := hcut
        have hcR : wc.cell? ⟨R, 0, none⟩ = some (.int .i64 (h : Nat)) := by rw [cell_of_row _ _ _ _ _ _ (HSp.out _ _ _ _ HRa.out (by decide) (by decide))]; rfl
        go_upto_if 159 with fail
        clear hcR
        cases q128 with
        | false =>
         go_wp2_with fail
         go_end0
         exact ⟨rfl, by have h := HP.out; rw [opt_no, List.append_nil] at h; rw [HWW.out, h]; exact HWp.out, (HWa.out.mono HBB.out).trans HBp.out, HSa.out.trans HSp.out⟩
        | true =>
         have hxc := HX.out.below (HXa.out.trans HBp.out)
         have k6 := hxc.c6; have hbl2 := hxc.lt
         clear hxc
         have hal := vint_len x.live.toNat
         go_wp2_with (go_at_call 45; refine (wnum_any w0.heap.size r p x.live _ HWp.out HW.out.live0 (Int.le_trans HW.out.live1 (by decide)) (by omega)).mono ?_; rintro e w2 ⟨rfl, h2, hb2, hs2⟩)
         go_end0
         exact ⟨rfl, by have h := HP.out; rw [opt_yes, List.append_nil] at h; rw [HWW.out, h]; exact (Lib.hid h2).out, (HWa.out.mono HBB.out).trans (Lib.hid (HBp.out.trans hb2)).out, HSa.out.trans (Lib.hid (HSp.out.trans hs2)).out⟩
end Go.Proofs.YtghgbikmlbildaaGreatDoor
