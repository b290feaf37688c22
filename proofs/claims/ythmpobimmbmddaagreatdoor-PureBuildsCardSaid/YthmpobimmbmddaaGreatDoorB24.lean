/-
  What is not too large to be tried has few nodes. No program in sight. The lent segments of PureBuilds, one after the other, beside the given ones; how long a field is. terms.Copy, terms.copies: the walks: a copy lies in new blocks, its parts apart from one another. stagehandkit.Lend, LendList, mark: the walks.
-/
import Derived.Deep.MidRow
import Derived.Deep.AppendLies
import Derived.Laws.CopyOwn
import Derived.Deep.RegionHeld3
import Derived.Deep.DeepCutAuto
import Derived.Deep.Cut
import Derived.Test.YthmpobimmbmddaaGreatDoorB01
import Derived.Test.YthmpobimmbmddaaGreatDoorB05
import Derived.Test.YthmpobimmbmddaaGreatDoorB19
import Derived.Test.YthmpobimmbmddaaGreatDoorB23
namespace Go.Proofs.YthmpobimmbmddaaGreatDoor
open Go.RowKit

theorem left_cap {w : World} : ∀ (f : Nat) (l : List Tm) (m : Int), (∀ t ∈ l, ∃ cs, TmAt w f cs t) → 0 ≤ leftF f l m → ((sumN (l.map (capF f)) + l.length : Nat) : Int) ≤ 301 * (m - leftF f l m)
  | 0, l, m, h, _ => by
    cases l with
    | nil => show ((0 + 0 : Nat) : Int) ≤ 301 * (m - m); omega
    | cons t l => obtain ⟨cs, hf⟩ := h t List.mem_cons_self; exact hf.elim
  | f + 1, l, m, h, hp => by
    have IH := left_cap (w := w) f
    show ((sumN (l.map (capF (f + 1))) + l.length : Nat) : Int) ≤ 301 * (m - leftL (leftF f) l m)
    have hp : 0 ≤ leftL (leftF f) l m := hp
    induction l generalizing m with
    | nil => show ((0 + 0 : Nat) : Int) ≤ 301 * (m - m); omega
    | cons t l ih =>
      unfold leftL at hp ⊢
      by_cases h0 : m < 0
      · rw [if_pos h0] at hp; omega
      · rw [if_neg h0] at hp ⊢
        by_cases h1 : m < t.name.size ∨ m < t.func.size ∨ m < t.bytes.size
        · rw [if_pos h1] at hp; omega
        · rw [if_neg h1] at hp ⊢
          have hm1 : -1 ≤ m - 1 - (t.name.size : Int) / 8 - (t.func.size : Int) / 8 - (t.bytes.size : Int) / 8 := by omega
          have hm2 : m - 1 - (t.name.size : Int) / 8 - (t.func.size : Int) / 8 - (t.bytes.size : Int) / 8 ≤ m - 1 := by omega
          generalize m - 1 - (t.name.size : Int) / 8 - (t.func.size : Int) / 8 - (t.bytes.size : Int) / 8 = m1 at *
          have hle := leftF_le f t.items m1 hm1
          have hle2 := leftL_le (leftF_le f) l (leftF f t.items m1) hle.1
          obtain ⟨cs, ⟨ao, c, _, hs⟩, _⟩ := h t List.mem_cons_self
          have hi := IH t.items m1 (fun x hx => by
            obtain ⟨j, hj, rfl⟩ := List.getElem_of_mem hx
            obtain ⟨_, _, _, _, hr⟩ := hs.row hj
            obtain ⟨cs', _, _, h'⟩ := hr j hj
            exact ⟨cs', h'⟩) (by omega)
          have hl := ih (leftF f t.items m1) (fun x hx => h x (List.mem_cons_of_mem _ hx)) (by simpa [leftF] using hp) hp
          have e1 : sumN ((t :: l).map (capF (f + 1))) = (300 + t.items.length + sumN (t.items.map (capF f))) + sumN (l.map (capF (f + 1))) := rfl
          rw [e1, List.length_cons]
          omega
theorem sumN_mem : ∀ (l : List Nat) (x : Nat), x ∈ l → x ≤ sumN l
  | [], _, h => by cases h
  | y :: l, x, h => by
    show x ≤ y + sumN l
    rcases List.mem_cons.1 h with rfl | h
    · omega
    · have := sumN_mem l x h; omega
end Go.Proofs.YthmpobimmbmddaaGreatDoor
namespace Go.Proofs.YthmpobimmbmddaaGreatDoor
open Go.RowKit
set_option linter.unusedVariables false
set_option linter.unusedSimpArgs false

theorem fieldV_len {f : Nat} {x : Fd} {m : List Bool} (h : fieldV f x = some m) (hy : x.text.size ≤ 5000) : m.length ≤ 40000 := by
  unfold fieldV at h
  split at h
  · obtain rfl := Option.some.inj h
    rw [bits_size]; omega
  split at h
  · cases h
  rename_i hv0
  have hv : validF (f + 1) x.val = true := by simpa using hv0
  split at h
  · split at h
    · cases h
    · rename_i h2
      obtain rfl := Option.some.inj h
      rcases sizeV_cases f x 8 64 (by decide) (by decide) with hs | ⟨n, hs, hn⟩
      · rw [hs] at h2; exact absurd (.inl (by decide)) h2
      · rw [hs] at h2 ⊢
        rw [intBits_len _ _ _ (fun hl => ?_)]
        · rw [Int.toNat_natCast]; omega
        · rw [Int.toNat_natCast]
          apply Classical.byContradiction
          intro hne
          exact h2 (.inr ⟨hl, by omega⟩)
  have hsub : ∀ (l : List Bool) (n : Nat), (sub l 0 n).length ≤ n := fun l n => by unfold sub; rw [List.length_take]; exact Nat.min_le_left _ _
  split at h
  · rename_i h3
    split at h
    · cases h
    · obtain rfl := Option.some.inj h
      obtain ⟨m', hm, e, _⟩ := bits_is hv h3.2
      have eb : x.val.bits = (m'.length : Int) := by rw [e]; rfl
      have := hsub (bitsL x.val.bytes.data.toList) (sizeV f x x.val.bits x.val.bits).toNat
      rcases sizeV_cases f x x.val.bits x.val.bits (by omega) (by omega) with hs | ⟨n, hs, hn⟩
      · rw [hs] at this ⊢; simp at this ⊢; omega
      · rw [hs, Int.toNat_natCast] at this ⊢; omega
  split at h
  · rename_i h3
    split at h
    · cases h
    split at h
    · cases h
    · obtain rfl := Option.some.inj h
      obtain ⟨m', hm, e, _⟩ := bits_is hv h3.2
      have eb : x.val.bits = (m'.length : Int) := by rw [e]; rfl
      have := hsub (bitsL x.val.bytes.data.toList) (8 * (sizeV f x (x.val.bits / 8) (x.val.bits / 8)).toNat)
      rcases sizeV_cases f x (x.val.bits / 8) (x.val.bits / 8) (by omega) (by omega) with hs | ⟨n, hs, hn⟩
      · rw [hs] at this ⊢; simp at this ⊢; omega
      · rw [hs, Int.toNat_natCast] at this ⊢; omega
  · cases h
/-- A segment that is not too large. -/
def SegOk (f : Nat) (x : Fd) : Prop := x.text.size ≤ 5000 ∧ capF (f + 1) x.val ≤ 1000000 ∧ capF (f + 1) x.size ≤ 1000000
abbrev pairRow (x : Fd) (vo : Option Addr) (vc : Nat) (so : Option Addr) (sc : Nat) : Array Value := #[.int .i64 x.val.kind, .int .i64 x.val.int, .int .i64 x.val.gen, .string x.val.name, .string x.val.func, .int .i64 x.val.arity, .slice vo x.val.items.length vc, .string x.val.bytes, .int .i64 x.val.bits, .int .i64 x.size.kind, .int .i64 x.size.int, .int .i64 x.size.gen, .string x.size.name, .string x.size.func, .int .i64 x.size.arity, .slice so x.size.items.length sc, .string x.size.bytes, .int .i64 x.size.bits]
theorem pair_at {w : World} {g f : Nat} {x : Fd} {vo so : Option Addr} {vc sc : Nat} (h : w.heap[g]? = some (.cells (pairRow x vo vc so sc) 28 (0, 0))) (h1 : SlAt w 9 (TmAt w f) vo x.val.items) (h2 : SlAt w 9 (TmAt w f) so x.size.items) (o1 : x.val.Ok) (o2 : x.size.Ok) :
    SlAt w 9 (TmAt w (f + 1)) (some ⟨g, 0, none⟩) [x.val, x.size] := by
  refine .inr ⟨g, 0, rfl, lt_of_row h, fun j hj => ?_⟩
  match j, hj with
  | 0, _ =>
    refine ⟨_, rfl, fun i hi => ?_, ⟨vo, vc, rfl, h1⟩, o1⟩
    rw [cell_of_row _ _ _ _ _ _ h, show 0 + 0 * 9 + i = i by omega]
    match i, hi with
    | 0, _ | 1, _ | 2, _ | 3, _ | 4, _ | 5, _ | 6, _ | 7, _ | 8, _ => rfl
    | n + 9, hi => exact absurd hi (by omega)
  | 1, _ =>
    refine ⟨_, rfl, fun i hi => ?_, ⟨so, sc, rfl, h2⟩, o2⟩
    rw [cell_of_row _ _ _ _ _ _ h, show 0 + 1 * 9 + i = 9 + i by omega]
    match i, hi with
    | 0, _ | 1, _ | 2, _ | 3, _ | 4, _ | 5, _ | 6, _ | 7, _ | 8, _ => rfl
    | n + 9, hi => exact absurd hi (by omega)
  | n + 2, h => exact absurd h (by simp)
theorem seg_left {w : World} {f : Nat} {x : Fd} {ao : Option Addr} (hs : SlAt w 9 (TmAt w (f + 1)) ao [x.val, x.size]) (h : 0 ≤ leftF (f + 1) [x.val, x.size] 3000) (hy : x.text.size ≤ 5000) : SegOk f x := by
  have hc := left_cap (w := w) (f + 1) [x.val, x.size] 3000 (fun t ht => by
    obtain ⟨j, hj, rfl⟩ := List.getElem_of_mem ht
    obtain ⟨_, _, _, _, hr⟩ := hs.row hj
    obtain ⟨cs', _, _, h'⟩ := hr j hj
    exact ⟨cs', h'⟩) h
  have h1 := sumN_mem ([x.val, x.size].map (capF (f + 1))) (capF (f + 1) x.val) (by simp)
  have h2 := sumN_mem ([x.val, x.size].map (capF (f + 1))) (capF (f + 1) x.size) (by simp)
  exact ⟨hy, by omega, by omega⟩
/-- Where a given segment lies. -/
def Orig (w0 : World) (ao : Option Addr) (j : Nat) (x : Fd) (vo0 : Option Addr) (vc0 : Nat) (so0 : Option Addr) (sc0 : Nat) : Prop :=
  ∃ b off, ao = some ⟨b, off, none⟩ ∧ b < w0.heap.size ∧ ∀ i, i < 23 → w0.cell? ⟨b, off + j * 23 + i, none⟩ = (fdRow x vo0 vc0 so0 sc0)[i]?
/-- The rows are lent copies of the first segments. -/
def BuiltR (w w0 : World) (f : Nat) (o : Option Nat) (ao : Option Addr) (rows : List (Array Value)) (fs : List Fd) : Prop :=
  (∀ r ∈ rows, r.size = 23) ∧ ∀ j r x, rows[j]? = some r → fs[j]? = some x → (∃ vo0 vc0 so0 sc0, Orig w0 ao j x vo0 vc0 so0 sc0 ∧ LentF w w0.heap.size f o r vo0 so0 x) ∧ SegOk f x
theorem BuiltR.nil (w w0 : World) (f : Nat) (o : Option Nat) (ao : Option Addr) (fs : List Fd) : BuiltR w w0 f o ao [] fs := ⟨fun r h => by simp at h, fun j r x h => by simp at h⟩
theorem BuiltR.kept {w w' w0 : World} {f : Nat} {o o' : Option Nat} {ao : Option Addr} {rows : List (Array Value)} {fs : List Fd} (h : BuiltR w w0 f o ao rows fs) (hB : w0.heap.size ≤ w.heap.size) (hs : w.heap.size ≤ w'.heap.size)
    (hk : ∀ b, b < w.heap.size → o ≠ some b → w'.heap[b]? = w.heap[b]?) (ho : o' = o ∨ ∀ b, o' = some b → w.heap.size ≤ b) : BuiltR w' w0 f o' ao rows fs :=
  ⟨h.1, fun j r x h1 h2 => by
    obtain ⟨⟨vo0, vc0, so0, sc0, a, b⟩, c⟩ := h.2 j r x h1 h2
    exact ⟨⟨vo0, vc0, so0, sc0, a, b.kept hB hs hk ho⟩, c⟩⟩
theorem BuiltR.below {w w' w0 : World} {f : Nat} {o : Option Nat} {ao : Option Addr} {rows : List (Array Value)} {fs : List Fd} (h : BuiltR w w0 f o ao rows fs) (hB : w0.heap.size ≤ w.heap.size) (hb : Below w.heap.size w w') : BuiltR w' w0 f o ao rows fs :=
  h.kept hB hb.size (fun b h1 _ => hb.block b h1) (.inl rfl)
theorem BuiltR.snoc {w w0 : World} {f : Nat} {o : Option Nat} {ao : Option Addr} {rows : List (Array Value)} {fs : List Fd} {row : Array Value} {x : Fd} (h : BuiltR w w0 f o ao rows fs) (hr : row.size = 23) (hx : fs[rows.length]? = some x)
    {vo0 so0 : Option Addr} {vc0 sc0 : Nat} (ho : Orig w0 ao rows.length x vo0 vc0 so0 sc0) (hl : LentF w w0.heap.size f o row vo0 so0 x) (hs : SegOk f x) : BuiltR w w0 f o ao (rows ++ [row]) fs := by
  refine ⟨fun r hm => ?_, fun j r y h1 h2 => ?_⟩
  · rcases List.mem_append.1 hm with hm | hm
    · exact h.1 r hm
    · rw [List.mem_singleton.1 hm]; exact hr
  · rcases Nat.lt_or_ge j rows.length with hj | hj
    · rw [List.getElem?_append_left hj] at h1
      exact h.2 j r y h1 h2
    · have hj2 : j = rows.length := by
        have := (List.getElem?_eq_some_iff.1 h1).1
        simp at this; omega
      subst hj2
      rw [List.getElem?_append_right (Nat.le_refl _), Nat.sub_self] at h1
      obtain rfl := Option.some.inj h1
      rw [hx] at h2
      obtain rfl := Option.some.inj h2
      exact ⟨⟨vo0, vc0, so0, sc0, ho, hl⟩, hs⟩
/-- The new row, its two lists lent between the old heap and the new one. -/
theorem lentF_new {w w0 wx : World} {f l1 h1 l2 h2 : Nat} {x : Fd} {vo vo0 so so0 : Option Addr} {vc sc B : Nat} {v : Value} {n : Nat} {xs : List Value} {T : TypeId} {sz : Nat}
    (ho : w.ownsRow B T sz v n xs) (hB : w0.heap.size ≤ B) (a : LentL wx w0.heap.size (LentT wx w0.heap.size f) l1 h1 vo vc vo0 x.val.items) (b : LentL wx w0.heap.size (LentT wx w0.heap.size f) l2 h2 so sc so0 x.size.items)
    (e1 : w.heap.size ≤ l1) (e2 : w.heap.size ≤ l2) (e3 : h1 ≤ wx.heap.size) (e4 : h2 ≤ wx.heap.size) : LentF wx w0.heap.size f v.ownBlock (fdRow x vo vc so sc) vo0 so0 x :=
  ⟨vo, vc, so, sc, l1, h1, l2, h2, rfl, a, b, e3, e4, fun q hq => by
    have := ho.lt q hq
    exact ⟨.inl (by omega), .inl (by omega), by omega⟩⟩
theorem owns_rows {w : World} {B : Nat} {v : Value} {rows : List (Array Value)} (h : w.ownsRow B 30 23 v rows.length (cellsF rows)) (hs : ∀ r ∈ rows, r.size = 23) (hn : 0 < rows.length) :
    ∃ g cap, v = .slice (some ⟨g, 0, none⟩) rows.length cap ∧ g < w.heap.size ∧ ∀ j r, rows[j]? = some r → ∀ i, i < 23 → w.cell? ⟨g, j * 23 + i, none⟩ = r[i]? := by
  rcases h.2 with ⟨rfl, h0⟩ | ⟨g, cap, cur, rfl, _, hg, hc, _, hss, ht⟩
  · omega
  · refine ⟨g, cap, rfl, lt_of_row hg, fun j r hj i hi => ?_⟩
    obtain ⟨hjr, rfl⟩ := List.getElem?_eq_some_iff.1 hj
    have h1 := cellsF_at hs j i hjr hi
    rw [← ht, List.getElem?_take_of_lt (by omega), Array.getElem?_toList] at h1
    rw [cell_of_row _ _ _ _ _ _ hg, h1]
/-- A lent list of segments is a list of segments. -/
theorem built_fds {w w0 : World} {B f : Nat} {v : Value} {o : Option Nat} {ao : Option Addr} {rows : List (Array Value)} {fs : List Fd} (h : w.ownsRow B 30 23 v rows.length (cellsF rows)) (hl : rows.length = fs.length) (hb : BuiltR w w0 f o ao rows fs)
    (hok : ∀ x ∈ fs, I64 x.type ∧ x.text.size ≤ maxLen ∧ x.val.Ok ∧ x.size.Ok) : ∃ ao c, v = .slice ao fs.length c ∧ SlAt w 23 (FdR w f) ao fs :=
  owns_fds h hl (fun j h1 h2 => by
    obtain ⟨⟨vo0, vc0, so0, sc0, _, a⟩, _⟩ := hb.2 j _ _ (List.getElem?_eq_getElem h1) (List.getElem?_eq_getElem h2)
    exact a.fd (hok _ (List.getElem_mem h2))) hb.1
/-- Its two lists are not touched by a store into another block. -/
theorem LentL.row {w : World} {B0 f lo hi c B : Nat} {so so0 : Option Addr} {l : List Tm} (h : LentL w B0 (LentT w B0 f) lo hi so c so0 l) (R : Array Value) (hB : B < lo) (hB0 : B0 ≤ B) : LentL (w.setRow B R) B0 (LentT (w.setRow B R) B0 f) lo hi so c so0 l :=
  h.kept (fun b h1 _ => setRow_other _ _ _ _ (by omega)) (fun b h1 => setRow_other _ _ _ _ (by omega)) (Nat.le_refl _) (Nat.le_refl _) (Nat.le_refl _) fun a e cs cs0 t ha _ hx =>
    LentT.kept hx (fun b h1 _ => setRow_other _ _ _ _ (by omega)) (fun b h1 => setRow_other _ _ _ _ (by omega)) (Nat.le_refl _) (Nat.le_refl _) (Nat.le_refl _)
abbrev tmL (t : Tm) (so : Option Addr) (c : Nat) : List Value := [.int .i64 t.kind, .int .i64 t.int, .int .i64 t.gen, .string t.name, .string t.func, .int .i64 t.arity, .slice so t.items.length c, .string t.bytes, .int .i64 t.bits]
theorem range_val {w : World} {b o : Nat} {x : Fd} {vo so : Option Addr} {vc sc : Nat} (h : ∀ i, i < 23 → w.cell? ⟨b, o + i, none⟩ = (fdRow x vo vc so sc)[i]?) : w.rangeAt b (o + 2) (tmL x.val vo vc) := fun j v hj => by
  have hlt : j < 9 := (List.getElem?_eq_some_iff.1 hj).1
  rw [show o + 2 + j = o + (2 + j) by omega, h (2 + j) (by omega), ← hj]
  match j, hlt with
  | 0, _ | 1, _ | 2, _ | 3, _ | 4, _ | 5, _ | 6, _ | 7, _ | 8, _ => rfl
  | n + 9, hi => exact absurd hi (by omega)
theorem range_size {w : World} {b o : Nat} {x : Fd} {vo so : Option Addr} {vc sc : Nat} (h : ∀ i, i < 23 → w.cell? ⟨b, o + i, none⟩ = (fdRow x vo vc so sc)[i]?) : w.rangeAt b (o + 11) (tmL x.size so sc) := fun j v hj => by
  have hlt : j < 9 := (List.getElem?_eq_some_iff.1 hj).1
  rw [show o + 11 + j = o + (11 + j) by omega, h (11 + j) (by omega), ← hj]
  match j, hlt with
  | 0, _ | 1, _ | 2, _ | 3, _ | 4, _ | 5, _ | 6, _ | 7, _ | 8, _ => rfl
  | n + 9, hi => exact absurd hi (by omega)
theorem row_range {w : World} {b : Nat} {x : Fd} {vo so : Option Addr} {vc sc : Nat} {T : TypeId} (h : w.heap[b]? = some (.cells (fdRow x vo vc so sc) T (0, 0))) : ∀ i, i < 23 → w.cell? ⟨b, 0 + i, none⟩ = (fdRow x vo vc so sc)[i]? := fun i _ => by
  rw [Nat.zero_add]; exact cell_of_row _ _ _ _ _ _ h
/-- A struct is stored into the middle of a known block. -/
theorem wp_store_at {P : Program} {o : Oper} {a : Act} {w : World} {K : Act → World → Prop} {Q : Exit → Act → World → Prop} (ty : TypeId) (x y : Operand) (ho : o.op = .store ty x y) (g off : Nat) (hx : a.eval x = .pointer (some ⟨g, off, none⟩))
    (cs : Array Value) (hy : a.eval y = .agg cs) (t : TypeId) (cur new : Array Value) (hg : w.heap[g]? = some (.cells cur t (0, 0))) (hi : (P.info? ty).map (·.size) = some cs.size) (hfit : off + cs.size ≤ cur.size) (h1 : cs.all (·.oneCell') = true)
    (hn : (cur.toList.take off ++ cs.toList ++ cur.toList.drop (off + cs.size)).toArray = new) (h : K (a.put o.dst undef) (w.setRow g new)) : o.wp P a w K Q := by
  have := run_storeCells_at P g off t cs.toList 0 cur w hg (by simpa using hfit) (fun v hv => (Array.all_eq_true_iff_forall_mem.1 h1) v (by simpa using hv))
  have hst : (storeVar ty ⟨g, off, none⟩ (.agg cs)).run P w = .ok () (w.setRow g new) := by
    cases hq : P.info? ty with
    | none => simp [hq] at hi
    | some i =>
      have hs : cs.size = i.size := by simp [hq] at hi; omega
      simp only [Nat.add_zero, Array.length_toList, hn] at this
      simp [storeVar, sizeOf, typeInfo, hq, Value.cells, hs, this]
  unfold Oper.wp execOp
  simp only [ho, hx, hy, Instr.storeAt, Instr.sureAddr, Sem.run_bind, Sem.run_pure, Result.andThen_ok, hst]
  exact h
theorem infoFd : (Tryz.prog.info? 30).map (fun i => (i.zero, i.size, i.bytes)) = some (some (.agg zRow23), 23, 256) := by kernel_rfl
/-- A slice of one segment is made. -/
theorem wpList_build_fd {ops : Array Oper} {rest : List Oper} {o : Oper} {a : Act} {w : World} {Q : Exit → Act → World → Prop} (hgd : o.guard = none) (x : Operand) (ho : o.op = .buildSlice 25 1 #[(0, x)]) (R : Array Value) (hR : R.size = 23) (hx : a.eval x = .agg R)
    (h : wpList Tryz.prog ops Q rest (a.put o.dst (.slice (some ⟨w.heap.size, 0, none⟩) 1 1)) (w.alloc (.cells R 30))) : wpList Tryz.prog ops Q (o :: rest) a w := by
  obtain ⟨it, hi, hz0, hz1, hz2⟩ := info_parts infoFd
  refine wpList_plain hgd fun K hK => wp_buildSlice 25 30 1 #[(0, x)] ho _ it _ Tryz.underlying25 hi hz0 (by rw [hz1]; decide) (by rw [hz1]; decide) ?_ (hK _ _ h)
  rw [hz1]
  have e : ((#[(0, x)] : Array (Nat × Operand)).map fun (i, x) => (i, a.eval x)).toList = [(0, a.eval x)] := by simp
  rw [e, hx]
  obtain ⟨l⟩ := R
  match l, hR with
  | [_, _, _, _, _, _, _, _, _, _, _, _, _, _, _, _, _, _, _, _, _, _, _], _ =>
  unfold Instr.fill
  simp only
  rw [if_neg (by simp [Value.cells])]
  unfold Instr.fill
  simp [Value.cells, Array.range, List.range, List.range.loop]
  generalize hA : Array.ofFn _ = A
  have hs : A.size = 23 := by rw [← hA]; simp
  clear hA
  obtain ⟨l, rfl⟩ : ∃ l : List Value, A = l.toArray := ⟨A.toList, by simp⟩
  match l, hs with
  | [_, _, _, _, _, _, _, _, _, _, _, _, _, _, _, _, _, _, _, _, _, _, _], _ => simp only [List.setIfInBounds_toArray, List.set_cons_zero, List.set_cons_succ]
theorem infoTmB : (Tryz.prog.info? 28).map (fun i => (i.zero, i.size, i.bytes)) = some (some (.agg zRow9), 9, 112) := by kernel_rfl
/-- A slice of two terms is made. -/
theorem wp_build_two {o : Oper} {a : Act} {w : World} {K : Act → World → Prop} {Q : Exit → Act → World → Prop} (x y : Operand) (ho : o.op = .buildSlice 26 2 #[(0, x), (1, y)]) (l m : List Value) (hl : l.length = 9) (hm : m.length = 9) (hx : a.eval x = .agg l.toArray) (hy : a.eval y = .agg m.toArray)
    (h : K (a.put o.dst (.slice (some ⟨w.heap.size, 0, none⟩) 2 2)) (w.alloc (.cells (l ++ m).toArray 28))) : o.wp Tryz.prog a w K Q := by
  obtain ⟨it, hi, hz0, hz1, hz2⟩ := info_parts infoTmB
  refine wp_buildSlice 26 28 2 #[(0, x), (1, y)] ho _ it _ Tryz.underlying26 hi hz0 (by rw [hz1]; decide) (by rw [hz1]; decide) ?_ h
  rw [hz1]
  have e : ((#[(0, x), (1, y)] : Array (Nat × Operand)).map fun (i, x) => (i, a.eval x)).toList = [(0, a.eval x), (1, a.eval y)] := by simp
  rw [e, hx, hy]
  match l, hl with
  | [a0, a1, a2, a3, a4, a5, a6, a7, a8], _ =>
  match m, hm with
  | [b0, b1, b2, b3, b4, b5, b6, b7, b8], _ =>
  have key : ∀ z : List Value, z.length = 18 → Instr.fill (fun i => some (i * 9, 9)) z.toArray [(0, Value.agg [a0, a1, a2, a3, a4, a5, a6, a7, a8].toArray), (1, Value.agg [b0, b1, b2, b3, b4, b5, b6, b7, b8].toArray)] = some ([a0, a1, a2, a3, a4, a5, a6, a7, a8] ++ [b0, b1, b2, b3, b4, b5, b6, b7, b8]).toArray := fun z hz => by
    match z, hz with
    | [_, _, _, _, _, _, _, _, _, _, _, _, _, _, _, _, _, _], _ =>
    unfold Instr.fill
    simp only
    rw [if_neg (by simp [Value.cells])]
    unfold Instr.fill
    simp only
    rw [if_neg (by simp [Value.cells])]
    unfold Instr.fill
    simp [Value.cells]
  have hz18 : ∀ A : Array Value, A.size = 18 → ∃ z : List Value, z.length = 18 ∧ A = z.toArray := fun A h => ⟨A.toList, by simpa using h, by simp⟩
  obtain ⟨z, hz, ez⟩ := hz18 ((Array.range (2 * 9)).map (fun k => (Value.agg #[Value.int IntKind.i64 0, Value.int .i64 0, Value.int .i64 0, Value.string ⟨#[]⟩, Value.string ⟨#[]⟩, Value.int .i64 0, Value.slice none 0 0, Value.string ⟨#[]⟩, Value.int .i64 0]).cells[k % (Value.agg #[Value.int IntKind.i64 0, Value.int .i64 0, Value.int .i64 0, Value.string ⟨#[]⟩, Value.string ⟨#[]⟩, Value.int .i64 0, Value.slice none 0 0, Value.string ⟨#[]⟩, Value.int .i64 0]).cells.size]!)) (by simp)
  rw [ez]
  exact key z hz
/-- The ten cells of an exception without items. -/
def ExcCells (w : World) (g : Nat) (cl : ByteArray) (k i gn ar bt : Int) (nm fn y : ByteArray) : Prop :=
  w.cell? ⟨g, 0, none⟩ = some (.string cl) ∧ w.cell? ⟨g, 1, none⟩ = some (.int .i64 k) ∧ w.cell? ⟨g, 2, none⟩ = some (.int .i64 i) ∧ w.cell? ⟨g, 3, none⟩ = some (.int .i64 gn) ∧ w.cell? ⟨g, 4, none⟩ = some (.string nm) ∧ w.cell? ⟨g, 5, none⟩ = some (.string fn) ∧ w.cell? ⟨g, 6, none⟩ = some (.int .i64 ar) ∧ w.cell? ⟨g, 7, none⟩ = some (.slice none 0 0) ∧ w.cell? ⟨g, 8, none⟩ = some (.string y) ∧ w.cell? ⟨g, 9, none⟩ = some (.int .i64 bt)
theorem ten_exc {w : World} {g : Nat} {cl nm fn y : ByteArray} {k i gn ar bt : Int} {T : TypeId} (h : w.heap[g]? = some (.cells #[.string cl, .int .i64 k, .int .i64 i, .int .i64 gn, .string nm, .string fn, .int .i64 ar, .slice none 0 0, .string y, .int .i64 bt] T (0, 0))) : ExcCells w g cl k i gn ar bt nm fn y :=
  ⟨cell_of_row _ _ 0 _ _ _ h, cell_of_row _ _ 1 _ _ _ h, cell_of_row _ _ 2 _ _ _ h, cell_of_row _ _ 3 _ _ _ h, cell_of_row _ _ 4 _ _ _ h, cell_of_row _ _ 5 _ _ _ h, cell_of_row _ _ 6 _ _ _ h, cell_of_row _ _ 7 _ _ _ h, cell_of_row _ _ 8 _ _ _ h, cell_of_row _ _ 9 _ _ _ h⟩
end Go.Proofs.YthmpobimmbmddaaGreatDoor
namespace Go.Proofs.YthmpobimmbmddaaGreatDoor
open Go.RowKit
set_option linter.unusedVariables false
set_option linter.unusedSimpArgs false

theorem infoTm : (Tryz.prog.info? 28).map (fun i => (i.zero, i.size, i.bytes)) = some (some (.agg #[.int .i64 0, .int .i64 0, .int .i64 0, .string ⟨#[]⟩, .string ⟨#[]⟩, .int .i64 0, .slice none 0 0, .string ⟨#[]⟩, .int .i64 0]), 9, 112) := by kernel_rfl
/-- terms.Copy of a term whose items are of a depth. -/
def CopyP (f : Nat) : Prop := ∀ (t : Tm) (so : Option Addr) (c : Nat) (w : World), SlAt w 9 (TmAt w f) so t.items → t.Ok → capF (f + 1) t ≤ 1000000 →
  Calls Tryz.prog 111 #[.agg #[.int .i64 t.kind, .int .i64 t.int, .int .i64 t.gen, .string t.name, .string t.func, .int .i64 t.arity, .slice so t.items.length c, .string t.bytes, .int .i64 t.bits]] w
    fun e w' => (∃ so' c', e = .returned (.agg #[.int .i64 t.kind, .int .i64 t.int, .int .i64 t.gen, .string t.name, .string t.func, .int .i64 t.arity, .slice so' t.items.length c', .string t.bytes, .int .i64 t.bits]) ∧ SlS w' (SepT w' f) 28 9 w.heap.size w'.heap.size so' t.items) ∧ Below w.heap.size w w'
def CopiesP (f : Nat) : Prop := ∀ (l : List Tm) (ao : Option Addr) (c : Nat) (w : World), SlAt w 9 (TmAt w f) ao l → sumN (l.map (capF f)) + l.length ≤ 1000000 →
  Calls Tryz.prog 159 #[.slice ao l.length c] w
    fun e w' => (∃ ao' c', e = .returned (.slice ao' l.length c') ∧ SlS w' (SepT w' f) 28 9 w.heap.size w'.heap.size ao' l) ∧ Below w.heap.size w w'
theorem nine_cells {w : World} {B : Nat} {T : TypeId} {v0 v1 v2 v3 v4 v5 v6 v7 v8 : Value} {fr : Nat × Nat} (h : w.heap[B]? = some (.cells #[v0, v1, v2, v3, v4, v5, v6, v7, v8] T fr)) :
    w.cell? ⟨B, 0, none⟩ = some v0 ∧ w.cell? ⟨B, 1, none⟩ = some v1 ∧ w.cell? ⟨B, 2, none⟩ = some v2 ∧ w.cell? ⟨B, 3, none⟩ = some v3 ∧ w.cell? ⟨B, 4, none⟩ = some v4 ∧ w.cell? ⟨B, 5, none⟩ = some v5 ∧ w.cell? ⟨B, 6, none⟩ = some v6 ∧ w.cell? ⟨B, 7, none⟩ = some v7 ∧ w.cell? ⟨B, 8, none⟩ = some v8 := by
  have hc := fun j => cell_of_row w B j _ _ _ h
  exact ⟨hc 0, hc 1, hc 2, hc 3, hc 4, hc 5, hc 6, hc 7, hc 8⟩
theorem new_two (w : World) (o0 o1 : Obj) : ((w.alloc o0).alloc o1).heap[w.heap.size]? = some o0 ∧ ((w.alloc o0).alloc o1).heap[w.heap.size + 1]? = some o1 ∧ Below w.heap.size w ((w.alloc o0).alloc o1) ∧ ((w.alloc o0).alloc o1).heap.size = w.heap.size + 2 := by
  have s : ∀ (x : World) (o : Obj), (x.alloc o).heap.size = x.heap.size + 1 := fun x o => by simp
  have e1 := heap_alloc_new (w.alloc o0) o1; rw [s] at e1
  exact ⟨(Below.heap_alloc _ _ _ (by rw [s]; omega)).trans (heap_alloc_new w o0), e1, ((Below.refl _ _).alloc (Nat.le_refl _) _).alloc (by rw [s]; omega) _, by rw [s, s]⟩
set_option maxRecDepth 100000 in
set_option maxHeartbeats 4000000 in
theorem copy_of (f : Nat) (HC : CopiesP f) : CopyP f := by
  intro t so c w hs ho hcap
  obtain ⟨e0, e1, eb, es⟩ := new_two w (.cells #[.int .i64 t.kind, .int .i64 t.int, .int .i64 t.gen, .string t.name, .string t.func, .int .i64 t.arity, .slice so t.items.length c, .string t.bytes, .int .i64 t.bits] 28) (.cells #[.int .i64 0, .int .i64 0, .int .i64 0, .string ⟨#[]⟩, .string ⟨#[]⟩, .int .i64 0, .slice none 0 0, .string ⟨#[]⟩, .int .i64 0] 28)
  have HE0 := Lib.hid e0; have HE1 := Lib.hid e1; have HB := Lib.hid eb; have HSZ := Lib.hid es; have HS := Lib.hid hs; have HCC := Lib.hid HC
  have HCAP : Hid (sumN (t.items.map (capF f)) + t.items.length ≤ 1000000) := Lib.hid (by have : 300 + t.items.length + sumN (t.items.map (capF f)) ≤ 1000000 := hcap; omega)
  clear e0 e1 eb es hs ho hcap HC
  go_in
  go_upto_region 1 with fail
  generalize (w.alloc _).alloc _ = W at *
  have c6 : W.cell? ⟨w.heap.size, 6, none⟩ = some (.slice so t.items.length c) := by rw [cell_of_row _ _ _ _ _ _ HE0.out]; rfl
  have hcs := HCC.out t.items so c W (HS.out.mono HB.out fun _ _ h => h.below HB.out) HCAP.out
  have HCS := Lib.hid hcs
  clear hcs
  generalize hN : w.heap.size = N at *
  have HN := Lib.hid hN
  clear hN
  go_upto_region 2 with (go_at_call 159; refine HCS.out.mono ?_; rintro e w2 ⟨⟨so', c', rfl, hsl⟩, hb2⟩; have g6 : w2.cell? ⟨N, 6, none⟩ = some (.slice so t.items.length c) := (hb2.cell (p := ⟨N, 6, none⟩) (lt_of_row HE0.out)).trans c6; have f6 : w2.frozen? ⟨N, 6, none⟩ = false := frozen_of_row _ _ 6 _ _ ((hb2.block _ (lt_of_row HE0.out)).trans HE0.out))
  have h0 := heap_setCell_same w2 N 6 _ _ (.slice so' t.items.length c') ((hb2.block _ (lt_of_row HE0.out)).trans HE0.out)
  have h1 := (heap_setCell_other w2 ⟨N, 6, none⟩ (N + 1) (.slice so' t.items.length c') (by simp)).trans ((hb2.block _ (lt_of_row HE1.out)).trans HE1.out)
  have hk : ∀ b, W.heap.size ≤ b → (w2.setCell ⟨N, 6, none⟩ (.slice so' t.items.length c')).heap[b]? = w2.heap[b]? := fun b hb => heap_setCell_other _ _ _ _ (by show b ≠ N; have := HSZ.out; omega)
  have hbb : Below N w (w2.setCell ⟨N, 6, none⟩ (.slice so' t.items.length c')) := (HB.out.trans (hb2.mono (by have := HSZ.out; omega))).setCell (Nat.le_refl _) _
  have hsz2 : (w2.setCell ⟨N, 6, none⟩ (.slice so' t.items.length c')).heap.size = w2.heap.size := by simp [World.setCell]
  generalize w2.setCell ⟨N, 6, none⟩ (.slice so' t.items.length c') = w3 at *
  rename_i K hK
  refine wp_region_list ?_
  refine wpList_load_row rfl 28 (.tmp 1) rfl N rfl 28 _ _ _ h0 Tryz.underlying28 rfl (by kernel_rfl) ?_
  refine wpList_store_row rfl 28 (.tmp 2) (.tmp 7) rfl (N + 1) #[.int .i64 t.kind, .int .i64 t.int, .int .i64 t.gen, .string t.name, .string t.func, .int .i64 t.arity, .slice so' t.items.length c', .string t.bytes, .int .i64 t.bits] rfl rfl 28 _ h1 (by kernel_rfl) rfl (by simp [Value.oneCell']) ?_
  refine wpList_nil ?_
  refine hK _ _ ?_
  refine wp_ret ?_
  refine bodyPost_ret (results_cell_row rfl _ _ (N + 1) _ _ _ _ rfl (setRow_heap _ _ _ _ _ _ h1) Tryz.underlying28 rfl (by kernel_rfl)) rfl ?_
  have hkk : ∀ b, W.heap.size ≤ b → b < w2.heap.size → (w3.setRow (N + 1) #[.int .i64 t.kind, .int .i64 t.int, .int .i64 t.gen, .string t.name, .string t.func, .int .i64 t.arity, .slice so' t.items.length c', .string t.bytes, .int .i64 t.bits]).heap[b]? = w2.heap[b]? := fun b hb _ => (setRow_other _ _ _ _ (by have := HSZ.out; omega)).trans (hk b hb)
  have hs3 : (w3.setRow (N + 1) #[.int .i64 t.kind, .int .i64 t.int, .int .i64 t.gen, .string t.name, .string t.func, .int .i64 t.arity, .slice so' t.items.length c', .string t.bytes, .int .i64 t.bits]).heap.size = w3.heap.size := by simp [World.setRow]
  rw [HN.out]
  exact ⟨⟨so', c', rfl, hsl.kept hkk (by have := HSZ.out; omega) (by omega) fun a e cs x ha he hx => hx.kept (fun b b1 b2 => hkk b (Nat.le_trans ha b1) (Nat.lt_of_lt_of_le b2 he)) (Nat.le_refl _) (Nat.le_refl _)⟩, below_setRow hbb (Nat.le_succ _) _⟩
theorem SepT.below {w w' : World} {f lo hi : Nat} {cs : List Value} {t : Tm} (h : SepT w f lo hi cs t) (hb : Below w.heap.size w w') (hh : hi ≤ w.heap.size) : SepT w' f lo hi cs t := h.kept (fun b _ b2 => hb.block b (Nat.lt_of_lt_of_le b2 hh)) (Nat.le_refl _) (Nat.le_refl _)
theorem cap_mem {f : Nat} {l : List Tm} {t : Tm} (h : t ∈ l) : capF f t ≤ sumN (l.map (capF f)) := by
  induction l with
  | nil => cases h
  | cons x l ih =>
    show _ ≤ capF f x + sumN (l.map (capF f))
    rcases List.mem_cons.1 h with rfl | h
    · omega
    · have := ih h; omega
set_option maxRecDepth 100000 in
set_option maxHeartbeats 4000000 in
theorem copies_of (f : Nat) (HC : ∀ g, f = g + 1 → CopyP g) : CopiesP f := by
  intro l ao c w hs hcap
  have HS := Lib.hid hs; have HCC := Lib.hid HC; have HCAP := Lib.hid hcap
  have hl : l.length ≤ 1000000 := by omega
  clear hs HC hcap
  obtain ⟨i0, hi, hz0, hz1, hz2⟩ := info_parts infoTm
  have HI := Lib.hid hi; have HZ := Lib.hid hz0; have HZ1 := Lib.hid hz1; have HZ2 := Lib.hid hz2
  clear hi hz0 hz1 hz2
  go_in
  go_upto_region 2 with (at_make; refine wpList_make_own _ rfl _ _ 26 rfl w.heap.size 28 i0 _ 9 Tryz.underlying26 HI.out HZ.out HZ1.out .i64 .i64 (l.length : Int) l.length rfl rfl rfl (by rw [HZ2.out]; omega) (by unfold maxLen; omega) (Nat.le_refl _) ?_; intro w1 ho1 hg1)
  have hb1 : Below w.heap.size w w1 := (Below.refl _ _).grown hg1 (Nat.le_refl _) (fun k e => by cases e)
  have HA : Hid (AccS w1 (SepT w1 f) 28 9 w.heap.size (.slice (some ⟨w.heap.size, 0, none⟩) 0 l.length) (l.take 0)) := Lib.hid (by rw [List.take_zero]; exact AccS.made ho1)
  have HB := Lib.hid hb1
  clear ho1 hg1 hb1
  obtain ⟨V0, hV0⟩ : ∃ V0, V0 = Value.slice (some ⟨w.heap.size, 0, none⟩) 0 l.length := ⟨_, rfl⟩
  rw [← hV0] at HA ⊢
  clear hV0
  generalize hN : w.heap.size = N at *
  have HN := Lib.hid hN
  clear hN
  go_wp2_with fail
  go_loopw [11, 3] (fun iv ov wr => ∃ (k : Nat), k ≤ l.length ∧ iv = .int .i64 k ∧ Hid (AccS wr (SepT wr f) 28 9 N ov (l.take k)) ∧ Hid (Below N w wr)) (fun i _ _ => l.length - (intOf i).toNat)
  case atStart => exact ⟨0, Nat.zero_le _, rfl, HA, HB⟩
  case round =>
    obtain ⟨k, hk, rfl, HK, HW⟩ := hrel
    rename World => wr
    rename Value => ov
    by_cases hlt : k < l.length
    · cases f with
      | zero => have := HS.out.zero; subst this; simp at hlt
      | succ g =>
        have hbw : Below w.heap.size w wr := by rw [HN.out]; exact HW.out
        have hs2 := HS.out.tms hbw
        obtain ⟨b, off, ai, ci, hao, hb, q0, q1, q2, q3, q4, q5, q6, q7, q8, hit, hok⟩ := hs2.tm hlt
        subst hao
        have hct : capF (g + 1) l[k] ≤ 1000000 := by have := cap_mem (f := g + 1) (List.getElem_mem hlt); have := HCAP.out; omega
        have htk : l.take (k + 1) = l.take k ++ [l[k]] := by rw [List.take_add_one, List.getElem?_eq_getElem hlt]; rfl
        have hlk : (l.take k).length = k := by rw [List.length_take]; omega
        generalize l[k] = t at *
        obtain ⟨xs, a, e, ho, hv, hx⟩ := HK.out
        rw [hlk] at ho hv
        obtain ⟨ao', c0, hov, -⟩ := HK.out.sl
        rw [hlk] at hov
        have hba := (Below.refl wr.heap.size wr).alloc (Nat.le_refl _) (.cells #[.int .i64 t.kind, .int .i64 t.int, .int .i64 t.gen, .string t.name, .string t.func, .int .i64 t.arity, .slice ai t.items.length ci, .string t.bytes, .int .i64 t.bits] 28)
        have hcp := HCC.out g rfl t ai ci _ (hit.tms hba) hok hct
        have HCP := Lib.hid hcp; have HTK := Lib.hid htk; have HLK := Lib.hid hlk; have HO := Lib.hid ho; have HV := Lib.hid hv; have HX := Lib.hid hx; have HBA := Lib.hid hba; have HOK := Lib.hid hok
        clear hcp hit hct htk hlk ho hv hx hba hs2 hok HK
        subst hov
        have hbx := heap_alloc_new wr (.cells #[.int .i64 t.kind, .int .i64 t.int, .int .i64 t.gen, .string t.name, .string t.func, .int .i64 t.arity, .slice ai t.items.length ci, .string t.bytes, .int .i64 t.bits] 28)
        go_upto_region 5 with fail
        generalize wr.alloc _ = Wb at *
        obtain ⟨x0, x1, x2, x3, x4, x5, x6, x7, x8⟩ := nine_cells hbx
        clear q0 q1 q2 q3 q4 q5 q6 q7 q8
        go_upto_region 6 with (first
          | (go_at_call 111; refine HCP.out.mono ?_; rintro e2 w2 ⟨⟨so', c', rfl, hsl⟩, hb2⟩; have hb3 : Below wr.heap.size wr (w2.alloc (.cells #[.int .i64 t.kind, .int .i64 t.int, .int .i64 t.gen, .string t.name, .string t.func, .int .i64 t.arity, .slice so' t.items.length c', .string t.bytes, .int .i64 t.bits] 28)) := (HBA.out.trans (hb2.mono HBA.out.size)).alloc (Nat.le_trans HBA.out.size hb2.size) _; have ho3 := HO.out.kept (grownBy_below hb3 none) (by cases ao' <;> simp [Value.ownBlock]); have HSL := Lib.hid hsl; have HB2 := Lib.hid hb2; have HB3 := Lib.hid hb3; have HO3 := Lib.hid ho3; clear hsl hb2 hb3 ho3)
          | (at_builtin; refine wpList_append_lies _ rfl (.tmp 15) (.tmp 18) 26 rfl N 28 i0 _ 9 112 Tryz.underlying26 HI.out HZ.out HZ1.out HZ2.out rfl (by decide) _ k xs rfl HO3.out ⟨w2.heap.size, 0, none⟩ 1 1 (tmRow t so' c') rfl rfl (World.news_of_block (heap_alloc_new _ _)) (by simp [tmRow, Value.oneCell']) (by decide) (by unfold maxLen; omega) (by omega) (Nat.le_trans (HN.out ▸ hbw.size) HB3.out.size) _ rfl ?_; intro g2 cap w4 ho4 hg4 hat4 hlt4))
        have hacc : AccS w4 (SepT w4 (g + 1)) 28 9 N (.slice (some ⟨g2, 0, none⟩) ((l.take k).length + 1) cap) (l.take k ++ [t]) := by
          refine AccS.app (w0 := wr) (R := SepT _ (g + 1)) (lo := Wb.heap.size) (hi := w2.heap.size) (v := .slice ao' k c0) (by rw [HLK.out]; exact HO3.out) (by rw [HLK.out]; exact HV.out) (fun j hj => ?_) HBA.out.size HB2.out.size (by simp) (HN.out ▸ hbw.size) (fun q hq => (HO.out.lt q hq).2) rfl ⟨⟨so', c', rfl, ?_⟩, HOK.out⟩ hg4 hat4 (by rw [HLK.out]; exact ho4) (fun a e cs x hn he hx => hx.kept (fun q q1 q2 => hg4.block q (Nat.lt_of_lt_of_le q2 he) fun e2 => by have := hn q e2.symm; omega) (Nat.le_refl _) (Nat.le_refl _))
          · obtain ⟨cs, k1, k2, k3⟩ := HX.out j hj
            exact ⟨cs, k1, k2, k3.below HB3.out (by have := (HV.out j (by rw [HLK.out] at hj; exact hj)).2.2.1; exact this)⟩
          · exact HSL.out.kept (fun q _ q2 => Below.heap_alloc _ _ _ q2) (Nat.le_refl _) (Nat.le_refl _) fun a e cs x _ he hx => hx.kept (fun q _ q2 => Below.heap_alloc _ _ _ (Nat.lt_of_lt_of_le q2 he)) (Nat.le_refl _) (Nat.le_refl _)
        rw [HLK.out, ← HTK.out] at hacc
        have hb4 : Below N w w4 := (HW.out.trans (HB3.out.mono (HN.out ▸ hbw.size))).grown hg4 (Nat.le_trans (HN.out ▸ hbw.size) HB3.out.size) (fun q hq => (HO.out.lt q hq).1)
        have HAC := Lib.hid hacc; have HB4 := Lib.hid hb4
        clear hacc hb4 ho4 hg4 hat4 hlt4 x0 x1 x2 x3 x4 x5 x6 x7 x8 hbx
        go_wp2_with fail
        go_roundw
        case rel => exact ⟨k + 1, by omega, by go_num, HAC, HB4⟩
        case measure => simp [intOf]; omega
    · have hkl : k = l.length := by omega
      subst hkl
      obtain ⟨ao', c', rfl, hsl⟩ := HK.out.sl
      rw [List.take_length] at hsl ⊢
      have HSL := Lib.hid hsl
      clear hsl
      go_wp2_with fail
      go_ret
      rw [HN.out]
      exact ⟨⟨ao', c', rfl, HSL.out⟩, HW.out⟩
theorem copies_any : ∀ f, CopiesP f
  | 0 => copies_of 0 (fun g h => by cases h)
  | f + 1 => copies_of (f + 1) (fun g h => by cases h; exact copy_of f (copies_any f))
/-- terms.Copy of a term in memory. -/
theorem copy_any (f : Nat) : CopyP f := copy_of f (copies_any f)
end Go.Proofs.YthmpobimmbmddaaGreatDoor
namespace Go.Proofs.YthmpobimmbmddaaGreatDoor
open Go.RowKit
set_option linter.unusedVariables false
set_option linter.unusedSimpArgs false

abbrev mRow : Array Value := #[.int .i64 (-7), .int .i64 4711, .int .i64 0, .string ⟨#[115, 112, 97, 114, 101]⟩, .string ⟨#[]⟩, .int .i64 0, .slice none 0 0, .string ⟨#[]⟩, .int .i64 0]
set_option maxRecDepth 100000 in
theorem mark_any (w : World) : Calls Tryz.prog 48 #[] w fun e w' => e = .returned (.agg mRow) ∧ Below w.heap.size w w' := by
  go_in
  go_wp2_with fail
  refine bodyPost_ret (results_cell_row rfl _ _ w.heap.size _ _ _ _ rfl (heap_alloc_new _ _) Tryz.underlying28 rfl (by kernel_rfl)) rfl ?_
  exact ⟨rfl, (Below.refl _ _).alloc (Nat.le_refl _) _⟩
def LendP (f : Nat) : Prop := ∀ (t : Tm) (so : Option Addr) (c : Nat) (w0 w : World), Below w0.heap.size w0 w → SlAt w0 9 (TmAt w0 f) so t.items → t.Ok → capF (f + 1) t ≤ 1000000 →
  Calls Tryz.prog 10 #[.agg #[.int .i64 t.kind, .int .i64 t.int, .int .i64 t.gen, .string t.name, .string t.func, .int .i64 t.arity, .slice so t.items.length c, .string t.bytes, .int .i64 t.bits]] w
    fun e w' => (∃ so' c', e = .returned (.agg #[.int .i64 t.kind, .int .i64 t.int, .int .i64 t.gen, .string t.name, .string t.func, .int .i64 t.arity, .slice so' t.items.length c', .string t.bytes, .int .i64 t.bits]) ∧ LentL w' w0.heap.size (LentT w' w0.heap.size f) w.heap.size w'.heap.size so' c' so t.items) ∧ Below w.heap.size w w'
def LendsP (f : Nat) : Prop := ∀ (l : List Tm) (ao : Option Addr) (c : Nat) (w0 w : World), Below w0.heap.size w0 w → SlAt w0 9 (TmAt w0 f) ao l → sumN (l.map (capF f)) + l.length ≤ 1000000 →
  Calls Tryz.prog 27 #[.slice ao l.length c] w
    fun e w' => (∃ ao' c', e = .returned (.slice ao' l.length c') ∧ LentL w' w0.heap.size (LentT w' w0.heap.size f) w.heap.size w'.heap.size ao' c' ao l) ∧ Below w.heap.size w w'
set_option maxRecDepth 100000 in
set_option maxHeartbeats 4000000 in
theorem lend_of (f : Nat) (HC : LendsP f) : LendP f := by
  intro t so c w0 w h0w hs ho hcap
  obtain ⟨e0, e1, eb, es⟩ := new_two w (.cells #[.int .i64 t.kind, .int .i64 t.int, .int .i64 t.gen, .string t.name, .string t.func, .int .i64 t.arity, .slice so t.items.length c, .string t.bytes, .int .i64 t.bits] 28) (.cells #[.int .i64 0, .int .i64 0, .int .i64 0, .string ⟨#[]⟩, .string ⟨#[]⟩, .int .i64 0, .slice none 0 0, .string ⟨#[]⟩, .int .i64 0] 28)
  have HE0 := Lib.hid e0; have HE1 := Lib.hid e1; have HB := Lib.hid eb; have HSZ := Lib.hid es; have HS := Lib.hid hs; have HCC := Lib.hid HC; have H0W := Lib.hid h0w
  have HCAP : Hid (sumN (t.items.map (capF f)) + t.items.length ≤ 1000000) := Lib.hid (by have : 300 + t.items.length + sumN (t.items.map (capF f)) ≤ 1000000 := hcap; omega)
  clear e0 e1 eb es hs ho hcap HC h0w
  go_in
  go_upto_region 1 with fail
  generalize (w.alloc _).alloc _ = W at *
  have c6 : W.cell? ⟨w.heap.size, 6, none⟩ = some (.slice so t.items.length c) := by rw [cell_of_row _ _ _ _ _ _ HE0.out]; rfl
  have hcs := HCC.out t.items so c w0 W (H0W.out.trans (HB.out.mono H0W.out.size)) HS.out HCAP.out
  have HCS := Lib.hid hcs
  have HLE := Lib.hid H0W.out.size
  clear hcs
  generalize hN : w.heap.size = N at *
  have HN := Lib.hid hN
  clear hN
  go_upto_region 2 with (go_at_call 27; refine HCS.out.mono ?_; rintro e w2 ⟨⟨so', c', rfl, hsl⟩, hb2⟩; have g6 : w2.cell? ⟨N, 6, none⟩ = some (.slice so t.items.length c) := (hb2.cell (p := ⟨N, 6, none⟩) (lt_of_row HE0.out)).trans c6; have f6 : w2.frozen? ⟨N, 6, none⟩ = false := frozen_of_row _ _ 6 _ _ ((hb2.block _ (lt_of_row HE0.out)).trans HE0.out))
  have h0 := heap_setCell_same w2 N 6 _ _ (.slice so' t.items.length c') ((hb2.block _ (lt_of_row HE0.out)).trans HE0.out)
  have h1 := (heap_setCell_other w2 ⟨N, 6, none⟩ (N + 1) (.slice so' t.items.length c') (by simp)).trans ((hb2.block _ (lt_of_row HE1.out)).trans HE1.out)
  have hk : ∀ b, b ≠ N → (w2.setCell ⟨N, 6, none⟩ (.slice so' t.items.length c')).heap[b]? = w2.heap[b]? := fun b hb => heap_setCell_other _ _ _ _ hb
  have hbb : Below N w (w2.setCell ⟨N, 6, none⟩ (.slice so' t.items.length c')) := (HB.out.trans (hb2.mono (by have := HSZ.out; omega))).setCell (Nat.le_refl _) _
  have hsz2 : (w2.setCell ⟨N, 6, none⟩ (.slice so' t.items.length c')).heap.size = w2.heap.size := by simp [World.setCell]
  generalize w2.setCell ⟨N, 6, none⟩ (.slice so' t.items.length c') = w3 at *
  rename_i K hK
  refine wp_region_list ?_
  refine wpList_load_row rfl 28 (.tmp 1) rfl N rfl 28 _ _ _ h0 Tryz.underlying28 rfl (by kernel_rfl) ?_
  refine wpList_store_row rfl 28 (.tmp 2) (.tmp 7) rfl (N + 1) #[.int .i64 t.kind, .int .i64 t.int, .int .i64 t.gen, .string t.name, .string t.func, .int .i64 t.arity, .slice so' t.items.length c', .string t.bytes, .int .i64 t.bits] rfl rfl 28 _ h1 (by kernel_rfl) rfl (by simp [Value.oneCell']) ?_
  refine wpList_nil ?_
  refine hK _ _ ?_
  refine wp_ret ?_
  refine bodyPost_ret (results_cell_row rfl _ _ (N + 1) _ _ _ _ rfl (setRow_heap _ _ _ _ _ _ h1) Tryz.underlying28 rfl (by kernel_rfl)) rfl ?_
  have hkk : ∀ b, b ≠ N → b ≠ N + 1 → (w3.setRow (N + 1) #[.int .i64 t.kind, .int .i64 t.int, .int .i64 t.gen, .string t.name, .string t.func, .int .i64 t.arity, .slice so' t.items.length c', .string t.bytes, .int .i64 t.bits]).heap[b]? = w2.heap[b]? := fun b hb hb2 => (setRow_other _ _ _ _ hb2).trans (hk b hb)
  have hs3 : (w3.setRow (N + 1) #[.int .i64 t.kind, .int .i64 t.int, .int .i64 t.gen, .string t.name, .string t.func, .int .i64 t.arity, .slice so' t.items.length c', .string t.bytes, .int .i64 t.bits]).heap.size = w3.heap.size := by simp [World.setRow]
  have hle := HLE.out; have hW := HSZ.out
  rw [HN.out]
  have k1 : ∀ b, W.heap.size ≤ b → b < w2.heap.size → (w3.setRow (N + 1) #[.int .i64 t.kind, .int .i64 t.int, .int .i64 t.gen, .string t.name, .string t.func, .int .i64 t.arity, .slice so' t.items.length c', .string t.bytes, .int .i64 t.bits]).heap[b]? = w2.heap[b]? := fun b hb _ => hkk b (by omega) (by omega)
  have k2 : ∀ b, b < w0.heap.size → (w3.setRow (N + 1) #[.int .i64 t.kind, .int .i64 t.int, .int .i64 t.gen, .string t.name, .string t.func, .int .i64 t.arity, .slice so' t.items.length c', .string t.bytes, .int .i64 t.bits]).heap[b]? = w2.heap[b]? := fun b hb => hkk b (by omega) (by omega)
  exact ⟨⟨so', c', rfl, hsl.kept k1 k2 (Nat.le_refl _) (by omega) (by omega) fun a e cs cs0 x ha he hx => LentT.kept hx (fun b b1 b2 => k1 b (Nat.le_trans ha b1) (Nat.lt_of_lt_of_le b2 he)) k2 (Nat.le_refl _) (Nat.le_refl _) (Nat.le_refl _)⟩, below_setRow hbb (Nat.le_succ _) _⟩
theorem eql_some (a : Addr) (n c : Nat) (w : World) : (binOp .eql 26 (.slice (some a) n c) (.slice none 0 0)).run Tryz.prog w = .ok (.bool false) w := by kernel_rfl
theorem eql_none (n c : Nat) (w : World) : (binOp .eql 26 (.slice none n c) (.slice none 0 0)).run Tryz.prog w = .ok (.bool true) w := by kernel_rfl
theorem owns_row {w : World} {B n c g : Nat} {T : TypeId} {size : Nat} {xs : List Value} (h : w.ownsRow B T size (.slice (some ⟨g, 0, none⟩) n c) n xs) (h0 : 0 < n) : n ≤ c ∧ B ≤ g ∧ ∃ cur : Array Value, w.heap[g]? = some (.cells cur T (0, 0)) ∧ cur.toList.take (n * size) = xs := by
  rcases h.2 with ⟨e, h1⟩ | ⟨g', cap, cur, e, hB, hg, h1, h2, h3, h4⟩
  · omega
  · obtain ⟨rfl, rfl⟩ : g = g' ∧ c = cap := by
      injection e with e1 e2 e3
      injection e1 with e1
      injection e1 with e1
      exact ⟨e1, e3⟩
    exact ⟨h1, hB, cur, hg, h4⟩
/-- What an element of the growing list is: its lent row beside the original one. -/
def LentE (w0 w : World) (f : Nat) (ao : Option Addr) (a e : Nat) (cs : List Value) (p : Tm × Nat) : Prop :=
  ∃ cs0 : List Value, cs0.length = 9 ∧ (∃ b off, ao = some ⟨b, off, none⟩ ∧ b < w0.heap.size ∧ ∀ i, i < 9 → w.cell? ⟨b, off + p.2 * 9 + i, none⟩ = cs0[i]?) ∧ LentT w w0.heap.size f a e cs cs0 p.1
theorem LentE.kept {w0 w w' : World} {f : Nat} {ao : Option Addr} {a e : Nat} {cs : List Value} {p : Tm × Nat} (h : LentE w0 w f ao a e cs p) (hk : ∀ b, a ≤ b → b < e → w'.heap[b]? = w.heap[b]?) (h0 : ∀ b, b < w0.heap.size → w'.heap[b]? = w.heap[b]?) : LentE w0 w' f ao a e cs p := by
  obtain ⟨cs0, k2, ⟨b, off, k4, k5, k6⟩, k7⟩ := h
  exact ⟨cs0, k2, ⟨b, off, k4, k5, fun i hi => (World.cell?_of_block (a := ⟨b, off + p.2 * 9 + i, none⟩) (h0 b k5)).trans (k6 i hi)⟩, k7.kept hk h0 (Nat.le_refl _) (Nat.le_refl _) (Nat.le_refl _)⟩
theorem zip_at {l : List Tm} {k : Nat} (h : k < l.length) : l.zipIdx.take (k + 1) = l.zipIdx.take k ++ [(l[k], k)] := by
  rw [List.take_add_one, List.getElem?_eq_getElem (by rw [List.length_zipIdx]; exact h)]
  simp
set_option maxRecDepth 100000 in
set_option maxHeartbeats 8000000 in
theorem lends_of (f : Nat) (HC : ∀ g, f = g + 1 → LendP g) : LendsP f := by
  intro l ao c w0 w h0w hs hcap
  have HS := Lib.hid hs; have HCC := Lib.hid HC; have HCAP := Lib.hid hcap; have H0W := Lib.hid h0w
  have hl : l.length ≤ 1000000 := by omega
  have HN0 : Hid (ao = none → l = []) := Lib.hid fun e => by
    rcases hs with h | ⟨b, off, e1, _⟩
    · exact h
    · rw [e] at e1; cases e1
  clear hs HC hcap h0w
  obtain ⟨i0, hi, hz0, hz1, hz2⟩ := info_parts infoTm
  have HI := Lib.hid hi; have HZ := Lib.hid hz0; have HZ1 := Lib.hid hz1; have HZ2 := Lib.hid hz2
  clear hi hz0 hz1 hz2
  cases ao with
  | none =>
    obtain rfl := HN0.out rfl
    have hq := eql_none
    go_in
    go_wp2_with fail
    go_ret
    exact ⟨⟨none, 0, rfl, .inl ⟨rfl, rfl, rfl⟩⟩, Below.refl _ _⟩
  | some ad =>
    have hq := eql_some
    go_in
    go_upto_region 4 with (at_make; refine wpList_make_own _ rfl _ _ 26 rfl w.heap.size 28 i0 _ 9 Tryz.underlying26 HI.out HZ.out HZ1.out .i64 .i64 ((l.length : Int) + 2) (l.length + 2) rfl rfl (by omega) (by rw [HZ2.out]; omega) (by unfold maxLen; omega) (Nat.le_refl _) ?_; intro w1 ho1 hg1)
    have hb1 : Below w.heap.size w w1 := (Below.refl _ _).grown hg1 (Nat.le_refl _) (fun k e => by cases e)
    have HA : Hid (AccS w1 (LentE w0 w1 f (some ad)) 28 9 w.heap.size (.slice (some ⟨w.heap.size, 0, none⟩) 0 (l.length + 2)) (l.zipIdx.take 0)) := Lib.hid (by rw [List.take_zero]; exact AccS.made ho1)
    have HB := Lib.hid hb1
    clear ho1 hg1 hb1 hq
    obtain ⟨V0, hV0⟩ : ∃ V0, V0 = Value.slice (some ⟨w.heap.size, 0, none⟩) 0 (l.length + 2) := ⟨_, rfl⟩
    rw [← hV0] at HA ⊢
    clear hV0
    have HLE := Lib.hid H0W.out.size
    generalize hN : w.heap.size = N at *
    have HN := Lib.hid hN
    clear hN
    go_wp2_with fail
    go_loopw [3, 4] (fun ov iv wr => ∃ (k : Nat), k ≤ l.length ∧ iv = .int .i64 k ∧ Hid (AccS wr (LentE w0 wr f (some ad)) 28 9 N ov (l.zipIdx.take k)) ∧ Hid (Below N w wr)) (fun _ i _ => l.length - (intOf i).toNat)
    case atStart => exact ⟨0, Nat.zero_le _, rfl, HA, HB⟩
    case round =>
      obtain ⟨k, hk, rfl, HK, HW⟩ := hrel
      rename World => wr
      rename Value => ov
      have HNW : Hid (N ≤ wr.heap.size ∧ w0.heap.size ≤ N) := Lib.hid ⟨by have := HW.out.size; have := HN.out; omega, HLE.out⟩
      have HW0 : Hid (Below w0.heap.size w0 wr) := Lib.hid (H0W.out.trans (HW.out.mono HLE.out))
      by_cases hlt : k < l.length
      · cases f with
        | zero => have := HS.out.zero; subst this; simp at hlt
        | succ g =>
          obtain ⟨b, off, hao, hb, hr⟩ := HS.out.row hlt
          obtain ⟨cs, hl9, hc, hT⟩ := hr k hlt
          have hct : capF (g + 1) l[k] ≤ 1000000 := by have := cap_mem (f := g + 1) (List.getElem_mem hlt); have := HCAP.out; omega
          have htk := zip_at hlt
          have hlk : (l.zipIdx.take k).length = k := by rw [List.length_take, List.length_zipIdx]; omega
          generalize l[k] = t at *
          obtain ⟨⟨ai, ci, rfl, hit⟩, hok⟩ := hT
          obtain rfl := Option.some.inj hao
          have hcw : ∀ i, i < 9 → wr.cell? ⟨b, off + k * 9 + i, none⟩ = (tmRow t ai ci)[i]? := fun i hi => (HW0.out.cell (p := ⟨b, off + k * 9 + i, none⟩) hb).trans (hc i hi)
          have q0 : wr.cell? ⟨b, off + k * 9, none⟩ = some (.int .i64 t.kind) := hcw 0 (by decide)
          have q1 : wr.cell? ⟨b, off + k * 9 + 1, none⟩ = some (.int .i64 t.int) := hcw 1 (by decide)
          have q2 : wr.cell? ⟨b, off + k * 9 + 2, none⟩ = some (.int .i64 t.gen) := hcw 2 (by decide)
          have q3 : wr.cell? ⟨b, off + k * 9 + 3, none⟩ = some (.string t.name) := hcw 3 (by decide)
          have q4 : wr.cell? ⟨b, off + k * 9 + 4, none⟩ = some (.string t.func) := hcw 4 (by decide)
          have q5 : wr.cell? ⟨b, off + k * 9 + 5, none⟩ = some (.int .i64 t.arity) := hcw 5 (by decide)
          have q6 : wr.cell? ⟨b, off + k * 9 + 6, none⟩ = some (.slice ai t.items.length ci) := hcw 6 (by decide)
          have q7 : wr.cell? ⟨b, off + k * 9 + 7, none⟩ = some (.string t.bytes) := hcw 7 (by decide)
          have q8 : wr.cell? ⟨b, off + k * 9 + 8, none⟩ = some (.int .i64 t.bits) := hcw 8 (by decide)
          obtain ⟨xs, a, e, ho, hv, hx⟩ := HK.out
          rw [hlk] at ho hv
          obtain ⟨ao', c0, hov, -⟩ := HK.out.sl
          rw [hlk] at hov
          have hcp := HCC.out g rfl t ai ci w0 wr HW0.out hit hok hct
          have HCP := Lib.hid hcp; have HTK := Lib.hid htk; have HLK := Lib.hid hlk; have HO := Lib.hid ho; have HV := Lib.hid hv; have HX := Lib.hid hx; have HOK := Lib.hid hok; have HCW := Lib.hid hcw; have HBB := Lib.hid hb
          clear hcp hit hct htk hlk ho hv hx hok HK hr hc hcw hb hao
          subst hov
          go_upto_region 6 with (first
            | (go_at_call 10; refine HCP.out.mono ?_; rintro e2 w2 ⟨⟨so', c', rfl, hsl⟩, hb2⟩; have hb3 : Below wr.heap.size wr (w2.alloc (.cells #[.int .i64 t.kind, .int .i64 t.int, .int .i64 t.gen, .string t.name, .string t.func, .int .i64 t.arity, .slice so' t.items.length c', .string t.bytes, .int .i64 t.bits] 28)) := hb2.alloc hb2.size _; have ho3 := HO.out.kept (grownBy_below hb3 none) (by cases ao' <;> simp [Value.ownBlock]); have HSL := Lib.hid hsl; have HB2 := Lib.hid hb2; have HB3 := Lib.hid hb3; have HO3 := Lib.hid ho3; clear hsl hb2 hb3 ho3)
            | (at_builtin; refine wpList_append_lies _ rfl (.tmp 17) (.tmp 23) 26 rfl N 28 i0 _ 9 112 Tryz.underlying26 HI.out HZ.out HZ1.out HZ2.out rfl (by decide) _ k xs rfl HO3.out ⟨w2.heap.size, 0, none⟩ 1 1 (tmRow t so' c') rfl rfl (World.news_of_block (heap_alloc_new _ _)) (by simp [tmRow, Value.oneCell']) (by decide) (by unfold maxLen; omega) (by omega) (Nat.le_trans HNW.out.1 HB3.out.size) _ rfl ?_; intro g2 cap w4 ho4 hg4 hat4 hlt4))
          have hacc : AccS w4 (LentE w0 w4 (g + 1) (some ⟨b, off, none⟩)) 28 9 N (.slice (some ⟨g2, 0, none⟩) ((l.zipIdx.take k).length + 1) cap) (l.zipIdx.take k ++ [(t, k)]) := by
            refine AccS.app (w0 := wr) (R := LentE w0 _ (g + 1) _) (lo := wr.heap.size) (hi := w2.heap.size) (v := .slice ao' k c0) (by rw [HLK.out]; exact HO3.out) (by rw [HLK.out]; exact HV.out) (fun j hj => ?_) (Nat.le_refl _) HB2.out.size (by simp) HNW.out.1 (fun q hq => (HO.out.lt q hq).2) rfl ⟨tmRow t ai ci, rfl, ⟨b, off, rfl, HBB.out, fun i hi => (HB3.out.cell (p := ⟨b, off + k * 9 + i, none⟩) (Nat.lt_of_lt_of_le HBB.out (Nat.le_trans HNW.out.2 HNW.out.1))).trans (HCW.out i hi)⟩, ⟨so', c', ai, ci, rfl, rfl, ?_⟩, HOK.out⟩ hg4 hat4 (by rw [HLK.out]; exact ho4) (fun a e cs x hn he hx => hx.kept (fun q q1 q2 => hg4.block q (Nat.lt_of_lt_of_le q2 he) fun e2 => by have := hn q e2.symm; omega) (fun q q2 => hg4.block q (Nat.lt_of_lt_of_le q2 (Nat.le_trans (Nat.le_trans HNW.out.2 HNW.out.1) HB3.out.size)) fun e2 => by have := (HO.out.lt q e2.symm).1; have := HNW.out; omega))
            · obtain ⟨cs, k1, k2, k3⟩ := HX.out j hj
              exact ⟨cs, k1, k2, k3.kept (fun q _ q2 => HB3.out.block q (Nat.lt_of_lt_of_le q2 (HV.out j (by rw [HLK.out] at hj; exact hj)).2.2.1)) (fun q q2 => HB3.out.block q (by have := HNW.out; omega))⟩
            · exact HSL.out.kept (fun q _ q2 => Below.heap_alloc _ _ _ q2) (fun q q2 => Below.heap_alloc _ _ _ (by have := HNW.out; have := HB2.out.size; omega)) (Nat.le_refl _) (Nat.le_refl _) (Nat.le_refl _) fun a e cs cs0 x _ he hx => LentT.kept hx (fun q _ q2 => Below.heap_alloc _ _ _ (Nat.lt_of_lt_of_le q2 he)) (fun q q2 => Below.heap_alloc _ _ _ (by have := HNW.out; have := HB2.out.size; omega)) (Nat.le_refl _) (Nat.le_refl _) (Nat.le_refl _)
          rw [HLK.out, ← HTK.out] at hacc
          have hb4 : Below N w w4 := (HW.out.trans (HB3.out.mono HNW.out.1)).grown hg4 (Nat.le_trans HNW.out.1 HB3.out.size) (fun q hq => (HO.out.lt q hq).1)
          have HAC := Lib.hid hacc; have HB4 := Lib.hid hb4
          clear hacc hb4 ho4 hg4 hat4 hlt4 q0 q1 q2 q3 q4 q5 q6 q7 q8
          go_wp2_with fail
          go_roundw
          case rel => exact ⟨k + 1, by omega, by go_num, HAC, HB4⟩
          case measure => simp [intOf]; omega
      · have hkl : k = l.length := by omega
        subst hkl
        have hlz : l.zipIdx.take l.length = l.zipIdx := List.take_of_length_le (by rw [List.length_zipIdx]; exact Nat.le_refl _)
        have hlk : l.zipIdx.length = l.length := List.length_zipIdx
        obtain ⟨xs, a, e, ho, hv, hx⟩ := HK.out
        obtain ⟨ao', c0, hov, -⟩ := HK.out.sl
        have HLZ := Lib.hid hlz; have HLK := Lib.hid hlk
        have HX := Lib.hid hx
        rw [hlz, hlk] at ho hv hov
        have HO := Lib.hid ho; have HV := Lib.hid hv
        have HM := Lib.hid (Below.refl wr.heap.size wr)
        clear ho hv hx HK hlz hlk
        subst hov
        go_wp2_with (first
          | (go_at_call 48; refine (mark_any _).mono ?_; rintro e2 w5 ⟨rfl, hb5⟩; have HM := Lib.hid (HM.out.trans (hb5.mono HM.out.size)); clear hb5)
          | (at_builtin; refine wpList_append_lies _ rfl (.tmp 25) (.tmp 28) 26 rfl N 28 i0 _ 9 112 Tryz.underlying26 HI.out HZ.out HZ1.out HZ2.out rfl (by decide) (.slice ao' l.length c0) l.length xs rfl (HO.out.kept (grownBy_below (HM.out.alloc HM.out.size _) none) (by cases ao' <;> simp [Value.ownBlock])) ⟨w5.heap.size, 0, none⟩ 2 2 (markRow ++ markRow) rfl rfl (World.news_of_block (heap_alloc_new _ _)) (by simp [Value.oneCell']) (by decide) (by unfold maxLen; omega) (by omega) (by have := HNW.out; have := HM.out.size; simp; omega) _ rfl ?_; intro g2 cap w7 ho7 hg7 hat7 hlt7; have hcap : l.length + 2 ≤ cap := (owns_row ho7 (by omega)).1))
        go_ret
        have hd := HM.out.alloc HM.out.size (.cells #[.int .i64 (-7), .int .i64 4711, .int .i64 0, .string ⟨#[115, 112, 97, 114, 101]⟩, .string ⟨#[]⟩, .int .i64 0, .slice none 0 0, .string ⟨#[]⟩, .int .i64 0, .int .i64 (-7), .int .i64 4711, .int .i64 0, .string ⟨#[115, 112, 97, 114, 101]⟩, .string ⟨#[]⟩, .int .i64 0, .slice none 0 0, .string ⟨#[]⟩, .int .i64 0] 28)
        generalize w5.alloc _ = WA at *
        obtain ⟨_, hN2, cur, hcur, htake⟩ := owns_row ho7 (by omega)
        have hxl : xs.length = l.length * 9 := HO.out.1
        have hcc : ∀ m, m < (l.length + 2) * 9 → cur[m]? = (xs ++ (markRow ++ markRow))[m]? := fun m hm => by rw [← htake, List.getElem?_take, if_pos hm, Array.getElem?_toList]
        have hnw := HNW.out
        have hds := hd.size
        have h7 : ∀ q, q < wr.heap.size → (Value.slice ao' l.length c0).ownBlock ≠ some q → w7.heap[q]? = wr.heap[q]? := fun q hq hne => (hg7.block q (by omega) (fun e => hne e.symm)).trans (hd.block q hq)
        have h70 : ∀ q, q < w0.heap.size → w7.heap[q]? = wr.heap[q]? := fun q hq => h7 q (by omega) (fun e => by have := (HO.out.lt q e).1; omega)
        refine ⟨⟨some ⟨g2, 0, none⟩, cap, rfl, .inr ⟨by simp, g2, cur, a, e, rfl, by rw [HN.out]; exact hN2, hlt7, hcur, hcap, ?_, ?_, ?_, ?_⟩⟩, ?_⟩
        · intro j hj
          obtain ⟨v1, v2, v3, v4, v5⟩ := HV.out j hj
          refine ⟨by rw [HN.out]; exact v1, v2, by have := hg7.size; omega, fun q hq => ?_, v5⟩
          obtain rfl := Option.some.inj hq
          rcases hat7 with h | h
          · exact v4 _ h
          · right; omega
        · intro i hi
          rw [hcc _ (by omega), List.getElem?_append_right (by omega), hxl, show l.length * 9 + i - l.length * 9 = i by omega, List.getElem?_append_left (by simpa using hi)]
        · intro i hi
          rw [hcc _ (by omega), List.getElem?_append_right (by omega), hxl, show (l.length + 1) * 9 + i - l.length * 9 = 9 + i by omega, List.getElem?_append_right (by simp)]
          congr 1
          simp
        · intro j hj
          have hjt : j < (l.zipIdx.take l.length).length := by rw [HLZ.out, HLK.out]; exact hj
          obtain ⟨cs, k1, k2, cs0, k3, ⟨b, off, k4, k5, k6⟩, k7⟩ := HX.out j hjt
          have ej : (l.zipIdx.take l.length)[j] = (l[j], j) := by simp
          rw [ej] at k6 k7
          obtain ⟨v1, v2, v3, v4, v5⟩ := HV.out j hj
          refine ⟨cs, cs0, k1, k3, fun i hi => ?_, ⟨b, off, k4, k5, fun i hi => (World.cell?_of_block (a := ⟨b, off + j * 9 + i, none⟩) (h70 b k5)).trans (k6 i hi)⟩, k7.kept (fun q q1 q2 => h7 q (by omega) fun e2 => by have := v4 q e2; omega) h70 (Nat.le_refl _) (Nat.le_refl _) (Nat.le_refl _)⟩
          rw [hcc _ (by omega), List.getElem?_append_left (by omega)]
          exact k2 i hi
        · rw [HN.out]
          exact (HW.out.trans (hd.mono hnw.1)).grown hg7 (by omega) (fun q hq => (HO.out.lt q hq).1)
theorem lends_any : ∀ f, LendsP f
  | 0 => lends_of 0 (fun g h => by cases h)
  | f + 1 => lends_of (f + 1) (fun g h => by cases h; exact lend_of f (lends_any f))
/-- stagehandkit.Lend of a term in memory. -/
theorem lend_any (f : Nat) : LendP f := lend_of f (lends_any f)
end Go.Proofs.YthmpobimmbmddaaGreatDoor
