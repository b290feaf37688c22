/-
  Lists of chunks in memory; file.distinct.
-/
import Derived.Test.YteleaiodkljigaaDoorFNamed
import Derived.Lib.SlBy
import Derived.Shelf.SlicesQ.IndexFunc
namespace Go.Proofs.YteleaiodkljigaaDoor
open Go.RowKit Go.Shelf Go.Lib

def encC (x : Ch) : List Value := [.string x.1, .string x.2]
/-- From ⟨b, off⟩ on lie the chunks of l, two cells each. -/
def RowAt (w : World) (b off : Nat) (l : List Ch) : Prop := b < w.heap.size ∧ ∀ j, j < l.length → w.cell? ⟨b, off + j * 2, none⟩ = some (.string l[j]!.1) ∧ w.cell? ⟨b, off + j * 2 + 1, none⟩ = some (.string l[j]!.2)
theorem RowAt.below {w w' : World} {b off B : Nat} {l : List Ch} (h : RowAt w b off l) (hb : Below B w w') (hB : b < B) : RowAt w' b off l :=
  ⟨Nat.lt_of_lt_of_le h.1 hb.size, fun j hj => by
    have := h.2 j hj
    exact ⟨(hb.cell (p := ⟨b, off + j * 2, none⟩) hB).trans this.1, (hb.cell (p := ⟨b, off + j * 2 + 1, none⟩) hB).trans this.2⟩⟩

theorem same_any (n : ByteArray) (B : Nat) (w : World) (hB : B < w.heap.size) (h0 : w.cell? ⟨B, 0, none⟩ = some (.string n)) :
    PredBelow Tryd.prog 34 #[.pointer (some ⟨B, 0, none⟩)] (fun x => .agg (encC x).toArray) (fun x : Ch => x.1.toList == n.toList) w := fun W x hb => by
  have hc : W.cell? ⟨B, 0, none⟩ = some (.string n) := (hb.cell (p := ⟨B, 0, none⟩) hB).trans h0
  have hBW : B < W.heap.size := Nat.lt_of_lt_of_le hB hb.size
  have hne : B ≠ W.heap.size := by omega
  show Calls Tryd.prog 34 #[.agg #[.string x.1, .string x.2], .pointer (some ⟨B, 0, none⟩)] W _
  go_enter Tryd.func34, Tryd.ntmps34
  go_wp2
  all_goals (go_ret; exact ⟨rfl, hb.alloc hb.size _⟩)

theorem indexFunc_any (b off c : Nat) (l : List Ch) (n : ByteArray) (B : Nat) (w : World) (hr : RowAt w b off l) (hbig : l.length ≤ 9223372036854775807) (hB : B < w.heap.size) (h0 : w.cell? ⟨B, 0, none⟩ = some (.string n)) :
    Calls Tryd.prog 36 #[.slice (some ⟨b, off, none⟩) l.length c, .func (.func 34) #[] #[.pointer (some ⟨B, 0, none⟩)]] w fun e w' => e = .returned (.int .i64 (Lib.idxBy (fun _ y => y.1.toList == n.toList) (l.take l.length) default)) ∧ Below w.heap.size w w' :=
  AnyQ.slices_IndexFunc Tryd.l36 2 Tryd.isAgg41 Tryd.sizeOf41 encC (fun _ => rfl) (fun x => x.1.toList == n.toList) 34 #[.pointer (some ⟨B, 0, none⟩)] (enters_of Tryd.func34 (by kernel_rfl) rfl) b off l.length c l w
    (same_any n B w hB h0) (Nat.le_refl _) hbig hr.1 (fun j hj i v hi => by
      have h1 := hr.2 j hj
      generalize l[j]! = y at hi h1
      match i, hi with
      | 0, hi => simp [encC] at hi; rw [← hi]; exact h1.1
      | 1, hi => simp [encC] at hi; rw [← hi]; exact h1.2
      | i + 2, hi => simp [encC] at hi)
theorem idx_good {l : List Ch} {k : Nat} (hk : k < l.length) : Lib.idxBy (fun _ y : Ch => y.1.toList == l[k]!.1.toList) (l.take l.length) default = k ↔ ∀ j, j < k → l[j]!.1.data.toList ≠ l[k]!.1.data.toList := by
  constructor
  · intro h j hj e
    have hm : ∃ m, m ≤ j ∧ l[m]!.1.data.toList = l[k]!.1.data.toList ∧ ∀ i, i < m → l[i]!.1.data.toList ≠ l[k]!.1.data.toList := by
      clear h
      induction j using Nat.strongRecOn with
      | ind j ih =>
        by_cases c : ∃ i, i < j ∧ l[i]!.1.data.toList = l[k]!.1.data.toList
        · obtain ⟨i, hi, he⟩ := c
          obtain ⟨m, hm, r⟩ := ih i hi (by omega) he
          exact ⟨m, by omega, r⟩
        · exact ⟨j, Nat.le_refl _, e, fun i hi he => c ⟨i, hi, he⟩⟩
    obtain ⟨m, hm, he, hmin⟩ := hm
    have := idxBy_hit (fun _ y : Ch => y.1.toList == l[k]!.1.toList) l l.length m default (by omega) (Nat.le_refl _) (by simp only [ByteArray.toList_eq]; exact beq_iff_eq.2 he) (fun i hi => by simp only [ByteArray.toList_eq]; exact beq_eq_false_iff_ne.2 (hmin i hi))
    omega
  · intro h
    refine idxBy_hit _ l l.length k default hk (Nat.le_refl _) (by simp) (fun j hj => ?_)
    have := h j hj
    simp only [ByteArray.toList_eq]
    exact beq_eq_false_iff_ne.2 this

set_option maxHeartbeats 1000000 in
theorem distinct_any (b off c : Nat) (l : List Ch) (w : World) (hr : RowAt w b off l) (hbig : l.length ≤ 9223372036854775807) :
    Calls Tryd.prog 20 #[.slice (some ⟨b, off, none⟩) l.length c] w fun e w' => e = .returned (.bool (dst l)) ∧ Below w.heap.size w w' := by
  have HR := Lib.hid hr
  go_enter Tryd.func20, Tryd.ntmps20
  go_wp2
  go_loopw [8] (fun i wr => ∃ k : Nat, k ≤ l.length ∧ i = .int .i64 k ∧ Below w.heap.size w wr ∧ Hid (∀ j, j < k → good l j = true)) (fun i _ => l.length - (intOf i).toNat)
  case atStart => exact ⟨0, Nat.zero_le _, rfl, Below.refl _ _, Lib.hid (fun j hj => absurd hj (Nat.not_lt_zero _))⟩
  case round =>
    obtain ⟨k, hk, rfl, hB, HG⟩ := hrel
    rename World => wr
    by_cases hlt : k < l.length
    · have hrr := HR.out.below hB HR.out.1
      have hc0 := (hrr.2 k hlt).1
      have hc1 := (hrr.2 k hlt).2
      have hgood : good l k = (nm l[k]!.1.data.toList && decide (∀ j, j < k → l[j]!.1.data.toList ≠ l[k]!.1.data.toList)) := rfl
      have hix := idx_good hlt
      have HGOOD := Lib.hid hgood; have HIX := Lib.hid hix; clear hgood hix
      generalize hn : l[k]!.1 = n at *
      generalize l[k]!.2 = d at *
      have HN := Lib.hid hn; clear hn hrr
      cases hnm : nm n.data.toList with
      | false =>
        have E : Hid (dst l = false) := Lib.hid (dst_no hlt (by rw [HGOOD.out, hnm]; rfl))
        go_wp2_with (go_at_call 35; refine (named_any _ _).mono ?_; rintro e w1 ⟨rfl, hb1⟩)
        go_ret
        exact ⟨retb E.out.symm, (hB.alloc hB.size _).trans (hb1.mono (by simp; have := hB.size; omega))⟩
      | true =>
        go_wp2_with fail
        refine (named_any _ _).mono ?_
        rintro e w1 ⟨rfl, hb1⟩
        have hB1 : Below w.heap.size w w1 := (hB.alloc hB.size _).trans (hb1.mono (by simp; have := hB.size; omega))
        have hbox : w1.cell? ⟨wr.heap.size, 0, none⟩ = some (.string n) := (hb1.cell (p := ⟨wr.heap.size, 0, none⟩) (by simp)).trans (by rw [World.cell?_alloc_at _ _ _ _ rfl]; rfl)
        have hsz : wr.heap.size < w1.heap.size := Nat.lt_of_lt_of_le (by simp) hb1.size
        go_wp2_with fail
        have hif := indexFunc_any b off c l n wr.heap.size w1 (HR.out.below hB1 HR.out.1) hbig hsz hbox
        generalize hr0 : Lib.idxBy (fun _ y : Ch => y.1.toList == n.toList) (l.take l.length) default = r at *
        refine hif.mono ?_
        rintro e w2 ⟨rfl, hb2⟩
        have hB2 : Below w.heap.size w w2 := hB1.trans (hb2.mono hB1.size)
        clear hif
        by_cases same : r = (k : Int)
        · have hg : good l k = true := by rw [HGOOD.out, hnm, decide_eq_true (HIX.out.1 same)]; rfl
          have HG2 : Hid (∀ j, j < k + 1 → good l j = true) := Lib.hid (fun j hj => by
            rcases Nat.eq_or_lt_of_le (Nat.le_of_lt_succ hj) with e | e
            · rw [e]; exact hg
            · exact HG.out j e)
          have hs : (r != (k : Int)) = false := by rw [same]; simp
          clear same hg hr0
          go_wp2_with fail
          go_roundw
          case rel => exact ⟨k + 1, by omega, by go_num, hB2, HG2⟩
          case measure => simp [intOf]; omega
        · have hg : good l k = false := by rw [HGOOD.out, hnm, decide_eq_false (fun c => same (HIX.out.2 c))]; rfl
          have E : Hid (dst l = false) := Lib.hid (dst_no hlt hg)
          have hs : (r != (k : Int)) = true := by rw [bne_iff_ne]; exact same
          clear same hg hr0
          go_wp2_with fail
          go_ret
          exact ⟨retb E.out.symm, hB2⟩
    · go_wp2
      go_ret
      exact ⟨retb (dst_yes (fun i hi => HG.out i (by omega))).symm, hB⟩

/-- A row of chunks, or nil. -/
def ListS (w : World) (ao : Option Addr) (l : List Ch) : Prop := l = [] ∨ ∃ b off, ao = some ⟨b, off, none⟩ ∧ RowAt w b off l
theorem ListS.below {w w' : World} {ao : Option Addr} {l : List Ch} (h : ListS w ao l) (hb : Below w.heap.size w w') : ListS w' ao l :=
  h.elim (fun h => .inl h) (fun ⟨b, off, e, hr⟩ => .inr ⟨b, off, e, hr.below hb hr.1⟩)
theorem ListS.row {w : World} {ao : Option Addr} {l : List Ch} {k : Nat} (h : ListS w ao l) (hk : k < l.length) : ∃ b off, ao = some ⟨b, off, none⟩ ∧ RowAt w b off l :=
  h.elim (fun e => by rw [e] at hk; exact absurd hk (Nat.not_lt_zero _)) (fun h => h)
/-- The value of a list of chunks. -/
def ListAt (w : World) (v : Value) (l : List Ch) : Prop := ∃ ao c, v = .slice ao l.length c ∧ ListS w ao l
theorem listAt_nil (w : World) : ListAt w (.slice none 0 0) [] := ⟨none, 0, rfl, .inl rfl⟩
theorem listS_of {w : World} {v : Value} {l : List Ch} (h : ListAt w v l) : ∃ ao c, v = .slice ao l.length c ∧ ListS w ao l := h
theorem ListAt.below {w w' : World} {v : Value} {l : List Ch} (h : ListAt w v l) (hb : Below w.heap.size w w') : ListAt w' v l := by
  obtain ⟨ao, c, e, hs⟩ := h; exact ⟨ao, c, e, hs.below hb⟩

set_option maxHeartbeats 2000000 in
set_option maxRecDepth 100000 in
theorem distinct_nil (ao : Option Addr) (c : Nat) (w : World) :
    Calls Tryd.prog 20 #[.slice ao 0 c] w fun e w' => e = .returned (.bool true) ∧ Below w.heap.size w w' := by
  go_enter Tryd.func20, Tryd.ntmps20
  go_wp2_with fail
  go_loopw [8] (fun i wr => i = .int .i64 0 ∧ wr = w) (fun _ _ => 0)
  case atStart => exact ⟨rfl, rfl⟩
  case round =>
    obtain ⟨rfl, rfl⟩ := hrel
    go_wp2_with fail
    go_ret
    exact ⟨rfl, Below.refl _ _⟩

theorem distinct_s (ao : Option Addr) (c : Nat) (l : List Ch) (w : World) (h : ListS w ao l) (hl : l.length ≤ 9223372036854775807) :
    Calls Tryd.prog 20 #[.slice ao l.length c] w fun e w' => e = .returned (.bool (dst l)) ∧ Below w.heap.size w w' := by
  rcases h with rfl | ⟨b, off, rfl, hr⟩
  · exact distinct_nil ao c w
  · exact distinct_any b off c l w hr hl

end Go.Proofs.YteleaiodkljigaaDoor
