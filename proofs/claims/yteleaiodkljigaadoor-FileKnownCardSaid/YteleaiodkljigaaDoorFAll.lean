/-
  The reader's loop over the chunks.
-/
import Derived.Test.YteleaiodkljigaaDoorFRead
import Derived.Deep.AppendLies
import Derived.Deep.RegionHeld3
namespace Go.Proofs.YteleaiodkljigaaDoor
open Go.RowKit Go.Shelf Go.Lib

def cellsC (l : List Ch) : List Value := l.flatMap encC
def lenOf (r : Nat) (w : World) : Nat := match w.cell? ⟨r, 1, none⟩ with
  | some (.slice _ n _) => n
  | _ => 0

theorem grownBy_alloc {a b : World} {o : Option Nat} (h : a.grownBy b o) (x : Obj) : a.grownBy (b.alloc x) o :=
  grownBy_trans h (grownBy_below ((Below.refl _ _).alloc (Nat.le_refl _) _) _)
theorem owns_apart {w0 w : World} {e : TypeId} {size : Nat} {v : Value} {n r : Nat} {xs : List Value} (h : w.ownsRow w0.heap.size e size v n xs) (hr : r < w0.heap.size) : v.ownBlock = none ∨ v.ownBlock ≠ some r := by
  right
  intro he
  have := (h.lt r he).1
  omega
theorem owns_below {w w' : World} {B : Nat} {e : TypeId} {size : Nat} {v : Value} {n : Nat} {xs : List Value} (h : w.ownsRow B e size v n xs) (hb : Below w.heap.size w w') : w'.ownsRow B e size v n xs := by
  refine ⟨h.1, ?_⟩
  rcases h.2 with hn | ⟨g, cap, cur, rfl, hB, hg, hr⟩
  · exact .inl hn
  · exact .inr ⟨g, cap, cur, rfl, hB, (hb.block g (lt_of_row hg)).trans hg, hr⟩
theorem infoChunk : (Tryd.prog.info? 41).map (fun i => (i.zero, i.size, i.bytes)) = some (some (.agg #[.string ⟨#[]⟩, .string ⟨#[]⟩]), 2, 32) := by kernel_rfl
theorem cellsC_snoc (l : List Ch) (a b : ByteArray) : cellsC (l ++ [(a, b)]) = cellsC l ++ [.string a, .string b] := by simp [cellsC, encC]
theorem grownBy_own {a b c : World} {r : Nat} {o : Option Nat} (h : a.grownBy b (some r)) (h' : b.grownBy c o) (ho : ∀ k, o = some k → a.heap.size ≤ k) : a.grownBy c (some r) :=
  ⟨h'.os.trans h.os, h'.tape.trans h.tape, h'.output.trans h.output, Nat.le_trans h.size h'.size, fun k hk hn => (h'.block k (Nat.lt_of_lt_of_le hk h.size) (fun e => by have := ho k e.symm; omega)).trans (h.block k hk hn)⟩
theorem slice_of_owns {w : World} {B : Nat} {e : TypeId} {size : Nat} {v : Value} {n : Nat} {xs : List Value} (h : w.ownsRow B e size v n xs) : ∃ ao cap, v = .slice ao n cap := by
  rcases h.2 with ⟨rfl, rfl⟩ | ⟨g, cap, cur, rfl, _⟩
  · exact ⟨_, _, rfl⟩
  · exact ⟨_, _, rfl⟩
theorem lenOf_rd {r : Nat} {rest : List UInt8} {ao : Option Addr} {n cap : Nat} {w : World} (h : RdAt r rest (.slice ao n cap) w) : lenOf r w = n := by
  unfold lenOf; rw [h.c1]

set_option maxHeartbeats 2000000 in
set_option maxRecDepth 100000 in
theorem all_any (r : Nat) (rest : List UInt8) (w : World) (h : RdAt r rest (.slice none 0 0) w) (hz : rest.length ≤ 16777216) :
    Calls Tryd.prog 31 #[.pointer (some ⟨r, 0, none⟩), .func (.func 32) #[.pointer (some ⟨r, 0, none⟩)] #[]] w fun e w' => (match allP 17 [] rest with
      | none => e = .returned (.bool false)
      | some l => e = .returned (.bool true) ∧ ∃ r' lv, RdAt r r' lv w' ∧ w'.ownsRow w.heap.size 41 2 lv l.length (cellsC l)) ∧ w.grownBy w' (some r) := by
  generalize hX : allP 17 [] rest = X
  have hrw := h.lt
  go_enter Tryd.func31, Tryd.ntmps31
  go_wp2_with fail
  go_loopw [4] (fun f wr => f = .bool false ∧ ∃ (acc : List Ch) (rest' : List UInt8) (lv : Value), acc.length ≤ 17 ∧ allP (17 - acc.length) acc rest' = X ∧ rest'.length ≤ 16777216 ∧ RdAt r rest' lv wr ∧ wr.ownsRow w.heap.size 41 2 lv acc.length (cellsC acc) ∧ w.grownBy wr (some r)) (fun _ wr => 17 - lenOf r wr)
  case atStart => exact ⟨rfl, [], rest, _, Nat.zero_le _, hX, hz, h, World.ownsRow_nil _ _ _ _, grownBy_refl _ _⟩
  case round =>
    obtain ⟨rfl, acc, rest', lv, hlen, hall, hzr, hrd, hown, hg⟩ := hrel
    obtain ⟨ao, cap, rfl⟩ := slice_of_owns hown
    have c1 := hrd.c1
    by_cases hlt : acc.length ≤ 16
    · obtain ⟨k, hk⟩ : ∃ k, 17 - acc.length = k + 1 := ⟨16 - acc.length, by omega⟩
      have hca := fun wx hx => chunk_any r rest' (.slice ao acc.length cap) wx hx (by omega)
      rw [hk] at hall
      cases hcp : chunkP rest' with
      | none =>
        rw [allP_none hcp] at hall
        subst hall
        rw [hcp] at hca
        go_wp2_with (go_at_call 32; refine (hca _ hrd).mono ?_; rintro e w1 ⟨⟨x, y, rfl⟩, hg1⟩)
        go_ret
        exact ⟨rfl, grownBy_alloc (grownBy_trans hg hg1) _⟩
      | some p =>
        obtain ⟨nm, dt, r'⟩ := p
        rw [hcp] at hca
        have hlr := chunkP_len hcp
        have hds : (⟨dt.toArray⟩ : ByteArray).size = dt.length := by show dt.toArray.size = _; simp
        go_wp2_with fail
        refine (hca _ hrd).mono ?_
        rintro e w1 ⟨⟨rfl, hrd1⟩, hg1⟩
        have hrA : RdAt r r' (.slice ao acc.length cap) (w1.alloc (.cells #[.string ⟨nm.toArray⟩, .string ⟨dt.toArray⟩] 41)) := hrd1.below ((Below.refl _ _).alloc (Nat.le_refl _) _)
        have d0 := hrA.c0
        have d1 := hrA.c1
        have e1 := hrA.f1
        have hg2 := grownBy_trans hg hg1
        have hown1 := hown.kept hg1 (owns_apart hown hrw)
        by_cases hnm : nm = CSUM
        · subst hnm
          rw [allP_last hcp] at hall
          by_cases h4 : dt.length = 4
          · have h4i : ((dt.length : Int) == 4) = true := by rw [h4]; rfl
            by_cases hr0 : r' = []
            · rw [if_pos ⟨h4, hr0⟩] at hall
              subst hr0
              subst hall
              go_wp2_with fail
              go_ret
              exact ⟨⟨rfl, _, _, hrd1.below ((Below.refl _ _).alloc (Nat.le_refl _) _), owns_below hown1 ((Below.refl _ _).alloc (Nat.le_refl _) _)⟩, grownBy_alloc hg2 _⟩
            · have hre : r'.isEmpty = false := by cases r' with | nil => exact absurd rfl hr0 | cons => rfl
              rw [if_neg (fun h => hr0 h.2)] at hall
              subst hall
              go_wp2_with fail
              go_ret
              exact ⟨rfl, grownBy_alloc hg2 _⟩
          · have h4i : ¬ (dt.length : Int) = 4 := by omega
            rw [if_neg (fun h => h4 h.1)] at hall
            subst hall
            go_wp2_with fail
            go_ret
            exact ⟨rfl, grownBy_alloc hg2 _⟩
        · rw [allP_next hcp hnm] at hall
          have hnl : (nm == [67, 83, 85, 77]) = false := by
            cases hb : nm == [67, 83, 85, 77] with
            | false => rfl
            | true => exact absurd (eq_of_beq hb) hnm
          go_upto_region 7 with fail
          have hCr : w1.heap.size ≠ r := fun e => absurd hrd1.lt (by rw [e]; exact Nat.lt_irrefl _)
          have hownA := owns_below hown1 ((Below.refl w1.heap.size w1).alloc (Nat.le_refl _) (.cells #[.string ⟨nm.toArray⟩, .string ⟨dt.toArray⟩] 41))
          have hgA := grownBy_alloc hg2 (.cells #[.string ⟨nm.toArray⟩, .string ⟨dt.toArray⟩] 41)
          have hCA : (w1.alloc (.cells #[.string ⟨nm.toArray⟩, .string ⟨dt.toArray⟩] 41)).heap[w1.heap.size]? = some (.cells #[.string ⟨nm.toArray⟩, .string ⟨dt.toArray⟩] 41 (0, 0)) := heap_alloc_new _ _
          have hCw : w.heap.size ≤ w1.heap.size := hg2.size
          have hlo : ∀ k, (Value.slice ao acc.length cap).ownBlock = some k → w.heap.size ≤ k ∧ k < w1.heap.size := hown1.lt
          generalize w1.alloc (.cells #[.string ⟨nm.toArray⟩, .string ⟨dt.toArray⟩] 41) = wa at *
          generalize w1.heap.size = C at *
          have k0 : wa.cell? ⟨C, 0, none⟩ = some (.string ⟨nm.toArray⟩) := by rw [cell_of_row _ _ _ _ _ _ hCA]; rfl
          have k1 : wa.cell? ⟨C, 1, none⟩ = some (.string ⟨dt.toArray⟩) := by rw [cell_of_row _ _ _ _ _ _ hCA]; rfl
          have hCl := lt_of_row hCA
          obtain ⟨i0, hi, hz0, hz1, hz2⟩ := info_parts infoChunk
          have hbO := (Below.refl wa.heap.size wa).alloc (Nat.le_refl _) (.cells #[.string ⟨nm.toArray⟩, .string ⟨dt.toArray⟩] 41)
          have k2 : (wa.alloc (.cells #[.string ⟨nm.toArray⟩, .string ⟨dt.toArray⟩] 41)).drew.cell? ⟨C, 0, none⟩ = some (.string ⟨nm.toArray⟩) := (hbO.cell (p := ⟨C, 0, none⟩) hCl).trans k0
          have k3 : (wa.alloc (.cells #[.string ⟨nm.toArray⟩, .string ⟨dt.toArray⟩] 41)).drew.cell? ⟨C, 1, none⟩ = some (.string ⟨dt.toArray⟩) := (hbO.cell (p := ⟨C, 1, none⟩) hCl).trans k1
          have k4a : RdAt r r' (.slice ao acc.length cap) (wa.alloc (.cells #[.string ⟨nm.toArray⟩, .string ⟨dt.toArray⟩] 41)) := hrA.below hbO
          have k4 : RdAt r r' (.slice ao acc.length cap) (wa.alloc (.cells #[.string ⟨nm.toArray⟩, .string ⟨dt.toArray⟩] 41)).drew := k4a
          have hgO : w.grownBy (wa.alloc (.cells #[.string ⟨nm.toArray⟩, .string ⟨dt.toArray⟩] 41)).drew (some r) := grownBy_drew (grownBy_alloc hgA _)
          have k5 := k4.c1
          have hrO : some r ≠ (Value.slice ao acc.length cap).ownBlock := fun e => by have := (hlo r e.symm).1; omega
          have hCO : some C ≠ (Value.slice ao acc.length cap).ownBlock := fun e => by have := (hlo C e.symm).2; omega
          go_region_law (refine step_append_lies _ rfl (.tmp 38) (.tmp 40) 30 rfl w.heap.size 41 i0 _ 2 32 Tryd.underlying30 hi hz0 hz1 hz2 rfl (by decide) (.slice ao acc.length cap) acc.length (cellsC acc) rfl (owns_below hownA ((Below.refl _ _).drew.alloc (Nat.le_refl _) _)) ⟨wa.heap.size, 0, none⟩ 1 1 [.string ⟨nm.toArray⟩, .string ⟨dt.toArray⟩] rfl rfl (World.news_of_block (heap_alloc_new _ _)) (by simp [Value.oneCell']) (by decide) (by unfold maxLen; omega) (by omega) (by simp; have := hgA.size; omega) _ rfl ?_; intro g cap' w9 hown9 hgrow hat hlt9; have q0 : w9.cell? ⟨C, 0, none⟩ = some (.string ⟨nm.toArray⟩) := hgrow.cell k2 hCO; have q1 : w9.cell? ⟨C, 1, none⟩ = some (.string ⟨dt.toArray⟩) := hgrow.cell k3 hCO; have q2 : RdAt r r' (.slice ao acc.length cap) w9 := (hgrow.block r k4.lt hrO).trans k4; have q3 := q2.c1; have q4 := q2.f1; have q5 := grownBy_own hgO hgrow (fun k e => (hlo k e).1))
          all_goals (go_wp2_with fail; go_roundw)
          all_goals (first
            | exact ⟨rfl, acc ++ [(⟨nm.toArray⟩, ⟨dt.toArray⟩)], r', _, by rw [List.length_append]; exact Nat.succ_le_succ hlt, by rw [List.length_append, show 17 - (acc.length + [((⟨nm.toArray⟩, ⟨dt.toArray⟩) : Ch)].length) = k from by simp; omega]; exact hall, by omega, q2.set1 _, by rw [List.length_append, cellsC_snoc]; exact hown9.kept (grownBy_set _ _ _ _) (owns_apart hown9 hrw), grownBy_trans q5 (grownBy_set _ _ _ _)⟩
            | (rw [lenOf_rd hrd, lenOf_rd (q2.set1 _)]; omega))
    · have hk : 17 - acc.length = 0 := by omega
      rw [hk] at hall
      have hX0 : X = none := by rw [← hall]; rfl
      subst hX0
      go_wp2_with fail
      go_ret
      exact ⟨rfl, hg⟩

end Go.Proofs.YteleaiodkljigaaDoor
