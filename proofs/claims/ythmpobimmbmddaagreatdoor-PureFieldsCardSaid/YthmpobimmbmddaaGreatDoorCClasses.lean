/-
  pure.classes, pure.Class: the walks (printed by gen_classes.py).
-/
import Derived.Test.YthmpobimmbmddaaGreatDoorCClass
namespace Go.Proofs.YthmpobimmbmddaaGreatDoor
open Go.RowKit Go.Maps Go.WideMaps
set_option linter.unusedVariables false
set_option linter.unusedSimpArgs false

def words1 : List (List UInt8) := [[105, 115, 95, 105, 110, 116, 101, 103, 101, 114, 47, 49], [105, 115, 95, 97, 116, 111, 109, 47, 49], [105, 115, 95, 98, 111, 111, 108, 101, 97, 110, 47, 49], [105, 115, 95, 116, 117, 112, 108, 101, 47, 49], [105, 115, 95, 112, 105, 100, 47, 49], [105, 115, 95, 114, 101, 102, 47, 49], [105, 115, 95, 108, 105, 115, 116, 47, 49], [105, 115, 95, 98, 105, 116, 115, 47, 49], [105, 115, 95, 98, 121, 116, 101, 115, 47, 49], [105, 115, 95, 102, 117, 110, 47, 49], [105, 115, 95, 102, 117, 110, 47, 50], [101, 108, 101, 109, 101, 110, 116, 47, 50], [115, 105, 122, 101, 47, 49], [104, 100, 47, 49], [116, 108, 47, 49], [108, 101, 110, 103, 116, 104, 47, 49], [98, 105, 116, 95, 115, 105, 122, 101, 47, 49], [98, 121, 116, 101, 95, 115, 105, 122, 101, 47, 49], [97, 98, 115, 47, 49], [109, 105, 110, 47, 50], [109, 97, 120, 47, 50], [115, 101, 108, 102, 47, 48], [110, 111, 100, 101, 47, 48], [110, 111, 100, 101, 47, 49]]
def wordsS1 : List UInt8 := [105, 115, 95, 105, 110, 116, 101, 103, 101, 114, 47, 49, 32, 105, 115, 95, 97, 116, 111, 109, 47, 49, 32, 105, 115, 95, 98, 111, 111, 108, 101, 97, 110, 47, 49, 32, 105, 115, 95, 116, 117, 112, 108, 101, 47, 49, 32, 105, 115, 95, 112, 105, 100, 47, 49, 32, 105, 115, 95, 114, 101, 102, 47, 49, 32, 105, 115, 95, 108, 105, 115, 116, 47, 49, 32, 105, 115, 95, 98, 105, 116, 115, 47, 49, 32, 105, 115, 95, 98, 121, 116, 101, 115, 47, 49, 32, 105, 115, 95, 102, 117, 110, 47, 49, 32, 105, 115, 95, 102, 117, 110, 47, 50, 32, 101, 108, 101, 109, 101, 110, 116, 47, 50, 32, 115, 105, 122, 101, 47, 49, 32, 104, 100, 47, 49, 32, 116, 108, 47, 49, 32, 108, 101, 110, 103, 116, 104, 47, 49, 32, 98, 105, 116, 95, 115, 105, 122, 101, 47, 49, 32, 98, 121, 116, 101, 95, 115, 105, 122, 101, 47, 49, 32, 97, 98, 115, 47, 49, 32, 109, 105, 110, 47, 50, 32, 109, 97, 120, 47, 50, 32, 115, 101, 108, 102, 47, 48, 32, 110, 111, 100, 101, 47, 48, 32, 110, 111, 100, 101, 47, 49]
def words2 : List (List UInt8) := [[115, 101, 116, 101, 108, 101, 109, 101, 110, 116, 47, 51], [116, 111, 95, 108, 105, 115, 116, 47, 49], [116, 111, 95, 116, 117, 112, 108, 101, 47, 49], [116, 111, 95, 98, 121, 116, 101, 115, 47, 49], [102, 114, 111, 109, 95, 98, 121, 116, 101, 115, 47, 49], [114, 101, 118, 101, 114, 115, 101, 47, 49], [109, 101, 109, 98, 101, 114, 47, 50], [115, 111, 114, 116, 47, 49], [112, 97, 99, 107, 47, 49], [117, 110, 112, 97, 99, 107, 47, 49], [101, 114, 114, 111, 114, 47, 49], [101, 120, 105, 116, 47, 49], [116, 104, 114, 111, 119, 47, 49], [114, 97, 105, 115, 101, 47, 50]]
def wordsS2 : List UInt8 := [115, 101, 116, 101, 108, 101, 109, 101, 110, 116, 47, 51, 32, 116, 111, 95, 108, 105, 115, 116, 47, 49, 32, 116, 111, 95, 116, 117, 112, 108, 101, 47, 49, 32, 116, 111, 95, 98, 121, 116, 101, 115, 47, 49, 32, 102, 114, 111, 109, 95, 98, 121, 116, 101, 115, 47, 49, 32, 114, 101, 118, 101, 114, 115, 101, 47, 49, 32, 109, 101, 109, 98, 101, 114, 47, 50, 32, 115, 111, 114, 116, 47, 49, 32, 112, 97, 99, 107, 47, 49, 32, 117, 110, 112, 97, 99, 107, 47, 49, 32, 101, 114, 114, 111, 114, 47, 49, 32, 101, 120, 105, 116, 47, 49, 32, 116, 104, 114, 111, 119, 47, 49, 32, 114, 97, 105, 115, 101, 47, 50]
def words3 : List (List UInt8) := [[115, 112, 97, 119, 110, 47, 49], [115, 112, 97, 119, 110, 47, 51], [115, 112, 97, 119, 110, 95, 108, 105, 110, 107, 47, 49], [115, 112, 97, 119, 110, 95, 108, 105, 110, 107, 47, 51], [115, 112, 97, 119, 110, 95, 109, 111, 110, 105, 116, 111, 114, 47, 49], [115, 112, 97, 119, 110, 95, 109, 111, 110, 105, 116, 111, 114, 47, 51], [114, 101, 113, 117, 101, 115, 116, 47, 52], [108, 105, 110, 107, 47, 49], [117, 110, 108, 105, 110, 107, 47, 49], [109, 111, 110, 105, 116, 111, 114, 47, 49], [100, 101, 109, 111, 110, 105, 116, 111, 114, 47, 49], [101, 120, 105, 116, 47, 50], [116, 114, 97, 112, 47, 49], [112, 114, 105, 111, 114, 105, 116, 121, 47, 49], [114, 101, 103, 105, 115, 116, 101, 114, 47, 50], [117, 110, 114, 101, 103, 105, 115, 116, 101, 114, 47, 49], [119, 104, 101, 114, 101, 105, 115, 47, 49], [115, 101, 110, 100, 95, 97, 102, 116, 101, 114, 47, 51], [99, 97, 110, 99, 101, 108, 47, 49], [109, 97, 107, 101, 95, 114, 101, 102, 47, 48], [99, 108, 111, 99, 107, 47, 48], [115, 97, 121, 47, 49], [110, 111, 100, 101, 115, 47, 48], [119, 97, 116, 99, 104, 47, 49], [117, 110, 119, 97, 116, 99, 104, 47, 49], [116, 97, 98, 95, 110, 101, 119, 47, 49], [116, 97, 98, 95, 112, 117, 116, 47, 51], [116, 97, 98, 95, 103, 101, 116, 47, 50], [116, 97, 98, 95, 100, 101, 108, 47, 50], [116, 97, 98, 95, 110, 101, 120, 116, 47, 50], [116, 97, 98, 95, 115, 105, 122, 101, 47, 49], [116, 97, 98, 95, 100, 114, 111, 112, 47, 49]]
def wordsS3 : List UInt8 := [115, 112, 97, 119, 110, 47, 49, 32, 115, 112, 97, 119, 110, 47, 51, 32, 115, 112, 97, 119, 110, 95, 108, 105, 110, 107, 47, 49, 32, 115, 112, 97, 119, 110, 95, 108, 105, 110, 107, 47, 51, 32, 115, 112, 97, 119, 110, 95, 109, 111, 110, 105, 116, 111, 114, 47, 49, 32, 115, 112, 97, 119, 110, 95, 109, 111, 110, 105, 116, 111, 114, 47, 51, 32, 114, 101, 113, 117, 101, 115, 116, 47, 52, 32, 108, 105, 110, 107, 47, 49, 32, 117, 110, 108, 105, 110, 107, 47, 49, 32, 109, 111, 110, 105, 116, 111, 114, 47, 49, 32, 100, 101, 109, 111, 110, 105, 116, 111, 114, 47, 49, 32, 101, 120, 105, 116, 47, 50, 32, 116, 114, 97, 112, 47, 49, 32, 112, 114, 105, 111, 114, 105, 116, 121, 47, 49, 32, 114, 101, 103, 105, 115, 116, 101, 114, 47, 50, 32, 117, 110, 114, 101, 103, 105, 115, 116, 101, 114, 47, 49, 32, 119, 104, 101, 114, 101, 105, 115, 47, 49, 32, 115, 101, 110, 100, 95, 97, 102, 116, 101, 114, 47, 51, 32, 99, 97, 110, 99, 101, 108, 47, 49, 32, 109, 97, 107, 101, 95, 114, 101, 102, 47, 48, 32, 99, 108, 111, 99, 107, 47, 48, 32, 115, 97, 121, 47, 49, 32, 110, 111, 100, 101, 115, 47, 48, 32, 119, 97, 116, 99, 104, 47, 49, 32, 117, 110, 119, 97, 116, 99, 104, 47, 49, 32, 116, 97, 98, 95, 110, 101, 119, 47, 49, 32, 116, 97, 98, 95, 112, 117, 116, 47, 51, 32, 116, 97, 98, 95, 103, 101, 116, 47, 50, 32, 116, 97, 98, 95, 100, 101, 108, 47, 50, 32, 116, 97, 98, 95, 110, 101, 120, 116, 47, 50, 32, 116, 97, 98, 95, 115, 105, 122, 101, 47, 49, 32, 116, 97, 98, 95, 100, 114, 111, 112, 47, 49]
def words4 : List (List UInt8) := [[97, 112, 112, 108, 121, 47, 50], [97, 112, 112, 108, 121, 47, 51]]
def wordsS4 : List UInt8 := [97, 112, 112, 108, 121, 47, 50, 32, 97, 112, 112, 108, 121, 47, 51]
def classT : List UInt8 → Int := tabAll 4 words4 (tabAll 3 words3 (tabAll 2 words2 (tabAll 1 words1 (fun _ => 0))))
theorem ascii_of {l : List UInt8} (h : l.all (fun b => decide (b.toNat < 128)) = true) : ∀ (j : Nat) b, l[j]? = some b → b.toNat < 128 := fun j b hb => by
  have := List.all_eq_true.1 h b (List.mem_of_getElem? hb)
  simpa using this
theorem lens_of {ws : List (List UInt8)} (h : ws.all (fun x => decide (x.length ≤ 1000)) = true) : ∀ x ∈ ws, x.length ≤ 1000 := fun x hx => by
  have := List.all_eq_true.1 h x hx
  simpa using this

theorem words1_is : Lib.fields wordsS1 = words1 := by kernel_rfl
theorem words2_is : Lib.fields wordsS2 = words2 := by kernel_rfl
theorem words3_is : Lib.fields wordsS3 = words3 := by kernel_rfl
theorem words4_is : Lib.fields wordsS4 = words4 := by kernel_rfl

def SpaceAt (w : World) : Prop := Lib.TabIs Tryz.prog w "strings.asciiSpace" .u8 Lib.asciiSpaceTab
theorem SpaceAt.below {w w' : World} (h : SpaceAt w) (hb : Below w.heap.size w w') : SpaceAt w' := Joins.tab_stays (g := 0) (by kernel_rfl) h hb (Nat.le_refl _)
set_option maxRecDepth 100000 in
set_option maxHeartbeats 4000000 in
theorem classes_any (w : World) (hsp : SpaceAt w) : Calls Tryz.prog 21 #[] w fun e w' => ∃ M, e = .returned (.map (some M)) ∧ MapIs w' M 72 classT ∧ Below w.heap.size w w' := by
  have hmm := @run_makeMap Tryz.prog
  have HS := Lib.hid hsp
  go_enter Tryz.func21, Tryz.ntmps21
  go_wp2_with fail
  have hC0 : ((w.alloc (.map #[] 0)).alloc (.cells #[.map (some w.heap.size)] 46)).heap[w.heap.size + 1]? = some (.cells #[.map (some w.heap.size)] 46 (0, 0)) := by
    have h := heap_alloc_new (w.alloc (.map #[] 0)) (.cells #[.map (some w.heap.size)] 46)
    rwa [show (w.alloc (.map #[] 0)).heap.size = w.heap.size + 1 by simp] at h
  have hM0 : MapIs ((w.alloc (.map #[] 0)).alloc (.cells #[.map (some w.heap.size)] 46)) w.heap.size 0 (fun _ => 0) := ⟨_, (World.ownsMap_made _ _ _ _).alloc _, fun k => rfl⟩
  have hB0 : Below w.heap.size w ((w.alloc (.map #[] 0)).alloc (.cells #[.map (some w.heap.size)] 46)) := ((Below.refl _ _).alloc (Nat.le_refl _) _).alloc (by simp) _
  have hS0 := Lib.hid (hsp.below hB0)
  have hsz : w.heap.size ≤ ((w.alloc (.map #[] 0)).alloc (.cells #[.map (some w.heap.size)] 46)).heap.size := hB0.size
  generalize (w.alloc (.map #[] 0)).alloc (.cells #[.map (some w.heap.size)] 46) = w0 at *
  clear hmm
  refine (add_any 1 _ words1 w.heap.size (w.heap.size + 1) w.heap.size 0 (fun _ => 0) w0 words1_is (by decide) (by decide) (by decide) (lens_of (by kernel_rfl)) (by decide) (by decide) (ascii_of (l := wordsS1) (by kernel_rfl)) hS0.out hsz (by omega) (Nat.le_refl _) (by omega) hC0 hM0).mono ?_
  rintro e w1 ⟨rfl, hM1, hC1, hB1'⟩
  have hB1 : Below w.heap.size w w1 := hB0.trans hB1'
  have hsz1 : w.heap.size ≤ w1.heap.size := hB1.size
  have hS1 := Lib.hid (hsp.below hB1)
  change MapIs w1 w.heap.size 24 _ at hM1
  generalize ht1 : tabAll 1 words1 (fun _ => 0) = t1 at hM1
  have HT1 := Lib.hid ht1
  clear ht1 hM0 hC0 hB1' hB0 hsz
  go_wp2_with fail
  refine (add_any 2 _ words2 w.heap.size (w.heap.size + 1) w.heap.size 24 t1 w1 words2_is (by decide) (by decide) (by decide) (lens_of (by kernel_rfl)) (by decide) (by decide) (ascii_of (l := wordsS2) (by kernel_rfl)) hS1.out hsz1 (by omega) (Nat.le_refl _) (by omega) hC1 hM1).mono ?_
  rintro e w2 ⟨rfl, hM2, hC2, hB2'⟩
  have hB2 : Below w.heap.size w w2 := hB1.trans hB2'
  have hsz2 : w.heap.size ≤ w2.heap.size := hB2.size
  have hS2 := Lib.hid (hsp.below hB2)
  change MapIs w2 w.heap.size 38 _ at hM2
  generalize ht2 : tabAll 2 words2 t1 = t2 at hM2
  have HT2 := Lib.hid ht2
  clear ht2 hM1 hC1 hB2' hB1 hsz1
  go_wp2_with fail
  refine (add_any 3 _ words3 w.heap.size (w.heap.size + 1) w.heap.size 38 t2 w2 words3_is (by decide) (by decide) (by decide) (lens_of (by kernel_rfl)) (by decide) (by decide) (ascii_of (l := wordsS3) (by kernel_rfl)) hS2.out hsz2 (by omega) (Nat.le_refl _) (by omega) hC2 hM2).mono ?_
  rintro e w3 ⟨rfl, hM3, hC3, hB3'⟩
  have hB3 : Below w.heap.size w w3 := hB2.trans hB3'
  have hsz3 : w.heap.size ≤ w3.heap.size := hB3.size
  have hS3 := Lib.hid (hsp.below hB3)
  change MapIs w3 w.heap.size 70 _ at hM3
  generalize ht3 : tabAll 3 words3 t2 = t3 at hM3
  have HT3 := Lib.hid ht3
  clear ht3 hM2 hC2 hB3' hB2 hsz2
  go_wp2_with fail
  refine (add_any 4 _ words4 w.heap.size (w.heap.size + 1) w.heap.size 70 t3 w3 words4_is (by decide) (by decide) (by decide) (lens_of (by kernel_rfl)) (by decide) (by decide) (ascii_of (l := wordsS4) (by kernel_rfl)) hS3.out hsz3 (by omega) (Nat.le_refl _) (by omega) hC3 hM3).mono ?_
  rintro e w4 ⟨rfl, hM4, hC4, hB4'⟩
  have hB4 : Below w.heap.size w w4 := hB3.trans hB4'
  have hsz4 : w.heap.size ≤ w4.heap.size := hB4.size
  have hS4 := Lib.hid (hsp.below hB4)
  change MapIs w4 w.heap.size 72 _ at hM4
  generalize ht4 : tabAll 4 words4 t3 = t4 at hM4
  have HT4 := Lib.hid ht4
  clear ht4 hM3 hC3 hB4' hB3 hsz3
  have hc4 : w4.cell? ⟨w.heap.size + 1, 0, none⟩ = some (.map (some w.heap.size)) := by rw [cell_of_row _ _ _ _ _ _ hC4]; rfl
  go_wp2_with fail
  go_ret
  have e : classT = t4 := by unfold classT; rw [HT1.out, HT2.out, HT3.out, HT4.out]
  exact ⟨_, rfl, by rw [e]; exact hM4, hB4⟩

/-- The class of a built-in function. -/
def classB (s : ByteArray) (n : Int) : Int := if n < 0 ∨ 0 ≤ Lib.indexByte s.data.toList 47 then 0 else classT (s.data.toList ++ [47] ++ txt n)
theorem txt_len {n : Int} (h : I64 n) : (txt n).length ≤ 21 := by
  unfold I64 at h
  have := dig_len20 (m := n.natAbs) (by omega)
  unfold txt; split <;> simp <;> omega
set_option maxRecDepth 100000 in
set_option maxHeartbeats 4000000 in
theorem class_any (s : ByteArray) (n : Int) (w : World) (hsp : SpaceAt w) (hs : s.size ≤ 140737488355328) (hn : I64 n) : Calls Tryz.prog 7 #[.string s, .int .i64 n] w fun e w' => e = .returned (.int .i64 (classB s n)) ∧ Below w.heap.size w w' := by
  by_cases hneg : n < 0
  · have E : Hid (classB s n = 0) := Lib.hid (by unfold classB; rw [if_pos (.inl hneg)])
    go_enter Tryz.func7, Tryz.ntmps7
    go_wp2_with fail
    go_ret
    exact ⟨ret1 E.out.symm, Below.refl _ _⟩
  · have HC := Tryz.strings_Contains_one s 47
    by_cases hsl : 0 ≤ Lib.indexByte s.data.toList 47
    · have E : Hid (classB s n = 0) := Lib.hid (by unfold classB; rw [if_pos (.inr hsl)])
      rw [decide_eq_true hsl] at HC
      go_enter Tryz.func7, Tryz.ntmps7
      go_wp2_with (go_at_call 20; refine (HC _).mono ?_; rintro e w1 ⟨rfl, rfl⟩)
      go_ret
      exact ⟨ret1 E.out.symm, Below.refl _ _⟩
    · have E : Hid (classB s n = classT (s.data.toList ++ [47] ++ txt n)) := Lib.hid (by unfold classB; rw [if_neg (by omega)])
      rw [decide_eq_false hsl] at HC
      have HL := Lib.hid (txt_len hn)
      go_enter Tryz.func7, Tryz.ntmps7
      have hsz : s.size + 1 + (txt n).length ≤ 9223372036854775807 := by have := HL.out; omega
      have HL2 : Hid ((ByteArray.mk (s.data.toList ++ [47] ++ txt n).toArray).size ≤ maxLen) := Lib.hid (by
        have h1 : (ByteArray.mk (s.data.toList ++ [47] ++ txt n).toArray).size = s.size + 1 + (txt n).length := by
          show (s.data.toList ++ [47] ++ txt n).toArray.size = _
          rw [List.size_toArray, List.length_append, List.length_append]; rfl
        rw [h1]; unfold maxLen; omega)
      have hky : keyOf Tryz.prog 9 (.string (s ++ ⟨#[47]⟩ ++ ⟨(txt n).toArray⟩)) = some (.string (s.data.toList ++ [47] ++ txt n)) := by
        have h := keyOf_string_mk (P := Tryz.prog) (k := 9) (s := ⟨(s.data.toList ++ [47] ++ txt n).toArray⟩) Tryz.underlying9 (HL2.out)
        have e : (⟨(s.data.toList ++ [47] ++ txt n).toArray⟩ : ByteArray) = s ++ ⟨#[47]⟩ ++ ⟨(txt n).toArray⟩ := by
          apply ByteArray.ext; simp
        rwa [e] at h
      have HK := Lib.hid hky
      clear hky
      go_wp2_with (go_at_call 20; refine (HC _).mono ?_; rintro e w0 ⟨rfl, rfl⟩)
      refine (classes_any _ hsp).mono ?_
      rintro e w1 ⟨M, rfl, ⟨D, hown, hD⟩, hB1⟩
      go_wp2_with (go_at_call 22; refine (text_any n _ hn).mono ?_)
      rintro e w2 ⟨rfl, hB2⟩
      have hown2 : w2.ownsMap Tryz.prog 9 (plainElem Tryz.prog 3) M _ D := hown.kept (row := none) ⟨hB2.os, hB2.tape, hB2.output, hB2.size, fun k hk _ => hB2.block k hk⟩ (by simp)
      have hB12 : Below w0.heap.size w0 w2 := below_next hB1 hB2
      have HD := Lib.hid (hD (s.data.toList ++ [47] ++ txt n))
      clear hown hD HC
      go_wp2_with (at_lookup; refine wpList_lookup_own_int _ rfl _ _ 46 rfl 9 3 .i64 strLaw Tryz.underlying46 Tryz.underlying3 (zeroInt _) M 72 D rfl hown2 _ (.string (s.data.toList ++ [47] ++ txt n)) rfl HK.out ?_)
      intro c hat hwc
      have E2 : Hid (c = classB s n) := Lib.hid (by
        rw [E.out]; have h1 := HD.out; simp only [List.append_assoc, List.singleton_append] at h1 hat ⊢; have h := h1.symm.trans hat; injection h with h; injection h with _ h; exact h.symm)
      clear hat hwc
      go_wp2_with fail
      go_ret
      exact ⟨ret1 E2.out, hB12⟩
end Go.Proofs.YthmpobimmbmddaaGreatDoor
