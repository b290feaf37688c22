/-
  The operators: how their table is made (printed by gen_pops.py). Operators on integers: the walks (those that the closed examples reach). Apply at an operator of two integers: the walks . The closures of terms.kinds for lists and bit strings: the walks. terms.Same, terms.alike: the walks (printed by gen_same.py).
-/
import Derived.Deep.QuietTactic
import Derived.BigQuiet
import Derived.Deep.RegionHeld3
import Derived.Test.YthmpobimmbmddaaGreatDoorB01
import Derived.Test.YthmpobimmbmddaaGreatDoorB02
import Derived.Test.YthmpobimmbmddaaGreatDoorB03
import Derived.Test.YthmpobimmbmddaaGreatDoorB04
import Derived.Test.YthmpobimmbmddaaGreatDoorB06
import Derived.Test.YthmpobimmbmddaaGreatDoorB07
namespace Go.Proofs.YthmpobimmbmddaaGreatDoor
open Go.RowKit Go.Maps Go.WideMaps Go.ChangeMaps
set_option linter.unusedVariables false
set_option linter.unusedSimpArgs false

theorem opLaw : Keyed Tryz.prog 9 := string_keyed Tryz.underlying9
theorem zeroF (w : World) : (zeroValue 70).run Tryz.prog w = .ok .nilFunc w := by kernel_rfl
/-- A store of a literal's entry. -/
theorem wpList_insert_V {w : World} {ops : Array Oper} {rest : List Oper} {o : Oper} {a : Act} {Q : Exit → Act → World → Prop} (hg : o.guard = none) (m xo vo : Operand) (ty K E : TypeId) (hop : o.op = Op.insert ty m xo vo) (law : Keyed Tryz.prog K) (ht : Tryz.prog.underlying ty = some (.map K E)) {z : Value}
    {M n : Nat} {t : List UInt8 → Value} (hm : a.eval m = .map (some M)) (hM : MapV w K M n z t) (hn : n < maxLen) (key v : Value) (x : List UInt8) (hx : a.eval xo = key) (hv : a.eval vo = v) (hkey : keyOf Tryz.prog K key = some (.string x))
    (hK : ∀ w', MapV w' K M (n + 1) z (putV t x v) → w.mapTurned w' M → wpList Tryz.prog ops Q rest (a.put o.dst undef) w') : wpList Tryz.prog ops Q (o :: rest) a w := by
  obtain ⟨D, hown, hD⟩ := hM
  refine wpList_plain hg fun K' hK' => ?_
  obtain ⟨w', hrun, r1, r2⟩ := hown.store law ht hn hkey (d := .held v) (ps := []) rfl
  unfold Oper.wp
  simp [execOp, hop, hm, hx, hv, hrun, Result.andThen]
  exact hK' _ _ (hK w' (MapVP.put hown.isMap hD x v r1) r2)
theorem turned_size {w w' : World} {M : Nat} (h : w.mapTurned w' M) : w'.heap.size = w.heap.size := by
  obtain ⟨es, c, es', c', h1, rfl⟩ := h
  simp [setBlock]


set_option maxRecDepth 100000 in
set_option maxHeartbeats 1000000 in
theorem reckon_any (f : Fn) (w : World) : Calls Tryz.prog 64 #[.func f #[] #[]] w fun e w' => e = .returned (.func (.func 137) #[] #[.pointer (some ⟨w.heap.size, 0, none⟩)]) ∧ w' = w.alloc (.cells #[.func f #[] #[]] 96) := by
  go_enter Tryz.func64, Tryz.ntmps64
  go_wp2_with fail
  go_ret
  exact ⟨rfl, rfl⟩

set_option maxRecDepth 100000 in
set_option maxHeartbeats 1000000 in
theorem logic_any (f : Fn) (w : World) : Calls Tryz.prog 78 #[.func f #[] #[]] w fun e w' => e = .returned (.func (.func 144) #[] #[.pointer (some ⟨w.heap.size, 0, none⟩)]) ∧ w' = w.alloc (.cells #[.func f #[] #[]] 102) := by
  go_enter Tryz.func78, Tryz.ntmps78
  go_wp2_with fail
  go_ret
  exact ⟨rfl, rfl⟩

set_option maxRecDepth 100000 in
set_option maxHeartbeats 1000000 in
theorem compare_any (f : Fn) (w : World) : Calls Tryz.prog 83 #[.func f #[] #[]] w fun e w' => e = .returned (.func (.func 145) #[] #[.pointer (some ⟨w.heap.size, 0, none⟩)]) ∧ w' = w.alloc (.cells #[.func f #[] #[]] 104) := by
  go_enter Tryz.func83, Tryz.ntmps83
  go_wp2_with fail
  go_ret
  exact ⟨rfl, rfl⟩

/-- The functions that the operators' closures hold, and the types of their boxes. -/
def opF : List (Fn × TypeId) := [(.func 65, 96), (.func 66, 96), (.func 67, 96), (.func 68, 96), (.func 69, 96), (.func 70, 96), (.func 71, 96), (.func 72, 96), (.func 73, 96), (.func 74, 96), (.func 75, 96), (.func 76, 96), (.func 79, 102), (.func 80, 102), (.func 81, 102), (.func 82, 102), (.func 84, 104), (.func 85, 104), (.func 86, 104), (.func 87, 104), (.func 88, 104), (.func 89, 104)]
/-- The entries; M: the block of the map. -/
def opL (M : Nat) : List (List UInt8 × Value) := [([43], .func (.func 137) #[] #[.pointer (some ⟨M + 1, 0, none⟩)]), ([45], .func (.func 137) #[] #[.pointer (some ⟨M + 2, 0, none⟩)]), ([42], .func (.func 137) #[] #[.pointer (some ⟨M + 3, 0, none⟩)]), ([100, 105, 118], .func (.func 137) #[] #[.pointer (some ⟨M + 4, 0, none⟩)]), ([114, 101, 109], .func (.func 137) #[] #[.pointer (some ⟨M + 5, 0, none⟩)]), ([98, 115, 108], .func (.func 137) #[] #[.pointer (some ⟨M + 6, 0, none⟩)]), ([98, 115, 114], .func (.func 137) #[] #[.pointer (some ⟨M + 7, 0, none⟩)]), ([98, 97, 110, 100], .func (.func 137) #[] #[.pointer (some ⟨M + 8, 0, none⟩)]), ([98, 111, 114], .func (.func 137) #[] #[.pointer (some ⟨M + 9, 0, none⟩)]), ([98, 120, 111, 114], .func (.func 137) #[] #[.pointer (some ⟨M + 10, 0, none⟩)]), ([98, 110, 111, 116, 47, 49], .func (.func 137) #[] #[.pointer (some ⟨M + 11, 0, none⟩)]), ([45, 47, 49], .func (.func 137) #[] #[.pointer (some ⟨M + 12, 0, none⟩)]), ([97, 110, 100], .func (.func 144) #[] #[.pointer (some ⟨M + 13, 0, none⟩)]), ([111, 114], .func (.func 144) #[] #[.pointer (some ⟨M + 14, 0, none⟩)]), ([120, 111, 114], .func (.func 144) #[] #[.pointer (some ⟨M + 15, 0, none⟩)]), ([110, 111, 116, 47, 49], .func (.func 144) #[] #[.pointer (some ⟨M + 16, 0, none⟩)]), ([61, 58, 61], .func (.func 145) #[] #[.pointer (some ⟨M + 17, 0, none⟩)]), ([61, 47, 61], .func (.func 145) #[] #[.pointer (some ⟨M + 18, 0, none⟩)]), ([60], .func (.func 145) #[] #[.pointer (some ⟨M + 19, 0, none⟩)]), ([61, 60], .func (.func 145) #[] #[.pointer (some ⟨M + 20, 0, none⟩)]), ([62], .func (.func 145) #[] #[.pointer (some ⟨M + 21, 0, none⟩)]), ([62, 61], .func (.func 145) #[] #[.pointer (some ⟨M + 22, 0, none⟩)]), ([43, 43], .func (.func 90) #[] #[])]
/-- The table after n entries. -/
def opN (M n : Nat) : List UInt8 → Value := ((opL M).take n).foldl (fun t p => putV t p.1 p.2) (fun _ => .nilFunc)
theorem opN_step {M n : Nat} {k : List UInt8} {v : Value} (h : (opL M)[n]? = some (k, v)) : opN M (n + 1) = putV (opN M n) k v := by
  unfold opN
  rw [List.take_add_one, h, List.foldl_append]; rfl
/-- What is known after n closures have been put into the table. -/
structure OpsAt (w0 w : World) (n m : Nat) : Prop where
  map : MapV w 9 w0.heap.size n .nilFunc (opN w0.heap.size n)
  size : w.heap.size = w0.heap.size + 1 + m
  below : Below w0.heap.size w0 w
  box : ∀ i (h : i < opF.length), i < m → w.heap[w0.heap.size + 1 + i]? = some (.cells #[.func opF[i].1 #[] #[]] opF[i].2 (0, 0))
theorem OpsAt.start (w : World) : OpsAt w (w.alloc (.map #[] 0)) 0 0 := ⟨@MapVP.made Tryz.prog w 9 .nilFunc, by simp, (Below.refl _ _).alloc (Nat.le_refl _) _, fun i h h2 => by omega⟩
theorem OpsAt.step {w0 w w' : World} {n : Nat} (h : OpsAt w0 w n n) (hn : n < opF.length) (f : Fn) (ty : TypeId) (e : opF[n] = (f, ty)) (k : List UInt8) (v : Value)
    (hM : MapV w' 9 w0.heap.size (n + 1) .nilFunc (putV (opN w0.heap.size n) k v)) (ht : (w.alloc (.cells #[.func f #[] #[]] ty)).mapTurned w' w0.heap.size) (ek : (opL w0.heap.size)[n]? = some (k, v)) : OpsAt w0 w' (n + 1) (n + 1) := by
  have hg := ht.grown
  have hs : w'.heap.size = w0.heap.size + 1 + (n + 1) := by rw [turned_size ht]; simp [h.size]; omega
  refine ⟨by rw [opN_step ek]; exact hM, hs, ?_, fun i hi hi2 => ?_⟩
  · exact (h.below.alloc (by have := h.size; omega) _).grown hg (by simp [h.size]; omega) (fun k hk => by cases hk; exact Nat.le_refl _)
  · have hb : w'.heap[w0.heap.size + 1 + i]? = (w.alloc (.cells #[.func f #[] #[]] ty)).heap[w0.heap.size + 1 + i]? := hg.block _ (by simp [h.size]; omega) (by intro e; injection e with e; omega)
    rw [hb]
    by_cases hin : i < n
    · rw [Below.heap_alloc w _ _ (by rw [h.size]; omega)]; exact h.box i hi hin
    · have : i = n := by omega
      subst this
      have := heap_alloc_new w (.cells #[.func f #[] #[]] ty)
      rw [h.size] at this
      rw [this, e]
theorem OpsAt.last {w0 w w' : World} (h : OpsAt w0 w 22 22) (hM : MapV w' 9 w0.heap.size 23 .nilFunc (putV (opN w0.heap.size 22) [43, 43] (.func (.func 90) #[] #[]))) (ht : w.mapTurned w' w0.heap.size) : OpsAt w0 w' 23 22 := by
  have hg := ht.grown
  refine ⟨by rw [opN_step rfl]; exact hM, by rw [turned_size ht]; exact h.size, h.below.grown hg (by rw [h.size]; omega) (fun k hk => by cases hk; exact Nat.le_refl _), fun i hi hi2 => ?_⟩
  rw [hg.block _ (by rw [h.size]; omega) (by intro e; injection e with e; omega)]
  exact h.box i hi hi2
theorem keyS (l : List UInt8) (h : l.length ≤ 1000) : keyOf Tryz.prog 9 (.string ⟨l.toArray⟩) = some (.string l) := keyOf_string_mk Tryz.underlying9 (by unfold maxLen; simp [ByteArray.size]; omega)

set_option maxRecDepth 100000 in
set_option maxHeartbeats 8000000 in
theorem operators_any (w : World) : Calls Tryz.prog 40 #[] w fun e w' => e = .returned (.map (some w.heap.size)) ∧ OpsAt w w' 23 22 := by
  have hmm := @run_makeMap Tryz.prog
  have H0 := Lib.hid (OpsAt.start w)
  go_enter Tryz.func40, Tryz.ntmps40
  have K0 := keyS [43] (by decide)
  go_wp2_with (first | (go_at_call 64; refine (reckon_any (.func 65) _).mono ?_; rintro e wa ⟨rfl, rfl⟩) | (refine wpList_insert_V rfl _ _ _ _ _ _ rfl opLaw Tryz.underlying71 rfl (H0.out.map.alloc _) (by decide) _ _ [43] rfl rfl K0 ?_) | fail)
  intro w1 hM1 ht1
  have H1 := Lib.hid (OpsAt.step H0.out (by decide) _ _ rfl [43] _ hM1 ht1 rfl)
  clear hM1 ht1 H0 K0
  have K1 := keyS [45] (by decide)
  go_wp2_with (first | (go_at_call 64; refine (reckon_any (.func 66) _).mono ?_; rintro e wa ⟨rfl, rfl⟩) | (refine wpList_insert_V rfl _ _ _ _ _ _ rfl opLaw Tryz.underlying71 rfl (H1.out.map.alloc _) (by decide) _ _ [45] rfl rfl K1 ?_) | fail)
  intro w2 hM2 ht2
  rw [H1.out.size] at hM2
  have H2 := Lib.hid (OpsAt.step H1.out (by decide) _ _ rfl [45] _ hM2 ht2 rfl)
  clear hM2 ht2 H1 K1
  have K2 := keyS [42] (by decide)
  go_wp2_with (first | (go_at_call 64; refine (reckon_any (.func 67) _).mono ?_; rintro e wa ⟨rfl, rfl⟩) | (refine wpList_insert_V rfl _ _ _ _ _ _ rfl opLaw Tryz.underlying71 rfl (H2.out.map.alloc _) (by decide) _ _ [42] rfl rfl K2 ?_) | fail)
  intro w3 hM3 ht3
  rw [H2.out.size] at hM3
  have H3 := Lib.hid (OpsAt.step H2.out (by decide) _ _ rfl [42] _ hM3 ht3 rfl)
  clear hM3 ht3 H2 K2
  have K3 := keyS [100, 105, 118] (by decide)
  go_wp2_with (first | (go_at_call 64; refine (reckon_any (.func 68) _).mono ?_; rintro e wa ⟨rfl, rfl⟩) | (refine wpList_insert_V rfl _ _ _ _ _ _ rfl opLaw Tryz.underlying71 rfl (H3.out.map.alloc _) (by decide) _ _ [100, 105, 118] rfl rfl K3 ?_) | fail)
  intro w4 hM4 ht4
  rw [H3.out.size] at hM4
  have H4 := Lib.hid (OpsAt.step H3.out (by decide) _ _ rfl [100, 105, 118] _ hM4 ht4 rfl)
  clear hM4 ht4 H3 K3
  have K4 := keyS [114, 101, 109] (by decide)
  go_wp2_with (first | (go_at_call 64; refine (reckon_any (.func 69) _).mono ?_; rintro e wa ⟨rfl, rfl⟩) | (refine wpList_insert_V rfl _ _ _ _ _ _ rfl opLaw Tryz.underlying71 rfl (H4.out.map.alloc _) (by decide) _ _ [114, 101, 109] rfl rfl K4 ?_) | fail)
  intro w5 hM5 ht5
  rw [H4.out.size] at hM5
  have H5 := Lib.hid (OpsAt.step H4.out (by decide) _ _ rfl [114, 101, 109] _ hM5 ht5 rfl)
  clear hM5 ht5 H4 K4
  have K5 := keyS [98, 115, 108] (by decide)
  go_wp2_with (first | (go_at_call 64; refine (reckon_any (.func 70) _).mono ?_; rintro e wa ⟨rfl, rfl⟩) | (refine wpList_insert_V rfl _ _ _ _ _ _ rfl opLaw Tryz.underlying71 rfl (H5.out.map.alloc _) (by decide) _ _ [98, 115, 108] rfl rfl K5 ?_) | fail)
  intro w6 hM6 ht6
  rw [H5.out.size] at hM6
  have H6 := Lib.hid (OpsAt.step H5.out (by decide) _ _ rfl [98, 115, 108] _ hM6 ht6 rfl)
  clear hM6 ht6 H5 K5
  have K6 := keyS [98, 115, 114] (by decide)
  go_wp2_with (first | (go_at_call 64; refine (reckon_any (.func 71) _).mono ?_; rintro e wa ⟨rfl, rfl⟩) | (refine wpList_insert_V rfl _ _ _ _ _ _ rfl opLaw Tryz.underlying71 rfl (H6.out.map.alloc _) (by decide) _ _ [98, 115, 114] rfl rfl K6 ?_) | fail)
  intro w7 hM7 ht7
  rw [H6.out.size] at hM7
  have H7 := Lib.hid (OpsAt.step H6.out (by decide) _ _ rfl [98, 115, 114] _ hM7 ht7 rfl)
  clear hM7 ht7 H6 K6
  have K7 := keyS [98, 97, 110, 100] (by decide)
  go_wp2_with (first | (go_at_call 64; refine (reckon_any (.func 72) _).mono ?_; rintro e wa ⟨rfl, rfl⟩) | (refine wpList_insert_V rfl _ _ _ _ _ _ rfl opLaw Tryz.underlying71 rfl (H7.out.map.alloc _) (by decide) _ _ [98, 97, 110, 100] rfl rfl K7 ?_) | fail)
  intro w8 hM8 ht8
  rw [H7.out.size] at hM8
  have H8 := Lib.hid (OpsAt.step H7.out (by decide) _ _ rfl [98, 97, 110, 100] _ hM8 ht8 rfl)
  clear hM8 ht8 H7 K7
  have K8 := keyS [98, 111, 114] (by decide)
  go_wp2_with (first | (go_at_call 64; refine (reckon_any (.func 73) _).mono ?_; rintro e wa ⟨rfl, rfl⟩) | (refine wpList_insert_V rfl _ _ _ _ _ _ rfl opLaw Tryz.underlying71 rfl (H8.out.map.alloc _) (by decide) _ _ [98, 111, 114] rfl rfl K8 ?_) | fail)
  intro w9 hM9 ht9
  rw [H8.out.size] at hM9
  have H9 := Lib.hid (OpsAt.step H8.out (by decide) _ _ rfl [98, 111, 114] _ hM9 ht9 rfl)
  clear hM9 ht9 H8 K8
  have K9 := keyS [98, 120, 111, 114] (by decide)
  go_wp2_with (first | (go_at_call 64; refine (reckon_any (.func 74) _).mono ?_; rintro e wa ⟨rfl, rfl⟩) | (refine wpList_insert_V rfl _ _ _ _ _ _ rfl opLaw Tryz.underlying71 rfl (H9.out.map.alloc _) (by decide) _ _ [98, 120, 111, 114] rfl rfl K9 ?_) | fail)
  intro w10 hM10 ht10
  rw [H9.out.size] at hM10
  have H10 := Lib.hid (OpsAt.step H9.out (by decide) _ _ rfl [98, 120, 111, 114] _ hM10 ht10 rfl)
  clear hM10 ht10 H9 K9
  have K10 := keyS [98, 110, 111, 116, 47, 49] (by decide)
  go_wp2_with (first | (go_at_call 64; refine (reckon_any (.func 75) _).mono ?_; rintro e wa ⟨rfl, rfl⟩) | (refine wpList_insert_V rfl _ _ _ _ _ _ rfl opLaw Tryz.underlying71 rfl (H10.out.map.alloc _) (by decide) _ _ [98, 110, 111, 116, 47, 49] rfl rfl K10 ?_) | fail)
  intro w11 hM11 ht11
  rw [H10.out.size] at hM11
  have H11 := Lib.hid (OpsAt.step H10.out (by decide) _ _ rfl [98, 110, 111, 116, 47, 49] _ hM11 ht11 rfl)
  clear hM11 ht11 H10 K10
  have K11 := keyS [45, 47, 49] (by decide)
  go_wp2_with (first | (go_at_call 64; refine (reckon_any (.func 76) _).mono ?_; rintro e wa ⟨rfl, rfl⟩) | (refine wpList_insert_V rfl _ _ _ _ _ _ rfl opLaw Tryz.underlying71 rfl (H11.out.map.alloc _) (by decide) _ _ [45, 47, 49] rfl rfl K11 ?_) | fail)
  intro w12 hM12 ht12
  rw [H11.out.size] at hM12
  have H12 := Lib.hid (OpsAt.step H11.out (by decide) _ _ rfl [45, 47, 49] _ hM12 ht12 rfl)
  clear hM12 ht12 H11 K11
  have K12 := keyS [97, 110, 100] (by decide)
  go_wp2_with (first | (go_at_call 78; refine (logic_any (.func 79) _).mono ?_; rintro e wa ⟨rfl, rfl⟩) | (refine wpList_insert_V rfl _ _ _ _ _ _ rfl opLaw Tryz.underlying71 rfl (H12.out.map.alloc _) (by decide) _ _ [97, 110, 100] rfl rfl K12 ?_) | fail)
  intro w13 hM13 ht13
  rw [H12.out.size] at hM13
  have H13 := Lib.hid (OpsAt.step H12.out (by decide) _ _ rfl [97, 110, 100] _ hM13 ht13 rfl)
  clear hM13 ht13 H12 K12
  have K13 := keyS [111, 114] (by decide)
  go_wp2_with (first | (go_at_call 78; refine (logic_any (.func 80) _).mono ?_; rintro e wa ⟨rfl, rfl⟩) | (refine wpList_insert_V rfl _ _ _ _ _ _ rfl opLaw Tryz.underlying71 rfl (H13.out.map.alloc _) (by decide) _ _ [111, 114] rfl rfl K13 ?_) | fail)
  intro w14 hM14 ht14
  rw [H13.out.size] at hM14
  have H14 := Lib.hid (OpsAt.step H13.out (by decide) _ _ rfl [111, 114] _ hM14 ht14 rfl)
  clear hM14 ht14 H13 K13
  have K14 := keyS [120, 111, 114] (by decide)
  go_wp2_with (first | (go_at_call 78; refine (logic_any (.func 81) _).mono ?_; rintro e wa ⟨rfl, rfl⟩) | (refine wpList_insert_V rfl _ _ _ _ _ _ rfl opLaw Tryz.underlying71 rfl (H14.out.map.alloc _) (by decide) _ _ [120, 111, 114] rfl rfl K14 ?_) | fail)
  intro w15 hM15 ht15
  rw [H14.out.size] at hM15
  have H15 := Lib.hid (OpsAt.step H14.out (by decide) _ _ rfl [120, 111, 114] _ hM15 ht15 rfl)
  clear hM15 ht15 H14 K14
  have K15 := keyS [110, 111, 116, 47, 49] (by decide)
  go_wp2_with (first | (go_at_call 78; refine (logic_any (.func 82) _).mono ?_; rintro e wa ⟨rfl, rfl⟩) | (refine wpList_insert_V rfl _ _ _ _ _ _ rfl opLaw Tryz.underlying71 rfl (H15.out.map.alloc _) (by decide) _ _ [110, 111, 116, 47, 49] rfl rfl K15 ?_) | fail)
  intro w16 hM16 ht16
  rw [H15.out.size] at hM16
  have H16 := Lib.hid (OpsAt.step H15.out (by decide) _ _ rfl [110, 111, 116, 47, 49] _ hM16 ht16 rfl)
  clear hM16 ht16 H15 K15
  have K16 := keyS [61, 58, 61] (by decide)
  go_wp2_with (first | (go_at_call 83; refine (compare_any (.func 84) _).mono ?_; rintro e wa ⟨rfl, rfl⟩) | (refine wpList_insert_V rfl _ _ _ _ _ _ rfl opLaw Tryz.underlying71 rfl (H16.out.map.alloc _) (by decide) _ _ [61, 58, 61] rfl rfl K16 ?_) | fail)
  intro w17 hM17 ht17
  rw [H16.out.size] at hM17
  have H17 := Lib.hid (OpsAt.step H16.out (by decide) _ _ rfl [61, 58, 61] _ hM17 ht17 rfl)
  clear hM17 ht17 H16 K16
  have K17 := keyS [61, 47, 61] (by decide)
  go_wp2_with (first | (go_at_call 83; refine (compare_any (.func 85) _).mono ?_; rintro e wa ⟨rfl, rfl⟩) | (refine wpList_insert_V rfl _ _ _ _ _ _ rfl opLaw Tryz.underlying71 rfl (H17.out.map.alloc _) (by decide) _ _ [61, 47, 61] rfl rfl K17 ?_) | fail)
  intro w18 hM18 ht18
  rw [H17.out.size] at hM18
  have H18 := Lib.hid (OpsAt.step H17.out (by decide) _ _ rfl [61, 47, 61] _ hM18 ht18 rfl)
  clear hM18 ht18 H17 K17
  have K18 := keyS [60] (by decide)
  go_wp2_with (first | (go_at_call 83; refine (compare_any (.func 86) _).mono ?_; rintro e wa ⟨rfl, rfl⟩) | (refine wpList_insert_V rfl _ _ _ _ _ _ rfl opLaw Tryz.underlying71 rfl (H18.out.map.alloc _) (by decide) _ _ [60] rfl rfl K18 ?_) | fail)
  intro w19 hM19 ht19
  rw [H18.out.size] at hM19
  have H19 := Lib.hid (OpsAt.step H18.out (by decide) _ _ rfl [60] _ hM19 ht19 rfl)
  clear hM19 ht19 H18 K18
  have K19 := keyS [61, 60] (by decide)
  go_wp2_with (first | (go_at_call 83; refine (compare_any (.func 87) _).mono ?_; rintro e wa ⟨rfl, rfl⟩) | (refine wpList_insert_V rfl _ _ _ _ _ _ rfl opLaw Tryz.underlying71 rfl (H19.out.map.alloc _) (by decide) _ _ [61, 60] rfl rfl K19 ?_) | fail)
  intro w20 hM20 ht20
  rw [H19.out.size] at hM20
  have H20 := Lib.hid (OpsAt.step H19.out (by decide) _ _ rfl [61, 60] _ hM20 ht20 rfl)
  clear hM20 ht20 H19 K19
  have K20 := keyS [62] (by decide)
  go_wp2_with (first | (go_at_call 83; refine (compare_any (.func 88) _).mono ?_; rintro e wa ⟨rfl, rfl⟩) | (refine wpList_insert_V rfl _ _ _ _ _ _ rfl opLaw Tryz.underlying71 rfl (H20.out.map.alloc _) (by decide) _ _ [62] rfl rfl K20 ?_) | fail)
  intro w21 hM21 ht21
  rw [H20.out.size] at hM21
  have H21 := Lib.hid (OpsAt.step H20.out (by decide) _ _ rfl [62] _ hM21 ht21 rfl)
  clear hM21 ht21 H20 K20
  have K21 := keyS [62, 61] (by decide)
  go_wp2_with (first | (go_at_call 83; refine (compare_any (.func 89) _).mono ?_; rintro e wa ⟨rfl, rfl⟩) | (refine wpList_insert_V rfl _ _ _ _ _ _ rfl opLaw Tryz.underlying71 rfl (H21.out.map.alloc _) (by decide) _ _ [62, 61] rfl rfl K21 ?_) | fail)
  intro w22 hM22 ht22
  rw [H21.out.size] at hM22
  have H22 := Lib.hid (OpsAt.step H21.out (by decide) _ _ rfl [62, 61] _ hM22 ht22 rfl)
  clear hM22 ht22 H21 K21
  have K22 := keyS [43, 43] (by decide)
  go_wp2_with (first | (refine wpList_insert_V rfl _ _ _ _ _ _ rfl opLaw Tryz.underlying71 rfl H22.out.map (by decide) _ _ [43, 43] rfl rfl K22 ?_) | fail)
  intro w23 hM23 ht23
  have H23 := Lib.hid (OpsAt.last H22.out hM23 ht23)
  clear hM23 ht23 H22 K22
  go_wp2_with fail
  go_ret
  exact ⟨rfl, H23.out⟩
end Go.Proofs.YthmpobimmbmddaaGreatDoor
namespace Go.Proofs.YthmpobimmbmddaaGreatDoor
open Go.RowKit
set_option linter.unusedVariables false
set_option linter.unusedSimpArgs false

theorem tint_is (n : Int) (w : World) : Calls Tryz.prog 154 #[.int .i64 n] w fun e w' => e = .returned (intV n) ∧ Below w.heap.size w w' := by
  go_enter Tryz.func154, Tryz.ntmps154
  go_wp2_with fail
  refine bodyPost_ret (results_cell_row rfl _ _ w.heap.size _ _ _ _ rfl (heap_alloc_new _ _) Tryz.underlying28 rfl (by kernel_rfl)) rfl ?_
  exact ⟨rfl, (Below.refl _ _).alloc (Nat.le_refl _) _⟩
theorem add_12 (w : World) : Calls Tryz.prog 65 #[.int .i64 1, .int .i64 2] w fun e w' => e = .returned (.tuple #[.int .i64 3, .int .i64 0]) ∧ Below w.heap.size w w' := by
  have hmf : ∀ (fn : Fn) (first cap : Array Value) (w : World), (Instr.makeFunc fn first cap).run Tryz.prog w = .ok (.func fn first cap) w := fun _ _ _ _ => rfl
  go_enter Tryz.func65, Tryz.ntmps65
  go_wp2_with (first | go_in | fail)
  go_ret2
  exact ⟨rfl, (((Below.refl _ _).alloc (Nat.le_refl _) _).alloc (by simp) _).alloc (by simp; omega) _⟩
theorem div_10 (w : World) : Calls Tryz.prog 68 #[.int .i64 1, .int .i64 0] w fun e w' => e = .returned (.tuple #[.int .i64 0, .int .i64 2]) ∧ w = w' := by
  go_enter Tryz.func68, Tryz.ntmps68
  go_wp2_with fail
  go_ret2
  exact ⟨rfl, rfl⟩
set_option maxRecDepth 100000 in
set_option maxHeartbeats 4000000 in
theorem number_ok (n : Int) (w : World) : Calls Tryz.prog 139 #[.int .i64 n, .int .i64 0] w fun e w' => e = .returned (.tuple #[intV n, noneV]) ∧ Below w.heap.size w w' := by
  have HT := Lib.hid (two_new w); have HB := Lib.hid (two_belowE w)
  go_enter Tryz.func139, Tryz.ntmps139
  generalize hW : (w.alloc (.cells zRow9 28)).alloc (.cells zRow10 34) = W at *
  go_wp2_with (first | (go_at_call 154; refine (tint_is _ _).mono ?_; rintro e w1 ⟨rfl, hb1⟩) | (go_at_call 31; refine (some_any _ _ _ _ _ _ _ _ _ _ _ _).mono ?_; rintro e w2 ⟨rfl, hb2⟩; have hb12 := below_next hb1 hb2; have hT := HT.out.below hb12) | (refine wpList_store_row rfl 28 _ _ rfl w.heap.size _ rfl rfl 28 _ hT.1 (by kernel_rfl) rfl (by simp [Value.oneCell']) ?_) | (refine wpList_store_row rfl 34 _ _ rfl (w.heap.size + 1) _ rfl rfl 34 _ (two_other hT (by omega) _) (by kernel_rfl) rfl (by simp [Value.oneCell']) ?_) | fail)
  obtain ⟨q1, q2, q3⟩ := two_set hT (by omega) (HB.out.trans (hb12.mono HB.out.size)) (Nat.le_refl _) (Nat.le_succ _) #[.int .i64 1, .int .i64 n, .int .i64 0, .string ⟨#[]⟩, .string ⟨#[]⟩, .int .i64 0, .slice none 0 0, .string ⟨#[]⟩, .int .i64 0] zRow10
  refine bodyPost_ret (results_two_rows rfl _ _ _ w.heap.size (w.heap.size + 1) _ _ _ _ _ _ _ _ rfl q1 rfl q2 Tryz.underlying28 (by kernel_rfl) Tryz.underlying34 (by kernel_rfl)) rfl ?_
  exact ⟨rfl, q3⟩
set_option maxRecDepth 100000 in
set_option maxHeartbeats 4000000 in
theorem number_bad (n : Int) (w : World) : Calls Tryz.prog 139 #[.int .i64 n, .int .i64 2] w fun e w' => e = .returned (.tuple #[zeroV, failV ⟨#[98, 97, 100, 97, 114, 105, 116, 104]⟩]) ∧ Below w.heap.size w w' := by
  have HT := Lib.hid (two_new w); have HB := Lib.hid (two_belowE w)
  go_enter Tryz.func139, Tryz.ntmps139
  generalize hW : (w.alloc (.cells zRow9 28)).alloc (.cells zRow10 34) = W at *
  go_wp2_with (first | (go_at_call 29; refine (none_any _ _).mono ?_; rintro e w2 ⟨rfl, hb2⟩; have hT := HT.out.below hb2) | (refine wpList_store_row rfl 28 _ _ rfl w.heap.size _ rfl rfl 28 _ hT.1 (by kernel_rfl) rfl (by simp [Value.oneCell']) ?_) | (refine wpList_store_row rfl 34 _ _ rfl (w.heap.size + 1) _ rfl rfl 34 _ (two_other hT (by omega) _) (by kernel_rfl) rfl (by simp [Value.oneCell']) ?_) | fail)
  obtain ⟨q1, q2, q3⟩ := two_set hT (by omega) (HB.out.trans (hb2.mono HB.out.size)) (Nat.le_refl _) (Nat.le_succ _) zRow9 #[.string ⟨#[101, 114, 114, 111, 114]⟩, .int .i64 2, .int .i64 0, .int .i64 0, .string ⟨#[98, 97, 100, 97, 114, 105, 116, 104]⟩, .string ⟨#[]⟩, .int .i64 0, .slice none 0 0, .string ⟨#[]⟩, .int .i64 0]
  refine bodyPost_ret (results_two_rows rfl _ _ _ w.heap.size (w.heap.size + 1) _ _ _ _ _ _ _ _ rfl q1 rfl q2 Tryz.underlying28 (by kernel_rfl) Tryz.underlying34 (by kernel_rfl)) rfl ?_
  exact ⟨rfl, q3⟩
/-- All terms of a list are integers. -/
def lastI (l : List Tm) (k : Nat) : Int := if k = 0 then 0 else ((l[k - 1]?).map Tm.int).getD 0
def firstI (l : List Tm) (k : Nat) : Int := if k = 0 then 0 else ((l[0]?).map Tm.int).getD 0
set_option maxRecDepth 100000 in
set_option maxHeartbeats 4000000 in
theorem numbers_any (f : Nat) (l : List Tm) (so : Option Addr) (c : Nat) (k i g a z : Int) (n fn y : ByteArray) (io : Option Addr) (il ic : Nat) (w : World) (hs : SlAt w 9 (TmAt w (f + 1)) so l) (hl : l.length ≤ maxLen) (hk : ∀ t ∈ l, t.kind = 1) :
    Calls Tryz.prog 138 #[.agg #[.int .i64 k, .int .i64 i, .int .i64 g, .string n, .string fn, .int .i64 a, .slice io il ic, .string y, .int .i64 z, .slice so l.length c]] w fun e w' => e = .returned (.tuple #[.int .i64 (firstI l l.length), .int .i64 (lastI l l.length), .bool true]) ∧ Below w.heap.size w w' := by
  have hb0 : Below w.heap.size w (w.alloc (.cells #[.int .i64 k, .int .i64 i, .int .i64 g, .string n, .string fn, .int .i64 a, .slice io il ic, .string y, .int .i64 z, .slice so l.length c] 74)) := (Below.refl _ _).alloc (Nat.le_refl _) _
  have HS := Lib.hid (hs.tms hb0); have HB := Lib.hid hb0; have HK := Lib.hid hk
  unfold maxLen at hl
  clear hb0 hs hk
  go_enter Tryz.func138, Tryz.ntmps138
  go_wp2_with fail
  generalize w.alloc _ = W at *
  go_loopw [2, 3, 10] (fun va vb vk wr => ∃ j : Nat, j ≤ l.length ∧ vk = .int .i64 j ∧ va = .int .i64 (firstI l j) ∧ vb = .int .i64 (lastI l j) ∧ Hid (Below W.heap.size W wr)) (fun _ _ vk _ => l.length - (intOf vk).toNat)
  case atStart => exact ⟨0, Nat.zero_le _, rfl, rfl, rfl, Lib.hid (Below.refl _ _)⟩
  case round =>
    obtain ⟨j, hj, rfl, rfl, rfl, HBr⟩ := hrel
    rename World => wr
    by_cases hlt : j < l.length
    · obtain ⟨b, off, ai, c', hao, hb, q0, q1, q2, q3, q4, q5, q6, q7, q8, _, _⟩ := (HS.out.tms HBr.out).tm hlt
      subst hao
      have hkd := HK.out _ (List.getElem_mem hlt)
      rw [hkd] at q0
      have E1 : Hid (firstI l (j + 1) = if j = 0 then l[j].int else firstI l j) := Lib.hid (by
        unfold firstI; rw [if_neg (by omega)]
        by_cases h0 : j = 0
        · subst h0; rw [if_pos rfl, List.getElem?_eq_getElem hlt]; rfl
        · rw [if_neg h0, if_neg h0])
      have E2 : Hid (lastI l (j + 1) = l[j].int) := Lib.hid (by unfold lastI; rw [if_neg (by omega), show j + 1 - 1 = j by omega, List.getElem?_eq_getElem hlt]; rfl)
      generalize l[j] = t at *
      by_cases h0 : j = 0
      · rw [if_pos h0] at E1
        have t0 : ((j : Int) == 0) = true := beq_iff_eq.2 (by omega)
        clear h0
        go_wp2_with fail
        go_roundw
        case rel => exact ⟨j + 1, by omega, by go_num, by rw [E1.out], by rw [E2.out], Lib.hid ((HBr.out).alloc HBr.out.size _)⟩
        case measure => simp [intOf]; omega
      · rw [if_neg h0] at E1
        have t0 : ((j : Int) == 0) = false := beq_eq_false_iff_ne.2 (by omega)
        clear h0
        go_wp2_with fail
        go_roundw
        case rel => exact ⟨j + 1, by omega, by go_num, by rw [E1.out], by rw [E2.out], Lib.hid ((HBr.out).alloc HBr.out.size _)⟩
        case measure => simp [intOf]; omega
    · obtain rfl : j = l.length := by omega
      go_wp2_with fail
      go_ret3
      exact ⟨rfl, HB.out.trans (HBr.out.mono HB.out.size)⟩
end Go.Proofs.YthmpobimmbmddaaGreatDoor
namespace Go.Proofs.YthmpobimmbmddaaGreatDoor
open Go.RowKit
set_option linter.unusedVariables false
set_option linter.unusedSimpArgs false

abbrev jobR (so : Option Addr) (l c : Nat) : Array Value := #[.int .i64 0, .int .i64 0, .int .i64 0, .string ⟨#[]⟩, .string ⟨#[]⟩, .int .i64 0, .slice none 0 0, .string ⟨#[]⟩, .int .i64 0, .slice so l c]
set_option maxRecDepth 100000 in
set_option maxHeartbeats 4000000 in
theorem reckon_add (l : List Tm) (so : Option Addr) (c C : Nat) (w : World) (hs : SlAt w 9 (TmAt w 1) so l) (hl : l.length ≤ maxLen) (hk : ∀ t ∈ l, t.kind = 1) (h1 : firstI l l.length = 1) (h2 : lastI l l.length = 2)
    (hC : w.heap[C]? = some (.cells #[.func (.func 65) #[] #[]] 96 (0, 0))) :
    Calls Tryz.prog 137 #[.agg (jobR so l.length c), .pointer (some ⟨C, 0, none⟩)] w fun e w' => e = .returned (.tuple #[intV 3, noneV]) ∧ Below w.heap.size w w' := by
  have HT := Lib.hid (two_newP w (.cells (jobR so l.length c) 74)); have HB := Lib.hid (two_belowP w (.cells (jobR so l.length c) 74))
  have HC := Lib.hid ((HB.out.block C (lt_of_row hC)).trans hC)
  have HN := Lib.hid (numbers_any 0 l so c 0 0 0 0 0 ⟨#[]⟩ ⟨#[]⟩ ⟨#[]⟩ none 0 0 (((w.alloc (.cells (jobR so l.length c) 74)).alloc (.cells zRow9 28)).alloc (.cells zRow10 34)) (hs.tms HB.out) hl hk)
  rw [h1, h2] at HN
  clear hs hk h1 h2 hC hl
  go_enter Tryz.func137, Tryz.ntmps137
  generalize l.length = L at *
  go_wp2_with (first | (go_at_call 138; refine HN.out.mono ?_; rintro e w1 ⟨rfl, hb1⟩; have hcc := cell_of_row _ _ 0 _ _ _ ((hb1.block C (lt_of_row HC.out)).trans HC.out)) | (go_at_call 65; refine (add_12 _).mono ?_; rintro e w2 ⟨rfl, hb2⟩) | (go_at_call 139; refine (number_ok _ _).mono ?_; rintro e w3 ⟨rfl, hb3⟩; have hb13 := below_next (below_next hb1 hb2) hb3; have hT := HT.out.below hb13) | (refine wpList_store_row rfl 28 _ _ rfl (w.heap.size + 1) _ rfl rfl 28 _ hT.1 (by kernel_rfl) rfl (by simp [Value.oneCell']) ?_) | (refine wpList_store_row rfl 34 _ _ rfl (w.heap.size + 2) _ rfl rfl 34 _ (two_other hT (by omega) _) (by kernel_rfl) rfl (by simp [Value.oneCell']) ?_) | fail)
  obtain ⟨q1, q2, q3⟩ := two_set hT (by omega) (HB.out.trans (hb13.mono HB.out.size)) (by omega) (by omega) #[.int .i64 1, .int .i64 3, .int .i64 0, .string ⟨#[]⟩, .string ⟨#[]⟩, .int .i64 0, .slice none 0 0, .string ⟨#[]⟩, .int .i64 0] zRow10
  refine bodyPost_ret (results_two_rows rfl _ _ _ (w.heap.size + 1) (w.heap.size + 2) _ _ _ _ _ _ _ _ rfl q1 rfl q2 Tryz.underlying28 (by kernel_rfl) Tryz.underlying34 (by kernel_rfl)) rfl ?_
  exact ⟨rfl, q3⟩
set_option maxRecDepth 100000 in
set_option maxHeartbeats 4000000 in
theorem reckon_div (l : List Tm) (so : Option Addr) (c C : Nat) (w : World) (hs : SlAt w 9 (TmAt w 1) so l) (hl : l.length ≤ maxLen) (hk : ∀ t ∈ l, t.kind = 1) (h1 : firstI l l.length = 1) (h2 : lastI l l.length = 0)
    (hC : w.heap[C]? = some (.cells #[.func (.func 68) #[] #[]] 96 (0, 0))) :
    Calls Tryz.prog 137 #[.agg (jobR so l.length c), .pointer (some ⟨C, 0, none⟩)] w fun e w' => e = .returned (.tuple #[zeroV, failV ⟨#[98, 97, 100, 97, 114, 105, 116, 104]⟩]) ∧ Below w.heap.size w w' := by
  have HT := Lib.hid (two_newP w (.cells (jobR so l.length c) 74)); have HB := Lib.hid (two_belowP w (.cells (jobR so l.length c) 74))
  have HC := Lib.hid ((HB.out.block C (lt_of_row hC)).trans hC)
  have HN := Lib.hid (numbers_any 0 l so c 0 0 0 0 0 ⟨#[]⟩ ⟨#[]⟩ ⟨#[]⟩ none 0 0 (((w.alloc (.cells (jobR so l.length c) 74)).alloc (.cells zRow9 28)).alloc (.cells zRow10 34)) (hs.tms HB.out) hl hk)
  rw [h1, h2] at HN
  clear hs hk h1 h2 hC hl
  go_enter Tryz.func137, Tryz.ntmps137
  generalize l.length = L at *
  go_wp2_with (first | (go_at_call 138; refine HN.out.mono ?_; rintro e w1 ⟨rfl, hb1⟩; have hcc := cell_of_row _ _ 0 _ _ _ ((hb1.block C (lt_of_row HC.out)).trans HC.out)) | (go_at_call 68; refine (div_10 _).mono ?_; rintro e w2 ⟨rfl, rfl⟩) | (go_at_call 139; refine (number_bad _ _).mono ?_; rintro e w3 ⟨rfl, hb3⟩; have hb13 := below_next hb1 hb3; have hT := HT.out.below hb13) | (refine wpList_store_row rfl 28 _ _ rfl (w.heap.size + 1) _ rfl rfl 28 _ hT.1 (by kernel_rfl) rfl (by simp [Value.oneCell']) ?_) | (refine wpList_store_row rfl 34 _ _ rfl (w.heap.size + 2) _ rfl rfl 34 _ (two_other hT (by omega) _) (by kernel_rfl) rfl (by simp [Value.oneCell']) ?_) | fail)
  obtain ⟨q1, q2, q3⟩ := two_set hT (by omega) (HB.out.trans (hb13.mono HB.out.size)) (by omega) (by omega) zRow9 #[.string ⟨#[101, 114, 114, 111, 114]⟩, .int .i64 2, .int .i64 0, .int .i64 0, .string ⟨#[98, 97, 100, 97, 114, 105, 116, 104]⟩, .string ⟨#[]⟩, .int .i64 0, .slice none 0 0, .string ⟨#[]⟩, .int .i64 0]
  refine bodyPost_ret (results_two_rows rfl _ _ _ (w.heap.size + 1) (w.heap.size + 2) _ _ _ _ _ _ _ _ rfl q1 rfl q2 Tryz.underlying28 (by kernel_rfl) Tryz.underlying34 (by kernel_rfl)) rfl ?_
  exact ⟨rfl, q3⟩
end Go.Proofs.YthmpobimmbmddaaGreatDoor
namespace Go.Proofs.YthmpobimmbmddaaGreatDoor
open Go.RowKit
set_option linter.unusedVariables false
set_option linter.unusedSimpArgs false

theorem low_bits (b r : Nat) (hb : b < 256) (hr : r < 8) : b * 2 ^ r % 256 = 0 ↔ b % 2 ^ (8 - r) = 0 := by
  match r, hr with
  | 0, _ => simp
  | 1, _ => simp; omega
  | 2, _ => simp; omega
  | 3, _ => simp; omega
  | 4, _ => simp; omega
  | 5, _ => simp; omega
  | 6, _ => simp; omega
  | 7, _ => simp; omega
  | r + 8, h => omega
theorem lastByte_at {y : ByteArray} {m : Nat} (h : y.size = m + 1) : lastByte y = (y[m]'(by omega)).toNat := by
  unfold lastByte
  have hl : y.data.toList.length = m + 1 := by rw [Array.length_toList]; exact h
  rw [List.getLast?_eq_getElem?, hl, Nat.add_sub_cancel, List.getElem?_eq_getElem (by omega)]
  rfl

section
variable (k i g : Int) (n f : ByteArray) (a : Int) (so : Option Addr) (l c : Nat) (y : ByteArray) (z : Int) (w : World)
set_option maxRecDepth 100000 in
set_option maxHeartbeats 4000000 in
theorem kind_list0 (hl : l < 2) : Calls Tryz.prog 213 #[.agg #[.int .i64 k, .int .i64 i, .int .i64 g, .string n, .string f, .int .i64 a, .slice so l c, .string y, .int .i64 z]] w fun e w' =>
    e = .returned (.tuple #[.agg #[.int .i64 k, .int .i64 i, .int .i64 g, .string n, .string f, .int .i64 a, .slice none 0 0, .string y, .int .i64 z], .bool false]) ∧ Below w.heap.size w w' := by
  have hd : decide ((2 : Int) ≤ (l : Int)) = false := decide_eq_false (by omega)
  go_enter Tryz.func213, Tryz.ntmps213
  go_wp2_with fail
  exact bodyPost_ret (v := .tuple #[.agg #[.int .i64 k, .int .i64 i, .int .i64 g, .string n, .string f, .int .i64 a, .slice none 0 0, .string y, .int .i64 z], .bool false]) (by simp [results, Tryz.results213, go_sem]) rfl ⟨rfl, two_below _ _ _⟩
set_option maxRecDepth 100000 in
set_option maxHeartbeats 4000000 in
theorem kind_list2 (b off m : Nat) (kk : Int) (hm : m ≤ 9223372036854775805) (hb : b < w.heap.size) (hc : w.cell? ⟨b, off + (m + 1) * 9, none⟩ = some (.int .i64 kk)) : Calls Tryz.prog 213 #[.agg #[.int .i64 k, .int .i64 i, .int .i64 g, .string n, .string f, .int .i64 a, .slice (some ⟨b, off, none⟩) (m + 2) c, .string y, .int .i64 z]] w fun e w' =>
    e = .returned (.tuple #[.agg #[.int .i64 k, .int .i64 i, .int .i64 g, .string n, .string f, .int .i64 a, .slice none 0 0, .string y, .int .i64 z], .bool (kk != 9)]) ∧ Below w.heap.size w w' := by
  have hd : decide ((2 : Int) ≤ ((m + 2 : Nat) : Int)) = true := decide_eq_true (by omega)
  have hi : (((m + 2 : Nat) : Int) - 1).toNat = m + 1 := by omega
  go_enter Tryz.func213, Tryz.ntmps213
  go_wp2_with fail
  exact bodyPost_ret (v := .tuple #[.agg #[.int .i64 k, .int .i64 i, .int .i64 g, .string n, .string f, .int .i64 a, .slice none 0 0, .string y, .int .i64 z], .bool (kk != 9)]) (by simp [results, Tryz.results213, go_sem]) rfl ⟨rfl, two_below _ _ _⟩

set_option maxRecDepth 100000 in
set_option maxHeartbeats 4000000 in
theorem kind_bits (hy : y.size ≤ 9223372036854775807) (hz : I64 z) : Calls Tryz.prog 214 #[.agg #[.int .i64 k, .int .i64 i, .int .i64 g, .string n, .string f, .int .i64 a, .slice so l c, .string y, .int .i64 z]] w fun e w' =>
    e = .returned (.tuple #[.agg #[.int .i64 k, .int .i64 i, .int .i64 g, .string n, .string f, .int .i64 a, .slice so l c, .string ⟨#[]⟩, .int .i64 0], .bool (bitsV y z)]) ∧ Below w.heap.size w w' := by
  have h0 := fun wx => twithin_any z 0 16384 wx
  by_cases hw : 0 ≤ z ∧ z ≤ 16384
  · obtain ⟨z0, z1⟩ := hw
    have hwi := wi_yes z0 z1
    have E0 : bitsV y z = (decide ((y.size : Int) = (z + 7) / 8) && (decide (z % 8 = 0) || decide (lastByte y % 2 ^ (8 - z % 8).toNat = 0))) := by unfold bitsV; rw [hwi]; rfl
    rw [hwi] at h0
    clear hwi
    by_cases hl : (y.size : Int) = (z + 7) / 8
    · have hlb : ((y.size : Int) == (z + 7) / 8) = true := by rw [beq_iff_eq]; exact hl
      by_cases hr : z % 8 = 0
      · have hrb : (z % 8 != 0) = false := by rw [bne_eq_false_iff_eq]; exact hr
        have E := Lib.hid (E0.trans (by rw [decide_eq_true hl, decide_eq_true hr]; rfl : _ = true))
        rw [E.out]
        clear E E0 hr hl hz
        go_enter Tryz.func214, Tryz.ntmps214
        go_wp2_with (go_at_call 204; refine (h0 _).mono ?_; rintro e w1 ⟨rfl, rfl⟩)
        exact bodyPost_ret (v := .tuple #[.agg #[.int .i64 k, .int .i64 i, .int .i64 g, .string n, .string f, .int .i64 a, .slice so l c, .string ⟨#[]⟩, .int .i64 0], .bool true]) (by simp [results, Tryz.results214, go_sem]) rfl ⟨rfl, two_below _ _ _⟩
      · have hrb : (z % 8 != 0) = true := by rw [bne_iff_ne]; exact hr
        obtain ⟨m, hm⟩ : ∃ m, y.size = m + 1 := ⟨y.size - 1, by omega⟩
        have hmi : m < y.size := by omega
        have hmy : m ≤ 100000 := by omega
        have HM := Lib.hid hm
        have hw1 : IntKind.i64.wrap ((y.size : Int) - 1) = (m : Int) := by rw [IntKind.wrap_i64]; omega
        have hrem : z.tmod 8 = z % 8 := by rw [Int.tmod_eq_emod_of_nonneg z0]
        have hr0 : 0 ≤ z % 8 := by omega
        have hr8 : z % 8 < 8 := by omega
        have EE : Hid ((((y[m].toNat : Nat) : Int) * 2 ^ (z % 8).toNat % 256 == 0) = bitsV y z) := Lib.hid (by
          rw [E0, decide_eq_true hl, decide_eq_false hr, lastByte_at hm]
          rw [Bool.true_and, Bool.false_or]
          have h := low_bits y[m].toNat (z % 8).toNat (UInt8.toNat_lt _) (by omega)
          rw [show (8 - z % 8).toNat = 8 - (z % 8).toNat by omega]
          rw [Bool.eq_iff_iff, beq_iff_eq, decide_eq_true_eq, ← h]
          exact ⟨fun h => by exact_mod_cast h, fun h => by exact_mod_cast h⟩)
        clear hl hz hm hr E0
        go_enter Tryz.func214, Tryz.ntmps214
        go_wp2_with (go_at_call 204; refine (h0 _).mono ?_; rintro e w1 ⟨rfl, rfl⟩)
        go_quiet (fail)
        go_wp2_with fail
        refine bodyPost_ret (results_row_tmp rfl _ _ _ (w.heap.size + 1) _ _ _ _ rfl (set9 _ _ _ _ _ _ _ _ _ ((heap_setCell_other _ _ _ _ (by simp)).trans ((heap_setCell_other _ _ _ _ (by simp)).trans (two1 w _ _)))) Tryz.underlying28 (by kernel_rfl)) rfl ?_
        exact ⟨by rw [← EE.out]; rfl, below9 (Nat.le_succ _) (((below_drewN (two_below _ _ _) _).setCell (Nat.le_refl _) _).setCell (Nat.le_refl _) _) _ _ _ _ _ _ _ _ _⟩
    · have hlb : ((y.size : Int) == (z + 7) / 8) = false := by rw [beq_eq_false_iff_ne]; exact hl
      have E := Lib.hid (E0.trans (by rw [decide_eq_false hl]; rfl : _ = false))
      rw [E.out]
      clear E E0 hl hz
      go_enter Tryz.func214, Tryz.ntmps214
      go_wp2_with (go_at_call 204; refine (h0 _).mono ?_; rintro e w1 ⟨rfl, rfl⟩)
      exact bodyPost_ret (v := .tuple #[.agg #[.int .i64 k, .int .i64 i, .int .i64 g, .string n, .string f, .int .i64 a, .slice so l c, .string ⟨#[]⟩, .int .i64 0], .bool false]) (by simp [results, Tryz.results214, go_sem]) rfl ⟨rfl, two_below _ _ _⟩
  · have hwi := wi_no hw
    have E : Hid (bitsV y z = false) := Lib.hid (by unfold bitsV; rw [hwi]; rfl)
    rw [hwi] at h0
    rw [E.out]
    clear E hwi hw hz
    go_enter Tryz.func214, Tryz.ntmps214
    go_wp2_with (go_at_call 204; refine (h0 _).mono ?_; rintro e w1 ⟨rfl, rfl⟩)
    exact bodyPost_ret (v := .tuple #[.agg #[.int .i64 k, .int .i64 i, .int .i64 g, .string n, .string f, .int .i64 a, .slice so l c, .string ⟨#[]⟩, .int .i64 0], .bool false]) (by simp [results, Tryz.results214, go_sem]) rfl ⟨rfl, two_below _ _ _⟩
end
end Go.Proofs.YthmpobimmbmddaaGreatDoor
namespace Go.Proofs.YthmpobimmbmddaaGreatDoor
open Go.RowKit
set_option linter.unusedVariables false
set_option linter.unusedSimpArgs false

def sameL (rec : Tm → Tm → Bool) : List Tm → List Tm → Bool
  | [], [] => true
  | x :: l, y :: m => rec x y && sameL rec l m
  | _, _ => false
def flatB (a b : Tm) : Bool := (a.kind == b.kind) && ((a.int == b.int) && ((a.gen == b.gen) && ((a.name.toList == b.name.toList) && ((a.func.toList == b.func.toList) && ((a.arity == b.arity) && ((a.bytes.toList == b.bytes.toList) && (a.bits == b.bits)))))))
def sameF : Nat → Tm → Tm → Bool
  | 0, _, _ => false
  | f + 1, a, b => flatB a b && sameL (sameF f) a.items b.items
theorem sameL_len {rec : Tm → Tm → Bool} : ∀ {l m : List Tm}, l.length ≠ m.length → sameL rec l m = false
  | [], [], h => absurd rfl h
  | _ :: l, _ :: m, h => by
    unfold sameL
    rw [sameL_len (l := l) (m := m) (by simpa using h)]
    exact Bool.and_false _
  | [], _ :: _, _ => rfl
  | _ :: _, [], _ => rfl
theorem sameL_step {rec : Tm → Tm → Bool} {l m : List Tm} {k : Nat} (h : k < l.length) (h' : k < m.length) : sameL rec (l.drop k) (m.drop k) = (rec l[k] m[k] && sameL rec (l.drop (k + 1)) (m.drop (k + 1))) := by
  rw [List.drop_eq_getElem_cons h, List.drop_eq_getElem_cons h', sameL]
theorem sameL_end {rec : Tm → Tm → Bool} {l m : List Tm} {k : Nat} (h : l.length ≤ k) (h' : m.length ≤ k) : sameL rec (l.drop k) (m.drop k) = true := by
  rw [List.drop_eq_nil_of_le h, List.drop_eq_nil_of_le h', sameL]

/-- terms.alike on lists of terms of a depth. -/
def AlikeP (f : Nat) : Prop := ∀ (ao bo : Option Addr) (c d : Nat) (l m : List Tm) (w : World), SlAt w 9 (TmAt w f) ao l → SlAt w 9 (TmAt w f) bo m → l.length ≤ maxLen → m.length ≤ maxLen →
  Calls Tryz.prog 175 #[.slice ao l.length c, .slice bo m.length d, .func (.func 164) #[] #[]] w fun e w' => e = .returned (.bool (sameL (sameF f) l m)) ∧ Below w.heap.size w w'
/-- terms.Same on terms whose items are of a depth. -/
def SameP (f : Nat) : Prop := ∀ (a b : Tm) (ao bo : Option Addr) (c d : Nat) (w : World), SlAt w 9 (TmAt w f) ao a.items → SlAt w 9 (TmAt w f) bo b.items → a.items.length ≤ maxLen → b.items.length ≤ maxLen →
  Calls Tryz.prog 164 #[.agg #[.int .i64 a.kind, .int .i64 a.int, .int .i64 a.gen, .string a.name, .string a.func, .int .i64 a.arity, .slice ao a.items.length c, .string a.bytes, .int .i64 a.bits],
      .agg #[.int .i64 b.kind, .int .i64 b.int, .int .i64 b.gen, .string b.name, .string b.func, .int .i64 b.arity, .slice bo b.items.length d, .string b.bytes, .int .i64 b.bits]] w fun e w' => e = .returned (.bool (sameF (f + 1) a b)) ∧ Below w.heap.size w w'

set_option maxRecDepth 100000 in
set_option maxHeartbeats 8000000 in
theorem same_of {f : Nat} (HP : Hid (AlikeP f)) : SameP f := by
  intro a b ao bo c d w ha hb hla hlb
  have hA : ∀ wx, Below w.heap.size w wx → Calls Tryz.prog 175 #[.slice ao a.items.length c, .slice bo b.items.length d, .func (.func 164) #[] #[]] wx fun e w' => e = .returned (.bool (sameL (sameF f) a.items b.items)) ∧ Below w.heap.size w w' :=
    fun wx hx => (HP.out ao bo c d a.items b.items wx (ha.tms hx) (hb.tms hx) hla hlb).mono fun _ _ ⟨h1, h2⟩ => ⟨h1, below_next hx h2⟩
  have E0 : Hid (sameF (f + 1) a b = (flatB a b && sameL (sameF f) a.items b.items)) := Lib.hid rfl
  unfold flatB at E0
  clear ha hb hla hlb
  generalize sameL (sameF f) a.items b.items = sl at *
  generalize sameF (f + 1) a b = r at *
  obtain ⟨ak, ai, ag, an, af, aa, al, ay, az⟩ := a
  obtain ⟨bk, bi, bg, bn, bf, ba, bl, by', bz⟩ := b
  simp only [Tm.kind, Tm.int, Tm.gen, Tm.name, Tm.func, Tm.arity, Tm.items, Tm.bytes, Tm.bits] at *
  have hbe : Below w.heap.size w ((w.alloc (.cells #[.int .i64 ak, .int .i64 ai, .int .i64 ag, .string an, .string af, .int .i64 aa, .slice ao al.length c, .string ay, .int .i64 az] 28)).alloc (.cells #[.int .i64 bk, .int .i64 bi, .int .i64 bg, .string bn, .string bf, .int .i64 ba, .slice bo bl.length d, .string by', .int .i64 bz] 28)) := two_below _ _ _
  have HA := hA _ hbe
  have HBE := Lib.hid hbe
  clear hA hbe
  cases t0 : (ak == bk) with
  | false =>
    simp only [t0] at E0
    simp only [Bool.true_and, Bool.false_and, Bool.and_true, Bool.and_false] at E0
    go_enter Tryz.func164, Tryz.ntmps164
    go_wp2_with fail
    go_ret
    exact ⟨retb E0.out.symm, HBE.out⟩
  | true =>
    simp only [t0] at E0
    cases t1 : (ai == bi) with
    | false =>
      simp only [t1] at E0
      simp only [Bool.true_and, Bool.false_and, Bool.and_true, Bool.and_false] at E0
      go_enter Tryz.func164, Tryz.ntmps164
      go_wp2_with fail
      go_ret
      exact ⟨retb E0.out.symm, HBE.out⟩
    | true =>
      simp only [t1] at E0
      cases t2 : (ag == bg) with
      | false =>
        simp only [t2] at E0
        simp only [Bool.true_and, Bool.false_and, Bool.and_true, Bool.and_false] at E0
        go_enter Tryz.func164, Tryz.ntmps164
        go_wp2_with fail
        go_ret
        exact ⟨retb E0.out.symm, HBE.out⟩
      | true =>
        simp only [t2] at E0
        cases t3 : (an.toList == bn.toList) with
        | false =>
          simp only [t3] at E0
          simp only [Bool.true_and, Bool.false_and, Bool.and_true, Bool.and_false] at E0
          go_enter Tryz.func164, Tryz.ntmps164
          go_wp2_with fail
          go_ret
          exact ⟨retb E0.out.symm, HBE.out⟩
        | true =>
          simp only [t3] at E0
          cases t4 : (af.toList == bf.toList) with
          | false =>
            simp only [t4] at E0
            simp only [Bool.true_and, Bool.false_and, Bool.and_true, Bool.and_false] at E0
            go_enter Tryz.func164, Tryz.ntmps164
            go_wp2_with fail
            go_ret
            exact ⟨retb E0.out.symm, HBE.out⟩
          | true =>
            simp only [t4] at E0
            cases t5 : (aa == ba) with
            | false =>
              simp only [t5] at E0
              simp only [Bool.true_and, Bool.false_and, Bool.and_true, Bool.and_false] at E0
              go_enter Tryz.func164, Tryz.ntmps164
              go_wp2_with fail
              go_ret
              exact ⟨retb E0.out.symm, HBE.out⟩
            | true =>
              simp only [t5] at E0
              cases t6 : (ay.toList == by'.toList) with
              | false =>
                simp only [t6] at E0
                simp only [Bool.true_and, Bool.false_and, Bool.and_true, Bool.and_false] at E0
                go_enter Tryz.func164, Tryz.ntmps164
                go_wp2_with fail
                go_ret
                exact ⟨retb E0.out.symm, HBE.out⟩
              | true =>
                simp only [t6] at E0
                cases t7 : (az == bz) with
                | false =>
                  simp only [t7] at E0
                  simp only [Bool.true_and, Bool.false_and, Bool.and_true, Bool.and_false] at E0
                  go_enter Tryz.func164, Tryz.ntmps164
                  go_wp2_with fail
                  go_ret
                  exact ⟨retb E0.out.symm, HBE.out⟩
                | true =>
                  simp only [t7] at E0
                  simp only [Bool.true_and, Bool.false_and, Bool.and_true, Bool.and_false] at E0
                  go_enter Tryz.func164, Tryz.ntmps164
                  go_wp2_with fail
                  refine HA.mono ?_
                  rintro e w5 ⟨rfl, hb5⟩
                  go_wp2_with fail
                  go_ret
                  exact ⟨retb E0.out.symm, hb5⟩

set_option maxRecDepth 100000 in
set_option maxHeartbeats 8000000 in
theorem alike_zero : AlikeP 0 := by
  intro ao bo c d l m w ha hb hla hlb
  obtain rfl := ha.zero
  obtain rfl := hb.zero
  go_enter Tryz.func175, Tryz.ntmps175
  go_wp2_with fail
  go_loop [16] (fun i => i = .int .i64 0) (fun _ => 0)
  case atStart => rfl
  case round =>
    obtain rfl := hrel
    go_wp2_with fail
    go_ret
    exact ⟨rfl, Below.refl _ _⟩
set_option maxRecDepth 100000 in
set_option maxHeartbeats 8000000 in
theorem alike_succ {f : Nat} (HQ : Hid (SameP f)) : AlikeP (f + 1) := by
  intro ao bo c d l m w ha hb hla hlb
  unfold maxLen at hla hlb
  by_cases hlm : l.length = m.length
  · have HA := Lib.hid ha; have HB := Lib.hid hb
    have HLM := Lib.hid hlm
    have hlmb : ((l.length : Int) != (m.length : Int)) = false := by rw [hlm]; simp
    have HS : Hid (sameL (sameF (f + 1)) l m = sameL (sameF (f + 1)) (l.drop 0) (m.drop 0)) := Lib.hid rfl
    clear ha hb hlm
    go_enter Tryz.func175, Tryz.ntmps175
    go_wp2_with fail
    go_loopw [7, 8, 16] (fun _ _ i wr => ∃ k : Nat, k ≤ l.length ∧ i = .int .i64 k ∧ Hid (sameL (sameF (f + 1)) l m = sameL (sameF (f + 1)) (l.drop k) (m.drop k)) ∧ Below w.heap.size w wr) (fun _ _ i _ => l.length - (intOf i).toNat)
    case atStart => exact ⟨0, Nat.zero_le _, rfl, HS, Below.refl _ _⟩
    case round =>
      obtain ⟨k, hk, rfl, HK, hBw⟩ := hrel
      rename World => wr
      by_cases hlt : k < l.length
      · have hlt' : k < m.length := by have := HLM.out; omega
        have hsa := HA.out.tms hBw
        have hsb := HB.out.tms hBw
        obtain ⟨b1, off1, ai, ci, hao, hb1, q0, q1, q2, q3, q4, q5, q6, q7, q8, hit, hok⟩ := hsa.tm hlt
        obtain ⟨b2, off2, bi, di, hbo, hb2, p0, p1, p2, p3, p4, p5, p6, p7, p8, hit2, hok2⟩ := hsb.tm hlt'
        subst hao; subst hbo
        have HST := Lib.hid (sameL_step (rec := sameF (f + 1)) hlt hlt')
        have hbx : Below wr.heap.size wr (wr.alloc (.cells #[.int .i64 l[k].kind, .int .i64 l[k].int, .int .i64 l[k].gen, .string l[k].name, .string l[k].func, .int .i64 l[k].arity, .slice ai l[k].items.length ci, .string l[k].bytes, .int .i64 l[k].bits] 28)) := (Below.refl _ _).alloc (Nat.le_refl _) _
        have hSM := HQ.out l[k] m[k] ai bi ci di (wr.alloc (.cells #[.int .i64 l[k].kind, .int .i64 l[k].int, .int .i64 l[k].gen, .string l[k].name, .string l[k].func, .int .i64 l[k].arity, .slice ai l[k].items.length ci, .string l[k].bytes, .int .i64 l[k].bits] 28)).drew (hit.tms hbx.drew) (hit2.tms hbx.drew) hok.2.2.2.2.2.2.1 hok2.2.2.2.2.2.2.1
        have HBX := Lib.hid (hBw.trans (hbx.mono hBw.size))
        have hbs : w.heap.size ≤ (wr.alloc (.cells #[.int .i64 l[k].kind, .int .i64 l[k].int, .int .i64 l[k].gen, .string l[k].name, .string l[k].func, .int .i64 l[k].arity, .slice ai l[k].items.length ci, .string l[k].bytes, .int .i64 l[k].bits] 28)).heap.size := HBX.out.size
        have hca := heap_alloc_new wr (.cells #[.int .i64 l[k].kind, .int .i64 l[k].int, .int .i64 l[k].gen, .string l[k].name, .string l[k].func, .int .i64 l[k].arity, .slice ai l[k].items.length ci, .string l[k].bytes, .int .i64 l[k].bits] 28)
        have hb2' : b2 < (wr.alloc (.cells #[.int .i64 l[k].kind, .int .i64 l[k].int, .int .i64 l[k].gen, .string l[k].name, .string l[k].func, .int .i64 l[k].arity, .slice ai l[k].items.length ci, .string l[k].bytes, .int .i64 l[k].bits] 28)).heap.size := Nat.lt_of_lt_of_le hb2 hbx.size
        have p0' := (hbx.cell (p := ⟨b2, off2 + k * 9, none⟩) hb2).trans p0
        have p1' := (hbx.cell (p := ⟨b2, off2 + k * 9 + 1, none⟩) hb2).trans p1
        have p2' := (hbx.cell (p := ⟨b2, off2 + k * 9 + 2, none⟩) hb2).trans p2
        have p3' := (hbx.cell (p := ⟨b2, off2 + k * 9 + 3, none⟩) hb2).trans p3
        have p4' := (hbx.cell (p := ⟨b2, off2 + k * 9 + 4, none⟩) hb2).trans p4
        have p5' := (hbx.cell (p := ⟨b2, off2 + k * 9 + 5, none⟩) hb2).trans p5
        have p6' := (hbx.cell (p := ⟨b2, off2 + k * 9 + 6, none⟩) hb2).trans p6
        have p7' := (hbx.cell (p := ⟨b2, off2 + k * 9 + 7, none⟩) hb2).trans p7
        have p8' := (hbx.cell (p := ⟨b2, off2 + k * 9 + 8, none⟩) hb2).trans p8
        clear hit hit2 hok hok2 hsa hsb hbx
        generalize l[k] = x at *
        generalize m[k] = y at *
        cases hr : sameF (f + 1) x y with
        | true =>
          have HK2 : Hid (sameL (sameF (f + 1)) l m = sameL (sameF (f + 1)) (l.drop (k + 1)) (m.drop (k + 1))) := Lib.hid (by rw [HK.out, HST.out, hr, Bool.true_and])
          rw [hr] at hSM
          clear hr
          have HBS := Lib.hid hbs; clear hbs
          go_wp2_with fail
          generalize (wr.alloc (.cells #[.int .i64 x.kind, .int .i64 x.int, .int .i64 x.gen, .string x.name, .string x.func, .int .i64 x.arity, .slice ai x.items.length ci, .string x.bytes, .int .i64 x.bits] 28)) = wa at *
          generalize wr.heap.size = C at *
          obtain ⟨q0', q1', q2', q3', q4', q5', q6', q7', q8', z1⟩ := term_cells hca
          have hCs := lt_of_row hca
          have HCA := Lib.hid hca; clear hca z1 q0 q1 q2 q3 q4 q5 q6 q7 q8 p0 p1 p2 p3 p4 p5 p6 p7 p8
          first | go_region_held3 (fun w' => ((w'.cell? ⟨C, 0, none⟩ = some (.int .i64 x.kind) ∧ w'.cell? ⟨C, 1, none⟩ = some (.int .i64 x.int) ∧ w'.cell? ⟨C, 2, none⟩ = some (.int .i64 x.gen) ∧ w'.cell? ⟨C, 3, none⟩ = some (.string x.name) ∧ w'.cell? ⟨C, 4, none⟩ = some (.string x.func) ∧ w'.cell? ⟨C, 5, none⟩ = some (.int .i64 x.arity) ∧ w'.cell? ⟨C, 6, none⟩ = some (.slice ai x.items.length ci) ∧ w'.cell? ⟨C, 7, none⟩ = some (.string x.bytes) ∧ w'.cell? ⟨C, 8, none⟩ = some (.int .i64 x.bits)) ∧ (w'.cell? ⟨b2, off2 + k * 9, none⟩ = some (.int .i64 y.kind) ∧ w'.cell? ⟨b2, off2 + k * 9 + 1, none⟩ = some (.int .i64 y.int) ∧ w'.cell? ⟨b2, off2 + k * 9 + 2, none⟩ = some (.int .i64 y.gen) ∧ w'.cell? ⟨b2, off2 + k * 9 + 3, none⟩ = some (.string y.name) ∧ w'.cell? ⟨b2, off2 + k * 9 + 4, none⟩ = some (.string y.func) ∧ w'.cell? ⟨b2, off2 + k * 9 + 5, none⟩ = some (.int .i64 y.arity) ∧ w'.cell? ⟨b2, off2 + k * 9 + 6, none⟩ = some (.slice bi y.items.length di) ∧ w'.cell? ⟨b2, off2 + k * 9 + 7, none⟩ = some (.string y.bytes) ∧ w'.cell? ⟨b2, off2 + k * 9 + 8, none⟩ = some (.int .i64 y.bits)))) (((repeat' apply And.intro) <;> assumption)) ((go_at_call 164; refine hSM.mono ?_; rintro e w5 ⟨rfl, hb5⟩; obtain ⟨r0, r1, r2, r3, r4, r5, r6, r7, r8, _⟩ := term_cells ((hb5.block C hCs).trans HCA.out); have s0 := (hb5.cell (p := ⟨b2, off2 + k * 9, none⟩) hb2').trans p0'; have s1 := (hb5.cell (p := ⟨b2, off2 + k * 9 + 1, none⟩) hb2').trans p1'; have s2 := (hb5.cell (p := ⟨b2, off2 + k * 9 + 2, none⟩) hb2').trans p2'; have s3 := (hb5.cell (p := ⟨b2, off2 + k * 9 + 3, none⟩) hb2').trans p3'; have s4 := (hb5.cell (p := ⟨b2, off2 + k * 9 + 4, none⟩) hb2').trans p4'; have s5 := (hb5.cell (p := ⟨b2, off2 + k * 9 + 5, none⟩) hb2').trans p5'; have s6 := (hb5.cell (p := ⟨b2, off2 + k * 9 + 6, none⟩) hb2').trans p6'; have s7 := (hb5.cell (p := ⟨b2, off2 + k * 9 + 7, none⟩) hb2').trans p7'; have s8 := (hb5.cell (p := ⟨b2, off2 + k * 9 + 8, none⟩) hb2').trans p8')) | fail
          go_wp2_with fail
          go_roundw
          case rel => exact ⟨k + 1, by omega, by go_num, HK2, HBX.out.drew.trans (hb5.mono HBS.out)⟩
          case measure => simp [intOf]; omega
        | false =>
          have E : Hid (sameL (sameF (f + 1)) l m = false) := Lib.hid (by rw [HK.out, HST.out, hr, Bool.false_and])
          rw [hr] at hSM
          clear hr
          have HBS := Lib.hid hbs; clear hbs
          go_wp2_with fail
          generalize (wr.alloc (.cells #[.int .i64 x.kind, .int .i64 x.int, .int .i64 x.gen, .string x.name, .string x.func, .int .i64 x.arity, .slice ai x.items.length ci, .string x.bytes, .int .i64 x.bits] 28)) = wa at *
          generalize wr.heap.size = C at *
          obtain ⟨q0', q1', q2', q3', q4', q5', q6', q7', q8', z1⟩ := term_cells hca
          have hCs := lt_of_row hca
          have HCA := Lib.hid hca; clear hca z1 q0 q1 q2 q3 q4 q5 q6 q7 q8 p0 p1 p2 p3 p4 p5 p6 p7 p8
          first | go_region_held3 (fun w' => ((w'.cell? ⟨C, 0, none⟩ = some (.int .i64 x.kind) ∧ w'.cell? ⟨C, 1, none⟩ = some (.int .i64 x.int) ∧ w'.cell? ⟨C, 2, none⟩ = some (.int .i64 x.gen) ∧ w'.cell? ⟨C, 3, none⟩ = some (.string x.name) ∧ w'.cell? ⟨C, 4, none⟩ = some (.string x.func) ∧ w'.cell? ⟨C, 5, none⟩ = some (.int .i64 x.arity) ∧ w'.cell? ⟨C, 6, none⟩ = some (.slice ai x.items.length ci) ∧ w'.cell? ⟨C, 7, none⟩ = some (.string x.bytes) ∧ w'.cell? ⟨C, 8, none⟩ = some (.int .i64 x.bits)) ∧ (w'.cell? ⟨b2, off2 + k * 9, none⟩ = some (.int .i64 y.kind) ∧ w'.cell? ⟨b2, off2 + k * 9 + 1, none⟩ = some (.int .i64 y.int) ∧ w'.cell? ⟨b2, off2 + k * 9 + 2, none⟩ = some (.int .i64 y.gen) ∧ w'.cell? ⟨b2, off2 + k * 9 + 3, none⟩ = some (.string y.name) ∧ w'.cell? ⟨b2, off2 + k * 9 + 4, none⟩ = some (.string y.func) ∧ w'.cell? ⟨b2, off2 + k * 9 + 5, none⟩ = some (.int .i64 y.arity) ∧ w'.cell? ⟨b2, off2 + k * 9 + 6, none⟩ = some (.slice bi y.items.length di) ∧ w'.cell? ⟨b2, off2 + k * 9 + 7, none⟩ = some (.string y.bytes) ∧ w'.cell? ⟨b2, off2 + k * 9 + 8, none⟩ = some (.int .i64 y.bits)))) (((repeat' apply And.intro) <;> assumption)) ((go_at_call 164; refine hSM.mono ?_; rintro e w5 ⟨rfl, hb5⟩; obtain ⟨r0, r1, r2, r3, r4, r5, r6, r7, r8, _⟩ := term_cells ((hb5.block C hCs).trans HCA.out); have s0 := (hb5.cell (p := ⟨b2, off2 + k * 9, none⟩) hb2').trans p0'; have s1 := (hb5.cell (p := ⟨b2, off2 + k * 9 + 1, none⟩) hb2').trans p1'; have s2 := (hb5.cell (p := ⟨b2, off2 + k * 9 + 2, none⟩) hb2').trans p2'; have s3 := (hb5.cell (p := ⟨b2, off2 + k * 9 + 3, none⟩) hb2').trans p3'; have s4 := (hb5.cell (p := ⟨b2, off2 + k * 9 + 4, none⟩) hb2').trans p4'; have s5 := (hb5.cell (p := ⟨b2, off2 + k * 9 + 5, none⟩) hb2').trans p5'; have s6 := (hb5.cell (p := ⟨b2, off2 + k * 9 + 6, none⟩) hb2').trans p6'; have s7 := (hb5.cell (p := ⟨b2, off2 + k * 9 + 7, none⟩) hb2').trans p7'; have s8 := (hb5.cell (p := ⟨b2, off2 + k * 9 + 8, none⟩) hb2').trans p8')) | fail
          go_wp2_with fail
          go_ret
          exact ⟨retb E.out.symm, HBX.out.drew.trans (hb5.mono HBS.out)⟩
      · have E : Hid (sameL (sameF (f + 1)) l m = true) := Lib.hid (by rw [HK.out]; exact sameL_end (by omega) (by have := HLM.out; omega))
        go_wp2_with fail
        go_ret
        exact ⟨retb E.out.symm, hBw⟩
  · have hlmb : ((l.length : Int) != (m.length : Int)) = true := by rw [bne_iff_ne]; omega
    have E : Hid (sameL (sameF (f + 1)) l m = false) := Lib.hid (sameL_len hlm)
    clear ha hb hlm
    go_enter Tryz.func175, Tryz.ntmps175
    go_wp2_with fail
    go_ret
    exact ⟨retb E.out.symm, Below.refl _ _⟩
theorem alike_all : ∀ f, AlikeP f
  | 0 => alike_zero
  | f + 1 => alike_succ (Lib.hid (same_of (Lib.hid (alike_all f))))
theorem same_any (f : Nat) : SameP f := same_of (Lib.hid (alike_all f))
end Go.Proofs.YthmpobimmbmddaaGreatDoor
