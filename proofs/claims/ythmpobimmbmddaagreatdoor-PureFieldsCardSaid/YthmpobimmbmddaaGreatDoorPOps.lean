/-
  The operators: how their table is made (printed by gen_pops.py).
-/
import Derived.Test.YthmpobimmbmddaaGreatDoorMapV
import Derived.Test.YthmpobimmbmddaaGreatDoorCClass
namespace Go.Proofs.YthmpobimmbmddaaGreatDoor
open Go.RowKit Go.Maps Go.WideMaps Go.ChangeMaps
set_option linter.unusedVariables false
set_option linter.unusedSimpArgs false

theorem opLaw : Keyed Tryz.prog 9 := string_keyed Tryz.underlying9
theorem zeroF (w : World) : (zeroValue 70).run Tryz.prog w = .ok .nilFunc w := by kernel_rfl
/-- A store of a literal's entry. -/
theorem wpList_insert_V {w : World} {ops : Array Oper} {rest : List Oper} {o : Oper} {a : Act} {Q : Exit → Act → World → Prop} (hg : o.guard = none) (m xo vo : Operand) (ty K E : TypeId) (hop : o.op = Op.insert ty m xo vo) (law : Keyed Tryz.prog K) (ht : Tryz.prog.underlying ty = some (.map K E)) {z : Value}
    {M n : Nat} {t : List UInt8 → Value} (hm : a.eval m = .map (some M)) (hM : MapV w K M n z t) (hn : n < maxLen) (key v : Value) (x : List UInt8) (hx : a.eval xo = key) (hv : a.eval vo = v) (hkey : keyOf Tryz.prog K key = some (.string x))
    (hK : ∀ w', MapV w' K M (n + 1) z (putV t x v) → w.mapTurned w' M → wpList Tryz.prog ops Q rest (a.put o.dst undef) w') : wpList Tryz.prog ops Q (o :: rest) a w := by
  obtain ⟨D, hown, hD⟩ := hM
  refine wpList_plain hg fun K' hK' => ?_
  obtain ⟨w', hrun, r1, r2⟩ := hown.store law ht hn hkey (d := .held v) (ps := []) rfl
  unfold Oper.wp
  simp [execOp, hop, hm, hx, hv, hrun, Result.andThen]
  exact hK' _ _ (hK w' (MapVP.put hown.isMap hD x v r1) r2)
theorem turned_size {w w' : World} {M : Nat} (h : w.mapTurned w' M) : w'.heap.size = w.heap.size := by
  obtain ⟨es, c, es', c', h1, rfl⟩ := h
  simp [setBlock]


set_option maxRecDepth 100000 in
set_option maxHeartbeats 1000000 in
theorem reckon_any (f : Fn) (w : World) : Calls Tryz.prog 64 #[.func f #[] #[]] w fun e w' => e = .returned (.func (.func 137) #[] #[.pointer (some ⟨w.heap.size, 0, none⟩)]) ∧ w' = w.alloc (.cells #[.func f #[] #[]] 96) := by
  go_enter Tryz.func64, Tryz.ntmps64
  go_wp2_with fail
  go_ret
  exact ⟨rfl, rfl⟩

set_option maxRecDepth 100000 in
set_option maxHeartbeats 1000000 in
theorem logic_any (f : Fn) (w : World) : Calls Tryz.prog 78 #[.func f #[] #[]] w fun e w' => e = .returned (.func (.func 144) #[] #[.pointer (some ⟨w.heap.size, 0, none⟩)]) ∧ w' = w.alloc (.cells #[.func f #[] #[]] 102) := by
  go_enter Tryz.func78, Tryz.ntmps78
  go_wp2_with fail
  go_ret
  exact ⟨rfl, rfl⟩

set_option maxRecDepth 100000 in
set_option maxHeartbeats 1000000 in
theorem compare_any (f : Fn) (w : World) : Calls Tryz.prog 83 #[.func f #[] #[]] w fun e w' => e = .returned (.func (.func 145) #[] #[.pointer (some ⟨w.heap.size, 0, none⟩)]) ∧ w' = w.alloc (.cells #[.func f #[] #[]] 104) := by
  go_enter Tryz.func83, Tryz.ntmps83
  go_wp2_with fail
  go_ret
  exact ⟨rfl, rfl⟩

/-- The functions that the operators' closures hold, and the types of their boxes. -/
def opF : List (Fn × TypeId) := [(.func 65, 96), (.func 66, 96), (.func 67, 96), (.func 68, 96), (.func 69, 96), (.func 70, 96), (.func 71, 96), (.func 72, 96), (.func 73, 96), (.func 74, 96), (.func 75, 96), (.func 76, 96), (.func 79, 102), (.func 80, 102), (.func 81, 102), (.func 82, 102), (.func 84, 104), (.func 85, 104), (.func 86, 104), (.func 87, 104), (.func 88, 104), (.func 89, 104)]
/-- The entries; M: the block of the map. -/
def opL (M : Nat) : List (List UInt8 × Value) := [([43], .func (.func 137) #[] #[.pointer (some ⟨M + 1, 0, none⟩)]), ([45], .func (.func 137) #[] #[.pointer (some ⟨M + 2, 0, none⟩)]), ([42], .func (.func 137) #[] #[.pointer (some ⟨M + 3, 0, none⟩)]), ([100, 105, 118], .func (.func 137) #[] #[.pointer (some ⟨M + 4, 0, none⟩)]), ([114, 101, 109], .func (.func 137) #[] #[.pointer (some ⟨M + 5, 0, none⟩)]), ([98, 115, 108], .func (.func 137) #[] #[.pointer (some ⟨M + 6, 0, none⟩)]), ([98, 115, 114], .func (.func 137) #[] #[.pointer (some ⟨M + 7, 0, none⟩)]), ([98, 97, 110, 100], .func (.func 137) #[] #[.pointer (some ⟨M + 8, 0, none⟩)]), ([98, 111, 114], .func (.func 137) #[] #[.pointer (some ⟨M + 9, 0, none⟩)]), ([98, 120, 111, 114], .func (.func 137) #[] #[.pointer (some ⟨M + 10, 0, none⟩)]), ([98, 110, 111, 116, 47, 49], .func (.func 137) #[] #[.pointer (some ⟨M + 11, 0, none⟩)]), ([45, 47, 49], .func (.func 137) #[] #[.pointer (some ⟨M + 12, 0, none⟩)]), ([97, 110, 100], .func (.func 144) #[] #[.pointer (some ⟨M + 13, 0, none⟩)]), ([111, 114], .func (.func 144) #[] #[.pointer (some ⟨M + 14, 0, none⟩)]), ([120, 111, 114], .func (.func 144) #[] #[.pointer (some ⟨M + 15, 0, none⟩)]), ([110, 111, 116, 47, 49], .func (.func 144) #[] #[.pointer (some ⟨M + 16, 0, none⟩)]), ([61, 58, 61], .func (.func 145) #[] #[.pointer (some ⟨M + 17, 0, none⟩)]), ([61, 47, 61], .func (.func 145) #[] #[.pointer (some ⟨M + 18, 0, none⟩)]), ([60], .func (.func 145) #[] #[.pointer (some ⟨M + 19, 0, none⟩)]), ([61, 60], .func (.func 145) #[] #[.pointer (some ⟨M + 20, 0, none⟩)]), ([62], .func (.func 145) #[] #[.pointer (some ⟨M + 21, 0, none⟩)]), ([62, 61], .func (.func 145) #[] #[.pointer (some ⟨M + 22, 0, none⟩)]), ([43, 43], .func (.func 90) #[] #[])]
/-- The table after n entries. -/
def opN (M n : Nat) : List UInt8 → Value := ((opL M).take n).foldl (fun t p => putV t p.1 p.2) (fun _ => .nilFunc)
theorem opN_step {M n : Nat} {k : List UInt8} {v : Value} (h : (opL M)[n]? = some (k, v)) : opN M (n + 1) = putV (opN M n) k v := by
  unfold opN
  rw [List.take_add_one, h, List.foldl_append]; rfl
/-- What is known after n closures have been put into the table. -/
structure OpsAt (w0 w : World) (n m : Nat) : Prop where
  map : MapV w 9 w0.heap.size n .nilFunc (opN w0.heap.size n)
  size : w.heap.size = w0.heap.size + 1 + m
  below : Below w0.heap.size w0 w
  box : ∀ i (h : i < opF.length), i < m → w.heap[w0.heap.size + 1 + i]? = some (.cells #[.func opF[i].1 #[] #[]] opF[i].2 (0, 0))
theorem OpsAt.start (w : World) : OpsAt w (w.alloc (.map #[] 0)) 0 0 := ⟨@MapVP.made Tryz.prog w 9 .nilFunc, by simp, (Below.refl _ _).alloc (Nat.le_refl _) _, fun i h h2 => by omega⟩
theorem OpsAt.step {w0 w w' : World} {n : Nat} (h : OpsAt w0 w n n) (hn : n < opF.length) (f : Fn) (ty : TypeId) (e : opF[n] = (f, ty)) (k : List UInt8) (v : Value)
    (hM : MapV w' 9 w0.heap.size (n + 1) .nilFunc (putV (opN w0.heap.size n) k v)) (ht : (w.alloc (.cells #[.func f #[] #[]] ty)).mapTurned w' w0.heap.size) (ek : (opL w0.heap.size)[n]? = some (k, v)) : OpsAt w0 w' (n + 1) (n + 1) := by
  have hg := ht.grown
  have hs : w'.heap.size = w0.heap.size + 1 + (n + 1) := by rw [turned_size ht]; simp [h.size]; omega
  refine ⟨by rw [opN_step ek]; exact hM, hs, ?_, fun i hi hi2 => ?_⟩
  · exact (h.below.alloc (by have := h.size; omega) _).grown hg (by simp [h.size]; omega) (fun k hk => by cases hk; exact Nat.le_refl _)
  · have hb : w'.heap[w0.heap.size + 1 + i]? = (w.alloc (.cells #[.func f #[] #[]] ty)).heap[w0.heap.size + 1 + i]? := hg.block _ (by simp [h.size]; omega) (by intro e; injection e with e; omega)
    rw [hb]
    by_cases hin : i < n
    · rw [Below.heap_alloc w _ _ (by rw [h.size]; omega)]; exact h.box i hi hin
    · have : i = n := by omega
      subst this
      have := heap_alloc_new w (.cells #[.func f #[] #[]] ty)
      rw [h.size] at this
      rw [this, e]
theorem OpsAt.last {w0 w w' : World} (h : OpsAt w0 w 22 22) (hM : MapV w' 9 w0.heap.size 23 .nilFunc (putV (opN w0.heap.size 22) [43, 43] (.func (.func 90) #[] #[]))) (ht : w.mapTurned w' w0.heap.size) : OpsAt w0 w' 23 22 := by
  have hg := ht.grown
  refine ⟨by rw [opN_step rfl]; exact hM, by rw [turned_size ht]; exact h.size, h.below.grown hg (by rw [h.size]; omega) (fun k hk => by cases hk; exact Nat.le_refl _), fun i hi hi2 => ?_⟩
  rw [hg.block _ (by rw [h.size]; omega) (by intro e; injection e with e; omega)]
  exact h.box i hi hi2
theorem keyS (l : List UInt8) (h : l.length ≤ 1000) : keyOf Tryz.prog 9 (.string ⟨l.toArray⟩) = some (.string l) := keyOf_string_mk Tryz.underlying9 (by unfold maxLen; simp [ByteArray.size]; omega)

set_option maxRecDepth 100000 in
set_option maxHeartbeats 8000000 in
theorem operators_any (w : World) : Calls Tryz.prog 40 #[] w fun e w' => e = .returned (.map (some w.heap.size)) ∧ OpsAt w w' 23 22 := by
  have hmm := @run_makeMap Tryz.prog
  have H0 := Lib.hid (OpsAt.start w)
  go_enter Tryz.func40, Tryz.ntmps40
  have K0 := keyS [43] (by decide)
  go_wp2_with (first | (go_at_call 64; refine (reckon_any (.func 65) _).mono ?_; rintro e wa ⟨rfl, rfl⟩) | (refine wpList_insert_V rfl _ _ _ _ _ _ rfl opLaw Tryz.underlying71 rfl (H0.out.map.alloc _) (by decide) _ _ [43] rfl rfl K0 ?_) | fail)
  intro w1 hM1 ht1
  have H1 := Lib.hid (OpsAt.step H0.out (by decide) _ _ rfl [43] _ hM1 ht1 rfl)
  clear hM1 ht1 H0 K0
  have K1 := keyS [45] (by decide)
  go_wp2_with (first | (go_at_call 64; refine (reckon_any (.func 66) _).mono ?_; rintro e wa ⟨rfl, rfl⟩) | (refine wpList_insert_V rfl _ _ _ _ _ _ rfl opLaw Tryz.underlying71 rfl (H1.out.map.alloc _) (by decide) _ _ [45] rfl rfl K1 ?_) | fail)
  intro w2 hM2 ht2
  rw [H1.out.size] at hM2
  have H2 := Lib.hid (OpsAt.step H1.out (by decide) _ _ rfl [45] _ hM2 ht2 rfl)
  clear hM2 ht2 H1 K1
  have K2 := keyS [42] (by decide)
  go_wp2_with (first | (go_at_call 64; refine (reckon_any (.func 67) _).mono ?_; rintro e wa ⟨rfl, rfl⟩) | (refine wpList_insert_V rfl _ _ _ _ _ _ rfl opLaw Tryz.underlying71 rfl (H2.out.map.alloc _) (by decide) _ _ [42] rfl rfl K2 ?_) | fail)
  intro w3 hM3 ht3
  rw [H2.out.size] at hM3
  have H3 := Lib.hid (OpsAt.step H2.out (by decide) _ _ rfl [42] _ hM3 ht3 rfl)
  clear hM3 ht3 H2 K2
  have K3 := keyS [100, 105, 118] (by decide)
  go_wp2_with (first | (go_at_call 64; refine (reckon_any (.func 68) _).mono ?_; rintro e wa ⟨rfl, rfl⟩) | (refine wpList_insert_V rfl _ _ _ _ _ _ rfl opLaw Tryz.underlying71 rfl (H3.out.map.alloc _) (by decide) _ _ [100, 105, 118] rfl rfl K3 ?_) | fail)
  intro w4 hM4 ht4
  rw [H3.out.size] at hM4
  have H4 := Lib.hid (OpsAt.step H3.out (by decide) _ _ rfl [100, 105, 118] _ hM4 ht4 rfl)
  clear hM4 ht4 H3 K3
  have K4 := keyS [114, 101, 109] (by decide)
  go_wp2_with (first | (go_at_call 64; refine (reckon_any (.func 69) _).mono ?_; rintro e wa ⟨rfl, rfl⟩) | (refine wpList_insert_V rfl _ _ _ _ _ _ rfl opLaw Tryz.underlying71 rfl (H4.out.map.alloc _) (by decide) _ _ [114, 101, 109] rfl rfl K4 ?_) | fail)
  intro w5 hM5 ht5
  rw [H4.out.size] at hM5
  have H5 := Lib.hid (OpsAt.step H4.out (by decide) _ _ rfl [114, 101, 109] _ hM5 ht5 rfl)
  clear hM5 ht5 H4 K4
  have K5 := keyS [98, 115, 108] (by decide)
  go_wp2_with (first | (go_at_call 64; refine (reckon_any (.func 70) _).mono ?_; rintro e wa ⟨rfl, rfl⟩) | (refine wpList_insert_V rfl _ _ _ _ _ _ rfl opLaw Tryz.underlying71 rfl (H5.out.map.alloc _) (by decide) _ _ [98, 115, 108] rfl rfl K5 ?_) | fail)
  intro w6 hM6 ht6
  rw [H5.out.size] at hM6
  have H6 := Lib.hid (OpsAt.step H5.out (by decide) _ _ rfl [98, 115, 108] _ hM6 ht6 rfl)
  clear hM6 ht6 H5 K5
  have K6 := keyS [98, 115, 114] (by decide)
  go_wp2_with (first | (go_at_call 64; refine (reckon_any (.func 71) _).mono ?_; rintro e wa ⟨rfl, rfl⟩) | (refine wpList_insert_V rfl _ _ _ _ _ _ rfl opLaw Tryz.underlying71 rfl (H6.out.map.alloc _) (by decide) _ _ [98, 115, 114] rfl rfl K6 ?_) | fail)
  intro w7 hM7 ht7
  rw [H6.out.size] at hM7
  have H7 := Lib.hid (OpsAt.step H6.out (by decide) _ _ rfl [98, 115, 114] _ hM7 ht7 rfl)
  clear hM7 ht7 H6 K6
  have K7 := keyS [98, 97, 110, 100] (by decide)
  go_wp2_with (first | (go_at_call 64; refine (reckon_any (.func 72) _).mono ?_; rintro e wa ⟨rfl, rfl⟩) | (refine wpList_insert_V rfl _ _ _ _ _ _ rfl opLaw Tryz.underlying71 rfl (H7.out.map.alloc _) (by decide) _ _ [98, 97, 110, 100] rfl rfl K7 ?_) | fail)
  intro w8 hM8 ht8
  rw [H7.out.size] at hM8
  have H8 := Lib.hid (OpsAt.step H7.out (by decide) _ _ rfl [98, 97, 110, 100] _ hM8 ht8 rfl)
  clear hM8 ht8 H7 K7
  have K8 := keyS [98, 111, 114] (by decide)
  go_wp2_with (first | (go_at_call 64; refine (reckon_any (.func 73) _).mono ?_; rintro e wa ⟨rfl, rfl⟩) | (refine wpList_insert_V rfl _ _ _ _ _ _ rfl opLaw Tryz.underlying71 rfl (H8.out.map.alloc _) (by decide) _ _ [98, 111, 114] rfl rfl K8 ?_) | fail)
  intro w9 hM9 ht9
  rw [H8.out.size] at hM9
  have H9 := Lib.hid (OpsAt.step H8.out (by decide) _ _ rfl [98, 111, 114] _ hM9 ht9 rfl)
  clear hM9 ht9 H8 K8
  have K9 := keyS [98, 120, 111, 114] (by decide)
  go_wp2_with (first | (go_at_call 64; refine (reckon_any (.func 74) _).mono ?_; rintro e wa ⟨rfl, rfl⟩) | (refine wpList_insert_V rfl _ _ _ _ _ _ rfl opLaw Tryz.underlying71 rfl (H9.out.map.alloc _) (by decide) _ _ [98, 120, 111, 114] rfl rfl K9 ?_) | fail)
  intro w10 hM10 ht10
  rw [H9.out.size] at hM10
  have H10 := Lib.hid (OpsAt.step H9.out (by decide) _ _ rfl [98, 120, 111, 114] _ hM10 ht10 rfl)
  clear hM10 ht10 H9 K9
  have K10 := keyS [98, 110, 111, 116, 47, 49] (by decide)
  go_wp2_with (first | (go_at_call 64; refine (reckon_any (.func 75) _).mono ?_; rintro e wa ⟨rfl, rfl⟩) | (refine wpList_insert_V rfl _ _ _ _ _ _ rfl opLaw Tryz.underlying71 rfl (H10.out.map.alloc _) (by decide) _ _ [98, 110, 111, 116, 47, 49] rfl rfl K10 ?_) | fail)
  intro w11 hM11 ht11
  rw [H10.out.size] at hM11
  have H11 := Lib.hid (OpsAt.step H10.out (by decide) _ _ rfl [98, 110, 111, 116, 47, 49] _ hM11 ht11 rfl)
  clear hM11 ht11 H10 K10
  have K11 := keyS [45, 47, 49] (by decide)
  go_wp2_with (first | (go_at_call 64; refine (reckon_any (.func 76) _).mono ?_; rintro e wa ⟨rfl, rfl⟩) | (refine wpList_insert_V rfl _ _ _ _ _ _ rfl opLaw Tryz.underlying71 rfl (H11.out.map.alloc _) (by decide) _ _ [45, 47, 49] rfl rfl K11 ?_) | fail)
  intro w12 hM12 ht12
  rw [H11.out.size] at hM12
  have H12 := Lib.hid (OpsAt.step H11.out (by decide) _ _ rfl [45, 47, 49] _ hM12 ht12 rfl)
  clear hM12 ht12 H11 K11
  have K12 := keyS [97, 110, 100] (by decide)
  go_wp2_with (first | (go_at_call 78; refine (logic_any (.func 79) _).mono ?_; rintro e wa ⟨rfl, rfl⟩) | (refine wpList_insert_V rfl _ _ _ _ _ _ rfl opLaw Tryz.underlying71 rfl (H12.out.map.alloc _) (by decide) _ _ [97, 110, 100] rfl rfl K12 ?_) | fail)
  intro w13 hM13 ht13
  rw [H12.out.size] at hM13
  have H13 := Lib.hid (OpsAt.step H12.out (by decide) _ _ rfl [97, 110, 100] _ hM13 ht13 rfl)
  clear hM13 ht13 H12 K12
  have K13 := keyS [111, 114] (by decide)
  go_wp2_with (first | (go_at_call 78; refine (logic_any (.func 80) _).mono ?_; rintro e wa ⟨rfl, rfl⟩) | (refine wpList_insert_V rfl _ _ _ _ _ _ rfl opLaw Tryz.underlying71 rfl (H13.out.map.alloc _) (by decide) _ _ [111, 114] rfl rfl K13 ?_) | fail)
  intro w14 hM14 ht14
  rw [H13.out.size] at hM14
  have H14 := Lib.hid (OpsAt.step H13.out (by decide) _ _ rfl [111, 114] _ hM14 ht14 rfl)
  clear hM14 ht14 H13 K13
  have K14 := keyS [120, 111, 114] (by decide)
  go_wp2_with (first | (go_at_call 78; refine (logic_any (.func 81) _).mono ?_; rintro e wa ⟨rfl, rfl⟩) | (refine wpList_insert_V rfl _ _ _ _ _ _ rfl opLaw Tryz.underlying71 rfl (H14.out.map.alloc _) (by decide) _ _ [120, 111, 114] rfl rfl K14 ?_) | fail)
  intro w15 hM15 ht15
  rw [H14.out.size] at hM15
  have H15 := Lib.hid (OpsAt.step H14.out (by decide) _ _ rfl [120, 111, 114] _ hM15 ht15 rfl)
  clear hM15 ht15 H14 K14
  have K15 := keyS [110, 111, 116, 47, 49] (by decide)
  go_wp2_with (first | (go_at_call 78; refine (logic_any (.func 82) _).mono ?_; rintro e wa ⟨rfl, rfl⟩) | (refine wpList_insert_V rfl _ _ _ _ _ _ rfl opLaw Tryz.underlying71 rfl (H15.out.map.alloc _) (by decide) _ _ [110, 111, 116, 47, 49] rfl rfl K15 ?_) | fail)
  intro w16 hM16 ht16
  rw [H15.out.size] at hM16
  have H16 := Lib.hid (OpsAt.step H15.out (by decide) _ _ rfl [110, 111, 116, 47, 49] _ hM16 ht16 rfl)
  clear hM16 ht16 H15 K15
  have K16 := keyS [61, 58, 61] (by decide)
  go_wp2_with (first | (go_at_call 83; refine (compare_any (.func 84) _).mono ?_; rintro e wa ⟨rfl, rfl⟩) | (refine wpList_insert_V rfl _ _ _ _ _ _ rfl opLaw Tryz.underlying71 rfl (H16.out.map.alloc _) (by decide) _ _ [61, 58, 61] rfl rfl K16 ?_) | fail)
  intro w17 hM17 ht17
  rw [H16.out.size] at hM17
  have H17 := Lib.hid (OpsAt.step H16.out (by decide) _ _ rfl [61, 58, 61] _ hM17 ht17 rfl)
  clear hM17 ht17 H16 K16
  have K17 := keyS [61, 47, 61] (by decide)
  go_wp2_with (first | (go_at_call 83; refine (compare_any (.func 85) _).mono ?_; rintro e wa ⟨rfl, rfl⟩) | (refine wpList_insert_V rfl _ _ _ _ _ _ rfl opLaw Tryz.underlying71 rfl (H17.out.map.alloc _) (by decide) _ _ [61, 47, 61] rfl rfl K17 ?_) | fail)
  intro w18 hM18 ht18
  rw [H17.out.size] at hM18
  have H18 := Lib.hid (OpsAt.step H17.out (by decide) _ _ rfl [61, 47, 61] _ hM18 ht18 rfl)
  clear hM18 ht18 H17 K17
  have K18 := keyS [60] (by decide)
  go_wp2_with (first | (go_at_call 83; refine (compare_any (.func 86) _).mono ?_; rintro e wa ⟨rfl, rfl⟩) | (refine wpList_insert_V rfl _ _ _ _ _ _ rfl opLaw Tryz.underlying71 rfl (H18.out.map.alloc _) (by decide) _ _ [60] rfl rfl K18 ?_) | fail)
  intro w19 hM19 ht19
  rw [H18.out.size] at hM19
  have H19 := Lib.hid (OpsAt.step H18.out (by decide) _ _ rfl [60] _ hM19 ht19 rfl)
  clear hM19 ht19 H18 K18
  have K19 := keyS [61, 60] (by decide)
  go_wp2_with (first | (go_at_call 83; refine (compare_any (.func 87) _).mono ?_; rintro e wa ⟨rfl, rfl⟩) | (refine wpList_insert_V rfl _ _ _ _ _ _ rfl opLaw Tryz.underlying71 rfl (H19.out.map.alloc _) (by decide) _ _ [61, 60] rfl rfl K19 ?_) | fail)
  intro w20 hM20 ht20
  rw [H19.out.size] at hM20
  have H20 := Lib.hid (OpsAt.step H19.out (by decide) _ _ rfl [61, 60] _ hM20 ht20 rfl)
  clear hM20 ht20 H19 K19
  have K20 := keyS [62] (by decide)
  go_wp2_with (first | (go_at_call 83; refine (compare_any (.func 88) _).mono ?_; rintro e wa ⟨rfl, rfl⟩) | (refine wpList_insert_V rfl _ _ _ _ _ _ rfl opLaw Tryz.underlying71 rfl (H20.out.map.alloc _) (by decide) _ _ [62] rfl rfl K20 ?_) | fail)
  intro w21 hM21 ht21
  rw [H20.out.size] at hM21
  have H21 := Lib.hid (OpsAt.step H20.out (by decide) _ _ rfl [62] _ hM21 ht21 rfl)
  clear hM21 ht21 H20 K20
  have K21 := keyS [62, 61] (by decide)
  go_wp2_with (first | (go_at_call 83; refine (compare_any (.func 89) _).mono ?_; rintro e wa ⟨rfl, rfl⟩) | (refine wpList_insert_V rfl _ _ _ _ _ _ rfl opLaw Tryz.underlying71 rfl (H21.out.map.alloc _) (by decide) _ _ [62, 61] rfl rfl K21 ?_) | fail)
  intro w22 hM22 ht22
  rw [H21.out.size] at hM22
  have H22 := Lib.hid (OpsAt.step H21.out (by decide) _ _ rfl [62, 61] _ hM22 ht22 rfl)
  clear hM22 ht22 H21 K21
  have K22 := keyS [43, 43] (by decide)
  go_wp2_with (first | (refine wpList_insert_V rfl _ _ _ _ _ _ rfl opLaw Tryz.underlying71 rfl H22.out.map (by decide) _ _ [43, 43] rfl rfl K22 ?_) | fail)
  intro w23 hM23 ht23
  have H23 := Lib.hid (OpsAt.last H22.out hM23 ht23)
  clear hM23 ht23 H22 K22
  go_wp2_with fail
  go_ret
  exact ⟨rfl, H23.out⟩
end Go.Proofs.YthmpobimmbmddaaGreatDoor
