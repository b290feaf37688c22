/-
  Apply at an operator of two integers: the walks (printed by gen_papply.py).
-/
import Derived.Test.YthmpobimmbmddaaGreatDoorPReckon
import Derived.Test.YthmpobimmbmddaaGreatDoorTOf4
import Derived.Test.YthmpobimmbmddaaGreatDoorCClasses
namespace Go.Proofs.YthmpobimmbmddaaGreatDoor
open Go.RowKit Go.Maps Go.WideMaps
set_option linter.unusedVariables false
set_option linter.unusedSimpArgs false

/-- A look-up of a key whose value is known. -/
theorem wpList_look_is {P : Program} {w : World} {ops : Array Oper} {rest : List Oper} {o : Oper} {a : Act} {Q : Exit → Act → World → Prop} (hg : o.guard = none) (m xo : Operand) (ty K E : TypeId) (hop : o.op = Op.lookup ty m xo false) (law : Keyed P K) (ht : P.underlying ty = some (.map K E)) {z : Value} (hz : (zeroValue E).run P w = .ok z w)
    {M n : Nat} {t : List UInt8 → Value} (hm : a.eval m = .map (some M)) (hM : MapVP P w K M n z t) (key : Value) (x : List UInt8) (hx : a.eval xo = key) (hkey : keyOf P K key = some (.string x)) {v : Value} (hv : t x = v)
    (hK : wpList P ops Q rest (a.put o.dst v) w) : wpList P ops Q (o :: rest) a w := wpList_look_V hg m xo ty K E hop law ht hz hm hM key x hx hkey (by rw [hv]; exact hK)
theorem neq_fn (fn : Fn) (a b : Array Value) (w : World) : (binOp .neq 70 (.func fn a b) .nilFunc).run Tryz.prog w = .ok (.bool true) w := by kernel_rfl
theorem eql_fn (fn : Fn) (a b : Array Value) (w : World) : (binOp .eql 70 (.func fn a b) .nilFunc).run Tryz.prog w = .ok (.bool false) w := by kernel_rfl
theorem neq_nil (w : World) : (binOp .neq 70 .nilFunc .nilFunc).run Tryz.prog w = .ok (.bool false) w := by kernel_rfl
theorem eql_nil (w : World) : (binOp .eql 70 .nilFunc .nilFunc).run Tryz.prog w = .ok (.bool true) w := by kernel_rfl

set_option maxRecDepth 100000 in
set_option maxHeartbeats 8000000 in
theorem apply_add (l : List Tm) (so : Option Addr) (c : Nat) (w : World) (hs : SlAt w 9 (TmAt w 1) so l) (hl : l.length = 2) (hk : ∀ t ∈ l, t.kind = 1) (hv : ∀ t ∈ l, validF 1 t = true) (hc : ∀ t ∈ l, capF 1 t ≤ 1000) (h1 : firstI l l.length = 1) (h2 : lastI l l.length = 2) :
    Calls Tryz.prog 19 #[zeroV, .string ⟨#[43]⟩, .slice so l.length c] w fun e w' => e = .returned (.tuple #[intV 3, noneV]) ∧ Below w.heap.size w w' := by
  have HT := Lib.hid (two_newP w (.cells zRow9 28)); have HB := Lib.hid (two_belowP w (.cells zRow9 28))
  have hSB : (((w.alloc (.cells zRow9 28)).alloc (.cells zRow9 28)).alloc (.cells zRow10 34)).heap[w.heap.size]? = some (.cells zRow9 28 (0, 0)) := by
    rw [Below.heap_alloc _ _ _ (by simp; omega), Below.heap_alloc _ _ _ (by simp)]; exact heap_alloc_new _ _
  have HSB := Lib.hid hSB
  have HS := Lib.hid (hs.tms HB.out); have HK := Lib.hid hk; have HV := Lib.hid hv; have HCp := Lib.hid hc
  have H1 := Lib.hid h1; have H2 := Lib.hid h2; have HL := Lib.hid hl
  have HCn := Tryz.strings_Contains_one ⟨#[43]⟩ 47
  rw [decide_eq_false (by decide)] at HCn
  have hn1 := neq_fn; have hn2 := eql_fn
  have KY := keyS [43] (by decide)
  rw [hl]
  clear hs hk hv hc h1 h2 hl hSB
  go_enter Tryz.func19, Tryz.ntmps19
  generalize hW : ((w.alloc (.cells zRow9 28)).alloc (.cells zRow9 28)).alloc (.cells zRow10 34) = W at *
  go_upto_region 20 with (first | (go_at_call 20; refine (HCn _).mono ?_; rintro e w0 ⟨rfl, rfl⟩) | (go_at_call 22; refine (text_any 2 _ (by unfold I64; omega)).mono ?_; rintro e w1 ⟨rfl, hb1⟩) | (go_at_call 40; refine (operators_any _).mono ?_; rintro e w2 ⟨rfl, hO⟩) | (at_lookup; refine wpList_look_is rfl _ _ 71 9 70 rfl opLaw Tryz.underlying71 (zeroF _) rfl hO.map _ [43] rfl KY (v := .func (.func 137) #[] #[.pointer (some ⟨w1.heap.size + 1, 0, none⟩)]) rfl ?_) | fail)
  have HB2 := Lib.hid (below_next hb1 hO.below)
  have HX := Lib.hid (hO.box 0 (by decide) (by decide))
  rw [show w1.heap.size + 1 + 0 = w1.heap.size + 1 by omega] at HX
  clear hO hb1 HCn KY hn1 hn2
  generalize w1.heap.size + 1 = C at *
  have HSf := Lib.hid (fun wx (hx : Below w0.heap.size w0 wx) => reckon_add l so c C wx)
  go_wp2_with fail
  go_loopw [66] (fun vk wr => ∃ j : Nat, j ≤ 2 ∧ vk = .int .i64 j ∧ Hid (Below w2.heap.size w2 wr)) (fun vk _ => 2 - (intOf vk).toNat)
  case atStart => exact ⟨0, by omega, rfl, Lib.hid (Below.refl _ _)⟩
  case round =>
    obtain ⟨j, hj, rfl, HBr⟩ := hrel
    rename World => wr
    by_cases hlt : j < 2
    · have hlt2 : j < l.length := by have := HL.out; omega
      have HBw := Lib.hid (below_next HB2.out HBr.out)
      obtain ⟨b, off, ai, c', hao, hb, q0, q1, q2, q3, q4, q5, q6, q7, q8, hit, hok⟩ := (HS.out.tms HBw.out).tm hlt2
      subst hao
      have hmem := List.getElem_mem hlt2
      have hva := HV.out _ hmem
      have hcp := HCp.out _ hmem
      generalize l[j] = t at *
      have hvd : Calls Tryz.prog 43 #[.agg #[.int .i64 t.kind, .int .i64 t.int, .int .i64 t.gen, .string t.name, .string t.func, .int .i64 t.arity, .slice ai t.items.length c', .string t.bytes, .int .i64 t.bits]] (wr.alloc (.cells #[.int .i64 t.kind, .int .i64 t.int, .int .i64 t.gen, .string t.name, .string t.func, .int .i64 t.arity, .slice ai t.items.length c', .string t.bytes, .int .i64 t.bits] 28)) fun e w' => e = .returned (.bool true) ∧ Below wr.heap.size wr w' :=
        (tvalid_any 0 t ai c' _ (hit.tms ((Below.refl _ _).alloc (Nat.le_refl _) _)) hok (by have : capF (0 + 1) t = capF 1 t := rfl; omega)).mono fun e w' h => ⟨by rw [h.1, hva], ((Below.refl _ _).alloc (Nat.le_refl _) _).trans (h.2.mono (by simp))⟩
      clear hit hok hva hcp hmem HSf
      go_wp2_with (first | (go_at_call 43; refine hvd.mono ?_; rintro e w5 ⟨rfl, hb5⟩) | fail)
      go_roundw
      case rel => exact ⟨j + 1, by omega, by go_num, Lib.hid (below_next HBr.out hb5)⟩
      case measure => simp [intOf]; omega
    · obtain rfl : j = 2 := by omega
      have HBw := Lib.hid (below_next HB2.out HBr.out)
      have hTB := HT.out.below HBw.out
      have hSBr := (HBw.out.block _ (lt_of_row HSB.out)).trans HSB.out
      have hCC : wr.heap[C]? = some (.cells #[.func (.func 65) #[] #[]] 96 (0, 0)) := (HBr.out.block _ (lt_of_row HX.out)).trans HX.out
      have hrk := reckon_add l so c C wr (HS.out.tms HBw.out) (by rw [HL.out]; unfold maxLen; omega) HK.out H1.out H2.out hCC
      rw [HL.out] at hrk
      obtain ⟨s0, s1, s2, s3, s4, s5, s6, s7, s8⟩ := term_cells hSBr
      clear hSBr hCC HSf
      go_wp2_with (first | (go_at_call 137; refine hrk.mono ?_; rintro e w5 ⟨rfl, hb5⟩; have hT := hTB.below hb5) | (refine wpList_store_row rfl 28 _ _ rfl (w.heap.size + 1) _ rfl rfl 28 _ hT.1 (by kernel_rfl) rfl (by simp [Value.oneCell']) ?_) | (refine wpList_store_row rfl 34 _ _ rfl (w.heap.size + 2) _ rfl rfl 34 _ (two_other hT (by omega) _) (by kernel_rfl) rfl (by simp [Value.oneCell']) ?_) | fail)
      obtain ⟨q1, q2, q3⟩ := two_set hT (by omega) (HB.out.trans ((below_next HBw.out hb5).mono HB.out.size)) (by omega) (by omega) #[.int .i64 1, .int .i64 3, .int .i64 0, .string ⟨#[]⟩, .string ⟨#[]⟩, .int .i64 0, .slice none 0 0, .string ⟨#[]⟩, .int .i64 0] zRow10
      refine bodyPost_ret (results_two_rows rfl _ _ _ (w.heap.size + 1) (w.heap.size + 2) _ _ _ _ _ _ _ _ rfl q1 rfl q2 Tryz.underlying28 (by kernel_rfl) Tryz.underlying34 (by kernel_rfl)) rfl ?_
      exact ⟨rfl, q3⟩
set_option maxRecDepth 100000 in
set_option maxHeartbeats 8000000 in
theorem apply_div (l : List Tm) (so : Option Addr) (c : Nat) (w : World) (hs : SlAt w 9 (TmAt w 1) so l) (hl : l.length = 2) (hk : ∀ t ∈ l, t.kind = 1) (hv : ∀ t ∈ l, validF 1 t = true) (hc : ∀ t ∈ l, capF 1 t ≤ 1000) (h1 : firstI l l.length = 1) (h2 : lastI l l.length = 0) :
    Calls Tryz.prog 19 #[zeroV, .string ⟨#[100, 105, 118]⟩, .slice so l.length c] w fun e w' => e = .returned (.tuple #[zeroV, failV ⟨#[98, 97, 100, 97, 114, 105, 116, 104]⟩]) ∧ Below w.heap.size w w' := by
  have HT := Lib.hid (two_newP w (.cells zRow9 28)); have HB := Lib.hid (two_belowP w (.cells zRow9 28))
  have hSB : (((w.alloc (.cells zRow9 28)).alloc (.cells zRow9 28)).alloc (.cells zRow10 34)).heap[w.heap.size]? = some (.cells zRow9 28 (0, 0)) := by
    rw [Below.heap_alloc _ _ _ (by simp; omega), Below.heap_alloc _ _ _ (by simp)]; exact heap_alloc_new _ _
  have HSB := Lib.hid hSB
  have HS := Lib.hid (hs.tms HB.out); have HK := Lib.hid hk; have HV := Lib.hid hv; have HCp := Lib.hid hc
  have H1 := Lib.hid h1; have H2 := Lib.hid h2; have HL := Lib.hid hl
  have HCn := Tryz.strings_Contains_one ⟨#[100, 105, 118]⟩ 47
  rw [decide_eq_false (by decide)] at HCn
  have hn1 := neq_fn; have hn2 := eql_fn
  have KY := keyS [100, 105, 118] (by decide)
  rw [hl]
  clear hs hk hv hc h1 h2 hl hSB
  go_enter Tryz.func19, Tryz.ntmps19
  generalize hW : ((w.alloc (.cells zRow9 28)).alloc (.cells zRow9 28)).alloc (.cells zRow10 34) = W at *
  go_upto_region 20 with (first | (go_at_call 20; refine (HCn _).mono ?_; rintro e w0 ⟨rfl, rfl⟩) | (go_at_call 22; refine (text_any 2 _ (by unfold I64; omega)).mono ?_; rintro e w1 ⟨rfl, hb1⟩) | (go_at_call 40; refine (operators_any _).mono ?_; rintro e w2 ⟨rfl, hO⟩) | (at_lookup; refine wpList_look_is rfl _ _ 71 9 70 rfl opLaw Tryz.underlying71 (zeroF _) rfl hO.map _ [100, 105, 118] rfl KY (v := .func (.func 137) #[] #[.pointer (some ⟨w1.heap.size + 4, 0, none⟩)]) rfl ?_) | fail)
  have HB2 := Lib.hid (below_next hb1 hO.below)
  have HX := Lib.hid (hO.box 3 (by decide) (by decide))
  rw [show w1.heap.size + 1 + 3 = w1.heap.size + 4 by omega] at HX
  clear hO hb1 HCn KY hn1 hn2
  generalize w1.heap.size + 4 = C at *
  have HSf := Lib.hid (fun wx (hx : Below w0.heap.size w0 wx) => reckon_div l so c C wx)
  go_wp2_with fail
  go_loopw [66] (fun vk wr => ∃ j : Nat, j ≤ 2 ∧ vk = .int .i64 j ∧ Hid (Below w2.heap.size w2 wr)) (fun vk _ => 2 - (intOf vk).toNat)
  case atStart => exact ⟨0, by omega, rfl, Lib.hid (Below.refl _ _)⟩
  case round =>
    obtain ⟨j, hj, rfl, HBr⟩ := hrel
    rename World => wr
    by_cases hlt : j < 2
    · have hlt2 : j < l.length := by have := HL.out; omega
      have HBw := Lib.hid (below_next HB2.out HBr.out)
      obtain ⟨b, off, ai, c', hao, hb, q0, q1, q2, q3, q4, q5, q6, q7, q8, hit, hok⟩ := (HS.out.tms HBw.out).tm hlt2
      subst hao
      have hmem := List.getElem_mem hlt2
      have hva := HV.out _ hmem
      have hcp := HCp.out _ hmem
      generalize l[j] = t at *
      have hvd : Calls Tryz.prog 43 #[.agg #[.int .i64 t.kind, .int .i64 t.int, .int .i64 t.gen, .string t.name, .string t.func, .int .i64 t.arity, .slice ai t.items.length c', .string t.bytes, .int .i64 t.bits]] (wr.alloc (.cells #[.int .i64 t.kind, .int .i64 t.int, .int .i64 t.gen, .string t.name, .string t.func, .int .i64 t.arity, .slice ai t.items.length c', .string t.bytes, .int .i64 t.bits] 28)) fun e w' => e = .returned (.bool true) ∧ Below wr.heap.size wr w' :=
        (tvalid_any 0 t ai c' _ (hit.tms ((Below.refl _ _).alloc (Nat.le_refl _) _)) hok (by have : capF (0 + 1) t = capF 1 t := rfl; omega)).mono fun e w' h => ⟨by rw [h.1, hva], ((Below.refl _ _).alloc (Nat.le_refl _) _).trans (h.2.mono (by simp))⟩
      clear hit hok hva hcp hmem HSf
      go_wp2_with (first | (go_at_call 43; refine hvd.mono ?_; rintro e w5 ⟨rfl, hb5⟩) | fail)
      go_roundw
      case rel => exact ⟨j + 1, by omega, by go_num, Lib.hid (below_next HBr.out hb5)⟩
      case measure => simp [intOf]; omega
    · obtain rfl : j = 2 := by omega
      have HBw := Lib.hid (below_next HB2.out HBr.out)
      have hTB := HT.out.below HBw.out
      have hSBr := (HBw.out.block _ (lt_of_row HSB.out)).trans HSB.out
      have hCC : wr.heap[C]? = some (.cells #[.func (.func 68) #[] #[]] 96 (0, 0)) := (HBr.out.block _ (lt_of_row HX.out)).trans HX.out
      have hrk := reckon_div l so c C wr (HS.out.tms HBw.out) (by rw [HL.out]; unfold maxLen; omega) HK.out H1.out H2.out hCC
      rw [HL.out] at hrk
      obtain ⟨s0, s1, s2, s3, s4, s5, s6, s7, s8⟩ := term_cells hSBr
      clear hSBr hCC HSf
      go_wp2_with (first | (go_at_call 137; refine hrk.mono ?_; rintro e w5 ⟨rfl, hb5⟩; have hT := hTB.below hb5) | (refine wpList_store_row rfl 28 _ _ rfl (w.heap.size + 1) _ rfl rfl 28 _ hT.1 (by kernel_rfl) rfl (by simp [Value.oneCell']) ?_) | (refine wpList_store_row rfl 34 _ _ rfl (w.heap.size + 2) _ rfl rfl 34 _ (two_other hT (by omega) _) (by kernel_rfl) rfl (by simp [Value.oneCell']) ?_) | fail)
      obtain ⟨q1, q2, q3⟩ := two_set hT (by omega) (HB.out.trans ((below_next HBw.out hb5).mono HB.out.size)) (by omega) (by omega) zRow9 #[.string ⟨#[101, 114, 114, 111, 114]⟩, .int .i64 2, .int .i64 0, .int .i64 0, .string ⟨#[98, 97, 100, 97, 114, 105, 116, 104]⟩, .string ⟨#[]⟩, .int .i64 0, .slice none 0 0, .string ⟨#[]⟩, .int .i64 0]
      refine bodyPost_ret (results_two_rows rfl _ _ _ (w.heap.size + 1) (w.heap.size + 2) _ _ _ _ _ _ _ _ rfl q1 rfl q2 Tryz.underlying28 (by kernel_rfl) Tryz.underlying34 (by kernel_rfl)) rfl ?_
      exact ⟨rfl, q3⟩
end Go.Proofs.YthmpobimmbmddaaGreatDoor
