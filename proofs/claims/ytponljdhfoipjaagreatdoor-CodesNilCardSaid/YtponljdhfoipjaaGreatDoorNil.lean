/-
  What CodesNil wants beyond what stands in the texts below: joined by a program.
-/
import Derived.Test.YtponljdhfoipjaaGreatDoorW01
import Derived.Test.YtponljdhfoipjaaGreatDoorW02
import Derived.Test.YtponljdhfoipjaaGreatDoorW03
import Derived.Test.YtponljdhfoipjaaGreatDoorW04
import Derived.Test.YtponljdhfoipjaaGreatDoorW05
import Derived.Test.YtponljdhfoipjaaGreatDoorW06
import Derived.Test.YtponljdhfoipjaaGreatDoorW07
import Derived.Test.YtponljdhfoipjaaGreatDoorW08
import Derived.Test.YtponljdhfoipjaaGreatDoorW09
import Derived.Test.YtponljdhfoipjaaGreatDoorW10
import Derived.Test.YtponljdhfoipjaaGreatDoorW11
import Derived.Test.YtponljdhfoipjaaGreatDoorW12
import Derived.Test.YtponljdhfoipjaaGreatDoorW13
import Derived.Test.YtponljdhfoipjaaGreatDoorW14
import Derived.Test.YtponljdhfoipjaaGreatDoorW15
import Derived.Test.YtponljdhfoipjaaGreatDoorW16
import Derived.Deep.Cut
namespace Go.Proofs.YtponljdhfoipjaaGreatDoor
section
open Go.RowKit
set_option linter.unusedVariables false
def leftL (rec : List Tm → Int → Int) : List Tm → Int → Int
  | [], m => m
  | t :: l, m => if m < 0 then m else
    if m < t.name.size ∨ m < t.func.size ∨ m < t.bytes.size then -1 else
      leftL rec l (rec t.items (m - 1 - t.name.size / 8 - t.func.size / 8 - t.bytes.size / 8))
def leftF : Nat → List Tm → Int → Int
  | 0, _, m => m
  | f + 1, l, m => leftL (leftF f) l m
theorem leftL_le {rec : List Tm → Int → Int} (h : ∀ l m, -1 ≤ m → -1 ≤ rec l m ∧ rec l m ≤ m) : ∀ (l : List Tm) (m : Int), -1 ≤ m → -1 ≤ leftL rec l m ∧ leftL rec l m ≤ m
  | [], m, hm => ⟨hm, Int.le_refl _⟩
  | t :: l, m, hm => by
    unfold leftL
    split
    · exact ⟨hm, Int.le_refl _⟩
    · split
      · omega
      · have h1 := h t.items (m - 1 - t.name.size / 8 - t.func.size / 8 - t.bytes.size / 8) (by omega)
        have := leftL_le h l _ h1.1
        omega
theorem leftF_le : ∀ (f : Nat) (l : List Tm) (m : Int), -1 ≤ m → -1 ≤ leftF f l m ∧ leftF f l m ≤ m
  | 0, _, _, hm => ⟨hm, Int.le_refl _⟩
  | f + 1, l, m, hm => leftL_le (leftF_le f) l m hm
/-- The rounds of the loop: what is left of the list, and of the number. -/
theorem leftL_stop {rec : List Tm → Int → Int} {l : List Tm} {m : Int} (h : l = [] ∨ m < 0) : leftL rec l m = m := by
  rcases h with rfl | h
  · rfl
  · cases l with
    | nil => rfl
    | cons t l => unfold leftL; rw [if_pos h]
theorem drop_stepN {α : Type} {l : List α} {k : Nat} (h : k < l.length) : l.drop k = l[k] :: l.drop (k + 1) := List.drop_eq_getElem_cons h
theorem leftL_long {rec : List Tm → Int → Int} {l : List Tm} {k : Nat} (h : k < l.length) {m : Int} (h0 : 0 ≤ m) (hl : m < l[k].name.size ∨ m < l[k].func.size ∨ m < l[k].bytes.size) : leftL rec (l.drop k) m = -1 := by
  rw [drop_stepN h, leftL, if_neg (by omega), if_pos hl]
theorem leftL_next {rec : List Tm → Int → Int} {l : List Tm} {k : Nat} (h : k < l.length) {m : Int} (h0 : 0 ≤ m) (hl : ¬ (m < l[k].name.size ∨ m < l[k].func.size ∨ m < l[k].bytes.size)) :
    leftL rec (l.drop k) m = leftL rec (l.drop (k + 1)) (rec l[k].items (m - 1 - l[k].name.size / 8 - l[k].func.size / 8 - l[k].bytes.size / 8)) := by
  rw [drop_stepN h, leftL, if_neg (by omega), if_neg hl]

section
variable {H : Type} {enc : TypeId × Value → H} {P : Program} {w : World} {base : Nat} {spare : Nat → Bool} {held : Bool}
theorem i64_ofN {n : Int} (h : (Lit.int .i64 n).wf = true) : I64 n := by
  simp [Lit.wf, IntKind.min, IntKind.max, IntKind.bits, IntKind.signed] at h; unfold I64; omega
theorem open_i64 {t : TypeId} {fuel : Nat} {cs : List Value} {x : DataW H × List MemPlace} (ht : P.underlying t = some (.int .i64)) (h : DataW.trod enc P w base spare held fuel t cs = some x) : ∃ n, cs = [.int .i64 n] ∧ I64 n := by
  obtain ⟨n, e, _, hw⟩ := DataW.trod_int ht h
  exact ⟨n, e, i64_ofN hw⟩
theorem open_str {t : TypeId} {fuel : Nat} {cs : List Value} {x : DataW H × List MemPlace} (ht : P.underlying t = some .string) (h : DataW.trod enc P w base spare held fuel t cs = some x) : ∃ s, cs = [.string s] ∧ s.size ≤ maxLen := by
  obtain ⟨n, e, _, hw⟩ := DataW.trod_string ht h
  exact ⟨n, e, hw⟩
end
end
section
open Go.RowKit Go.Maps Go.WideMaps
set_option linter.unusedVariables false
set_option linter.unusedSimpArgs false
set_option maxRecDepth 100000
set_option maxHeartbeats 4000000 in
theorem svmade_nil (w : World) : Calls Tryz.prog 19 #[.pointer none] w fun e w' => e = .returned (.bool false) ∧ w' = w := by
  go_in
  go_wp2_with fail
  go_ret
  exact ⟨rfl, rfl⟩
set_option maxHeartbeats 4000000 in
theorem svfind_nil (x : ByteArray) (w : World) : Calls Tryz.prog 24 #[.pointer none, .string x] w (FindQ none none 0 w) := by
  have hb := (Below.refl w.heap.size w).alloc (Nat.le_refl _) (.cells #[.pointer none, .pointer none, .int .i64 0] 64)
  have hr := heap_alloc_new w (.cells #[.pointer none, .pointer none, .int .i64 0] 64)
  have HB := Lib.hid hb; have HR := Lib.hid hr
  clear hb hr
  go_in
  go_upto_region 1 with fail
  generalize w.alloc _ = W at *
  go_wp2_with (first | (go_at_call 19; refine (svmade_nil W).mono ?_; rintro e w1 ⟨rfl, rfl⟩) | (refine wpList_store_row rfl 64 _ _ rfl w.heap.size _ rfl rfl 64 _ HR.out (by kernel_rfl) rfl (by simp [Value.oneCell']) ?_) | fail)
  refine bodyPost_ret (results_cell_row rfl _ _ w.heap.size _ _ _ _ rfl (setRow_heap _ _ _ _ _ _ HR.out) Tryz.underlying64 rfl (by kernel_rfl)) rfl ?_
  exact ⟨rfl, below_setRow HB.out (Nat.le_refl _) _⟩
set_option maxHeartbeats 4000000 in
theorem finds_nil (x : ByteArray) (w : World) : Finds none x none none 0 w := fun wx _ => svfind_nil x wx
set_option maxHeartbeats 4000000 in
theorem svold_none (p : Option Addr) (x : ByteArray) (c : Option Addr) (g : Int) (w : World) (h : Finds p x c none g w) :
    Calls Tryz.prog 10 #[.pointer p, .string x] w fun e w' => e = .returned (.tuple #[.int .i64 0, .bool false]) ∧ Below w.heap.size w w' := by
  have HF := Lib.hid (h _ (Below.refl _ _))
  clear h
  go_in
  go_upto_region 2 with (first | (go_at_call 24; refine HF.out.mono ?_; rintro e w1 ⟨rfl, hb1⟩) | fail)
  have hn := heap_alloc_new w1 (.cells #[.pointer c, .pointer none, .int .i64 g] 64)
  have HB := Lib.hid (hb1.alloc hb1.size (.cells #[.pointer c, .pointer none, .int .i64 g] 64))
  generalize w1.alloc _ = W at *
  have r1 := cell_of_row _ _ 1 _ _ _ hn
  clear hb1 hn
  go_wp2_with fail
  go_ret2
  exact ⟨rfl, HB.out⟩
set_option maxHeartbeats 4000000 in
theorem svfindf_nil (x f : ByteArray) (a : Int) (w : World) : Calls Tryz.prog 8 #[.pointer none, .string x, .string f, .int .i64 a] w fun e w' => e = .returned (.tuple #[.pointer none, .int .i64 0, .int .i64 1]) ∧ Below w.heap.size w w' := by
  go_in
  go_wp2_with (first | (go_at_call 19; refine (svmade_nil _).mono ?_; rintro e w1 ⟨rfl, rfl⟩) | fail)
  go_ret3
  exact ⟨rfl, Below.refl _ _⟩
set_option maxHeartbeats 4000000 in
theorem svfun_nil (t : Tm) (so : Option Addr) (sc : Nat) (w : World) : Calls Tryz.prog 13 #[.pointer none, .agg #[.int .i64 t.kind, .int .i64 t.int, .int .i64 t.gen, .string t.name, .string t.func, .int .i64 t.arity, .slice so t.items.length sc, .string t.bytes, .int .i64 t.bits]] w fun e w' => e = .returned (.tuple #[.pointer none, .int .i64 0, .int .i64 1]) ∧ Below w.heap.size w w' := by
  have HB := Lib.hid ((Below.refl w.heap.size w).alloc (Nat.le_refl _) (.cells #[.int .i64 t.kind, .int .i64 t.int, .int .i64 t.gen, .string t.name, .string t.func, .int .i64 t.arity, .slice so t.items.length sc, .string t.bytes, .int .i64 t.bits] 44))
  go_in
  go_wp2_with (first | (go_at_call 19; refine (svmade_nil _).mono ?_; rintro e w1 ⟨rfl, rfl⟩) | fail)
  go_ret3
  exact ⟨rfl, HB.out⟩
set_option maxHeartbeats 4000000 in
theorem svpurge_nil (x : ByteArray) (w : World) : Calls Tryz.prog 11 #[.pointer none, .string x] w fun e w' => e = .returned (.int .i64 1) ∧ Below w.heap.size w w' := by
  go_in
  go_wp2_with (first | (go_at_call 19; refine (svmade_nil _).mono ?_; rintro e w1 ⟨rfl, rfl⟩) | fail)
  go_ret
  exact ⟨rfl, Below.refl _ _⟩
end

end Go.Proofs.YtponljdhfoipjaaGreatDoor
namespace Go.Proofs.YtponljdhfoipjaaGreatDoor
section
open Go.RowKit
set_option linter.unusedVariables false
set_option linter.unusedSimpArgs false

set_option maxRecDepth 100000 in
set_option maxHeartbeats 4000000 in
theorem left_any : ∀ (f : Nat) (ao : Option Addr) (c : Nat) (l : List Tm) (m : Int) (w : World), SlAt w 9 (TmAt w f) ao l → l.length ≤ maxLen → -1 ≤ m → m ≤ 1000000 →
    Calls Tryz.prog 34 #[.slice ao l.length c, .int .i64 m] w fun e w' => e = .returned (.int .i64 (leftF f l m)) ∧ Below w.heap.size w w'
  | 0, ao, c, l, m, w, h, hl, h0, h1 => by
    obtain rfl := h.zero
    have HE : Hid (leftF 0 [] m = m) := Lib.hid rfl
    go_enter Tryz.func34, Tryz.ntmps34
    go_wp2_with fail
    go_loop [1, 5] (fun mv i => mv = .int .i64 m ∧ i = .int .i64 0) (fun _ _ => 0)
    case atStart => exact ⟨rfl, rfl⟩
    case round =>
      obtain ⟨rfl, rfl⟩ := hrel
      go_wp2_with fail
      go_ret
      exact ⟨ret1 HE.out.symm, Below.refl _ _⟩
  | f + 1, ao, c, l, m, w, h, hl, h0, h1 => by
    have IH := Lib.hid (left_any f)
    have HS := Lib.hid h
    have HV : Hid (leftF (f + 1) l m = leftL (leftF f) l m) := Lib.hid rfl
    have HM := Lib.hid (leftF_le f)
    clear h
    unfold maxLen at hl
    go_enter Tryz.func34, Tryz.ntmps34
    go_wp2_with fail
    go_loopw [1, 5] (fun mv i wr => ∃ (k : Nat) (m' : Int), k ≤ l.length ∧ i = .int .i64 k ∧ mv = .int .i64 m' ∧ -1 ≤ m' ∧ m' ≤ 1000000 ∧ Hid (leftL (leftF f) l m = leftL (leftF f) (l.drop k) m') ∧ Below w.heap.size w wr) (fun _ i _ => l.length - (intOf i).toNat)
    case atStart => exact ⟨0, m, Nat.zero_le _, rfl, rfl, h0, h1, Lib.hid rfl, Below.refl _ _⟩
    case round =>
      obtain ⟨k, m', hk, rfl, rfl, g0, g1, HG, hB⟩ := hrel
      rename World => wr
      by_cases hlt : k < l.length
      · by_cases hm : 0 ≤ m'
        · have hs2 := HS.out.tms hB
          obtain ⟨b, off, ai, ci, hao, hb, q0, q1, q2, q3, q4, q5, q6, q7, q8, hit, hok⟩ := hs2.tm hlt
          subst hao
          have hlong := leftL_long (rec := leftF f) hlt hm
          have hnext := leftL_next (rec := leftF f) hlt hm
          have HL1 := Lib.hid hlong; have HL2 := Lib.hid hnext; clear hlong hnext hs2
          obtain ⟨_, _, _, o3, o4, _, o6, o7, _⟩ := hok
          unfold maxLen at o3 o4 o6 o7
          generalize l[k] = t at *
          have HIT := Lib.hid hit; clear hit
          by_cases c1 : m' < t.name.size
          · have E : Hid (leftF (f + 1) l m = -1) := Lib.hid (by rw [HV.out, HG.out, HL1.out (.inl c1)])
            go_wp2_with fail
            all_goals go_ret
            all_goals exact ⟨ret1 E.out.symm, hB.alloc hB.size _⟩
          · by_cases c2 : m' < t.func.size
            · have E : Hid (leftF (f + 1) l m = -1) := Lib.hid (by rw [HV.out, HG.out, HL1.out (.inr (.inl c2))])
              go_wp2_with fail
              all_goals go_ret
              all_goals exact ⟨ret1 E.out.symm, hB.alloc hB.size _⟩
            · by_cases c3 : m' < t.bytes.size
              · have E : Hid (leftF (f + 1) l m = -1) := Lib.hid (by rw [HV.out, HG.out, HL1.out (.inr (.inr c3))])
                go_wp2_with fail
                all_goals go_ret
                all_goals exact ⟨ret1 E.out.symm, hB.alloc hB.size _⟩
              · have E := Lib.hid (HL2.out (by omega))
                have hBa := hB.alloc hB.size (.cells #[.int .i64 t.kind, .int .i64 t.int, .int .i64 t.gen, .string t.name, .string t.func, .int .i64 t.arity, .slice ai t.items.length ci, .string t.bytes, .int .i64 t.bits] 44)
                have HIT2 := Lib.hid (SlAt.tms HIT.out ((Below.refl wr.heap.size wr).alloc (Nat.le_refl _) (.cells #[.int .i64 t.kind, .int .i64 t.int, .int .i64 t.gen, .string t.name, .string t.func, .int .i64 t.arity, .slice ai t.items.length ci, .string t.bytes, .int .i64 t.bits] 44)))
                have HM2 := HM.out t.items (m' - 1 - t.name.size / 8 - t.func.size / 8 - t.bytes.size / 8) (by omega)
                generalize hn1 : leftF f t.items (m' - 1 - t.name.size / 8 - t.func.size / 8 - t.bytes.size / 8) = n1 at *
                have HN1 := Lib.hid hn1; clear hn1
                go_wp2_with fail
                refine (IH.out ai ci t.items _ _ HIT2.out (by unfold maxLen; omega) (by omega) (by omega)).mono ?_
                rintro e w5 ⟨rfl, hb5⟩
                rw [HN1.out]
                go_wp2_with fail
                go_roundw
                case rel => exact ⟨k + 1, n1, by omega, by go_num, rfl, by omega, by omega, Lib.hid (by rw [HG.out, E.out]), below_next hBa hb5⟩
                case measure => simp [intOf]; omega
        · have E : Hid (leftF (f + 1) l m = m') := Lib.hid (by rw [HV.out, HG.out, leftL_stop (.inr (by omega))])
          go_wp2_with fail
          go_ret
          exact ⟨ret1 E.out.symm, hB⟩
      · have E : Hid (leftF (f + 1) l m = m') := Lib.hid (by rw [HV.out, HG.out, leftL_stop (.inl (by rw [List.drop_eq_nil_iff]; omega))])
        go_wp2_with fail
        go_ret
        exact ⟨ret1 E.out.symm, hB⟩

theorem great_any (f : Nat) (ao : Option Addr) (c : Nat) (l : List Tm) (m : Int) (w : World) (h : SlAt w 9 (TmAt w f) ao l) (hl : l.length ≤ maxLen) (h0 : -1 ≤ m) (h1 : m ≤ 1000000) :
    Calls Tryz.prog 28 #[.slice ao l.length c, .int .i64 m] w fun e w' => e = .returned (.bool (decide (leftF f l m < 0))) ∧ Below w.heap.size w w' := by
  have hc := left_any f ao c l m w h hl h0 h1
  have hle := leftF_le f l m h0
  generalize leftF f l m = n at *
  go_enter Tryz.func28, Tryz.ntmps28
  go_wp2_with fail
  refine hc.mono ?_
  rintro e w1 ⟨rfl, hb1⟩
  go_wp2_with fail
  go_ret
  exact ⟨rfl, hb1⟩
end
end Go.Proofs.YtponljdhfoipjaaGreatDoor
namespace Go.Proofs.YtponljdhfoipjaaGreatDoor
section
open Go.RowKit
set_option linter.unusedVariables false
set_option linter.unusedSimpArgs false

def SomeB (w : World) (e : Ending) (w' : World) : Prop := ∃ b, e = .returned (.bool b) ∧ Below w.heap.size w w'
set_option maxRecDepth 100000 in
set_option maxHeartbeats 4000000 in
theorem svgreat_any (u : RUnit) (lo fo go co : Option Addr) (lc fc gc cc : Nat) (w : World) (h : UP w u lo fo go co) :
    Calls Tryz.prog 27 #[.agg #[.string u.mdl, .int .i64 u.vsn, .slice lo u.lits.length lc, .slice fo u.funcs.length fc, .slice go u.funs.length gc, .slice co u.code.length cc]] w (SomeB w) := by
  obtain ⟨f, hf⟩ := tms_depth h.lits
  have HF := Lib.hid hf; have HU := Lib.hid h
  clear hf
  have r1 := h.litsLen; have r2 := h.funcsLen; have r3 := h.funsLen; have r4 := h.codeLen
  clear h
  go_in
  go_upto_region 1 with fail
  have hbx := ubox_new w u lo fo go co lc fc gc cc
  have hba : Below w.heap.size w (w.alloc (.cells #[.string u.mdl, .int .i64 u.vsn, .slice lo u.lits.length lc, .slice fo u.funcs.length fc, .slice go u.funs.length gc, .slice co u.code.length cc] 31)) := (Below.refl _ _).alloc (Nat.le_refl _) _
  generalize w.alloc (.cells #[.string u.mdl, .int .i64 u.vsn, .slice lo u.lits.length lc, .slice fo u.funcs.length fc, .slice go u.funs.length gc, .slice co u.code.length cc] 31) = Wa at *
  have HUa := Lib.hid (HU.out.below hba)
  have HBA := Lib.hid hba
  generalize hN : w.heap.size = B at hbx ⊢
  have HBX := Lib.hid hbx
  have HSB := Lib.hid HBA.out.size
  have b2 := hbx.c2; have b3 := hbx.c3; have b4 := hbx.c4; have b5 := hbx.c5
  clear hbx hba
  go_wp2_with fail
  clear b2 b3 b4 b5
  go_loopw [3, 4] (fun nv iv wr => ∃ (k : Nat) (z : Int), k ≤ u.code.length ∧ iv = .int .i64 k ∧ nv = .int .i64 z ∧ Hid (Below Wa.heap.size Wa wr)) (fun _ iv _ => u.code.length - (intOf iv).toNat)
  case atStart => exact ⟨0, _, Nat.zero_le _, rfl, rfl, Lib.hid (Below.refl _ _)⟩
  case round =>
    obtain ⟨k, z, hk, rfl, rfl, HB⟩ := hrel
    rename World => wr
    have hbw := HBX.out.below HB.out
    have b2 := hbw.c2; have b3 := hbw.c3; have b4 := hbw.c4; have b5 := hbw.c5
    clear hbw
    by_cases hgo : k < u.code.length ∧ k < 600
    · obtain ⟨hlt, h6⟩ := hgo
      have t1 : decide ((k : Int) < (u.code.length : Int)) = true := decide_eq_true (by omega)
      have t2 : decide ((k : Int) < 600) = true := decide_eq_true (by omega)
      obtain ⟨b, off, so, sc, co', cc', go', gc', hao, hb, q0, q1, q2, q3, q4, q5, q6, q7, q8, q9, _, _, _, _, _, _, s1, _, _, _, _, s2, s3⟩ := (HUa.out.below HB.out).code.ins hlt
      subst hao
      unfold maxLen at s1 s2 s3
      generalize u.code[k] = x at *
      have hbn : Below wr.heap.size wr (wr.alloc (.cells #[.int .i64 x.op, .int .i64 x.dst.kind, .int .i64 x.dst.n, .slice so x.src.length sc, .int .i64 x.to, .int .i64 x.n, .int .i64 x.live, .string x.name, .slice co' x.cases.length cc', .slice go' x.segs.length gc'] 73)) := (Below.refl _ _).alloc (Nat.le_refl _) _
      have HBN := Lib.hid (HB.out.trans (hbn.mono HB.out.size))
      clear hbn
      by_cases h24 : x.op = 24
      · by_cases h0 : 5000 < x.n
        · have t3 : (x.op == 24) = true := by rw [h24]; rfl
          have t4 : decide (5000 < x.n) = true := decide_eq_true h0
          clear h24
          go_wp2_with fail
          all_goals go_ret
          all_goals exact ⟨true, rfl, HBA.out.trans (HBN.out.mono HSB.out)⟩
        · have t3 : (x.op == 24) = true := by rw [h24]; rfl
          have t4 : decide (5000 < x.n) = false := decide_eq_false h0
          clear h24
          go_wp2_with fail
          go_roundw
          case rel => exact ⟨k + 1, _, by omega, by go_num, rfl, HBN⟩
          case measure => simp [intOf]; omega
      · have t3 : (x.op == 24) = false := by simpa using h24
        go_wp2_with fail
        go_roundw
        case rel => exact ⟨k + 1, _, by omega, by go_num, rfl, HBN⟩
        case measure => simp [intOf]; omega
    · have HE : Hid (∀ (q : Bool) (wz : World), Below wr.heap.size wr wz → ∃ b, Ending.returned (.bool q) = .returned (.bool b) ∧ Below w.heap.size w wz) := Lib.hid fun q wz hz => ⟨q, rfl, HBA.out.trans ((HB.out.trans (hz.mono HB.out.size)).mono HSB.out)⟩
      by_cases hlt : k < u.code.length
      · have t1 : decide ((k : Int) < (u.code.length : Int)) = true := decide_eq_true (by omega)
        have t2 : decide ((k : Int) < 600) = false := decide_eq_false (by omega)
        by_cases c0 : 600 < u.code.length
        · have d0 : decide ((600 : Int) < (u.code.length : Int)) = true := decide_eq_true (by omega)
          go_wp2_with fail
          all_goals go_ret
          all_goals exact HE.out _ _ (Below.refl _ _)
        · exfalso; omega
      · have t1 : decide ((k : Int) < (u.code.length : Int)) = false := decide_eq_false (by omega)
        by_cases c0 : 600 < u.code.length
        · have d0 : decide ((600 : Int) < (u.code.length : Int)) = true := decide_eq_true (by omega)
          go_wp2_with fail
          all_goals go_ret
          all_goals exact HE.out _ _ (Below.refl _ _)
        · have d0 : decide ((600 : Int) < (u.code.length : Int)) = false := decide_eq_false (by omega)
          by_cases c1 : 1500 < z
          · have d1 : decide (1500 < z) = true := decide_eq_true c1
            go_wp2_with fail
            all_goals go_ret
            all_goals exact HE.out _ _ (Below.refl _ _)
          · have d1 : decide (1500 < z) = false := decide_eq_false c1
            by_cases c2 : 100 < u.lits.length
            · have d2 : decide ((100 : Int) < (u.lits.length : Int)) = true := decide_eq_true (by omega)
              go_wp2_with fail
              all_goals go_ret
              all_goals exact HE.out _ _ (Below.refl _ _)
            · have d2 : decide ((100 : Int) < (u.lits.length : Int)) = false := decide_eq_false (by omega)
              have hG := great_any f lo lc u.lits 1000 wr ((HF.out.tms HBA.out).tms HB.out) (by unfold maxLen; omega) (by decide) (by decide)
              generalize decide (leftF f u.lits 1000 < 0) = q at *
              go_wp2_with fail
              refine hG.mono ?_
              rintro e w5 ⟨rfl, hb5⟩
              go_wp2_with fail
              go_ret
              exact HE.out _ _ hb5
end
end Go.Proofs.YtponljdhfoipjaaGreatDoor
namespace Go.Proofs.YtponljdhfoipjaaGreatDoor
section
open Go.RowKit
set_option linter.unusedVariables false
set_option linter.unusedSimpArgs false

/-- A call that came in. -/
structure OpA where
  what : Int
  u : RUnit
  lo : Option Addr
  lc : Nat
  fo : Option Addr
  fc : Nat
  go' : Option Addr
  gc : Nat
  co : Option Addr
  cc : Nat
  file : ByteArray
  mdl : ByteArray
  fn : ByteArray
  vsn : Int
  ar : Int
  t : Tm
  so : Option Addr
  sc : Nat
abbrev uRow (x : OpA) : Array Value := #[.string x.u.mdl, .int .i64 x.u.vsn, .slice x.lo x.u.lits.length x.lc, .slice x.fo x.u.funcs.length x.fc, .slice x.go' x.u.funs.length x.gc, .slice x.co x.u.code.length x.cc]
abbrev tRow (x : OpA) : Array Value := #[.int .i64 x.t.kind, .int .i64 x.t.int, .int .i64 x.t.gen, .string x.t.name, .string x.t.func, .int .i64 x.t.arity, .slice x.so x.t.items.length x.sc, .string x.t.bytes, .int .i64 x.t.bits]
abbrev opRow (x : OpA) : Array Value := #[.int .u8 x.what, .string x.u.mdl, .int .i64 x.u.vsn, .slice x.lo x.u.lits.length x.lc, .slice x.fo x.u.funcs.length x.fc, .slice x.go' x.u.funs.length x.gc, .slice x.co x.u.code.length x.cc, .string x.file, .string x.mdl, .string x.fn, .int .i64 x.vsn, .int .i64 x.ar, .int .i64 x.t.kind, .int .i64 x.t.int, .int .i64 x.t.gen, .string x.t.name, .string x.t.func, .int .i64 x.t.arity, .slice x.so x.t.items.length x.sc, .string x.t.bytes, .int .i64 x.t.bits]
/-- Its parts in memory. -/
structure OpOk (w : World) (x : OpA) : Prop where
  up : UP w x.u x.lo x.fo x.go' x.co
  tm : TmA w (tRow x).toList x.t
  file : x.file.size ≤ maxLen
theorem OpOk.below {w w' : World} {x : OpA} (h : OpOk w x) (hb : Below w.heap.size w w') : OpOk w' x := ⟨h.up.below hb, h.tm.below hb, h.file⟩
theorem op_cells {w : World} {b : Nat} {T : TypeId} {x : OpA} (h : w.heap[b]? = some (.cells (opRow x) T (0, 0))) : ∀ j, w.cell? ⟨b, j, none⟩ = (opRow x)[j]? := fun j => cell_of_row w b j _ _ _ h
set_option maxRecDepth 100000 in
set_option maxHeartbeats 4000000 in
theorem svlarge_one (x : OpA) (b : Nat) (c : Nat) (w : World) (h : OpOk w x) (hb : w.heap[b]? = some (.cells (opRow x) 47 (0, 0))) :
    Calls Tryz.prog 15 #[.slice (some ⟨b, 0, none⟩) 1 c] w (SomeB w) := by
  have HO := Lib.hid h; have HB := Lib.hid hb
  have HG := Lib.hid (svgreat_any x.u x.lo x.fo x.go' x.co x.lc x.fc x.gc x.cc w h.up)
  have hfl := h.file
  clear h hb
  go_in
  go_wp2_with fail
  go_loopw [3] (fun iv wr => ∃ k : Nat, k ≤ 1 ∧ iv = .int .i64 k ∧ Hid (Below w.heap.size w wr)) (fun iv _ => 1 - (intOf iv).toNat)
  case atStart => exact ⟨0, by omega, rfl, Lib.hid (Below.refl _ _)⟩
  case round =>
    obtain ⟨k, hk, rfl, HBr⟩ := hrel
    rename World => wr
    by_cases hlt : k < 1
    · obtain rfl : k = 0 := by omega
      have HR := Lib.hid ((HBr.out.block _ (lt_of_row HB.out)).trans HB.out)
      have HOr := Lib.hid (HO.out.below HBr.out)
      have HGr := Lib.hid (svgreat_any x.u x.lo x.fo x.go' x.co x.lc x.fc x.gc x.cc wr HOr.out.up)
      have c1 := op_cells HR.out 1; have c2 := op_cells HR.out 2; have c3 := op_cells HR.out 3; have c4 := op_cells HR.out 4; have c5 := op_cells HR.out 5; have c6 := op_cells HR.out 6
      go_wp2_with fail
      refine HGr.out.mono ?_
      rintro e w1 ⟨g, rfl, hb1⟩
      have HB1 := Lib.hid (below_next HBr.out hb1)
      have hr1 := (hb1.block _ (lt_of_row HR.out)).trans HR.out
      have HO1 := Lib.hid (HOr.out.below hb1)
      clear c1 c2 c3 c4 c5 c6 hb1
      have c7 : w1.cell? ⟨b, 7, none⟩ = some (.string x.file) := op_cells hr1 7
      have c12 : w1.cell? ⟨b, 12, none⟩ = some (.int .i64 x.t.kind) := op_cells hr1 12
      have c13 : w1.cell? ⟨b, 13, none⟩ = some (.int .i64 x.t.int) := op_cells hr1 13
      have c14 : w1.cell? ⟨b, 14, none⟩ = some (.int .i64 x.t.gen) := op_cells hr1 14
      have c15 : w1.cell? ⟨b, 15, none⟩ = some (.string x.t.name) := op_cells hr1 15
      have c16 : w1.cell? ⟨b, 16, none⟩ = some (.string x.t.func) := op_cells hr1 16
      have c17 : w1.cell? ⟨b, 17, none⟩ = some (.int .i64 x.t.arity) := op_cells hr1 17
      have c18 : w1.cell? ⟨b, 18, none⟩ = some (.slice x.so x.t.items.length x.sc) := op_cells hr1 18
      have c19 : w1.cell? ⟨b, 19, none⟩ = some (.string x.t.bytes) := op_cells hr1 19
      have c20 : w1.cell? ⟨b, 20, none⟩ = some (.int .i64 x.t.bits) := op_cells hr1 20
      clear hr1
      cases g with
      | true =>
        go_wp2_with fail
        all_goals go_ret
        all_goals exact ⟨true, rfl, HB1.out⟩
      | false =>
        unfold maxLen at hfl
        by_cases hf2 : 20000 < x.file.size
        · have d1 : decide ((20000 : Int) < (x.file.size : Int)) = true := decide_eq_true (by omega)
          go_wp2_with fail
          all_goals go_ret
          all_goals exact ⟨true, rfl, HB1.out⟩
        · have d1 : decide ((20000 : Int) < (x.file.size : Int)) = false := decide_eq_false (by omega)
          have hba : Below w1.heap.size w1 (w1.alloc (.cells (tRow x) 44)) := (Below.refl _ _).alloc (Nat.le_refl _) _
          obtain ⟨f, hf⟩ := HO1.out.tm.below hba
          have hsl : SlAt (w1.alloc (.cells (tRow x) 44)) 9 (TmAt (w1.alloc (.cells (tRow x) 44)) f) (some ⟨w1.heap.size, 0, none⟩) [x.t] := sl_rows (heap_alloc_new w1 (.cells (tRow x) 44)) ⟨_, [], rfl, rfl, hf, rfl⟩
          have HGT := Lib.hid (great_any f _ 1 [x.t] 1000 _ hsl (by show (1 : Nat) ≤ maxLen; unfold maxLen; decide) (by decide) (by decide))
          have HBA := Lib.hid (below_next HB1.out hba)
          clear hba hf hsl
          go_wp2_with fail
          refine HGT.out.mono ?_
          rintro e w2 ⟨rfl, hb2⟩
          have HB2 := Lib.hid (below_next HBA.out hb2)
          clear hb2 HGT HBA
          generalize decide (leftF f [x.t] 1000 < 0) = q at *
          cases q with
          | true =>
            go_wp2_with fail
            all_goals go_ret
            all_goals exact ⟨true, rfl, HB2.out⟩
          | false =>
            go_wp2_with fail
            go_roundw
            case rel => exact ⟨1, by omega, by go_num, HB2⟩
            case measure => simp [intOf]
    · obtain rfl : k = 1 := by omega
      go_wp2_with fail
      go_ret
      exact ⟨false, rfl, HBr.out⟩
end
end Go.Proofs.YtponljdhfoipjaaGreatDoor
namespace Go.Proofs.YtponljdhfoipjaaGreatDoor
section
open Go.RowKit
set_option linter.unusedVariables false
set_option linter.unusedSimpArgs false
set_option maxRecDepth 100000

theorem svloadfile_nil (b : ByteArray) (w : World) : Calls Tryz.prog 16 #[.pointer none, .string b] w fun e w' => e = .returned (.tuple #[.string ⟨#[]⟩, .int .i64 1]) ∧ w' = w := by
  go_in
  go_wp2_with (first | (go_at_call 19; refine (svmade_nil _).mono ?_; rintro e w1 ⟨rfl, rfl⟩) | fail)
  go_ret2
  exact ⟨rfl, rfl⟩
theorem svmodules_nil (w : World) : Calls Tryz.prog 18 #[.pointer none] w fun e w' => e = .returned (.slice none 0 0) ∧ w' = w := by
  go_in
  go_wp2_with (first | (go_at_call 19; refine (svmade_nil _).mono ?_; rintro e w1 ⟨rfl, rfl⟩) | fail)
  go_ret
  exact ⟨rfl, rfl⟩
theorem svload_nil (R : Array Value) (w : World) : Calls Tryz.prog 6 #[.pointer none, .agg R] w fun e w' => e = .returned (.int .i64 1) ∧ Below w.heap.size w w' := by
  have hb := (Below.refl w.heap.size w).alloc (Nat.le_refl _) (.cells R 31)
  have HB := Lib.hid hb
  clear hb
  go_in
  go_wp2_with (first | (go_at_call 19; refine (svmade_nil _).mono ?_; rintro e w1 ⟨rfl, rfl⟩) | fail)
  go_ret
  exact ⟨rfl, HB.out⟩
set_option maxHeartbeats 8000000 in
theorem svnil_walk (x : OpA) (w : World) (hx : OpOk w x) (hrows : RowsAt w) (hsp : SpaceAt w) : Calls Tryz.prog 4 #[.agg (opRow x)] w fun e w' => e = .returned (.bool true) ∧ Below w.heap.size w w' := by
  have HR := Lib.hid hrows; have HP := Lib.hid hsp; have HO := Lib.hid hx
  have hb := (Below.refl w.heap.size w).alloc (Nat.le_refl _) (.cells (opRow x) 47)
  have hn := heap_alloc_new w (.cells (opRow x) 47)
  have HB := Lib.hid hb; have HN := Lib.hid hn
  clear hrows hsp hx hb hn
  go_in
  go_upto_region 1 with fail
  generalize w.alloc _ = W at *
  have hb2 := (Below.refl W.heap.size W).alloc (Nat.le_refl _) (.cells (opRow x) 47)
  have hn2 := heap_alloc_new W (.cells (opRow x) 47)
  have hL := svlarge_one x W.heap.size 1 _ ((HO.out.below HB.out).below hb2) hn2
  have HL := Lib.hid hL; have HB2 := Lib.hid (HB.out.trans (hb2.mono HB.out.size))
  have HN2 := Lib.hid ((hb2.block _ (lt_of_row HN.out)).trans HN.out)
  have HOP : Hid ((Tryz.prog.info? 47).map (·.size) = some (opRow x).size) := Lib.hid (by kernel_rfl)
  clear hb2 hn2 hL
  go_upto_region 2 with (first | (refine wpList_load_row rfl 47 _ rfl w.heap.size rfl 47 (opRow x) _ _ HN.out Tryz.underlying47 rfl HOP.out ?_) | fail)
  refine HL.out.mono ?_
  rintro e w1 ⟨g, rfl, hb1⟩
  have hn1 := (hb1.block _ (lt_of_row HN2.out)).trans HN2.out
  have HB1 := Lib.hid (HB2.out.trans (hb1.mono HB2.out.size))
  have KC : Hid (∀ wx, Below w1.heap.size w1 wx → ∀ j, wx.cell? ⟨w.heap.size, j, none⟩ = (opRow x)[j]?) := Lib.hid fun wx hx => op_cells ((hx.block _ (lt_of_row hn1)).trans hn1)
  have HK1 := Lib.hid (Below.refl w1.heap.size w1)
  clear hn1 hb1 HL HN HN2 HOP
  cases g with
  | true =>
    go_wp2_with fail
    refine (svawake_any w1 (HR.out.below HB1.out) (HP.out.below HB1.out)).mono ?_
    rintro e wz ⟨rfl, hz⟩
    go_wp2_with fail
    go_ret
    exact ⟨rfl, below_next HB1.out hz⟩
  | false =>
    have c7 : w1.cell? ⟨w.heap.size, 7, none⟩ = some (.string x.file) := KC.out w1 HK1.out 7
    go_upto_region 5 with (first | (go_at_call 16; refine (svloadfile_nil _ _).mono ?_; rintro e wq ⟨rfl, eq⟩; rw [eq]; clear eq wq) | fail)
    clear c7
    have c8 : w1.cell? ⟨w.heap.size, 8, none⟩ = some (.string x.mdl) := KC.out w1 HK1.out 8
    go_upto_region 6 with (first | (go_at_call 17; refine (svcurrent_any none x.mdl none none 0 w1 (finds_nil _ _)).mono ?_; rintro e w2 ⟨rfl, hb⟩) | fail)
    have HK2 := Lib.hid (below_next HK1.out hb)
    clear hb
    clear c8
    have c8 : w2.cell? ⟨w.heap.size, 8, none⟩ = some (.string x.mdl) := KC.out w2 HK2.out 8
    have c10 : w2.cell? ⟨w.heap.size, 10, none⟩ = some (.int .i64 x.vsn) := KC.out w2 HK2.out 10
    go_upto_region 7 with (first | (go_at_call 12; refine (svversion_no none x.mdl none none 0 x.vsn w2 (finds_nil _ _) (NotV.none _ _) (NotV.none _ _)).mono ?_; rintro e w3 ⟨rfl, hb⟩) | fail)
    have HK3 := Lib.hid (below_next HK2.out hb)
    clear hb
    clear c8 c10
    have c8 : w3.cell? ⟨w.heap.size, 8, none⟩ = some (.string x.mdl) := KC.out w3 HK3.out 8
    go_upto_region 8 with (first | (go_at_call 10; refine (svold_none none x.mdl none 0 w3 (finds_nil _ _)).mono ?_; rintro e w4 ⟨rfl, hb⟩) | fail)
    have HK4 := Lib.hid (below_next HK3.out hb)
    clear hb
    clear c8
    have c8 : w4.cell? ⟨w.heap.size, 8, none⟩ = some (.string x.mdl) := KC.out w4 HK4.out 8
    have c9 : w4.cell? ⟨w.heap.size, 9, none⟩ = some (.string x.fn) := KC.out w4 HK4.out 9
    have c11 : w4.cell? ⟨w.heap.size, 11, none⟩ = some (.int .i64 x.ar) := KC.out w4 HK4.out 11
    go_upto_region 9 with (first | (go_at_call 8; refine (svfindf_nil x.mdl x.fn x.ar w4).mono ?_; rintro e w5 ⟨rfl, hb⟩) | fail)
    have HK5 := Lib.hid (below_next HK4.out hb)
    clear hb
    clear c8 c9 c11
    have c12 : w5.cell? ⟨w.heap.size, 12, none⟩ = some (.int .i64 x.t.kind) := KC.out w5 HK5.out 12
    have c13 : w5.cell? ⟨w.heap.size, 13, none⟩ = some (.int .i64 x.t.int) := KC.out w5 HK5.out 13
    have c14 : w5.cell? ⟨w.heap.size, 14, none⟩ = some (.int .i64 x.t.gen) := KC.out w5 HK5.out 14
    have c15 : w5.cell? ⟨w.heap.size, 15, none⟩ = some (.string x.t.name) := KC.out w5 HK5.out 15
    have c16 : w5.cell? ⟨w.heap.size, 16, none⟩ = some (.string x.t.func) := KC.out w5 HK5.out 16
    have c17 : w5.cell? ⟨w.heap.size, 17, none⟩ = some (.int .i64 x.t.arity) := KC.out w5 HK5.out 17
    have c18 : w5.cell? ⟨w.heap.size, 18, none⟩ = some (.slice x.so x.t.items.length x.sc) := KC.out w5 HK5.out 18
    have c19 : w5.cell? ⟨w.heap.size, 19, none⟩ = some (.string x.t.bytes) := KC.out w5 HK5.out 19
    have c20 : w5.cell? ⟨w.heap.size, 20, none⟩ = some (.int .i64 x.t.bits) := KC.out w5 HK5.out 20
    go_wp2_with (first | (go_at_call 13; refine (svfun_nil x.t x.so x.sc _).mono ?_; rintro e w6 ⟨rfl, hb⟩; have HK6 := Lib.hid (below_next HK5.out hb); clear hb; clear c12 c13 c14 c15 c16 c17 c18 c19 c20; have c1 : w6.cell? ⟨w.heap.size, 1, none⟩ = some (.string x.u.mdl) := KC.out w6 HK6.out 1; have c2 : w6.cell? ⟨w.heap.size, 2, none⟩ = some (.int .i64 x.u.vsn) := KC.out w6 HK6.out 2; have c3 : w6.cell? ⟨w.heap.size, 3, none⟩ = some (.slice x.lo x.u.lits.length x.lc) := KC.out w6 HK6.out 3; have c4 : w6.cell? ⟨w.heap.size, 4, none⟩ = some (.slice x.fo x.u.funcs.length x.fc) := KC.out w6 HK6.out 4; have c5 : w6.cell? ⟨w.heap.size, 5, none⟩ = some (.slice x.go' x.u.funs.length x.gc) := KC.out w6 HK6.out 5; have c6 : w6.cell? ⟨w.heap.size, 6, none⟩ = some (.slice x.co x.u.code.length x.cc) := KC.out w6 HK6.out 6) | (go_at_call 6; refine (svload_nil _ _).mono ?_; rintro e w7 ⟨rfl, hb⟩; have HK7 := Lib.hid (below_next HK6.out hb); clear hb; clear c1 c2 c3 c4 c5 c6; have c8 : w7.cell? ⟨w.heap.size, 8, none⟩ = some (.string x.mdl) := KC.out w7 HK7.out 8) | (go_at_call 11; refine (svpurge_nil x.mdl _).mono ?_; rintro e w8 ⟨rfl, hb⟩; have HK8 := Lib.hid (below_next HK7.out hb); clear hb; clear c8) | (go_at_call 18; refine (svmodules_nil _).mono ?_; rintro e wq ⟨rfl, eq⟩; rw [eq]; clear eq wq) | (go_at_call 14; refine (svawake_any w8 (HR.out.below (below_next HB1.out HK8.out)) (HP.out.below (below_next HB1.out HK8.out))).mono ?_; rintro e wz ⟨rfl, hz⟩) | fail)
    go_ret
    exact ⟨rfl, below_next (below_next HB1.out HK8.out) hz⟩
end
end Go.Proofs.YtponljdhfoipjaaGreatDoor
namespace Go.Proofs.YtponljdhfoipjaaGreatDoor
section
open Go.RowKit
set_option linter.unusedVariables false
set_option linter.unusedSimpArgs false

section
variable {H : Type} {enc : TypeId × Value → H} {P : Program} {w : World} {base : Nat} {spare : Nat → Bool} {held : Bool}
/-- Every string and slice in what was read is within the form's reach. -/
def Wt (P : Program) (t : TypeId) (d : DataW H) : Prop := (d.weights P t).all (· ≤ reachBytes) = true
theorem wt_each : ∀ (ts : List TypeId) (ds : List (DataW H)), (DataW.weightsEach P ts ds).all (· ≤ reachBytes) = true → ∀ (i : Nat) (t : TypeId) (d : DataW H), ts[i]? = some t → ds[i]? = some d → Wt P t d
  | [], _, _, i, t, d, h, _ => by simp at h
  | _ :: _, [], _, i, t, d, _, h => by simp at h
  | t0 :: ts, d0 :: ds, h, i, t, d, ht, hd => by
    unfold DataW.weightsEach at h
    rw [List.all_append, Bool.and_eq_true] at h
    cases i with
    | zero =>
      simp at ht hd
      subst ht; subst hd
      exact h.1
    | succ i => exact wt_each ts ds h.2 i t d (by simpa using ht) (by simpa using hd)
theorem wt_all (e : TypeId) : ∀ (ds : List (DataW H)), (DataW.weightsAll P e ds).all (· ≤ reachBytes) = true → ∀ d ∈ ds, Wt P e d
  | [], _, _, h => by cases h
  | d0 :: ds, h, d, hd => by
    unfold DataW.weightsAll at h
    rw [List.all_append, Bool.and_eq_true] at h
    rcases List.mem_cons.1 hd with rfl | hd
    · exact h.1
    · exact wt_all e ds h.2 d hd
theorem wt_first {t : TypeId} {ts : List TypeId} {d : DataW H} {ds : List (DataW H)} (h : (DataW.weightsEach P (t :: ts) (d :: ds)).all (· ≤ reachBytes) = true) : Wt P t d := wt_each _ _ h 0 t d rfl rfl
theorem open_field {t : TypeId} {fuel : Nat} {cs : List Value} {x : DataW H × List MemPlace} {fs : Array Field} (hS : P.underlying t = some (.struct fs)) (h : DataW.trod enc P w base spare held fuel t cs = some x) (hw : Wt P t x.1) :
    ∃ n, fuel = n + 1 ∧ cs.length = P.cellsOf t ∧ ∀ (i : Nat) (f : Field) (ty : TypeId) (o m : Nat), fs[i]? = some f → f.type = ty → f.offset = o → P.cellsOf ty = m → ∃ y, DataW.trod enc P w base spare held n ty ((cs.drop o).take m) = some y ∧ Wt P ty y.1 := by
  obtain ⟨xs, n, rfl, rfl, hl, hxl, hx⟩ := DataW.trod_struct hS h
  refine ⟨n, rfl, hl, fun i f ty o m hf e1 e2 e3 => ?_⟩
  have hi := hx i f hf
  have hil : i < xs.length := by rw [hxl]; exact (Array.getElem?_eq_some_iff.1 hf).1
  rw [List.getElem?_eq_getElem hil] at hi
  refine ⟨xs[i], by rw [← e1, ← e2, ← e3, ← e1]; exact hi, ?_⟩
  unfold Wt DataW.weights at hw
  simp only [hS] at hw
  refine wt_each _ _ hw i ty _ ?_ (by rw [List.getElem?_map, List.getElem?_eq_getElem hil]; rfl)
  rw [List.getElem?_map, ← e1]
  simp [hf]
theorem open_strw {t : TypeId} {fuel : Nat} {cs : List Value} {x : DataW H × List MemPlace} (ht : P.underlying t = some .string) (h : DataW.trod enc P w base spare held fuel t cs = some x) (hw : Wt P t x.1) : ∃ s, cs = [.string s] ∧ s.size ≤ 140737488351232 := by
  obtain ⟨s, e, rfl, hs⟩ := DataW.trod_string ht h
  refine ⟨s, e, ?_⟩
  unfold Wt DataW.weights at hw
  have h1 : s.data.toList.length ≤ reachBytes := of_decide_eq_true (List.all_eq_true.1 hw _ (List.mem_singleton.2 rfl))
  rw [Array.length_toList] at h1
  exact h1
theorem open_boolw {t : TypeId} {fuel : Nat} {cs : List Value} {x : DataW H × List MemPlace} (ht : P.underlying t = some .bool) (h : DataW.trod enc P w base spare held fuel t cs = some x) : ∃ b, cs = [.bool b] := by
  obtain ⟨b, e, _⟩ := DataW.trod_bool ht h
  exact ⟨b, e⟩
theorem open_slw {α : Type} {t e : TypeId} {size fuel : Nat} {cs : List Value} {x : DataW H × List MemPlace} (R : List Value → α → Prop) (ht : P.underlying t = some (.slice e)) (hC : P.cellsOf e = size) (h0 : 0 < size)
    (h : DataW.trod enc P w base spare held fuel t cs = some x) (hw : Wt P t x.1)
    (hR : ∀ n cs' y, n < fuel → cs'.length = size → DataW.trod enc P w base spare held n e cs' = some y → Wt P e y.1 → ∃ a, R cs' a) :
    ∃ ao c l, cs = [.slice ao l.length c] ∧ SlAt w size R ao l ∧ l.length ≤ maxLen := by
  rcases DataW.trod_slice ht h with ⟨e1, _⟩ | ⟨a, len, cap, elems, rest, n, hf, e1, rfl, hb, hl, hm, hlen, hel, _, _⟩
  · exact ⟨none, 0, [], e1, .inl rfl, Nat.zero_le _⟩
  · have hwe : ∀ d ∈ elems.map (·.1), Wt P e d := by
      unfold Wt DataW.weights at hw
      simp only [ht] at hw
      rw [List.all_cons, List.all_append, Bool.and_eq_true, Bool.and_eq_true] at hw
      exact wt_all e _ hw.2.1
    have each : ∀ i, i < len → ∃ (x : α) (cs' : List Value), cs'.length = size ∧ (∀ k, k < size → w.cell? ((a.add (i * size)).add k) = cs'[k]?) ∧ R cs' x := fun i hi => by
      have hx := hel i hi
      have hil : i < elems.length := by omega
      rw [List.getElem?_eq_getElem hil, Option.bind_eq_some_iff] at hx
      obtain ⟨cs', hc, ht'⟩ := hx
      rw [hC] at hc
      obtain ⟨_, hcl, hat⟩ := World.cells?_some hc
      obtain ⟨x, hx⟩ := hR n cs' _ (by omega) hcl ht' (hwe _ (List.mem_map.2 ⟨_, List.getElem_mem hil, rfl⟩))
      exact ⟨x, cs', hcl, hat, hx⟩
    have all : ∀ m, m ≤ len → ∃ l : List α, l.length = m ∧ ∀ j (h : j < l.length), ∃ cs' : List Value, cs'.length = size ∧ (∀ k, k < size → w.cell? ((a.add (j * size)).add k) = cs'[k]?) ∧ R cs' l[j] := by
      intro m
      induction m with
      | zero => exact fun _ => ⟨[], rfl, fun j h => absurd h (Nat.not_lt_zero _)⟩
      | succ m ih =>
        intro hm'
        obtain ⟨l, hl', hr⟩ := ih (by omega)
        obtain ⟨x, cs', h1, h2, h3⟩ := each m (by omega)
        refine ⟨l ++ [x], by simp [hl'], fun j hj => ?_⟩
        by_cases hjl : j < l.length
        · obtain ⟨cs2, g1, g2, g3⟩ := hr j hjl
          exact ⟨cs2, g1, g2, by rw [List.getElem_append_left hjl]; exact g3⟩
        · have hj2 : j = m := by simp at hj; omega
          subst hj2
          refine ⟨cs', h1, h2, ?_⟩
          rw [List.getElem_append_right (by omega)]
          simpa [hl'] using h3
    obtain ⟨l, hl2, hr⟩ := all len (Nat.le_refl _)
    refine ⟨some a, cap, l, by rw [hl2]; exact e1, ?_, by omega⟩
    rcases Nat.eq_zero_or_pos len with hz | hz
    · left; exact List.eq_nil_of_length_eq_zero (by omega)
    · right
      obtain ⟨cs0, k1, k2, _⟩ := hr 0 (by omega)
      have hc0 : w.cell? a = some (cs0[0]'(by omega)) := by
        have := k2 0 h0
        rw [Nat.zero_mul] at this
        rw [← List.getElem?_eq_getElem, ← this]; rfl
      have hsp := World.cell?_spot (a := a) hc0
      obtain ⟨b, off, sp⟩ := a
      simp only at hsp
      subst hsp
      have hadd : ∀ k, (⟨b, off, none⟩ : Addr).add k = ⟨b, off + k, none⟩ := fun k => by unfold Addr.add; split <;> simp_all
      have hadd2 : ∀ o k, (⟨b, o, none⟩ : Addr).add k = ⟨b, o + k, none⟩ := fun o k => by unfold Addr.add; split <;> simp_all
      refine ⟨b, off, rfl, ?_, fun j hj => ?_⟩
      · rcases Nat.lt_or_ge b w.heap.size with h | h
        · exact h
        · simp [World.cell?, Array.getElem?_eq_none h] at hc0
      · obtain ⟨cs2, g1, g2, g3⟩ := hr j hj
        refine ⟨cs2, g1, fun i hi => ?_, g3⟩
        have := g2 i hi
        rwa [hadd, hadd2] at this
end

/-! ### The types of this program -/
theorem cI : Tryz.prog.cellsOf 3 = 1 := by kernel_rfl
theorem cI64 : Tryz.prog.cellsOf 2 = 1 := by kernel_rfl
theorem cS : Tryz.prog.cellsOf 9 = 1 := by kernel_rfl
theorem cB : Tryz.prog.cellsOf 4 = 1 := by kernel_rfl
theorem cArg : Tryz.prog.cellsOf 68 = 2 := by kernel_rfl
theorem cCase : Tryz.prog.cellsOf 124 = 2 := by kernel_rfl
theorem cSeg : Tryz.prog.cellsOf 127 = 6 := by kernel_rfl
theorem cFunc : Tryz.prog.cellsOf 75 = 4 := by kernel_rfl
theorem cFun : Tryz.prog.cellsOf 87 = 3 := by kernel_rfl
theorem cIns : Tryz.prog.cellsOf 73 = 10 := by kernel_rfl
theorem cTerm : Tryz.prog.cellsOf 44 = 9 := by kernel_rfl
theorem cUnit : Tryz.prog.cellsOf 31 = 6 := by kernel_rfl
theorem cTerms : Tryz.prog.cellsOf 26 = 1 := by kernel_rfl
theorem cArgs : Tryz.prog.cellsOf 69 = 1 := by kernel_rfl
theorem cCases : Tryz.prog.cellsOf 70 = 1 := by kernel_rfl
theorem cSegs : Tryz.prog.cellsOf 71 = 1 := by kernel_rfl
theorem cFuncs : Tryz.prog.cellsOf 27 = 1 := by kernel_rfl
theorem cFuns : Tryz.prog.cellsOf 28 = 1 := by kernel_rfl
theorem cCode : Tryz.prog.cellsOf 29 = 1 := by kernel_rfl
theorem len2 {cs : List Value} (h : cs.length = 2) : ∃ a b, cs = [a, b] := by
  match cs, h with
  | [a, b], _ => exact ⟨a, b, rfl⟩
theorem len3 {cs : List Value} (h : cs.length = 3) : ∃ a b c, cs = [a, b, c] := by
  match cs, h with
  | [a, b, c], _ => exact ⟨a, b, c, rfl⟩
theorem len4 {cs : List Value} (h : cs.length = 4) : ∃ a b c d, cs = [a, b, c, d] := by
  match cs, h with
  | [a, b, c, d], _ => exact ⟨a, b, c, d, rfl⟩
theorem len6 {cs : List Value} (h : cs.length = 6) : ∃ a b c d e f, cs = [a, b, c, d, e, f] := by
  match cs, h with
  | [a, b, c, d, e, f], _ => exact ⟨a, b, c, d, e, f, rfl⟩
theorem len9 {cs : List Value} (h : cs.length = 9) : ∃ a b c d e f g i j, cs = [a, b, c, d, e, f, g, i, j] := by
  match cs, h with
  | [a, b, c, d, e, f, g, i, j], _ => exact ⟨a, b, c, d, e, f, g, i, j, rfl⟩
theorem len10 {cs : List Value} (h : cs.length = 10) : ∃ a b c d e f g i j k, cs = [a, b, c, d, e, f, g, i, j, k] := by
  match cs, h with
  | [a, b, c, d, e, f, g, i, j, k], _ => exact ⟨a, b, c, d, e, f, g, i, j, k, rfl⟩
theorem one_eq {a b : Value} (h : [a] = [b]) : a = b := by injection h

section
variable {H : Type} {enc : TypeId × Value → H} {w : World} {base : Nat} {spare : Nat → Bool} {held : Bool} {fuel : Nat} {cs : List Value} {x : DataW H × List MemPlace}
theorem open_arg (h : DataW.trod enc Tryz.prog w base spare held fuel 68 cs = some x) (hw : Wt Tryz.prog 68 x.1) : ∃ a, ArgR cs a := by
  obtain ⟨n, rfl, hl, hf⟩ := open_field Tryz.underlying68 h hw
  rw [cArg] at hl
  obtain ⟨a, b, rfl⟩ := len2 hl
  obtain ⟨y0, h0, _⟩ := hf 0 _ 3 0 1 rfl rfl rfl cI
  obtain ⟨y1, h1, _⟩ := hf 1 _ 3 1 1 rfl rfl rfl cI
  obtain ⟨n0, e0, i0⟩ := open_i64 Tryz.underlying3 h0
  obtain ⟨n1, e1, i1⟩ := open_i64 Tryz.underlying3 h1
  obtain rfl := one_eq e0
  obtain rfl := one_eq e1
  exact ⟨⟨n0, n1⟩, rfl, i0, i1⟩
theorem open_case (h : DataW.trod enc Tryz.prog w base spare held fuel 124 cs = some x) (hw : Wt Tryz.prog 124 x.1) : ∃ a, CaseR cs a := by
  obtain ⟨n, rfl, hl, hf⟩ := open_field Tryz.underlying124 h hw
  rw [cCase] at hl
  obtain ⟨a, b, rfl⟩ := len2 hl
  obtain ⟨y0, h0, _⟩ := hf 0 _ 3 0 1 rfl rfl rfl cI
  obtain ⟨y1, h1, _⟩ := hf 1 _ 3 1 1 rfl rfl rfl cI
  obtain ⟨n0, e0, i0⟩ := open_i64 Tryz.underlying3 h0
  obtain ⟨n1, e1, i1⟩ := open_i64 Tryz.underlying3 h1
  obtain rfl := one_eq e0
  obtain rfl := one_eq e1
  exact ⟨⟨n0, n1⟩, rfl, i0, i1⟩
theorem open_seg (h : DataW.trod enc Tryz.prog w base spare held fuel 127 cs = some x) (hw : Wt Tryz.prog 127 x.1) : ∃ a, SegR cs a := by
  obtain ⟨n, rfl, hl, hf⟩ := open_field Tryz.underlying127 h hw
  rw [cSeg] at hl
  obtain ⟨a, b, c, d, e, f, rfl⟩ := len6 hl
  obtain ⟨y0, h0, _⟩ := hf 0 _ 3 0 1 rfl rfl rfl cI
  obtain ⟨y1, h1, w1⟩ := hf 1 _ 68 1 2 rfl rfl rfl cArg
  obtain ⟨y2, h2, w2⟩ := hf 2 _ 68 3 2 rfl rfl rfl cArg
  obtain ⟨y3, h3, _⟩ := hf 3 _ 4 5 1 rfl rfl rfl cB
  obtain ⟨n0, e0, i0⟩ := open_i64 Tryz.underlying3 h0
  obtain ⟨a1, e1, i1, j1⟩ := open_arg h1 w1
  obtain ⟨a2, e2, i2, j2⟩ := open_arg h2 w2
  obtain ⟨b3, e3⟩ := open_boolw Tryz.underlying4 h3
  obtain rfl := one_eq e0
  obtain rfl := one_eq e3
  have e1' : [b, c] = [Value.int .i64 a1.kind, .int .i64 a1.n] := e1
  have e2' : [d, e] = [Value.int .i64 a2.kind, .int .i64 a2.n] := e2
  simp only [List.cons.injEq, and_true] at e1' e2'
  obtain ⟨rfl, rfl⟩ := e1'
  obtain ⟨rfl, rfl⟩ := e2'
  exact ⟨⟨n0, a1, a2, b3⟩, rfl, i0, i1, j1, i2, j2⟩
theorem open_func (h : DataW.trod enc Tryz.prog w base spare held fuel 75 cs = some x) (hw : Wt Tryz.prog 75 x.1) : ∃ a, FuncR cs a := by
  obtain ⟨n, rfl, hl, hf⟩ := open_field Tryz.underlying75 h hw
  rw [cFunc] at hl
  obtain ⟨a, b, c, d, rfl⟩ := len4 hl
  obtain ⟨y0, h0, _⟩ := hf 0 _ 9 0 1 rfl rfl rfl cS
  obtain ⟨y1, h1, _⟩ := hf 1 _ 3 1 1 rfl rfl rfl cI
  obtain ⟨y2, h2, _⟩ := hf 2 _ 4 2 1 rfl rfl rfl cB
  obtain ⟨y3, h3, _⟩ := hf 3 _ 3 3 1 rfl rfl rfl cI
  obtain ⟨s0, e0, i0⟩ := open_str Tryz.underlying9 h0
  obtain ⟨n1, e1, i1⟩ := open_i64 Tryz.underlying3 h1
  obtain ⟨b2, e2⟩ := open_boolw Tryz.underlying4 h2
  obtain ⟨n3, e3, i3⟩ := open_i64 Tryz.underlying3 h3
  obtain rfl := one_eq e0
  obtain rfl := one_eq e1
  obtain rfl := one_eq e2
  obtain rfl := one_eq e3
  exact ⟨⟨s0, n1, b2, n3⟩, rfl, i0, i1, i3⟩
theorem open_fun (h : DataW.trod enc Tryz.prog w base spare held fuel 87 cs = some x) (hw : Wt Tryz.prog 87 x.1) : ∃ a, FunR cs a := by
  obtain ⟨n, rfl, hl, hf⟩ := open_field Tryz.underlying87 h hw
  rw [cFun] at hl
  obtain ⟨a, b, c, rfl⟩ := len3 hl
  obtain ⟨y0, h0, _⟩ := hf 0 _ 3 0 1 rfl rfl rfl cI
  obtain ⟨y1, h1, _⟩ := hf 1 _ 3 1 1 rfl rfl rfl cI
  obtain ⟨y2, h2, _⟩ := hf 2 _ 3 2 1 rfl rfl rfl cI
  obtain ⟨n0, e0, i0⟩ := open_i64 Tryz.underlying3 h0
  obtain ⟨n1, e1, i1⟩ := open_i64 Tryz.underlying3 h1
  obtain ⟨n2, e2, i2⟩ := open_i64 Tryz.underlying3 h2
  obtain rfl := one_eq e0
  obtain rfl := one_eq e1
  obtain rfl := one_eq e2
  exact ⟨⟨n0, n1, n2⟩, rfl, i0, i1, i2⟩
/-- An instruction, its name within the reach. -/
def InsN (w : World) (cs : List Value) (x : RIns) : Prop := InsR w cs x ∧ x.name.size ≤ 140737488351232
theorem open_ins (h : DataW.trod enc Tryz.prog w base spare held fuel 73 cs = some x) (hw : Wt Tryz.prog 73 x.1) : ∃ a, InsN w cs a := by
  obtain ⟨n, rfl, hl, hf⟩ := open_field Tryz.underlying73 h hw
  rw [cIns] at hl
  obtain ⟨a, b, c, d, e, f, g, i, j, k, rfl⟩ := len10 hl
  obtain ⟨y0, h0, _⟩ := hf 0 _ 3 0 1 rfl rfl rfl cI
  obtain ⟨y1, h1, w1⟩ := hf 1 _ 68 1 2 rfl rfl rfl cArg
  obtain ⟨y2, h2, w2⟩ := hf 2 _ 69 3 1 rfl rfl rfl cArgs
  obtain ⟨y3, h3, _⟩ := hf 3 _ 3 4 1 rfl rfl rfl cI
  obtain ⟨y4, h4, _⟩ := hf 4 _ 3 5 1 rfl rfl rfl cI
  obtain ⟨y5, h5, _⟩ := hf 5 _ 3 6 1 rfl rfl rfl cI
  obtain ⟨y6, h6, w6⟩ := hf 6 _ 9 7 1 rfl rfl rfl cS
  obtain ⟨y7, h7, w7⟩ := hf 7 _ 70 8 1 rfl rfl rfl cCases
  obtain ⟨y8, h8, w8⟩ := hf 8 _ 71 9 1 rfl rfl rfl cSegs
  obtain ⟨n0, e0, i0⟩ := open_i64 Tryz.underlying3 h0
  obtain ⟨a1, e1, i1, j1⟩ := open_arg h1 w1
  obtain ⟨so, sc, l2, e2, s2, b2⟩ := open_slw ArgR Tryz.underlying69 cArg (by decide) h2 w2 (fun n cs' y _ _ hy wy => open_arg hy wy)
  obtain ⟨n3, e3, i3⟩ := open_i64 Tryz.underlying3 h3
  obtain ⟨n4, e4, i4⟩ := open_i64 Tryz.underlying3 h4
  obtain ⟨n5, e5, i5⟩ := open_i64 Tryz.underlying3 h5
  obtain ⟨s6, e6, i6⟩ := open_strw Tryz.underlying9 h6 w6
  obtain ⟨co, cc, l7, e7, s7, b7⟩ := open_slw CaseR Tryz.underlying70 cCase (by decide) h7 w7 (fun n cs' y _ _ hy wy => open_case hy wy)
  obtain ⟨go, gc, l8, e8, s8, b8⟩ := open_slw SegR Tryz.underlying71 cSeg (by decide) h8 w8 (fun n cs' y _ _ hy wy => open_seg hy wy)
  obtain rfl := one_eq e0
  obtain rfl := one_eq e2
  obtain rfl := one_eq e3
  obtain rfl := one_eq e4
  obtain rfl := one_eq e5
  obtain rfl := one_eq e6
  obtain rfl := one_eq e7
  obtain rfl := one_eq e8
  have e1' : [b, c] = [Value.int .i64 a1.kind, .int .i64 a1.n] := e1
  simp only [List.cons.injEq, and_true] at e1'
  obtain ⟨rfl, rfl⟩ := e1'
  exact ⟨⟨n0, a1, l2, n3, n4, n5, s6, l7, l8⟩, ⟨⟨so, sc, co, cc, go, gc, rfl, s2, s7, s8⟩, i0, i1, j1, b2, i3, i4, i5, Nat.le_trans i6 (by decide), b7, b8⟩, i6⟩
end
section
variable {H : Type} {enc : TypeId × Value → H} {w : World} {base : Nat} {spare : Nat → Bool} {held : Bool}
theorem open_tm : ∀ (fuel : Nat) {cs : List Value} {x : DataW H × List MemPlace}, DataW.trod enc Tryz.prog w base spare held fuel 44 cs = some x → Wt Tryz.prog 44 x.1 → ∃ t, TmA w cs t := by
  intro fuel
  induction fuel using Nat.strongRecOn with
  | _ fuel ih =>
    intro cs x h hw
    obtain ⟨n, rfl, hl, hf⟩ := open_field Tryz.underlying44 h hw
    rw [cTerm] at hl
    obtain ⟨a, b, c, d, e, f, g, i, j, rfl⟩ := len9 hl
    obtain ⟨y0, h0, _⟩ := hf 0 _ 3 0 1 rfl rfl rfl cI
    obtain ⟨y1, h1, _⟩ := hf 1 _ 2 1 1 rfl rfl rfl cI64
    obtain ⟨y2, h2, _⟩ := hf 2 _ 2 2 1 rfl rfl rfl cI64
    obtain ⟨y3, h3, _⟩ := hf 3 _ 9 3 1 rfl rfl rfl cS
    obtain ⟨y4, h4, _⟩ := hf 4 _ 9 4 1 rfl rfl rfl cS
    obtain ⟨y5, h5, _⟩ := hf 5 _ 3 5 1 rfl rfl rfl cI
    obtain ⟨y6, h6, w6⟩ := hf 6 _ 26 6 1 rfl rfl rfl cTerms
    obtain ⟨y7, h7, _⟩ := hf 7 _ 9 7 1 rfl rfl rfl cS
    obtain ⟨y8, h8, _⟩ := hf 8 _ 3 8 1 rfl rfl rfl cI
    obtain ⟨n0, e0, i0⟩ := open_i64 Tryz.underlying3 h0
    obtain ⟨n1, e1, i1⟩ := open_i64 Tryz.underlying2 h1
    obtain ⟨n2, e2, i2⟩ := open_i64 Tryz.underlying2 h2
    obtain ⟨s3, e3, i3⟩ := open_str Tryz.underlying9 h3
    obtain ⟨s4, e4, i4⟩ := open_str Tryz.underlying9 h4
    obtain ⟨n5, e5, i5⟩ := open_i64 Tryz.underlying3 h5
    obtain ⟨ao, ac, l6, e6, s6, b6⟩ := open_slw (TmA w) Tryz.underlying26 cTerm (by decide) h6 w6 (fun m cs' y hm _ hy wy => ih m (by omega) hy wy)
    obtain ⟨s7, e7, i7⟩ := open_str Tryz.underlying9 h7
    obtain ⟨n8, e8, i8⟩ := open_i64 Tryz.underlying3 h8
    obtain rfl := one_eq e0
    obtain rfl := one_eq e1
    obtain rfl := one_eq e2
    obtain rfl := one_eq e3
    obtain rfl := one_eq e4
    obtain rfl := one_eq e5
    obtain rfl := one_eq e6
    obtain rfl := one_eq e7
    obtain rfl := one_eq e8
    obtain ⟨q, hq⟩ := tms_depth s6
    exact ⟨.mk n0 n1 n2 s3 s4 n5 l6 s7 n8, q + 1, ⟨ao, ac, rfl, hq⟩, i0, i1, i2, i3, i4, i5, b6, i7, i8⟩
end
set_option maxRecDepth 100000 in
/-- A unit that came in: its parts in memory, its names within the reach. -/
theorem open_unit {H : Type} {enc : TypeId × Value → H} {W : World} {base b0 : Nat} {spare : Nat → Bool} {held : Bool} {r : Reach} {v : Value} {d : DataW H} {p : List MemPlace}
    (hv : Value.okWide Tryz.prog W r b0 31 v) (h : DataW.Trod enc Tryz.prog W base spare held 31 v d p) (hw : Wt Tryz.prog 31 d) :
    ∃ (u : RUnit) (lo fo go co : Option Addr) (lc fc gc cc : Nat), v = .agg #[.string u.mdl, .int .i64 u.vsn, .slice lo u.lits.length lc, .slice fo u.funcs.length fc, .slice go u.funs.length gc, .slice co u.code.length cc] ∧ UP W u lo fo go co ∧ ∀ x ∈ u.code, x.name.size ≤ 140737488351232 := by
  obtain ⟨cs, rfl, _⟩ : ∃ cs, v = .agg cs ∧ True := by
    unfold Value.okWide at hv
    simp only [Tryz.underlying31] at hv
    obtain ⟨cs, e, _⟩ := hv
    exact ⟨cs, e, trivial⟩
  obtain ⟨fuel, hf0⟩ := h
  obtain ⟨n, rfl, hl, hf⟩ := open_field Tryz.underlying31 hf0 hw
  rw [cUnit] at hl
  have hcs : (Value.agg cs).cells.toList = cs.toList := rfl
  rw [hcs] at hl hf
  obtain ⟨a, b, c, e, f, g, hcl⟩ := len6 hl
  obtain rfl : cs = #[a, b, c, e, f, g] := Array.toList_inj.1 hcl
  obtain ⟨y0, h0, w0⟩ := hf 0 _ 9 0 1 rfl rfl rfl cS
  obtain ⟨y1, h1, _⟩ := hf 1 _ 2 1 1 rfl rfl rfl cI64
  obtain ⟨y2, h2, w2⟩ := hf 2 _ 26 2 1 rfl rfl rfl cTerms
  obtain ⟨y3, h3, w3⟩ := hf 3 _ 27 3 1 rfl rfl rfl cFuncs
  obtain ⟨y4, h4, w4⟩ := hf 4 _ 28 4 1 rfl rfl rfl cFuns
  obtain ⟨y5, h5, w5⟩ := hf 5 _ 29 5 1 rfl rfl rfl cCode
  obtain ⟨s0, e0, i0⟩ := open_str Tryz.underlying9 h0
  obtain ⟨n1, e1, i1⟩ := open_i64 Tryz.underlying2 h1
  obtain ⟨lo, lc, l2, e2, s2, b2⟩ := open_slw (TmA W) Tryz.underlying26 cTerm (by decide) h2 w2 (fun m cs' y hm _ hy wy => open_tm m hy wy)
  obtain ⟨fo, fc, l3, e3, s3, b3⟩ := open_slw FuncR Tryz.underlying27 cFunc (by decide) h3 w3 (fun m cs' y hm _ hy wy => open_func hy wy)
  obtain ⟨go, gc, l4, e4, s4, b4⟩ := open_slw FunR Tryz.underlying28 cFun (by decide) h4 w4 (fun m cs' y hm _ hy wy => open_fun hy wy)
  obtain ⟨co, cc, l5, e5, s5, b5⟩ := open_slw (InsN W) Tryz.underlying29 cIns (by decide) h5 w5 (fun m cs' y hm _ hy wy => open_ins hy wy)
  obtain rfl := one_eq e0
  obtain rfl := one_eq e1
  obtain rfl := one_eq e2
  obtain rfl := one_eq e3
  obtain rfl := one_eq e4
  obtain rfl := one_eq e5
  refine ⟨⟨s0, n1, l2, l3, l4, l5⟩, lo, fo, go, co, lc, fc, gc, cc, rfl, ⟨s2, s3, s4, s5.imp fun _ _ h => h.1, i0, i1, b2, b3, b4, b5⟩, fun x hx => ?_⟩
  obtain ⟨j, hj, rfl⟩ := List.getElem_of_mem hx
  obtain ⟨_, _, _, _, hr⟩ := s5.row hj
  obtain ⟨_, _, _, hr2⟩ := hr j hj
  exact hr2.2
end
end Go.Proofs.YtponljdhfoipjaaGreatDoor
namespace Go.Proofs.YtponljdhfoipjaaGreatDoor
section
open Go.RowKit Go.ChangeShapes Go.WideShapes
set_option linter.unusedVariables false
set_option linter.unusedSimpArgs false

theorem cOp : Tryz.prog.cellsOf 47 = 21 := by kernel_rfl
theorem cU8 : Tryz.prog.cellsOf 5 = 1 := by kernel_rfl
theorem len21 {cs : List Value} (h : cs.length = 21) : ∃ a0 a1 a2 a3 a4 a5 a6 a7 a8 a9 a10 a11 a12 a13 a14 a15 a16 a17 a18 a19 a20, cs = [a0, a1, a2, a3, a4, a5, a6, a7, a8, a9, a10, a11, a12, a13, a14, a15, a16, a17, a18, a19, a20] := by
  match cs, h with
  | [a0, a1, a2, a3, a4, a5, a6, a7, a8, a9, a10, a11, a12, a13, a14, a15, a16, a17, a18, a19, a20], _ => exact ⟨a0, a1, a2, a3, a4, a5, a6, a7, a8, a9, a10, a11, a12, a13, a14, a15, a16, a17, a18, a19, a20, rfl⟩
section
variable {H : Type} {enc : TypeId × Value → H} {W : World} {base : Nat} {spare : Nat → Bool} {held : Bool} {fuel : Nat} {cs : List Value} {x : DataW H × List MemPlace}
set_option maxRecDepth 100000 in
theorem open_unitC (hf0 : DataW.trod enc Tryz.prog W base spare held fuel 31 cs = some x) (hw : Wt Tryz.prog 31 x.1) :
    ∃ (u : RUnit) (lo fo go co : Option Addr) (lc fc gc cc : Nat), cs = [.string u.mdl, .int .i64 u.vsn, .slice lo u.lits.length lc, .slice fo u.funcs.length fc, .slice go u.funs.length gc, .slice co u.code.length cc] ∧ UP W u lo fo go co := by
  obtain ⟨n, rfl, hl, hf⟩ := open_field Tryz.underlying31 hf0 hw
  rw [cUnit] at hl
  obtain ⟨a, b, c, e, f, g, rfl⟩ := len6 hl
  obtain ⟨y0, h0, w0⟩ := hf 0 _ 9 0 1 rfl rfl rfl cS
  obtain ⟨y1, h1, _⟩ := hf 1 _ 2 1 1 rfl rfl rfl cI64
  obtain ⟨y2, h2, w2⟩ := hf 2 _ 26 2 1 rfl rfl rfl cTerms
  obtain ⟨y3, h3, w3⟩ := hf 3 _ 27 3 1 rfl rfl rfl cFuncs
  obtain ⟨y4, h4, w4⟩ := hf 4 _ 28 4 1 rfl rfl rfl cFuns
  obtain ⟨y5, h5, w5⟩ := hf 5 _ 29 5 1 rfl rfl rfl cCode
  obtain ⟨s0, e0, i0⟩ := open_str Tryz.underlying9 h0
  obtain ⟨n1, e1, i1⟩ := open_i64 Tryz.underlying2 h1
  obtain ⟨lo, lc, l2, e2, s2, b2⟩ := open_slw (TmA W) Tryz.underlying26 cTerm (by decide) h2 w2 (fun m cs' y hm _ hy wy => open_tm m hy wy)
  obtain ⟨fo, fc, l3, e3, s3, b3⟩ := open_slw FuncR Tryz.underlying27 cFunc (by decide) h3 w3 (fun m cs' y hm _ hy wy => open_func hy wy)
  obtain ⟨go, gc, l4, e4, s4, b4⟩ := open_slw FunR Tryz.underlying28 cFun (by decide) h4 w4 (fun m cs' y hm _ hy wy => open_fun hy wy)
  obtain ⟨co, cc, l5, e5, s5, b5⟩ := open_slw (InsN W) Tryz.underlying29 cIns (by decide) h5 w5 (fun m cs' y hm _ hy wy => open_ins hy wy)
  obtain rfl := one_eq e0
  obtain rfl := one_eq e1
  obtain rfl := one_eq e2
  obtain rfl := one_eq e3
  obtain rfl := one_eq e4
  obtain rfl := one_eq e5
  exact ⟨⟨s0, n1, l2, l3, l4, l5⟩, lo, fo, go, co, lc, fc, gc, cc, rfl, s2, s3, s4, s5.imp fun _ _ h => h.1, i0, i1, b2, b3, b4, b5⟩
end
set_option maxRecDepth 100000 in
theorem open_op {H : Type} {enc : TypeId × Value → H} {W : World} {base b0 : Nat} {spare : Nat → Bool} {held : Bool} {r : Reach} {v : Value} {d : DataW H} {p : List MemPlace}
    (hv : Value.okWide Tryz.prog W r b0 47 v) (h : DataW.Trod enc Tryz.prog W base spare held 47 v d p) (hw : Wt Tryz.prog 47 d) :
    ∃ x : OpA, v = .agg (opRow x) ∧ OpOk W x := by
  obtain ⟨cs, rfl, _⟩ : ∃ cs, v = .agg cs ∧ True := by
    unfold Value.okWide at hv
    simp only [Tryz.underlying47] at hv
    obtain ⟨cs, e, _⟩ := hv
    exact ⟨cs, e, trivial⟩
  obtain ⟨fuel, hf0⟩ := h
  obtain ⟨n, rfl, hl, hf⟩ := open_field Tryz.underlying47 hf0 hw
  rw [cOp] at hl
  have hcs : (Value.agg cs).cells.toList = cs.toList := rfl
  rw [hcs] at hl hf
  obtain ⟨a0, a1, a2, a3, a4, a5, a6, a7, a8, a9, a10, a11, a12, a13, a14, a15, a16, a17, a18, a19, a20, hcl⟩ := len21 hl
  obtain rfl : cs = #[a0, a1, a2, a3, a4, a5, a6, a7, a8, a9, a10, a11, a12, a13, a14, a15, a16, a17, a18, a19, a20] := Array.toList_inj.1 hcl
  obtain ⟨y0, h0, w0⟩ := hf 0 _ 5 0 1 rfl rfl rfl cU8
  obtain ⟨y1, h1, w1⟩ := hf 1 _ 31 1 6 rfl rfl rfl cUnit
  obtain ⟨y2, h2, w2⟩ := hf 2 _ 9 7 1 rfl rfl rfl cS
  obtain ⟨y3, h3, w3⟩ := hf 3 _ 9 8 1 rfl rfl rfl cS
  obtain ⟨y4, h4, w4⟩ := hf 4 _ 9 9 1 rfl rfl rfl cS
  obtain ⟨y5, h5, w5⟩ := hf 5 _ 2 10 1 rfl rfl rfl cI64
  obtain ⟨y6, h6, w6⟩ := hf 6 _ 3 11 1 rfl rfl rfl cI
  obtain ⟨y7, h7, w7⟩ := hf 7 _ 44 12 9 rfl rfl rfl cTerm
  obtain ⟨n0, e0, _, _⟩ := DataW.trod_int Tryz.underlying5 h0
  obtain ⟨u, lo, fo, go, co, lc, fc, gc, cc, e1, hup⟩ := open_unitC h1 w1
  obtain ⟨s2, e2, i2⟩ := open_str Tryz.underlying9 h2
  obtain ⟨s3, e3, i3⟩ := open_str Tryz.underlying9 h3
  obtain ⟨s4, e4, i4⟩ := open_str Tryz.underlying9 h4
  obtain ⟨n5, e5, i5⟩ := open_i64 Tryz.underlying2 h5
  obtain ⟨n6, e6, i6⟩ := open_i64 Tryz.underlying3 h6
  obtain ⟨t, ⟨f, ht⟩⟩ := open_tm n h7 w7
  cases f with
  | zero => exact ht.elim
  | succ f =>
    obtain ⟨⟨so, sc, e7, hs⟩, hok⟩ := ht
    obtain rfl := one_eq e0
    obtain rfl := one_eq e2
    obtain rfl := one_eq e3
    obtain rfl := one_eq e4
    obtain rfl := one_eq e5
    obtain rfl := one_eq e6
    have e1' : [a1, a2, a3, a4, a5, a6] = [.string u.mdl, .int .i64 u.vsn, .slice lo u.lits.length lc, .slice fo u.funcs.length fc, .slice go u.funs.length gc, .slice co u.code.length cc] := e1
    have e7' : [a12, a13, a14, a15, a16, a17, a18, a19, a20] = [.int .i64 t.kind, .int .i64 t.int, .int .i64 t.gen, .string t.name, .string t.func, .int .i64 t.arity, .slice so t.items.length sc, .string t.bytes, .int .i64 t.bits] := e7
    simp only [List.cons.injEq, and_true] at e1' e7'
    obtain ⟨rfl, rfl, rfl, rfl, rfl, rfl⟩ := e1'
    obtain ⟨rfl, rfl, rfl, rfl, rfl, rfl, rfl, rfl, rfl⟩ := e7'
    exact ⟨⟨n0, u, lo, lc, fo, fc, go, gc, co, cc, s2, s3, s4, n5, n6, t, so, sc⟩, rfl, hup, ⟨f + 1, ⟨so, sc, rfl, hs⟩, hok⟩, i2⟩
end
end Go.Proofs.YtponljdhfoipjaaGreatDoor
namespace Go.Proofs.YtponljdhfoipjaaGreatDoor
section
open Go.RowKit
set_option linter.unusedVariables false

/-- A world for the witness: the listed tables hold what their initialisers lay. -/
noncomputable def laidWorldN (os : Os) : World :=
  { laidWorld os with heap := ((laidWorld os).heap.modify 2 fun
      | .cells _ t fr => .cells (Go.Pinned.utf8FirstZ.map fun n : Nat => Value.int .u8 (n : Int)).toArray t fr
      | o => o).modify 3 fun
      | .cells _ t fr => .cells #[.int .u8 128, .int .u8 191, .int .u8 160, .int .u8 191, .int .u8 128, .int .u8 159, .int .u8 144, .int .u8 191, .int .u8 128, .int .u8 143, .int .u8 0, .int .u8 0, .int .u8 0, .int .u8 0, .int .u8 0, .int .u8 0, .int .u8 0, .int .u8 0, .int .u8 0, .int .u8 0, .int .u8 0, .int .u8 0, .int .u8 0, .int .u8 0, .int .u8 0, .int .u8 0, .int .u8 0, .int .u8 0, .int .u8 0, .int .u8 0, .int .u8 0, .int .u8 0] t fr
      | o => o }
end
end Go.Proofs.YtponljdhfoipjaaGreatDoor
