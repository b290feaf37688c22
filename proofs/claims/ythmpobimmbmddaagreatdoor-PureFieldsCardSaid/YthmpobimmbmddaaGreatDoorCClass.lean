/-
  pure.classes$1: words into the table: the walk.
-/
import Derived.Test.YthmpobimmbmddaaGreatDoorCWalk0
import Derived.Test.YthmpobimmbmddaaGreatDoorCText
import Derived.Test.YthmpobimmbmddaaGreatDoorShelf
import Derived.Maps.OwnOps
import Derived.Maps.OwnSet
import Derived.Maps.Views
import Derived.Lib.SmallJoins
namespace Go.Proofs.YthmpobimmbmddaaGreatDoor
open Go.RowKit Go.Maps Go.WideMaps
set_option linter.unusedVariables false
set_option linter.unusedSimpArgs false

theorem strLaw : Keyed Tryz.prog 9 := string_keyed Tryz.underlying9
theorem zeroInt (w : World) : (zeroValue 3).run Tryz.prog w = .ok (.int .i64 0) w := by kernel_rfl
def tabPut (t : List UInt8 → Int) (k : List UInt8) (c : Int) : List UInt8 → Int := fun x => if x = k then c else t x
def tabAll (c : Int) (ws : List (List UInt8)) (t : List UInt8 → Int) : List UInt8 → Int := ws.foldl (fun t k => tabPut t k c) t
/-- Block M is a map of at most n entries that reads as t. -/
def MapIs (w : World) (M n : Nat) (t : List UInt8 → Int) : Prop := ∃ D : DataW Unit, w.ownsMap Tryz.prog 9 (plainElem Tryz.prog 3) M n D ∧ ∀ k : List UInt8, D.atKey (.string k) (.lit (.int .i64 0)) = .lit (.int .i64 (t k))
theorem isKey_str (k : List UInt8) : WideAt.IsKeyLit (.string k) := by unfold WideAt.IsKeyLit; simp
theorem mapIs_put {D : DataW Unit} {t : List UInt8 → Int} (hD : IsMap D) (h : ∀ k : List UInt8, D.atKey (.string k) (.lit (.int .i64 0)) = .lit (.int .i64 (t k))) (x : List UInt8) (c : Int) :
    ∀ k : List UInt8, (D.put (.string x) (.lit (.int .i64 c))).atKey (.string k) (.lit (.int .i64 0)) = .lit (.int .i64 (tabPut t x c k)) := by
  intro k
  unfold tabPut
  by_cases e : k = x
  · rw [if_pos e, e, atKey_put_same hD (isKey_str x)]
  · rw [if_neg e, atKey_put_other (by intro h2; injection h2 with h2; exact e h2)]; exact h k
theorem tabAll_step (c : Int) (ws : List (List UInt8)) (t : List UInt8 → Int) {k : Nat} (h : k < ws.length) : tabAll c (ws.take (k + 1)) t = tabPut (tabAll c (ws.take k) t) ws[k] c := by
  unfold tabAll
  rw [List.take_add_one, List.getElem?_eq_getElem h, List.foldl_append]; rfl
def wordsV (ws : List (List UInt8)) : Array Value := (ws.map fun l => Value.string ⟨l.toArray⟩).toArray

set_option maxRecDepth 100000 in
set_option maxHeartbeats 4000000 in
theorem add_any (c : Int) (s : ByteArray) (ws : List (List UInt8)) (B C M n : Nat) (t : List UInt8 → Int) (w : World) (hws : Lib.fields s.data.toList = ws) (hc0 : 0 ≤ c) (hc1 : c ≤ 10) (hs : s.size < 4294967281) (hwl : ∀ x ∈ ws, x.length ≤ 1000) (hwn : ws.length ≤ 1000) (hn : n ≤ 1000000)
    (hascii : ∀ (j : Nat) b, s.data.toList[j]? = some b → b.toNat < 128) (htab : Lib.TabIs Tryz.prog w "strings.asciiSpace" .u8 Lib.asciiSpaceTab)
    (hB : B ≤ w.heap.size) (hBC : B ≤ C) (hBM : B ≤ M) (hCM : C ≠ M) (hC : w.heap[C]? = some (.cells #[.map (some M)] 46 (0, 0))) (hM : MapIs w M n t) :
    Calls Tryz.prog 45 #[.int .i64 c, .string s, .pointer (some ⟨C, 0, none⟩)] w fun e w' => e = .returned (.tuple #[]) ∧ MapIs w' M (n + ws.length) (tabAll c ws t) ∧ w'.heap[C]? = some (.cells #[.map (some M)] 46 (0, 0)) ∧ Below B w w' := by
  have HF := fun w' h => Tryz.strings_Fields s w' hs hascii h
  rw [hws] at HF
  have HTab := Lib.hid htab
  clear htab hws
  have hMl : M < w.heap.size := by obtain ⟨D, h, _⟩ := hM; exact h.lt
  have hCl := lt_of_row hC
  go_enter Tryz.func45, Tryz.ntmps45
  go_wp2_with (go_at_call 46; refine (HF _ HTab.out).mono ?_; rintro e w1 ⟨rfl, rfl⟩)
  have hWd := heap_alloc_new w (.cells (ws.map fun l => Value.string ⟨l.toArray⟩).toArray 9)
  have hC1 := (Below.heap_alloc w (.cells (ws.map fun l => Value.string ⟨l.toArray⟩).toArray 9) C hCl).trans hC
  have hB1 : Below B w (w.alloc (.cells (ws.map fun l => Value.string ⟨l.toArray⟩).toArray 9)) := (Below.refl _ _).alloc hB _
  have hM1 : MapIs (w.alloc (.cells (ws.map fun l => Value.string ⟨l.toArray⟩).toArray 9)) M n t := by
    obtain ⟨D, h, h2⟩ := hM; exact ⟨D, h.alloc _, h2⟩
  generalize hW : w.alloc (.cells (ws.map fun l => Value.string ⟨l.toArray⟩).toArray 9) = W at *
  generalize hb : w.heap.size = b at *
  go_loopw [10] (fun i wr => ∃ k : Nat, k ≤ ws.length ∧ i = .int .i64 k ∧ MapIs wr M (n + k) (tabAll c (ws.take k) t) ∧ wr.heap[C]? = some (.cells #[.map (some M)] 46 (0, 0)) ∧ wr.heap[b]? = some (.cells (ws.map fun l => Value.string ⟨l.toArray⟩).toArray 9 (0, 0)) ∧ Below B w wr) (fun i _ => ws.length - (intOf i).toNat)
  case atStart => exact ⟨0, Nat.zero_le _, rfl, hM1, hC1, hWd, hB1⟩
  case round =>
    obtain ⟨k, hk, rfl, ⟨D, hown, hD⟩, hCr, hbr, hBr⟩ := hrel
    rename World => wr
    by_cases hlt : k < ws.length
    · have hcw : wr.cell? ⟨b, k, none⟩ = some (.string ⟨ws[k].toArray⟩) := by rw [cell_of_row _ _ _ _ _ _ hbr]; simp [hlt]
      have hcC : wr.cell? ⟨C, 0, none⟩ = some (.map (some M)) := by rw [cell_of_row _ _ _ _ _ _ hCr]; rfl
      have hkey : keyOf Tryz.prog 9 (.string ⟨ws[k].toArray⟩) = some (.string ws[k]) := by
        have := hwl _ (List.getElem_mem hlt)
        exact keyOf_string_mk Tryz.underlying9 (by unfold maxLen; simp [ByteArray.size]; omega)
      have hDM := hown.isMap
      have HP := Lib.hid (mapIs_put hDM hD ws[k] c)
      have HS := Lib.hid (tabAll_step c ws t hlt)
      have hkl := hwl _ (List.getElem_mem hlt)
      generalize ws[k] = x at *
      go_wp2_with (first
        | (at_mapUpdate; refine wpList_mapUpdate_own _ rfl _ _ _ 46 rfl 9 3 strLaw Tryz.underlying46 _ M (n + k) _ rfl hown (by unfold maxLen; omega) _ _ _ rfl rfl hkey _ [] (plainElem_int Tryz.underlying3 (WalkArith.wf_i64 (by omega))) ?_)
        | fail)
      intro w1 hown1 hgrow1
      have hM2 : MapIs w1 M (n + (k + 1)) (tabAll c (ws.take (k + 1)) t) := ⟨_, hown1, by rw [HS.out]; exact HP.out⟩
      have hC2 : w1.heap[C]? = some (.cells #[.map (some M)] 46 (0, 0)) := (hgrow1.block C (lt_of_row hCr) (fun e => hCM (Option.some.inj e))).trans hCr
      have hb2 : w1.heap[b]? = some (.cells (ws.map fun l => Value.string ⟨l.toArray⟩).toArray 9 (0, 0)) := (hgrow1.block b (lt_of_row hbr) (fun e => by have := Option.some.inj e; omega)).trans hbr
      have hB2 : Below B w w1 := hBr.grown hgrow1 (by have := hBr.size; omega) (fun j hj => by cases hj; exact hBM)
      clear hown1 hgrow1 hown hcw hcC
      go_wp2_with fail
      go_roundw
      case rel => exact ⟨k + 1, by omega, by go_num, hM2, hC2, hb2, hB2⟩
      case measure => simp [intOf]; omega
    · obtain rfl : k = ws.length := by omega
      have hMF : MapIs wr M (n + ws.length) (tabAll c ws t) := ⟨D, hown, by rw [List.take_length] at hD; exact hD⟩
      clear hown
      go_wp2_with fail
      (try simp only [Exit.inBlock, Exit.then])
      go_end0
      exact ⟨rfl, hMF, hCr, hBr⟩
end Go.Proofs.YthmpobimmbmddaaGreatDoor
