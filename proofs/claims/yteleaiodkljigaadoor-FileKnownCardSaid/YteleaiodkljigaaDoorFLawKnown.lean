/-
  FileKnown: the walk.
-/
import Derived.Test.YteleaiodkljigaaDoorFLawGets
namespace Go.Proofs.YteleaiodkljigaaDoor
open Go.RowKit Go.Shelf Go.Lib
set_option linter.unusedVariables false

def fileN : List UInt8 := [83, 72, 78, 68, 0, 0, 0, 12, 67, 83, 85, 77, 0, 0, 0, 4, 87, 24, 221, 224]
def fileS : List UInt8 := [83, 72, 78, 68, 0, 0, 0, 24, 65, 98, 99, 100, 0, 0, 0, 1, 120, 0, 0, 0, 67, 83, 85, 77, 0, 0, 0, 4, 231, 177, 125, 23]
def fileC : List UInt8 := [83, 72, 78, 68, 0, 0, 0, 24, 65, 98, 99, 100, 0, 0, 0, 1, 120, 0, 0, 0, 67, 83, 85, 77, 0, 0, 0, 4, 231, 177, 125]
def x1 : Ch := (⟨#[97, 98, 99]⟩, ⟨#[]⟩)
def x2 : Ch := (⟨#[67, 83, 85, 77]⟩, ⟨#[]⟩)
def x3 : Ch := (⟨#[97, 98, 99, 100]⟩, ⟨#[]⟩)
theorem vN : putV [] = fileN := by decide +kernel
theorem eN : putE [] = 0 := by decide +kernel
theorem vS : putV [c0] = fileS := by decide +kernel
theorem e1 : putE [x1] = 2 := by decide +kernel
theorem e2 : putE [x2] = 2 := by decide +kernel
theorem e3 : putE [x3, x3] = 2 := by decide +kernel
theorem gOther : getE (fileC ++ [97]) = 260 := by decide +kernel
theorem gCut : getE fileC = 6 := by decide +kernel
theorem crc0 : crc [] = 0 := by decide +kernel
theorem crcA : crc [97] = 3904355907 := by decide +kernel
theorem small_one (x : Ch) (h1 : x.2.size ≤ 60000) (h2 : x.1.size ≤ 100) : Small [x] := ⟨by simp, fun j hj => by
  have : j = 0 := by simpa using hj
  subst this; exact ⟨h1, h2⟩⟩
theorem small_nil : Small [] := ⟨by simp, fun j hj => absurd hj (Nat.not_lt_zero _)⟩
theorem small_two : Small [x3, x3] := ⟨by simp, fun j hj => by
  have : j = 0 ∨ j = 1 := by simp at hj; omega
  rcases this with h | h <;> subst h <;> exact ⟨by decide, by decide⟩⟩
theorem row_two (w : World) (x y : Ch) : RowAt (w.alloc (.cells #[.string x.1, .string x.2, .string y.1, .string y.2] 41)) w.heap.size 0 [x, y] := by
  refine ⟨by simp, fun j hj => ?_⟩
  have : j = 0 ∨ j = 1 := by simp at hj; omega
  rcases this with h | h <;> subst h <;> (rw [World.cell?_alloc_at _ _ _ _ rfl, World.cell?_alloc_at _ _ _ _ rfl]; exact ⟨rfl, rfl⟩)

set_option maxRecDepth 100000 in
set_option maxHeartbeats 8000000 in
theorem known_walk (w : World) :
    Calls Tryd.prog 9 #[] w fun e w' => e = .returned (.bool true) ∧ Below w.heap.size w w' := by
  have hN : ∀ wx, Calls Tryd.prog 15 #[.slice none 0 0] wx fun e w' => e = .returned (.tuple #[.string ⟨fileN.toArray⟩, .int .i64 0]) ∧ Below wx.heap.size wx w' := fun wx => by
    have := put_s none 0 [] wx (.inl rfl) small_nil
    rw [vN, eN] at this; exact this
  have hS : ∀ wx : World, Calls Tryd.prog 15 #[.slice (some ⟨wx.heap.size, 0, none⟩) 1 1] (wx.alloc (.cells #[.string ⟨#[65, 98, 99, 100]⟩, .string ⟨#[120]⟩] 41)) fun e w' => e = .returned (.tuple #[.string ⟨fileS.toArray⟩, .int .i64 0]) ∧ Below wx.heap.size wx w' := fun wx => by
    have := put_s (some ⟨wx.heap.size, 0, none⟩) 1 [c0] (wx.alloc (.cells #[.string ⟨#[65, 98, 99, 100]⟩, .string ⟨#[120]⟩] 41)) (.inr ⟨_, _, rfl, row_one wx c0⟩) c0_small
    rw [vS, c0_put] at this
    exact this.mono fun _ _ ⟨a, b⟩ => ⟨a, ((Below.refl _ _).alloc (Nat.le_refl _) _).trans (b.mono (by simp))⟩
  have hX : ∀ (x : Ch) (n d : ByteArray) (hn : x = (n, d)) (he : putE [x] = 2) (hs : Small [x]) (wx : World), Calls Tryd.prog 15 #[.slice (some ⟨wx.heap.size, 0, none⟩) 1 1] (wx.alloc (.cells #[.string n, .string d] 41)) fun e w' => (∃ s, e = .returned (.tuple #[.string s, .int .i64 2])) ∧ Below wx.heap.size wx w' := fun x n d hn he hs wx => by
    subst hn
    have := put_s (some ⟨wx.heap.size, 0, none⟩) 1 [(n, d)] (wx.alloc (.cells #[.string n, .string d] 41)) (.inr ⟨_, _, rfl, row_one wx (n, d)⟩) hs
    rw [he] at this
    exact this.mono fun _ _ ⟨a, b⟩ => ⟨⟨_, a⟩, ((Below.refl _ _).alloc (Nat.le_refl _) _).trans (b.mono (by simp))⟩
  have hD : ∀ wx : World, Calls Tryd.prog 15 #[.slice (some ⟨wx.heap.size, 0, none⟩) 2 2] (wx.alloc (.cells #[.string ⟨#[97, 98, 99, 100]⟩, .string ⟨#[]⟩, .string ⟨#[97, 98, 99, 100]⟩, .string ⟨#[]⟩] 41)) fun e w' => (∃ s, e = .returned (.tuple #[.string s, .int .i64 2])) ∧ Below wx.heap.size wx w' := fun wx => by
    have := put_s (some ⟨wx.heap.size, 0, none⟩) 2 [x3, x3] (wx.alloc (.cells #[.string ⟨#[97, 98, 99, 100]⟩, .string ⟨#[]⟩, .string ⟨#[97, 98, 99, 100]⟩, .string ⟨#[]⟩] 41)) (.inr ⟨_, _, rfl, row_two wx x3 x3⟩) small_two
    rw [e3] at this
    exact this.mono fun _ _ ⟨a, b⟩ => ⟨⟨_, a⟩, ((Below.refl _ _).alloc (Nat.le_refl _) _).trans (b.mono (by simp))⟩
  have hA := hX x1 ⟨#[97, 98, 99]⟩ ⟨#[]⟩ rfl e1 (small_one _ (by decide) (by decide))
  have hB := hX x2 ⟨#[67, 83, 85, 77]⟩ ⟨#[]⟩ rfl e2 (small_one _ (by decide) (by decide))
  have hGO := fun wx => get_any (fileC ++ [97]) wx (by decide)
  rw [gOther] at hGO
  have hGC := fun wx => get_any fileC wx (by decide)
  rw [gCut] at hGC
  have hs0 : ∀ wx, Calls Tryd.prog 11 #[.string ⟨#[]⟩] wx fun e w' => e = .returned (.int .u32 0) ∧ Below wx.heap.size wx w' := fun wx => by
    have := sum_any ⟨#[]⟩ wx (by decide)
    have e : crc (⟨#[]⟩ : ByteArray).data.toList = 0 := crc0
    rw [e] at this; exact this
  have hsA : ∀ wx, Calls Tryd.prog 11 #[.string ⟨#[97]⟩] wx fun e w' => e = .returned (.int .u32 3904355907) ∧ Below wx.heap.size wx w' := fun wx => by
    have := sum_any ⟨#[97]⟩ wx (by decide)
    have e : crc (⟨#[97]⟩ : ByteArray).data.toList = 3904355907 := crcA
    rw [e] at this; exact this
  clear hX
  have i1 : ∀ wx, (Instr.slice 9 (.string ⟨fileN.toArray⟩) none (some (.int .i64 16)) none).run Tryd.prog wx = .ok (.string ⟨#[83, 72, 78, 68, 0, 0, 0, 12, 67, 83, 85, 77, 0, 0, 0, 4]⟩) wx := fun wx => by kernel_rfl
  have i2 : ∀ wx, (Instr.slice 9 (.string ⟨fileS.toArray⟩) (some (.int .i64 8)) (some (.int .i64 20)) none).run Tryd.prog wx = .ok (.string ⟨#[65, 98, 99, 100, 0, 0, 0, 1, 120, 0, 0, 0]⟩) wx := fun wx => by kernel_rfl
  have i3 : ∀ wx, (Instr.slice 9 (.string ⟨fileS.toArray⟩) (some (.int .i64 31)) none none).run Tryd.prog wx = .ok (.string ⟨#[23]⟩) wx := fun wx => by kernel_rfl
  have i4 : ∀ wx, (Instr.slice 9 (.string ⟨fileS.toArray⟩) none (some (.int .i64 31)) none).run Tryd.prog wx = .ok (.string ⟨fileC.toArray⟩) wx := fun wx => by kernel_rfl
  have i5 : ∀ wx, Sem.run Tryd.prog (Op.stringOp BinOp.add ⟨fileC.toArray⟩ ⟨#[97]⟩) wx = .ok (.string ⟨(fileC ++ [97]).toArray⟩) wx := fun wx => by
    rw [run_string_add_sum wx _ _ (by decide)]; rfl
  have zN : (⟨fileN.toArray⟩ : ByteArray).size = 20 := rfl
  have zS : (⟨fileS.toArray⟩ : ByteArray).size = 32 := rfl
  generalize fileC ++ [97] = fO at *
  generalize fileN.toArray = fN at *
  generalize fileS.toArray = fS at *
  generalize hfc : fileC = fC at *
  clear hfc
  go_enter Tryd.func9, Tryd.ntmps9
  go_wp2_with fail
  refine (hN _).mono ?_
  rintro e w1 ⟨rfl, hb1⟩
  go_wp2_with fail
  refine (hS _).mono ?_
  rintro e w2 ⟨rfl, hb2⟩
  have hB2 := below_next hb1 hb2
  clear hb1 hb2 hN hS
  go_wp2_with fail
  refine (hA _).mono ?_
  rintro e w3 ⟨⟨s3, rfl⟩, hb3⟩
  have hB3 := below_next hB2 hb3
  clear hB2 hb3 hA
  go_wp2_with fail
  refine (hB _).mono ?_
  rintro e w4 ⟨⟨s4, rfl⟩, hb4⟩
  have hB4 := below_next hB3 hb4
  clear hB3 hb4 hB
  go_wp2_with fail
  refine (hD _).mono ?_
  rintro e w5 ⟨⟨s5, rfl⟩, hb5⟩
  have hB5 := below_next hB4 hb5
  clear hB4 hb5 hD
  go_wp2_with fail
  refine (hGO _).mono ?_
  rintro e w6 ⟨v6, rfl, _, hb6⟩
  have hB6 := below_next hB5 hb6
  clear hB5 hb6 hGO
  go_wp2_with fail
  refine (hGC _).mono ?_
  rintro e w7 ⟨v7, rfl, _, hb7⟩
  have hB7 := below_next hB6 hb7
  clear hB6 hb7 hGC
  go_wp2_with fail
  refine (hs0 _).mono ?_
  rintro e w8 ⟨rfl, hb8⟩
  have hB8 := below_next hB7 hb8
  go_wp2_with fail
  refine (hsA _).mono ?_
  rintro e w9 ⟨rfl, hb9⟩
  have hB9 := below_next hB8 hb9
  go_wp2_with fail
  refine (awake_any _).mono ?_
  rintro e w10 ⟨rfl, hb10⟩
  go_wp2_with fail
  go_ret
  exact ⟨rfl, below_next hB9 hb10⟩

end Go.Proofs.YteleaiodkljigaaDoor
