/-
  awake: a chunk is written and read.
-/
import Derived.Test.YteleaiodkljigaaDoorFGet
import Derived.Test.YteleaiodkljigaaDoorFBack
namespace Go.Proofs.YteleaiodkljigaaDoor
open Go.RowKit Go.Shelf Go.Lib

def c0 : Ch := (⟨#[65, 98, 99, 100]⟩, ⟨#[120]⟩)
theorem c0_dst : dst [c0] = true := by decide +kernel
theorem c0_sz : szL [c0] = 32 := by decide +kernel
theorem c0_small : Small [c0] := ⟨by decide, fun j hj => by
  have : j = 0 := by simpa using hj
  subst this
  exact ⟨by decide, by decide⟩⟩
theorem c0_put : putE [c0] = 0 := by unfold putE; rw [if_pos c0_dst, if_neg (by rw [c0_sz]; decide)]
theorem crc9 : crc [49, 50, 51, 52, 53, 54, 55, 56, 57] = 3421780262 := by decide +kernel

theorem row_one (w : World) (x : Ch) : RowAt (w.alloc (.cells #[.string x.1, .string x.2] 41)) w.heap.size 0 [x] := by
  refine ⟨by simp, fun j hj => ?_⟩
  have : j = 0 := by simpa using hj
  subst this
  rw [World.cell?_alloc_at _ _ _ _ rfl, World.cell?_alloc_at _ _ _ _ rfl]
  exact ⟨rfl, rfl⟩
set_option maxRecDepth 100000 in
set_option maxHeartbeats 2000000 in
theorem awake_any (w : World) :
    Calls Tryd.prog 10 #[] w fun e w' => e = .returned (.bool true) ∧ Below w.heap.size w w' := by
  obtain ⟨g1, g2, g3, g4, g5⟩ := get_put c0_put
  have hge := fun wx => get_any (putV [c0]) wx (by rw [g3, c0_sz]; decide)
  rw [g1, g2] at hge
  rw [c0_sz] at g3
  have hl32 : (⟨(putV [c0]).toArray⟩ : ByteArray).size = 32 := by show (putV [c0]).toArray.size = 32; simpa using g3
  have hpu := fun ao c wx h => put_s ao c [c0] wx h c0_small
  rw [c0_put] at hpu
  have hsu := fun wx => sum_any ⟨#[49, 50, 51, 52, 53, 54, 55, 56, 57]⟩ wx (by decide)
  have hs9 : crc (⟨#[49, 50, 51, 52, 53, 54, 55, 56, 57]⟩ : ByteArray).data.toList = 3421780262 := crc9
  rw [hs9] at hsu
  clear hs9 g1 g2 g3 g4 g5
  generalize putV [c0] = P at *
  go_enter Tryd.func10, Tryd.ntmps10
  go_wp2_with fail
  have hrow : ListS (w.alloc (.cells #[.string ⟨#[65, 98, 99, 100]⟩, .string ⟨#[120]⟩] 41)) (some ⟨w.heap.size, 0, none⟩) [c0] := .inr ⟨_, _, rfl, row_one w c0⟩
  refine (hpu _ 1 _ hrow).mono ?_
  rintro e w1 ⟨rfl, hb1⟩
  have hB1 : Below w.heap.size w w1 := ((Below.refl _ _).alloc (Nat.le_refl _) _).trans (hb1.mono (by simp))
  clear hb1 hrow hpu
  go_wp2_with fail
  refine (hge _).mono ?_
  rintro e w2 ⟨v, rfl, hl, hb2⟩
  have hB2 := hB1.trans (hb2.mono hB1.size)
  obtain ⟨ao, c, rfl, hls⟩ := listS_of hl
  obtain ⟨b, off, rfl, hr⟩ := hls.row (k := 0) (by decide)
  have h0 : w2.cell? ⟨b, off, none⟩ = some (.string ⟨#[65, 98, 99, 100]⟩) := (hr.2 0 (by decide)).1
  have h1 : w2.cell? ⟨b, off + 1, none⟩ = some (.string ⟨#[120]⟩) := (hr.2 0 (by decide)).2
  clear hb2 hge hl hls hr
  go_wp2_with fail
  refine (hsu _).mono ?_
  rintro e w3 ⟨rfl, hb3⟩
  have hB3 := hB2.trans (hb3.mono hB2.size)
  go_wp2_with fail
  go_ret
  exact ⟨rfl, hB3⟩

end Go.Proofs.YteleaiodkljigaaDoor
