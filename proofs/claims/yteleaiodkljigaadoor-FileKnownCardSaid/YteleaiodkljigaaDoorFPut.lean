/-
  file.Put: what it computes of a list of chunks (at most 40, of bounded size).
-/
import Derived.Test.YteleaiodkljigaaDoorFDistinct
import Derived.Test.YteleaiodkljigaaDoorFBuilder
import Derived.Deep.RegionHeld3
import Derived.Deep.DeepCutAuto
import Derived.Deep.CutBlock
namespace Go.Proofs.YteleaiodkljigaaDoor
open Go.RowKit Go.Shelf Go.Lib

theorem runB_len {l : List Ch} (h : Small l) (z : Nat) : ∀ k, k ≤ l.length → (runB z (l.take k)).length ≤ 8 + k * 60107
  | 0, _ => by simp [runB, be4]
  | k + 1, hk => by
    have ih := runB_len h z k (by omega)
    have h1 := h.2 k (by omega)
    have h2 := (pad4_le l[k]!.2.size).2
    have e1 : l[k]!.1.data.toList.length = l[k]!.1.size := size_list _
    have e2 : l[k]!.2.data.toList.length = l[k]!.2.size := size_list _
    have e3 : (be4 l[k]!.2.size).length = 4 := rfl
    rw [runB_take z (by omega)]
    simp only [chB, List.length_append, List.length_replicate]
    omega
theorem be4_size (m : Nat) : (ByteArray.mk (be4 m).toArray).size = 4 := rfl
theorem le_big {l : List UInt8} {s : ByteArray} (h : l.length ≤ 3000000) (hs : s.size = 8) : l.length + s.size ≤ 140737488355328 := by omega
theorem cat_bytes (a b : List UInt8) : (⟨a.toArray⟩ ++ ⟨b.toArray⟩ : ByteArray) = ⟨(a ++ b).toArray⟩ := by
  apply ByteArray.ext
  rw [ByteArray.data_append]
  simp
theorem ret2s {s t : ByteArray} {a b : Int} (h : s = t) (h' : a = b) : Ending.returned (.tuple #[.string s, .int .i64 a]) = .returned (.tuple #[.string t, .int .i64 b]) := by rw [h, h']
theorem ret2se {l m : List UInt8} {a b : Int} (h : l = m) (h' : a = b) : Ending.returned (.tuple #[.string ⟨l.toArray⟩, .int .i64 a]) = .returned (.tuple #[.string ⟨m.toArray⟩, .int .i64 b]) := by rw [h, h']

set_option maxRecDepth 100000 in
set_option maxHeartbeats 4000000 in
theorem put_s (ao : Option Addr) (c : Nat) (l : List Ch) (w : World) (hr : ListS w ao l) (hs : Small l) :
    Calls Tryd.prog 15 #[.slice ao l.length c] w fun e w' => e = .returned (.tuple #[.string ⟨(putV l).toArray⟩, .int .i64 (putE l)]) ∧ Below w.heap.size w w' := by
  have HR := Lib.hid hr
  have HS := Lib.hid hs
  have hlen := hs.1
  clear hr hs
  cases hd : dst l with
  | false =>
    have E1 : Hid (putV l = []) := Lib.hid (by unfold putV; rw [hd]; rfl)
    have E2 : Hid (putE l = 2) := Lib.hid (by unfold putE; rw [hd]; rfl)
    go_enter Tryd.func15, Tryd.ntmps15
    go_wp2_with (go_at_call 20; refine (distinct_s _ _ _ _ HR.out (by omega)).mono ?_; rintro e w1 ⟨rfl, hb1⟩)
    go_ret2
    exact ⟨ret2se E1.out.symm E2.out.symm, hb1⟩
  | true =>
    go_enter Tryd.func15, Tryd.ntmps15
    go_wp2_with (go_at_call 20; refine (distinct_s _ _ _ _ HR.out (by omega)).mono ?_; rintro e w1 ⟨rfl, hb1⟩)
    go_loopw [4, 15] (fun n i wr => ∃ k : Nat, k ≤ l.length ∧ i = .int .i64 k ∧ n = .int .i64 (szL (l.take k)) ∧ Below w.heap.size w wr) (fun _ i _ => l.length - (intOf i).toNat)
    case atStart => exact ⟨0, Nat.zero_le _, rfl, rfl, hb1⟩
    case round =>
      obtain ⟨k, hk, rfl, rfl, hB⟩ := hrel
      rename World => wr
      have hz := szL_le HS.out k hk
      by_cases hlt : k < l.length
      · have hst := szL_take hlt
        have HST := Lib.hid hst; clear hst
        obtain ⟨b, off, hao, hrr0⟩ := HR.out.row hlt
        subst hao
        have hrr := hrr0.below hB hrr0.1
        have hc0 := (hrr.2 k hlt).1
        have hc1 := (hrr.2 k hlt).2
        have hsz := (HS.out.2 k hlt).1
        clear hrr hrr0
        generalize l[k]!.1 = n at *
        generalize l[k]!.2 = d at *
        generalize szL (l.take k) = z at *
        go_wp2_with (go_at_call 21; refine (padded_any _ _ (by omega) (by omega)).mono ?_; rintro e w2 ⟨rfl, rfl⟩)
        go_roundw
        case rel => exact ⟨k + 1, by omega, by go_num, by rw [HST.out]; exact congrArg (Value.int .i64) (by unfold pad4; omega), hB.alloc hB.size _⟩
        case measure => simp [intOf]; omega
      · have hfull : l.take k = l := List.take_of_length_le (by omega)
        rw [hfull] at hz ⊢
        clear hfull
        by_cases hlong : 16 < l.length
        · have E1 : Hid (putV l = []) := Lib.hid (by unfold putV; rw [hd, if_pos (rfl), if_pos (Or.inl hlong)])
          have E2 : Hid (putE l = 3) := Lib.hid (by unfold putE; rw [hd, if_pos (rfl), if_pos (Or.inl hlong)])
          go_wp2_with fail
          go_ret2
          exact ⟨ret2se E1.out.symm E2.out.symm, hB⟩
        · have E1 : Hid (putV l = fileB l) := Lib.hid (by unfold putV; rw [hd, if_pos (rfl), if_neg (by omega)])
          have E2 : Hid (putE l = 0) := Lib.hid (by unfold putE; rw [hd, if_pos (rfl), if_neg (by omega)])
          generalize hzz : szL l = z at *
          have HZ := Lib.hid hzz; clear hzz
          go_wp2_with (go_at_call 23; refine (number_any _ _ (by omega) (by omega)).mono ?_; rintro e w2 ⟨rfl, hb2⟩)
          have hI := (isB_new wr hB.size).below hb2
          have hB2 : Below w.heap.size w w2 := (hB.alloc hB.size _).trans (hb2.mono (by simp; have := hB.size; omega))
          generalize wr.heap.size = b0 at *
          clear hb2
          refine (write_any w.heap.size b0 [] _ w2 hI (by rw [ByteArray.size_append]; simp [be4, ByteArray.size])).mono ?_
          rintro e w3 ⟨rfl, hI3, hb3, _⟩
          have hB3 : Below w.heap.size w w3 := hB2.trans hb3
          clear hI hb3
          go_wp2_with fail
          go_loopw [41] (fun i wq => ∃ k : Nat, k ≤ l.length ∧ i = .int .i64 k ∧ IsB w.heap.size b0 (runB z (l.take k)) wq ∧ Below w.heap.size w wq) (fun i _ => l.length - (intOf i).toNat)
          case atStart => exact ⟨0, Nat.zero_le _, rfl, by simpa [runB, Lib.strCells, ByteArray.data_append] using hI3, hB3⟩
          case round =>
            obtain ⟨k, hk, rfl, hI4, hB4⟩ := hrel
            rename World => wq
            by_cases hlt : k < l.length
            · obtain ⟨b, off, hao, hrr0⟩ := HR.out.row hlt
              subst hao
              have hrr := hrr0.below hB4 hrr0.1
              have hc0 := (hrr.2 k hlt).1
              have hc1 := (hrr.2 k hlt).2
              have hsz := (HS.out.2 k hlt).1
              have hnz := (HS.out.2 k hlt).2
              have HRT := Lib.hid (runB_take z hlt)
              clear hrr hrr0
              generalize hn : l[k]!.1 = n at *
              generalize hdd : l[k]!.2 = d at *
              have HN := Lib.hid hn; have HD := Lib.hid hdd; clear hn hdd
              go_upto_region 16 with fail
              have hbe : (be4 d.size).length = 4 := rfl
              have hrl : (runB z (l.take k)).length ≤ 3000000 := by have := runB_len HS.out z k hk; omega
              have hsz1 : (n ++ ByteArray.mk (be4 d.size).toArray).size = n.size + 4 := by rw [ByteArray.size_append, be4_size]
              have hadd1 := fun wx => run_string_add_sum (P := Tryd.prog) wx n (ByteArray.mk (be4 d.size).toArray) (by rw [be4_size]; omega)
              have hadd2 := fun wx => run_string_add_sum (P := Tryd.prog) wx (n ++ ByteArray.mk (be4 d.size).toArray) d (by rw [hsz1]; omega)
              have hsz2 : (n ++ ByteArray.mk (be4 d.size).toArray ++ d).size ≤ 200000 := by rw [ByteArray.size_append, hsz1]; omega
              have hdata : Hid ((n ++ ByteArray.mk (be4 d.size).toArray ++ d).data.toList = n.data.toList ++ be4 d.size ++ d.data.toList) := Lib.hid (by simp [ByteArray.data_append])
              have HSZ1 := Lib.hid hsz1; clear hsz1
              have hIa : IsB w.heap.size b0 (runB z (l.take k)) (wq.alloc (.cells #[.string n, .string d] 41)) := hI4.below ((Below.refl _ _).alloc (Nat.le_refl _) _)
              have hBa : Below w.heap.size w (wq.alloc (.cells #[.string n, .string d] 41)) := hB4.alloc hB4.size _
              have hca : (wq.alloc (.cells #[.string n, .string d] 41)).heap[wq.heap.size]? = some (.cells #[.string n, .string d] 41 (0, 0)) := heap_alloc_new _ _
              have hCb : wq.heap.size ≠ b0 := fun e => absurd hI4.lt (by rw [e]; exact Nat.lt_irrefl _)
              generalize wq.alloc (.cells #[.string n, .string d] 41) = wa at *
              generalize wq.heap.size = C at *
              have ha0 : wa.cell? ⟨C, 0, none⟩ = some (.string n) := by rw [cell_of_row _ _ _ _ _ _ hca]; rfl
              have ha1 : wa.cell? ⟨C, 1, none⟩ = some (.string d) := by rw [cell_of_row _ _ _ _ _ _ hca]; rfl
              have hCs : C < wa.heap.size := (Array.getElem?_eq_some_iff.1 hca).1
              have HCA := Lib.hid hca; clear hca
              go_cut [55] (fun s55 wx => IsB w.heap.size b0 (runB z (l.take k) ++ (n.data.toList ++ be4 d.size ++ d.data.toList)) wx ∧ Below w.heap.size w wx ∧ wx.heap[C]? = some (.cells #[.string n, .string d] 41 (0, 0)))
              case first =>
                go_region_held3 (fun w' => w'.cell? ⟨C, 0, none⟩ = some (.string n) ∧ w'.cell? ⟨C, 1, none⟩ = some (.string d)) (exact ⟨by assumption, by assumption⟩)
                  (first
                    | (go_at_call 23; refine (number_any _ _ ?_ ?_).mono ?_; omega; omega; rintro e w5 ⟨rfl, hb5⟩; have q0 : w5.cell? ⟨C, 0, none⟩ = some (.string n) := (hb5.cell (p := ⟨C, 0, none⟩) hCs).trans ha0; have q1 : w5.cell? ⟨C, 1, none⟩ = some (.string d) := (hb5.cell (p := ⟨C, 1, none⟩) hCs).trans ha1; have qh : w5.heap[C]? = some (.cells #[.string n, .string d] 41 (0, 0)) := (hb5.block C hCs).trans HCA.out; have qI : IsB w.heap.size b0 (runB z (l.take k)) w5 := IsB.below (IsB.drew hIa) hb5; have qB : Below w.heap.size w w5 := hBa.drew.trans (hb5.mono hBa.size); have HQH := Lib.hid qh; clear qh)
                    | (go_at_call 22; refine (write_any w.heap.size b0 _ _ _ (by assumption) ?_).mono ?_; omega; rintro e w6 ⟨rfl, hI6, hb6, hk6⟩; have qh6 := hk6 C _ HQH.out (fun e => hCb (Option.some.inj e)) (fun _ _ h => by cases h); have q06 : w6.cell? ⟨C, 0, none⟩ = some (.string n) := (by rw [cell_of_row _ _ _ _ _ _ qh6]; rfl); have q16 : w6.cell? ⟨C, 1, none⟩ = some (.string d) := (by rw [cell_of_row _ _ _ _ _ _ qh6]; rfl); have qB6 : Below w.heap.size w w6 := qB.trans hb6; have HQH6 := Lib.hid qh6; clear qh6))
                go_wp2_with fail
                go_meet
                case rel => exact ⟨by rw [← hdata.out]; exact hI6, qB6, HQH6.out⟩
              case rest =>
                obtain ⟨hI7, hB7, hC7⟩ := hcut
                go_upto_region 17 with fail
                have hp1 := (pad4_le d.size).1
                have hp2 := (pad4_le d.size).2
                have hpe : (((d.size : Int) + 3) / 4 * 4) = (pad4 d.size : Int) := by unfold pad4; omega
                have hHC := Lib.hid hC7
                have hc70 : wc.cell? ⟨C, 0, none⟩ = some (.string n) := by rw [cell_of_row _ _ _ _ _ _ hC7]; rfl
                have hc71 : wc.cell? ⟨C, 1, none⟩ = some (.string d) := by rw [cell_of_row _ _ _ _ _ _ hC7]; rfl
                clear hC7
                have hsub : (pad4 d.size : Int) - (d.size : Int) = ((pad4 d.size - d.size : Nat) : Int) := by omega
                have hm3 : pad4 d.size - d.size ≤ 3 := by omega
                have hpad : ∀ wx, Calls Tryd.prog 21 #[.int .i64 d.size] wx fun e w' => e = .returned (.int .i64 (pad4 d.size : Int)) ∧ wx = w' := fun wx => by
                  have := padded_any d.size wx (by omega) (by omega)
                  rw [hpe] at this; exact this
                clear hpe
                generalize hM : pad4 d.size - d.size = m at *
                generalize hP : pad4 d.size = Pd at *
                have hmi : (m : Int) ≤ 3 := by omega
                have hmw : IntKind.i64.wrap (m : Int) = m := by
                  have : m = 0 ∨ m = 1 ∨ m = 2 ∨ m = 3 := by omega
                  rcases this with h | h | h | h <;> rw [h] <;> rfl
                have hsl : ∀ wx, (Instr.slice 9 (.string ⟨#[0, 0, 0]⟩) none (some (.int .i64 (m : Int))) none).run Tryd.prog wx = .ok (.string ⟨Array.replicate m 0⟩) wx := fun wx => by
                  rw [run_slice_string_to_if (h := by kernel_rfl), if_pos ⟨by omega, by simpa [ByteArray.size] using hmi⟩]
                  have : m = 0 ∨ m = 1 ∨ m = 2 ∨ m = 3 := by omega
                  rcases this with h | h | h | h <;> rw [h] <;> rfl
                have hpm : ((⟨Array.replicate m 0⟩ : ByteArray)).size = m := Array.size_replicate
                have hl7 : (runB z (l.take k) ++ (n.data.toList ++ be4 d.size ++ d.data.toList)).length ≤ 4000000 := by
                  have e1 : n.data.toList.length = n.size := size_list _
                  have e2 : d.data.toList.length = d.size := size_list _
                  simp only [List.length_append]; omega
                go_region_held3 (fun w' => w'.cell? ⟨C, 0, none⟩ = some (.string n) ∧ w'.cell? ⟨C, 1, none⟩ = some (.string d)) (exact ⟨by assumption, by assumption⟩)
                  (first
                    | (go_at_call 21; refine (hpad _).mono ?_; rintro e w5 ⟨rfl, rfl⟩)
                    | (go_at_call 22; refine (write_any w.heap.size b0 _ _ _ (by assumption) ?_).mono ?_; omega; rintro e w6 ⟨rfl, hI6, hb6, hk6⟩; have qh6 := hk6 C _ hHC.out (fun e => hCb (Option.some.inj e)) (fun _ _ h => by cases h); have q06 : w6.cell? ⟨C, 0, none⟩ = some (.string n) := (by rw [cell_of_row _ _ _ _ _ _ qh6]; rfl); have q16 : w6.cell? ⟨C, 1, none⟩ = some (.string d) := (by rw [cell_of_row _ _ _ _ _ _ qh6]; rfl); have qB6 : Below w.heap.size w w6 := hB7.drew.trans hb6; clear qh6))
                go_wp2_with fail
                go_roundw
                case rel => exact ⟨k + 1, by omega, by go_num, by rw [HRT.out, chB, HN.out, HD.out, hP, hM]; simpa using hI6, qB6⟩
                case measure => simp [intOf]; omega
            · have hfull : l.take k = l := List.take_of_length_le (by omega)
              have hrl : (runB z (l.take k)).length ≤ 3000000 := by have := runB_len HS.out z k hk; omega
              rw [hfull] at hI4 hrl
              clear hfull
              go_upto_region 20 with (first
                | (go_at_call 23; refine (number_any _ _ (by omega) (by omega)).mono ?_; rintro e w5 ⟨rfl, hb5⟩)
                | (go_at_call 22; refine (write_any w.heap.size b0 _ _ _ (hI4.below hb5) ?_).mono ?_; exact le_big hrl (by rw [ByteArray.size_append]; rfl); rintro e w6 ⟨rfl, hI6, hb6, hk6⟩))
              have hbl : bodyB l = runB z l ++ ([67, 83, 85, 77] ++ be4 4) := by rw [bodyB, HZ.out]
              have hI7 : IsB w.heap.size b0 (bodyB l) w6 := by rw [hbl]; simpa [ByteArray.data_append] using hI6
              have hbz : (bodyB l).length ≤ 3000100 := by rw [hbl]; simp only [List.length_append]; simp [be4]; omega
              have hB6 : Below w.heap.size w w6 := hB4.trans ((hb5.mono hB4.size).trans hb6)
              have hcl := crc_lt (bodyB l)
              have HB := Lib.hid hbl
              clear hI6 hI4 hbl
              have hfl : Hid (fileB l = bodyB l ++ be4 (crc (bodyB l))) := Lib.hid rfl
              generalize bodyB l = B at *
              have hadd : ∀ wx, Sem.run Tryd.prog (Op.stringOp BinOp.add ⟨B.toArray⟩ ⟨(be4 (crc B)).toArray⟩) wx = .ok (.string (⟨B.toArray⟩ ++ ⟨(be4 (crc B)).toArray⟩)) wx := fun wx => run_string_add_sum wx _ _ (by rw [be4_size]; show B.toArray.size + 4 ≤ _; simp; omega)
              have hsm : ∀ wx, Calls Tryd.prog 11 #[.string ⟨B.toArray⟩] wx fun e w' => e = .returned (.int .u32 (crc B)) ∧ Below wx.heap.size wx w' := fun wx => sum_any ⟨B.toArray⟩ wx (by show B.toArray.size ≤ maxLen; unfold maxLen; simp; omega)
              go_wp2_with (first
                | (go_at_call 24; refine (string_any _ _ _ _ (by assumption)).mono ?_; rintro e w8 ⟨rfl, hI8, hb8⟩)
                | (go_at_call 11; refine (hsm _).mono ?_; rintro e w9 ⟨rfl, hb9⟩)
                | (go_at_call 23; refine (number_any _ _ (by omega) (by omega)).mono ?_; rintro e w10 ⟨rfl, hb10⟩))
              go_ret2
              refine ⟨ret2s (by rw [E1.out, hfl.out]; exact (cat_bytes _ _)) E2.out.symm, ?_⟩
              rename_i w8a hI8a hb8a
              have x1 := hB6.trans hb8a
              have x2 := x1.trans hb8
              have x3 := x2.trans (hb9.mono x2.size)
              exact x3.trans (hb10.mono x3.size)

end Go.Proofs.YteleaiodkljigaaDoor
