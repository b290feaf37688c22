/-
  The reference's instr: the walk (printed by gen_ginstr.py). The reference's external format: integer: the walk.
-/
import Derived.Test.YtghgbikmlbildaaGreatDoorPutsAll12
import Derived.Test.YtghgbikmlbildaaGreatDoorPutsAll14
import Derived.Test.YtghgbikmlbildaaGreatDoorPutsAll16
import Derived.Test.YtghgbikmlbildaaGreatDoorPutsAll17
import Derived.Test.YtghgbikmlbildaaGreatDoorPutsAll19
namespace Go.Proofs.YtghgbikmlbildaaGreatDoor
open Go.RowKit
set_option linter.unusedVariables false
set_option linter.unusedSimpArgs false

/-- While an instruction is encoded: its box and its row's. -/
structure ISt (X Z : Nat) (xc rc : Array Value) (W0 wx : World) : Prop where
 xb : wx.heap[X]? = some (.cells xc 50 (0, 0))
 rb : wx.heap[Z]? = some (.cells rc 65 (0, 0))
 bel : Below W0.heap.size W0 wx
theorem ISt.below {X Z : Nat} {xc rc : Array Value} {W0 wx wy : World} (h : ISt X Z xc rc W0 wx) (hb : Below wx.heap.size wx wy) : ISt X Z xc rc W0 wy :=
 ⟨(hb.block X (lt_of_row h.xb)).trans h.xb, (hb.block Z (lt_of_row h.rb)).trans h.rb, below_next h.bel hb⟩
theorem row10 {w : World} {B : Nat} {T : TypeId} {v0 v1 v2 v3 v4 v5 v6 v7 v8 v9 : Value} (h : w.heap[B]? = some (.cells #[v0, v1, v2, v3, v4, v5, v6, v7, v8, v9] T (0, 0))) :
  w.cell? ⟨B, 0, none⟩ = some v0 ∧ w.cell? ⟨B, 1, none⟩ = some v1 ∧ w.cell? ⟨B, 2, none⟩ = some v2 ∧ w.cell? ⟨B, 3, none⟩ = some v3 ∧ w.cell? ⟨B, 4, none⟩ = some v4 ∧ w.cell? ⟨B, 5, none⟩ = some v5 ∧ w.cell? ⟨B, 6, none⟩ = some v6 ∧ w.cell? ⟨B, 7, none⟩ = some v7 ∧ w.cell? ⟨B, 8, none⟩ = some v8 ∧ w.cell? ⟨B, 9, none⟩ = some v9 := by
 have hc := fun j => cell_of_row w B j _ _ _ h
 exact ⟨hc 0, hc 1, hc 2, hc 3, hc 4, hc 5, hc 6, hc 7, hc 8, hc 9⟩
theorem srcW_cons {l : List RArg} {k : Nat} (h : k < l.length) : srcW (l.drop k) = argW l[k] ++ srcW (l.drop (k + 1)) := by
 unfold srcW; rw [List.drop_eq_getElem_cons h]; rfl
theorem casesW_cons {l : List RCase} {k : Nat} (h : k < l.length) : casesW (l.drop k) = (vint l[k].lit.toNat ++ vint l[k].to.toNat) ++ casesW (l.drop (k + 1)) := by
 unfold casesW; rw [List.drop_eq_getElem_cons h]; rfl
theorem segsW_cons {l : List RSeg} {k : Nat} (h : k < l.length) : segsW (l.drop k) = (vint l[k].type.toNat ++ (argW l[k].val ++ (argW l[k].size ++ boolW l[k].little))) ++ segsW (l.drop (k + 1)) := by
 unfold segsW; rw [List.drop_eq_getElem_cons h]; rfl
set_option maxRecDepth 100000 in
set_option maxHeartbeats 80000000 in
theorem rinstr16_any (x : RIns) (so co go : Option Addr) (sc cc gc : Nat) (w : World) (hsrc : SlAt w 2 ArgR so x.src) (hcs : SlAt w 2 CaseR co x.cases) (hsg : SlAt w 6 SegR go x.segs) (hop : 1 ≤ x.op ∧ x.op ≤ 40) (hw : WIns (rowAt x.op).1.toNat x) :
  Calls Tryz.prog 53 #[.agg #[.int .i64 x.op, .int .i64 x.dst.kind, .int .i64 x.dst.n, .slice so x.src.length sc, .int .i64 x.to, .int .i64 x.n, .int .i64 x.live, .string x.name, .slice co x.cases.length cc, .slice go x.segs.length gc]] w fun e w' => e = .returned (.string ⟨(instrW (rowAt x.op).1.toNat x).toArray⟩) ∧ Below w.heap.size w w' := by
 have hro := fun wx => rrowOf_any x.op wx
 rw [rrow_is hop] at hro
 simp only [RRow.val] at hro
 have HW := Lib.hid hw
 have HE := Lib.hid (instrW_end (rowAt x.op).1.toNat x)
 have hop0 := hw.op0; have hop1 := hw.op1; have hn0 := hw.n0; have hn1 := hw.n1; have hto0 := hw.to0; have hto1 := hw.to1; have hlv0 := hw.live0; have hlv1 := hw.live1
 have hl1 := hw.srcLen; have hl2 := hw.casesLen; have hl3 := hw.segsLen; have hl4 := hw.name
 have HDST := Lib.hid hw.dst
 have HSR0 := Lib.hid hsrc; have HCA0 := Lib.hid hcs; have HSG0 := Lib.hid hsg
 clear hw hsrc hcs hsg hop
 generalize instrW (rowAt x.op).1.toNat x = WW at *
 generalize hasB (rowAt x.op).1.toNat 1 = q1 at *
 generalize hasB (rowAt x.op).1.toNat 2 = q2 at *
 generalize hasB (rowAt x.op).1.toNat 4 = q4 at *
 generalize hasB (rowAt x.op).1.toNat 8 = q8 at *
 generalize hasB (rowAt x.op).1.toNat 16 = q16 at *
 generalize hasB (rowAt x.op).1.toNat 32 = q32 at *
 generalize hasB (rowAt x.op).1.toNat 64 = q64 at *
 generalize hasB (rowAt x.op).1.toNat 128 = q128 at *
 generalize (rowAt x.op).2.1 = rlo at *
 generalize (rowAt x.op).2.2 = rhi at *
 generalize opOk x.op = qk at *
 have hxb := heap_alloc_new w (.cells #[.int .i64 x.op, .int .i64 x.dst.kind, .int .i64 x.dst.n, .slice so x.src.length sc, .int .i64 x.to, .int .i64 x.n, .int .i64 x.live, .string x.name, .slice co x.cases.length cc, .slice go x.segs.length gc] 50)
 have hba : Below w.heap.size w (w.alloc (.cells #[.int .i64 x.op, .int .i64 x.dst.kind, .int .i64 x.dst.n, .slice so x.src.length sc, .int .i64 x.to, .int .i64 x.n, .int .i64 x.live, .string x.name, .slice co x.cases.length cc, .slice go x.segs.length gc] 50)) := (Below.refl _ _).alloc (Nat.le_refl _) _
 have HSR := Lib.hid (HSR0.out.mono hba fun _ _ h => h)
 have HCA := Lib.hid (HCA0.out.mono hba fun _ _ h => h)
 have HSG := Lib.hid (HSG0.out.mono hba fun _ _ h => h)
 clear HSR0 HCA0 HSG0
 go_enter Tryz.func53, Tryz.ntmps53
 go_upto_region 1 with fail
 generalize w.alloc (.cells #[.int .i64 x.op, .int .i64 x.dst.kind, .int .i64 x.dst.n, .slice so x.src.length sc, .int .i64 x.to, .int .i64 x.n, .int .i64 x.live, .string x.name, .slice co x.cases.length cc, .slice go x.segs.length gc] 50) = W0 at *
 generalize hXz : w.heap.size = X at *
 have HXZ := Lib.hid hXz
 have HBA := Lib.hid hba; have HXB := Lib.hid hxb
 clear hXz hba
 have HFIN : Hid (∀ wx, Below W0.heap.size W0 wx → Below X w wx) := Lib.hid (fun wx hh => HBA.out.trans (hh.mono (by have := HBA.out.size; have := HXZ.out; omega)))
 obtain ⟨c0, c1, c2, c3, c4, c5, c6, c7, c8, c9⟩ := row10 hxb
 have hlx := lt_of_row hxb
 clear hxb
 go_wp2_with fail
 refine (hro _).mono ?_
 rintro e w1 ⟨rfl, hb1⟩
 have hxb1 := (hb1.block X hlx).trans HXB.out
 have hr1 := heap_alloc_new w1 (.cells #[.bool q1, .bool q2, .bool q4, .bool q8, .bool q16, .bool q32, .bool q64, .bool q128, .int .i64 rlo, .int .i64 rhi] 65)
 have hrb1 : Below w1.heap.size w1 (w1.alloc (.cells #[.bool q1, .bool q2, .bool q4, .bool q8, .bool q16, .bool q32, .bool q64, .bool q128, .int .i64 rlo, .int .i64 rhi] 65)) := (Below.refl _ _).alloc (Nat.le_refl _) _
 have HS : Hid (ISt X w1.heap.size #[.int .i64 x.op, .int .i64 x.dst.kind, .int .i64 x.dst.n, .slice so x.src.length sc, .int .i64 x.to, .int .i64 x.n, .int .i64 x.live, .string x.name, .slice co x.cases.length cc, .slice go x.segs.length gc] #[.bool q1, .bool q2, .bool q4, .bool q8, .bool q16, .bool q32, .bool q64, .bool q128, .int .i64 rlo, .int .i64 rhi] W0 (w1.alloc (.cells #[.bool q1, .bool q2, .bool q4, .bool q8, .bool q16, .bool q32, .bool q64, .bool q128, .int .i64 rlo, .int .i64 rhi] 65))) := Lib.hid ⟨(hrb1.block X (lt_of_row hxb1)).trans hxb1, hr1, below_next hb1 hrb1⟩
 clear hb1 hxb1 hr1 hrb1 hro c0 c1 c2 c3 c4 c5 c6 c7 c8 c9 hlx HXB
 go_upto_region 2 with fail
 generalize w1.alloc (.cells #[.bool q1, .bool q2, .bool q4, .bool q8, .bool q16, .bool q32, .bool q64, .bool q128, .int .i64 rlo, .int .i64 rhi] 65) = W1 at *
 generalize w1.heap.size = Z at *
 obtain ⟨c0, c1, c2, c3, c4, c5, c6, c7, c8, c9⟩ := row10 HS.out.xb
 obtain ⟨r0, r1, r2, r3, r4, r5, r6, r7, r8, r9⟩ := row10 HS.out.rb
 have hlx := lt_of_row HS.out.xb; have hlz := lt_of_row HS.out.rb
 have h0 := fun wx => rvarint_le x.op wx hop0 (by omega)
 have hvl := vint_len x.op.toNat
 go_wp2_with fail
 refine (h0 _).mono ?_
 rintro e w2 ⟨rfl, hb⟩
 have HV : Hid (WW = vint x.op.toNat ++ (opt q1 (argW x.dst) ++ (opt q2 (vint x.src.length ++ srcW x.src) ++ (opt q4 (vint x.n.toNat) ++ (opt q8 (textW x.name) ++ (opt q16 (vint x.cases.length ++ casesW x.cases) ++ (opt q32 (vint x.segs.length ++ segsW x.segs) ++ (opt q64 (vint x.to.toNat) ++ (opt q128 (vint x.live.toNat) ++ ([] : List UInt8)))))))))) := Lib.hid HE.out
 have hp : (vint x.op.toNat).length ≤ 10 := hvl
 have HS := Lib.hid (HS.out.below hb)
 clear hb h0 hvl HE
 generalize vint x.op.toNat = p at *
 clear c0 c1 c2 c3 c4 c5 c6 c7 c8 c9 r0 r1 r2 r3 r4 r5 r6 r7 r8 r9 hlx hlz
 obtain ⟨c0, c1, c2, c3, c4, c5, c6, c7, c8, c9⟩ := row10 HS.out.xb
 obtain ⟨r0, r1, r2, r3, r4, r5, r6, r7, r8, r9⟩ := row10 HS.out.rb
 have hlx := lt_of_row HS.out.xb; have hlz := lt_of_row HS.out.rb
 go_upto_if 20 with fail
 go_cut [5] (fun s wx => ∃ p : List UInt8, s = .string ⟨p.toArray⟩ ∧ Hid (WW = p ++ (opt q2 (vint x.src.length ++ srcW x.src) ++ (opt q4 (vint x.n.toNat) ++ (opt q8 (textW x.name) ++ (opt q16 (vint x.cases.length ++ casesW x.cases) ++ (opt q32 (vint x.segs.length ++ segsW x.segs) ++ (opt q64 (vint x.to.toNat) ++ (opt q128 (vint x.live.toNat) ++ ([] : List UInt8))))))))) ∧ p.length ≤ 20 ∧ Hid (ISt X Z #[.int .i64 x.op, .int .i64 x.dst.kind, .int .i64 x.dst.n, .slice so x.src.length sc, .int .i64 x.to, .int .i64 x.n, .int .i64 x.live, .string x.name, .slice co x.cases.length cc, .slice go x.segs.length gc] #[.bool q1, .bool q2, .bool q4, .bool q8, .bool q16, .bool q32, .bool q64, .bool q128, .int .i64 rlo, .int .i64 rhi] W0 wx))
 case first =>
  cases q1 with
  | false =>
   have HV2 : Hid (WW = p ++ (opt q2 (vint x.src.length ++ srcW x.src) ++ (opt q4 (vint x.n.toNat) ++ (opt q8 (textW x.name) ++ (opt q16 (vint x.cases.length ++ casesW x.cases) ++ (opt q32 (vint x.segs.length ++ segsW x.segs) ++ (opt q64 (vint x.to.toNat) ++ (opt q128 (vint x.live.toNat) ++ ([] : List UInt8))))))))) := Lib.hid HV.out
   go_wp2_with fail
   go_meet
   case rel => exact ⟨p, rfl, HV2, by omega, HS⟩
  | true =>
   have hA := argW_len x.dst
   have hadd := fun wx => run_string_add_sum (P := Tryz.prog) wx ⟨p.toArray⟩ ⟨(argW x.dst).toArray⟩ (by rw [bsz, bsz]; omega)
   go_wp2_with fail
   refine (rarg16_any x.dst _ (HDST.out (by trivial))).mono ?_
   rintro e w11 ⟨rfl, hb⟩
   have HS := Lib.hid (HS.out.below hb)
   clear hb
   have HV2 : Hid (WW = (p ++ argW x.dst) ++ (opt q2 (vint x.src.length ++ srcW x.src) ++ (opt q4 (vint x.n.toNat) ++ (opt q8 (textW x.name) ++ (opt q16 (vint x.cases.length ++ casesW x.cases) ++ (opt q32 (vint x.segs.length ++ segsW x.segs) ++ (opt q64 (vint x.to.toNat) ++ (opt q128 (vint x.live.toNat) ++ ([] : List UInt8))))))))) := Lib.hid (by rw [HV.out, List.append_assoc]; rfl)
   clear c0 c1 c2 c3 c4 c5 c6 c7 c8 c9 r0 r1 r2 r3 r4 r5 r6 r7 r8 r9 hlx hlz
   go_wp2_with fail
   go_meet
   case rel => exact ⟨p ++ argW x.dst, congrArg Value.string (cat_bytes _ _), HV2, by rw [List.length_append]; omega, HS⟩
 case rest =>
  obtain ⟨p, rfl, HV, hp, HS⟩ := hcut
  clear c0 c1 c2 c3 c4 c5 c6 c7 c8 c9 r0 r1 r2 r3 r4 r5 r6 r7 r8 r9 hlx hlz
  obtain ⟨c0, c1, c2, c3, c4, c5, c6, c7, c8, c9⟩ := row10 HS.out.xb
  obtain ⟨r0, r1, r2, r3, r4, r5, r6, r7, r8, r9⟩ := row10 HS.out.rb
  have hlx := lt_of_row HS.out.xb; have hlz := lt_of_row HS.out.rb
  go_upto_if 27 with fail
  go_cut [5] (fun s wx => ∃ p : List UInt8, s = .string ⟨p.toArray⟩ ∧ Hid (WW = p ++ (opt q4 (vint x.n.toNat) ++ (opt q8 (textW x.name) ++ (opt q16 (vint x.cases.length ++ casesW x.cases) ++ (opt q32 (vint x.segs.length ++ segsW x.segs) ++ (opt q64 (vint x.to.toNat) ++ (opt q128 (vint x.live.toNat) ++ ([] : List UInt8)))))))) ∧ p.length ≤ 11000 ∧ Hid (ISt X Z #[.int .i64 x.op, .int .i64 x.dst.kind, .int .i64 x.dst.n, .slice so x.src.length sc, .int .i64 x.to, .int .i64 x.n, .int .i64 x.live, .string x.name, .slice co x.cases.length cc, .slice go x.segs.length gc] #[.bool q1, .bool q2, .bool q4, .bool q8, .bool q16, .bool q32, .bool q64, .bool q128, .int .i64 rlo, .int .i64 rhi] W0 wx))
  case first =>
   cases q2 with
   | false =>
    have HV2 : Hid (WW = p ++ (opt q4 (vint x.n.toNat) ++ (opt q8 (textW x.name) ++ (opt q16 (vint x.cases.length ++ casesW x.cases) ++ (opt q32 (vint x.segs.length ++ segsW x.segs) ++ (opt q64 (vint x.to.toNat) ++ (opt q128 (vint x.live.toNat) ++ ([] : List UInt8)))))))) := Lib.hid HV.out
    go_wp2_with fail
    go_meet
    case rel => exact ⟨p, rfl, HV2, by omega, HS⟩
   | true =>
    have hA := vint_len x.src.length
    have hadd := fun wx => run_string_add_sum (P := Tryz.prog) wx ⟨p.toArray⟩ ⟨(vint x.src.length).toArray⟩ (by rw [bsz, bsz]; omega)
    go_wp2_with fail
    refine (rvarint_any 9 x.src.length _ (by omega) (by omega)).mono ?_
    rintro e w12 ⟨rfl, hb⟩
    have HS := Lib.hid (HS.out.below hb)
    clear hb
    have HV2 : Hid (WW = (p ++ vint x.src.length) ++ (srcW (x.src.drop 0) ++ (opt q4 (vint x.n.toNat) ++ (opt q8 (textW x.name) ++ (opt q16 (vint x.cases.length ++ casesW x.cases) ++ (opt q32 (vint x.segs.length ++ segsW x.segs) ++ (opt q64 (vint x.to.toNat) ++ (opt q128 (vint x.live.toNat) ++ ([] : List UInt8))))))))) := Lib.hid (by rw [HV.out, List.append_assoc]; show p ++ ((vint x.src.length ++ srcW x.src) ++ _) = _; rw [List.append_assoc]; rfl)
    clear c0 c1 c2 c3 c4 c5 c6 c7 c8 c9 r0 r1 r2 r3 r4 r5 r6 r7 r8 r9 hlx hlz
    obtain ⟨c0, c1, c2, c3, c4, c5, c6, c7, c8, c9⟩ := row10 HS.out.xb
    obtain ⟨r0, r1, r2, r3, r4, r5, r6, r7, r8, r9⟩ := row10 HS.out.rb
    have hlx := lt_of_row HS.out.xb; have hlz := lt_of_row HS.out.rb
    go_wp2_with fail
    go_loopw [5, 6] (fun s iv wr => ∃ (k : Nat) (p2 : List UInt8), k ≤ x.src.length ∧ iv = .int .i64 k ∧ s = .string ⟨p2.toArray⟩ ∧ Hid (WW = p2 ++ (srcW (x.src.drop k) ++ (opt q4 (vint x.n.toNat) ++ (opt q8 (textW x.name) ++ (opt q16 (vint x.cases.length ++ casesW x.cases) ++ (opt q32 (vint x.segs.length ++ segsW x.segs) ++ (opt q64 (vint x.to.toNat) ++ (opt q128 (vint x.live.toNat) ++ ([] : List UInt8))))))))) ∧ p2.length ≤ 30 + 10 * k ∧ Hid (ISt X Z #[.int .i64 x.op, .int .i64 x.dst.kind, .int .i64 x.dst.n, .slice so x.src.length sc, .int .i64 x.to, .int .i64 x.n, .int .i64 x.live, .string x.name, .slice co x.cases.length cc, .slice go x.segs.length gc] #[.bool q1, .bool true, .bool q4, .bool q8, .bool q16, .bool q32, .bool q64, .bool q128, .int .i64 rlo, .int .i64 rhi] W0 wr)) (fun s iv wr => x.src.length - (intOf iv).toNat)
    case atStart => exact ⟨0, p ++ vint x.src.length, Nat.zero_le _, rfl, congrArg Value.string (cat_bytes _ _), HV2, by rw [List.length_append]; omega, HS⟩
    case round =>
     obtain ⟨k, p2, hk, rfl, rfl, HV3, hp2, HS⟩ := hrel
     rename World => wr
     clear hadd
     clear c0 c1 c2 c3 c4 c5 c6 c7 c8 c9 r0 r1 r2 r3 r4 r5 r6 r7 r8 r9 hlx hlz
     obtain ⟨c0, c1, c2, c3, c4, c5, c6, c7, c8, c9⟩ := row10 HS.out.xb
     obtain ⟨r0, r1, r2, r3, r4, r5, r6, r7, r8, r9⟩ := row10 HS.out.rb
     have hlx := lt_of_row HS.out.xb; have hlz := lt_of_row HS.out.rb
     by_cases hlt : k < x.src.length
     ·obtain ⟨b1, off1, hao, hb1, s0, s1, t0, t1⟩ := (HSR.out.mono HS.out.bel fun _ _ h => h).arg hlt
      subst hao
      have hwa := HW.out.src _ (List.getElem_mem hlt)
      have HC := Lib.hid (fun wx => rarg16_any x.src[k] wx hwa)
      have HV4 : Hid (WW = (p2 ++ argW x.src[k]) ++ (srcW (x.src.drop (k + 1)) ++ (opt q4 (vint x.n.toNat) ++ (opt q8 (textW x.name) ++ (opt q16 (vint x.cases.length ++ casesW x.cases) ++ (opt q32 (vint x.segs.length ++ segsW x.segs) ++ (opt q64 (vint x.to.toNat) ++ (opt q128 (vint x.live.toNat) ++ ([] : List UInt8))))))))) := Lib.hid (by rw [HV3.out, srcW_cons hlt]; simp only [List.append_assoc])
      have hA2 := argW_len x.src[k]
      clear hwa t0 t1
      generalize argW x.src[k] = A at *
      generalize x.src[k] = u at *
      have hadd := fun wx => run_string_add_sum (P := Tryz.prog) wx ⟨p2.toArray⟩ ⟨A.toArray⟩ (by rw [bsz, bsz]; omega)
      go_wp2_with fail
      refine (HC.out _).mono ?_
      rintro e w13 ⟨rfl, hb⟩
      have HS := Lib.hid (HS.out.below hb)
      clear hb c0 c1 c2 c3 c4 c5 c6 c7 c8 c9 r0 r1 r2 r3 r4 r5 r6 r7 r8 r9 hlx hlz
      go_wp2_with fail
      go_roundw
      case rel => exact ⟨k + 1, p2 ++ A, by omega, by go_num, congrArg Value.string (cat_bytes _ _), HV4, by rw [List.length_append]; omega, HS⟩
      case measure => simp [intOf]; omega
     ·have HV4 : Hid (WW = p2 ++ (opt q4 (vint x.n.toNat) ++ (opt q8 (textW x.name) ++ (opt q16 (vint x.cases.length ++ casesW x.cases) ++ (opt q32 (vint x.segs.length ++ segsW x.segs) ++ (opt q64 (vint x.to.toNat) ++ (opt q128 (vint x.live.toNat) ++ ([] : List UInt8)))))))) := Lib.hid (by rw [HV3.out, List.drop_eq_nil_of_le (by omega)]; rfl)
      go_wp2_with fail
      go_meet
      case rel => exact ⟨p2, rfl, HV4, by omega, HS⟩
  case rest =>
   obtain ⟨p, rfl, HV, hp, HS⟩ := hcut
   clear c0 c1 c2 c3 c4 c5 c6 c7 c8 c9 r0 r1 r2 r3 r4 r5 r6 r7 r8 r9 hlx hlz
   obtain ⟨c0, c1, c2, c3, c4, c5, c6, c7, c8, c9⟩ := row10 HS.out.xb
   obtain ⟨r0, r1, r2, r3, r4, r5, r6, r7, r8, r9⟩ := row10 HS.out.rb
   have hlx := lt_of_row HS.out.xb; have hlz := lt_of_row HS.out.rb
   go_upto_if 50 with fail
   go_cut [5] (fun s wx => ∃ p : List UInt8, s = .string ⟨p.toArray⟩ ∧ Hid (WW = p ++ (opt q8 (textW x.name) ++ (opt q16 (vint x.cases.length ++ casesW x.cases) ++ (opt q32 (vint x.segs.length ++ segsW x.segs) ++ (opt q64 (vint x.to.toNat) ++ (opt q128 (vint x.live.toNat) ++ ([] : List UInt8))))))) ∧ p.length ≤ 11010 ∧ Hid (ISt X Z #[.int .i64 x.op, .int .i64 x.dst.kind, .int .i64 x.dst.n, .slice so x.src.length sc, .int .i64 x.to, .int .i64 x.n, .int .i64 x.live, .string x.name, .slice co x.cases.length cc, .slice go x.segs.length gc] #[.bool q1, .bool q2, .bool q4, .bool q8, .bool q16, .bool q32, .bool q64, .bool q128, .int .i64 rlo, .int .i64 rhi] W0 wx))
   case first =>
    cases q4 with
    | false =>
     have HV2 : Hid (WW = p ++ (opt q8 (textW x.name) ++ (opt q16 (vint x.cases.length ++ casesW x.cases) ++ (opt q32 (vint x.segs.length ++ segsW x.segs) ++ (opt q64 (vint x.to.toNat) ++ (opt q128 (vint x.live.toNat) ++ ([] : List UInt8))))))) := Lib.hid HV.out
     go_wp2_with fail
     go_meet
     case rel => exact ⟨p, rfl, HV2, by omega, HS⟩
    | true =>
     have hA := vint_len x.n.toNat
     have hadd := fun wx => run_string_add_sum (P := Tryz.prog) wx ⟨p.toArray⟩ ⟨(vint x.n.toNat).toArray⟩ (by rw [bsz, bsz]; omega)
     go_wp2_with fail
     refine (rvarint_le x.n _ hn0 (by omega)).mono ?_
     rintro e w14 ⟨rfl, hb⟩
     have HS := Lib.hid (HS.out.below hb)
     clear hb
     have HV2 : Hid (WW = (p ++ vint x.n.toNat) ++ (opt q8 (textW x.name) ++ (opt q16 (vint x.cases.length ++ casesW x.cases) ++ (opt q32 (vint x.segs.length ++ segsW x.segs) ++ (opt q64 (vint x.to.toNat) ++ (opt q128 (vint x.live.toNat) ++ ([] : List UInt8))))))) := Lib.hid (by rw [HV.out, List.append_assoc]; rfl)
     clear c0 c1 c2 c3 c4 c5 c6 c7 c8 c9 r0 r1 r2 r3 r4 r5 r6 r7 r8 r9 hlx hlz
     go_wp2_with fail
     go_meet
     case rel => exact ⟨p ++ vint x.n.toNat, congrArg Value.string (cat_bytes _ _), HV2, by rw [List.length_append]; omega, HS⟩
   case rest =>
    obtain ⟨p, rfl, HV, hp, HS⟩ := hcut
    clear c0 c1 c2 c3 c4 c5 c6 c7 c8 c9 r0 r1 r2 r3 r4 r5 r6 r7 r8 r9 hlx hlz
    obtain ⟨c0, c1, c2, c3, c4, c5, c6, c7, c8, c9⟩ := row10 HS.out.xb
    obtain ⟨r0, r1, r2, r3, r4, r5, r6, r7, r8, r9⟩ := row10 HS.out.rb
    have hlx := lt_of_row HS.out.xb; have hlz := lt_of_row HS.out.rb
    go_upto_if 57 with fail
    go_cut [5] (fun s wx => ∃ p : List UInt8, s = .string ⟨p.toArray⟩ ∧ Hid (WW = p ++ (opt q16 (vint x.cases.length ++ casesW x.cases) ++ (opt q32 (vint x.segs.length ++ segsW x.segs) ++ (opt q64 (vint x.to.toNat) ++ (opt q128 (vint x.live.toNat) ++ ([] : List UInt8)))))) ∧ p.length ≤ 13000 ∧ Hid (ISt X Z #[.int .i64 x.op, .int .i64 x.dst.kind, .int .i64 x.dst.n, .slice so x.src.length sc, .int .i64 x.to, .int .i64 x.n, .int .i64 x.live, .string x.name, .slice co x.cases.length cc, .slice go x.segs.length gc] #[.bool q1, .bool q2, .bool q4, .bool q8, .bool q16, .bool q32, .bool q64, .bool q128, .int .i64 rlo, .int .i64 rhi] W0 wx))
    case first =>
     cases q8 with
     | false =>
      have HV2 : Hid (WW = p ++ (opt q16 (vint x.cases.length ++ casesW x.cases) ++ (opt q32 (vint x.segs.length ++ segsW x.segs) ++ (opt q64 (vint x.to.toNat) ++ (opt q128 (vint x.live.toNat) ++ ([] : List UInt8)))))) := Lib.hid HV.out
      go_wp2_with fail
      go_meet
      case rel => exact ⟨p, rfl, HV2, by omega, HS⟩
     | true =>
      have hA := textW_len x.name
      have hadd := fun wx => run_string_add_sum (P := Tryz.prog) wx ⟨p.toArray⟩ ⟨(textW x.name).toArray⟩ (by rw [bsz, bsz]; omega)
      go_wp2_with fail
      refine (rtext16_any x.name _ (by omega)).mono ?_
      rintro e w15 ⟨rfl, hb⟩
      have HS := Lib.hid (HS.out.below hb)
      clear hb
      have HV2 : Hid (WW = (p ++ textW x.name) ++ (opt q16 (vint x.cases.length ++ casesW x.cases) ++ (opt q32 (vint x.segs.length ++ segsW x.segs) ++ (opt q64 (vint x.to.toNat) ++ (opt q128 (vint x.live.toNat) ++ ([] : List UInt8)))))) := Lib.hid (by rw [HV.out, List.append_assoc]; rfl)
      clear c0 c1 c2 c3 c4 c5 c6 c7 c8 c9 r0 r1 r2 r3 r4 r5 r6 r7 r8 r9 hlx hlz
      go_wp2_with fail
      go_meet
      case rel => exact ⟨p ++ textW x.name, congrArg Value.string (cat_bytes _ _), HV2, by rw [List.length_append]; omega, HS⟩
    case rest =>
     obtain ⟨p, rfl, HV, hp, HS⟩ := hcut
     clear c0 c1 c2 c3 c4 c5 c6 c7 c8 c9 r0 r1 r2 r3 r4 r5 r6 r7 r8 r9 hlx hlz
     obtain ⟨c0, c1, c2, c3, c4, c5, c6, c7, c8, c9⟩ := row10 HS.out.xb
     obtain ⟨r0, r1, r2, r3, r4, r5, r6, r7, r8, r9⟩ := row10 HS.out.rb
     have hlx := lt_of_row HS.out.xb; have hlz := lt_of_row HS.out.rb
     go_upto_if 64 with fail
     go_cut [5] (fun s wx => ∃ p : List UInt8, s = .string ⟨p.toArray⟩ ∧ Hid (WW = p ++ (opt q32 (vint x.segs.length ++ segsW x.segs) ++ (opt q64 (vint x.to.toNat) ++ (opt q128 (vint x.live.toNat) ++ ([] : List UInt8))))) ∧ p.length ≤ 34000 ∧ Hid (ISt X Z #[.int .i64 x.op, .int .i64 x.dst.kind, .int .i64 x.dst.n, .slice so x.src.length sc, .int .i64 x.to, .int .i64 x.n, .int .i64 x.live, .string x.name, .slice co x.cases.length cc, .slice go x.segs.length gc] #[.bool q1, .bool q2, .bool q4, .bool q8, .bool q16, .bool q32, .bool q64, .bool q128, .int .i64 rlo, .int .i64 rhi] W0 wx))
     case first =>
      cases q16 with
      | false =>
       have HV2 : Hid (WW = p ++ (opt q32 (vint x.segs.length ++ segsW x.segs) ++ (opt q64 (vint x.to.toNat) ++ (opt q128 (vint x.live.toNat) ++ ([] : List UInt8))))) := Lib.hid HV.out
       go_wp2_with fail
       go_meet
       case rel => exact ⟨p, rfl, HV2, by omega, HS⟩
      | true =>
       have hA := vint_len x.cases.length
       have hadd := fun wx => run_string_add_sum (P := Tryz.prog) wx ⟨p.toArray⟩ ⟨(vint x.cases.length).toArray⟩ (by rw [bsz, bsz]; omega)
       go_wp2_with fail
       refine (rvarint_any 9 x.cases.length _ (by omega) (by omega)).mono ?_
       rintro e w16 ⟨rfl, hb⟩
       have HS := Lib.hid (HS.out.below hb)
       clear hb
       have HV2 : Hid (WW = (p ++ vint x.cases.length) ++ (casesW (x.cases.drop 0) ++ (opt q32 (vint x.segs.length ++ segsW x.segs) ++ (opt q64 (vint x.to.toNat) ++ (opt q128 (vint x.live.toNat) ++ ([] : List UInt8)))))) := Lib.hid (by rw [HV.out, List.append_assoc]; show p ++ ((vint x.cases.length ++ casesW x.cases) ++ _) = _; rw [List.append_assoc]; rfl)
       clear c0 c1 c2 c3 c4 c5 c6 c7 c8 c9 r0 r1 r2 r3 r4 r5 r6 r7 r8 r9 hlx hlz
       obtain ⟨c0, c1, c2, c3, c4, c5, c6, c7, c8, c9⟩ := row10 HS.out.xb
       obtain ⟨r0, r1, r2, r3, r4, r5, r6, r7, r8, r9⟩ := row10 HS.out.rb
       have hlx := lt_of_row HS.out.xb; have hlz := lt_of_row HS.out.rb
       go_wp2_with fail
       go_loopw [5, 7] (fun s iv wr => ∃ (k : Nat) (p2 : List UInt8), k ≤ x.cases.length ∧ iv = .int .i64 k ∧ s = .string ⟨p2.toArray⟩ ∧ Hid (WW = p2 ++ (casesW (x.cases.drop k) ++ (opt q32 (vint x.segs.length ++ segsW x.segs) ++ (opt q64 (vint x.to.toNat) ++ (opt q128 (vint x.live.toNat) ++ ([] : List UInt8)))))) ∧ p2.length ≤ 13010 + 20 * k ∧ Hid (ISt X Z #[.int .i64 x.op, .int .i64 x.dst.kind, .int .i64 x.dst.n, .slice so x.src.length sc, .int .i64 x.to, .int .i64 x.n, .int .i64 x.live, .string x.name, .slice co x.cases.length cc, .slice go x.segs.length gc] #[.bool q1, .bool q2, .bool q4, .bool q8, .bool true, .bool q32, .bool q64, .bool q128, .int .i64 rlo, .int .i64 rhi] W0 wr)) (fun s iv wr => x.cases.length - (intOf iv).toNat)
       case atStart => exact ⟨0, p ++ vint x.cases.length, Nat.zero_le _, rfl, congrArg Value.string (cat_bytes _ _), HV2, by rw [List.length_append]; omega, HS⟩
       case round =>
        obtain ⟨k, p2, hk, rfl, rfl, HV3, hp2, HS⟩ := hrel
        rename World => wr
        clear hadd
        clear c0 c1 c2 c3 c4 c5 c6 c7 c8 c9 r0 r1 r2 r3 r4 r5 r6 r7 r8 r9 hlx hlz
        obtain ⟨c0, c1, c2, c3, c4, c5, c6, c7, c8, c9⟩ := row10 HS.out.xb
        obtain ⟨r0, r1, r2, r3, r4, r5, r6, r7, r8, r9⟩ := row10 HS.out.rb
        have hlx := lt_of_row HS.out.xb; have hlz := lt_of_row HS.out.rb
        by_cases hlt : k < x.cases.length
        ·obtain ⟨b1, off1, hao, hb1, s0, s1, t0, t1⟩ := (HCA.out.mono HS.out.bel fun _ _ h => h).case hlt
         subst hao
         obtain ⟨z0, z1, z2, z3⟩ := HW.out.cases _ (List.getElem_mem hlt)
         have h1 := fun wx => rvarint_le x.cases[k].lit wx z0 (by omega)
         have h2 := fun wx => rvarint_le x.cases[k].to wx z2 (by omega)
         have HV4 : Hid (WW = ((p2 ++ vint x.cases[k].lit.toNat) ++ vint x.cases[k].to.toNat) ++ (casesW (x.cases.drop (k + 1)) ++ (opt q32 (vint x.segs.length ++ segsW x.segs) ++ (opt q64 (vint x.to.toNat) ++ (opt q128 (vint x.live.toNat) ++ ([] : List UInt8)))))) := Lib.hid (by rw [HV3.out, casesW_cons hlt]; simp only [List.append_assoc])
         have hA1 := vint_len x.cases[k].lit.toNat
         have hA2 := vint_len x.cases[k].to.toNat
         clear z0 z1 z2 z3 t0 t1
         generalize vint x.cases[k].lit.toNat = A1 at *
         generalize vint x.cases[k].to.toNat = A2 at *
         generalize x.cases[k].lit = u1 at *
         generalize x.cases[k].to = u2 at *
         have hadd := fun wx => run_string_add_sum (P := Tryz.prog) wx ⟨p2.toArray⟩ ⟨A1.toArray⟩ (by rw [bsz, bsz]; omega)
         have hadd2 := fun wx => run_string_add_sum (P := Tryz.prog) wx (⟨p2.toArray⟩ ++ ⟨A1.toArray⟩) ⟨A2.toArray⟩ (by rw [cat_bytes, bsz, bsz, List.length_append]; omega)
         have HBr := Lib.hid ((Below.refl wr.heap.size wr).drew)
         have HKr := Lib.hid (sk_of HBr.out)
         have hk0 : (0 : Int) ≤ (k : Int) := by omega
         have hk1 : (k : Int) < (x.cases.length : Int) := by omega
         go_wp2_with fail
         first | go_region_held3 (fun w' => wr.heap.size ≤ w'.heap.size ∧ ∀ b o, b < wr.heap.size → w'.cell? ⟨b, o, none⟩ = wr.cell? ⟨b, o, none⟩) (with_reducible exact HKr.out)
          ((go_at_call 50; (first | (with_reducible refine (h1 _).mono ?_) | (with_reducible refine (h2 _).mono ?_)); rintro e w9 ⟨rfl, hb⟩; have HBr := Lib.hid (below_next HBr.out hb); have HKr := Lib.hid (sk_of HBr.out); clear hb)) | fail
         all_goals
          have HS := Lib.hid (HS.out.below HBr.out)
          clear c0 c1 c2 c3 c4 c5 c6 c7 c8 c9 r0 r1 r2 r3 r4 r5 r6 r7 r8 r9 hlx hlz
          go_wp2_with fail
          go_roundw
          case rel => exact ⟨k + 1, (p2 ++ A1) ++ A2, by omega, by go_num, congrArg Value.string (by rw [cat_bytes, cat_bytes]), HV4, by rw [List.length_append, List.length_append]; omega, HS⟩
          case measure => simp [intOf]; omega
        ·have HV4 : Hid (WW = p2 ++ (opt q32 (vint x.segs.length ++ segsW x.segs) ++ (opt q64 (vint x.to.toNat) ++ (opt q128 (vint x.live.toNat) ++ ([] : List UInt8))))) := Lib.hid (by rw [HV3.out, List.drop_eq_nil_of_le (by omega)]; rfl)
         go_wp2_with fail
         go_meet
         case rel => exact ⟨p2, rfl, HV4, by omega, HS⟩
     case rest =>
      obtain ⟨p, rfl, HV, hp, HS⟩ := hcut
      clear c0 c1 c2 c3 c4 c5 c6 c7 c8 c9 r0 r1 r2 r3 r4 r5 r6 r7 r8 r9 hlx hlz
      obtain ⟨c0, c1, c2, c3, c4, c5, c6, c7, c8, c9⟩ := row10 HS.out.xb
      obtain ⟨r0, r1, r2, r3, r4, r5, r6, r7, r8, r9⟩ := row10 HS.out.rb
      have hlx := lt_of_row HS.out.xb; have hlz := lt_of_row HS.out.rb
      go_upto_if 96 with fail
      go_cut [5] (fun s wx => ∃ p : List UInt8, s = .string ⟨p.toArray⟩ ∧ Hid (WW = p ++ (opt q64 (vint x.to.toNat) ++ (opt q128 (vint x.live.toNat) ++ ([] : List UInt8)))) ∧ p.length ≤ 76000 ∧ Hid (ISt X Z #[.int .i64 x.op, .int .i64 x.dst.kind, .int .i64 x.dst.n, .slice so x.src.length sc, .int .i64 x.to, .int .i64 x.n, .int .i64 x.live, .string x.name, .slice co x.cases.length cc, .slice go x.segs.length gc] #[.bool q1, .bool q2, .bool q4, .bool q8, .bool q16, .bool q32, .bool q64, .bool q128, .int .i64 rlo, .int .i64 rhi] W0 wx))
      case first =>
       cases q32 with
       | false =>
        have HV2 : Hid (WW = p ++ (opt q64 (vint x.to.toNat) ++ (opt q128 (vint x.live.toNat) ++ ([] : List UInt8)))) := Lib.hid HV.out
        go_wp2_with fail
        go_meet
        case rel => exact ⟨p, rfl, HV2, by omega, HS⟩
       | true =>
        have hA := vint_len x.segs.length
        have hadd := fun wx => run_string_add_sum (P := Tryz.prog) wx ⟨p.toArray⟩ ⟨(vint x.segs.length).toArray⟩ (by rw [bsz, bsz]; omega)
        go_wp2_with fail
        refine (rvarint_any 9 x.segs.length _ (by omega) (by omega)).mono ?_
        rintro e w17 ⟨rfl, hb⟩
        have HS := Lib.hid (HS.out.below hb)
        clear hb
        have HV2 : Hid (WW = (p ++ vint x.segs.length) ++ (segsW (x.segs.drop 0) ++ (opt q64 (vint x.to.toNat) ++ (opt q128 (vint x.live.toNat) ++ ([] : List UInt8))))) := Lib.hid (by rw [HV.out, List.append_assoc]; show p ++ ((vint x.segs.length ++ segsW x.segs) ++ _) = _; rw [List.append_assoc]; rfl)
        clear c0 c1 c2 c3 c4 c5 c6 c7 c8 c9 r0 r1 r2 r3 r4 r5 r6 r7 r8 r9 hlx hlz
        obtain ⟨c0, c1, c2, c3, c4, c5, c6, c7, c8, c9⟩ := row10 HS.out.xb
        obtain ⟨r0, r1, r2, r3, r4, r5, r6, r7, r8, r9⟩ := row10 HS.out.rb
        have hlx := lt_of_row HS.out.xb; have hlz := lt_of_row HS.out.rb
        go_wp2_with fail
        go_loopw [5, 8, 9] (fun s iv _ wr => ∃ (k : Nat) (p2 : List UInt8), k ≤ x.segs.length ∧ iv = .int .i64 k ∧ s = .string ⟨p2.toArray⟩ ∧ Hid (WW = p2 ++ (segsW (x.segs.drop k) ++ (opt q64 (vint x.to.toNat) ++ (opt q128 (vint x.live.toNat) ++ ([] : List UInt8))))) ∧ p2.length ≤ 34010 + 40 * k ∧ Hid (ISt X Z #[.int .i64 x.op, .int .i64 x.dst.kind, .int .i64 x.dst.n, .slice so x.src.length sc, .int .i64 x.to, .int .i64 x.n, .int .i64 x.live, .string x.name, .slice co x.cases.length cc, .slice go x.segs.length gc] #[.bool q1, .bool q2, .bool q4, .bool q8, .bool q16, .bool true, .bool q64, .bool q128, .int .i64 rlo, .int .i64 rhi] W0 wr)) (fun s iv _ wr => x.segs.length - (intOf iv).toNat)
        case atStart => exact ⟨0, p ++ vint x.segs.length, Nat.zero_le _, rfl, congrArg Value.string (cat_bytes _ _), HV2, by rw [List.length_append]; omega, HS⟩
        case round =>
         obtain ⟨k, p2, hk, rfl, rfl, HV3, hp2, HS⟩ := hrel
         rename World => wr
         clear hadd
         clear c0 c1 c2 c3 c4 c5 c6 c7 c8 c9 r0 r1 r2 r3 r4 r5 r6 r7 r8 r9 hlx hlz
         obtain ⟨c0, c1, c2, c3, c4, c5, c6, c7, c8, c9⟩ := row10 HS.out.xb
         obtain ⟨r0, r1, r2, r3, r4, r5, r6, r7, r8, r9⟩ := row10 HS.out.rb
         have hlx := lt_of_row HS.out.xb; have hlz := lt_of_row HS.out.rb
         by_cases hlt : k < x.segs.length
         ·obtain ⟨b1, off1, hao, hb1, s0, s1, s2, s3, s4, s5, t0, t1, t2, t3, t4⟩ := (HSG.out.mono HS.out.bel fun _ _ h => h).seg hlt
          subst hao
          obtain ⟨z0, z1, z2, z3⟩ := HW.out.segs _ (List.getElem_mem hlt)
          have h1 := fun wx => rvarint_le x.segs[k].type wx z0 (by omega)
          have h2 := fun wx => rarg16_any x.segs[k].val wx z2
          have h3 := fun wx => rarg16_any x.segs[k].size wx z3
          have h4 := fun wx => rbit16_any x.segs[k].little wx
          have HV4 : Hid (WW = ((((p2 ++ vint x.segs[k].type.toNat) ++ argW x.segs[k].val) ++ argW x.segs[k].size) ++ boolW x.segs[k].little) ++ (segsW (x.segs.drop (k + 1)) ++ (opt q64 (vint x.to.toNat) ++ (opt q128 (vint x.live.toNat) ++ ([] : List UInt8))))) := Lib.hid (by rw [HV3.out, segsW_cons hlt]; simp only [List.append_assoc])
          have hA1 := vint_len x.segs[k].type.toNat
          have hA2 := argW_len x.segs[k].val
          have hA3 := argW_len x.segs[k].size
          have hA4 := boolW_len x.segs[k].little
          clear z0 z1 z2 z3 t0 t1 t2 t3 t4
          generalize vint x.segs[k].type.toNat = A1 at *
          generalize argW x.segs[k].val = A2 at *
          generalize argW x.segs[k].size = A3 at *
          generalize boolW x.segs[k].little = A4 at *
          generalize x.segs[k] = g at *
          obtain ⟨ty, ⟨vk, vn⟩, ⟨sk, sn⟩, lit⟩ := g
          simp only at *
          have hadd := fun wx => run_string_add_sum (P := Tryz.prog) wx ⟨p2.toArray⟩ ⟨A1.toArray⟩ (by rw [bsz, bsz]; omega)
          have hadd2 := fun wx => run_string_add_sum (P := Tryz.prog) wx (⟨p2.toArray⟩ ++ ⟨A1.toArray⟩) ⟨A2.toArray⟩ (by rw [cat_bytes, bsz, bsz, List.length_append]; omega)
          have hadd3 := fun wx => run_string_add_sum (P := Tryz.prog) wx (⟨p2.toArray⟩ ++ ⟨A1.toArray⟩ ++ ⟨A2.toArray⟩) ⟨A3.toArray⟩ (by rw [cat_bytes, cat_bytes, bsz, bsz, List.length_append, List.length_append]; omega)
          have hadd4 := fun wx => run_string_add_sum (P := Tryz.prog) wx (⟨p2.toArray⟩ ++ ⟨A1.toArray⟩ ++ ⟨A2.toArray⟩ ++ ⟨A3.toArray⟩) ⟨A4.toArray⟩ (by rw [cat_bytes, cat_bytes, cat_bytes, bsz, bsz, List.length_append, List.length_append, List.length_append]; omega)
          have hbx : Below wr.heap.size wr (wr.alloc (.cells #[.int .i64 ty, .int .i64 vk, .int .i64 vn, .int .i64 sk, .int .i64 sn, .bool lit] 133)) := (Below.refl _ _).alloc (Nat.le_refl _) _
          have hbr := heap_alloc_new wr (.cells #[.int .i64 ty, .int .i64 vk, .int .i64 vn, .int .i64 sk, .int .i64 sn, .bool lit] 133)
          have HS := Lib.hid (HS.out.below hbx)
          clear hbx
          go_upto_region 27 with fail
          clear c0 c1 c2 c3 c4 c5 c6 c7 c8 c9 r0 r1 r2 r3 r4 r5 r6 r7 r8 r9 hlx hlz s0 s1 s2 s3 s4 s5
          generalize wr.alloc (.cells #[.int .i64 ty, .int .i64 vk, .int .i64 vn, .int .i64 sk, .int .i64 sn, .bool lit] 133) = Wg at *
          generalize wr.heap.size = G at *
          obtain ⟨g0, g1, g2, g3, g4, g5⟩ := seg_cells hbr
          have hlg := lt_of_row hbr
          clear hbr
          have HBr := Lib.hid ((Below.refl Wg.heap.size Wg).drew)
          have HKr := Lib.hid (sk_of HBr.out)
          first | go_region_held3 (fun w' => Wg.heap.size ≤ w'.heap.size ∧ ∀ b o, b < Wg.heap.size → w'.cell? ⟨b, o, none⟩ = Wg.cell? ⟨b, o, none⟩) (with_reducible exact HKr.out)
           (first
            | (go_at_call 50; (with_reducible refine (h1 _).mono ?_); rintro e w9 ⟨rfl, hb⟩; have HBr := Lib.hid (below_next HBr.out hb); have HKr := Lib.hid (sk_of HBr.out); clear hb)
            | (go_at_call 100; (first | (with_reducible refine (h2 _).mono ?_) | (with_reducible refine (h3 _).mono ?_)); rintro e w9 ⟨rfl, hb⟩; have HBr := Lib.hid (below_next HBr.out hb); have HKr := Lib.hid (sk_of HBr.out); clear hb)
            | (go_at_call 52; (with_reducible refine (h4 _).mono ?_); rintro e w9 ⟨rfl, hb⟩; have HBr := Lib.hid (below_next HBr.out hb); have HKr := Lib.hid (sk_of HBr.out); clear hb)) | fail
          all_goals
           have HS := Lib.hid (HS.out.below HBr.out)
           clear g0 g1 g2 g3 g4 g5 hlg
           go_wp2_with fail
           go_roundw
           case rel => exact ⟨k + 1, (((p2 ++ A1) ++ A2) ++ A3) ++ A4, by omega, by go_num, congrArg Value.string (by rw [cat_bytes, cat_bytes, cat_bytes, cat_bytes]), HV4, by rw [List.length_append, List.length_append, List.length_append, List.length_append]; omega, HS⟩
           case measure => simp [intOf]; omega
         ·have HV4 : Hid (WW = p2 ++ (opt q64 (vint x.to.toNat) ++ (opt q128 (vint x.live.toNat) ++ ([] : List UInt8)))) := Lib.hid (by rw [HV3.out, List.drop_eq_nil_of_le (by omega)]; rfl)
          go_wp2_with fail
          go_meet
          case rel => exact ⟨p2, rfl, HV4, by omega, HS⟩
      case rest =>
       obtain ⟨p, rfl, HV, hp, HS⟩ := hcut
       clear c0 c1 c2 c3 c4 c5 c6 c7 c8 c9 r0 r1 r2 r3 r4 r5 r6 r7 r8 r9 hlx hlz
       obtain ⟨c0, c1, c2, c3, c4, c5, c6, c7, c8, c9⟩ := row10 HS.out.xb
       obtain ⟨r0, r1, r2, r3, r4, r5, r6, r7, r8, r9⟩ := row10 HS.out.rb
       have hlx := lt_of_row HS.out.xb; have hlz := lt_of_row HS.out.rb
       go_upto_if 133 with fail
       go_cut [5] (fun s wx => ∃ p : List UInt8, s = .string ⟨p.toArray⟩ ∧ Hid (WW = p ++ (opt q128 (vint x.live.toNat) ++ ([] : List UInt8))) ∧ p.length ≤ 76010 ∧ Hid (ISt X Z #[.int .i64 x.op, .int .i64 x.dst.kind, .int .i64 x.dst.n, .slice so x.src.length sc, .int .i64 x.to, .int .i64 x.n, .int .i64 x.live, .string x.name, .slice co x.cases.length cc, .slice go x.segs.length gc] #[.bool q1, .bool q2, .bool q4, .bool q8, .bool q16, .bool q32, .bool q64, .bool q128, .int .i64 rlo, .int .i64 rhi] W0 wx))
       case first =>
        cases q64 with
        | false =>
         have HV2 : Hid (WW = p ++ (opt q128 (vint x.live.toNat) ++ ([] : List UInt8))) := Lib.hid HV.out
         go_wp2_with fail
         go_meet
         case rel => exact ⟨p, rfl, HV2, by omega, HS⟩
        | true =>
         have hA := vint_len x.to.toNat
         have hadd := fun wx => run_string_add_sum (P := Tryz.prog) wx ⟨p.toArray⟩ ⟨(vint x.to.toNat).toArray⟩ (by rw [bsz, bsz]; omega)
         go_wp2_with fail
         refine (rvarint_le x.to _ hto0 (by omega)).mono ?_
         rintro e w18 ⟨rfl, hb⟩
         have HS := Lib.hid (HS.out.below hb)
         clear hb
         have HV2 : Hid (WW = (p ++ vint x.to.toNat) ++ (opt q128 (vint x.live.toNat) ++ ([] : List UInt8))) := Lib.hid (by rw [HV.out, List.append_assoc]; rfl)
         clear c0 c1 c2 c3 c4 c5 c6 c7 c8 c9 r0 r1 r2 r3 r4 r5 r6 r7 r8 r9 hlx hlz
         go_wp2_with fail
         go_meet
         case rel => exact ⟨p ++ vint x.to.toNat, congrArg Value.string (cat_bytes _ _), HV2, by rw [List.length_append]; omega, HS⟩
       case rest =>
        obtain ⟨p, rfl, HV, hp, HS⟩ := hcut
        clear c0 c1 c2 c3 c4 c5 c6 c7 c8 c9 r0 r1 r2 r3 r4 r5 r6 r7 r8 r9 hlx hlz
        obtain ⟨c0, c1, c2, c3, c4, c5, c6, c7, c8, c9⟩ := row10 HS.out.xb
        obtain ⟨r0, r1, r2, r3, r4, r5, r6, r7, r8, r9⟩ := row10 HS.out.rb
        have hlx := lt_of_row HS.out.xb; have hlz := lt_of_row HS.out.rb
        go_upto_if 140 with fail
        go_cut [5] (fun s wx => ∃ p : List UInt8, s = .string ⟨p.toArray⟩ ∧ Hid (WW = p ++ ([] : List UInt8)) ∧ p.length ≤ 76020 ∧ Hid (ISt X Z #[.int .i64 x.op, .int .i64 x.dst.kind, .int .i64 x.dst.n, .slice so x.src.length sc, .int .i64 x.to, .int .i64 x.n, .int .i64 x.live, .string x.name, .slice co x.cases.length cc, .slice go x.segs.length gc] #[.bool q1, .bool q2, .bool q4, .bool q8, .bool q16, .bool q32, .bool q64, .bool q128, .int .i64 rlo, .int .i64 rhi] W0 wx))
        case first =>
         cases q128 with
         | false =>
          have HV2 : Hid (WW = p ++ ([] : List UInt8)) := Lib.hid HV.out
          go_wp2_with fail
          go_meet
          case rel => exact ⟨p, rfl, HV2, by omega, HS⟩
         | true =>
          have hA := vint_len x.live.toNat
          have hadd := fun wx => run_string_add_sum (P := Tryz.prog) wx ⟨p.toArray⟩ ⟨(vint x.live.toNat).toArray⟩ (by rw [bsz, bsz]; omega)
          go_wp2_with fail
          refine (rvarint_le x.live _ hlv0 (by omega)).mono ?_
          rintro e w19 ⟨rfl, hb⟩
          have HS := Lib.hid (HS.out.below hb)
          clear hb
          have HV2 : Hid (WW = (p ++ vint x.live.toNat) ++ ([] : List UInt8)) := Lib.hid (by rw [HV.out, List.append_assoc]; rfl)
          clear c0 c1 c2 c3 c4 c5 c6 c7 c8 c9 r0 r1 r2 r3 r4 r5 r6 r7 r8 r9 hlx hlz
          go_wp2_with fail
          go_meet
          case rel => exact ⟨p ++ vint x.live.toNat, congrArg Value.string (cat_bytes _ _), HV2, by rw [List.length_append]; omega, HS⟩
        case rest =>
         obtain ⟨p, rfl, HV, hp, HS⟩ := hcut
         clear c0 c1 c2 c3 c4 c5 c6 c7 c8 c9 r0 r1 r2 r3 r4 r5 r6 r7 r8 r9 hlx hlz
         obtain ⟨c0, c1, c2, c3, c4, c5, c6, c7, c8, c9⟩ := row10 HS.out.xb
         obtain ⟨r0, r1, r2, r3, r4, r5, r6, r7, r8, r9⟩ := row10 HS.out.rb
         have hlx := lt_of_row HS.out.xb; have hlz := lt_of_row HS.out.rb
         have HV2 : Hid (WW = p) := Lib.hid (by rw [HV.out, List.append_nil])
         go_wp2_with fail
         go_ret
         exact ⟨congrArg (fun l : List UInt8 => Ending.returned (.string ⟨l.toArray⟩)) HV2.out.symm, by rw [HXZ.out]; exact HFIN.out _ HS.out.bel⟩
end Go.Proofs.YtghgbikmlbildaaGreatDoor
namespace Go.Proofs.YtghgbikmlbildaaGreatDoor
open Go.RowKit
set_option linter.unusedVariables false
set_option linter.unusedSimpArgs false

set_option maxRecDepth 100000 in
set_option maxHeartbeats 4000000 in
theorem rinteger07_any (n : Int) (w : World) (hn : I64 n) :
  Calls Tryz.prog 142 #[.int .i64 n] w (BytesQ w (intE n)) := by
 obtain ⟨i0, hi, hz0, hz1, hz2⟩ := info_parts infoByte
 have HE : Hid (intE n = if 0 ≤ n ∧ n ≤ 255 then [97, UInt8.ofNat n.toNat] else if -2147483648 ≤ n ∧ n ≤ 2147483647 then 98 :: beN 4 n else bigE n) := Lib.hid rfl
 generalize intE n = E at *
 by_cases h1 : 0 ≤ n ∧ n ≤ 255
 ·rw [if_pos h1] at HE
  obtain ⟨a1, a2⟩ := h1
  have hown := lit_owns (w := w) (B := w.heap.size) #[.int .u8 97, .int .u8 n] [97, UInt8.ofNat n.toNat] 2 (Nat.le_refl _) rfl (by simp [byteC]; omega) (by omega)
  have hb : Below w.heap.size w (w.alloc (.cells #[.int .u8 97, .int .u8 n] 5)) := (Below.refl _ _).alloc (Nat.le_refl _) _
  have HF := Lib.hid (And.intro hown hb)
  clear hown hb
  go_enter Tryz.func142, Tryz.ntmps142
  go_wp2_with fail
  go_ret
  exact ⟨_, rfl, by rw [HE.out]; exact HF.out.1, HF.out.2⟩
 ·rw [if_neg h1] at HE
  by_cases h2 : -2147483648 ≤ n ∧ n ≤ 2147483647
  ·rw [if_pos h2] at HE
   have hown := lit_owns (w := w) (B := w.heap.size) #[.int .u8 98] [98] 1 (Nat.le_refl _) rfl rfl (by omega)
   have hb : Below w.heap.size w (w.alloc (.cells #[.int .u8 98] 5)) := (Below.refl _ _).alloc (Nat.le_refl _) _
   have hc := rnumber07_any n 4 (w.alloc (.cells #[.int .u8 98] 5)) hn (by omega)
   have HO := Lib.hid hown; have HB := Lib.hid hb; have HC := Lib.hid hc
   obtain ⟨b1, b2⟩ := h2
   clear hown hb hc
   by_cases h0 : 0 ≤ n
   ·have h3 : 256 ≤ n := by omega
    clear h1
    go_enter Tryz.func142, Tryz.ntmps142
    go_wp2_with fail
    refine HC.out.mono ?_
    rintro e w1 ⟨v, rfl, ho1, hb1⟩
    have HB1 : Hid (Below w.heap.size w w1) := Lib.hid (HB.out.trans (hb1.mono (by simp)))
    have HO1 := Lib.hid (owns_below HO.out hb1)
    obtain ⟨g, cap, cur, rfl, hg1, hg2, hg3⟩ := owns_open ho1 (by intro e; have := congrArg List.length e; rw [beN_len] at this; cases this)
    have HN := Lib.hid (row_news hg2 hg3)
    have hl4 := beN_len 4 n
    rw [hl4]
    have HLE : Hid ((beN 4 n).length = 4) := Lib.hid hl4
    have hsz : w.heap.size ≤ w1.heap.size := HB1.out.size
    clear ho1 hb1 hg1 hg2 hg3 hl4
    go_wp2_with (at_builtin; refine wpList_append_own_at _ rfl (.tmp 21) (.tmp 23) 39 rfl w.heap.size 5 i0 (.int .u8 0) 1 1 Tryz.underlying39 hi hz0 hz1 hz2 rfl (by decide) _ 1 (byteC [98]) rfl HO1.out ⟨g, 0, none⟩ 4 cap (byteC (beN 4 n)) rfl (by rw [byteC_len, HLE.out]) HN.out (byteC_one _) (by unfold maxLen; omega) (by omega) hsz ?_)
    intro v' w2 hown' hgrow hnil hloc
    have HF : Hid (w2.ownsRow w.heap.size 5 1 v' E.length (byteC E) ∧ Below w.heap.size w w2) := Lib.hid ⟨by rw [HE.out]; show World.ownsRow _ _ _ _ _ ((beN 4 n).length + 1) _; rw [HLE.out]; exact hown', HB1.out.grown hgrow hsz (fun k hk => (HO1.out.lt k hk).1)⟩
    clear hown' hgrow hnil hloc
    go_wp2_with fail
    go_ret
    exact ⟨_, rfl, HF.out⟩
   ·have h3 : n < 0 := by omega
    clear h1 h0
    go_enter Tryz.func142, Tryz.ntmps142
    go_wp2_with fail
    refine HC.out.mono ?_
    rintro e w1 ⟨v, rfl, ho1, hb1⟩
    have HB1 : Hid (Below w.heap.size w w1) := Lib.hid (HB.out.trans (hb1.mono (by simp)))
    have HO1 := Lib.hid (owns_below HO.out hb1)
    obtain ⟨g, cap, cur, rfl, hg1, hg2, hg3⟩ := owns_open ho1 (by intro e; have := congrArg List.length e; rw [beN_len] at this; cases this)
    have HN := Lib.hid (row_news hg2 hg3)
    have hl4 := beN_len 4 n
    rw [hl4]
    have HLE : Hid ((beN 4 n).length = 4) := Lib.hid hl4
    have hsz : w.heap.size ≤ w1.heap.size := HB1.out.size
    clear ho1 hb1 hg1 hg2 hg3 hl4
    go_wp2_with (at_builtin; refine wpList_append_own_at _ rfl (.tmp 21) (.tmp 23) 39 rfl w.heap.size 5 i0 (.int .u8 0) 1 1 Tryz.underlying39 hi hz0 hz1 hz2 rfl (by decide) _ 1 (byteC [98]) rfl HO1.out ⟨g, 0, none⟩ 4 cap (byteC (beN 4 n)) rfl (by rw [byteC_len, HLE.out]) HN.out (byteC_one _) (by unfold maxLen; omega) (by omega) hsz ?_)
    intro v' w2 hown' hgrow hnil hloc
    have HF : Hid (w2.ownsRow w.heap.size 5 1 v' E.length (byteC E) ∧ Below w.heap.size w w2) := Lib.hid ⟨by rw [HE.out]; show World.ownsRow _ _ _ _ _ ((beN 4 n).length + 1) _; rw [HLE.out]; exact hown', HB1.out.grown hgrow hsz (fun k hk => (HO1.out.lt k hk).1)⟩
    clear hown' hgrow hnil hloc
    go_wp2_with fail
    go_ret
    exact ⟨_, rfl, HF.out⟩
  ·rw [if_neg h2] at HE
   have HBG : Hid (E = 110 :: UInt8.ofNat (leN 8 n.natAbs).length :: (if n < 0 then 1 else 0) :: leN 8 n.natAbs) := Lib.hid HE.out
   obtain ⟨n0, n1⟩ := hn
   clear HE
   generalize hAA : leN 8 n.natAbs = A at HBG
   have HA : Hid (A = [] ++ leN 8 n.natAbs) := Lib.hid hAA.symm
   have HAA := Lib.hid hAA
   by_cases h0 : n < 0
   ·have h3 : n < -2147483648 := by omega
    have HS : Hid (IntKind.u64.wrap (-IntKind.u64.wrap n) = (n.natAbs : Int)) := Lib.hid (by rw [IntKind.wrap_u64, IntKind.wrap_u64]; omega)
    clear h1 h2 hAA
    go_enter Tryz.func142, Tryz.ntmps142
    go_wp2_with fail
    go_loopw [4, 5] (fun uv lv wr => ∃ (m f : Nat) (xs : List UInt8), uv = .int .u64 (m : Int) ∧ m < 256 ^ f ∧ m ≤ 9223372036854775808 ∧ xs.length + f = 8 ∧ Hid (A = xs ++ leN f m) ∧ Hid (wr.ownsRow w.heap.size 5 1 lv xs.length (byteC xs)) ∧ Below w.heap.size w wr) (fun uv _ _ => (intOf uv).toNat)
    case atStart => exact ⟨n.natAbs, 8, [], by rw [HS.out], by omega, by omega, rfl, HA, Lib.hid (World.ownsRow_nil _ _ _ _), Below.refl _ _⟩
    case round =>
     obtain ⟨m, f, xs, rfl, hm, hmx, hxf, HV, HO, hB⟩ := hrel
     rename World => wr
     have hown := HO.out
     have hsz0 := hB.size
     by_cases hm0 : 0 < m
     ·cases f with
      | zero => exact absurd hm (by simp; omega)
      | succ f =>
       have HV2 : Hid (A = (xs ++ [UInt8.ofNat m]) ++ leN f (m / 256)) := Lib.hid (by rw [HV.out]; conv => lhs; rw [leN, if_neg (by omega)]
                                                                                      simp)
       have HBY : Hid ((m : Int) % 256 = ((UInt8.ofNat m).toNat : Int)) := Lib.hid (byte_of m)
       have hgt : decide ((0 : Int) < (m : Int)) = true := decide_eq_true (by omega)
       go_wp2_with (at_builtin; refine wpList_append_own_at _ rfl (.tmp 33) (.tmp 37) 39 rfl w.heap.size 5 i0 (.int .u8 0) 1 1 Tryz.underlying39 hi hz0 hz1 hz2 rfl (by decide) _ xs.length (byteC xs) rfl (hown.alloc _) ⟨wr.heap.size, 0, none⟩ 1 1 [.int .u8 ((m : Int) % 256)] rfl rfl (cell_one_new _ _ _) (ints_oneCell .u8 [(m : Int) % 256]) (by unfold maxLen; omega) (by omega) (by simp; omega) ?_)
       intro v' w1 hown' hgrow hnil hloc
       rw [HBY.out] at hown'
       have hB1 : Below w.heap.size w w1 := (hB.alloc hsz0 _).grown hgrow (by simp; omega) (fun k hk => (hown.lt k hk).1)
       have HO1 : Hid (w1.ownsRow w.heap.size 5 1 v' (xs ++ [UInt8.ofNat m]).length (byteC (xs ++ [UInt8.ofNat m]))) := Lib.hid (by rw [byteC_app, List.length_append]; exact hown')
       clear hown' hgrow hnil hloc hown HO
       go_wp2_with fail
       go_roundw
       case rel => exact ⟨m / 256, f, _, by go_num, by rw [Nat.pow_succ] at hm; omega, by omega, by rw [List.length_append, List.length_singleton]; omega, HV2, HO1, hB1⟩
       case measure => simp [intOf]; omega
     ·obtain rfl : m = 0 := by omega
      have HV2 : Hid (A = xs) := Lib.hid (by rw [HV.out, leN_zero, List.append_nil])
      have hxn : xs ≠ [] := fun e => by
       have h9 : leN 8 n.natAbs = [] := HAA.out.trans (HV2.out.trans e)
       rw [show (8 : Nat) = 7 + 1 by rfl, leN, if_neg (by omega)] at h9
       cases h9
      have hxl : 0 < xs.length := List.length_pos_iff.2 hxn
      have HX : Hid (∃ g cap cur, (_ : Value) = .slice (some ⟨g, 0, none⟩) xs.length cap ∧ w.heap.size ≤ g ∧ wr.heap[g]? = some (.cells cur 5 (0, 0)) ∧ cur.toList.take xs.length = byteC xs) := Lib.hid (owns_open HO.out hxn)
      obtain ⟨g, cap, cur, rfl, hg1, hg2, hg3⟩ := HX.out
      have hlo := lit_owns (w := wr) (B := w.heap.size) #[.int .u8 110, .int .u8 xs.length, .int .u8 1] [110, UInt8.ofNat xs.length, 1] 3 hsz0 rfl (by simp [byteC]; omega) (by omega)
      have hbl : Below wr.heap.size wr (wr.alloc (.cells #[.int .u8 110, .int .u8 xs.length, .int .u8 1] 5)) := (Below.refl _ _).alloc (Nat.le_refl _) _
      have HN := Lib.hid (row_news ((hbl.block g (lt_of_row hg2)).trans hg2) hg3)
      have HLO := Lib.hid hlo; have HBL := Lib.hid (hB.trans (hbl.mono hsz0))
      clear hg1 hg2 hg3 hxn HX HO hown hlo hbl
      go_wp2_with (at_builtin; refine wpList_append_own_at _ rfl (.tmp 45) (.tmp 46) 39 rfl w.heap.size 5 i0 (.int .u8 0) 1 1 Tryz.underlying39 hi hz0 hz1 hz2 rfl (by decide) _ 3 (byteC [110, UInt8.ofNat xs.length, 1]) rfl HLO.out ⟨g, 0, none⟩ xs.length cap (byteC xs) rfl (by rw [byteC_len]; omega) HN.out (byteC_one _) (by unfold maxLen; omega) (by omega) (by simp; omega) ?_)
      intro v' w2 hown' hgrow hnil hloc
      have HF : Hid (w2.ownsRow w.heap.size 5 1 v' E.length (byteC E) ∧ Below w.heap.size w w2) := Lib.hid ⟨by
       have e : E = [110, UInt8.ofNat xs.length, 1] ++ xs := by rw [HBG.out, HV2.out]; rw [if_pos h0]; rfl
       rw [e, byteC_app, List.length_append]; exact hown', HBL.out.grown hgrow (by simp; omega) (fun k hk => (HLO.out.lt k hk).1)⟩
      clear hown' hgrow hnil hloc
      go_wp2_with fail
      go_ret
      exact ⟨_, rfl, HF.out⟩
   ·have h3 : 2147483647 < n := by omega
    have HS : Hid (n = (n.natAbs : Int)) := Lib.hid (by omega)
    have h4 : 0 ≤ n := by omega
    clear h1 h2 hAA h0
    go_enter Tryz.func142, Tryz.ntmps142
    go_wp2_with fail
    go_loopw [4, 5] (fun uv lv wr => ∃ (m f : Nat) (xs : List UInt8), uv = .int .u64 (m : Int) ∧ m < 256 ^ f ∧ m ≤ 9223372036854775808 ∧ xs.length + f = 8 ∧ Hid (A = xs ++ leN f m) ∧ Hid (wr.ownsRow w.heap.size 5 1 lv xs.length (byteC xs)) ∧ Below w.heap.size w wr) (fun uv _ _ => (intOf uv).toNat)
    case atStart => exact ⟨n.natAbs, 8, [], congrArg _ HS.out, by omega, by omega, rfl, HA, Lib.hid (World.ownsRow_nil _ _ _ _), Below.refl _ _⟩
    case round =>
     obtain ⟨m, f, xs, rfl, hm, hmx, hxf, HV, HO, hB⟩ := hrel
     rename World => wr
     have hown := HO.out
     have hsz0 := hB.size
     by_cases hm0 : 0 < m
     ·cases f with
      | zero => exact absurd hm (by simp; omega)
      | succ f =>
       have HV2 : Hid (A = (xs ++ [UInt8.ofNat m]) ++ leN f (m / 256)) := Lib.hid (by rw [HV.out]; conv => lhs; rw [leN, if_neg (by omega)]
                                                                                      simp)
       have HBY : Hid ((m : Int) % 256 = ((UInt8.ofNat m).toNat : Int)) := Lib.hid (byte_of m)
       have hgt : decide ((0 : Int) < (m : Int)) = true := decide_eq_true (by omega)
       go_wp2_with (at_builtin; refine wpList_append_own_at _ rfl (.tmp 33) (.tmp 37) 39 rfl w.heap.size 5 i0 (.int .u8 0) 1 1 Tryz.underlying39 hi hz0 hz1 hz2 rfl (by decide) _ xs.length (byteC xs) rfl (hown.alloc _) ⟨wr.heap.size, 0, none⟩ 1 1 [.int .u8 ((m : Int) % 256)] rfl rfl (cell_one_new _ _ _) (ints_oneCell .u8 [(m : Int) % 256]) (by unfold maxLen; omega) (by omega) (by simp; omega) ?_)
       intro v' w1 hown' hgrow hnil hloc
       rw [HBY.out] at hown'
       have hB1 : Below w.heap.size w w1 := (hB.alloc hsz0 _).grown hgrow (by simp; omega) (fun k hk => (hown.lt k hk).1)
       have HO1 : Hid (w1.ownsRow w.heap.size 5 1 v' (xs ++ [UInt8.ofNat m]).length (byteC (xs ++ [UInt8.ofNat m]))) := Lib.hid (by rw [byteC_app, List.length_append]; exact hown')
       clear hown' hgrow hnil hloc hown HO
       go_wp2_with fail
       go_roundw
       case rel => exact ⟨m / 256, f, _, by go_num, by rw [Nat.pow_succ] at hm; omega, by omega, by rw [List.length_append, List.length_singleton]; omega, HV2, HO1, hB1⟩
       case measure => simp [intOf]; omega
     ·obtain rfl : m = 0 := by omega
      have HV2 : Hid (A = xs) := Lib.hid (by rw [HV.out, leN_zero, List.append_nil])
      have hxn : xs ≠ [] := fun e => by
       have h9 : leN 8 n.natAbs = [] := HAA.out.trans (HV2.out.trans e)
       rw [show (8 : Nat) = 7 + 1 by rfl, leN, if_neg (by omega)] at h9
       cases h9
      have hxl : 0 < xs.length := List.length_pos_iff.2 hxn
      have HX : Hid (∃ g cap cur, (_ : Value) = .slice (some ⟨g, 0, none⟩) xs.length cap ∧ w.heap.size ≤ g ∧ wr.heap[g]? = some (.cells cur 5 (0, 0)) ∧ cur.toList.take xs.length = byteC xs) := Lib.hid (owns_open HO.out hxn)
      obtain ⟨g, cap, cur, rfl, hg1, hg2, hg3⟩ := HX.out
      have hlo := lit_owns (w := wr) (B := w.heap.size) #[.int .u8 110, .int .u8 xs.length, .int .u8 0] [110, UInt8.ofNat xs.length, 0] 3 hsz0 rfl (by simp [byteC]; omega) (by omega)
      have hbl : Below wr.heap.size wr (wr.alloc (.cells #[.int .u8 110, .int .u8 xs.length, .int .u8 0] 5)) := (Below.refl _ _).alloc (Nat.le_refl _) _
      have HN := Lib.hid (row_news ((hbl.block g (lt_of_row hg2)).trans hg2) hg3)
      have HLO := Lib.hid hlo; have HBL := Lib.hid (hB.trans (hbl.mono hsz0))
      clear hg1 hg2 hg3 hxn HX HO hown hlo hbl
      go_wp2_with (at_builtin; refine wpList_append_own_at _ rfl (.tmp 45) (.tmp 46) 39 rfl w.heap.size 5 i0 (.int .u8 0) 1 1 Tryz.underlying39 hi hz0 hz1 hz2 rfl (by decide) _ 3 (byteC [110, UInt8.ofNat xs.length, 0]) rfl HLO.out ⟨g, 0, none⟩ xs.length cap (byteC xs) rfl (by rw [byteC_len]; omega) HN.out (byteC_one _) (by unfold maxLen; omega) (by omega) (by simp; omega) ?_)
      intro v' w2 hown' hgrow hnil hloc
      have HF : Hid (w2.ownsRow w.heap.size 5 1 v' E.length (byteC E) ∧ Below w.heap.size w w2) := Lib.hid ⟨by
       have e : E = [110, UInt8.ofNat xs.length, 0] ++ xs := by rw [HBG.out, HV2.out]; rw [if_neg (by omega)]; rfl
       rw [e, byteC_app, List.length_append]; exact hown', HBL.out.grown hgrow (by simp; omega) (fun k hk => (HLO.out.lt k hk).1)⟩
      clear hown' hgrow hnil hloc
      go_wp2_with fail
      go_ret
      exact ⟨_, rfl, HF.out⟩
end Go.Proofs.YtghgbikmlbildaaGreatDoor
