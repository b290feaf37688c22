/-
  fields: the walk.
-/
import Derived.Test.YtghgbikmlbildaaDoorCRow
import Derived.Deep.DeepCutAuto
import Derived.Deep.CutBlock
namespace Go.Proofs.YtghgbikmlbildaaDoor
open Go.RowKit
set_option linter.unusedVariables false
set_option linter.unusedSimpArgs false

/-- From ⟨b, o⟩ on lie the cells of an instruction. -/
structure IBox (w : World) (b o : Nat) (x : RIns) (so co go : Option Addr) (sc cc gc : Nat) : Prop where
  lt : b < w.heap.size
  c0 : w.cell? ⟨b, o, none⟩ = some (.int .i64 x.op)
  c1 : w.cell? ⟨b, o + 1, none⟩ = some (.int .i64 x.dst.kind)
  c2 : w.cell? ⟨b, o + 2, none⟩ = some (.int .i64 x.dst.n)
  c3 : w.cell? ⟨b, o + 3, none⟩ = some (.slice so x.src.length sc)
  c4 : w.cell? ⟨b, o + 4, none⟩ = some (.int .i64 x.to)
  c5 : w.cell? ⟨b, o + 5, none⟩ = some (.int .i64 x.n)
  c6 : w.cell? ⟨b, o + 6, none⟩ = some (.int .i64 x.live)
  c7 : w.cell? ⟨b, o + 7, none⟩ = some (.string x.name)
  c8 : w.cell? ⟨b, o + 8, none⟩ = some (.slice co x.cases.length cc)
  c9 : w.cell? ⟨b, o + 9, none⟩ = some (.slice go x.segs.length gc)
  src : SlAt w 2 ArgR so x.src
  cases : SlAt w 2 CaseR co x.cases
  segs : SlAt w 6 SegR go x.segs
  rop : I64 x.op
  rdk : I64 x.dst.kind
  rdn : I64 x.dst.n
  rsrc : x.src.length ≤ 9223372036854775807
  rto : I64 x.to
  rn : I64 x.n
  rlive : I64 x.live
  rname : x.name.size ≤ 9223372036854775807
  rcases : x.cases.length ≤ 9223372036854775807
  rsegs : x.segs.length ≤ 9223372036854775807
theorem IBox.below {w w' : World} {b o : Nat} {x : RIns} {so co go : Option Addr} {sc cc gc : Nat} (h : IBox w b o x so co go sc cc gc) (hb : Below w.heap.size w w') : IBox w' b o x so co go sc cc gc :=
  ⟨Nat.lt_of_lt_of_le h.lt hb.size, (hb.cell (p := ⟨b, o, none⟩) h.lt).trans h.c0, (hb.cell (p := ⟨b, o + 1, none⟩) h.lt).trans h.c1, (hb.cell (p := ⟨b, o + 2, none⟩) h.lt).trans h.c2, (hb.cell (p := ⟨b, o + 3, none⟩) h.lt).trans h.c3, (hb.cell (p := ⟨b, o + 4, none⟩) h.lt).trans h.c4,
    (hb.cell (p := ⟨b, o + 5, none⟩) h.lt).trans h.c5, (hb.cell (p := ⟨b, o + 6, none⟩) h.lt).trans h.c6, (hb.cell (p := ⟨b, o + 7, none⟩) h.lt).trans h.c7, (hb.cell (p := ⟨b, o + 8, none⟩) h.lt).trans h.c8, (hb.cell (p := ⟨b, o + 9, none⟩) h.lt).trans h.c9,
    h.src.mono hb fun _ _ h => h, h.cases.mono hb fun _ _ h => h, h.segs.mono hb fun _ _ h => h, h.rop, h.rdk, h.rdn, h.rsrc, h.rto, h.rn, h.rlive, h.rname, h.rcases, h.rsegs⟩
theorem ibox_of {w : World} {ao : Option Addr} {l : List RIns} (h : SlAt w 10 (InsR w) ao l) {k : Nat} (hk : k < l.length) : ∃ b off so co go sc cc gc, ao = some ⟨b, off, none⟩ ∧ IBox w b (off + k * 10) l[k] so co go sc cc gc := by
  obtain ⟨b, off, so, sc, co, cc, go, gc, e, hb, c0, c1, c2, c3, c4, c5, c6, c7, c8, c9, s1, s2, s3, r1, r2, r3, r4, r5, r6, r7, r8, r9, r10⟩ := h.ins hk
  exact ⟨b, off, so, co, go, sc, cc, gc, e, hb, c0, c1, c2, c3, c4, c5, c6, c7, c8, c9, s1, s2, s3, r1, r2, r3, r4, r5, r6, r7, r8, r9, r10⟩

def dstB (nl : Nat) (x : RIns) (h : Nat) : Bool := if hasB h 1 = true then !decide (x.dst.kind = 3) && opdB nl x.dst else decide (x.dst.kind = 0) && decide (x.dst.n = 0)
/-- Has an instruction the fields of its row, and no others? -/
def fieldsB (nl : Nat) (x : RIns) (h lo hi : Nat) : Bool :=
  dstB nl x h && (x.src.all (opdB nl) && (wi x.src.length lo hi && (wi x.live 0 256 && ((hasB h 4 || x.n == 0) && ((hasB h 8 || x.name.toList.isEmpty) && ((hasB h 64 || x.to == 0) && ((hasB h 128 || x.live == 0) && ((hasB h 16 || x.cases.length == 0) && (hasB h 32 || x.segs.length == 0)))))))))

set_option maxRecDepth 100000 in
set_option maxHeartbeats 8000000 in
theorem fields_any (B : Nat) (u : RUnit) (lo' fo go' co' : Option Addr) (lc fc gc' cc' : Nat) (b o : Nat) (x : RIns) (so co go : Option Addr) (sc cc gc : Nat) (h lo hi : Nat) (w : World) (hu : UBox w B u lo' fo go' co' lc fc gc' cc') (hl : u.lits.length ≤ 9223372036854775807) (hx : IBox w b o x so co go sc cc gc) (h1 : h < 1000) (h2 : lo < 1000) (h3 : hi < 1000) :
    Calls Tryd.prog 17 #[.pointer (some ⟨B, 0, none⟩), .pointer (some ⟨b, o, none⟩), .agg #[.int .i64 h, .int .i64 lo, .int .i64 hi]] w fun e w' => e = .returned (.bool (fieldsB u.lits.length x h lo hi)) ∧ Below w.heap.size w w' := by
  have hbe : Below w.heap.size w (w.alloc (.cells #[.int .i64 h, .int .i64 lo, .int .i64 hi] 54)) := (Below.refl _ _).alloc (Nat.le_refl _) _
  have HU := Lib.hid (hu.below hbe); have HX := Lib.hid (hx.below hbe)
  have hlt := hx.lt
  have hC : (w.alloc (.cells #[.int .i64 h, .int .i64 lo, .int .i64 hi] 54)).heap[w.heap.size]? = some (.cells #[.int .i64 h, .int .i64 lo, .int .i64 hi] 54 (0, 0)) := heap_alloc_new _ _
  clear hu hx
  go_enter Tryd.func17, Tryd.ntmps17
  go_wp2_with fail
  generalize w.alloc (.cells #[.int .i64 h, .int .i64 lo, .int .i64 hi] 54) = Wa at *
  have HBA := Lib.hid hbe
  generalize hCC : w.heap.size = C at hC ⊢
  have hc0 : Wa.cell? ⟨C, 0, none⟩ = some (.int .i64 h) := by rw [cell_of_row _ _ _ _ _ _ hC]; rfl
  have i1 := HX.out.c1; have i2 := HX.out.c2; have i3 := HX.out.c3
  have hs3 := HX.out.rsrc
  refine (has_any h 1 _ rfl C _ hc0 (by omega) (by omega)).mono ?_
  rintro e w' ⟨rfl, rfl⟩
  have HD1 : Hid (hasB h 1 = hasB h 1) := Lib.hid rfl
  generalize hq1 : hasB h 1 = q1 at *
  have HQ1 := Lib.hid hq1; clear hq1
  go_upto_if 12 with (fail)
  go_cut [] (fun wx => Hid (dstB u.lits.length x h = true) ∧ Below Wa.heap.size Wa wx)
  case first =>
    cases q1 with
    | true =>
      cases hd2 : decide (x.dst.kind = 3) with
      | true =>
        have E : Hid (fieldsB u.lits.length x h lo hi = false) := Lib.hid (by unfold fieldsB dstB; rw [HQ1.out, hd2]; rfl)
        have hk : (x.dst.kind == 3) = true := by rw [of_decide_eq_true hd2]; rfl
        clear hd2
        go_wp2_with fail
        go_ret
        exact ⟨retb E.out.symm, hbe⟩
      | false =>
        have hk : (x.dst.kind == 3) = false := by rw [beq_eq_false_iff_ne]; exact of_decide_eq_false hd2
        have hop := operand_any B u lo' fo go' co' lc fc gc' cc' x.dst _ HU.out hl ⟨HX.out.rdk, HX.out.rdn⟩
        cases hq : opdB u.lits.length x.dst with
        | false =>
          have E : Hid (fieldsB u.lits.length x h lo hi = false) := Lib.hid (by unfold fieldsB dstB; rw [HQ1.out, hd2, hq]; rfl)
          rw [hq] at hop
          clear hd2 hq
          go_wp2_with fail
          refine hop.mono ?_
          rintro e w5 ⟨rfl, hb5⟩
          go_wp2_with fail
          go_ret
          exact ⟨retb E.out.symm, hbe.trans (hb5.mono hbe.size)⟩
        | true =>
          have HDST : Hid (dstB u.lits.length x h = true) := Lib.hid (by unfold dstB; rw [HQ1.out, hd2, hq]; rfl)
          rw [hq] at hop
          clear hd2 hq
          go_wp2_with fail
          refine hop.mono ?_
          rintro e w5 ⟨rfl, hB0⟩
          go_wp2_with fail
          go_meet
          case rel => exact ⟨HDST, hB0⟩
    | false =>
      by_cases z1 : x.dst.kind = 0
      · have y1 : (x.dst.kind == 0) = true := by rw [z1]; rfl
        by_cases z2 : x.dst.n = 0
        · have y2 : (x.dst.n == 0) = true := by rw [z2]; rfl
          have HDST : Hid (dstB u.lits.length x h = true) := Lib.hid (by unfold dstB; rw [HQ1.out, decide_eq_true z1, decide_eq_true z2]; rfl)
          clear z1 z2
          go_wp2_with fail
          go_meet
          case rel => exact ⟨HDST, Below.refl _ _⟩
        · have y2 : (x.dst.n == 0) = false := beq_eq_false_iff_ne.2 z2
          have E : Hid (fieldsB u.lits.length x h lo hi = false) := Lib.hid (by unfold fieldsB dstB; rw [HQ1.out, decide_eq_true z1, decide_eq_false z2]; rfl)
          clear z1 z2
          go_wp2_with fail
          go_ret
          exact ⟨retb E.out.symm, hbe⟩
      · have y1 : (x.dst.kind == 0) = false := beq_eq_false_iff_ne.2 z1
        have E : Hid (fieldsB u.lits.length x h lo hi = false) := Lib.hid (by unfold fieldsB dstB; rw [HQ1.out, decide_eq_false z1]; rfl)
        clear z1
        go_wp2_with fail
        go_ret
        exact ⟨retb E.out.symm, hbe⟩
  case rest =>
    obtain ⟨HDST, hB0⟩ := hcut
    rename_i w5
    have i3 := (HX.out.below hB0).c3
    go_wp2_with fail
    go_loopw [39] (fun iv wr => ∃ k : Nat, k ≤ x.src.length ∧ iv = .int .i64 k ∧ Hid (∀ j (h : j < x.src.length), j < k → opdB u.lits.length x.src[j] = true) ∧ Below Wa.heap.size Wa wr) (fun iv _ => x.src.length - (intOf iv).toNat)
    case atStart => exact ⟨0, Nat.zero_le _, rfl, Lib.hid (fun j _ h => absurd h (Nat.not_lt_zero _)), hB0⟩
    case round =>
      obtain ⟨k, hk, rfl, HK, hB⟩ := hrel
      rename World => wr
      have ib := HX.out.below hB
      have ub := HU.out.below hB
      by_cases hlt : k < x.src.length
      · obtain ⟨b2, off, hao, hb2, q0, q1, r0, r1⟩ := ib.src.arg hlt
        subst hao
        have HE : Hid (opdB u.lits.length x.src[k] = false → fieldsB u.lits.length x h lo hi = false) := Lib.hid (fun hf => by
          unfold fieldsB
          have : x.src.all (opdB u.lits.length) = false := by
            rw [List.all_eq_false]; exact ⟨x.src[k], List.getElem_mem hlt, by rw [hf]; decide⟩
          rw [this]; simp)
        have HN : Hid (opdB u.lits.length x.src[k] = true → ∀ j (h : j < x.src.length), j < k + 1 → opdB u.lits.length x.src[j] = true) := Lib.hid (fun hne j h hj => by
          rcases Nat.eq_or_lt_of_le (Nat.le_of_lt_succ hj) with e | e
          · subst e; exact hne
          · exact HK.out j h e)
        generalize x.src[k] = a at *
        have hba := (Below.refl wr.heap.size wr).alloc (Nat.le_refl _) (.cells #[.int .i64 a.kind, .int .i64 a.n] 34)
        have hop := operand_any B u lo' fo go' co' lc fc gc' cc' a _ (ub.below hba) hl ⟨r0, r1⟩
        clear ib ub
        cases hq : opdB u.lits.length a with
        | false =>
          have E := Lib.hid (HE.out hq)
          rw [hq] at hop
          clear hq
          go_wp2_with fail
          refine hop.mono ?_
          rintro e w5 ⟨rfl, hb5⟩
          go_wp2_with fail
          go_ret
          exact ⟨retb E.out.symm, HBA.out.trans ((hB.trans ((hba.trans (hb5.mono (by simp))).mono hB.size)).mono HBA.out.size)⟩
        | true =>
          have HN2 := Lib.hid (HN.out hq)
          rw [hq] at hop
          clear hq
          go_wp2_with fail
          refine hop.mono ?_
          rintro e w5 ⟨rfl, hb5⟩
          go_wp2_with fail
          go_roundw
          case rel => exact ⟨k + 1, by omega, by go_num, HN2, hB.trans ((hba.trans (hb5.mono (by simp))).mono hB.size)⟩
          case measure => simp [intOf]; omega
      · have HALL : Hid (x.src.all (opdB u.lits.length) = true) := Lib.hid (by
          rw [List.all_eq_true]
          intro a ha
          obtain ⟨j, hj, rfl⟩ := List.getElem_of_mem ha
          exact HK.out j hj (by omega))
        have hC2 := (hB.block C (lt_of_row hC)).trans hC
        have hcW : wr.cell? ⟨C, 0, none⟩ = some (.int .i64 h) := by rw [cell_of_row _ _ _ _ _ _ hC2]; rfl
        have hcL : wr.cell? ⟨C, 1, none⟩ = some (.int .i64 lo) := by rw [cell_of_row _ _ _ _ _ _ hC2]; rfl
        have hcH : wr.cell? ⟨C, 2, none⟩ = some (.int .i64 hi) := by rw [cell_of_row _ _ _ _ _ _ hC2]; rfl
        have d3 := ib.c3; have d4 := ib.c4; have d5 := ib.c5; have d6 := ib.c6; have d7 := ib.c7; have d8 := ib.c8; have d9 := ib.c9
        have hsrc := ib.rsrc
        clear ib ub hC2
        have HF : Hid (fieldsB u.lits.length x h lo hi = (wi x.src.length lo hi && (wi x.live 0 256 && ((hasB h 4 || x.n == 0) && ((hasB h 8 || x.name.toList.isEmpty) && ((hasB h 64 || x.to == 0) && ((hasB h 128 || x.live == 0) && ((hasB h 16 || x.cases.length == 0) && (hasB h 32 || x.segs.length == 0))))))))) := Lib.hid (by
          unfold fieldsB; rw [HDST.out, HALL.out]; rfl)
        have hBZ := HBA.out.trans (hB.mono HBA.out.size)
        cases hw1 : wi x.src.length lo hi with
        | false =>
          have E : Hid (fieldsB u.lits.length x h lo hi = false) := Lib.hid (by rw [HF.out, hw1]; rfl)
          go_wp2_with fail
          go_quiet ((go_at_call 22; exact Calls.quiet_of_same ((within_any _ _ _ _).mono fun _ _ ⟨a, b⟩ => ⟨a, b.symm⟩)))
          go_wp2_with fail
          go_ret
          exact ⟨retb E.out.symm, below_drewN hBZ _⟩
        | true =>
          go_wp2_with fail
          go_quiet ((go_at_call 22; exact Calls.quiet_of_same ((within_any _ _ _ _).mono fun _ _ ⟨a, b⟩ => ⟨a, b.symm⟩)))
          have HBQ := Lib.hid hBZ
          cases hw2 : wi x.live 0 256 with
          | false =>
            have E : Hid (fieldsB u.lits.length x h lo hi = false) := Lib.hid (by rw [HF.out, hw1, hw2]; rfl)
            go_wp2_with (go_at_call 22; refine (within_any _ _ _ _).mono ?_; rintro e w1 ⟨rfl, rfl⟩)
            go_ret
            exact ⟨retb E.out.symm, below_drewN hBZ _⟩
          | true =>
            have HF2 : Hid (fieldsB u.lits.length x h lo hi = ((hasB h 4 || x.n == 0) && ((hasB h 8 || x.name.toList.isEmpty) && ((hasB h 64 || x.to == 0) && ((hasB h 128 || x.live == 0) && ((hasB h 16 || x.cases.length == 0) && (hasB h 32 || x.segs.length == 0))))))) := Lib.hid (by rw [HF.out, hw1, hw2]; rfl)
            clear HF
            have HQ0 := Lib.hid hcW
            go_upto_region 16 with (go_at_call 22; refine (within_any _ _ _ _).mono ?_; rintro e w1 ⟨rfl, rfl⟩)
            have hBW := below_drewN hBZ nq
            have d3' := Lib.hid d3
            have d4' := Lib.hid d4
            have d5' := Lib.hid d5
            have d6' := Lib.hid d6
            have d7' := Lib.hid d7
            have d8' := Lib.hid d8
            have d9' := Lib.hid d9
            clear d3 d4 d5 d6 d7 d8 d9 hcW hcL hcH
            generalize hWQ : wr.drewN nq = Wq at *
            have hcW : Wq.cell? ⟨C, 0, none⟩ = some (.int .i64 h) := by rw [← hWQ]; exact HQ0.out
            have d4 := d4'.out
            rw [show wr.cell? = Wq.cell? from by rw [← hWQ]; rfl] at d4
            have d5 := d5'.out
            rw [show wr.cell? = Wq.cell? from by rw [← hWQ]; rfl] at d5
            have d6 := d6'.out
            rw [show wr.cell? = Wq.cell? from by rw [← hWQ]; rfl] at d6
            have d7 := d7'.out
            rw [show wr.cell? = Wq.cell? from by rw [← hWQ]; rfl] at d7
            have d8 := d8'.out
            rw [show wr.cell? = Wq.cell? from by rw [← hWQ]; rfl] at d8
            have d9 := d9'.out
            rw [show wr.cell? = Wq.cell? from by rw [← hWQ]; rfl] at d9
            clear hWQ
            have HG0 : Hid (fieldsB u.lits.length x h lo hi = ((hasB h 4 || x.n == 0) && ((hasB h 8 || x.name.toList.isEmpty) && ((hasB h 64 || x.to == 0) && ((hasB h 128 || x.live == 0) && ((hasB h 16 || x.cases.length == 0) && (hasB h 32 || x.segs.length == 0))))))) := Lib.hid (by rw [HF2.out])
            have hh := fun wx (hc : wx.cell? ⟨C, 0, none⟩ = some (.int .i64 h)) => has_any h 4 4 rfl C wx hc (by omega) (by omega)
            go_cut [66] (fun sv wx => ∃ v : Bool, sv = .bool v ∧ Hid ((hasB h 4 || x.n == 0) = !v) ∧ Wq = wx)
            case first =>
              go_wp2_with fail
              refine (hh _ hcW).mono ?_
              rintro e w1 ⟨rfl, rfl⟩
              cases hq4 : hasB h 4
              · go_wp2_with fail
                go_meet
                case rel => exact ⟨_, rfl, Lib.hid (by rw [hq4]; first | rfl | (simp; done) | (simp [bne]; done) | (rw [Bool.eq_iff_iff]; simp; done) | (rw [Bool.eq_iff_iff]; simp; omega)), rfl⟩
              · go_wp2_with fail
                go_meet
                case rel => exact ⟨_, rfl, Lib.hid (by rw [hq4]; first | rfl | (simp; done) | (simp [bne]; done) | (rw [Bool.eq_iff_iff]; simp; done) | (rw [Bool.eq_iff_iff]; simp; omega)), rfl⟩
            case rest =>
              obtain ⟨v, rfl, HV00, rfl⟩ := hcut
              clear hh
              cases v with
              | true =>
                have E : Hid (fieldsB u.lits.length x h lo hi = false) := Lib.hid (by rw [HG0.out, HV00.out]; rfl)
                go_wp2_with fail
                go_ret
                exact ⟨retb E.out.symm, hBW⟩
              | false =>
                have HV0 : Hid ((hasB h 4 || x.n == 0) = true) := Lib.hid (by rw [HV00.out]; rfl)
                go_upto_region 17 with fail
                have HG1 : Hid (fieldsB u.lits.length x h lo hi = ((hasB h 8 || x.name.toList.isEmpty) && ((hasB h 64 || x.to == 0) && ((hasB h 128 || x.live == 0) && ((hasB h 16 || x.cases.length == 0) && (hasB h 32 || x.segs.length == 0)))))) := Lib.hid (by rw [HG0.out, HV0.out, Bool.true_and])
                have hh := fun wx (hc : wx.cell? ⟨C, 0, none⟩ = some (.int .i64 h)) => has_any h 8 8 rfl C wx hc (by omega) (by omega)
                go_cut [66] (fun sv wx => ∃ v : Bool, sv = .bool v ∧ Hid ((hasB h 8 || x.name.toList.isEmpty) = !v) ∧ Wq = wx)
                case first =>
                  go_wp2_with fail
                  refine (hh _ hcW).mono ?_
                  rintro e w1 ⟨rfl, rfl⟩
                  cases hq4 : hasB h 8
                  · go_wp2_with fail
                    go_meet
                    case rel => exact ⟨_, rfl, Lib.hid (by rw [hq4]; first | rfl | (simp; done) | (simp [bne]; done) | (rw [Bool.eq_iff_iff]; simp; done) | (rw [Bool.eq_iff_iff]; simp; omega)), rfl⟩
                  · go_wp2_with fail
                    go_meet
                    case rel => exact ⟨_, rfl, Lib.hid (by rw [hq4]; first | rfl | (simp; done) | (simp [bne]; done) | (rw [Bool.eq_iff_iff]; simp; done) | (rw [Bool.eq_iff_iff]; simp; omega)), rfl⟩
                case rest =>
                  obtain ⟨v, rfl, HV10, rfl⟩ := hcut
                  clear hh
                  cases v with
                  | true =>
                    have E : Hid (fieldsB u.lits.length x h lo hi = false) := Lib.hid (by rw [HG1.out, HV10.out]; rfl)
                    go_wp2_with fail
                    go_ret
                    exact ⟨retb E.out.symm, hBW⟩
                  | false =>
                    have HV1 : Hid ((hasB h 8 || x.name.toList.isEmpty) = true) := Lib.hid (by rw [HV10.out]; rfl)
                    go_upto_region 18 with fail
                    have HG2 : Hid (fieldsB u.lits.length x h lo hi = ((hasB h 64 || x.to == 0) && ((hasB h 128 || x.live == 0) && ((hasB h 16 || x.cases.length == 0) && (hasB h 32 || x.segs.length == 0))))) := Lib.hid (by rw [HG1.out, HV1.out, Bool.true_and])
                    have hh := fun wx (hc : wx.cell? ⟨C, 0, none⟩ = some (.int .i64 h)) => has_any h 64 64 rfl C wx hc (by omega) (by omega)
                    go_cut [66] (fun sv wx => ∃ v : Bool, sv = .bool v ∧ Hid ((hasB h 64 || x.to == 0) = !v) ∧ Wq = wx)
                    case first =>
                      go_wp2_with fail
                      refine (hh _ hcW).mono ?_
                      rintro e w1 ⟨rfl, rfl⟩
                      cases hq4 : hasB h 64
                      · go_wp2_with fail
                        go_meet
                        case rel => exact ⟨_, rfl, Lib.hid (by rw [hq4]; first | rfl | (simp; done) | (simp [bne]; done) | (rw [Bool.eq_iff_iff]; simp; done) | (rw [Bool.eq_iff_iff]; simp; omega)), rfl⟩
                      · go_wp2_with fail
                        go_meet
                        case rel => exact ⟨_, rfl, Lib.hid (by rw [hq4]; first | rfl | (simp; done) | (simp [bne]; done) | (rw [Bool.eq_iff_iff]; simp; done) | (rw [Bool.eq_iff_iff]; simp; omega)), rfl⟩
                    case rest =>
                      obtain ⟨v, rfl, HV20, rfl⟩ := hcut
                      clear hh
                      cases v with
                      | true =>
                        have E : Hid (fieldsB u.lits.length x h lo hi = false) := Lib.hid (by rw [HG2.out, HV20.out]; rfl)
                        go_wp2_with fail
                        go_ret
                        exact ⟨retb E.out.symm, hBW⟩
                      | false =>
                        have HV2 : Hid ((hasB h 64 || x.to == 0) = true) := Lib.hid (by rw [HV20.out]; rfl)
                        go_upto_region 19 with fail
                        have HG3 : Hid (fieldsB u.lits.length x h lo hi = ((hasB h 128 || x.live == 0) && ((hasB h 16 || x.cases.length == 0) && (hasB h 32 || x.segs.length == 0)))) := Lib.hid (by rw [HG2.out, HV2.out, Bool.true_and])
                        have hh := fun wx (hc : wx.cell? ⟨C, 0, none⟩ = some (.int .i64 h)) => has_any h 128 128 rfl C wx hc (by omega) (by omega)
                        go_cut [66] (fun sv wx => ∃ v : Bool, sv = .bool v ∧ Hid ((hasB h 128 || x.live == 0) = !v) ∧ Wq = wx)
                        case first =>
                          go_wp2_with fail
                          refine (hh _ hcW).mono ?_
                          rintro e w1 ⟨rfl, rfl⟩
                          cases hq4 : hasB h 128
                          · go_wp2_with fail
                            go_meet
                            case rel => exact ⟨_, rfl, Lib.hid (by rw [hq4]; first | rfl | (simp; done) | (simp [bne]; done) | (rw [Bool.eq_iff_iff]; simp; done) | (rw [Bool.eq_iff_iff]; simp; omega)), rfl⟩
                          · go_wp2_with fail
                            go_meet
                            case rel => exact ⟨_, rfl, Lib.hid (by rw [hq4]; first | rfl | (simp; done) | (simp [bne]; done) | (rw [Bool.eq_iff_iff]; simp; done) | (rw [Bool.eq_iff_iff]; simp; omega)), rfl⟩
                        case rest =>
                          obtain ⟨v, rfl, HV30, rfl⟩ := hcut
                          clear hh
                          cases v with
                          | true =>
                            have E : Hid (fieldsB u.lits.length x h lo hi = false) := Lib.hid (by rw [HG3.out, HV30.out]; rfl)
                            go_wp2_with fail
                            go_ret
                            exact ⟨retb E.out.symm, hBW⟩
                          | false =>
                            have HV3 : Hid ((hasB h 128 || x.live == 0) = true) := Lib.hid (by rw [HV30.out]; rfl)
                            go_upto_region 21 with fail
                            have HG4 : Hid (fieldsB u.lits.length x h lo hi = ((hasB h 16 || x.cases.length == 0) && (hasB h 32 || x.segs.length == 0))) := Lib.hid (by rw [HG3.out, HV3.out, Bool.true_and])
                            have hh := fun wx (hc : wx.cell? ⟨C, 0, none⟩ = some (.int .i64 h)) => has_any h 16 16 rfl C wx hc (by omega) (by omega)
                            go_cut [107] (fun sv wx => ∃ v : Bool, sv = .bool v ∧ Hid ((hasB h 16 || x.cases.length == 0) = !v) ∧ Wq = wx)
                            case first =>
                              go_wp2_with fail
                              refine (hh _ hcW).mono ?_
                              rintro e w1 ⟨rfl, rfl⟩
                              cases hq4 : hasB h 16
                              · go_wp2_with fail
                                go_meet
                                case rel => exact ⟨_, rfl, Lib.hid (by rw [hq4]; first | rfl | (simp; done) | (simp [bne]; done) | (rw [Bool.eq_iff_iff]; simp; done) | (rw [Bool.eq_iff_iff]; simp; omega)), rfl⟩
                              · go_wp2_with fail
                                go_meet
                                case rel => exact ⟨_, rfl, Lib.hid (by rw [hq4]; first | rfl | (simp; done) | (simp [bne]; done) | (rw [Bool.eq_iff_iff]; simp; done) | (rw [Bool.eq_iff_iff]; simp; omega)), rfl⟩
                            case rest =>
                              obtain ⟨v, rfl, HV40, rfl⟩ := hcut
                              clear hh
                              cases v with
                              | true =>
                                have E : Hid (fieldsB u.lits.length x h lo hi = false) := Lib.hid (by rw [HG4.out, HV40.out]; rfl)
                                go_wp2_with fail
                                go_ret
                                exact ⟨retb E.out.symm, hBW⟩
                              | false =>
                                have HV4 : Hid ((hasB h 16 || x.cases.length == 0) = true) := Lib.hid (by rw [HV40.out]; rfl)
                                go_upto_region 22 with fail
                                have HG5 : Hid (fieldsB u.lits.length x h lo hi = (hasB h 32 || x.segs.length == 0)) := Lib.hid (by rw [HG4.out, HV4.out, Bool.true_and])
                                have hh := fun wx (hc : wx.cell? ⟨C, 0, none⟩ = some (.int .i64 h)) => has_any h 32 32 rfl C wx hc (by omega) (by omega)
                                go_cut [107] (fun sv wx => ∃ v : Bool, sv = .bool v ∧ Hid ((hasB h 32 || x.segs.length == 0) = !v) ∧ Wq = wx)
                                case first =>
                                  go_wp2_with fail
                                  refine (hh _ hcW).mono ?_
                                  rintro e w1 ⟨rfl, rfl⟩
                                  cases hq4 : hasB h 32
                                  · go_wp2_with fail
                                    go_meet
                                    case rel => exact ⟨_, rfl, Lib.hid (by rw [hq4]; first | rfl | (simp; done) | (simp [bne]; done) | (rw [Bool.eq_iff_iff]; simp; done) | (rw [Bool.eq_iff_iff]; simp; omega)), rfl⟩
                                  · go_wp2_with fail
                                    go_meet
                                    case rel => exact ⟨_, rfl, Lib.hid (by rw [hq4]; first | rfl | (simp; done) | (simp [bne]; done) | (rw [Bool.eq_iff_iff]; simp; done) | (rw [Bool.eq_iff_iff]; simp; omega)), rfl⟩
                                case rest =>
                                  obtain ⟨v, rfl, HV50, rfl⟩ := hcut
                                  clear hh
                                  cases v with
                                  | true =>
                                    have E : Hid (fieldsB u.lits.length x h lo hi = false) := Lib.hid (by rw [HG5.out, HV50.out]; rfl)
                                    go_wp2_with fail
                                    go_ret
                                    exact ⟨retb E.out.symm, hBW⟩
                                  | false =>
                                    have HV5 : Hid ((hasB h 32 || x.segs.length == 0) = true) := Lib.hid (by rw [HV50.out]; rfl)
                                    have E : Hid (fieldsB u.lits.length x h lo hi = true) := Lib.hid (by rw [HG5.out, HV5.out])
                                    go_wp2_with fail
                                    go_ret
                                    exact ⟨retb E.out.symm, hBW⟩

end Go.Proofs.YtghgbikmlbildaaDoor
