/-
  ints.Read: what it computes of any string.
-/
import Derived.Test.YtlefjhicjmkonaaIRefRead
import Derived.Laws.RangeAny
namespace Go.Proofs.Ytlefjhicjmkonaa
open Go.RowKit

theorem neg_u64 {n : Nat} (h : n ≤ 9223372036854775808) : wrap64 (IntKind.u64.wrap (-(n : Int))) = -(n : Int) := by
  rw [IntKind.wrap_u64]; unfold wrap64; omega
theorem nil_of (s : ByteArray) (z : s.size = 0) : s.data.toList = [] := List.length_eq_zero_iff.1 (by rw [size_list]; exact z)
theorem form_yes {l : List UInt8} (h : dgs (mag l) = true) (h2 : l ≠ [45, 48]) : form l = true := by unfold form; rw [h, decide_eq_false h2]; rfl
theorem form_no {l : List UInt8} (h : dgs (mag l) = false) : form l = false := by unfold form; rw [h]; rfl

/-- What the two variables of the loop say of the number that was read so far: it is too great, or it is nn. -/
def Ovr (M nn v : Nat) (ov : Bool) : Prop := if ov = true then M < v else nn = v
theorem Ovr.yes {M nn v : Nat} (h : Ovr M nn v true) : M < v := h
theorem Ovr.no {M nn v : Nat} (h : Ovr M nn v false) : nn = v := h
theorem Ovr.mk1 {M nn v : Nat} (h : M < v) : Ovr M nn v true := h
theorem Ovr.mk0 {M nn v : Nat} (h : nn = v) : Ovr M nn v false := h

set_option maxHeartbeats 2000000 in
theorem read_any (s : ByteArray) (w : World) (hs : s.size ≤ maxLen) :
    Calls Try.prog 11 #[.string s] w fun e w' => e = .returned (.tuple #[.int .i64 (rdv s.data.toList), .int .i64 (rde s.data.toList)]) ∧ Below w.heap.size w w' := by
  unfold maxLen at hs
  have E1 : Hid (form s.data.toList = false → rdv s.data.toList = 0) := Lib.hid (fun hf => by unfold rdv; rw [hf]; rfl)
  have E2 : Hid (form s.data.toList = false → rde s.data.toList = 6) := Lib.hid (fun hf => by unfold rde; rw [hf]; rfl)
  have E3 : Hid (form s.data.toList = true → rdv s.data.toList = okv (num s.data.toList) ∧ rde s.data.toList = oke (num s.data.toList)) := Lib.hid (fun hf => by unfold rdv rde; rw [hf]; exact ⟨rfl, rfl⟩)
  by_cases z : s.size = 0
  · have hl := nil_of s z
    have E : Hid (form s.data.toList = false) := Lib.hid (by rw [hl]; rfl)
    have z2 : s.toList = [] := by rw [ByteArray.toList_eq, hl]
    clear hl z
    go_enter Try.func11, Try.ntmps11
    go_wp2
    go_ret2
    exact ⟨ret2 (E1.out E.out).symm (E2.out E.out).symm, Below.refl _ _⟩
  have hl : 0 < s.data.toList.length := by rw [size_list]; omega
  have hp : 0 < s.size := by omega
  have ne : s.data.toList ≠ [] := fun e => by rw [e] at hl; exact absurd hl (by decide)
  have ne2 : s.toList.isEmpty = false := by rw [ByteArray.toList_eq]; simpa using ne
  by_cases c : s[0].toNat = 45
  · have hg : sgn s.data.toList = true := by rw [sgn_of hl]; exact decide_eq_true c
    have HM := Lib.hid (form_neg hg)
    have c2 : ((s[0].toNat : Int) == 45) = true := by simp [c]
    have hx : (s.extract 1 s.size).data.toList = mag s.data.toList := by rw [extract1_list, HM.out.1]
    have hxs := extract1_size s
    have HXS := Lib.hid hxs
    have HX := Lib.hid hx
    have hts : (s.extract 1 s.size).size ≤ 9223372036854775807 := by omega
    have HC : Hid (s.data.toList[0].toNat = 45) := Lib.hid c
    clear c hg hx hxs ne z
    generalize hgt : s.extract 1 s.size = t at *
    by_cases tz : t.size = 0
    · have htl := nil_of t tz
      have E : Hid (form s.data.toList = false) := Lib.hid (form_no (by rw [← HX.out, htl]; rfl))
      have t2 : t.toList = [] := by rw [ByteArray.toList_eq, htl]
      clear htl tz
      go_enter Try.func11, Try.ntmps11
      go_wp2
      go_ret2
      exact ⟨ret2 (E1.out E.out).symm (E2.out E.out).symm, Below.refl _ _⟩
    have tl : 0 < t.data.toList.length := by rw [size_list]; omega
    have tp : 0 < t.size := by omega
    have tne : t.toList.isEmpty = false := by rw [ByteArray.toList_eq]; cases h : t.data.toList with | nil => rw [h] at tl; exact absurd tl (by decide) | cons a l => rfl
    have s0 : (s.toList == [48]) = false := by
      rw [ByteArray.toList_eq, beq_eq_false_iff_ne]
      intro e
      have := HC.out
      simp only [e] at this
      exact absurd (show (48 : Nat) = 45 from this) (by decide)
    clear tz
    by_cases t0 : t[0].toNat = 48
    · have t2 : ((t[0].toNat : Int) == 48) = true := by simp [t0]
      have E : Hid (form s.data.toList = false) := Lib.hid (by
        by_cases t1 : 1 < t.data.toList.length
        · exact form_no (by rw [← HX.out]; exact dgs_no_first t1 t0)
        · have e1 : t.data.toList = [48] := by
            match h : t.data.toList with
            | [] => rw [h] at tl; exact absurd tl (by decide)
            | [a] =>
              have : t.data.toList[0] = a := by simp [h]
              have h0 : a.toNat = 48 := by rw [← this]; exact t0
              rw [UInt8.toNat_inj.1 (show a.toNat = (48 : UInt8).toNat from h0)]
            | a :: b :: l => rw [h] at t1; simp at t1
          have e2 : s.data.toList = [45, 48] := by
            have h1 := HX.out
            rw [HM.out.1, e1] at h1
            rw [List.drop_one] at h1
            match h : s.data.toList with
            | [] => rw [h] at hl; exact absurd hl (by decide)
            | a :: l =>
              have ha : s.data.toList[0] = a := by simp [h]
              have h0 : a.toNat = 45 := by rw [← ha]; exact HC.out
              rw [h] at h1
              simp at h1
              rw [← h1, UInt8.toNat_inj.1 (show a.toNat = (45 : UInt8).toNat from h0)]
          rw [e2]; rfl)
      clear t0
      go_enter Try.func11, Try.ntmps11
      go_wp2
      go_ret2
      exact ⟨ret2 (E1.out E.out).symm (E2.out E.out).symm, Below.refl _ _⟩
    · have t2 : ((t[0].toNat : Int) == 48) = false := by rw [beq_eq_false_iff_ne]; omega
      have HNO : Hid (∀ k (h : k < t.size), t[k].toNat < 48 ∨ 57 < t[k].toNat → form s.data.toList = false) := Lib.hid (fun k h d => form_no (by rw [← HX.out]; exact dgs_no_digit k (by rw [size_list]; exact h) d))
      have HYES : Hid ((∀ j (hj : j < t.size), 48 ≤ t[j].toNat ∧ t[j].toNat ≤ 57) → form s.data.toList = true) := Lib.hid (fun h => form_yes (by rw [← HX.out]; exact dgs_yes tl (fun j hj => h j (by rw [size_list] at hj; exact hj)) (fun _ => t0)) (fun e => by
        have h1 := HX.out
        rw [HM.out.1, e] at h1
        have h2 : t.data.toList = [48] := h1
        apply t0
        show t.data.toList[0].toNat = 48
        simp only [h2]; rfl))
      have HN : Hid (num s.data.toList = -(val t.data.toList : Int)) := Lib.hid (by rw [HM.out.2, HX.out])
      clear t0 hl
      go_enter Try.func11, Try.ntmps11
      go_wp2
      have HD0 := Lib.hid (size_list t)
      go_loopw [6, 7] (fun n o wr => ∃ (k nn : Nat) (ov : Bool), n = .int .u64 nn ∧ o = .bool ov ∧ wr = w.iter t k ∧ k ≤ t.size ∧ nn ≤ 9223372036854775808 ∧ Hid (∀ j (hj : j < t.size), j < k → 48 ≤ t[j].toNat ∧ t[j].toNat ≤ 57) ∧ Hid (Ovr 9223372036854775808 nn (val (t.data.toList.take k)) ov)) (fun _ _ wr => t.size - wr.iterPos w.heap.size)
      case atStart => exact ⟨0, 0, false, rfl, rfl, rfl, Nat.zero_le _, Nat.zero_le _, Lib.hid (fun j hj h => by omega), Lib.hid (Ovr.mk0 rfl)⟩
      case round =>
        obtain ⟨k, nn, ov, rfl, rfl, rfl, hk, hnn, HD, HV⟩ := hrel
        by_cases hlt : k < t.size
        · by_cases hi : 128 ≤ t[k].toNat
          · have hnext := fun ty => run_next_any (P := Try.prog) w t k ty hlt
            have hr := (decode_high t k hlt hi).1
            have hr2 := decode_le t k
            generalize (Utf8.decode t k).1 = r at *
            generalize (Utf8.decode t k).2 = r2 at *
            have E := Lib.hid (HNO.out k hlt (by omega))
            clear hi
            go_wp2
            go_ret2
            exact ⟨ret2 (E1.out E.out).symm (E2.out E.out).symm, (Below.refl _ _).alloc (Nat.le_refl _) _⟩
          have hlo : t[k].toNat < 128 := by omega
          clear hi
          have hnext := fun ty => run_next_ascii (P := Try.prog) w t k ty hlt hlo
          by_cases d1 : t[k].toNat < 48
          · have E := Lib.hid (HNO.out k hlt (Or.inl d1))
            go_wp2
            go_ret2
            exact ⟨ret2 (E1.out E.out).symm (E2.out E.out).symm, (Below.refl _ _).alloc (Nat.le_refl _) _⟩
          by_cases d2 : 57 < t[k].toNat
          · have E := Lib.hid (HNO.out k hlt (Or.inr d2))
            go_wp2
            go_ret2
            exact ⟨ret2 (E1.out E.out).symm (E2.out E.out).symm, (Below.refl _ _).alloc (Nat.le_refl _) _⟩
          have HD' : Hid (∀ j (hj : j < t.size), j < k + 1 → 48 ≤ t[j].toNat ∧ t[j].toNat ≤ 57) := Lib.hid (fun j hj h => by
            by_cases e : j = k
            · subst e; omega
            · exact HD.out j hj (by omega))
          have HST : Hid (val (t.data.toList.take (k + 1)) = 10 * val (t.data.toList.take k) + (t[k].toNat - 48)) := Lib.hid (val_take (l := t.data.toList) (k := k) (by rw [HD0.out]; exact hlt))
          cases ov with
          | true =>
            go_wp2
            go_roundw
            case rel => exact ⟨k + 1, nn, true, rfl, rfl, rfl, by omega, hnn, HD', Lib.hid (Ovr.mk1 (by have := HV.out.yes; rw [HST.out]; omega))⟩
            case measure => simp; omega
          | false =>
            by_cases big : (9223372036854775808 - ((t[k].toNat : Int) - 48)) / 10 < (nn : Int)
            · go_wp2
              go_roundw
              case rel => exact ⟨k + 1, nn, true, rfl, rfl, rfl, by omega, hnn, HD', Lib.hid (Ovr.mk1 (by have := HV.out.no; rw [HST.out]; omega))⟩
              case measure => simp; omega
            · go_wp2
              go_roundw
              case rel => exact ⟨k + 1, 10 * nn + (t[k].toNat - 48), false, by exact congrArg (Value.int .u64) (by omega), rfl, rfl, by omega, by omega, HD', Lib.hid (Ovr.mk0 (by have := HV.out.no; rw [HST.out]; omega))⟩
              case measure => simp; omega
        · have hnext := fun ty => run_next_end (P := Try.prog) w t k ty hlt
          have hfull : Hid (t.data.toList.take k = t.data.toList) := Lib.hid (List.take_of_length_le (by rw [HD0.out]; omega))
          have hyes := HYES.out (fun j hj => HD.out j hj (by omega))
          have HY := Lib.hid hyes; clear hyes
          cases ov with
          | true =>
            go_wp2
            go_ret2
            have hn : ¬ I64 (num s.data.toList) := by have := HV.out.yes; rw [hfull.out] at this; rw [HN.out]; unfold I64; omega
            exact ⟨ret2 (by rw [(E3.out HY.out).1, okv_not hn]) (by rw [(E3.out HY.out).2, oke_not hn]), (Below.refl _ _).alloc (Nat.le_refl _) _⟩
          | false =>
            go_wp2
            go_ret2
            have hvv := HV.out.no
            rw [hfull.out] at hvv
            have hf : I64 (num s.data.toList) := by rw [HN.out]; unfold I64; omega
            exact ⟨ret2 (by rw [(E3.out HY.out).1, okv_fit hf, HN.out, ← hvv]; exact neg_u64 hnn) (by rw [(E3.out HY.out).2, oke_fit hf]), (Below.refl _ _).alloc (Nat.le_refl _) _⟩
  · have hg : sgn s.data.toList = false := by rw [sgn_of hl]; exact decide_eq_false c
    have HM := Lib.hid (form_pos hg)
    have c2 : ((s[0].toNat : Int) == 45) = false := by rw [beq_eq_false_iff_ne]; omega
    have HNE : Hid (s.data.toList ≠ [45, 48]) := Lib.hid (fun e => by rw [e] at hg; exact absurd hg (by decide))
    have HNO : Hid (∀ k (h : k < s.size), s[k].toNat < 48 ∨ 57 < s[k].toNat → form s.data.toList = false) := Lib.hid (fun k h d => form_no (by rw [HM.out.1]; exact dgs_no_digit k (by rw [size_list]; exact h) d))
    have HN : Hid (num s.data.toList = (val s.data.toList : Int)) := Lib.hid (by rw [HM.out.2, HM.out.1])
    clear c hg ne z
    by_cases t0 : s[0].toNat = 48
    · have t2 : ((s[0].toNat : Int) == 48) = true := by simp [t0]
      by_cases t1 : 1 < s.data.toList.length
      · have E : Hid (form s.data.toList = false) := Lib.hid (form_no (by rw [HM.out.1]; exact dgs_no_first t1 t0))
        have s0 : (s.toList == [48]) = false := by
          rw [ByteArray.toList_eq, beq_eq_false_iff_ne]
          intro e
          rw [e] at t1; simp at t1
        clear t0 t1 hl
        go_enter Try.func11, Try.ntmps11
        go_wp2
        go_ret2
        exact ⟨ret2 (E1.out E.out).symm (E2.out E.out).symm, Below.refl _ _⟩
      · have s0 : (s.toList == [48]) = true := by
          rw [ByteArray.toList_eq, beq_iff_eq]
          match h : s.data.toList with
          | [] => rw [h] at hl; exact absurd hl (by decide)
          | [a] =>
            have : s.data.toList[0] = a := by simp [h]
            have h0 : a.toNat = 48 := by rw [← this]; exact t0
            rw [UInt8.toNat_inj.1 (show a.toNat = (48 : UInt8).toNat from h0)]
          | a :: b :: l => rw [h] at t1; simp at t1
        have HYES : Hid ((∀ j (hj : j < s.size), 48 ≤ s[j].toNat ∧ s[j].toNat ≤ 57) → form s.data.toList = true) := Lib.hid (fun h => form_yes (by rw [HM.out.1]; exact dgs_yes hl (fun j hj => h j (by rw [size_list] at hj; exact hj)) (fun h1 => absurd h1 t1)) HNE.out)
        clear t0 t1 hl
        go_enter Try.func11, Try.ntmps11
        go_wp2
        have HD0 := Lib.hid (size_list s)
        go_loopw [6, 7] (fun n o wr => ∃ (k nn : Nat) (ov : Bool), n = .int .u64 nn ∧ o = .bool ov ∧ wr = w.iter s k ∧ k ≤ s.size ∧ nn ≤ 9223372036854775807 ∧ Hid (∀ j (hj : j < s.size), j < k → 48 ≤ s[j].toNat ∧ s[j].toNat ≤ 57) ∧ Hid (Ovr 9223372036854775807 nn (val (s.data.toList.take k)) ov)) (fun _ _ wr => s.size - wr.iterPos w.heap.size)
        case atStart => exact ⟨0, 0, false, rfl, rfl, rfl, Nat.zero_le _, Nat.zero_le _, Lib.hid (fun j hj h => by omega), Lib.hid (Ovr.mk0 rfl)⟩
        case round =>
          obtain ⟨k, nn, ov, rfl, rfl, rfl, hk, hnn, HD, HV⟩ := hrel
          by_cases hlt : k < s.size
          · by_cases hi : 128 ≤ s[k].toNat
            · have hnext := fun ty => run_next_any (P := Try.prog) w s k ty hlt
              have hr := (decode_high s k hlt hi).1
              have hr2 := decode_le s k
              generalize (Utf8.decode s k).1 = r at *
              generalize (Utf8.decode s k).2 = r2 at *
              have E := Lib.hid (HNO.out k hlt (by omega))
              clear hi
              go_wp2
              go_ret2
              exact ⟨ret2 (E1.out E.out).symm (E2.out E.out).symm, (Below.refl _ _).alloc (Nat.le_refl _) _⟩
            have hlo : s[k].toNat < 128 := by omega
            clear hi
            have hnext := fun ty => run_next_ascii (P := Try.prog) w s k ty hlt hlo
            by_cases d1 : s[k].toNat < 48
            · have E := Lib.hid (HNO.out k hlt (Or.inl d1))
              go_wp2
              go_ret2
              exact ⟨ret2 (E1.out E.out).symm (E2.out E.out).symm, (Below.refl _ _).alloc (Nat.le_refl _) _⟩
            by_cases d2 : 57 < s[k].toNat
            · have E := Lib.hid (HNO.out k hlt (Or.inr d2))
              go_wp2
              go_ret2
              exact ⟨ret2 (E1.out E.out).symm (E2.out E.out).symm, (Below.refl _ _).alloc (Nat.le_refl _) _⟩
            have HD' : Hid (∀ j (hj : j < s.size), j < k + 1 → 48 ≤ s[j].toNat ∧ s[j].toNat ≤ 57) := Lib.hid (fun j hj h => by
              by_cases e : j = k
              · subst e; omega
              · exact HD.out j hj (by omega))
            have HST : Hid (val (s.data.toList.take (k + 1)) = 10 * val (s.data.toList.take k) + (s[k].toNat - 48)) := Lib.hid (val_take (l := s.data.toList) (k := k) (by rw [HD0.out]; exact hlt))
            cases ov with
            | true =>
              go_wp2
              go_roundw
              case rel => exact ⟨k + 1, nn, true, rfl, rfl, rfl, by omega, hnn, HD', Lib.hid (Ovr.mk1 (by have := HV.out.yes; rw [HST.out]; omega))⟩
              case measure => simp; omega
            | false =>
              by_cases big : (9223372036854775807 - ((s[k].toNat : Int) - 48)) / 10 < (nn : Int)
              · go_wp2
                go_roundw
                case rel => exact ⟨k + 1, nn, true, rfl, rfl, rfl, by omega, hnn, HD', Lib.hid (Ovr.mk1 (by have := HV.out.no; rw [HST.out]; omega))⟩
                case measure => simp; omega
              · go_wp2
                go_roundw
                case rel => exact ⟨k + 1, 10 * nn + (s[k].toNat - 48), false, by exact congrArg (Value.int .u64) (by omega), rfl, rfl, by omega, by omega, HD', Lib.hid (Ovr.mk0 (by have := HV.out.no; rw [HST.out]; omega))⟩
                case measure => simp; omega
          · have hnext := fun ty => run_next_end (P := Try.prog) w s k ty hlt
            have hfull : Hid (s.data.toList.take k = s.data.toList) := Lib.hid (List.take_of_length_le (by rw [HD0.out]; omega))
            have hyes := HYES.out (fun j hj => HD.out j hj (by omega))
            have HY := Lib.hid hyes; clear hyes
            cases ov with
            | true =>
              go_wp2
              go_ret2
              have hn : ¬ I64 (num s.data.toList) := by have := HV.out.yes; rw [hfull.out] at this; rw [HN.out]; unfold I64; omega
              exact ⟨ret2 (by rw [(E3.out HY.out).1, okv_not hn]) (by rw [(E3.out HY.out).2, oke_not hn]), (Below.refl _ _).alloc (Nat.le_refl _) _⟩
            | false =>
              go_wp2
              go_ret2
              have hvv := HV.out.no
              rw [hfull.out] at hvv
              have hf : I64 (num s.data.toList) := by rw [HN.out]; unfold I64; omega
              exact ⟨ret2 (by rw [(E3.out HY.out).1, okv_fit hf, HN.out, ← hvv]) (by rw [(E3.out HY.out).2, oke_fit hf]), (Below.refl _ _).alloc (Nat.le_refl _) _⟩
    · have t2 : ((s[0].toNat : Int) == 48) = false := by rw [beq_eq_false_iff_ne]; omega
      have HYES : Hid ((∀ j (hj : j < s.size), 48 ≤ s[j].toNat ∧ s[j].toNat ≤ 57) → form s.data.toList = true) := Lib.hid (fun h => form_yes (by rw [HM.out.1]; exact dgs_yes hl (fun j hj => h j (by rw [size_list] at hj; exact hj)) (fun _ => t0)) HNE.out)
      clear t0 hl
      go_enter Try.func11, Try.ntmps11
      go_wp2
      have HD0 := Lib.hid (size_list s)
      go_loopw [6, 7] (fun n o wr => ∃ (k nn : Nat) (ov : Bool), n = .int .u64 nn ∧ o = .bool ov ∧ wr = w.iter s k ∧ k ≤ s.size ∧ nn ≤ 9223372036854775807 ∧ Hid (∀ j (hj : j < s.size), j < k → 48 ≤ s[j].toNat ∧ s[j].toNat ≤ 57) ∧ Hid (Ovr 9223372036854775807 nn (val (s.data.toList.take k)) ov)) (fun _ _ wr => s.size - wr.iterPos w.heap.size)
      case atStart => exact ⟨0, 0, false, rfl, rfl, rfl, Nat.zero_le _, Nat.zero_le _, Lib.hid (fun j hj h => by omega), Lib.hid (Ovr.mk0 rfl)⟩
      case round =>
        obtain ⟨k, nn, ov, rfl, rfl, rfl, hk, hnn, HD, HV⟩ := hrel
        by_cases hlt : k < s.size
        · by_cases hi : 128 ≤ s[k].toNat
          · have hnext := fun ty => run_next_any (P := Try.prog) w s k ty hlt
            have hr := (decode_high s k hlt hi).1
            have hr2 := decode_le s k
            generalize (Utf8.decode s k).1 = r at *
            generalize (Utf8.decode s k).2 = r2 at *
            have E := Lib.hid (HNO.out k hlt (by omega))
            clear hi
            go_wp2
            go_ret2
            exact ⟨ret2 (E1.out E.out).symm (E2.out E.out).symm, (Below.refl _ _).alloc (Nat.le_refl _) _⟩
          have hlo : s[k].toNat < 128 := by omega
          clear hi
          have hnext := fun ty => run_next_ascii (P := Try.prog) w s k ty hlt hlo
          by_cases d1 : s[k].toNat < 48
          · have E := Lib.hid (HNO.out k hlt (Or.inl d1))
            go_wp2
            go_ret2
            exact ⟨ret2 (E1.out E.out).symm (E2.out E.out).symm, (Below.refl _ _).alloc (Nat.le_refl _) _⟩
          by_cases d2 : 57 < s[k].toNat
          · have E := Lib.hid (HNO.out k hlt (Or.inr d2))
            go_wp2
            go_ret2
            exact ⟨ret2 (E1.out E.out).symm (E2.out E.out).symm, (Below.refl _ _).alloc (Nat.le_refl _) _⟩
          have HD' : Hid (∀ j (hj : j < s.size), j < k + 1 → 48 ≤ s[j].toNat ∧ s[j].toNat ≤ 57) := Lib.hid (fun j hj h => by
            by_cases e : j = k
            · subst e; omega
            · exact HD.out j hj (by omega))
          have HST : Hid (val (s.data.toList.take (k + 1)) = 10 * val (s.data.toList.take k) + (s[k].toNat - 48)) := Lib.hid (val_take (l := s.data.toList) (k := k) (by rw [HD0.out]; exact hlt))
          cases ov with
          | true =>
            go_wp2
            go_roundw
            case rel => exact ⟨k + 1, nn, true, rfl, rfl, rfl, by omega, hnn, HD', Lib.hid (Ovr.mk1 (by have := HV.out.yes; rw [HST.out]; omega))⟩
            case measure => simp; omega
          | false =>
            by_cases big : (9223372036854775807 - ((s[k].toNat : Int) - 48)) / 10 < (nn : Int)
            · go_wp2
              go_roundw
              case rel => exact ⟨k + 1, nn, true, rfl, rfl, rfl, by omega, hnn, HD', Lib.hid (Ovr.mk1 (by have := HV.out.no; rw [HST.out]; omega))⟩
              case measure => simp; omega
            · go_wp2
              go_roundw
              case rel => exact ⟨k + 1, 10 * nn + (s[k].toNat - 48), false, by exact congrArg (Value.int .u64) (by omega), rfl, rfl, by omega, by omega, HD', Lib.hid (Ovr.mk0 (by have := HV.out.no; rw [HST.out]; omega))⟩
              case measure => simp; omega
        · have hnext := fun ty => run_next_end (P := Try.prog) w s k ty hlt
          have hfull : Hid (s.data.toList.take k = s.data.toList) := Lib.hid (List.take_of_length_le (by rw [HD0.out]; omega))
          have hyes := HYES.out (fun j hj => HD.out j hj (by omega))
          have HY := Lib.hid hyes; clear hyes
          cases ov with
          | true =>
            go_wp2
            go_ret2
            have hn : ¬ I64 (num s.data.toList) := by have := HV.out.yes; rw [hfull.out] at this; rw [HN.out]; unfold I64; omega
            exact ⟨ret2 (by rw [(E3.out HY.out).1, okv_not hn]) (by rw [(E3.out HY.out).2, oke_not hn]), (Below.refl _ _).alloc (Nat.le_refl _) _⟩
          | false =>
            go_wp2
            go_ret2
            have hvv := HV.out.no
            rw [hfull.out] at hvv
            have hf : I64 (num s.data.toList) := by rw [HN.out]; unfold I64; omega
            exact ⟨ret2 (by rw [(E3.out HY.out).1, okv_fit hf, HN.out, ← hvv]) (by rw [(E3.out HY.out).2, oke_fit hf]), (Below.refl _ _).alloc (Nat.le_refl _) _⟩

end Go.Proofs.Ytlefjhicjmkonaa
