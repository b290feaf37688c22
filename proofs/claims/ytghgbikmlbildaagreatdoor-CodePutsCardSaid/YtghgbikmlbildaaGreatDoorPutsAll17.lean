/-
  The reference's varint, text, arg, bit: the walks. Classes: the document's way and the program's are one. No program in sight. The document's names and classes: the walks.
-/
import Derived.WalkSpells
import Derived.WalkLawsBesides
import Derived.Test.YtghgbikmlbildaaGreatDoorPutsAll03
import Derived.Test.YtghgbikmlbildaaGreatDoorPutsAll08
import Derived.Test.YtghgbikmlbildaaGreatDoorPutsAll10
import Derived.Test.YtghgbikmlbildaaGreatDoorPutsAll13
import Derived.Test.YtghgbikmlbildaaGreatDoorPutsAll16
namespace Go.Proofs.YtghgbikmlbildaaGreatDoor
open Go.RowKit
set_option linter.unusedVariables false
set_option linter.unusedSimpArgs false

theorem cat_bytes (a b : List UInt8) : (⟨a.toArray⟩ : ByteArray) ++ ⟨b.toArray⟩ = ⟨(a ++ b).toArray⟩ := by
 apply ByteArray.ext
 rw [ByteArray.data_append]
 simp
theorem bsz (l : List UInt8) : (⟨l.toArray⟩ : ByteArray).size = l.length := by show l.toArray.size = _; simp
theorem vintF_s (f n : Nat) : vintF (f + 1) n = if n < 128 then [UInt8.ofNat n] else UInt8.ofNat (n % 128 + 128) :: vintF f (n / 128) := rfl
theorem vintF_more : ∀ (f n : Nat), n < 128 ^ (f + 1) → vintF (f + 2) n = vintF (f + 1) n
 | 0, n, h => by
  have : n < 128 := by simpa using h
  show (if n < 128 then [UInt8.ofNat n] else UInt8.ofNat (n % 128 + 128) :: vintF 1 (n / 128)) = (if n < 128 then [UInt8.ofNat n] else UInt8.ofNat (n % 128 + 128) :: vintF 0 (n / 128))
  rw [if_pos this, if_pos this]
 | f + 1, n, h => by
  show (if n < 128 then [UInt8.ofNat n] else UInt8.ofNat (n % 128 + 128) :: vintF (f + 2) (n / 128)) = (if n < 128 then [UInt8.ofNat n] else UInt8.ofNat (n % 128 + 128) :: vintF (f + 1) (n / 128))
  rw [vintF_more f (n / 128) (by rw [Nat.pow_succ] at h; omega)]
theorem vint_step (n : Nat) (h : ¬ n < 128) (h2 : n ≤ 9223372036854775807) : vint n = UInt8.ofNat (n % 128 + 128) :: vint (n / 128) := by
 show vintF (9 + 1) n = _ :: vintF 10 (n / 128)
 rw [vintF_s, if_neg h, vintF_more 8 (n / 128) (by omega)]
theorem conv_row {w : World} {g cap : Nat} (l : List UInt8) (h : ∀ j u, (byteC l)[j]? = some u → w.cell? ((⟨g, 0, none⟩ : Addr).add j) = some u) : (convert 39 9 (.slice (some ⟨g, 0, none⟩) l.length cap)).run Tryz.prog w = .ok (.string ⟨l.toArray⟩) w :=
 run_convert_bytes_back (P := Tryz.prog) w 39 9 5 ⟨g, 0, none⟩ cap l Tryz.underlying39 Tryz.underlying5 Tryz.underlying9 (fun j hj => h j _ (by simp [byteC, List.getElem?_eq_getElem hj]))
theorem conv_lit (w : World) (x : UInt8) (T : TypeId) : (convert 39 9 (.slice (some ⟨w.heap.size, 0, none⟩) 1 1)).run Tryz.prog (w.alloc (.cells #[.int .u8 (x.toNat : Int)] T)) = .ok (.string ⟨[x].toArray⟩) (w.alloc (.cells #[.int .u8 (x.toNat : Int)] T)) :=
 conv_row [x] (lit_news [x] #[.int .u8 (x.toNat : Int)] rfl)
set_option maxRecDepth 100000 in
set_option maxHeartbeats 4000000 in
theorem rvarint_any (k : Nat) : ∀ (n : Nat) (w : World), n < 128 ^ (k + 1) → n ≤ 9223372036854775807 →
  Calls Tryz.prog 50 #[.int .i64 n] w fun e w' => e = .returned (.string ⟨(vint n).toArray⟩) ∧ Below w.heap.size w w' := by
 induction k with
 | zero =>
  intro n w h h2
  have h3 : n < 128 := by simpa using h
  have E : Hid (vint n = [UInt8.ofNat n]) := Lib.hid (by show vintF (9 + 1) n = _; rw [vintF_s, if_pos h3])
  have hb : Below w.heap.size w (w.alloc (.cells #[.int .u8 n] 5)) := (Below.refl _ _).alloc (Nat.le_refl _) _
  have HB := Lib.hid hb
  have hcv := conv_lit w (UInt8.ofNat n) 5
  rw [show (((UInt8.ofNat n).toNat : Nat) : Int) = (n : Int) by rw [UInt8.toNat_ofNat']; omega, ← E.out] at hcv
  clear h hb
  generalize vint n = V at *
  go_enter Tryz.func50, Tryz.ntmps50
  go_wp2_with fail
  go_ret
  exact ⟨rfl, HB.out⟩
 | succ k ih =>
  intro n w h h2
  by_cases h3 : n < 128
  ·have E : Hid (vint n = [UInt8.ofNat n]) := Lib.hid (by show vintF (9 + 1) n = _; rw [vintF_s, if_pos h3])
   have hb : Below w.heap.size w (w.alloc (.cells #[.int .u8 n] 5)) := (Below.refl _ _).alloc (Nat.le_refl _) _
   have HB := Lib.hid hb
   have hcv := conv_lit w (UInt8.ofNat n) 5
   rw [show (((UInt8.ofNat n).toNat : Nat) : Int) = (n : Int) by rw [UInt8.toNat_ofNat']; omega, ← E.out] at hcv
   clear h hb ih
   generalize vint n = V at *
   go_enter Tryz.func50, Tryz.ntmps50
   go_wp2_with fail
   go_ret
   exact ⟨rfl, HB.out⟩
  ·have E : Hid (vint n = UInt8.ofNat (n % 128 + 128) :: vint (n / 128)) := Lib.hid (vint_step n h3 h2)
   have hc := fun wx => ih (n / 128) wx (by rw [Nat.pow_succ] at h; omega) (by omega)
   have h4 : 128 ≤ n := by omega
   have HC := Lib.hid hc
   clear ih h h3 hc
   have HL2 : Hid ((vint (n / 128)).length ≤ 10) := Lib.hid (vint_len _)
   generalize vint n = V at *
   generalize vint (n / 128) = V2 at *
   have hx : IntKind.u8.wrap (IntKind.i64.wrap ((n : Int).tmod 128 + 128)) = (((UInt8.ofNat (n % 128 + 128)).toNat : Nat) : Int) := by
    rw [Int.tmod_eq_emod_of_nonneg (by omega), IntKind.wrap_i64, IntKind.wrap_u8, UInt8.toNat_ofNat']; omega
   have hw : IntKind.i64.wrap ((n : Int) / 128) = ((n / 128 : Nat) : Int) := by rw [IntKind.wrap_i64]; omega
   generalize UInt8.ofNat (n % 128 + 128) = x at *
   have hadd := fun wx => run_string_add_sum (P := Tryz.prog) wx ⟨[x].toArray⟩ ⟨V2.toArray⟩ (by rw [bsz, bsz]; have := HL2.out; simp; omega)
   have hb : Below w.heap.size w ((w.alloc (.cells #[.int .u8 (x.toNat : Int)] 5)).drew) := ((Below.refl _ _).alloc (Nat.le_refl _) _).drew
   have HB := Lib.hid hb
   have hcv : (convert 39 9 (.slice (some ⟨w.heap.size, 0, none⟩) 1 1)).run Tryz.prog (w.alloc (.cells #[.int .u8 (x.toNat : Int)] 5)).drew = .ok (.string ⟨[x].toArray⟩) (w.alloc (.cells #[.int .u8 (x.toNat : Int)] 5)).drew := conv_row [x] (lit_news (w := w) (T := 5) [x] #[.int .u8 (x.toNat : Int)] rfl)
   have HR : Hid ((w.alloc (.cells #[.int .u8 (x.toNat : Int)] 5)).drew.heap[w.heap.size]? = some (.cells #[.int .u8 (x.toNat : Int)] 5 (0, 0))) := Lib.hid (heap_alloc_new _ _)
   have HCAT : Hid ((⟨[x].toArray⟩ : ByteArray) ++ ⟨V2.toArray⟩ = ⟨V.toArray⟩) := Lib.hid (by rw [cat_bytes, E.out]; rfl)
   clear hb
   go_enter Tryz.func50, Tryz.ntmps50
   go_wp2_with fail
   go_region_with (go_at_call 50; refine (HC.out _).mono ?_; rintro e w1 ⟨rfl, hb1⟩; (first | (have hcA : (convert 39 9 (.slice (some ⟨w.heap.size, 0, none⟩) 1 1)).run Tryz.prog w1 = .ok (.string ⟨[x].toArray⟩) w1 := conv_row (cap := 1) [x] (row_news ((hb1.block _ (lt_of_row HR.out)).trans HR.out) rfl); have HBA := Lib.hid (HB.out.trans (hb1.mono HB.out.size))) | have HBC : Hid (Below w.heap.size w w1) := Lib.hid ((Below.refl _ _).drew.trans hb1)); have hcB := conv_lit w1 x 5; clear hb1)
   all_goals
    go_wp2_with fail
    go_ret
    exact ⟨congrArg (fun s => Ending.returned (.string s)) HCAT.out, by first | exact HBA.out | exact HBC.out.alloc HBC.out.size _⟩
theorem rvarint_le (n : Int) (w : World) (h0 : 0 ≤ n) (h : n ≤ 9223372036854775807) :
  Calls Tryz.prog 50 #[.int .i64 n] w fun e w' => e = .returned (.string ⟨(vint n.toNat).toArray⟩) ∧ Below w.heap.size w w' := by
 obtain ⟨m, rfl⟩ := Int.eq_ofNat_of_zero_le h0
 rw [Int.toNat_natCast]
 exact rvarint_any 9 m w (by omega) (by omega)
theorem cat_str (a : List UInt8) (s : ByteArray) : (⟨a.toArray⟩ : ByteArray) ++ s = ⟨(a ++ s.data.toList).toArray⟩ := by
 have : s = ⟨s.data.toList.toArray⟩ := by simp
 conv => lhs; rw [this]
 exact cat_bytes _ _
set_option maxRecDepth 100000 in
set_option maxHeartbeats 4000000 in
theorem rtext16_any (s : ByteArray) (w : World) (hs : s.size ≤ 1152921504606846976) :
  Calls Tryz.prog 49 #[.string s] w fun e w' => e = .returned (.string ⟨(textW s).toArray⟩) ∧ Below w.heap.size w w' := by
 have hv := rvarint_any 9 s.size w (by omega) (by omega)
 have HCAT : Hid ((⟨(vint s.size).toArray⟩ : ByteArray) ++ s = ⟨(textW s).toArray⟩) := Lib.hid (cat_str _ _)
 have HV := Lib.hid hv
 have hl := vint_len s.size
 have hadd := fun wx => run_string_add_sum (P := Tryz.prog) wx ⟨(vint s.size).toArray⟩ s (by rw [bsz]; omega)
 clear hv hl
 generalize vint s.size = V at *
 generalize textW s = T at *
 go_enter Tryz.func49, Tryz.ntmps49
 go_wp2_with fail
 refine HV.out.mono ?_
 rintro e w1 ⟨rfl, hb⟩
 go_wp2_with fail
 go_ret
 exact ⟨congrArg (fun s => Ending.returned (.string s)) HCAT.out, hb⟩
set_option maxRecDepth 100000 in
set_option maxHeartbeats 4000000 in
theorem rarg16_any (a : RArg) (w : World) (ha : WArg a) :
  Calls Tryz.prog 100 #[.agg #[.int .i64 a.kind, .int .i64 a.n]] w fun e w' => e = .returned (.string ⟨(argW a).toArray⟩) ∧ Below w.heap.size w w' := by
 obtain ⟨k, n⟩ := a
 obtain ⟨a1, a2, a3, a4⟩ := ha
 simp only at a1 a2 a3 a4
 have hno := fun wx => rnone_any ⟨k, n⟩ wx
 have hbx := heap_alloc_new w (.cells #[.int .i64 k, .int .i64 n] 45)
 have hba : Below w.heap.size w (w.alloc (.cells #[.int .i64 k, .int .i64 n] 45)) := (Below.refl _ _).alloc (Nat.le_refl _) _
 have HAW : Hid (argW ⟨k, n⟩ = vint (4 * n + k).toNat) := Lib.hid rfl
 have HN : Hid (noneB ⟨k, n⟩ = true → (4 * n + k).toNat = 0) := Lib.hid (fun h => by
  unfold noneB at h; rw [Bool.and_eq_true, decide_eq_true_eq, decide_eq_true_eq] at h
  simp only at h; omega)
 have HV0 := Lib.hid (fun wx => rvarint_le 0 wx (by omega) (by omega))
 have HV1 := Lib.hid (fun wx => rvarint_le (4 * n + k) wx (by omega) (by omega))
 have HBA := Lib.hid hba; have HBX := Lib.hid hbx; have HNO := Lib.hid hno
 clear hba hbx hno
 generalize noneB ⟨k, n⟩ = nz at *
 generalize argW ⟨k, n⟩ = AW at *
 go_enter Tryz.func100, Tryz.ntmps100
 go_upto_region 1 with fail
 have hb1 := HBX.out
 generalize w.alloc (.cells #[.int .i64 k, .int .i64 n] 45) = W at *
 generalize hBz : w.heap.size = B at *
 have HBZ := Lib.hid hBz
 clear hBz
 have c0 : W.cell? ⟨B, 0, none⟩ = some (.int .i64 k) := by rw [cell_of_row _ _ _ _ _ _ hb1]; rfl
 have c1 : W.cell? ⟨B, 1, none⟩ = some (.int .i64 n) := by rw [cell_of_row _ _ _ _ _ _ hb1]; rfl
 have hlx := lt_of_row hb1
 clear hb1
 cases nz with
 | true =>
  have E : Hid (AW = vint (0 : Int).toNat) := Lib.hid (by rw [HAW.out, HN.out rfl]; rfl)
  clear HN
  go_wp2_with fail
  refine (HNO.out _).mono ?_
  rintro e w1 ⟨rfl, hb⟩
  go_wp2_with fail
  refine (HV0.out _).mono ?_
  rintro e w2 ⟨rfl, hb2⟩
  have HF : Hid (Below B w w2) := Lib.hid (HBA.out.trans ((below_next hb hb2).mono (by have := HBA.out.size; have := HBZ.out; omega)))
  clear hb hb2
  go_wp2_with fail
  go_ret
  exact ⟨congrArg (fun l : List UInt8 => Ending.returned (.string ⟨l.toArray⟩)) E.out.symm, by rw [HBZ.out]; exact HF.out⟩
 | false =>
  go_wp2_with fail
  refine (HNO.out _).mono ?_
  rintro e w1 ⟨rfl, hb⟩
  have hb1 := (hb.block B hlx).trans HBX.out
  have HB1 := Lib.hid hb
  clear c0 c1 hlx
  have c0 : w1.cell? ⟨B, 0, none⟩ = some (.int .i64 k) := by rw [cell_of_row _ _ _ _ _ _ hb1]; rfl
  have c1 : w1.cell? ⟨B, 1, none⟩ = some (.int .i64 n) := by rw [cell_of_row _ _ _ _ _ _ hb1]; rfl
  have hlx := lt_of_row hb1
  clear hb1 hb
  go_wp2_with fail
  refine (HV1.out _).mono ?_
  rintro e w2 ⟨rfl, hb2⟩
  have HF : Hid (Below B w w2) := Lib.hid (HBA.out.trans ((below_next HB1.out hb2).mono (by have := HBA.out.size; have := HBZ.out; omega)))
  clear hb2
  go_wp2_with fail
  go_ret
  exact ⟨congrArg (fun l : List UInt8 => Ending.returned (.string ⟨l.toArray⟩)) HAW.out.symm, by rw [HBZ.out]; exact HF.out⟩
set_option maxRecDepth 100000 in
set_option maxHeartbeats 4000000 in
theorem rbit16_any (b : Bool) (w : World) :
  Calls Tryz.prog 52 #[.bool b] w fun e w' => e = .returned (.string ⟨(boolW b).toArray⟩) ∧ Below w.heap.size w w' := by
 have HV0 := Lib.hid (rvarint_le 0 w (by omega) (by omega))
 have HV1 := Lib.hid (rvarint_le 1 w (by omega) (by omega))
 cases b with
 | true =>
  go_enter Tryz.func52, Tryz.ntmps52
  go_wp2_with fail
  refine HV1.out.mono ?_
  rintro e w1 ⟨rfl, hb⟩
  go_wp2_with fail
  go_ret
  exact ⟨rfl, hb⟩
 | false =>
  go_enter Tryz.func52, Tryz.ntmps52
  go_wp2_with fail
  refine HV0.out.mono ?_
  rintro e w1 ⟨rfl, hb⟩
  go_wp2_with fail
  go_ret
  exact ⟨rfl, hb⟩
end Go.Proofs.YtghgbikmlbildaaGreatDoor
namespace Go.Proofs.YtghgbikmlbildaaGreatDoor
open Go.RowKit

/-! ### A word between blanks -/
def Tw (ws : List (List UInt8)) : List UInt8 := 32 :: ws.flatMap fun w => w ++ [32]
theorem Tw_cons (w : List UInt8) (ws : List (List UInt8)) : Tw (w :: ws) = 32 :: (w ++ Tw ws) := by
 unfold Tw; rw [List.flatMap_cons, List.append_assoc]; rfl
theorem word_eq : ∀ {x w b c : List UInt8}, 32 ∉ x → 32 ∉ w → x ++ 32 :: b = w ++ 32 :: c → x = w
 | [], [], _, _, _, _, _ => rfl
 | [], y :: w, _, _, _, hw, h => by
  injection h with h1 _
  subst h1
  exact absurd List.mem_cons_self hw
 | y :: x, [], _, _, hx, _, h => by
  injection h with h1 _
  subst h1
  exact absurd List.mem_cons_self hx
 | y :: x, z :: w, b, c, hx, hw, h => by
  injection h with h1 h2
  subst h1
  rw [word_eq (fun h => hx (List.mem_cons_of_mem _ h)) (fun h => hw (List.mem_cons_of_mem _ h)) h2]
theorem infix_word {x : List UInt8} (hx : 32 ∉ x) : ∀ (ws : List (List UInt8)), (∀ w ∈ ws, 32 ∉ w) → ((32 :: (x ++ [32])) <:+: Tw ws ↔ x ∈ ws)
 | [], _ => by
  constructor
  ·rintro ⟨a, b, h⟩
   have := congrArg List.length h
   simp [Tw] at this
   omega
  ·intro h; cases h
 | w :: ws, hws => by
  have ih := infix_word hx ws (fun v hv => hws v (List.mem_cons_of_mem _ hv))
  have hw := hws w List.mem_cons_self
  rw [Tw_cons]
  constructor
  ·rintro ⟨a, b, h⟩
   cases a with
   | nil =>
    have h2 : x ++ 32 :: b = w ++ 32 :: ws.flatMap (fun w => w ++ [32]) := by
     simp only [List.nil_append, List.cons_append, List.append_assoc, List.cons.injEq, true_and] at h
     exact h
    rw [word_eq hx hw h2]
    exact List.mem_cons_self
   | cons y a =>
    have h2 : a ++ (32 :: (x ++ [32]) ++ b) = w ++ Tw ws := by
     rw [List.cons_append, List.cons_append] at h
     injection h with _ h
     rw [← h, List.append_assoc]
    rcases List.append_eq_append_iff.1 h2 with ⟨c, h3, h4⟩ | ⟨c, h3, h4⟩
    ·cases c with
     | nil =>
      rw [List.append_nil] at h3
      refine List.mem_cons_of_mem _ (ih.1 ⟨[], b, ?_⟩)
      rw [List.nil_append, h4]; rfl
     | cons z c =>
      rw [List.cons_append, List.cons_append] at h4
      injection h4 with h5 _
      subst h5
      exact absurd (by rw [h3]; exact List.mem_append_right _ List.mem_cons_self) hw
    ·exact List.mem_cons_of_mem _ (ih.1 ⟨c, b, by rw [h4, List.append_assoc]⟩)
  ·intro h
   rcases List.mem_cons.1 h with rfl | h
   ·exact ⟨[], ws.flatMap (fun w => w ++ [32]), by simp [Tw]⟩
   ·obtain ⟨a, b, e⟩ := ih.2 h
    exact ⟨32 :: (w ++ a), b, by rw [← e]; simp⟩
/-- Does a text contain another one, place by place? -/
def holdsB (s p : List UInt8) : Bool := decide (∃ i, i < s.length + 1 ∧ i + p.length ≤ s.length ∧ (s.drop i).take p.length = p)
theorem holdsB_infix (s p : List UInt8) : holdsB s p = decide (p <:+: s) := by
 unfold holdsB
 rw [decide_eq_decide]
 constructor
 ·rintro ⟨i, _, _, h⟩
  exact ⟨s.take i, (s.drop i).drop p.length, by rw [← h, List.length_take]; rw [List.append_assoc]; conv => rhs; rw [← List.take_append_drop i s]
                                                congr 1
                                                have : min p.length (s.drop i).length = p.length := by
                                                  have := congrArg List.length h
                                                  rw [List.length_take] at this; exact this
                                                rw [this]; exact List.take_append_drop _ _⟩
 ·rintro ⟨a, b, rfl⟩
  refine ⟨a.length, by simp only [List.length_append]; omega, by simp only [List.length_append]; omega, ?_⟩
  rw [List.append_assoc, List.drop_left, List.take_left]

/-! ### The classes -/
def wordsR (c : Nat) : List (List UInt8) := if c = 1 then words1 else if c = 2 then words2 else if c = 3 then words3 else if c = 4 then words4 else []
def namesR (c : Nat) : List UInt8 := Tw (wordsR c)
def wordR (s : ByteArray) (n : Nat) : List UInt8 := s.data.toList ++ [47, UInt8.ofNat (48 + n)]
/-- The class of a name with an arity, as the document says it. -/
def classR (s : ByteArray) (n : Int) : Int :=
 if nameB s = true ∧ 0 ≤ n ∧ n ≤ 9 then
  if wordR s n.toNat ∈ words1 then 1 else if wordR s n.toNat ∈ words2 then 2 else if wordR s n.toNat ∈ words3 then 3 else if wordR s n.toNat ∈ words4 then 4 else 0
 else 0
theorem tabAll_eq {c : Int} : ∀ (ws : List (List UInt8)) (t : List UInt8 → Int) (k : List UInt8), tabAll c ws t k = if k ∈ ws then c else t k
 | [], t, k => by rw [if_neg (by simp)]; rfl
 | x :: ws, t, k => by
  show tabAll c ws (tabPut t x c) k = _
  rw [tabAll_eq ws _ k]
  by_cases h : k ∈ ws
  ·rw [if_pos h, if_pos (List.mem_cons_of_mem _ h)]
  ·rw [if_neg h]
   unfold tabPut
   by_cases e : k = x
   ·rw [if_pos e, if_pos (by rw [e]; exact List.mem_cons_self)]
   ·rw [if_neg e, if_neg (fun hm => (List.mem_cons.1 hm).elim e h)]
theorem words_apart : ((words1.all fun x => !(words2.elem x) && !(words3.elem x) && !(words4.elem x)) && (words2.all fun x => !(words3.elem x) && !(words4.elem x)) && (words3.all fun x => !(words4.elem x))) = true := by decide +kernel
/-- A name, a slash, a digit. -/
def formW (w : List UInt8) : Bool :=
 match w.reverse with
 | d :: 47 :: r => decide (48 ≤ d.toNat ∧ d.toNat ≤ 57) && (decide (47 ∉ r) && nameB ⟨r.reverse.toArray⟩)
 | _ => false
theorem words_form : (words1 ++ (words2 ++ (words3 ++ words4))).all formW = true := by decide +kernel
theorem words_noblank : (words1 ++ (words2 ++ (words3 ++ words4))).all (fun w => decide (32 ∉ w)) = true := by decide +kernel
theorem formW_of {w : List UInt8} (h : formW w = true) : ∃ (r : List UInt8) (d : UInt8), w = r ++ [47, d] ∧ 48 ≤ d.toNat ∧ d.toNat ≤ 57 ∧ 47 ∉ r ∧ nameB ⟨r.toArray⟩ = true := by
 unfold formW at h
 split at h
 ·rename_i d r e
  rw [Bool.and_eq_true, Bool.and_eq_true, decide_eq_true_eq, decide_eq_true_eq] at h
  have e2 := congrArg List.reverse e
  rw [List.reverse_reverse] at e2
  refine ⟨r.reverse, d, by rw [e2]; simp, h.1.1, h.1.2, by simpa using h.2.1, h.2.2⟩
 ·cases h
theorem slash_eq : ∀ {x w b c : List UInt8}, 47 ∉ x → 47 ∉ w → x ++ 47 :: b = w ++ 47 :: c → x = w ∧ b = c
 | [], [], _, _, _, _, h => by injection h with _ h; exact ⟨rfl, h⟩
 | [], y :: w, _, _, _, hw, h => by
  injection h with h1 _
  subst h1
  exact absurd List.mem_cons_self hw
 | y :: x, [], _, _, hx, _, h => by
  injection h with h1 _
  subst h1
  exact absurd List.mem_cons_self hx
 | y :: x, z :: w, b, c, hx, hw, h => by
  injection h with h1 h2
  subst h1
  obtain ⟨e1, e2⟩ := slash_eq (fun h => hx (List.mem_cons_of_mem _ h)) (fun h => hw (List.mem_cons_of_mem _ h)) h2
  exact ⟨by rw [e1], e2⟩
theorem indexByte_neg : ∀ (l : List UInt8) (c : UInt8), (0 ≤ Lib.indexByte l c) ↔ c ∈ l
 | [], c => by simp [Lib.indexByte]
 | b :: l, c => by
  have ih := indexByte_neg l c
  have hg := Lib.indexByte_ge l c
  unfold Lib.indexByte
  by_cases e : (b == c) = true
  ·rw [if_pos e]
   simp [eq_of_beq e]
  ·rw [if_neg e]
   have hne : b ≠ c := fun h => e (by rw [h]; exact beq_self_eq_true c)
   rw [List.mem_cons, ← ih]
   by_cases z : (Lib.indexByte l c == -1) = true
   ·rw [if_pos z]
    have := eq_of_beq z
    constructor
    ·intro h; omega
    ·rintro (h | h)
     ·exact absurd h.symm hne
     ·omega
   ·rw [if_neg z]
    have : Lib.indexByte l c ≠ -1 := fun h => z (by rw [h]; rfl)
    constructor
    ·intro h; exact .inr (by omega)
    ·intro _; omega
theorem txt_digit {n : Int} (h0 : 0 ≤ n) (h9 : n ≤ 9) : txt n = [UInt8.ofNat (48 + n.toNat)] := by
 unfold txt
 rw [if_neg (by omega), dig_small (by omega)]
 unfold dgt
 rw [show n.natAbs % 10 = n.toNat by omega]
theorem dig_two {m : Nat} (h : ¬ m < 10) : 2 ≤ (dig m).length := by
 rw [dig_big h]
 have : 1 ≤ (dig (m / 10)).length := by
  by_cases h2 : m / 10 < 10
  ·rw [dig_small h2]; simp
  ·rw [dig_big h2]; simp
 simp; omega
theorem txt_one {n : Int} (hn : 0 ≤ n) {d : UInt8} (h : txt n = [d]) : n ≤ 9 ∧ d = UInt8.ofNat (48 + n.toNat) := by
 by_cases h9 : n ≤ 9
 ·rw [txt_digit hn h9] at h; injection h with h _; exact ⟨h9, h.symm⟩
 ·have := dig_two (m := n.natAbs) (by omega)
  unfold txt at h
  rw [if_neg (by omega)] at h
  rw [h] at this
  simp at this
theorem name_noslash {s : ByteArray} (h : nameB s = true) : 47 ∉ s.data.toList ∧ 32 ∉ s.data.toList := by
 unfold nameB at h
 rw [Bool.and_eq_true, decide_eq_true_eq] at h
 have : ∀ c ∈ s.data.toList, c ≠ 47 ∧ c ≠ 32 := fun c hc => by
  obtain ⟨j, hj, rfl⟩ := List.getElem_of_mem hc
  have hj2 : j < s.size := by simpa using hj
  have h1 := h.2 j hj2
  have e : s[j].toNat = s.data.toList[j].toNat := by rw [Array.getElem_toList]; rfl
  rw [e] at h1
  constructor
  ·intro h2; rw [h2] at h1; unfold okAt at h1; revert h1; simp
  ·intro h2; rw [h2] at h1; unfold okAt at h1; revert h1; simp
 exact ⟨fun h => (this _ h).1 rfl, fun h => (this _ h).2 rfl⟩
theorem mem_form {w : List UInt8} (h : w ∈ words1 ∨ w ∈ words2 ∨ w ∈ words3 ∨ w ∈ words4) : formW w = true := by
 refine List.all_eq_true.1 words_form w ?_
 rw [List.mem_append, List.mem_append, List.mem_append]
 exact h
theorem classB_classR (s : ByteArray) (n : Int) : classB s n = classR s n := by
 have hap := words_apart
 simp only [Bool.and_eq_true, List.all_eq_true, Bool.not_eq_true'] at hap
 obtain ⟨⟨hap1, hap2⟩, hap3⟩ := hap
 have el : ∀ {x : List UInt8} {l : List (List UInt8)}, l.elem x = false → x ∉ l := fun h hm => by rw [List.elem_eq_true_of_mem hm] at h; cases h
 unfold classB
 by_cases hneg : n < 0 ∨ 0 ≤ Lib.indexByte s.data.toList 47
 ·rw [if_pos hneg]
  unfold classR
  rw [if_neg]
  rintro ⟨h1, h2, h3⟩
  rcases hneg with h | h
  ·omega
  ·exact (name_noslash h1).1 ((indexByte_neg _ _).1 h)
 ·rw [if_neg hneg]
  have hn0 : 0 ≤ n := by omega
  have hns : 47 ∉ s.data.toList := fun h => hneg (.inr ((indexByte_neg _ _).2 h))
  unfold classT
  rw [tabAll_eq, tabAll_eq, tabAll_eq, tabAll_eq]
  by_cases hm : (s.data.toList ++ [47] ++ txt n) ∈ words1 ∨ (s.data.toList ++ [47] ++ txt n) ∈ words2 ∨ (s.data.toList ++ [47] ++ txt n) ∈ words3 ∨ (s.data.toList ++ [47] ++ txt n) ∈ words4
  ·obtain ⟨r, d, e, hd1, hd2, hr, hname⟩ := formW_of (mem_form hm)
   have e2 : s.data.toList ++ 47 :: txt n = r ++ 47 :: [d] := by rw [← e]; simp
   obtain ⟨e3, e4⟩ := slash_eq hns hr e2
   obtain ⟨h9, hd⟩ := txt_one hn0 e4
   have hv : nameB s = true := by
    have : s = ⟨r.toArray⟩ := by rw [← e3]
    rw [this]; exact hname
   have ew : s.data.toList ++ [47] ++ txt n = wordR s n.toNat := by unfold wordR; rw [e4, hd]; simp
   rw [ew] at hm ⊢
   have ecl : classR s n = if wordR s n.toNat ∈ words1 then 1 else if wordR s n.toNat ∈ words2 then 2 else if wordR s n.toNat ∈ words3 then 3 else if wordR s n.toNat ∈ words4 then 4 else 0 := by
    unfold classR; rw [if_pos ⟨hv, hn0, h9⟩]
   rw [ecl]
   clear ecl
   generalize wordR s n.toNat = x at *
   by_cases m1 : x ∈ words1
   ·obtain ⟨⟨a, b⟩, c⟩ := hap1 x m1
    have a' := el a; have b' := el b; have c' := el c
    simp only [m1, a', b', c', if_true, if_false]
   ·by_cases m2 : x ∈ words2
    ·obtain ⟨a, b⟩ := hap2 x m2
     have a' := el a; have b' := el b
     simp only [m1, m2, a', b', if_true, if_false]
    ·by_cases m3 : x ∈ words3
     ·have a' := el (hap3 x m3)
      simp only [m1, m2, m3, a', if_true, if_false]
     ·by_cases m4 : x ∈ words4
      ·simp only [m1, m2, m3, m4, if_true, if_false]
      ·rcases hm with h | h | h | h <;> contradiction
  ·have h1 : ∀ {c : Prop} [Decidable c] {a b : Int}, ¬ c → (if c then a else b) = b := fun h => if_neg h
   rw [if_neg (fun h => hm (.inr (.inr (.inr h)))), if_neg (fun h => hm (.inr (.inr (.inl h)))), if_neg (fun h => hm (.inr (.inl h))), if_neg (fun h => hm (.inl h))]
   unfold classR
   by_cases hc : nameB s = true ∧ 0 ≤ n ∧ n ≤ 9
   ·rw [if_pos hc]
    have ew : s.data.toList ++ [47] ++ txt n = wordR s n.toNat := by unfold wordR; rw [txt_digit hc.2.1 hc.2.2]; simp
    rw [ew] at hm
    rw [if_neg (fun h => hm (.inl h)), if_neg (fun h => hm (.inr (.inl h))), if_neg (fun h => hm (.inr (.inr (.inl h)))), if_neg (fun h => hm (.inr (.inr (.inr h))))]
   ·rw [if_neg hc]
/-- A text of a class contains a name's word just if the class has it. -/
theorem holds_word {s : ByteArray} (hs : nameB s = true) {n : Nat} (hn : n ≤ 9) {c : Nat} (hc : 1 ≤ c ∧ c ≤ 4) : holdsB (namesR c) (32 :: (wordR s n ++ [32])) = decide (wordR s n ∈ wordsR c) := by
 rw [holdsB_infix, decide_eq_decide]
 refine infix_word ?_ _ (fun w hw => ?_)
 ·unfold wordR
  intro h
  rw [List.mem_append] at h
  rcases h with h | h
  ·exact (name_noslash hs).2 h
  ·have : ∀ k, k ≤ 9 → (32 : UInt8) ∉ [47, UInt8.ofNat (48 + k)] := by decide
   exact this n hn h
 ·refine of_decide_eq_true (List.all_eq_true.1 words_noblank w ?_)
  rw [List.mem_append, List.mem_append, List.mem_append]
  unfold wordsR at hw
  rcases (show c = 1 ∨ c = 2 ∨ c = 3 ∨ c = 4 by omega) with rfl | rfl | rfl | rfl
  ·exact .inl hw
  ·exact .inr (.inl hw)
  ·exact .inr (.inr (.inl hw))
  ·exact .inr (.inr (.inr hw))
end Go.Proofs.YtghgbikmlbildaaGreatDoor
namespace Go.Proofs.YtghgbikmlbildaaGreatDoor
open Go.RowKit
set_option linter.unusedVariables false
set_option linter.unusedSimpArgs false

theorem okAt_pos {k b : Nat} (hk : 0 < k) : okAt k b = decide (97 ≤ b ∧ b ≤ 122 ∨ 65 ≤ b ∧ b ≤ 90 ∨ 48 ≤ b ∧ b ≤ 57 ∨ b = 95 ∨ b = 64) := by
 unfold okAt
 rw [decide_eq_decide]
 constructor
 ·rintro (h | ⟨_, h⟩)
  ·exact .inl h
  ·exact .inr h
 ·rintro (h | h)
  ·exact .inl h
  ·exact .inr ⟨hk, h⟩
theorem okAt_zero (b : Nat) : okAt 0 b = decide (97 ≤ b ∧ b ≤ 122) := by
 unfold okAt
 rw [decide_eq_decide]
 constructor
 ·rintro (h | ⟨h, _⟩)
  ·exact h
  ·omega
 ·exact .inl
set_option maxRecDepth 100000 in
set_option maxHeartbeats 4000000 in
theorem rname_any (s : ByteArray) (w : World) (hs : s.size ≤ maxLen) : Calls Tryz.prog 84 #[.string s] w fun e w' => e = .returned (.bool (nameB s)) ∧ w = w' := by
 unfold maxLen at hs
 by_cases h0 : s.size < 1
 ·have E : Hid (nameB s = false) := Lib.hid (nameB_len (by omega))
  go_enter Tryz.func84, Tryz.ntmps84
  go_wp2_with fail
  go_ret
  exact ⟨retb E.out.symm, rfl⟩
 ·by_cases h1 : 32 < s.size
  ·have E : Hid (nameB s = false) := Lib.hid (nameB_len (by omega))
   go_enter Tryz.func84, Tryz.ntmps84
   go_wp2_with fail
   go_ret
   exact ⟨retb E.out.symm, rfl⟩
  ·have hpos : 0 < s.size := by omega
   have HB := Lib.hid (@nameB_bad s 0 hpos)
   have HZ := Lib.hid (okAt_zero (s[0]'hpos).toNat)
   by_cases c0 : (s[0]'hpos).toNat < 97
   ·have E : Hid (nameB s = false) := Lib.hid (HB.out (by rw [HZ.out]; exact decide_eq_false (by omega)))
    go_enter Tryz.func84, Tryz.ntmps84
    go_wp2_with fail
    go_ret
    exact ⟨retb E.out.symm, rfl⟩
   ·by_cases c1 : 122 < (s[0]'hpos).toNat
    ·have E : Hid (nameB s = false) := Lib.hid (HB.out (by rw [HZ.out]; exact decide_eq_false (by omega)))
     go_enter Tryz.func84, Tryz.ntmps84
     go_wp2_with fail
     go_ret
     exact ⟨retb E.out.symm, rfl⟩
    ·have HK0 : Hid (∀ j (h : j < s.size), j < 1 → okAt j s[j].toNat = true) := Lib.hid (fun j h hj => by
      obtain rfl : j = 0 := by omega
      rw [HZ.out]; exact decide_eq_true (by omega))
     go_enter Tryz.func84, Tryz.ntmps84
     go_wp2_with fail
     go_loop [3] (fun iv => ∃ k : Nat, 1 ≤ k ∧ k ≤ s.size ∧ iv = .int .i64 k ∧ Hid (∀ j (h : j < s.size), j < k → okAt j s[j].toNat = true)) (fun iv => s.size - (intOf iv).toNat)
     case atStart => exact ⟨1, Nat.le_refl _, by omega, by go_num, HK0⟩
     case round =>
      obtain ⟨k, hk1, hk, rfl, HK⟩ := hrel
      clear c0 c1
      by_cases hlt : k < s.size
      ·have HP := Lib.hid (okAt_pos (b := s[k].toNat) hk1)
       have HBK := Lib.hid (@nameB_bad s k hlt)
       have HN : Hid (okAt k s[k].toNat = true → ∀ j (h : j < s.size), j < k + 1 → okAt j s[j].toNat = true) := Lib.hid (fun hne j h hj => by
        rcases Nat.eq_or_lt_of_le (Nat.le_of_lt_succ hj) with e | e
        ·subst e; exact hne
        ·exact HK.out j h e)
       go_upto_region 7 with fail
       generalize s[k].toNat = b at *
       have hcl : (97 ≤ b ∧ b ≤ 122) ∨ (65 ≤ b ∧ b ≤ 90) ∨ (48 ≤ b ∧ b ≤ 57) ∨ (b = 95) ∨ (b = 64) ∨ (123 ≤ b) ∨ (91 ≤ b ∧ b ≤ 96 ∧ b ≠ 95) ∨ (58 ≤ b ∧ b ≤ 63) ∨ (b < 48) := by omega
       rcases hcl with hc | hc | hc | hc | hc | hc | hc | hc | hc
       ·have e0 : decide ((97 : Int) ≤ (b : Int)) = true := decide_eq_true (by omega)
        have e1 : decide ((b : Int) ≤ 122) = true := decide_eq_true (by omega)
        have e2 : decide ((65 : Int) ≤ (b : Int)) = true := decide_eq_true (by omega)
        have e3 : decide ((b : Int) ≤ 90) = false := decide_eq_false (by omega)
        have e4 : decide ((48 : Int) ≤ (b : Int)) = true := decide_eq_true (by omega)
        have e5 : decide ((b : Int) ≤ 57) = false := decide_eq_false (by omega)
        have e6 : ((b : Int) != 95) = true := by rw [bne_iff_ne]; omega
        have e7 : ((b : Int) != 64) = true := by rw [bne_iff_ne]; omega
        have HN2 := Lib.hid (HN.out (by rw [HP.out]; exact decide_eq_true (by omega)))
        clear hc HP HBK HN
        go_wp2_with fail
        go_round
        case rel => exact ⟨k + 1, by omega, by omega, by go_num, HN2⟩
        case measure => simp [intOf]; omega
       ·have e0 : decide ((97 : Int) ≤ (b : Int)) = false := decide_eq_false (by omega)
        have e1 : decide ((b : Int) ≤ 122) = true := decide_eq_true (by omega)
        have e2 : decide ((65 : Int) ≤ (b : Int)) = true := decide_eq_true (by omega)
        have e3 : decide ((b : Int) ≤ 90) = true := decide_eq_true (by omega)
        have e4 : decide ((48 : Int) ≤ (b : Int)) = true := decide_eq_true (by omega)
        have e5 : decide ((b : Int) ≤ 57) = false := decide_eq_false (by omega)
        have e6 : ((b : Int) != 95) = true := by rw [bne_iff_ne]; omega
        have e7 : ((b : Int) != 64) = true := by rw [bne_iff_ne]; omega
        have HN2 := Lib.hid (HN.out (by rw [HP.out]; exact decide_eq_true (by omega)))
        clear hc HP HBK HN
        go_wp2_with fail
        go_round
        case rel => exact ⟨k + 1, by omega, by omega, by go_num, HN2⟩
        case measure => simp [intOf]; omega
       ·have e0 : decide ((97 : Int) ≤ (b : Int)) = false := decide_eq_false (by omega)
        have e1 : decide ((b : Int) ≤ 122) = true := decide_eq_true (by omega)
        have e2 : decide ((65 : Int) ≤ (b : Int)) = false := decide_eq_false (by omega)
        have e3 : decide ((b : Int) ≤ 90) = true := decide_eq_true (by omega)
        have e4 : decide ((48 : Int) ≤ (b : Int)) = true := decide_eq_true (by omega)
        have e5 : decide ((b : Int) ≤ 57) = true := decide_eq_true (by omega)
        have e6 : ((b : Int) != 95) = true := by rw [bne_iff_ne]; omega
        have e7 : ((b : Int) != 64) = true := by rw [bne_iff_ne]; omega
        have HN2 := Lib.hid (HN.out (by rw [HP.out]; exact decide_eq_true (by omega)))
        clear hc HP HBK HN
        go_wp2_with fail
        go_round
        case rel => exact ⟨k + 1, by omega, by omega, by go_num, HN2⟩
        case measure => simp [intOf]; omega
       ·have e0 : decide ((97 : Int) ≤ (b : Int)) = false := decide_eq_false (by omega)
        have e1 : decide ((b : Int) ≤ 122) = true := decide_eq_true (by omega)
        have e2 : decide ((65 : Int) ≤ (b : Int)) = true := decide_eq_true (by omega)
        have e3 : decide ((b : Int) ≤ 90) = false := decide_eq_false (by omega)
        have e4 : decide ((48 : Int) ≤ (b : Int)) = true := decide_eq_true (by omega)
        have e5 : decide ((b : Int) ≤ 57) = false := decide_eq_false (by omega)
        have e6 : ((b : Int) != 95) = false := by rw [bne_eq_false_iff_eq]; omega
        have e7 : ((b : Int) != 64) = true := by rw [bne_iff_ne]; omega
        have HN2 := Lib.hid (HN.out (by rw [HP.out]; exact decide_eq_true (by omega)))
        clear hc HP HBK HN
        go_wp2_with fail
        go_round
        case rel => exact ⟨k + 1, by omega, by omega, by go_num, HN2⟩
        case measure => simp [intOf]; omega
       ·have e0 : decide ((97 : Int) ≤ (b : Int)) = false := decide_eq_false (by omega)
        have e1 : decide ((b : Int) ≤ 122) = true := decide_eq_true (by omega)
        have e2 : decide ((65 : Int) ≤ (b : Int)) = false := decide_eq_false (by omega)
        have e3 : decide ((b : Int) ≤ 90) = true := decide_eq_true (by omega)
        have e4 : decide ((48 : Int) ≤ (b : Int)) = true := decide_eq_true (by omega)
        have e5 : decide ((b : Int) ≤ 57) = false := decide_eq_false (by omega)
        have e6 : ((b : Int) != 95) = true := by rw [bne_iff_ne]; omega
        have e7 : ((b : Int) != 64) = false := by rw [bne_eq_false_iff_eq]; omega
        have HN2 := Lib.hid (HN.out (by rw [HP.out]; exact decide_eq_true (by omega)))
        clear hc HP HBK HN
        go_wp2_with fail
        go_round
        case rel => exact ⟨k + 1, by omega, by omega, by go_num, HN2⟩
        case measure => simp [intOf]; omega
       ·have e0 : decide ((97 : Int) ≤ (b : Int)) = true := decide_eq_true (by omega)
        have e1 : decide ((b : Int) ≤ 122) = false := decide_eq_false (by omega)
        have e2 : decide ((65 : Int) ≤ (b : Int)) = true := decide_eq_true (by omega)
        have e3 : decide ((b : Int) ≤ 90) = false := decide_eq_false (by omega)
        have e4 : decide ((48 : Int) ≤ (b : Int)) = true := decide_eq_true (by omega)
        have e5 : decide ((b : Int) ≤ 57) = false := decide_eq_false (by omega)
        have e6 : ((b : Int) != 95) = true := by rw [bne_iff_ne]; omega
        have e7 : ((b : Int) != 64) = true := by rw [bne_iff_ne]; omega
        have E : Hid (nameB s = false) := Lib.hid (HBK.out (by rw [HP.out]; exact decide_eq_false (by omega)))
        clear hc HP HBK HN
        go_wp2_with fail
        go_ret
        exact ⟨retb E.out.symm, rfl⟩
       ·have e0 : decide ((97 : Int) ≤ (b : Int)) = false := decide_eq_false (by omega)
        have e1 : decide ((b : Int) ≤ 122) = true := decide_eq_true (by omega)
        have e2 : decide ((65 : Int) ≤ (b : Int)) = true := decide_eq_true (by omega)
        have e3 : decide ((b : Int) ≤ 90) = false := decide_eq_false (by omega)
        have e4 : decide ((48 : Int) ≤ (b : Int)) = true := decide_eq_true (by omega)
        have e5 : decide ((b : Int) ≤ 57) = false := decide_eq_false (by omega)
        have e6 : ((b : Int) != 95) = true := by rw [bne_iff_ne]; omega
        have e7 : ((b : Int) != 64) = true := by rw [bne_iff_ne]; omega
        have E : Hid (nameB s = false) := Lib.hid (HBK.out (by rw [HP.out]; exact decide_eq_false (by omega)))
        clear hc HP HBK HN
        go_wp2_with fail
        go_ret
        exact ⟨retb E.out.symm, rfl⟩
       ·have e0 : decide ((97 : Int) ≤ (b : Int)) = false := decide_eq_false (by omega)
        have e1 : decide ((b : Int) ≤ 122) = true := decide_eq_true (by omega)
        have e2 : decide ((65 : Int) ≤ (b : Int)) = false := decide_eq_false (by omega)
        have e3 : decide ((b : Int) ≤ 90) = true := decide_eq_true (by omega)
        have e4 : decide ((48 : Int) ≤ (b : Int)) = true := decide_eq_true (by omega)
        have e5 : decide ((b : Int) ≤ 57) = false := decide_eq_false (by omega)
        have e6 : ((b : Int) != 95) = true := by rw [bne_iff_ne]; omega
        have e7 : ((b : Int) != 64) = true := by rw [bne_iff_ne]; omega
        have E : Hid (nameB s = false) := Lib.hid (HBK.out (by rw [HP.out]; exact decide_eq_false (by omega)))
        clear hc HP HBK HN
        go_wp2_with fail
        go_ret
        exact ⟨retb E.out.symm, rfl⟩
       ·have e0 : decide ((97 : Int) ≤ (b : Int)) = false := decide_eq_false (by omega)
        have e1 : decide ((b : Int) ≤ 122) = true := decide_eq_true (by omega)
        have e2 : decide ((65 : Int) ≤ (b : Int)) = false := decide_eq_false (by omega)
        have e3 : decide ((b : Int) ≤ 90) = true := decide_eq_true (by omega)
        have e4 : decide ((48 : Int) ≤ (b : Int)) = false := decide_eq_false (by omega)
        have e5 : decide ((b : Int) ≤ 57) = true := decide_eq_true (by omega)
        have e6 : ((b : Int) != 95) = true := by rw [bne_iff_ne]; omega
        have e7 : ((b : Int) != 64) = true := by rw [bne_iff_ne]; omega
        have E : Hid (nameB s = false) := Lib.hid (HBK.out (by rw [HP.out]; exact decide_eq_false (by omega)))
        clear hc HP HBK HN
        go_wp2_with fail
        go_ret
        exact ⟨retb E.out.symm, rfl⟩
      ·have E : Hid (nameB s = true) := Lib.hid (nameB_good hpos (by omega) (fun j h => HK.out j h (by omega)))
       go_wp2_with fail
       go_ret
       exact ⟨retb E.out.symm, rfl⟩

set_option maxRecDepth 100000 in
set_option maxHeartbeats 4000000 in
theorem holds_any (s p : ByteArray) (w : World) (hs : s.size ≤ 100000) (hp : p.size ≤ 100000) :
  Calls Tryz.prog 135 #[.string s, .string p] w fun e w' => e = .returned (.bool (holdsB s.data.toList p.data.toList)) ∧ w = w' := by
 have hsl : s.data.toList.length = s.size := by simp
 have hpl : p.data.toList.length = p.size := by simp
 have HY : Hid (∀ k, k + p.size ≤ s.size → (s.data.toList.drop k).take p.size = p.data.toList → holdsB s.data.toList p.data.toList = true) := Lib.hid (fun k hk h => by
  unfold holdsB; exact decide_eq_true ⟨k, by omega, by omega, by rw [hpl]; exact h⟩)
 have HN : Hid ((∀ j, j + p.size ≤ s.size → (s.data.toList.drop j).take p.size ≠ p.data.toList) → holdsB s.data.toList p.data.toList = false) := Lib.hid (fun h => by
  unfold holdsB; refine decide_eq_false ?_
  rintro ⟨i, _, h2, h3⟩
  rw [hpl] at h2 h3
  exact h i (by omega) h3)
 clear hsl hpl
 generalize holdsB s.data.toList p.data.toList = r at *
 go_enter Tryz.func135, Tryz.ntmps135
 go_wp2_with fail
 go_loop [5] (fun iv => ∃ k : Nat, k ≤ s.size + 1 ∧ iv = .int .i64 k ∧ Hid (∀ j, j < k → j + p.size ≤ s.size → (s.data.toList.drop j).take p.size ≠ p.data.toList)) (fun iv => s.size + 1 - (intOf iv).toNat)
 case atStart => exact ⟨0, Nat.zero_le _, rfl, Lib.hid (fun j h => absurd h (Nat.not_lt_zero _))⟩
 case round =>
  obtain ⟨k, hk, rfl, HK⟩ := hrel
  by_cases hlt : k + p.size ≤ s.size
  ·have hsub : (s.extract k (k + p.size)).toList = (s.data.toList.drop k).take p.size := by
    rw [ByteArray.toList_eq, Lib.extract_data]
    rw [show k + p.size - k = p.size by omega]
   have HSUB := Lib.hid hsub
   have HSN : Hid ((s.data.toList.drop k).take p.size ≠ p.data.toList → ∀ j, j < k + 1 → j + p.size ≤ s.size → (s.data.toList.drop j).take p.size ≠ p.data.toList) := Lib.hid (fun hne j hj hjs => by
    rcases Nat.eq_or_lt_of_le (Nat.le_of_lt_succ hj) with e | e
    ·subst e; exact hne
    ·exact HK.out j e hjs)
   clear hsub
   by_cases he : (s.data.toList.drop k).take p.size = p.data.toList
   ·have E : Hid (r = true) := Lib.hid (HY.out k hlt he)
    have ht : ((s.extract k (k + p.size)).toList == p.toList) = true := by rw [HSUB.out, he, ByteArray.toList_eq]; exact beq_self_eq_true _
    clear he
    go_wp2_with fail
    go_ret
    exact ⟨retb E.out.symm, rfl⟩
   ·have HN2 := Lib.hid (HSN.out he)
    have ht : ((s.extract k (k + p.size)).toList == p.toList) = false := by rw [HSUB.out, ByteArray.toList_eq, beq_eq_false_iff_ne]; exact he
    clear he
    go_wp2_with fail
    go_round
    case rel => exact ⟨k + 1, by omega, by go_num, HN2⟩
    case measure => simp [intOf]; omega
  ·have E : Hid (r = false) := Lib.hid (HN.out (fun j hj => HK.out j (by omega) hj))
   go_wp2_with fail
   go_ret
   exact ⟨retb E.out.symm, rfl⟩

/-- The texts of the classes. -/
def namesS (c : Nat) : ByteArray := ⟨(namesR c).toArray⟩
set_option maxRecDepth 100000 in
theorem names_text (c : Nat) (h : 1 ≤ c ∧ c ≤ 4) (w : World) : Calls Tryz.prog 136 #[.int .i64 c] w fun e w' => e = .returned (.string (namesS c)) ∧ w = w' := by
 rcases (show c = 1 ∨ c = 2 ∨ c = 3 ∨ c = 4 by omega) with rfl | rfl | rfl | rfl
 all_goals
  go_enter Tryz.func136, Tryz.ntmps136
  go_wp2_with fail
  go_ret
  exact ⟨by kernel_rfl, rfl⟩
theorem namesS_size : ∀ c, c ≤ 4 → (namesS c).size ≤ 1000 := by decide +kernel

theorem roper_eq (s : ByteArray) (n : Int) : operB s n = (if n = 1 then (s.toList == [45] || (s.toList == [98, 110, 111, 116] || s.toList == [110, 111, 116])) else if n = 2 then (s.toList == [45] || opTwo.any (fun x => s.toList == x)) else false) := by
 unfold operB
 by_cases a : (s.toList == [45]) = true
 ·rw [if_pos a, a]
  by_cases h1 : n = 1
  ·subst h1; rfl
  ·rw [if_neg h1]
   by_cases h2 : n = 2
   ·subst h2; rfl
   ·rw [if_neg h2, beq_eq_false_iff_ne.2 h1, beq_eq_false_iff_ne.2 h2]; rfl
 ·rw [if_neg a]
  have a' : (s.toList == [45]) = false := by simpa using a
  rw [a', Bool.false_or, Bool.false_or]
  by_cases b : (s.toList == [98, 110, 111, 116] || s.toList == [110, 111, 116]) = true
  ·rw [if_pos b, b]
   by_cases h1 : n = 1
   ·subst h1; rfl
   ·rw [if_neg h1, beq_eq_false_iff_ne.2 h1]
    by_cases h2 : n = 2
    ·rw [if_pos h2]
     symm
     rw [Bool.or_eq_true] at b
     rw [List.any_eq_false]
     intro x hx
     rcases b with b | b
     ·rw [eq_of_beq b]
      have : opTwo.all (fun x => !([98, 110, 111, 116] == x)) = true := by decide
      have := List.all_eq_true.1 this x hx
      simpa using this
     ·rw [eq_of_beq b]
      have : opTwo.all (fun x => !([110, 111, 116] == x)) = true := by decide
      have := List.all_eq_true.1 this x hx
      simpa using this
    ·rw [if_neg h2]
  ·rw [if_neg b]
   have b' : (s.toList == [98, 110, 111, 116] || s.toList == [110, 111, 116]) = false := by simpa using b
   rw [b']
   by_cases h1 : n = 1
   ·subst h1
    rw [if_pos rfl]
    split <;> rfl
   ·rw [if_neg h1]
    by_cases h2 : n = 2
    ·subst h2
     rw [if_pos rfl]
     split
     ·rename_i h; rw [h]; rfl
     ·rename_i h; rw [Bool.eq_false_iff.2 h]
    ·rw [if_neg h2]
     split
     ·exact beq_eq_false_iff_ne.2 h2
     ·rfl
end Go.Proofs.YtghgbikmlbildaaGreatDoor
