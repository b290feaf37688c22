/-
  The reference's external format: Code: the walk (printed by gen_gcode.py).
-/
import Derived.Deep.AppendLies
import Derived.Deep.CutBlock
import Derived.Test.YtghgbikmlbildaaGreatDoorPutsAll20
import Derived.Test.YtghgbikmlbildaaGreatDoorPutsAll22
namespace Go.Proofs.YtghgbikmlbildaaGreatDoor
open Go.RowKit
set_option linter.unusedVariables false
set_option linter.unusedSimpArgs false

/-- While a term is encoded: its box; the row of the bytes. -/
structure RCx (X : Nat) (t : Tm) (so : Option Addr) (c : Nat) (w wx : World) : Prop where
 box : wx.heap[X]? = some (.cells #[.int .i64 t.kind, .int .i64 t.int, .int .i64 t.gen, .string t.name, .string t.func, .int .i64 t.arity, .slice so t.items.length c, .string t.bytes, .int .i64 t.bits] 78 (0, 0))
 bel : Below X w wx
 ge : X ≤ wx.heap.size
structure RSt (X : Nat) (t : Tm) (so : Option Addr) (c : Nat) (w : World) (v : Value) (l : List UInt8) (wx : World) : Prop where
 bx : RCx X t so c w wx
 own : wx.ownsRow X 5 1 v l.length (byteC l)
theorem RCx.below {X : Nat} {t : Tm} {so : Option Addr} {c : Nat} {w wx wy : World} (h : RCx X t so c w wx) (hb : Below wx.heap.size wx wy) : RCx X t so c w wy :=
 ⟨(hb.block X (lt_of_row h.box)).trans h.box, h.bel.trans (hb.mono h.ge), Nat.le_trans h.ge hb.size⟩
theorem RSt.below {X : Nat} {t : Tm} {so : Option Addr} {c : Nat} {w wx wy : World} {v : Value} {l : List UInt8} (h : RSt X t so c w v l wx) (hb : Below wx.heap.size wx wy) : RSt X t so c w v l wy :=
 ⟨h.bx.below hb, owns_below h.own hb⟩
theorem RSt.app {X : Nat} {t : Tm} {so : Option Addr} {c : Nat} {w wx wy : World} {v v' : Value} {l l2 : List UInt8} {xs : List Value} {n : Nat} (h : RSt X t so c w v l wx) (ho : wy.ownsRow X 5 1 v' n xs) (hg : wx.grownBy wy v.ownBlock) (hn : n = l.length + l2.length) (hxs : xs = byteC l ++ byteC l2) : RSt X t so c w v' (l ++ l2) wy := by
 subst hn; subst hxs
 have hne : v.ownBlock ≠ some X := ne_of_kind h.own h.bx.box (by decide)
 refine ⟨⟨(hg.block X (lt_of_row h.bx.box) (fun e => hne e.symm)).trans h.bx.box, h.bx.bel.grown hg h.bx.ge (fun k hk => (h.own.lt k hk).1), Nat.le_trans h.bx.ge hg.size⟩, ?_⟩
 rw [byteC_app, List.length_append]; exact ho
theorem RCx.lit {X : Nat} {t : Tm} {so : Option Addr} {c : Nat} {w wx : World} (h : RCx X t so c w wx) (cs : Array Value) (l : List UInt8) (n : Nat) (hn : n = l.length) (hcs : cs.toList = byteC l) (hm : n ≤ 1000) : RSt X t so c w (.slice (some ⟨wx.heap.size, 0, none⟩) n n) l (wx.alloc (.cells cs 5)) := by
 refine ⟨h.below ((Below.refl _ _).alloc (Nat.le_refl _) _), ?_⟩
 have := lit_owns (w := wx) (B := X) cs l n h.ge hn hcs hm
 rwa [hn] at this ⊢
theorem byteC_news (l : List UInt8) (cs : Array Value) (hcs : cs.toList = byteC l) (w : World) : ∀ j u, (byteC l)[j]? = some u → (w.alloc (.cells cs 5)).cell? ((⟨w.heap.size, 0, none⟩ : Addr).add j) = some u := lit_news l cs hcs
def RCodeP (f : Nat) : Prop := ∀ (t : Tm) (so : Option Addr) (c : Nat) (w : World), SlAt w 9 (TmAt w f) so t.items → t.Ok → formF (f + 1) t = true → (codeE (f + 1) t).length ≤ 17592186044416 →
 Calls Tryz.prog 99 #[.agg #[.int .i64 t.kind, .int .i64 t.int, .int .i64 t.gen, .string t.name, .string t.func, .int .i64 t.arity, .slice so t.items.length c, .string t.bytes, .int .i64 t.bits]] w (BytesQ w (codeE (f + 1) t))
theorem codeE_ne (f : Nat) (t : Tm) (h : formF (f + 1) t = true) : codeE (f + 1) t ≠ [] := by
 have hfa : locB t = true := by unfold formF at h; rw [Bool.and_eq_true] at h; exact h.1
 have hk : okK t = true := by unfold locB at hfa; rw [Bool.and_eq_true] at hfa; exact hfa.1
 have hi : intE t.int ≠ [] := by unfold intE bigE; split <;> (try split) <;> simp
 have hh : headE t ≠ [] := by
  by_cases h1 : t.kind = 1 ∨ t.kind = 2 ∨ t.kind = 3 ∨ t.kind = 4 ∨ t.kind = 5 ∨ t.kind = 6 ∨ t.kind = 7 ∨ t.kind = 8 ∨ t.kind = 9 ∨ t.kind = 10
  ·rcases h1 with h1 | h1 | h1 | h1 | h1 | h1 | h1 | h1 | h1 | h1 <;> (unfold headE; simp [h1, hi, atomE])
   split <;> simp
  ·exact absurd hk (by rw [okK_none h1]; decide)
 exact fun e => hh (List.append_eq_nil_iff.1 e).1
set_option maxRecDepth 100000 in
set_option maxHeartbeats 40000000 in
theorem rcode_step (f : Nat) (IH : ∀ f', f = f' + 1 → RCodeP f') : RCodeP f := by
 intro t so c w hsl hok hform hlen
 obtain ⟨i0, hi, hz0, hz1, hz2⟩ := info_parts infoByte
 have hfa : locB t = true ∧ t.items.all (formF f) = true := by unfold formF at hform; rwa [Bool.and_eq_true] at hform
 have hokK : okK t = true := by have := hfa.1; unfold locB at this; rw [Bool.and_eq_true] at this; exact this.1
 have HZI : Hid (¬ (t.kind = 4 ∨ t.kind = 7 ∨ t.kind = 9) → codeE (f + 1) t = headE t) := Lib.hid (fun hk => by
  have hz : zeroK t = true := by have := hfa.1; unfold locB at this; rw [Bool.and_eq_true] at this; exact this.2
  unfold zeroK at hz
  simp only [decide_eq_false hk, Bool.false_or, Bool.and_eq_true] at hz
  have hz := hz.1.1.2
  unfold zL at hz
  have : t.items = [] := List.eq_nil_of_length_eq_zero (of_decide_eq_true hz)
  show headE t ++ t.items.flatMap (codeE f) = headE t
  rw [this]; simp)
 have HT : Hid (codeE (f + 1) t = headE t ++ (t.items.drop 0).flatMap (codeE f)) := Lib.hid rfl
 have HTL := Lib.hid hlen
 have hhl := (headE_len hokK).1
 obtain ⟨ok0, ok1, ok2, ok3, ok4, ok5, ok6, ok7, ok8⟩ := hok
 unfold maxLen at ok3 ok4 ok6 ok7
 have HREC : Hid (∀ (k : Nat) (wr : World) (hlt : k < t.items.length), Below w.heap.size w wr → ∃ b2 off ai ci, so = some ⟨b2, off, none⟩ ∧ b2 < wr.heap.size ∧ wr.cell? ⟨b2, off + k * 9, none⟩ = some (.int .i64 t.items[k].kind) ∧ wr.cell? ⟨b2, off + k * 9 + 1, none⟩ = some (.int .i64 t.items[k].int) ∧ wr.cell? ⟨b2, off + k * 9 + 2, none⟩ = some (.int .i64 t.items[k].gen) ∧ wr.cell? ⟨b2, off + k * 9 + 3, none⟩ = some (.string t.items[k].name) ∧ wr.cell? ⟨b2, off + k * 9 + 4, none⟩ = some (.string t.items[k].func) ∧ wr.cell? ⟨b2, off + k * 9 + 5, none⟩ = some (.int .i64 t.items[k].arity) ∧ wr.cell? ⟨b2, off + k * 9 + 6, none⟩ = some (.slice ai t.items[k].items.length ci) ∧ wr.cell? ⟨b2, off + k * 9 + 7, none⟩ = some (.string t.items[k].bytes) ∧ wr.cell? ⟨b2, off + k * 9 + 8, none⟩ = some (.int .i64 t.items[k].bits) ∧  (codeE f t.items[k] ≠ [] ∧ ((codeE f t.items[k]).length ≤ 17592186044416 → Calls Tryz.prog 99 #[.agg #[.int .i64 t.items[k].kind, .int .i64 t.items[k].int, .int .i64 t.items[k].gen, .string t.items[k].name, .string t.items[k].func, .int .i64 t.items[k].arity, .slice ai t.items[k].items.length ci, .string t.items[k].bytes, .int .i64 t.items[k].bits]] wr (BytesQ wr (codeE f t.items[k]))))) := Lib.hid (fun k wr hlt hb => by
  cases f with
  | zero => rw [hsl.zero] at hlt; exact absurd hlt (Nat.not_lt_zero _)
  | succ f =>
   obtain ⟨b2, off, ai, ci, hao, hb2, q0, q1, q2, q3, q4, q5, q6, q7, q8, hit, hok2⟩ := (SlAt.tms hsl hb).tm hlt
   have hf2 := List.all_eq_true.1 hfa.2 _ (List.getElem_mem hlt)
   exact ⟨b2, off, ai, ci, hao, hb2, q0, q1, q2, q3, q4, q5, q6, q7, q8, codeE_ne f _ hf2, fun h3 => IH f rfl _ ai ci wr hit hok2 hf2 h3⟩)
 have hbx := tbox_new w t so c
 have hba : Below w.heap.size w (w.alloc (.cells #[.int .i64 t.kind, .int .i64 t.int, .int .i64 t.gen, .string t.name, .string t.func, .int .i64 t.arity, .slice so t.items.length c, .string t.bytes, .int .i64 t.bits] 78)) := (Below.refl _ _).alloc (Nat.le_refl _) _
 have HS0 : Hid (RCx w.heap.size t so c w (w.alloc (.cells #[.int .i64 t.kind, .int .i64 t.int, .int .i64 t.gen, .string t.name, .string t.func, .int .i64 t.arity, .slice so t.items.length c, .string t.bytes, .int .i64 t.bits] 78))) := Lib.hid ⟨hbx, hba, hba.size⟩
 clear hsl hform hlen hbx hba hfa IH
 unfold BytesQ
 generalize codeE (f + 1) t = CE at *
 go_enter Tryz.func99, Tryz.ntmps99
 go_upto_region 1 with fail
 generalize w.alloc (.cells #[.int .i64 t.kind, .int .i64 t.int, .int .i64 t.gen, .string t.name, .string t.func, .int .i64 t.arity, .slice so t.items.length c, .string t.bytes, .int .i64 t.bits] 78) = W at *
 generalize hXz : w.heap.size = X at *
 have HXZ := Lib.hid hXz
 clear hXz
 obtain ⟨c0, c1, c2, c3, c4, c5, c6, c7, c8, cz⟩ := term_cells HS0.out.box
 have hlx := lt_of_row HS0.out.box
 clear cz
 go_upto_block 0 with fail
 go_cut [3] (fun v3 wx => Hid (RSt X t so c w v3 (headE t) wx))
 case first =>
  clear HREC HT HTL
  by_cases hk : t.kind = 1
  ·clear hokK
   have HE : Hid (headE t = intE t.int) := Lib.hid (by unfold headE; simp [hk])
   have t1 : (t.kind == 1) = true := by rw [beq_iff_eq]; exact hk
   have hk4 : ¬ (t.kind = 4 ∨ t.kind = 7 ∨ t.kind = 9) := by omega
   have HCE := Lib.hid (HZI.out hk4)
   clear hk4
   clear hk HZI
   go_wp2_with fail
   refine (rinteger07_any t.int _ ok1).mono ?_
   rintro e w1 ⟨v1, rfl, ho, hb⟩
   have HF : Hid (w1.ownsRow X 5 1 v1 (headE t).length (byteC (headE t)) ∧ Below X w w1) := Lib.hid ⟨by rw [HE.out]; exact owns_base ho HS0.out.ge, (HS0.out.below hb).bel⟩
   clear ho hb
   go_wp2_with fail
   go_ret
   exact ⟨_, rfl, by rw [HCE.out, HXZ.out]; exact HF.out.1, by rw [HXZ.out]; exact HF.out.2⟩
  by_cases hk : t.kind = 2
  ·have hn : nameB t.name = true := by unfold okK at hokK; simpa [hk] using hokK
   have := nameB_max hn
   have HE : Hid (headE t = atomE t.name) := Lib.hid (by unfold headE; simp [hk])
   have t1 : (t.kind == 1) = false := by rw [beq_eq_false_iff_ne]; omega
   have t2 : (t.kind == 2) = true := by rw [beq_iff_eq]; exact hk
   have hk4 : ¬ (t.kind = 4 ∨ t.kind = 7 ∨ t.kind = 9) := by omega
   have HCE := Lib.hid (HZI.out hk4)
   clear hk4
   clear hk HZI
   go_wp2_with fail
   refine (ratom07_any t.name _ (nameB_max hn)).mono ?_
   rintro e w2 ⟨v2, rfl, ho, hb⟩
   have HF : Hid (w2.ownsRow X 5 1 v2 (headE t).length (byteC (headE t)) ∧ Below X w w2) := Lib.hid ⟨by rw [HE.out]; exact owns_base ho HS0.out.ge, (HS0.out.below hb).bel⟩
   clear ho hb
   go_wp2_with fail
   go_ret
   exact ⟨_, rfl, by rw [HCE.out, HXZ.out]; exact HF.out.1, by rw [HXZ.out]; exact HF.out.2⟩
  by_cases hk : t.kind = 7
  ·have hn : t.items.length ≤ 255 := by unfold okK at hokK; simpa [hk] using hokK
   have HE : Hid (headE t = [104, UInt8.ofNat t.items.length]) := Lib.hid (by unfold headE; simp [hk])
   have t1 : (t.kind == 1) = false := by rw [beq_eq_false_iff_ne]; omega
   have t2 : (t.kind == 2) = false := by rw [beq_eq_false_iff_ne]; omega
   have t7 : (t.kind == 7) = true := by rw [beq_iff_eq]; exact hk

   clear hk HZI
   have HS := Lib.hid (HS0.out.lit #[.int .u8 104, .int .u8 t.items.length] [104, UInt8.ofNat t.items.length] 2 rfl (by simp [byteC] <;> omega) (by omega))
   go_wp2_with fail
   go_meet
   case rel =>
    have HQ := HS.out
    try simp only [List.append_assoc] at HQ
    rw [HE.out]
    exact Lib.hid HQ
  by_cases hk : t.kind = 8
  ·clear hokK
   have HE : Hid (headE t = [106]) := Lib.hid (by unfold headE; simp [hk])
   have t1 : (t.kind == 1) = false := by rw [beq_eq_false_iff_ne]; omega
   have t2 : (t.kind == 2) = false := by rw [beq_eq_false_iff_ne]; omega
   have t7 : (t.kind == 7) = false := by rw [beq_eq_false_iff_ne]; omega
   have t8 : (t.kind == 8) = true := by rw [beq_iff_eq]; exact hk
   have hk4 : ¬ (t.kind = 4 ∨ t.kind = 7 ∨ t.kind = 9) := by omega
   have HCE := Lib.hid (HZI.out hk4)
   clear hk4
   clear hk HZI
   have HS := Lib.hid (HS0.out.lit #[.int .u8 106] [106] 1 rfl (by simp [byteC] <;> omega) (by omega))
   go_wp2_with fail
   go_ret
   have HQ := HS.out
   try simp only [List.append_assoc] at HQ
   exact ⟨_, rfl, by rw [HCE.out, HE.out, HXZ.out]; exact HQ.own, by rw [HXZ.out]; exact HQ.bx.bel⟩
  by_cases hk : t.kind = 9
  ·have hn : 2 ≤ t.items.length := by unfold okK at hokK; simp [hk] at hokK; exact hokK.1
   have hw1 : IntKind.i64.wrap ((t.items.length : Int) - 1) = (t.items.length : Int) - 1 := by rw [IntKind.wrap_i64]; omega
   have HE : Hid (headE t = 108 :: beN 4 ((t.items.length : Int) - 1)) := Lib.hid (by unfold headE; simp [hk])
   have t1 : (t.kind == 1) = false := by rw [beq_eq_false_iff_ne]; omega
   have t2 : (t.kind == 2) = false := by rw [beq_eq_false_iff_ne]; omega
   have t7 : (t.kind == 7) = false := by rw [beq_eq_false_iff_ne]; omega
   have t8 : (t.kind == 8) = false := by rw [beq_eq_false_iff_ne]; omega
   have t9 : (t.kind == 9) = true := by rw [beq_iff_eq]; exact hk

   clear hk HZI
   have HS := Lib.hid (HS0.out.lit #[.int .u8 108] [108] 1 rfl (by simp [byteC] <;> omega) (by omega))
   go_wp2_with fail
   refine (rnumber07_any ((t.items.length : Int) - 1) 4 _ (by unfold I64; omega) (by omega)).mono ?_
   rintro e w3 ⟨v3, rfl, ho, hb⟩
   have HS := Lib.hid (HS.out.below hb)
   obtain ⟨g, cap, cur, rfl, hg1, hg2, hg3⟩ := owns_open ho (by intro e; have := congrArg List.length e; rw [beN_len] at this; cases this)
   have HN := Lib.hid (row_news hg2 hg3)
   clear ho hb hg1 hg2 hg3
   go_wp2_with (at_builtin; refine wpList_append_own_at _ rfl (.tmp 29) (.tmp 34) 39 rfl X 5 i0 (.int .u8 0) 1 1 Tryz.underlying39 hi hz0 hz1 hz2 rfl (by decide) _ _ _ rfl HS.out.own ⟨g, 0, none⟩ (beN 4 ((t.items.length : Int) - 1)).length cap (byteC (beN 4 ((t.items.length : Int) - 1))) rfl (by rw [byteC_len]; exact (Nat.mul_one _).symm) HN.out (byteC_one _) (by unfold maxLen; first | omega | (simp [beN_len, atomE_len]; done) | (simp [beN_len, atomE_len]; omega)) (by rw [Nat.mul_one]; first | omega | (simp [beN_len, atomE_len]; done) | (simp [beN_len, atomE_len]; omega)) HS.out.bx.ge ?_)
   intro v' wz hown' hgrow hnil hloc
   have HS := Lib.hid (HS.out.app (l2 := beN 4 ((t.items.length : Int) - 1)) hown' hgrow (by first | rfl | (simp [beN_len] <;> omega)) (by first | rfl | (simp only [List.append_assoc]; rfl)))
   clear hown' hgrow hnil hloc
   clear HN
   go_wp2_with fail
   go_meet
   case rel =>
    have HQ := HS.out
    try simp only [List.append_assoc] at HQ
    rw [HE.out]
    exact Lib.hid HQ
  by_cases hk : t.kind = 10
  ·have hn : bitsV t.bytes t.bits = true := by unfold okK at hokK; simp [hk] at hokK; exact hokK
   obtain ⟨hb0, hb1, hb2⟩ := bitsV_len hn
   have hy : t.bytes.size ≤ 3000 := by omega
   clear hb2 hn hokK
   by_cases hr : t.bits % 8 = 0
   ·have hrb : (t.bits % 8 == 0) = true := by rw [beq_iff_eq]; exact hr
    have HE : Hid (headE t = 109 :: (beN 4 t.bytes.size ++ t.bytes.data.toList)) := Lib.hid (by unfold headE; simp [hk, hr])
    have t1 : (t.kind == 1) = false := by rw [beq_eq_false_iff_ne]; omega
    have t2 : (t.kind == 2) = false := by rw [beq_eq_false_iff_ne]; omega
    have t7 : (t.kind == 7) = false := by rw [beq_eq_false_iff_ne]; omega
    have t8 : (t.kind == 8) = false := by rw [beq_eq_false_iff_ne]; omega
    have t9 : (t.kind == 9) = false := by rw [beq_eq_false_iff_ne]; omega
    have t10 : (t.kind == 10) = true := by rw [beq_iff_eq]; exact hk
    have hk4 : ¬ (t.kind = 4 ∨ t.kind = 7 ∨ t.kind = 9) := by omega
    have HCE := Lib.hid (HZI.out hk4)
    clear hk4
    clear hk HZI
    have HS := Lib.hid (HS0.out.lit #[.int .u8 109] [109] 1 rfl (by simp [byteC] <;> omega) (by omega))
    go_wp2_with fail
    refine (rnumber07_any (t.bytes.size : Int) 4 _ (by unfold I64; omega) (by omega)).mono ?_
    rintro e w4 ⟨v4, rfl, ho, hb⟩
    have HS := Lib.hid (HS.out.below hb)
    obtain ⟨g, cap, cur, rfl, hg1, hg2, hg3⟩ := owns_open ho (by intro e; have := congrArg List.length e; rw [beN_len] at this; cases this)
    have HN := Lib.hid (row_news hg2 hg3)
    clear ho hb hg1 hg2 hg3
    go_wp2_with (at_builtin; refine wpList_append_own_at _ rfl (.tmp 42) (.tmp 46) 39 rfl X 5 i0 (.int .u8 0) 1 1 Tryz.underlying39 hi hz0 hz1 hz2 rfl (by decide) _ _ _ rfl HS.out.own ⟨g, 0, none⟩ (beN 4 (t.bytes.size : Int)).length cap (byteC (beN 4 (t.bytes.size : Int))) rfl (by rw [byteC_len]; exact (Nat.mul_one _).symm) HN.out (byteC_one _) (by unfold maxLen; first | omega | (simp [beN_len, atomE_len]; done) | (simp [beN_len, atomE_len]; omega)) (by rw [Nat.mul_one]; first | omega | (simp [beN_len, atomE_len]; done) | (simp [beN_len, atomE_len]; omega)) HS.out.bx.ge ?_)
    intro v' wz hown' hgrow hnil hloc
    have HS := Lib.hid (HS.out.app (l2 := beN 4 (t.bytes.size : Int)) hown' hgrow (by first | rfl | (simp [beN_len] <;> omega)) (by first | rfl | (simp only [List.append_assoc]; rfl)))
    clear hown' hgrow hnil hloc
    clear HN
    clear c0 c1 c2 c3 c4 c5 c6 c7 c8 hlx
    obtain ⟨c0, c1, c2, c3, c4, c5, c6, c7, c8, cz⟩ := term_cells HS.out.bx.box
    have hlx := lt_of_row HS.out.bx.box
    clear cz
    go_wp2_with (at_builtin; refine Lib.wpList_append_own_string _ rfl (.tmp 61) (.tmp 63) 39 9 rfl X 5 i0 Tryz.underlying39 Tryz.underlying9 hi hz0 hz1 hz2 _ _ _ rfl HS.out.own t.bytes rfl (by unfold maxLen; first | omega | (simp [beN_len, atomE_len]; done) | (simp [beN_len, atomE_len]; omega)) (by first | omega | (simp [beN_len, atomE_len]; done) | (simp [beN_len, atomE_len]; omega)) HS.out.bx.ge ?_)
    intro v' wz hown' hgrow hnil
    have HS := Lib.hid (HS.out.app (l2 := t.bytes.data.toList) hown' hgrow (by rw [Array.length_toList]; rfl) rfl)
    clear hown' hgrow hnil
    go_wp2_with fail
    go_ret
    have HQ := HS.out
    try simp only [List.append_assoc] at HQ
    exact ⟨_, rfl, by rw [HCE.out, HE.out, HXZ.out]; exact HQ.own, by rw [HXZ.out]; exact HQ.bx.bel⟩
   ·have hrb : (t.bits % 8 == 0) = false := beq_eq_false_iff_ne.2 hr
    have HE : Hid (headE t = 77 :: (beN 4 t.bytes.size ++ (UInt8.ofNat (t.bits % 8).toNat :: t.bytes.data.toList))) := Lib.hid (by unfold headE; simp [hk, hr])
    have t1 : (t.kind == 1) = false := by rw [beq_eq_false_iff_ne]; omega
    have t2 : (t.kind == 2) = false := by rw [beq_eq_false_iff_ne]; omega
    have t7 : (t.kind == 7) = false := by rw [beq_eq_false_iff_ne]; omega
    have t8 : (t.kind == 8) = false := by rw [beq_eq_false_iff_ne]; omega
    have t9 : (t.kind == 9) = false := by rw [beq_eq_false_iff_ne]; omega
    have t10 : (t.kind == 10) = true := by rw [beq_iff_eq]; exact hk
    have hk4 : ¬ (t.kind = 4 ∨ t.kind = 7 ∨ t.kind = 9) := by omega
    have HCE := Lib.hid (HZI.out hk4)
    clear hk4
    clear hk HZI
    have HS := Lib.hid (HS0.out.lit #[.int .u8 77] [77] 1 rfl (by simp [byteC] <;> omega) (by omega))
    go_wp2_with fail
    refine (rnumber07_any (t.bytes.size : Int) 4 _ (by unfold I64; omega) (by omega)).mono ?_
    rintro e w5 ⟨v5, rfl, ho, hb⟩
    have HS := Lib.hid (HS.out.below hb)
    obtain ⟨g, cap, cur, rfl, hg1, hg2, hg3⟩ := owns_open ho (by intro e; have := congrArg List.length e; rw [beN_len] at this; cases this)
    have HN := Lib.hid (row_news hg2 hg3)
    clear ho hb hg1 hg2 hg3
    go_wp2_with (at_builtin; refine wpList_append_own_at _ rfl (.tmp 48) (.tmp 52) 39 rfl X 5 i0 (.int .u8 0) 1 1 Tryz.underlying39 hi hz0 hz1 hz2 rfl (by decide) _ _ _ rfl HS.out.own ⟨g, 0, none⟩ (beN 4 (t.bytes.size : Int)).length cap (byteC (beN 4 (t.bytes.size : Int))) rfl (by rw [byteC_len]; exact (Nat.mul_one _).symm) HN.out (byteC_one _) (by unfold maxLen; first | omega | (simp [beN_len, atomE_len]; done) | (simp [beN_len, atomE_len]; omega)) (by rw [Nat.mul_one]; first | omega | (simp [beN_len, atomE_len]; done) | (simp [beN_len, atomE_len]; omega)) HS.out.bx.ge ?_)
    intro v' wz hown' hgrow hnil hloc
    have HS := Lib.hid (HS.out.app (l2 := beN 4 (t.bytes.size : Int)) hown' hgrow (by first | rfl | (simp [beN_len] <;> omega)) (by first | rfl | (simp only [List.append_assoc]; rfl)))
    clear hown' hgrow hnil hloc
    clear HN
    clear c0 c1 c2 c3 c4 c5 c6 c7 c8 hlx
    obtain ⟨c0, c1, c2, c3, c4, c5, c6, c7, c8, cz⟩ := term_cells HS.out.bx.box
    have hlx := lt_of_row HS.out.bx.box
    clear cz
    have HS1 := Lib.hid (HS.out.below ((Below.refl _ _).alloc (Nat.le_refl _) (.cells #[.int .u8 (t.bits % 8)] 5)))
    go_wp2_with (at_builtin; refine wpList_append_own_at _ rfl (.tmp 54) (.tmp 59) 39 rfl X 5 i0 (.int .u8 0) 1 1 Tryz.underlying39 hi hz0 hz1 hz2 rfl (by decide) _ _ _ rfl HS1.out.own ⟨wz.heap.size, 0, none⟩ 1 1 (byteC ([UInt8.ofNat (t.bits % 8).toNat])) rfl (by rw [byteC_len]; exact (Nat.mul_one _).symm) (byteC_news _ #[.int .u8 (t.bits % 8)] (by simp [byteC]; omega) _) (byteC_one _) (by unfold maxLen; first | omega | (simp [beN_len, atomE_len]; done) | (simp [beN_len, atomE_len]; omega)) (by rw [Nat.mul_one]; first | omega | (simp [beN_len, atomE_len]; done) | (simp [beN_len, atomE_len]; omega)) HS1.out.bx.ge ?_)
    intro v' wz hown' hgrow hnil hloc
    have HS := Lib.hid (HS1.out.app (l2 := [UInt8.ofNat (t.bits % 8).toNat]) hown' hgrow (by first | rfl | (simp [beN_len] <;> omega)) (by first | rfl | (simp only [List.append_assoc]; rfl)))
    clear hown' hgrow hnil hloc
    clear c0 c1 c2 c3 c4 c5 c6 c7 c8 hlx
    obtain ⟨c0, c1, c2, c3, c4, c5, c6, c7, c8, cz⟩ := term_cells HS.out.bx.box
    have hlx := lt_of_row HS.out.bx.box
    clear cz
    go_wp2_with (at_builtin; refine Lib.wpList_append_own_string _ rfl (.tmp 61) (.tmp 63) 39 9 rfl X 5 i0 Tryz.underlying39 Tryz.underlying9 hi hz0 hz1 hz2 _ _ _ rfl HS.out.own t.bytes rfl (by unfold maxLen; first | omega | (simp [beN_len, atomE_len]; done) | (simp [beN_len, atomE_len]; omega)) (by first | omega | (simp [beN_len, atomE_len]; done) | (simp [beN_len, atomE_len]; omega)) HS.out.bx.ge ?_)
    intro v' wz hown' hgrow hnil
    have HS := Lib.hid (HS.out.app (l2 := t.bytes.data.toList) hown' hgrow (by rw [Array.length_toList]; rfl) rfl)
    clear hown' hgrow hnil
    go_wp2_with fail
    go_ret
    have HQ := HS.out
    try simp only [List.append_assoc] at HQ
    exact ⟨_, rfl, by rw [HCE.out, HE.out, HXZ.out]; exact HQ.own, by rw [HXZ.out]; exact HQ.bx.bel⟩
  by_cases hk : t.kind = 6
  ·have hn : nameB t.name = true := by unfold okK at hokK; simp [hk] at hokK; exact hokK.2
   have := nameB_max hn
   have HE : Hid (headE t = 88 :: (atomE t.name ++ (beN 4 t.int ++ (beN 4 0 ++ beN 4 t.gen)))) := Lib.hid (by unfold headE; simp [hk])
   have t1 : (t.kind == 1) = false := by rw [beq_eq_false_iff_ne]; omega
   have t2 : (t.kind == 2) = false := by rw [beq_eq_false_iff_ne]; omega
   have t7 : (t.kind == 7) = false := by rw [beq_eq_false_iff_ne]; omega
   have t8 : (t.kind == 8) = false := by rw [beq_eq_false_iff_ne]; omega
   have t9 : (t.kind == 9) = false := by rw [beq_eq_false_iff_ne]; omega
   have t10 : (t.kind == 10) = false := by rw [beq_eq_false_iff_ne]; omega
   have t6 : (t.kind == 6) = true := by rw [beq_iff_eq]; exact hk
   have hk4 : ¬ (t.kind = 4 ∨ t.kind = 7 ∨ t.kind = 9) := by omega
   have HCE := Lib.hid (HZI.out hk4)
   clear hk4
   clear hk HZI
   have HS := Lib.hid (HS0.out.lit #[.int .u8 88] [88] 1 rfl (by simp [byteC] <;> omega) (by omega))
   go_wp2_with fail
   refine (ratom07_any t.name _ (nameB_max hn)).mono ?_
   rintro e w6 ⟨v6, rfl, ho, hb⟩
   have HS := Lib.hid (HS.out.below hb)
   obtain ⟨g, cap, cur, rfl, hg1, hg2, hg3⟩ := owns_open ho (by unfold atomE; simp)
   have HN := Lib.hid (row_news hg2 hg3)
   clear ho hb hg1 hg2 hg3
   go_wp2_with (at_builtin; refine wpList_append_own_at _ rfl (.tmp 67) (.tmp 70) 39 rfl X 5 i0 (.int .u8 0) 1 1 Tryz.underlying39 hi hz0 hz1 hz2 rfl (by decide) _ _ _ rfl HS.out.own ⟨g, 0, none⟩ (atomE t.name).length cap (byteC (atomE t.name)) rfl (by rw [byteC_len]; exact (Nat.mul_one _).symm) HN.out (byteC_one _) (by unfold maxLen; first | omega | (simp [beN_len, atomE_len]; done) | (simp [beN_len, atomE_len]; omega)) (by rw [Nat.mul_one]; first | omega | (simp [beN_len, atomE_len]; done) | (simp [beN_len, atomE_len]; omega)) HS.out.bx.ge ?_)
   intro v' wz hown' hgrow hnil hloc
   have HS := Lib.hid (HS.out.app (l2 := atomE t.name) hown' hgrow (by first | rfl | (simp [beN_len] <;> omega)) (by first | rfl | (simp only [List.append_assoc]; rfl)))
   clear hown' hgrow hnil hloc
   clear HN
   clear c0 c1 c2 c3 c4 c5 c6 c7 c8 hlx
   obtain ⟨c0, c1, c2, c3, c4, c5, c6, c7, c8, cz⟩ := term_cells HS.out.bx.box
   have hlx := lt_of_row HS.out.bx.box
   clear cz
   go_wp2_with fail
   refine (rnumber07_any t.int 4 _ ok1 (by omega)).mono ?_
   rintro e w7 ⟨v7, rfl, ho, hb⟩
   have HS := Lib.hid (HS.out.below hb)
   obtain ⟨g, cap, cur, rfl, hg1, hg2, hg3⟩ := owns_open ho (by intro e; have := congrArg List.length e; rw [beN_len] at this; cases this)
   have HN := Lib.hid (row_news hg2 hg3)
   clear ho hb hg1 hg2 hg3
   go_wp2_with (at_builtin; refine wpList_append_own_at _ rfl (.tmp 72) (.tmp 75) 39 rfl X 5 i0 (.int .u8 0) 1 1 Tryz.underlying39 hi hz0 hz1 hz2 rfl (by decide) _ _ _ rfl HS.out.own ⟨g, 0, none⟩ (beN 4 t.int).length cap (byteC (beN 4 t.int)) rfl (by rw [byteC_len]; exact (Nat.mul_one _).symm) HN.out (byteC_one _) (by unfold maxLen; first | omega | (simp [beN_len, atomE_len]; done) | (simp [beN_len, atomE_len]; omega)) (by rw [Nat.mul_one]; first | omega | (simp [beN_len, atomE_len]; done) | (simp [beN_len, atomE_len]; omega)) HS.out.bx.ge ?_)
   intro v' wz hown' hgrow hnil hloc
   have HS := Lib.hid (HS.out.app (l2 := beN 4 t.int) hown' hgrow (by first | rfl | (simp [beN_len] <;> omega)) (by first | rfl | (simp only [List.append_assoc]; rfl)))
   clear hown' hgrow hnil hloc
   clear HN
   clear c0 c1 c2 c3 c4 c5 c6 c7 c8 hlx
   obtain ⟨c0, c1, c2, c3, c4, c5, c6, c7, c8, cz⟩ := term_cells HS.out.bx.box
   have hlx := lt_of_row HS.out.bx.box
   clear cz
   have HS1 := Lib.hid (HS.out.below ((Below.refl _ _).alloc (Nat.le_refl _) (.cells #[.int .u8 0, .int .u8 0, .int .u8 0, .int .u8 0] 5)))
   go_wp2_with (at_builtin; refine wpList_append_own_at _ rfl (.tmp 77) (.tmp 78) 39 rfl X 5 i0 (.int .u8 0) 1 1 Tryz.underlying39 hi hz0 hz1 hz2 rfl (by decide) _ _ _ rfl HS1.out.own ⟨wz.heap.size, 0, none⟩ 4 4 (byteC (beN 4 0)) rfl (by rw [byteC_len]; exact (Nat.mul_one _).symm) (byteC_news _ #[.int .u8 0, .int .u8 0, .int .u8 0, .int .u8 0] rfl _) (byteC_one _) (by unfold maxLen; first | omega | (simp [beN_len, atomE_len]; done) | (simp [beN_len, atomE_len]; omega)) (by rw [Nat.mul_one]; first | omega | (simp [beN_len, atomE_len]; done) | (simp [beN_len, atomE_len]; omega)) HS1.out.bx.ge ?_)
   intro v' wz hown' hgrow hnil hloc
   have HS := Lib.hid (HS1.out.app (l2 := beN 4 0) hown' hgrow (by first | rfl | (simp [beN_len] <;> omega)) (by first | rfl | (simp only [List.append_assoc]; rfl)))
   clear hown' hgrow hnil hloc
   clear c0 c1 c2 c3 c4 c5 c6 c7 c8 hlx
   obtain ⟨c0, c1, c2, c3, c4, c5, c6, c7, c8, cz⟩ := term_cells HS.out.bx.box
   have hlx := lt_of_row HS.out.bx.box
   clear cz
   go_wp2_with fail
   refine (rnumber07_any t.gen 4 _ ok2 (by omega)).mono ?_
   rintro e w8 ⟨v8, rfl, ho, hb⟩
   have HS := Lib.hid (HS.out.below hb)
   obtain ⟨g, cap, cur, rfl, hg1, hg2, hg3⟩ := owns_open ho (by intro e; have := congrArg List.length e; rw [beN_len] at this; cases this)
   have HN := Lib.hid (row_news hg2 hg3)
   clear ho hb hg1 hg2 hg3
   go_wp2_with (at_builtin; refine wpList_append_own_at _ rfl (.tmp 80) (.tmp 83) 39 rfl X 5 i0 (.int .u8 0) 1 1 Tryz.underlying39 hi hz0 hz1 hz2 rfl (by decide) _ _ _ rfl HS.out.own ⟨g, 0, none⟩ (beN 4 t.gen).length cap (byteC (beN 4 t.gen)) rfl (by rw [byteC_len]; exact (Nat.mul_one _).symm) HN.out (byteC_one _) (by unfold maxLen; first | omega | (simp [beN_len, atomE_len]; done) | (simp [beN_len, atomE_len]; omega)) (by rw [Nat.mul_one]; first | omega | (simp [beN_len, atomE_len]; done) | (simp [beN_len, atomE_len]; omega)) HS.out.bx.ge ?_)
   intro v' wz hown' hgrow hnil hloc
   have HS := Lib.hid (HS.out.app (l2 := beN 4 t.gen) hown' hgrow (by first | rfl | (simp [beN_len] <;> omega)) (by first | rfl | (simp only [List.append_assoc]; rfl)))
   clear hown' hgrow hnil hloc
   clear HN
   go_wp2_with fail
   go_ret
   have HQ := HS.out
   try simp only [List.append_assoc] at HQ
   exact ⟨_, rfl, by rw [HCE.out, HE.out, HXZ.out]; exact HQ.own, by rw [HXZ.out]; exact HQ.bx.bel⟩
  by_cases hk : t.kind = 3
  ·have hn : nameB t.name = true := by unfold okK at hokK; simp [hk] at hokK; exact hokK.2
   have := nameB_max hn
   have HE : Hid (headE t = 90 :: 0 :: 1 :: (atomE t.name ++ (beN 4 t.gen ++ beN 4 t.int))) := Lib.hid (by unfold headE; simp [hk])
   have t1 : (t.kind == 1) = false := by rw [beq_eq_false_iff_ne]; omega
   have t2 : (t.kind == 2) = false := by rw [beq_eq_false_iff_ne]; omega
   have t7 : (t.kind == 7) = false := by rw [beq_eq_false_iff_ne]; omega
   have t8 : (t.kind == 8) = false := by rw [beq_eq_false_iff_ne]; omega
   have t9 : (t.kind == 9) = false := by rw [beq_eq_false_iff_ne]; omega
   have t10 : (t.kind == 10) = false := by rw [beq_eq_false_iff_ne]; omega
   have t6 : (t.kind == 6) = false := by rw [beq_eq_false_iff_ne]; omega
   have t3 : (t.kind == 3) = true := by rw [beq_iff_eq]; exact hk
   have hk4 : ¬ (t.kind = 4 ∨ t.kind = 7 ∨ t.kind = 9) := by omega
   have HCE := Lib.hid (HZI.out hk4)
   clear hk4
   clear hk HZI
   have HS := Lib.hid (HS0.out.lit #[.int .u8 90, .int .u8 0, .int .u8 1] [90, 0, 1] 3 rfl (by simp [byteC] <;> omega) (by omega))
   go_wp2_with fail
   refine (ratom07_any t.name _ (nameB_max hn)).mono ?_
   rintro e w9 ⟨v9, rfl, ho, hb⟩
   have HS := Lib.hid (HS.out.below hb)
   obtain ⟨g, cap, cur, rfl, hg1, hg2, hg3⟩ := owns_open ho (by unfold atomE; simp)
   have HN := Lib.hid (row_news hg2 hg3)
   clear ho hb hg1 hg2 hg3
   go_wp2_with (at_builtin; refine wpList_append_own_at _ rfl (.tmp 87) (.tmp 90) 39 rfl X 5 i0 (.int .u8 0) 1 1 Tryz.underlying39 hi hz0 hz1 hz2 rfl (by decide) _ _ _ rfl HS.out.own ⟨g, 0, none⟩ (atomE t.name).length cap (byteC (atomE t.name)) rfl (by rw [byteC_len]; exact (Nat.mul_one _).symm) HN.out (byteC_one _) (by unfold maxLen; first | omega | (simp [beN_len, atomE_len]; done) | (simp [beN_len, atomE_len]; omega)) (by rw [Nat.mul_one]; first | omega | (simp [beN_len, atomE_len]; done) | (simp [beN_len, atomE_len]; omega)) HS.out.bx.ge ?_)
   intro v' wz hown' hgrow hnil hloc
   have HS := Lib.hid (HS.out.app (l2 := atomE t.name) hown' hgrow (by first | rfl | (simp [beN_len] <;> omega)) (by first | rfl | (simp only [List.append_assoc]; rfl)))
   clear hown' hgrow hnil hloc
   clear HN
   clear c0 c1 c2 c3 c4 c5 c6 c7 c8 hlx
   obtain ⟨c0, c1, c2, c3, c4, c5, c6, c7, c8, cz⟩ := term_cells HS.out.bx.box
   have hlx := lt_of_row HS.out.bx.box
   clear cz
   go_wp2_with fail
   refine (rnumber07_any t.gen 4 _ ok2 (by omega)).mono ?_
   rintro e w10 ⟨v10, rfl, ho, hb⟩
   have HS := Lib.hid (HS.out.below hb)
   obtain ⟨g, cap, cur, rfl, hg1, hg2, hg3⟩ := owns_open ho (by intro e; have := congrArg List.length e; rw [beN_len] at this; cases this)
   have HN := Lib.hid (row_news hg2 hg3)
   clear ho hb hg1 hg2 hg3
   go_wp2_with (at_builtin; refine wpList_append_own_at _ rfl (.tmp 92) (.tmp 95) 39 rfl X 5 i0 (.int .u8 0) 1 1 Tryz.underlying39 hi hz0 hz1 hz2 rfl (by decide) _ _ _ rfl HS.out.own ⟨g, 0, none⟩ (beN 4 t.gen).length cap (byteC (beN 4 t.gen)) rfl (by rw [byteC_len]; exact (Nat.mul_one _).symm) HN.out (byteC_one _) (by unfold maxLen; first | omega | (simp [beN_len, atomE_len]; done) | (simp [beN_len, atomE_len]; omega)) (by rw [Nat.mul_one]; first | omega | (simp [beN_len, atomE_len]; done) | (simp [beN_len, atomE_len]; omega)) HS.out.bx.ge ?_)
   intro v' wz hown' hgrow hnil hloc
   have HS := Lib.hid (HS.out.app (l2 := beN 4 t.gen) hown' hgrow (by first | rfl | (simp [beN_len] <;> omega)) (by first | rfl | (simp only [List.append_assoc]; rfl)))
   clear hown' hgrow hnil hloc
   clear HN
   clear c0 c1 c2 c3 c4 c5 c6 c7 c8 hlx
   obtain ⟨c0, c1, c2, c3, c4, c5, c6, c7, c8, cz⟩ := term_cells HS.out.bx.box
   have hlx := lt_of_row HS.out.bx.box
   clear cz
   go_wp2_with fail
   refine (rnumber07_any t.int 4 _ ok1 (by omega)).mono ?_
   rintro e w11 ⟨v11, rfl, ho, hb⟩
   have HS := Lib.hid (HS.out.below hb)
   obtain ⟨g, cap, cur, rfl, hg1, hg2, hg3⟩ := owns_open ho (by intro e; have := congrArg List.length e; rw [beN_len] at this; cases this)
   have HN := Lib.hid (row_news hg2 hg3)
   clear ho hb hg1 hg2 hg3
   go_wp2_with (at_builtin; refine wpList_append_own_at _ rfl (.tmp 97) (.tmp 100) 39 rfl X 5 i0 (.int .u8 0) 1 1 Tryz.underlying39 hi hz0 hz1 hz2 rfl (by decide) _ _ _ rfl HS.out.own ⟨g, 0, none⟩ (beN 4 t.int).length cap (byteC (beN 4 t.int)) rfl (by rw [byteC_len]; exact (Nat.mul_one _).symm) HN.out (byteC_one _) (by unfold maxLen; first | omega | (simp [beN_len, atomE_len]; done) | (simp [beN_len, atomE_len]; omega)) (by rw [Nat.mul_one]; first | omega | (simp [beN_len, atomE_len]; done) | (simp [beN_len, atomE_len]; omega)) HS.out.bx.ge ?_)
   intro v' wz hown' hgrow hnil hloc
   have HS := Lib.hid (HS.out.app (l2 := beN 4 t.int) hown' hgrow (by first | rfl | (simp [beN_len] <;> omega)) (by first | rfl | (simp only [List.append_assoc]; rfl)))
   clear hown' hgrow hnil hloc
   clear HN
   go_wp2_with fail
   go_ret
   have HQ := HS.out
   try simp only [List.append_assoc] at HQ
   exact ⟨_, rfl, by rw [HCE.out, HE.out, HXZ.out]; exact HQ.own, by rw [HXZ.out]; exact HQ.bx.bel⟩
  by_cases hk : t.kind = 5
  ·have hn : nameB t.name = true ∧ nameB t.func = true := by unfold okK at hokK; simp [hk] at hokK; exact hokK.1
   have := nameB_max hn.1; have := nameB_max hn.2
   have hil := intE_len t.arity
   have HE : Hid (headE t = 113 :: (atomE t.name ++ (atomE t.func ++ intE t.arity))) := Lib.hid (by unfold headE; simp [hk])
   have t1 : (t.kind == 1) = false := by rw [beq_eq_false_iff_ne]; omega
   have t2 : (t.kind == 2) = false := by rw [beq_eq_false_iff_ne]; omega
   have t7 : (t.kind == 7) = false := by rw [beq_eq_false_iff_ne]; omega
   have t8 : (t.kind == 8) = false := by rw [beq_eq_false_iff_ne]; omega
   have t9 : (t.kind == 9) = false := by rw [beq_eq_false_iff_ne]; omega
   have t10 : (t.kind == 10) = false := by rw [beq_eq_false_iff_ne]; omega
   have t6 : (t.kind == 6) = false := by rw [beq_eq_false_iff_ne]; omega
   have t3 : (t.kind == 3) = false := by rw [beq_eq_false_iff_ne]; omega
   have t5 : (t.kind == 5) = true := by rw [beq_iff_eq]; exact hk
   have hk4 : ¬ (t.kind = 4 ∨ t.kind = 7 ∨ t.kind = 9) := by omega
   have HCE := Lib.hid (HZI.out hk4)
   clear hk4
   clear hk HZI
   have HS := Lib.hid (HS0.out.lit #[.int .u8 113] [113] 1 rfl (by simp [byteC] <;> omega) (by omega))
   go_wp2_with fail
   refine (ratom07_any t.name _ (nameB_max hn.1)).mono ?_
   rintro e w12 ⟨v12, rfl, ho, hb⟩
   have HS := Lib.hid (HS.out.below hb)
   obtain ⟨g, cap, cur, rfl, hg1, hg2, hg3⟩ := owns_open ho (by unfold atomE; simp)
   have HN := Lib.hid (row_news hg2 hg3)
   clear ho hb hg1 hg2 hg3
   go_wp2_with (at_builtin; refine wpList_append_own_at _ rfl (.tmp 104) (.tmp 107) 39 rfl X 5 i0 (.int .u8 0) 1 1 Tryz.underlying39 hi hz0 hz1 hz2 rfl (by decide) _ _ _ rfl HS.out.own ⟨g, 0, none⟩ (atomE t.name).length cap (byteC (atomE t.name)) rfl (by rw [byteC_len]; exact (Nat.mul_one _).symm) HN.out (byteC_one _) (by unfold maxLen; first | omega | (simp [beN_len, atomE_len]; done) | (simp [beN_len, atomE_len]; omega)) (by rw [Nat.mul_one]; first | omega | (simp [beN_len, atomE_len]; done) | (simp [beN_len, atomE_len]; omega)) HS.out.bx.ge ?_)
   intro v' wz hown' hgrow hnil hloc
   have HS := Lib.hid (HS.out.app (l2 := atomE t.name) hown' hgrow (by first | rfl | (simp [beN_len] <;> omega)) (by first | rfl | (simp only [List.append_assoc]; rfl)))
   clear hown' hgrow hnil hloc
   clear HN
   clear c0 c1 c2 c3 c4 c5 c6 c7 c8 hlx
   obtain ⟨c0, c1, c2, c3, c4, c5, c6, c7, c8, cz⟩ := term_cells HS.out.bx.box
   have hlx := lt_of_row HS.out.bx.box
   clear cz
   go_wp2_with fail
   refine (ratom07_any t.func _ (nameB_max hn.2)).mono ?_
   rintro e w13 ⟨v13, rfl, ho, hb⟩
   have HS := Lib.hid (HS.out.below hb)
   obtain ⟨g, cap, cur, rfl, hg1, hg2, hg3⟩ := owns_open ho (by unfold atomE; simp)
   have HN := Lib.hid (row_news hg2 hg3)
   clear ho hb hg1 hg2 hg3
   go_wp2_with (at_builtin; refine wpList_append_own_at _ rfl (.tmp 109) (.tmp 112) 39 rfl X 5 i0 (.int .u8 0) 1 1 Tryz.underlying39 hi hz0 hz1 hz2 rfl (by decide) _ _ _ rfl HS.out.own ⟨g, 0, none⟩ (atomE t.func).length cap (byteC (atomE t.func)) rfl (by rw [byteC_len]; exact (Nat.mul_one _).symm) HN.out (byteC_one _) (by unfold maxLen; first | omega | (simp [beN_len, atomE_len]; done) | (simp [beN_len, atomE_len]; omega)) (by rw [Nat.mul_one]; first | omega | (simp [beN_len, atomE_len]; done) | (simp [beN_len, atomE_len]; omega)) HS.out.bx.ge ?_)
   intro v' wz hown' hgrow hnil hloc
   have HS := Lib.hid (HS.out.app (l2 := atomE t.func) hown' hgrow (by first | rfl | (simp [beN_len] <;> omega)) (by first | rfl | (simp only [List.append_assoc]; rfl)))
   clear hown' hgrow hnil hloc
   clear HN
   clear c0 c1 c2 c3 c4 c5 c6 c7 c8 hlx
   obtain ⟨c0, c1, c2, c3, c4, c5, c6, c7, c8, cz⟩ := term_cells HS.out.bx.box
   have hlx := lt_of_row HS.out.bx.box
   clear cz
   go_wp2_with fail
   refine (rinteger07_any t.arity _ ok5).mono ?_
   rintro e w14 ⟨v14, rfl, ho, hb⟩
   have HS := Lib.hid (HS.out.below hb)
   obtain ⟨g, cap, cur, rfl, hg1, hg2, hg3⟩ := owns_open ho (by unfold intE bigE; split <;> (try split) <;> simp)
   have HN := Lib.hid (row_news hg2 hg3)
   clear ho hb hg1 hg2 hg3
   go_wp2_with (at_builtin; refine wpList_append_own_at _ rfl (.tmp 114) (.tmp 117) 39 rfl X 5 i0 (.int .u8 0) 1 1 Tryz.underlying39 hi hz0 hz1 hz2 rfl (by decide) _ _ _ rfl HS.out.own ⟨g, 0, none⟩ (intE t.arity).length cap (byteC (intE t.arity)) rfl (by rw [byteC_len]; exact (Nat.mul_one _).symm) HN.out (byteC_one _) (by unfold maxLen; first | omega | (simp [beN_len, atomE_len]; done) | (simp [beN_len, atomE_len]; omega)) (by rw [Nat.mul_one]; first | omega | (simp [beN_len, atomE_len]; done) | (simp [beN_len, atomE_len]; omega)) HS.out.bx.ge ?_)
   intro v' wz hown' hgrow hnil hloc
   have HS := Lib.hid (HS.out.app (l2 := intE t.arity) hown' hgrow (by first | rfl | (simp [beN_len] <;> omega)) (by first | rfl | (simp only [List.append_assoc]; rfl)))
   clear hown' hgrow hnil hloc
   clear HN
   go_wp2_with fail
   go_ret
   have HQ := HS.out
   try simp only [List.append_assoc] at HQ
   exact ⟨_, rfl, by rw [HCE.out, HE.out, HXZ.out]; exact HQ.own, by rw [HXZ.out]; exact HQ.bx.bel⟩
  by_cases hk : t.kind = 4
  ·have hn : wi t.arity 0 16 = true ∧ nameB t.name = true ∧ t.items.length ≤ 200 := by unfold okK at hokK; simp [hk] at hokK; exact ⟨hokK.1.2, hokK.1.1.2, hokK.2⟩
   have := nameB_max hn.2.1
   have ha := wi_of hn.1
   obtain ⟨ha1, ha2⟩ := ha
   have hi2 := hn.2.2
   have hn21 := hn.2.1
   clear hn hokK
   have HE : Hid (headE t = 112 :: UInt8.ofNat t.arity.toNat :: (beN 2 t.int ++ (UInt8.ofNat t.items.length :: (atomE t.name ++ beN 4 t.gen)))) := Lib.hid (by unfold headE; simp [hk])
   have t1 : (t.kind == 1) = false := by rw [beq_eq_false_iff_ne]; omega
   have t2 : (t.kind == 2) = false := by rw [beq_eq_false_iff_ne]; omega
   have t7 : (t.kind == 7) = false := by rw [beq_eq_false_iff_ne]; omega
   have t8 : (t.kind == 8) = false := by rw [beq_eq_false_iff_ne]; omega
   have t9 : (t.kind == 9) = false := by rw [beq_eq_false_iff_ne]; omega
   have t10 : (t.kind == 10) = false := by rw [beq_eq_false_iff_ne]; omega
   have t6 : (t.kind == 6) = false := by rw [beq_eq_false_iff_ne]; omega
   have t3 : (t.kind == 3) = false := by rw [beq_eq_false_iff_ne]; omega
   have t5 : (t.kind == 5) = false := by rw [beq_eq_false_iff_ne]; omega
   have t4 : (t.kind == 4) = true := by rw [beq_iff_eq]; exact hk

   clear hk HZI
   go_wp2_with fail
   have HSD : Hid (RCx X t so c w W.drew) := Lib.hid (HS0.out.below (Below.refl _ _).drew)
   have HSA : Hid (RSt X t so c w (.slice (some ⟨W.heap.size, 0, none⟩) 2 2) [112, UInt8.ofNat t.arity.toNat] ((W.alloc (.cells #[.int .u8 112, .int .u8 t.arity] 5)).drew)) := Lib.hid ((HS0.out.lit #[.int .u8 112, .int .u8 t.arity] [112, UInt8.ofNat t.arity.toNat] 2 rfl (by simp [byteC]; omega) (by omega)).below (Below.refl _ _).drew)
   have hwa : IntKind.u8.wrap t.arity = t.arity := by rw [IntKind.wrap_u8]; omega
   have KA : Hid ((W.alloc (.cells #[.int .u8 112, .int .u8 t.arity] 5)).drew.cell? ⟨X, 5, none⟩ = some (.int .i64 t.arity) ∧ (W.alloc (.cells #[.int .u8 112, .int .u8 t.arity] 5)).drew.cell? ⟨X, 1, none⟩ = some (.int .i64 t.int)) := Lib.hid ⟨(term_cells HSA.out.bx.box).2.2.2.2.2.1, (term_cells HSA.out.bx.box).2.1⟩
   have HA0 : Hid (0 ≤ t.arity ∧ t.arity < 256) := Lib.hid ⟨by omega, by omega⟩
   first | go_region_held3 (fun w' => w'.cell? ⟨X, 5, none⟩ = some (.int .i64 t.arity) ∧ w'.cell? ⟨X, 1, none⟩ = some (.int .i64 t.int)) (first | exact KD.out | exact KC.out | exact KB.out | exact KA.out | exact ⟨c5, c1⟩)
    (first
     | (go_at_call 144; refine (rnumber07_any t.int 2 _ ok1 (by omega)).mono ?_; rintro e w21 ⟨v21, rfl, ho, hb⟩; (first | have HSL := Lib.hid (HSA.out.below hb) | have HSB := Lib.hid (HSD.out.below hb)); obtain ⟨g, cap, cur, rfl, hg1, hg2, hg3⟩ := owns_open ho (by intro e; have := congrArg List.length e; rw [beN_len] at this; cases this); have HN := Lib.hid (row_news hg2 hg3); have HG := Lib.hid hg2; have HG3 := Lib.hid hg3; clear ho hb hg1 hg2 hg3; (first | have KB := Lib.hid (And.intro (term_cells HSL.out.bx.box).2.2.2.2.2.1 (term_cells HSL.out.bx.box).2.1) | (have KB := Lib.hid (And.intro (term_cells HSB.out.box).2.2.2.2.2.1 (term_cells HSB.out.box).2.1); have HSL := Lib.hid (HSB.out.lit #[.int .u8 112, .int .u8 t.arity] [112, UInt8.ofNat t.arity.toNat] 2 rfl (by have := HA0.out; simp [byteC]; omega) (by omega)); have KC := Lib.hid (And.intro (term_cells HSL.out.bx.box).2.2.2.2.2.1 (term_cells HSL.out.bx.box).2.1); have HN := Lib.hid (row_news ((((Below.refl w21.heap.size w21).alloc (Nat.le_refl _) (.cells #[.int .u8 112, .int .u8 t.arity] 5)).block g (lt_of_row HG.out)).trans HG.out) HG3.out))))
     | (refine step_append_lies _ (by rfl) (.tmp 124) (.tmp 127) 39 (by rfl) X 5 i0 (.int .u8 0) 1 1 Tryz.underlying39 hi hz0 hz1 hz2 (by rfl) (by decide) _ _ _ (by rfl) HSL.out.own ⟨g, 0, none⟩ _ cap (byteC (beN 2 t.int)) (by rfl) (by rw [byteC_len]; exact (Nat.mul_one _).symm) HN.out (byteC_one _) (by rw [beN_len]; omega) (by unfold maxLen; simp [beN_len]) (by simp [beN_len]) HSL.out.bx.ge _ rfl ?_; intro g2 cap2 w22 hown' hgrow hat hlt; have HS := Lib.hid (HSL.out.app hown' hgrow rfl rfl); have KD := Lib.hid (And.intro (term_cells HS.out.bx.box).2.2.2.2.2.1 (term_cells HS.out.bx.box).2.1); clear hown' hgrow hat hlt)) | fail
   all_goals
    clear c0 c1 c2 c3 c4 c5 c6 c7 c8 hlx
    obtain ⟨c0, c1, c2, c3, c4, c5, c6, c7, c8, cz⟩ := term_cells HS.out.bx.box
    have hlx := lt_of_row HS.out.bx.box
    clear cz
    clear KA KB KD
    have HS1 := Lib.hid (HS.out.below ((Below.refl _ _).alloc (Nat.le_refl _) (.cells #[.int .u8 t.items.length] 5)))
    go_wp2_with (at_builtin; refine wpList_append_own_at _ rfl (.tmp 129) (.tmp 134) 39 rfl X 5 i0 (.int .u8 0) 1 1 Tryz.underlying39 hi hz0 hz1 hz2 rfl (by decide) _ _ _ rfl HS1.out.own ⟨w22.heap.size, 0, none⟩ 1 1 (byteC ([UInt8.ofNat t.items.length])) rfl (by rw [byteC_len]; exact (Nat.mul_one _).symm) (byteC_news _ #[.int .u8 t.items.length] (by simp [byteC]; omega) _) (byteC_one _) (by unfold maxLen; first | omega | (simp [beN_len, atomE_len]; done) | (simp [beN_len, atomE_len]; omega)) (by rw [Nat.mul_one]; first | omega | (simp [beN_len, atomE_len]; done) | (simp [beN_len, atomE_len]; omega)) HS1.out.bx.ge ?_)
    intro v' wz hown' hgrow hnil hloc
    have HS := Lib.hid (HS1.out.app (l2 := [UInt8.ofNat t.items.length]) hown' hgrow (by first | rfl | (simp [beN_len] <;> omega)) (by first | rfl | (simp only [List.append_assoc]; rfl)))
    clear hown' hgrow hnil hloc
    clear c0 c1 c2 c3 c4 c5 c6 c7 c8 hlx
    obtain ⟨c0, c1, c2, c3, c4, c5, c6, c7, c8, cz⟩ := term_cells HS.out.bx.box
    have hlx := lt_of_row HS.out.bx.box
    clear cz
    go_wp2_with fail
    refine (ratom07_any t.name _ (nameB_max hn21)).mono ?_
    rintro e w15 ⟨v15, rfl, ho, hb⟩
    have HS := Lib.hid (HS.out.below hb)
    obtain ⟨g, cap, cur, rfl, hg1, hg2, hg3⟩ := owns_open ho (by unfold atomE; simp)
    have HN := Lib.hid (row_news hg2 hg3)
    clear ho hb hg1 hg2 hg3
    go_wp2_with (at_builtin; refine wpList_append_own_at _ rfl (.tmp 136) (.tmp 139) 39 rfl X 5 i0 (.int .u8 0) 1 1 Tryz.underlying39 hi hz0 hz1 hz2 rfl (by decide) _ _ _ rfl HS.out.own ⟨g, 0, none⟩ (atomE t.name).length cap (byteC (atomE t.name)) rfl (by rw [byteC_len]; exact (Nat.mul_one _).symm) HN.out (byteC_one _) (by unfold maxLen; first | omega | (simp [beN_len, atomE_len]; done) | (simp [beN_len, atomE_len]; omega)) (by rw [Nat.mul_one]; first | omega | (simp [beN_len, atomE_len]; done) | (simp [beN_len, atomE_len]; omega)) HS.out.bx.ge ?_)
    intro v' wz hown' hgrow hnil hloc
    have HS := Lib.hid (HS.out.app (l2 := atomE t.name) hown' hgrow (by first | rfl | (simp [beN_len] <;> omega)) (by first | rfl | (simp only [List.append_assoc]; rfl)))
    clear hown' hgrow hnil hloc
    clear HN
    clear c0 c1 c2 c3 c4 c5 c6 c7 c8 hlx
    obtain ⟨c0, c1, c2, c3, c4, c5, c6, c7, c8, cz⟩ := term_cells HS.out.bx.box
    have hlx := lt_of_row HS.out.bx.box
    clear cz
    go_wp2_with fail
    refine (rnumber07_any t.gen 4 _ ok2 (by omega)).mono ?_
    rintro e w16 ⟨v16, rfl, ho, hb⟩
    have HS := Lib.hid (HS.out.below hb)
    obtain ⟨g, cap, cur, rfl, hg1, hg2, hg3⟩ := owns_open ho (by intro e; have := congrArg List.length e; rw [beN_len] at this; cases this)
    have HN := Lib.hid (row_news hg2 hg3)
    clear ho hb hg1 hg2 hg3
    go_wp2_with (at_builtin; refine wpList_append_own_at _ rfl (.tmp 141) (.tmp 144) 39 rfl X 5 i0 (.int .u8 0) 1 1 Tryz.underlying39 hi hz0 hz1 hz2 rfl (by decide) _ _ _ rfl HS.out.own ⟨g, 0, none⟩ (beN 4 t.gen).length cap (byteC (beN 4 t.gen)) rfl (by rw [byteC_len]; exact (Nat.mul_one _).symm) HN.out (byteC_one _) (by unfold maxLen; first | omega | (simp [beN_len, atomE_len]; done) | (simp [beN_len, atomE_len]; omega)) (by rw [Nat.mul_one]; first | omega | (simp [beN_len, atomE_len]; done) | (simp [beN_len, atomE_len]; omega)) HS.out.bx.ge ?_)
    intro v' wz hown' hgrow hnil hloc
    have HS := Lib.hid (HS.out.app (l2 := beN 4 t.gen) hown' hgrow (by first | rfl | (simp [beN_len] <;> omega)) (by first | rfl | (simp only [List.append_assoc]; rfl)))
    clear hown' hgrow hnil hloc
    clear HN
    go_wp2_with fail
    go_meet
    case rel =>
     have HQ := HS.out
     try simp only [List.append_assoc] at HQ
     rw [HE.out]
     exact Lib.hid HQ
  exact absurd hokK (by rw [okK_none (by omega)]; decide)
 case rest =>
  rename_i v3 wx
  have HS := hcut
  clear hcut
  clear c0 c1 c2 c3 c4 c5 c6 c7 c8 hlx HZI hokK hhl
  obtain ⟨c0, c1, c2, c3, c4, c5, c6, c7, c8, cz⟩ := term_cells HS.out.bx.box
  have hlx := lt_of_row HS.out.bx.box
  clear cz
  go_wp2_with fail
  go_loopw [3, 4] (fun v3 iv wr => ∃ (k : Nat) (l : List UInt8), k ≤ t.items.length ∧ iv = .int .i64 k ∧ Hid (CE = l ++ (t.items.drop k).flatMap (codeE f)) ∧ Hid (RSt X t so c w v3 l wr)) (fun _ iv _ => t.items.length - (intOf iv).toNat)
  case atStart => exact ⟨0, _, Nat.zero_le _, rfl, HT, HS⟩
  case round =>
   obtain ⟨k, l, hk, rfl, HV, HW⟩ := hrel
   rename World => wr
   clear c0 c1 c2 c3 c4 c5 c6 c7 c8 hlx
   obtain ⟨c0, c1, c2, c3, c4, c5, c6, c7, c8, cz⟩ := term_cells HW.out.bx.box
   have hlx := lt_of_row HW.out.bx.box
   clear cz
   by_cases hlt : k < t.items.length
   ·obtain ⟨b2, off, ai, ci, hao, hb2, q0, q1, q2, q3, q4, q5, q6, q7, q8, hne, hcall⟩ := HREC.out k wr hlt HW.out.bx.bel
    subst hao
    have HV2 : Hid (CE = (l ++ codeE f t.items[k]) ++ (t.items.drop (k + 1)).flatMap (codeE f)) := Lib.hid (by rw [HV.out, List.drop_eq_getElem_cons hlt, List.flatMap_cons, List.append_assoc])
    have hlen2 : l.length + (codeE f t.items[k]).length ≤ 17592186044416 := by
     have h1 := HTL.out
     rw [HV2.out, List.length_append, List.length_append] at h1
     omega
    have hcl := hcall (by omega)
    have HCL := Lib.hid hcl; have HNE := Lib.hid hne
    clear hcl hcall hne
    generalize codeE f t.items[k] = cx at *
    generalize t.items[k] = u at *
    go_wp2_with fail
    refine HCL.out.mono ?_
    rintro e w5 ⟨v5, rfl, ho, hb⟩
    have HS := Lib.hid (HW.out.below hb)
    obtain ⟨g, cap, cur, rfl, hg1, hg2, hg3⟩ := owns_open ho HNE.out
    have HN := Lib.hid (row_news hg2 hg3)
    clear ho hb hg1 hg2 hg3
    go_wp2_with (at_builtin; refine wpList_append_own_at _ rfl (.tmp 153) (.tmp 159) 39 rfl X 5 i0 (.int .u8 0) 1 1 Tryz.underlying39 hi hz0 hz1 hz2 rfl (by decide) _ _ _ rfl HS.out.own ⟨g, 0, none⟩ cx.length cap (byteC (cx)) rfl (by rw [byteC_len]; exact (Nat.mul_one _).symm) HN.out (byteC_one _) (by unfold maxLen; first | omega | (simp [beN_len, atomE_len]; done) | (simp [beN_len, atomE_len]; omega)) (by rw [Nat.mul_one]; first | omega | (simp [beN_len, atomE_len]; done) | (simp [beN_len, atomE_len]; omega)) HS.out.bx.ge ?_)
    intro v' wz hown' hgrow hnil hloc
    have HS := Lib.hid (HS.out.app (l2 := cx) hown' hgrow (by first | rfl | (simp [beN_len] <;> omega)) (by first | rfl | (simp only [List.append_assoc]; rfl)))
    clear hown' hgrow hnil hloc
    go_wp2_with fail
    go_roundw
    case rel => exact ⟨k + 1, _, by omega, by go_num, HV2, HS⟩
    case measure => simp [intOf]; omega
   ·have HV2 : Hid (CE = l) := Lib.hid (by rw [HV.out, List.drop_eq_nil_of_le (by omega)]; simp)
    go_wp2_with fail
    go_ret
    exact ⟨_, rfl, by rw [HV2.out, HXZ.out]; exact HW.out.own, by rw [HXZ.out]; exact HW.out.bx.bel⟩
theorem rcode_rec (f : Nat) : RCodeP f := by
 induction f with
 | zero => exact rcode_step 0 (fun f' h => absurd h (by omega))
 | succ f ih => exact rcode_step (f + 1) (fun f' h => by have : f' = f := by omega
                                                         subst this; exact ih)
end Go.Proofs.YtghgbikmlbildaaGreatDoor
