/-
  The external format's writer of terms, wire.Put: the walks (printed by gen_eterm.py).
-/
import Derived.Deep.CutBlock
import Derived.Test.YtghgbikmlbildaaGreatDoorPutsAll16
import Derived.Test.YtghgbikmlbildaaGreatDoorPutsAll21
namespace Go.Proofs.YtghgbikmlbildaaGreatDoor
open Go.RowKit
set_option linter.unusedVariables false
set_option linter.unusedSimpArgs false

/-- While a term is written: the writer's bytes, the term's box. -/
structure Wst (B b X : Nat) (t : Tm) (so : Option Addr) (c : Nat) (w : World) (l : List UInt8) (wx : World) : Prop where
 at' : WtAt B b l wx
 box : wx.heap[X]? = some (.cells #[.int .i64 t.kind, .int .i64 t.int, .int .i64 t.gen, .string t.name, .string t.func, .int .i64 t.arity, .slice so t.items.length c, .string t.bytes, .int .i64 t.bits] 78 (0, 0))
 bel : Below B w wx
 st : StaysE w wx
theorem Wst.next {B b X : Nat} {t : Tm} {so : Option Addr} {c : Nat} {w : World} {l l' : List UInt8} {wx wy : World} (h : Wst B b X t so c w l wx) (h1 : WtAt B b l' wy) (h2 : Below B wx wy) (h3 : StaysE wx wy) : Wst B b X t so c w l' wy :=
 ⟨h1, h3 X _ _ _ h.box (by decide) (by decide), h.bel.trans h2, h.st.trans h3⟩
theorem Wst.below {B b X : Nat} {t : Tm} {so : Option Addr} {c : Nat} {w : World} {l : List UInt8} {wx wy : World} (h : Wst B b X t so c w l wx) (hb : Below wx.heap.size wx wy) : Wst B b X t so c w l wy :=
 h.next (h.at'.below hb) (hb.mono h.at'.2.1) ((StaysE.refl _).below hb)
def WTermP (f : Nat) : Prop := ∀ (t : Tm) (so : Option Addr) (c b : Nat) (l : List UInt8) (w0 w : World), SlAt w0 9 (TmAt w0 f) so t.items → t.Ok → formF (f + 1) t = true → Below w0.heap.size w0 w → WtAt w0.heap.size b l w → l.length + (codeE (f + 1) t).length ≤ 17592186044416 →
 Calls Tryz.prog 96 #[.pointer (some ⟨b, 0, none⟩), .agg #[.int .i64 t.kind, .int .i64 t.int, .int .i64 t.gen, .string t.name, .string t.func, .int .i64 t.arity, .slice so t.items.length c, .string t.bytes, .int .i64 t.bits]] w (WtQ w0.heap.size b (l ++ codeE (f + 1) t) w)
set_option maxRecDepth 100000 in
set_option maxHeartbeats 40000000 in
theorem wterm_step (f : Nat) (IH : ∀ f', f = f' + 1 → WTermP f') : WTermP f := by
 intro t so c b l w0 w hsl hok hform hb0 hwt hlen
 have hfa : locB t = true ∧ t.items.all (formF f) = true := by unfold formF at hform; rwa [Bool.and_eq_true] at hform
 have hokK : okK t = true := by have := hfa.1; unfold locB at this; rw [Bool.and_eq_true] at this; exact this.1
 have hhl := (headE_len hokK).1
 have HT : Hid (l ++ codeE (f + 1) t = (l ++ headE t) ++ (t.items.drop 0).flatMap (codeE f)) := Lib.hid (by rw [List.append_assoc]; rfl)
 have HTL : Hid ((l ++ codeE (f + 1) t).length ≤ 17592186044416) := Lib.hid (by rw [List.length_append]; exact hlen)
 have hll : l.length ≤ 17592186044416 := by omega
 obtain ⟨ok0, ok1, ok2, ok3, ok4, ok5, ok6, ok7, ok8⟩ := hok
 unfold maxLen at ok3 ok4 ok6 ok7
 unfold WtQ
 have HREC : Hid (∀ (k : Nat) (wr : World) (hlt : k < t.items.length), Below w0.heap.size w0 wr → ∃ b2 off ai ci, so = some ⟨b2, off, none⟩ ∧ b2 < wr.heap.size ∧ wr.cell? ⟨b2, off + k * 9, none⟩ = some (.int .i64 t.items[k].kind) ∧wr.cell? ⟨b2, off + k * 9 + 1, none⟩ = some (.int .i64 t.items[k].int) ∧wr.cell? ⟨b2, off + k * 9 + 2, none⟩ = some (.int .i64 t.items[k].gen) ∧wr.cell? ⟨b2, off + k * 9 + 3, none⟩ = some (.string t.items[k].name) ∧wr.cell? ⟨b2, off + k * 9 + 4, none⟩ = some (.string t.items[k].func) ∧wr.cell? ⟨b2, off + k * 9 + 5, none⟩ = some (.int .i64 t.items[k].arity) ∧wr.cell? ⟨b2, off + k * 9 + 6, none⟩ = some (.slice ai t.items[k].items.length ci) ∧wr.cell? ⟨b2, off + k * 9 + 7, none⟩ = some (.string t.items[k].bytes) ∧wr.cell? ⟨b2, off + k * 9 + 8, none⟩ = some (.int .i64 t.items[k].bits) ∧ (∀ (l' : List UInt8) (wy : World), Below w0.heap.size w0 wy → WtAt w0.heap.size b l' wy → l'.length + (codeE f t.items[k]).length ≤ 17592186044416 → Calls Tryz.prog 96 #[.pointer (some ⟨b, 0, none⟩), .agg #[.int .i64 t.items[k].kind, .int .i64 t.items[k].int, .int .i64 t.items[k].gen, .string t.items[k].name, .string t.items[k].func, .int .i64 t.items[k].arity, .slice ai t.items[k].items.length ci, .string t.items[k].bytes, .int .i64 t.items[k].bits]] wy (WtQ w0.heap.size b (l' ++ codeE f t.items[k]) wy))) := Lib.hid (fun k wr hlt hb => by
  cases f with
  | zero => rw [hsl.zero] at hlt; exact absurd hlt (Nat.not_lt_zero _)
  | succ f =>
   obtain ⟨b2, off, ai, ci, hao, hb2, q0, q1, q2, q3, q4, q5, q6, q7, q8, hit, hok2⟩ := hsl.tm hlt
   have hc := fun i => hb.cell (p := ⟨b2, off + k * 9 + i, none⟩) hb2
   exact ⟨b2, off, ai, ci, hao, Nat.lt_of_lt_of_le hb2 hb.size, (hc 0).trans q0, (hc 1).trans q1, (hc 2).trans q2, (hc 3).trans q3, (hc 4).trans q4, (hc 5).trans q5, (hc 6).trans q6, (hc 7).trans q7, (hc 8).trans q8, fun l' wy h1 h2 h3 => IH f rfl _ ai ci b l' w0 wy hit hok2 (List.all_eq_true.1 hfa.2 _ (List.getElem_mem hlt)) h1 h2 h3⟩)
 have hbx := tbox_new w t so c
 have hba : Below w.heap.size w (w.alloc (.cells #[.int .i64 t.kind, .int .i64 t.int, .int .i64 t.gen, .string t.name, .string t.func, .int .i64 t.arity, .slice so t.items.length c, .string t.bytes, .int .i64 t.bits] 78)) := (Below.refl _ _).alloc (Nat.le_refl _) _
 have HS : Hid (Wst w0.heap.size b w.heap.size t so c w l (w.alloc (.cells #[.int .i64 t.kind, .int .i64 t.int, .int .i64 t.gen, .string t.name, .string t.func, .int .i64 t.arity, .slice so t.items.length c, .string t.bytes, .int .i64 t.bits] 78))) := Lib.hid ⟨hwt.below hba, hbx, hba.mono hwt.2.1, (StaysE.refl _).below hba⟩
 have HB0 := Lib.hid hb0
 clear hsl hform hb0 hwt hlen hbx hba hfa IH
 generalize l ++ codeE (f + 1) t = T at *
 go_enter Tryz.func96, Tryz.ntmps96
 go_upto_region 1 with fail
 generalize w.alloc (.cells #[.int .i64 t.kind, .int .i64 t.int, .int .i64 t.gen, .string t.name, .string t.func, .int .i64 t.arity, .slice so t.items.length c, .string t.bytes, .int .i64 t.bits] 78) = W at *
 generalize w.heap.size = X at *
 obtain ⟨c0, c1, c2, c3, c4, c5, c6, c7, c8, cz⟩ := term_cells HS.out.box
 have hlx := lt_of_row HS.out.box
 clear cz
 go_upto_block 0 with fail
 go_cut [6] (fun s wx => Hid (Wst w0.heap.size b X t so c w (l ++ headE t) wx))
 case first =>
  clear HREC HT HTL HB0
  by_cases hk : t.kind = 1
  ·have hn := hokK
   clear hokK
   have HE : Hid (headE t = intE t.int) := Lib.hid (by unfold headE; simp [hk])
   have t1 : (t.kind == 1) = true := by rw [beq_iff_eq]; exact hk
   clear hk
   go_wp2_with fail
   refine (winteger_wt _ b _ t.int _ HS.out.at' ok1 (by first | omega | (simp [beN_len, atomE_len]; done) | (simp [beN_len, atomE_len]; omega))).mono ?_
   rintro e w10 ⟨rfl, g1, g2, g3⟩
   have HS := Lib.hid (HS.out.next g1 g2 g3)
   clear g1 g2 g3 c0 c1 c2 c3 c4 c5 c6 c7 c8 hlx
   go_wp2_with fail
   go_meet
   case rel =>
    have HQ := HS.out
    try simp only [List.append_assoc] at HQ
    rw [HE.out]
    exact Lib.hid HQ
  by_cases hk : t.kind = 2
  ·have hn : nameB t.name = true := by unfold okK at hokK; simpa [hk] using hokK
   have := nameB_max hn
   have HE : Hid (headE t = atomE t.name) := Lib.hid (by unfold headE; simp [hk])
   have t1 : (t.kind == 1) = false := by rw [beq_eq_false_iff_ne]; omega
   have t2 : (t.kind == 2) = true := by rw [beq_iff_eq]; exact hk
   clear hk
   go_wp2_with fail
   refine (watom_wt _ b _ t.name _ HS.out.at' (nameB_max hn) (by first | omega | (simp [beN_len, atomE_len]; done) | (simp [beN_len, atomE_len]; omega))).mono ?_
   rintro e w10 ⟨rfl, g1, g2, g3⟩
   have HS := Lib.hid (HS.out.next g1 g2 g3)
   clear g1 g2 g3 c0 c1 c2 c3 c4 c5 c6 c7 c8 hlx
   go_wp2_with fail
   go_meet
   case rel =>
    have HQ := HS.out
    try simp only [List.append_assoc] at HQ
    rw [HE.out]
    exact Lib.hid HQ
  by_cases hk : t.kind = 7
  ·have hn : t.items.length ≤ 255 := by unfold okK at hokK; simpa [hk] using hokK
   have HE : Hid (headE t = [104, UInt8.ofNat t.items.length]) := Lib.hid (by unfold headE; simp [hk])
   have t1 : (t.kind == 1) = false := by rw [beq_eq_false_iff_ne]; omega
   have t2 : (t.kind == 2) = false := by rw [beq_eq_false_iff_ne]; omega
   have t7 : (t.kind == 7) = true := by rw [beq_iff_eq]; exact hk
   clear hk
   go_wp2_with fail
   refine (wlit2 _ b _ 104 (t.items.length : Int) 5 _ HS.out.at' (by omega) (by omega) (by first | omega | (simp [beN_len, atomE_len]; done) | (simp [beN_len, atomE_len]; omega))).mono ?_
   rintro e w10 ⟨rfl, g1, g2, g3⟩
   have HS := Lib.hid (HS.out.next g1 g2 g3)
   clear g1 g2 g3 c0 c1 c2 c3 c4 c5 c6 c7 c8 hlx
   go_wp2_with fail
   go_meet
   case rel =>
    have HQ := HS.out
    try simp only [List.append_assoc] at HQ
    rw [HE.out]
    exact Lib.hid HQ
  by_cases hk : t.kind = 8
  ·have hn := hokK
   have HE : Hid (headE t = [106]) := Lib.hid (by unfold headE; simp [hk])
   have t1 : (t.kind == 1) = false := by rw [beq_eq_false_iff_ne]; omega
   have t2 : (t.kind == 2) = false := by rw [beq_eq_false_iff_ne]; omega
   have t7 : (t.kind == 7) = false := by rw [beq_eq_false_iff_ne]; omega
   have t8 : (t.kind == 8) = true := by rw [beq_iff_eq]; exact hk
   clear hk
   go_wp2_with fail
   refine (wlit1 _ b _ 106 5 _ HS.out.at' (by omega) (by first | omega | (simp [beN_len, atomE_len]; done) | (simp [beN_len, atomE_len]; omega))).mono ?_
   rintro e w10 ⟨rfl, g1, g2, g3⟩
   have HS := Lib.hid (HS.out.next g1 g2 g3)
   clear g1 g2 g3 c0 c1 c2 c3 c4 c5 c6 c7 c8 hlx
   go_wp2_with fail
   go_meet
   case rel =>
    have HQ := HS.out
    try simp only [List.append_assoc] at HQ
    rw [HE.out]
    exact Lib.hid HQ
  by_cases hk : t.kind = 9
  ·have hn : 2 ≤ t.items.length := by unfold okK at hokK; simp [hk] at hokK; exact hokK.1
   have hw1 : IntKind.i64.wrap ((t.items.length : Int) - 1) = (t.items.length : Int) - 1 := by rw [IntKind.wrap_i64]; omega
   have HE : Hid (headE t = 108 :: beN 4 ((t.items.length : Int) - 1)) := Lib.hid (by unfold headE; simp [hk])
   have t1 : (t.kind == 1) = false := by rw [beq_eq_false_iff_ne]; omega
   have t2 : (t.kind == 2) = false := by rw [beq_eq_false_iff_ne]; omega
   have t7 : (t.kind == 7) = false := by rw [beq_eq_false_iff_ne]; omega
   have t8 : (t.kind == 8) = false := by rw [beq_eq_false_iff_ne]; omega
   have t9 : (t.kind == 9) = true := by rw [beq_iff_eq]; exact hk
   clear hk
   go_wp2_with fail
   refine (wlit1 _ b _ 108 5 _ HS.out.at' (by omega) (by first | omega | (simp [beN_len, atomE_len]; done) | (simp [beN_len, atomE_len]; omega))).mono ?_
   rintro e w10 ⟨rfl, g1, g2, g3⟩
   have HS := Lib.hid (HS.out.next g1 g2 g3)
   clear g1 g2 g3 c0 c1 c2 c3 c4 c5 c6 c7 c8 hlx
   obtain ⟨c0, c1, c2, c3, c4, c5, c6, c7, c8, cz⟩ := term_cells HS.out.box
   have hlx := lt_of_row HS.out.box
   clear cz
   go_wp2_with fail
   refine (wnumber_wt _ b _ ((t.items.length : Int) - 1) 4 _ HS.out.at' (by unfold I64; omega) (by omega) (by first | omega | (simp [beN_len, atomE_len]; done) | (simp [beN_len, atomE_len]; omega))).mono ?_
   rintro e w11 ⟨rfl, g1, g2, g3⟩
   have HS := Lib.hid (HS.out.next g1 g2 g3)
   clear g1 g2 g3 c0 c1 c2 c3 c4 c5 c6 c7 c8 hlx
   go_wp2_with fail
   go_meet
   case rel =>
    have HQ := HS.out
    try simp only [List.append_assoc] at HQ
    rw [HE.out]
    exact Lib.hid HQ
  by_cases hk : t.kind = 10
  ·have hn : bitsV t.bytes t.bits = true := by unfold okK at hokK; simp [hk] at hokK; exact hokK
   obtain ⟨hb0, hb1, hb2⟩ := bitsV_len hn
   have hy : t.bytes.size ≤ 3000 := by omega
   clear hb2 hn hokK
   by_cases hr : t.bits % 8 = 0
   ·have hrb : (t.bits % 8 == 0) = true := by rw [beq_iff_eq]; exact hr
    have HE : Hid (headE t = 109 :: (beN 4 t.bytes.size ++ t.bytes.data.toList)) := Lib.hid (by unfold headE; simp [hk, hr])
    have t1 : (t.kind == 1) = false := by rw [beq_eq_false_iff_ne]; omega
    have t2 : (t.kind == 2) = false := by rw [beq_eq_false_iff_ne]; omega
    have t7 : (t.kind == 7) = false := by rw [beq_eq_false_iff_ne]; omega
    have t8 : (t.kind == 8) = false := by rw [beq_eq_false_iff_ne]; omega
    have t9 : (t.kind == 9) = false := by rw [beq_eq_false_iff_ne]; omega
    have t10 : (t.kind == 10) = true := by rw [beq_iff_eq]; exact hk
    clear hk
    go_wp2_with fail
    refine (wlit1 _ b _ 109 5 _ HS.out.at' (by omega) (by first | omega | (simp [beN_len, atomE_len]; done) | (simp [beN_len, atomE_len]; omega))).mono ?_
    rintro e w10 ⟨rfl, g1, g2, g3⟩
    have HS := Lib.hid (HS.out.next g1 g2 g3)
    clear g1 g2 g3 c0 c1 c2 c3 c4 c5 c6 c7 c8 hlx
    obtain ⟨c0, c1, c2, c3, c4, c5, c6, c7, c8, cz⟩ := term_cells HS.out.box
    have hlx := lt_of_row HS.out.box
    clear cz
    go_wp2_with fail
    refine (wnumber_wt _ b _ (t.bytes.size : Int) 4 _ HS.out.at' (by unfold I64; omega) (by omega) (by first | omega | (simp [beN_len, atomE_len]; done) | (simp [beN_len, atomE_len]; omega))).mono ?_
    rintro e w11 ⟨rfl, g1, g2, g3⟩
    have HS := Lib.hid (HS.out.next g1 g2 g3)
    clear g1 g2 g3 c0 c1 c2 c3 c4 c5 c6 c7 c8 hlx
    obtain ⟨c0, c1, c2, c3, c4, c5, c6, c7, c8, cz⟩ := term_cells HS.out.box
    have hlx := lt_of_row HS.out.box
    clear cz
    go_wp2_with fail
    first | go_region_held3 (fun w' => w'.cell? ⟨X, 7, none⟩ = some (.string t.bytes)) (first | exact c79 | exact c7)
     ((go_at_call 116; refine (writeS_wt _ b _ t.bytes _ (HS.out.at'.below (Below.refl _ _).drew) (by first | omega | (simp [beN_len]; omega))).mono ?_; rintro e w9 ⟨rfl, g1, g2, g3⟩; have HS9 := Lib.hid ((HS.out.below (Below.refl _ _).drew).next g1 g2 g3); have c79 := (term_cells HS9.out.box).2.2.2.2.2.2.2.1)) | fail
    clear g1 g2 g3 c0 c1 c2 c3 c4 c5 c6 c7 c8 hlx c79
    go_wp2_with fail
    go_meet
    case rel =>
     have HQ := HS9.out
     try simp only [List.append_assoc] at HQ
     rw [HE.out]
     exact Lib.hid HQ
   ·have hrb : (t.bits % 8 == 0) = false := beq_eq_false_iff_ne.2 hr
    have HE : Hid (headE t = 77 :: (beN 4 t.bytes.size ++ (UInt8.ofNat (t.bits % 8).toNat :: t.bytes.data.toList))) := Lib.hid (by unfold headE; simp [hk, hr])
    have t1 : (t.kind == 1) = false := by rw [beq_eq_false_iff_ne]; omega
    have t2 : (t.kind == 2) = false := by rw [beq_eq_false_iff_ne]; omega
    have t7 : (t.kind == 7) = false := by rw [beq_eq_false_iff_ne]; omega
    have t8 : (t.kind == 8) = false := by rw [beq_eq_false_iff_ne]; omega
    have t9 : (t.kind == 9) = false := by rw [beq_eq_false_iff_ne]; omega
    have t10 : (t.kind == 10) = true := by rw [beq_iff_eq]; exact hk
    clear hk
    go_wp2_with fail
    refine (wlit1 _ b _ 77 5 _ HS.out.at' (by omega) (by first | omega | (simp [beN_len, atomE_len]; done) | (simp [beN_len, atomE_len]; omega))).mono ?_
    rintro e w10 ⟨rfl, g1, g2, g3⟩
    have HS := Lib.hid (HS.out.next g1 g2 g3)
    clear g1 g2 g3 c0 c1 c2 c3 c4 c5 c6 c7 c8 hlx
    obtain ⟨c0, c1, c2, c3, c4, c5, c6, c7, c8, cz⟩ := term_cells HS.out.box
    have hlx := lt_of_row HS.out.box
    clear cz
    go_wp2_with fail
    refine (wnumber_wt _ b _ (t.bytes.size : Int) 4 _ HS.out.at' (by unfold I64; omega) (by omega) (by first | omega | (simp [beN_len, atomE_len]; done) | (simp [beN_len, atomE_len]; omega))).mono ?_
    rintro e w11 ⟨rfl, g1, g2, g3⟩
    have HS := Lib.hid (HS.out.next g1 g2 g3)
    clear g1 g2 g3 c0 c1 c2 c3 c4 c5 c6 c7 c8 hlx
    obtain ⟨c0, c1, c2, c3, c4, c5, c6, c7, c8, cz⟩ := term_cells HS.out.box
    have hlx := lt_of_row HS.out.box
    clear cz
    go_wp2_with fail
    refine (wlit1 _ b _ (t.bits % 8) 5 _ HS.out.at' (by omega) (by first | omega | (simp [beN_len, atomE_len]; done) | (simp [beN_len, atomE_len]; omega))).mono ?_
    rintro e w12 ⟨rfl, g1, g2, g3⟩
    have HS := Lib.hid (HS.out.next g1 g2 g3)
    clear g1 g2 g3 c0 c1 c2 c3 c4 c5 c6 c7 c8 hlx
    obtain ⟨c0, c1, c2, c3, c4, c5, c6, c7, c8, cz⟩ := term_cells HS.out.box
    have hlx := lt_of_row HS.out.box
    clear cz
    go_wp2_with fail
    first | go_region_held3 (fun w' => w'.cell? ⟨X, 7, none⟩ = some (.string t.bytes)) (first | exact c79 | exact c7)
     ((go_at_call 116; refine (writeS_wt _ b _ t.bytes _ (HS.out.at'.below (Below.refl _ _).drew) (by first | omega | (simp [beN_len]; omega))).mono ?_; rintro e w9 ⟨rfl, g1, g2, g3⟩; have HS9 := Lib.hid ((HS.out.below (Below.refl _ _).drew).next g1 g2 g3); have c79 := (term_cells HS9.out.box).2.2.2.2.2.2.2.1)) | fail
    clear g1 g2 g3 c0 c1 c2 c3 c4 c5 c6 c7 c8 hlx c79
    go_wp2_with fail
    go_meet
    case rel =>
     have HQ := HS9.out
     try simp only [List.append_assoc] at HQ
     rw [HE.out]
     exact Lib.hid HQ
  by_cases hk : t.kind = 6
  ·have hn : nameB t.name = true := by unfold okK at hokK; simp [hk] at hokK; exact hokK.2
   have := nameB_max hn
   have HE : Hid (headE t = 88 :: (atomE t.name ++ (beN 4 t.int ++ (beN 4 0 ++ beN 4 t.gen)))) := Lib.hid (by unfold headE; simp [hk])
   have t1 : (t.kind == 1) = false := by rw [beq_eq_false_iff_ne]; omega
   have t2 : (t.kind == 2) = false := by rw [beq_eq_false_iff_ne]; omega
   have t7 : (t.kind == 7) = false := by rw [beq_eq_false_iff_ne]; omega
   have t8 : (t.kind == 8) = false := by rw [beq_eq_false_iff_ne]; omega
   have t9 : (t.kind == 9) = false := by rw [beq_eq_false_iff_ne]; omega
   have t10 : (t.kind == 10) = false := by rw [beq_eq_false_iff_ne]; omega
   have t6 : (t.kind == 6) = true := by rw [beq_iff_eq]; exact hk
   clear hk
   go_wp2_with fail
   refine (wlit1 _ b _ 88 5 _ HS.out.at' (by omega) (by first | omega | (simp [beN_len, atomE_len]; done) | (simp [beN_len, atomE_len]; omega))).mono ?_
   rintro e w10 ⟨rfl, g1, g2, g3⟩
   have HS := Lib.hid (HS.out.next g1 g2 g3)
   clear g1 g2 g3 c0 c1 c2 c3 c4 c5 c6 c7 c8 hlx
   obtain ⟨c0, c1, c2, c3, c4, c5, c6, c7, c8, cz⟩ := term_cells HS.out.box
   have hlx := lt_of_row HS.out.box
   clear cz
   go_wp2_with fail
   refine (watom_wt _ b _ t.name _ HS.out.at' (nameB_max hn) (by first | omega | (simp [beN_len, atomE_len]; done) | (simp [beN_len, atomE_len]; omega))).mono ?_
   rintro e w11 ⟨rfl, g1, g2, g3⟩
   have HS := Lib.hid (HS.out.next g1 g2 g3)
   clear g1 g2 g3 c0 c1 c2 c3 c4 c5 c6 c7 c8 hlx
   obtain ⟨c0, c1, c2, c3, c4, c5, c6, c7, c8, cz⟩ := term_cells HS.out.box
   have hlx := lt_of_row HS.out.box
   clear cz
   go_wp2_with fail
   refine (wnumber_wt _ b _ t.int 4 _ HS.out.at' ok1 (by omega) (by first | omega | (simp [beN_len, atomE_len]; done) | (simp [beN_len, atomE_len]; omega))).mono ?_
   rintro e w12 ⟨rfl, g1, g2, g3⟩
   have HS := Lib.hid (HS.out.next g1 g2 g3)
   clear g1 g2 g3 c0 c1 c2 c3 c4 c5 c6 c7 c8 hlx
   obtain ⟨c0, c1, c2, c3, c4, c5, c6, c7, c8, cz⟩ := term_cells HS.out.box
   have hlx := lt_of_row HS.out.box
   clear cz
   go_wp2_with fail
   refine (wnumber_wt _ b _ 0 4 _ HS.out.at' (by unfold I64; omega) (by omega) (by first | omega | (simp [beN_len, atomE_len]; done) | (simp [beN_len, atomE_len]; omega))).mono ?_
   rintro e w13 ⟨rfl, g1, g2, g3⟩
   have HS := Lib.hid (HS.out.next g1 g2 g3)
   clear g1 g2 g3 c0 c1 c2 c3 c4 c5 c6 c7 c8 hlx
   obtain ⟨c0, c1, c2, c3, c4, c5, c6, c7, c8, cz⟩ := term_cells HS.out.box
   have hlx := lt_of_row HS.out.box
   clear cz
   go_wp2_with fail
   refine (wnumber_wt _ b _ t.gen 4 _ HS.out.at' ok2 (by omega) (by first | omega | (simp [beN_len, atomE_len]; done) | (simp [beN_len, atomE_len]; omega))).mono ?_
   rintro e w14 ⟨rfl, g1, g2, g3⟩
   have HS := Lib.hid (HS.out.next g1 g2 g3)
   clear g1 g2 g3 c0 c1 c2 c3 c4 c5 c6 c7 c8 hlx
   go_wp2_with fail
   go_meet
   case rel =>
    have HQ := HS.out
    try simp only [List.append_assoc] at HQ
    rw [HE.out]
    exact Lib.hid HQ
  by_cases hk : t.kind = 3
  ·have hn : nameB t.name = true := by unfold okK at hokK; simp [hk] at hokK; exact hokK.2
   have := nameB_max hn
   have HE : Hid (headE t = 90 :: 0 :: 1 :: (atomE t.name ++ (beN 4 t.gen ++ beN 4 t.int))) := Lib.hid (by unfold headE; simp [hk])
   have t1 : (t.kind == 1) = false := by rw [beq_eq_false_iff_ne]; omega
   have t2 : (t.kind == 2) = false := by rw [beq_eq_false_iff_ne]; omega
   have t7 : (t.kind == 7) = false := by rw [beq_eq_false_iff_ne]; omega
   have t8 : (t.kind == 8) = false := by rw [beq_eq_false_iff_ne]; omega
   have t9 : (t.kind == 9) = false := by rw [beq_eq_false_iff_ne]; omega
   have t10 : (t.kind == 10) = false := by rw [beq_eq_false_iff_ne]; omega
   have t6 : (t.kind == 6) = false := by rw [beq_eq_false_iff_ne]; omega
   have t3 : (t.kind == 3) = true := by rw [beq_iff_eq]; exact hk
   clear hk
   go_wp2_with fail
   refine (wlit3 _ b _ 90 0 1 5 _ HS.out.at' (by omega) (by omega) (by omega) (by first | omega | (simp [beN_len, atomE_len]; done) | (simp [beN_len, atomE_len]; omega))).mono ?_
   rintro e w10 ⟨rfl, g1, g2, g3⟩
   have HS := Lib.hid (HS.out.next g1 g2 g3)
   clear g1 g2 g3 c0 c1 c2 c3 c4 c5 c6 c7 c8 hlx
   obtain ⟨c0, c1, c2, c3, c4, c5, c6, c7, c8, cz⟩ := term_cells HS.out.box
   have hlx := lt_of_row HS.out.box
   clear cz
   go_wp2_with fail
   refine (watom_wt _ b _ t.name _ HS.out.at' (nameB_max hn) (by first | omega | (simp [beN_len, atomE_len]; done) | (simp [beN_len, atomE_len]; omega))).mono ?_
   rintro e w11 ⟨rfl, g1, g2, g3⟩
   have HS := Lib.hid (HS.out.next g1 g2 g3)
   clear g1 g2 g3 c0 c1 c2 c3 c4 c5 c6 c7 c8 hlx
   obtain ⟨c0, c1, c2, c3, c4, c5, c6, c7, c8, cz⟩ := term_cells HS.out.box
   have hlx := lt_of_row HS.out.box
   clear cz
   go_wp2_with fail
   refine (wnumber_wt _ b _ t.gen 4 _ HS.out.at' ok2 (by omega) (by first | omega | (simp [beN_len, atomE_len]; done) | (simp [beN_len, atomE_len]; omega))).mono ?_
   rintro e w12 ⟨rfl, g1, g2, g3⟩
   have HS := Lib.hid (HS.out.next g1 g2 g3)
   clear g1 g2 g3 c0 c1 c2 c3 c4 c5 c6 c7 c8 hlx
   obtain ⟨c0, c1, c2, c3, c4, c5, c6, c7, c8, cz⟩ := term_cells HS.out.box
   have hlx := lt_of_row HS.out.box
   clear cz
   go_wp2_with fail
   refine (wnumber_wt _ b _ t.int 4 _ HS.out.at' ok1 (by omega) (by first | omega | (simp [beN_len, atomE_len]; done) | (simp [beN_len, atomE_len]; omega))).mono ?_
   rintro e w13 ⟨rfl, g1, g2, g3⟩
   have HS := Lib.hid (HS.out.next g1 g2 g3)
   clear g1 g2 g3 c0 c1 c2 c3 c4 c5 c6 c7 c8 hlx
   go_wp2_with fail
   go_meet
   case rel =>
    have HQ := HS.out
    try simp only [List.append_assoc] at HQ
    rw [HE.out]
    exact Lib.hid HQ
  by_cases hk : t.kind = 5
  ·have hn : nameB t.name = true ∧ nameB t.func = true := by unfold okK at hokK; simp [hk] at hokK; exact hokK.1
   have := nameB_max hn.1; have := nameB_max hn.2
   have HE : Hid (headE t = 113 :: (atomE t.name ++ (atomE t.func ++ intE t.arity))) := Lib.hid (by unfold headE; simp [hk])
   have t1 : (t.kind == 1) = false := by rw [beq_eq_false_iff_ne]; omega
   have t2 : (t.kind == 2) = false := by rw [beq_eq_false_iff_ne]; omega
   have t7 : (t.kind == 7) = false := by rw [beq_eq_false_iff_ne]; omega
   have t8 : (t.kind == 8) = false := by rw [beq_eq_false_iff_ne]; omega
   have t9 : (t.kind == 9) = false := by rw [beq_eq_false_iff_ne]; omega
   have t10 : (t.kind == 10) = false := by rw [beq_eq_false_iff_ne]; omega
   have t6 : (t.kind == 6) = false := by rw [beq_eq_false_iff_ne]; omega
   have t3 : (t.kind == 3) = false := by rw [beq_eq_false_iff_ne]; omega
   have t5 : (t.kind == 5) = true := by rw [beq_iff_eq]; exact hk
   clear hk
   go_wp2_with fail
   refine (wlit1 _ b _ 113 5 _ HS.out.at' (by omega) (by first | omega | (simp [beN_len, atomE_len]; done) | (simp [beN_len, atomE_len]; omega))).mono ?_
   rintro e w10 ⟨rfl, g1, g2, g3⟩
   have HS := Lib.hid (HS.out.next g1 g2 g3)
   clear g1 g2 g3 c0 c1 c2 c3 c4 c5 c6 c7 c8 hlx
   obtain ⟨c0, c1, c2, c3, c4, c5, c6, c7, c8, cz⟩ := term_cells HS.out.box
   have hlx := lt_of_row HS.out.box
   clear cz
   go_wp2_with fail
   refine (watom_wt _ b _ t.name _ HS.out.at' (nameB_max hn.1) (by first | omega | (simp [beN_len, atomE_len]; done) | (simp [beN_len, atomE_len]; omega))).mono ?_
   rintro e w11 ⟨rfl, g1, g2, g3⟩
   have HS := Lib.hid (HS.out.next g1 g2 g3)
   clear g1 g2 g3 c0 c1 c2 c3 c4 c5 c6 c7 c8 hlx
   obtain ⟨c0, c1, c2, c3, c4, c5, c6, c7, c8, cz⟩ := term_cells HS.out.box
   have hlx := lt_of_row HS.out.box
   clear cz
   go_wp2_with fail
   refine (watom_wt _ b _ t.func _ HS.out.at' (nameB_max hn.2) (by first | omega | (simp [beN_len, atomE_len]; done) | (simp [beN_len, atomE_len]; omega))).mono ?_
   rintro e w12 ⟨rfl, g1, g2, g3⟩
   have HS := Lib.hid (HS.out.next g1 g2 g3)
   clear g1 g2 g3 c0 c1 c2 c3 c4 c5 c6 c7 c8 hlx
   obtain ⟨c0, c1, c2, c3, c4, c5, c6, c7, c8, cz⟩ := term_cells HS.out.box
   have hlx := lt_of_row HS.out.box
   clear cz
   go_wp2_with fail
   refine (winteger_wt _ b _ t.arity _ HS.out.at' ok5 (by first | omega | (simp [beN_len, atomE_len]; done) | (simp [beN_len, atomE_len]; omega))).mono ?_
   rintro e w13 ⟨rfl, g1, g2, g3⟩
   have HS := Lib.hid (HS.out.next g1 g2 g3)
   clear g1 g2 g3 c0 c1 c2 c3 c4 c5 c6 c7 c8 hlx
   go_wp2_with fail
   go_meet
   case rel =>
    have HQ := HS.out
    try simp only [List.append_assoc] at HQ
    rw [HE.out]
    exact Lib.hid HQ
  by_cases hk : t.kind = 4
  ·have hn : wi t.arity 0 16 = true ∧ nameB t.name = true ∧ t.items.length ≤ 200 := by unfold okK at hokK; simp [hk] at hokK; exact ⟨hokK.1.2, hokK.1.1.2, hokK.2⟩
   have := nameB_max hn.2.1
   have ha := wi_of hn.1
   obtain ⟨ha1, ha2⟩ := ha
   have hi2 := hn.2.2
   have HE : Hid (headE t = 112 :: UInt8.ofNat t.arity.toNat :: (beN 2 t.int ++ (UInt8.ofNat t.items.length :: (atomE t.name ++ beN 4 t.gen)))) := Lib.hid (by unfold headE; simp [hk])
   have t1 : (t.kind == 1) = false := by rw [beq_eq_false_iff_ne]; omega
   have t2 : (t.kind == 2) = false := by rw [beq_eq_false_iff_ne]; omega
   have t7 : (t.kind == 7) = false := by rw [beq_eq_false_iff_ne]; omega
   have t8 : (t.kind == 8) = false := by rw [beq_eq_false_iff_ne]; omega
   have t9 : (t.kind == 9) = false := by rw [beq_eq_false_iff_ne]; omega
   have t10 : (t.kind == 10) = false := by rw [beq_eq_false_iff_ne]; omega
   have t6 : (t.kind == 6) = false := by rw [beq_eq_false_iff_ne]; omega
   have t3 : (t.kind == 3) = false := by rw [beq_eq_false_iff_ne]; omega
   have t5 : (t.kind == 5) = false := by rw [beq_eq_false_iff_ne]; omega
   have t4 : (t.kind == 4) = true := by rw [beq_iff_eq]; exact hk
   clear hk
   go_wp2_with fail
   refine (wlit2 _ b _ 112 t.arity 5 _ HS.out.at' (by omega) (by omega) (by first | omega | (simp [beN_len, atomE_len]; done) | (simp [beN_len, atomE_len]; omega))).mono ?_
   rintro e w10 ⟨rfl, g1, g2, g3⟩
   have HS := Lib.hid (HS.out.next g1 g2 g3)
   clear g1 g2 g3 c0 c1 c2 c3 c4 c5 c6 c7 c8 hlx
   obtain ⟨c0, c1, c2, c3, c4, c5, c6, c7, c8, cz⟩ := term_cells HS.out.box
   have hlx := lt_of_row HS.out.box
   clear cz
   go_wp2_with fail
   refine (wnumber_wt _ b _ t.int 2 _ HS.out.at' ok1 (by omega) (by first | omega | (simp [beN_len, atomE_len]; done) | (simp [beN_len, atomE_len]; omega))).mono ?_
   rintro e w11 ⟨rfl, g1, g2, g3⟩
   have HS := Lib.hid (HS.out.next g1 g2 g3)
   clear g1 g2 g3 c0 c1 c2 c3 c4 c5 c6 c7 c8 hlx
   obtain ⟨c0, c1, c2, c3, c4, c5, c6, c7, c8, cz⟩ := term_cells HS.out.box
   have hlx := lt_of_row HS.out.box
   clear cz
   go_wp2_with fail
   refine (wlit1 _ b _ (t.items.length : Int) 5 _ HS.out.at' (by omega) (by first | omega | (simp [beN_len, atomE_len]; done) | (simp [beN_len, atomE_len]; omega))).mono ?_
   rintro e w12 ⟨rfl, g1, g2, g3⟩
   have HS := Lib.hid (HS.out.next g1 g2 g3)
   clear g1 g2 g3 c0 c1 c2 c3 c4 c5 c6 c7 c8 hlx
   obtain ⟨c0, c1, c2, c3, c4, c5, c6, c7, c8, cz⟩ := term_cells HS.out.box
   have hlx := lt_of_row HS.out.box
   clear cz
   go_wp2_with fail
   refine (watom_wt _ b _ t.name _ HS.out.at' (nameB_max hn.2.1) (by first | omega | (simp [beN_len, atomE_len]; done) | (simp [beN_len, atomE_len]; omega))).mono ?_
   rintro e w13 ⟨rfl, g1, g2, g3⟩
   have HS := Lib.hid (HS.out.next g1 g2 g3)
   clear g1 g2 g3 c0 c1 c2 c3 c4 c5 c6 c7 c8 hlx
   obtain ⟨c0, c1, c2, c3, c4, c5, c6, c7, c8, cz⟩ := term_cells HS.out.box
   have hlx := lt_of_row HS.out.box
   clear cz
   go_wp2_with fail
   refine (wnumber_wt _ b _ t.gen 4 _ HS.out.at' ok2 (by omega) (by first | omega | (simp [beN_len, atomE_len]; done) | (simp [beN_len, atomE_len]; omega))).mono ?_
   rintro e w14 ⟨rfl, g1, g2, g3⟩
   have HS := Lib.hid (HS.out.next g1 g2 g3)
   clear g1 g2 g3 c0 c1 c2 c3 c4 c5 c6 c7 c8 hlx
   go_wp2_with fail
   go_meet
   case rel =>
    have HQ := HS.out
    try simp only [List.append_assoc] at HQ
    rw [HE.out]
    exact Lib.hid HQ
  exact absurd hokK (by rw [okK_none (by omega)]; decide)
 case rest =>
  rename_i wx
  have HS := hcut
  clear hcut
  clear c0 c1 c2 c3 c4 c5 c6 c7 c8 hlx
  obtain ⟨c0, c1, c2, c3, c4, c5, c6, c7, c8, cz⟩ := term_cells HS.out.box
  have hlx := lt_of_row HS.out.box
  clear cz hokK hhl
  go_wp2_with fail
  go_loopw [5, 163] (fun _ iv wr => ∃ (k : Nat) (l' : List UInt8), k ≤ t.items.length ∧ iv = .int .i64 k ∧ Hid (T = l' ++ (t.items.drop k).flatMap (codeE f)) ∧ Hid (Wst w0.heap.size b X t so c w l' wr)) (fun _ iv _ => t.items.length - (intOf iv).toNat)
  case atStart => exact ⟨0, _, Nat.zero_le _, rfl, HT, HS⟩
  case round =>
   obtain ⟨k, l', hk, rfl, HV, HW⟩ := hrel
   rename World => wr
   by_cases hlt : k < t.items.length
   ·obtain ⟨b2, off, ai, ci, hao, hb2, q0, q1, q2, q3, q4, q5, q6, q7, q8, hcall⟩ := HREC.out k wr hlt (HB0.out.trans (HW.out.bel.mono (Nat.le_refl _)))
    subst hao
    have HV2 : Hid (T = (l' ++ codeE f t.items[k]) ++ (t.items.drop (k + 1)).flatMap (codeE f)) := Lib.hid (by rw [HV.out, List.drop_eq_getElem_cons hlt, List.flatMap_cons, List.append_assoc])
    have hlen2 : l'.length + (codeE f t.items[k]).length ≤ 17592186044416 := by
     have h1 := HTL.out
     rw [HV2.out, List.length_append, List.length_append] at h1
     omega
    have hbw : Below wr.heap.size wr (wr.alloc (.cells #[.int .i64 t.items[k].kind, .int .i64 t.items[k].int, .int .i64 t.items[k].gen, .string t.items[k].name, .string t.items[k].func, .int .i64 t.items[k].arity, .slice ai t.items[k].items.length ci, .string t.items[k].bytes, .int .i64 t.items[k].bits] 78)) := (Below.refl _ _).alloc (Nat.le_refl _) _
    have HW1 := Lib.hid (HW.out.below hbw)
    have hcl := hcall l' _ (HB0.out.trans (HW1.out.bel.mono (Nat.le_refl _))) HW1.out.at' hlen2
    have HCL := Lib.hid hcl
    clear hcl hcall hbw hlen2
    generalize codeE f t.items[k] = cx at *
    generalize t.items[k] = u at *
    go_wp2_with fail
    refine HCL.out.mono ?_
    rintro e w5 ⟨rfl, g1, g2, g3⟩
    have HW2 := Lib.hid (HW1.out.next g1 g2 g3)
    clear g1 g2 g3
    go_wp2_with fail
    go_roundw
    case rel => exact ⟨k + 1, _, by omega, by go_num, HV2, HW2⟩
    case measure => simp [intOf]; omega
   ·have HV2 : Hid (T = l') := Lib.hid (by rw [HV.out, List.drop_eq_nil_of_le (by omega)]; simp)
    go_wp2_with fail
    go_end0
    exact ⟨rfl, by rw [HV2.out]; exact HW.out.at', HW.out.bel, HW.out.st⟩
theorem wterm_rec (f : Nat) : WTermP f := by
 induction f with
 | zero => exact wterm_step 0 (fun f' h => absurd h (by omega))
 | succ f ih => exact wterm_step (f + 1) (fun f' h => by have : f' = f := by omega
                                                         subst this; exact ih)
end Go.Proofs.YtghgbikmlbildaaGreatDoor
