/-
  pure.Bits: the walk (printed by gen_pbits.py).
-/
import Derived.Test.YthmpobimmbmddaaGreatDoorPFd
import Derived.Test.YthmpobimmbmddaaGreatDoorTCap
import Derived.Deep.AppendLies
namespace Go.Proofs.YthmpobimmbmddaaGreatDoor
open Go.RowKit
set_option linter.unusedVariables false
set_option linter.unusedSimpArgs false

/-- The bits of all segments, if none is wrong. -/
def allB : List (Option (List Bool)) → Option (List (List Bool))
  | [] => some []
  | none :: _ => none
  | some m :: l => (allB l).map (m :: ·)
theorem allB_some : ∀ {l : List (Option (List Bool))} {ms : List (List Bool)}, l = ms.map some → allB l = some ms
  | [], [], _ => rfl
  | none :: _, [], h => by cases h
  | some _ :: _, [], h => by cases h
  | [], _ :: _, h => by cases h
  | none :: _, _ :: _, h => by simp at h
  | some m :: l, m' :: ms, h => by
    simp only [List.map_cons, List.cons.injEq, Option.some.injEq] at h
    unfold allB
    rw [allB_some h.2, h.1]; rfl
theorem allB_none : ∀ {l : List (Option (List Bool))} {k : Nat}, l[k]? = some none → allB l = none
  | [], k, h => by simp at h
  | none :: _, _, _ => rfl
  | some m :: l, 0, h => by simp at h
  | some m :: l, k + 1, h => by
    unfold allB
    rw [allB_none (l := l) (k := k) (by simpa using h)]; rfl
/-- What Bits returns. -/
def BitsQ (r : Option (List (List Bool))) (w : World) (e : Ending) (w' : World) : Prop :=
  (match r with
  | none => e = .returned (.tuple #[zeroV, failV ⟨#[98, 97, 100, 97, 114, 103]⟩])
  | some ms => if ms.flatten.length ≤ 16384 then e = .returned (.tuple #[bitsV' ms.flatten, noneV]) else e = .returned (.tuple #[zeroV, failV ⟨#[115, 121, 115, 116, 101, 109, 95, 108, 105, 109, 105, 116]⟩])) ∧ Below w.heap.size w w'
abbrev zRow23 : Array Value := #[.int .i64 0, .string ⟨#[]⟩, .int .i64 0, .int .i64 0, .int .i64 0, .string ⟨#[]⟩, .string ⟨#[]⟩, .int .i64 0, .slice none 0 0, .string ⟨#[]⟩, .int .i64 0, .int .i64 0, .int .i64 0, .int .i64 0, .string ⟨#[]⟩, .string ⟨#[]⟩, .int .i64 0, .slice none 0 0, .string ⟨#[]⟩, .int .i64 0, .bool false, .bool false, .bool false]
def cellsB (ms : List (List Bool)) : List Value := ms.flatMap fun m => [.string (bstr m), .int .i64 m.length]
theorem cellsB_len : ∀ ms : List (List Bool), (cellsB ms).length = ms.length * 2
  | [] => rfl
  | m :: ms => by
    have := cellsB_len ms
    have e : cellsB (m :: ms) = [.string (bstr m), .int .i64 m.length] ++ cellsB ms := rfl
    rw [e, List.length_append, this, List.length_cons]; simp; omega
theorem cellsB_snoc (ms : List (List Bool)) (m : List Bool) : cellsB (ms ++ [m]) = cellsB ms ++ [.string (bstr m), .int .i64 m.length] := by
  unfold cellsB; rw [List.flatMap_append]; rfl
theorem cellsB_at : ∀ (ms : List (List Bool)) (j i : Nat) (h : j < ms.length), i < 2 → (cellsB ms)[j * 2 + i]? = [Value.string (bstr ms[j]), .int .i64 ms[j].length][i]?
  | m :: ms, 0, i, _, hi => by
    have e : cellsB (m :: ms) = [.string (bstr m), .int .i64 m.length] ++ cellsB ms := rfl
    rw [e, List.getElem?_append_left (by simp; omega)]; simp
  | m :: ms, j + 1, i, h, hi => by
    have e : cellsB (m :: ms) = [.string (bstr m), .int .i64 m.length] ++ cellsB ms := rfl
    rw [e, List.getElem?_append_right (by simp; omega)]
    have := cellsB_at ms j i (by simpa using h) hi
    rw [show (j + 1) * 2 + i - [Value.string (bstr m), .int .i64 m.length].length = j * 2 + i by simp; omega, this]; simp
theorem owns_bits {w : World} {B : Nat} {v : Value} {ms : List (List Bool)} (h : w.ownsRow B 56 2 v ms.length (cellsB ms)) : ∃ ao c, v = .slice ao ms.length c ∧ SlAt w 2 BitsR ao ms := by
  rcases h.2 with ⟨rfl, h0⟩ | ⟨g, cap, cur, rfl, _, hg, hc, _, hs, ht⟩
  · exact ⟨none, 0, by rw [h0], .inl (List.eq_nil_of_length_eq_zero h0)⟩
  · refine ⟨_, cap, rfl, .inr ⟨g, 0, rfl, lt_of_row hg, fun j hj => ⟨_, rfl, fun i hi => ?_, rfl⟩⟩⟩
    have h1 := cellsB_at ms j i hj hi
    rw [← ht, List.getElem?_take_of_lt (by omega), Array.getElem?_toList] at h1
    rw [cell_of_row _ _ _ _ _ _ hg, Nat.zero_add, h1]
theorem infoBits : (Tryz.prog.info? 56).map (fun i => (i.zero, i.size, i.bytes)) = some (some (.agg #[.string ⟨#[]⟩, .int .i64 0]), 2, 24) := by kernel_rfl
theorem flat_snoc (ms : List (List Bool)) (m : List Bool) : (ms ++ [m]).flatten.length = ms.flatten.length + m.length := by rw [List.flatten_append, List.length_append]; simp

set_option maxRecDepth 100000 in
set_option maxHeartbeats 16000000 in
theorem pbits_any (f : Nat) (fs : List Fd) (rs : List (Option (List Bool))) (ao : Option Addr) (c : Nat) (w : World) (hs : SlAt w 23 (FdR w f) ao fs) (hn : fs.length ≤ 1000) (hr : rs.length = fs.length)
    (hf : ∀ k (h : k < fs.length) (h2 : k < rs.length), FdIs f fs[k] rs[k]) (hm : ∀ (k : Nat) (m : List Bool), rs[k]? = some (some m) → m.length ≤ 1099511627776) :
    Calls Tryz.prog 11 #[.slice ao fs.length c] w (BitsQ (allB rs) w) := by
  obtain ⟨i0, hi, hz0, hz1, hz2⟩ := info_parts infoBits
  have HT := Lib.hid (two_new w); have HB := Lib.hid (two_belowE w)
  have HS := Lib.hid (show SlAt ((w.alloc (.cells zRow9 28)).alloc (.cells zRow10 34)) 23 (FdR ((w.alloc (.cells zRow9 28)).alloc (.cells zRow10 34)) f) ao fs from hs.mono HB.out (fun _ _ h => h.below HB.out))
  have HR := Lib.hid hr; have HF := Lib.hid hf; have HM := Lib.hid hm
  obtain ⟨Q, hQ⟩ : ∃ Q, Q = BitsQ (allB rs) w := ⟨_, rfl⟩
  rw [← hQ]
  have HQ := Lib.hid hQ
  clear hs hr hf hm hQ
  go_enter Tryz.func11, Tryz.ntmps11
  generalize hW : (w.alloc (.cells zRow9 28)).alloc (.cells zRow10 34) = W at *
  have hW2 : W.heap.size = w.heap.size + 2 := by rw [← hW]; simp
  go_wp2_with fail
  go_loopw [4, 5, 14] (fun pv nv kv wr => ∃ (k F : Nat) (ms ps : List (List Bool)), k ≤ fs.length ∧ kv = .int .i64 k ∧ nv = .int .i64 F ∧ Hid (F = ms.flatten.length) ∧ Hid (rs.take k = ms.map some) ∧ F ≤ k * 1099511627776 ∧ Hid (ms.flatten.length ≤ 16384 → ps = ms) ∧ ps.length ≤ k ∧ Hid (wr.ownsRow W.heap.size 56 2 pv ps.length (cellsB ps)) ∧ Hid (Below W.heap.size W wr)) (fun _ _ kv _ => fs.length - (intOf kv).toNat)
  case atStart => exact ⟨0, 0, [], [], Nat.zero_le _, rfl, rfl, Lib.hid rfl, Lib.hid rfl, by simp, Lib.hid (fun _ => rfl), Nat.le_refl _, Lib.hid (World.ownsRow_nil _ _ _ _), Lib.hid (Below.refl _ _)⟩
  case round =>
    obtain ⟨k, F, ms, ps, hk, rfl, rfl, HFE, HTK, hsum, HPS, hpl, HOW, HBr⟩ := hrel
    rename World => wr
    by_cases hlt : k < fs.length
    · have hkr : k < rs.length := by rw [HR.out]; exact hlt
      obtain ⟨b, off, vo, vc, so, sc, R, hao, hb, hRe, hRs, hR1, hRc, it1, it2⟩ := (HS.out.mono HBr.out (fun _ _ h => h.below HBr.out)).fdr hlt
      subst hao
      have hfk := HF.out k hlt hkr
      have hmk := HM.out k
      rw [List.getElem?_eq_getElem hkr] at hmk
      have HRK : Hid (rs[k]? = some rs[k]) := Lib.hid (List.getElem?_eq_getElem hkr)
      generalize rs[k] = o at *
      generalize fs[k] = x at *
      have hi23 : (Tryz.prog.info? 30).map (·.size) = some R.size := by rw [hRs]; kernel_rfl
      have hzs : zRow23.size = R.size := by rw [hRs]; rfl
      have HRC := Lib.hid hRc; have HI := Lib.hid hi23; have HZS := Lib.hid hzs; have HR1 := Lib.hid hR1
      have hnew := heap_alloc_new wr (.cells zRow23 30)
      have hbox := setRow_heap (wr.alloc (.cells zRow23 30)) wr.heap.size zRow23 R _ _ hnew
      have hba : Below wr.heap.size wr ((wr.alloc (.cells zRow23 30)).setRow wr.heap.size R) := below_setRow ((Below.refl _ _).alloc (Nat.le_refl _) _) (Nat.le_refl _) _
      have HNEW := Lib.hid hnew
      have hfc := hfk vo so vc sc _ (it1.tms hba) (it2.tms hba)
      rw [← hRe] at hfc
      have HFC := Lib.hid hfc; have HBA := Lib.hid hba; have HBOX := Lib.hid hbox
      clear hfk it1 it2 hba hbox hnew hfc hRe hRs hR1 hRc hi23 hzs
      go_upto_region 6 with (first | (refine wpList_load_at rfl 30 _ rfl b (off + k * 23) rfl R HRC.out _ Tryz.underlying30 HI.out ?_) | (refine wpList_store_row rfl 30 _ _ rfl wr.heap.size R rfl rfl 30 _ HNEW.out HI.out HZS.out HR1.out ?_) | fail)
      generalize hwA : (wr.alloc (.cells zRow23 30)).setRow wr.heap.size R = wA at *
      clear hwA HNEW HZS HRC
      cases o with
      | none =>
        as_aux_lemma =>
        have HAN := Lib.hid (allB_none HRK.out)
        go_wp2_with (first | (refine wpList_load_row rfl 30 _ rfl wr.heap.size rfl 30 R _ _ HBOX.out Tryz.underlying30 rfl HI.out ?_) | (go_at_call 28; refine HFC.out.mono ?_; rintro e w1 ⟨⟨y, n, rfl⟩, hb1⟩; have hbA := HBr.out.trans ((HBA.out.trans (hb1.mono HBA.out.size)).mono HBr.out.size)) | (go_at_call 29; refine (none_any _ _).mono ?_; rintro e w2 ⟨rfl, hb2⟩; have hb12 := (HBr.out.trans ((HBA.out.trans ((hb1.alloc hb1.size (.cells #[.string y, .int .i64 n] 56)).mono HBA.out.size)).mono HBr.out.size)); have hbB := hb12.trans (hb2.mono hb12.size); have hT := HT.out.below hbB) | (refine wpList_store_row rfl 28 _ _ rfl w.heap.size _ rfl rfl 28 _ hT.1 (by kernel_rfl) rfl (by simp [Value.oneCell']) ?_) | (refine wpList_store_row rfl 34 _ _ rfl (w.heap.size + 1) _ rfl rfl 34 _ (two_other hT (by omega) _) (by kernel_rfl) rfl (by simp [Value.oneCell']) ?_) | fail)
        obtain ⟨z1, z2, z3⟩ := two_set hT (by omega) (HB.out.trans (hbB.mono HB.out.size)) (Nat.le_refl _) (Nat.le_succ _) zRow9 #[.string ⟨#[101, 114, 114, 111, 114]⟩, .int .i64 2, .int .i64 0, .int .i64 0, .string ⟨#[98, 97, 100, 97, 114, 103]⟩, .string ⟨#[]⟩, .int .i64 0, .slice none 0 0, .string ⟨#[]⟩, .int .i64 0]
        refine bodyPost_ret (results_two_rows rfl _ _ _ w.heap.size (w.heap.size + 1) _ _ _ _ _ _ _ _ rfl z1 rfl z2 Tryz.underlying28 (by kernel_rfl) Tryz.underlying34 (by kernel_rfl)) rfl ?_
        rw [HQ.out, HAN.out]
        exact ⟨rfl, z3⟩
      | some m =>
        as_aux_lemma =>
        have hml := hmk m rfl
        have HTK2 : Hid (rs.take (k + 1) = (ms ++ [m]).map some) := Lib.hid (by rw [List.take_add_one, HRK.out, HTK.out, List.map_append]; rfl)
        have HFL := Lib.hid (flat_snoc ms m)
        have HPS2 : Hid ((ms ++ [m]).flatten.length ≤ 16384 → ps ++ [m] = ms ++ [m]) := Lib.hid (fun h => by rw [HPS.out (by have := HFL.out; omega)])
        rw [← HFE.out] at HFL
        obtain ⟨ml, hmL⟩ : ∃ ml, ml = m.length := ⟨_, rfl⟩
        have HC1 := Lib.hid (cellsB_snoc ps m)
        have HML := Lib.hid hmL
        have hfc : Calls Tryz.prog 28 #[.agg R] wA fun e w' => e = .returned (.tuple #[.agg #[.string (bstr m), .int .i64 m.length], .bool true]) ∧ Below wA.heap.size wA w' := HFC.out.mono fun e w' h => h
        have HFC2 := Lib.hid hfc
        rw [← hmL] at HFL hml HFC2 HC1
        generalize bstr m = y at *
        clear hmL hmk HRK HFC hfc
        go_upto_region 10 with (first | (refine wpList_load_row rfl 30 _ rfl wr.heap.size rfl 30 R _ _ HBOX.out Tryz.underlying30 rfl HI.out ?_) | (go_at_call 28; refine HFC2.out.mono ?_; rintro e w1 ⟨rfl, hb1⟩) | fail)
        have hbA := Lib.hid (HBr.out.trans ((HBA.out.trans ((hb1.alloc hb1.size (.cells #[.string y, .int .i64 ml] 56)).mono HBA.out.size)).mono HBr.out.size))
        have hown := HOW.out.kept (row := none) (grownBy_below (HBA.out.trans ((hb1.alloc hb1.size (.cells #[.string y, .int .i64 ml] 56)).mono HBA.out.size)) none) (by cases u4.ownBlock <;> simp)
        have hnb := heap_alloc_new w1 (.cells #[.string y, .int .i64 ml] 56)
        have hrs : w1.heap.size < (w1.alloc (.cells #[.string y, .int .i64 ml] 56)).heap.size := by simp
        have hw1 : W.heap.size ≤ w1.heap.size := Nat.le_trans HBr.out.size (Nat.le_trans HBA.out.size hb1.size)
        generalize hwB : w1.alloc (.cells #[.string y, .int .i64 ml] 56) = wB at *
        have n0 := cell_of_row _ _ 0 _ _ _ hnb; have n1 := cell_of_row _ _ 1 _ _ _ hnb
        obtain ⟨bb, hbb⟩ : ∃ bb, bb = w1.heap.size := ⟨_, rfl⟩
        rw [← hbb] at n0 n1 hnb hrs ⊢
        have HNB := Lib.hid hnb
        clear HFC2 HBOX HBA hb1 HOW HBr hwB hnb hbb HR1 HI
        by_cases h16 : F + ml ≤ 16384
        · have hps := HPS.out (by have := HFE.out; omega)
          subst hps
          have t1 : decide ((F : Int) + (ml : Int) ≤ 16384) = true := decide_eq_true (by omega)
          have hszB : W.heap.size ≤ wB.heap.size := hbA.out.size
          have howk := hown.lt
          obtain ⟨ao', cap', rfl, -⟩ := owns_bits hown
          go_wp2_with (at_builtin; refine wpList_append_lies _ rfl (.tmp 34) (.tmp 36) 54 rfl W.heap.size 56 i0 _ 2 24 Tryz.underlying54 hi hz0 hz1 hz2 rfl (by decide) _ ps.length (cellsB ps) rfl (hown.alloc _) ⟨wB.heap.size, 0, none⟩ 1 1 (#[.string y, .int .i64 ml]).toList rfl rfl (World.news_of_block (heap_alloc_new _ _)) (by simp [Value.oneCell']) (by decide) (by unfold maxLen; omega) (by omega) (by simp; omega) _ rfl ?_; intro g cap w3 ho3 hg3 hat hlt3)
          have hb3 : Below W.heap.size W w3 := (hbA.out.alloc hszB _).grown hg3 (by simp; omega) (fun k hk => (howk k hk).1)
          have HO3 : Hid (w3.ownsRow W.heap.size 56 2 (.slice (some ⟨g, 0, none⟩) (ps.length + 1) cap) (ps ++ [m]).length (cellsB (ps ++ [m]))) := Lib.hid (by rw [HC1.out, List.length_append]; exact ho3)
          clear hown ho3 hg3 hat
          go_wp2_with fail
          go_roundw
          case rel => exact ⟨k + 1, F + ml, ps ++ [m], ps ++ [m], by omega, by go_num, by simp, Lib.hid HFL.out.symm, HTK2, by omega, Lib.hid (fun _ => rfl), by rw [List.length_append]; simp; omega, HO3, Lib.hid hb3⟩
          case measure => simp [intOf]; omega
        · have t1 : decide ((F : Int) + (ml : Int) ≤ 16384) = false := decide_eq_false (by omega)
          go_wp2_with fail
          go_roundw
          case rel => exact ⟨k + 1, F + ml, ms ++ [m], ps, by omega, by go_num, by simp, Lib.hid HFL.out.symm, HTK2, by omega, Lib.hid (fun h => by have := HFL.out; omega), by omega, Lib.hid hown, hbA⟩
          case measure => simp [intOf]; omega
    · obtain rfl : k = fs.length := by omega
      as_aux_lemma =>
      have HAS : Hid (allB rs = some ms) := Lib.hid (allB_some (by rw [← HTK.out, ← HR.out, List.take_length]))
      have HTB := Lib.hid (HT.out.below HBr.out)
      have HQ2 : Hid (∀ e w', (if F ≤ 16384 then e = .returned (.tuple #[bitsV' ms.flatten, noneV]) else e = .returned (.tuple #[zeroV, failV ⟨#[115, 121, 115, 116, 101, 109, 95, 108, 105, 109, 105, 116]⟩]) ) → Below w.heap.size w w' → Q e w') := Lib.hid (fun e w' h1 h2 => by
        rw [HQ.out, HAS.out]; rw [HFE.out] at h1; exact ⟨h1, h2⟩)
      by_cases h16 : F ≤ 16384
      · have hps := HPS.out (by have := HFE.out; omega)
        subst hps
        obtain ⟨ao', cap', rfl, hsl⟩ := owns_bits HOW.out
        have hj := bjoin_any ps ao' cap' wr hsl (by unfold maxLen; omega) (by have := HFE.out; omega)
        obtain ⟨M, hM⟩ : ∃ M, M = ps.flatten := ⟨_, rfl⟩
        rw [← hM] at hj HQ2 HFE
        have hml : M.length ≤ 16384 := by have := HFE.out; omega
        have HJ := Lib.hid hj
        have hbt := fun wx => bterm_any M hml wx
        have t1 : decide ((16384 : Int) < (F : Int)) = false := decide_eq_false (by omega)
        clear hj hsl hM HOW HTK HPS HAS
        go_wp2_with (first | (go_at_call 30; refine HJ.out.mono ?_; rintro e w3 ⟨rfl, hb3⟩) | (go_at_call 32; refine (hbt _).mono ?_; rintro e w4 ⟨rfl, hb4⟩) | (go_at_call 31; refine (some_any _ _ _ _ _ _ _ _ _ _ _ _).mono ?_; rintro e w5 ⟨rfl, hb5⟩; have hbB := below_next (below_next (below_next (below_next HBr.out hb3) ((Below.refl _ _).alloc (Nat.le_refl _) _)) hb4) hb5; have hT := HT.out.below hbB) | (refine wpList_store_row rfl 28 _ _ rfl w.heap.size _ rfl rfl 28 _ hT.1 (by kernel_rfl) rfl (by simp [Value.oneCell']) ?_) | (refine wpList_store_row rfl 34 _ _ rfl (w.heap.size + 1) _ rfl rfl 34 _ (two_other hT (by omega) _) (by kernel_rfl) rfl (by simp [Value.oneCell']) ?_) | fail)
        obtain ⟨z1, z2, z3⟩ := two_set hT (by omega) (HB.out.trans (hbB.mono HB.out.size)) (Nat.le_refl _) (Nat.le_succ _) #[.int .i64 10, .int .i64 0, .int .i64 0, .string ⟨#[]⟩, .string ⟨#[]⟩, .int .i64 0, .slice none 0 0, .string (bstr M), .int .i64 M.length] zRow10
        refine bodyPost_ret (results_two_rows rfl _ _ _ w.heap.size (w.heap.size + 1) _ _ _ _ _ _ _ _ rfl z1 rfl z2 Tryz.underlying28 (by kernel_rfl) Tryz.underlying34 (by kernel_rfl)) rfl ?_
        exact HQ2.out _ _ (by rw [if_pos h16]) z3
      · have t1 : decide ((16384 : Int) < (F : Int)) = true := decide_eq_true (by omega)
        go_wp2_with (first | (go_at_call 29; refine (none_any _ _).mono ?_; rintro e w5 ⟨rfl, hb5⟩; have hbB := below_next HBr.out hb5; have hT := HT.out.below hbB) | (refine wpList_store_row rfl 28 _ _ rfl w.heap.size _ rfl rfl 28 _ hT.1 (by kernel_rfl) rfl (by simp [Value.oneCell']) ?_) | (refine wpList_store_row rfl 34 _ _ rfl (w.heap.size + 1) _ rfl rfl 34 _ (two_other hT (by omega) _) (by kernel_rfl) rfl (by simp [Value.oneCell']) ?_) | fail)
        obtain ⟨z1, z2, z3⟩ := two_set hT (by omega) (HB.out.trans (hbB.mono HB.out.size)) (Nat.le_refl _) (Nat.le_succ _) zRow9 #[.string ⟨#[101, 114, 114, 111, 114]⟩, .int .i64 2, .int .i64 0, .int .i64 0, .string ⟨#[115, 121, 115, 116, 101, 109, 95, 108, 105, 109, 105, 116]⟩, .string ⟨#[]⟩, .int .i64 0, .slice none 0 0, .string ⟨#[]⟩, .int .i64 0]
        refine bodyPost_ret (results_two_rows rfl _ _ _ w.heap.size (w.heap.size + 1) _ _ _ _ _ _ _ _ rfl z1 rfl z2 Tryz.underlying28 (by kernel_rfl) Tryz.underlying34 (by kernel_rfl)) rfl ?_
        exact HQ2.out _ _ (by rw [if_neg h16]) z3
end Go.Proofs.YthmpobimmbmddaaGreatDoor
