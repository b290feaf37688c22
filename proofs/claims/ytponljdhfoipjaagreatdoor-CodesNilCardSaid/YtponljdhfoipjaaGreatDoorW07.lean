import Derived.Test.YtponljdhfoipjaaGreatDoorW03
import Derived.Test.YtponljdhfoipjaaGreatDoorW04
namespace Go.Proofs.YtponljdhfoipjaaGreatDoor
open Go.RowKit
set_option linter.unusedVariables false
set_option linter.unusedSimpArgs false
set_option maxRecDepth 100000
set_option maxHeartbeats 0
def MeasAt (M:Nat) (s:Int) (w:World):Prop:=w.heap[M]?=some (.cells #[.func (.func 142) #[] #[],.func (.func 143) #[] #[],.func (.func 144) #[] #[],.func (.func 140) #[] #[],.func (.func 145) #[] #[],.func (.func 146) #[] #[],.func (.func 140) #[] #[],.func (.func 147) #[] #[],.func (.func 148) #[] #[],.func (.func 149) #[] #[],.func (.func 150) #[] #[],.int .i64 s] 198 (0,0))
theorem sk_of {W w:World} (h:Below W.heap.size W w):W.heap.size<=w.heap.size/\ ∀b o,b<W.heap.size->w.cell? ⟨b,o,none⟩=W.cell? ⟨b,o,none⟩:=⟨h.size,fun b o hb=>h.cell (p:=⟨b,o,none⟩) hb⟩
theorem sk_alloc {W w:World} {o:Obj} (h:W.heap.size<=w.heap.size/\ ∀b o,b<W.heap.size->w.cell? ⟨b,o,none⟩=W.cell? ⟨b,o,none⟩):W.heap.size<=(w.alloc o).heap.size/\ ∀b q,b<W.heap.size->(w.alloc o).cell? ⟨b,q,none⟩=W.cell? ⟨b,q,none⟩:=
 ⟨by have:=h.1;simp;omega,fun b q hb=>(((Below.refl w.heap.size w).alloc (Nat.le_refl _) o).cell (p:=⟨b,q,none⟩) (Nat.lt_of_lt_of_le hb h.1)).trans (h.2 b q hb)⟩
theorem sk_set {W w:World} {q:Nat} {v:Value} (h:W.heap.size<=w.heap.size/\ ∀b o,b<W.heap.size->w.cell? ⟨b,o,none⟩=W.cell? ⟨b,o,none⟩):W.heap.size<=(w.setCell ⟨W.heap.size,q,none⟩ v).heap.size/\ ∀b o,b<W.heap.size->(w.setCell ⟨W.heap.size,q,none⟩ v).cell? ⟨b,o,none⟩=W.cell? ⟨b,o,none⟩:=
 ⟨by simpa [World.setCell] using h.1,fun b o hb=>(World.cell?_of_block (Below.heap_setCell _ _ _ _ (Nat.ne_of_lt hb))).trans (h.2 b o hb)⟩
theorem sk_set9 {W w:World} {v0 v1 v2 v3 v4 v5 v6 v7 v8:Value} (h:W.heap.size<=w.heap.size/\ ∀b o,b<W.heap.size->w.cell? ⟨b,o,none⟩=W.cell? ⟨b,o,none⟩):
  W.heap.size<=(((((((((w.setCell ⟨W.heap.size,0,none⟩ v0).setCell ⟨W.heap.size,1,none⟩ v1).setCell ⟨W.heap.size,2,none⟩ v2).setCell ⟨W.heap.size,3,none⟩ v3).setCell ⟨W.heap.size,4,none⟩ v4).setCell ⟨W.heap.size,5,none⟩ v5).setCell ⟨W.heap.size,6,none⟩ v6).setCell ⟨W.heap.size,7,none⟩ v7).setCell ⟨W.heap.size,8,none⟩ v8).heap.size /\
   ∀b o,b<W.heap.size->(((((((((w.setCell ⟨W.heap.size,0,none⟩ v0).setCell ⟨W.heap.size,1,none⟩ v1).setCell ⟨W.heap.size,2,none⟩ v2).setCell ⟨W.heap.size,3,none⟩ v3).setCell ⟨W.heap.size,4,none⟩ v4).setCell ⟨W.heap.size,5,none⟩ v5).setCell ⟨W.heap.size,6,none⟩ v6).setCell ⟨W.heap.size,7,none⟩ v7).setCell ⟨W.heap.size,8,none⟩ v8).cell? ⟨b,o,none⟩=W.cell? ⟨b,o,none⟩:=
 sk_set (sk_set (sk_set (sk_set (sk_set (sk_set (sk_set (sk_set (sk_set h))))))))
def CntQ (M:Nat) (s:Int) (cap:Nat) (ok:Bool) (add:Int) (w w':World):Prop:=w.grownBy w' (some M)/\ ∃s':Int,s<=s'/\s'<=s+cap/\MeasAt M s' w'/\(ok=true->s'=s+add)
def OfP (f:Nat):Prop:= ∀(t:Tm) (so:Option Addr) (c M:Nat) (s:Int) (w0 w:World),SlAt w0 9 (TmAt w0 f) so t.items->t.Ok->Below w0.heap.size w0 w->w0.heap.size<=M->MeasAt M s w->0<=s->s+capF (f+1) t<=1152921504606846976 ->
 Calls Tryz.prog 94 #[.pointer (some ⟨M,0,none⟩),.agg #[.int .i64 t.kind,.int .i64 t.int,.int .i64 t.gen,.string t.name,.string t.func,.int .i64 t.arity,.slice so t.items.length c,.string t.bytes,.int .i64 t.bits]] w fun e w'=>e= .returned (.bool (formF (f+1) t))/\CntQ M s (capF (f+1) t) (formF (f+1) t) (wholeF (f+1) t) w w'
def CfP (f:Nat):Prop:= ∀(l:List Tm) (ao:Option Addr) (c M mb:Nat) (s:Int) (w0 w:World),SlAt w0 9 (TmAt w0 f) ao l->l.length<=maxLen->Below w0.heap.size w0 w->w0.heap.size<=M->MeasAt M s w->w.heap[mb]?=some (.cells #[.pointer (some ⟨M,0,none⟩)] 193 (0,0))->mb≠M->0<=s->s+sumN (l.map (capF f))<=1152921504606846976 ->
 Calls Tryz.prog 152 #[.slice ao l.length c,.func (.func 153) #[] #[.pointer (some ⟨mb,0,none⟩)]] w fun e w'=>e= .returned (.bool (!(l.all (formF f))))/\CntQ M s (sumN (l.map (capF f))) (l.all (formF f)) (sumI (l.map (wholeF f))) w w'
theorem grownBy_set (w:World) (r o:Nat) (v:Value):w.grownBy (w.setCell ⟨r,o,none⟩ v) (some r):=
 ⟨rfl,rfl,rfl,by simp [World.setCell],fun k _ hk=>Below.heap_setCell _ _ _ _ (fun e=>hk (by rw [e]))⟩
theorem meas_set {M:Nat} {s s':Int} {w:World} (h:MeasAt M s w):MeasAt M s' (w.setCell ⟨M,11,none⟩ (.int .i64 s')):=heap_setCell_same _ _ 11 _ _ (.int .i64 s') h
theorem MeasAt.below {M:Nat} {s:Int} {w w':World} (h:MeasAt M s w) (hb:Below w.heap.size w w'):MeasAt M s w':=(hb.block M (lt_of_row h)).trans h
theorem MeasAt.cell {M:Nat} {s:Int} {w:World} (h:MeasAt M s w):w.cell? ⟨M,11,none⟩=some (.int .i64 s)/\w.frozen? ⟨M,11,none⟩=false:=⟨cell_of_row _ _ 11 _ _ _ h,frozen_of_row _ _ 11 _ _ h⟩
theorem below_grown {w0 a b:World} {M:Nat} (h:Below w0.heap.size w0 a) (hg:a.grownBy b (some M)) (hM:w0.heap.size<=M):Below w0.heap.size w0 b:=h.grown hg h.size (fun k hk=>by cases hk;exact hM)
theorem leftT_len (t:Tm):(leftT t).items.length<=t.items.length:=by
 unfold leftT
 repeat' split
 all_goals first|exact Nat.le_refl _|exact Nat.zero_le _
theorem bits_bound {t:Tm} (h:locB t=true) (hk:t.kind=10):0<=t.bits/\t.bits<=16384:=by
 unfold locB okK bitsB bitsV wi at h
 simp only [hk]at h
 simp at h
 omega
theorem len_bound {t:Tm} (h:locB t=true) (hk:t.kind=9):2<=t.items.length:=by
 unfold locB okK at h
 simp only [hk]at h
 simp at h
 omega
theorem locB_kind {t:Tm} (h: ¬(0<=t.kind/\t.kind<11)):locB t=false:=by
 unfold locB;rw [okK_none (by omega)];rfl
theorem of_out {f:Nat} (t:Tm) (so:zzA) (c M:Nat) (s:Int) (w0 w:World) (hm:MeasAt M s w) (hk: ¬(0<=t.kind/\t.kind<11)):
  Calls Tryz.prog 94 #[.pointer (some ⟨M,0,none⟩),.agg #[.int .i64 t.kind,.int .i64 t.int,.int .i64 t.gen,.string t.name,.string t.func,.int .i64 t.arity,.slice so t.items.length c,.string t.bytes,.int .i64 t.bits]] w fun e w'=>e= .returned (.bool (formF (f+1) t))/\CntQ M s (capF (f+1) t) (formF (f+1) t) (wholeF (f+1) t) w w':=by
 have E:Hid (formF (f+1) t=false):=Lib.hid (by unfold formF;rw [locB_kind hk];rfl)
 have H2:=Lib.hid (two_below w (.cells #[.pointer (some ⟨M,0,none⟩)] 193) (.cells #[.int .i64 t.kind,.int .i64 t.int,.int .i64 t.gen,.string t.name,.string t.func,.int .i64 t.arity,.slice so t.items.length c,.string t.bytes,.int .i64 t.bits] 44))
 by_cases h0:t.kind<0
 ·go_enter Tryz.func94,Tryz.ntmps94
  go_wp2_with fail
  go_ret
  exact⟨retb E.out.symm,grownBy_below H2.out _,s,Int.le_refl _,by omega,hm.below H2.out,fun h=>absurd (E.out.symm.trans h) (by decide)⟩
 ·have h1:11<=t.kind:=by omega
  have h0':0<=t.kind:=by omega
  clear hk h0
  go_enter Tryz.func94,Tryz.ntmps94
  go_wp2_with fail
  go_ret
  exact⟨retb E.out.symm,grownBy_below H2.out _,s,Int.le_refl _,by omega,hm.below H2.out,fun h=>absurd (E.out.symm.trans h) (by decide)⟩
theorem of_in {f:Nat} (HC:Hid (CfP f)) (t:Tm) (so:zzA) (c M:Nat) (s:Int) (w0 w:World) (ht:SlAt w0 9 (TmAt w0 f) so t.items) (hok:t.Ok) (hb:Below w0.heap.size w0 w) (hM:w0.heap.size<=M) (hm:MeasAt M s w) (hs0:0<=s) (hs1:s+capF (f+1) t<=1152921504606846976) (hk0:0<=t.kind) (hk1:t.kind<11):
  Calls Tryz.prog 94 #[.pointer (some ⟨M,0,none⟩),.agg #[.int .i64 t.kind,.int .i64 t.int,.int .i64 t.gen,.string t.name,.string t.func,.int .i64 t.arity,.slice so t.items.length c,.string t.bytes,.int .i64 t.bits]] w fun e w'=>e= .returned (.bool (formF (f+1) t))/\CntQ M s (capF (f+1) t) (formF (f+1) t) (wholeF (f+1) t) w w':=by
 have hMl:=lt_of_row hm
 refine zzK4 ht hok hb hm fun HT HOK HB HM=>?_
 clear ht hok hb hm
 generalize hkt:t.kind=tk at *
 have HKT:=Lib.hid hkt
 clear hkt
 go_enter Tryz.func94,Tryz.ntmps94
 go_upto_region 3 with fail
 have r0:=two0 w (.cells #[.pointer (some ⟨M,0,none⟩)] 193) (.cells #[.int .i64 tk,.int .i64 t.int,.int .i64 t.gen,.string t.name,.string t.func,.int .i64 t.arity,.slice so t.items.length c,.string t.bytes,.int .i64 t.bits] 44)
 have r1:=two1 w (.cells #[.pointer (some ⟨M,0,none⟩)] 193) (.cells #[.int .i64 tk,.int .i64 t.int,.int .i64 t.gen,.string t.name,.string t.func,.int .i64 t.arity,.slice so t.items.length c,.string t.bytes,.int .i64 t.bits] 44)
 have hB2:=two_below w (.cells #[.pointer (some ⟨M,0,none⟩)] 193) (.cells #[.int .i64 tk,.int .i64 t.int,.int .i64 t.gen,.string t.name,.string t.func,.int .i64 t.arity,.slice so t.items.length c,.string t.bytes,.int .i64 t.bits] 44)
 have HM2:=Lib.hid (HM.out.below hB2)
 have hMl2:M<((w.alloc (.cells #[.pointer (some ⟨M,0,none⟩)] 193)).alloc (.cells #[.int .i64 tk,.int .i64 t.int,.int .i64 t.gen,.string t.name,.string t.func,.int .i64 t.arity,.slice so t.items.length c,.string t.bytes,.int .i64 t.bits] 44)).heap.size:=Nat.lt_of_lt_of_le hMl hB2.size
 generalize(w.alloc (.cells #[.pointer (some ⟨M,0,none⟩)] 193)).alloc (.cells #[.int .i64 tk,.int .i64 t.int,.int .i64 t.gen,.string t.name,.string t.func,.int .i64 t.arity,.slice so t.items.length c,.string t.bytes,.int .i64 t.bits] 44)=W2 at *
 have HB2:=Lib.hid hB2
 have hBM:M<w.heap.size:=hMl
 have HMB:Hid (w.heap.size≠M):=Lib.hid (Nat.ne_of_gt hMl)
 have HWB:Hid (w0.heap.size<=w.heap.size):=Lib.hid HB.out.size
 have HML:=Lib.hid hBM
 obtain⟨q0,q1,q2,q3,q4,q5,q6,q7,q8,z1⟩:=term_cells r1
 have b0:W2.cell? ⟨w.heap.size,0,none⟩=some (.pointer (some ⟨M,0,none⟩)):=by rw [cell_of_row _ _ _ _ _ _ r0];rfl
 have hl0:=lt_of_row r0
 have hl1:=lt_of_row r1
 have R0:=Lib.hid r0;have R1:=Lib.hid r1
 clear z1 r0 r1 hB2 hMl hBM
 generalize hBe:w.heap.size=B at *
 have HBW2:Hid (Below w.heap.size w W2):=Lib.hid (by rw [hBe];exact HB2.out)
 have HBE:=Lib.hid hBe
 clear hBe
 go_cut [5,6] (fun s5 s6 wx=> ∃(L:Nat) (so':zzA) (c':Nat),s5= .pointer (some ⟨L,0,none⟩)/\s6= .bool (okK t)/\W2.heap.size<=L/\SlAt w0 9 (TmAt w0 f) so' (leftT t).items/\wx.heap[L]?=some (.cells #[.int .i64 (leftT t).kind,.int .i64 (leftT t).int,.int .i64 (leftT t).gen,.string (leftT t).name,.string (leftT t).func,.int .i64 (leftT t).arity,.slice so' (leftT t).items.length c',.string (leftT t).bytes,.int .i64 (leftT t).bits] 44 (0,0))/\Below W2.heap.size W2 wx)
 case first=>
  have HDR:=Lib.hid ((Below.refl W2.heap.size W2).drew)
  have HDA:=Lib.hid (((Below.refl W2.heap.size W2).alloc (Nat.le_refl _) (.cells #[.int .i64 0,.int .i64 0,.int .i64 0,.string ⟨#[]⟩,.string ⟨#[]⟩,.int .i64 0,.slice none 0 0,.string ⟨#[]⟩,.int .i64 0] 44)).drew)
  have SK0:=Lib.hid (sk_of HDR.out)
  have SK1:=Lib.hid (sk_of HDA.out)
  have HAN:Hid ((W2.alloc (.cells #[.int .i64 0,.int .i64 0,.int .i64 0,.string ⟨#[]⟩,.string ⟨#[]⟩,.int .i64 0,.slice none 0 0,.string ⟨#[]⟩,.int .i64 0] 44)).drew.heap[W2.heap.size]?=some (.cells zeroRow 44 (0,0))):=Lib.hid (heap_alloc_new W2 _)
  have hkk:tk=0\/tk=1\/tk=2\/tk=3\/tk=4\/tk=5\/tk=6\/tk=7\/tk=8\/tk=9\/tk=10:=by omega
  clear hk0 hk1 hs0 hs1
  rcases hkk with rfl|rfl|rfl|rfl|rfl|rfl|rfl|rfl|rfl|rfl|rfl
  ·have hQ: ∀wx,Calls Tryz.prog 142 #[.agg #[.int .i64 0,.int .i64 t.int,.int .i64 t.gen,.string t.name,.string t.func,.int .i64 t.arity,.slice so t.items.length c,.string t.bytes,.int .i64 t.bits]] wx (KindQ w0 wx f t):=fun wx=>by have h:=kindQ_0 t so c f w0 wx HT.out HKT.out;rwa [HKT.out]at h
   have n0:W2.cell? ⟨M,0,none⟩=some (.func (.func 142) #[] #[]):=cell_of_row _ _ 0 _ _ _ HM2.out
   first|go_region_held3 (fun w'=>W2.heap.size<=w'.heap.size/\ ∀b o,b<W2.heap.size->w'.cell? ⟨b,o,none⟩=W2.cell? ⟨b,o,none⟩) (first|with_reducible exact HK5.out|with_reducible exact SK0.out|with_reducible exact sk_alloc SK0.out|with_reducible exact SK1.out|with_reducible exact sk_alloc HK5.out|with_reducible exact sk_set9 HK5.out)
    ((go_at_call 142;refine(hQ _).mono ?_;rintro e w5 ⟨so',c',rfl,hs',hb5⟩;first|(have hbb:Below W2.heap.size W2 w5:=(by with_reducible exact below_next HDR.out hb5);have HK5:=Lib.hid (sk_of hbb))|(have hbb:Below W2.heap.size W2 w5:=(by with_reducible exact below_next HDA.out hb5);have xl:w5.heap[W2.heap.size]?=some (.cells zeroRow 44 (0,0)):=(hb5.block W2.heap.size (lt_of_row HAN.out)).trans HAN.out;have XL:=Lib.hid xl;obtain⟨l0,l1,l2,l3,l4,l5,l6,l7,l8,lz⟩:=term_cells xl;clear xl;have HK5:=Lib.hid (sk_of hbb))))|fail
   ·go_wp2_with fail
    go_meet
    case rel=>exact⟨_,so',c',rfl,rfl,hbb.size,hs',heap_alloc_new _ _,hbb.alloc hbb.size _⟩
   ·go_wp2_with fail
    go_meet
    case rel=>exact⟨_,so',c',rfl,rfl,Nat.le_refl _,hs',set9 _ _ _ _ _ _ _ _ _ XL.out,below9 (Nat.le_refl _) hbb _ _ _ _ _ _ _ _ _⟩
  ·have hQ: ∀wx,Calls Tryz.prog 143 #[.agg #[.int .i64 1,.int .i64 t.int,.int .i64 t.gen,.string t.name,.string t.func,.int .i64 t.arity,.slice so t.items.length c,.string t.bytes,.int .i64 t.bits]] wx (KindQ w0 wx f t):=fun wx=>by have h:=kindQ_1 t so c f w0 wx HT.out HKT.out;rwa [HKT.out]at h
   have n0:W2.cell? ⟨M,1,none⟩=some (.func (.func 143) #[] #[]):=cell_of_row _ _ 1 _ _ _ HM2.out
   first|go_region_held3 (fun w'=>W2.heap.size<=w'.heap.size/\ ∀b o,b<W2.heap.size->w'.cell? ⟨b,o,none⟩=W2.cell? ⟨b,o,none⟩) (first|with_reducible exact HK5.out|with_reducible exact SK0.out|with_reducible exact sk_alloc SK0.out|with_reducible exact SK1.out|with_reducible exact sk_alloc HK5.out|with_reducible exact sk_set9 HK5.out)
    ((go_at_call 143;refine(hQ _).mono ?_;rintro e w5 ⟨so',c',rfl,hs',hb5⟩;first|(have hbb:Below W2.heap.size W2 w5:=(by with_reducible exact below_next HDR.out hb5);have HK5:=Lib.hid (sk_of hbb))|(have hbb:Below W2.heap.size W2 w5:=(by with_reducible exact below_next HDA.out hb5);have xl:w5.heap[W2.heap.size]?=some (.cells zeroRow 44 (0,0)):=(hb5.block W2.heap.size (lt_of_row HAN.out)).trans HAN.out;have XL:=Lib.hid xl;obtain⟨l0,l1,l2,l3,l4,l5,l6,l7,l8,lz⟩:=term_cells xl;clear xl;have HK5:=Lib.hid (sk_of hbb))))|fail
   ·go_wp2_with fail
    go_meet
    case rel=>exact⟨_,so',c',rfl,rfl,hbb.size,hs',heap_alloc_new _ _,hbb.alloc hbb.size _⟩
   ·go_wp2_with fail
    go_meet
    case rel=>exact⟨_,so',c',rfl,rfl,Nat.le_refl _,hs',set9 _ _ _ _ _ _ _ _ _ XL.out,below9 (Nat.le_refl _) hbb _ _ _ _ _ _ _ _ _⟩
  ·have hQ: ∀wx,Calls Tryz.prog 144 #[.agg #[.int .i64 2,.int .i64 t.int,.int .i64 t.gen,.string t.name,.string t.func,.int .i64 t.arity,.slice so t.items.length c,.string t.bytes,.int .i64 t.bits]] wx (KindQ w0 wx f t):=fun wx=>by have h:=kindQ_2 t so c f w0 wx HT.out HKT.out;rwa [HKT.out]at h
   have n0:W2.cell? ⟨M,2,none⟩=some (.func (.func 144) #[] #[]):=cell_of_row _ _ 2 _ _ _ HM2.out
   first|go_region_held3 (fun w'=>W2.heap.size<=w'.heap.size/\ ∀b o,b<W2.heap.size->w'.cell? ⟨b,o,none⟩=W2.cell? ⟨b,o,none⟩) (first|with_reducible exact HK5.out|with_reducible exact SK0.out|with_reducible exact sk_alloc SK0.out|with_reducible exact SK1.out|with_reducible exact sk_alloc HK5.out|with_reducible exact sk_set9 HK5.out)
    ((go_at_call 144;refine(hQ _).mono ?_;rintro e w5 ⟨so',c',rfl,hs',hb5⟩;first|(have hbb:Below W2.heap.size W2 w5:=(by with_reducible exact below_next HDR.out hb5);have HK5:=Lib.hid (sk_of hbb))|(have hbb:Below W2.heap.size W2 w5:=(by with_reducible exact below_next HDA.out hb5);have xl:w5.heap[W2.heap.size]?=some (.cells zeroRow 44 (0,0)):=(hb5.block W2.heap.size (lt_of_row HAN.out)).trans HAN.out;have XL:=Lib.hid xl;obtain⟨l0,l1,l2,l3,l4,l5,l6,l7,l8,lz⟩:=term_cells xl;clear xl;have HK5:=Lib.hid (sk_of hbb))))|fail
   ·go_wp2_with fail
    go_meet
    case rel=>exact⟨_,so',c',rfl,rfl,hbb.size,hs',heap_alloc_new _ _,hbb.alloc hbb.size _⟩
   ·go_wp2_with fail
    go_meet
    case rel=>exact⟨_,so',c',rfl,rfl,Nat.le_refl _,hs',set9 _ _ _ _ _ _ _ _ _ XL.out,below9 (Nat.le_refl _) hbb _ _ _ _ _ _ _ _ _⟩
  ·have hQ: ∀wx,Calls Tryz.prog 140 #[.agg #[.int .i64 3,.int .i64 t.int,.int .i64 t.gen,.string t.name,.string t.func,.int .i64 t.arity,.slice so t.items.length c,.string t.bytes,.int .i64 t.bits]] wx (KindQ w0 wx f t):=fun wx=>by have h:=kindQ_3 t so c f w0 wx HT.out HKT.out;rwa [HKT.out]at h
   have n0:W2.cell? ⟨M,3,none⟩=some (.func (.func 140) #[] #[]):=cell_of_row _ _ 3 _ _ _ HM2.out
   first|go_region_held3 (fun w'=>W2.heap.size<=w'.heap.size/\ ∀b o,b<W2.heap.size->w'.cell? ⟨b,o,none⟩=W2.cell? ⟨b,o,none⟩) (first|with_reducible exact HK5.out|with_reducible exact SK0.out|with_reducible exact sk_alloc SK0.out|with_reducible exact SK1.out|with_reducible exact sk_alloc HK5.out|with_reducible exact sk_set9 HK5.out)
    ((go_at_call 140;refine(hQ _).mono ?_;rintro e w5 ⟨so',c',rfl,hs',hb5⟩;first|(have hbb:Below W2.heap.size W2 w5:=(by with_reducible exact below_next HDR.out hb5);have HK5:=Lib.hid (sk_of hbb))|(have hbb:Below W2.heap.size W2 w5:=(by with_reducible exact below_next HDA.out hb5);have xl:w5.heap[W2.heap.size]?=some (.cells zeroRow 44 (0,0)):=(hb5.block W2.heap.size (lt_of_row HAN.out)).trans HAN.out;have XL:=Lib.hid xl;obtain⟨l0,l1,l2,l3,l4,l5,l6,l7,l8,lz⟩:=term_cells xl;clear xl;have HK5:=Lib.hid (sk_of hbb))))|fail
   ·go_wp2_with fail
    go_meet
    case rel=>exact⟨_,so',c',rfl,rfl,hbb.size,hs',heap_alloc_new _ _,hbb.alloc hbb.size _⟩
   ·go_wp2_with fail
    go_meet
    case rel=>exact⟨_,so',c',rfl,rfl,Nat.le_refl _,hs',set9 _ _ _ _ _ _ _ _ _ XL.out,below9 (Nat.le_refl _) hbb _ _ _ _ _ _ _ _ _⟩
  ·have hQ: ∀wx,Calls Tryz.prog 145 #[.agg #[.int .i64 4,.int .i64 t.int,.int .i64 t.gen,.string t.name,.string t.func,.int .i64 t.arity,.slice so t.items.length c,.string t.bytes,.int .i64 t.bits]] wx (KindQ w0 wx f t):=fun wx=>by have h:=kindQ_4 t so c f w0 wx HT.out HKT.out;rwa [HKT.out]at h
   have n0:W2.cell? ⟨M,4,none⟩=some (.func (.func 145) #[] #[]):=cell_of_row _ _ 4 _ _ _ HM2.out
   first|go_region_held3 (fun w'=>W2.heap.size<=w'.heap.size/\ ∀b o,b<W2.heap.size->w'.cell? ⟨b,o,none⟩=W2.cell? ⟨b,o,none⟩) (first|with_reducible exact HK5.out|with_reducible exact SK0.out|with_reducible exact sk_alloc SK0.out|with_reducible exact SK1.out|with_reducible exact sk_alloc HK5.out|with_reducible exact sk_set9 HK5.out)
    ((go_at_call 145;refine(hQ _).mono ?_;rintro e w5 ⟨so',c',rfl,hs',hb5⟩;first|(have hbb:Below W2.heap.size W2 w5:=(by with_reducible exact below_next HDR.out hb5);have HK5:=Lib.hid (sk_of hbb))|(have hbb:Below W2.heap.size W2 w5:=(by with_reducible exact below_next HDA.out hb5);have xl:w5.heap[W2.heap.size]?=some (.cells zeroRow 44 (0,0)):=(hb5.block W2.heap.size (lt_of_row HAN.out)).trans HAN.out;have XL:=Lib.hid xl;obtain⟨l0,l1,l2,l3,l4,l5,l6,l7,l8,lz⟩:=term_cells xl;clear xl;have HK5:=Lib.hid (sk_of hbb))))|fail
   ·go_wp2_with fail
    go_meet
    case rel=>exact⟨_,so',c',rfl,rfl,hbb.size,hs',heap_alloc_new _ _,hbb.alloc hbb.size _⟩
   ·go_wp2_with fail
    go_meet
    case rel=>exact⟨_,so',c',rfl,rfl,Nat.le_refl _,hs',set9 _ _ _ _ _ _ _ _ _ XL.out,below9 (Nat.le_refl _) hbb _ _ _ _ _ _ _ _ _⟩
  ·have hQ: ∀wx,Calls Tryz.prog 146 #[.agg #[.int .i64 5,.int .i64 t.int,.int .i64 t.gen,.string t.name,.string t.func,.int .i64 t.arity,.slice so t.items.length c,.string t.bytes,.int .i64 t.bits]] wx (KindQ w0 wx f t):=fun wx=>by have h:=kindQ_5 t so c f w0 wx HT.out HKT.out;rwa [HKT.out]at h
   have n0:W2.cell? ⟨M,5,none⟩=some (.func (.func 146) #[] #[]):=cell_of_row _ _ 5 _ _ _ HM2.out
   first|go_region_held3 (fun w'=>W2.heap.size<=w'.heap.size/\ ∀b o,b<W2.heap.size->w'.cell? ⟨b,o,none⟩=W2.cell? ⟨b,o,none⟩) (first|with_reducible exact HK5.out|with_reducible exact SK0.out|with_reducible exact sk_alloc SK0.out|with_reducible exact SK1.out|with_reducible exact sk_alloc HK5.out|with_reducible exact sk_set9 HK5.out)
    ((go_at_call 146;refine(hQ _).mono ?_;rintro e w5 ⟨so',c',rfl,hs',hb5⟩;first|(have hbb:Below W2.heap.size W2 w5:=(by with_reducible exact below_next HDR.out hb5);have HK5:=Lib.hid (sk_of hbb))|(have hbb:Below W2.heap.size W2 w5:=(by with_reducible exact below_next HDA.out hb5);have xl:w5.heap[W2.heap.size]?=some (.cells zeroRow 44 (0,0)):=(hb5.block W2.heap.size (lt_of_row HAN.out)).trans HAN.out;have XL:=Lib.hid xl;obtain⟨l0,l1,l2,l3,l4,l5,l6,l7,l8,lz⟩:=term_cells xl;clear xl;have HK5:=Lib.hid (sk_of hbb))))|fail
   ·go_wp2_with fail
    go_meet
    case rel=>exact⟨_,so',c',rfl,rfl,hbb.size,hs',heap_alloc_new _ _,hbb.alloc hbb.size _⟩
   ·go_wp2_with fail
    go_meet
    case rel=>exact⟨_,so',c',rfl,rfl,Nat.le_refl _,hs',set9 _ _ _ _ _ _ _ _ _ XL.out,below9 (Nat.le_refl _) hbb _ _ _ _ _ _ _ _ _⟩
  ·have hQ: ∀wx,Calls Tryz.prog 140 #[.agg #[.int .i64 6,.int .i64 t.int,.int .i64 t.gen,.string t.name,.string t.func,.int .i64 t.arity,.slice so t.items.length c,.string t.bytes,.int .i64 t.bits]] wx (KindQ w0 wx f t):=fun wx=>by have h:=kindQ_6 t so c f w0 wx HT.out HKT.out;rwa [HKT.out]at h
   have n0:W2.cell? ⟨M,6,none⟩=some (.func (.func 140) #[] #[]):=cell_of_row _ _ 6 _ _ _ HM2.out
   first|go_region_held3 (fun w'=>W2.heap.size<=w'.heap.size/\ ∀b o,b<W2.heap.size->w'.cell? ⟨b,o,none⟩=W2.cell? ⟨b,o,none⟩) (first|with_reducible exact HK5.out|with_reducible exact SK0.out|with_reducible exact sk_alloc SK0.out|with_reducible exact SK1.out|with_reducible exact sk_alloc HK5.out|with_reducible exact sk_set9 HK5.out)
    ((go_at_call 140;refine(hQ _).mono ?_;rintro e w5 ⟨so',c',rfl,hs',hb5⟩;first|(have hbb:Below W2.heap.size W2 w5:=(by with_reducible exact below_next HDR.out hb5);have HK5:=Lib.hid (sk_of hbb))|(have hbb:Below W2.heap.size W2 w5:=(by with_reducible exact below_next HDA.out hb5);have xl:w5.heap[W2.heap.size]?=some (.cells zeroRow 44 (0,0)):=(hb5.block W2.heap.size (lt_of_row HAN.out)).trans HAN.out;have XL:=Lib.hid xl;obtain⟨l0,l1,l2,l3,l4,l5,l6,l7,l8,lz⟩:=term_cells xl;clear xl;have HK5:=Lib.hid (sk_of hbb))))|fail
   ·go_wp2_with fail
    go_meet
    case rel=>exact⟨_,so',c',rfl,rfl,hbb.size,hs',heap_alloc_new _ _,hbb.alloc hbb.size _⟩
   ·go_wp2_with fail
    go_meet
    case rel=>exact⟨_,so',c',rfl,rfl,Nat.le_refl _,hs',set9 _ _ _ _ _ _ _ _ _ XL.out,below9 (Nat.le_refl _) hbb _ _ _ _ _ _ _ _ _⟩
  ·have hQ: ∀wx,Calls Tryz.prog 147 #[.agg #[.int .i64 7,.int .i64 t.int,.int .i64 t.gen,.string t.name,.string t.func,.int .i64 t.arity,.slice so t.items.length c,.string t.bytes,.int .i64 t.bits]] wx (KindQ w0 wx f t):=fun wx=>by have h:=kindQ_7 t so c f w0 wx HT.out HKT.out;rwa [HKT.out]at h
   have n0:W2.cell? ⟨M,7,none⟩=some (.func (.func 147) #[] #[]):=cell_of_row _ _ 7 _ _ _ HM2.out
   first|go_region_held3 (fun w'=>W2.heap.size<=w'.heap.size/\ ∀b o,b<W2.heap.size->w'.cell? ⟨b,o,none⟩=W2.cell? ⟨b,o,none⟩) (first|with_reducible exact HK5.out|with_reducible exact SK0.out|with_reducible exact sk_alloc SK0.out|with_reducible exact SK1.out|with_reducible exact sk_alloc HK5.out|with_reducible exact sk_set9 HK5.out)
    ((go_at_call 147;refine(hQ _).mono ?_;rintro e w5 ⟨so',c',rfl,hs',hb5⟩;first|(have hbb:Below W2.heap.size W2 w5:=(by with_reducible exact below_next HDR.out hb5);have HK5:=Lib.hid (sk_of hbb))|(have hbb:Below W2.heap.size W2 w5:=(by with_reducible exact below_next HDA.out hb5);have xl:w5.heap[W2.heap.size]?=some (.cells zeroRow 44 (0,0)):=(hb5.block W2.heap.size (lt_of_row HAN.out)).trans HAN.out;have XL:=Lib.hid xl;obtain⟨l0,l1,l2,l3,l4,l5,l6,l7,l8,lz⟩:=term_cells xl;clear xl;have HK5:=Lib.hid (sk_of hbb))))|fail
   ·go_wp2_with fail
    go_meet
    case rel=>exact⟨_,so',c',rfl,rfl,hbb.size,hs',heap_alloc_new _ _,hbb.alloc hbb.size _⟩
   ·go_wp2_with fail
    go_meet
    case rel=>exact⟨_,so',c',rfl,rfl,Nat.le_refl _,hs',set9 _ _ _ _ _ _ _ _ _ XL.out,below9 (Nat.le_refl _) hbb _ _ _ _ _ _ _ _ _⟩
  ·have hQ: ∀wx,Calls Tryz.prog 148 #[.agg #[.int .i64 8,.int .i64 t.int,.int .i64 t.gen,.string t.name,.string t.func,.int .i64 t.arity,.slice so t.items.length c,.string t.bytes,.int .i64 t.bits]] wx (KindQ w0 wx f t):=fun wx=>by have h:=kindQ_8 t so c f w0 wx HT.out HKT.out;rwa [HKT.out]at h
   have n0:W2.cell? ⟨M,8,none⟩=some (.func (.func 148) #[] #[]):=cell_of_row _ _ 8 _ _ _ HM2.out
   first|go_region_held3 (fun w'=>W2.heap.size<=w'.heap.size/\ ∀b o,b<W2.heap.size->w'.cell? ⟨b,o,none⟩=W2.cell? ⟨b,o,none⟩) (first|with_reducible exact HK5.out|with_reducible exact SK0.out|with_reducible exact sk_alloc SK0.out|with_reducible exact SK1.out|with_reducible exact sk_alloc HK5.out|with_reducible exact sk_set9 HK5.out)
    ((go_at_call 148;refine(hQ _).mono ?_;rintro e w5 ⟨so',c',rfl,hs',hb5⟩;first|(have hbb:Below W2.heap.size W2 w5:=(by with_reducible exact below_next HDR.out hb5);have HK5:=Lib.hid (sk_of hbb))|(have hbb:Below W2.heap.size W2 w5:=(by with_reducible exact below_next HDA.out hb5);have xl:w5.heap[W2.heap.size]?=some (.cells zeroRow 44 (0,0)):=(hb5.block W2.heap.size (lt_of_row HAN.out)).trans HAN.out;have XL:=Lib.hid xl;obtain⟨l0,l1,l2,l3,l4,l5,l6,l7,l8,lz⟩:=term_cells xl;clear xl;have HK5:=Lib.hid (sk_of hbb))))|fail
   ·go_wp2_with fail
    go_meet
    case rel=>exact⟨_,so',c',rfl,rfl,hbb.size,hs',heap_alloc_new _ _,hbb.alloc hbb.size _⟩
   ·go_wp2_with fail
    go_meet
    case rel=>exact⟨_,so',c',rfl,rfl,Nat.le_refl _,hs',set9 _ _ _ _ _ _ _ _ _ XL.out,below9 (Nat.le_refl _) hbb _ _ _ _ _ _ _ _ _⟩
  ·have hQ: ∀wx,Below W2.heap.size W2 wx->Calls Tryz.prog 149 #[.agg #[.int .i64 9,.int .i64 t.int,.int .i64 t.gen,.string t.name,.string t.func,.int .i64 t.arity,.slice so t.items.length c,.string t.bytes,.int .i64 t.bits]] wx (KindQ w0 wx f t):=fun wx hbx=>by have h:=kindQ_9 t so c f w0 wx HT.out ((HB.out.trans (HB2.out.mono HWB.out)).trans (hbx.mono (Nat.le_trans HB.out.size HB2.out.size))) HOK.out.2.2.2.2.2.2.1 HKT.out;rwa [HKT.out]at h
   have n0:W2.cell? ⟨M,9,none⟩=some (.func (.func 149) #[] #[]):=cell_of_row _ _ 9 _ _ _ HM2.out
   first|go_region_held3 (fun w'=>W2.heap.size<=w'.heap.size/\ ∀b o,b<W2.heap.size->w'.cell? ⟨b,o,none⟩=W2.cell? ⟨b,o,none⟩) (first|with_reducible exact HK5.out|with_reducible exact SK0.out|with_reducible exact sk_alloc SK0.out|with_reducible exact SK1.out|with_reducible exact sk_alloc HK5.out|with_reducible exact sk_set9 HK5.out)
    ((go_at_call 149;(first|(refine(hQ _ ?_).mono ?_;with_reducible exact HDR.out)|(refine(hQ _ ?_).mono ?_;with_reducible exact HDA.out));rintro e w5 ⟨so',c',rfl,hs',hb5⟩;first|(have hbb:Below W2.heap.size W2 w5:=(by with_reducible exact below_next HDR.out hb5);have HK5:=Lib.hid (sk_of hbb))|(have hbb:Below W2.heap.size W2 w5:=(by with_reducible exact below_next HDA.out hb5);have xl:w5.heap[W2.heap.size]?=some (.cells zeroRow 44 (0,0)):=(hb5.block W2.heap.size (lt_of_row HAN.out)).trans HAN.out;have XL:=Lib.hid xl;obtain⟨l0,l1,l2,l3,l4,l5,l6,l7,l8,lz⟩:=term_cells xl;clear xl;have HK5:=Lib.hid (sk_of hbb))))|fail
   ·go_wp2_with fail
    go_meet
    case rel=>exact⟨_,so',c',rfl,rfl,hbb.size,hs',heap_alloc_new _ _,hbb.alloc hbb.size _⟩
   ·go_wp2_with fail
    go_meet
    case rel=>exact⟨_,so',c',rfl,rfl,Nat.le_refl _,hs',set9 _ _ _ _ _ _ _ _ _ XL.out,below9 (Nat.le_refl _) hbb _ _ _ _ _ _ _ _ _⟩
  ·have hQ: ∀wx,Calls Tryz.prog 150 #[.agg #[.int .i64 10,.int .i64 t.int,.int .i64 t.gen,.string t.name,.string t.func,.int .i64 t.arity,.slice so t.items.length c,.string t.bytes,.int .i64 t.bits]] wx (KindQ w0 wx f t):=fun wx=>by have h:=kindQ_10 t so c f w0 wx HT.out HOK.out.2.2.2.2.2.2.2.1 HOK.out.2.2.2.2.2.2.2.2 HKT.out;rwa [HKT.out]at h
   have n0:W2.cell? ⟨M,10,none⟩=some (.func (.func 150) #[] #[]):=cell_of_row _ _ 10 _ _ _ HM2.out
   first|go_region_held3 (fun w'=>W2.heap.size<=w'.heap.size/\ ∀b o,b<W2.heap.size->w'.cell? ⟨b,o,none⟩=W2.cell? ⟨b,o,none⟩) (first|with_reducible exact HK5.out|with_reducible exact SK0.out|with_reducible exact sk_alloc SK0.out|with_reducible exact SK1.out|with_reducible exact sk_alloc HK5.out|with_reducible exact sk_set9 HK5.out)
    ((go_at_call 150;refine(hQ _).mono ?_;rintro e w5 ⟨so',c',rfl,hs',hb5⟩;first|(have hbb:Below W2.heap.size W2 w5:=(by with_reducible exact below_next HDR.out hb5);have HK5:=Lib.hid (sk_of hbb))|(have hbb:Below W2.heap.size W2 w5:=(by with_reducible exact below_next HDA.out hb5);have xl:w5.heap[W2.heap.size]?=some (.cells zeroRow 44 (0,0)):=(hb5.block W2.heap.size (lt_of_row HAN.out)).trans HAN.out;have XL:=Lib.hid xl;obtain⟨l0,l1,l2,l3,l4,l5,l6,l7,l8,lz⟩:=term_cells xl;clear xl;have HK5:=Lib.hid (sk_of hbb))))|fail
   ·go_wp2_with fail
    go_meet
    case rel=>exact⟨_,so',c',rfl,rfl,hbb.size,hs',heap_alloc_new _ _,hbb.alloc hbb.size _⟩
   ·go_wp2_with fail
    go_meet
    case rel=>exact⟨_,so',c',rfl,rfl,Nat.le_refl _,hs',set9 _ _ _ _ _ _ _ _ _ XL.out,below9 (Nat.le_refl _) hbb _ _ _ _ _ _ _ _ _⟩
 case rest=>
  obtain⟨L,so',c',rfl,rfl,hL,hsl,hLr,hBx⟩:=hcut
  rename World=>wc
  have HSL:=Lib.hid hsl
  clear hsl
  obtain⟨x0,x1,x2,x3,x4,x5,x6,x7,x8,xz⟩:=term_cells hLr
  refine zzK3 hLr hBx hL fun HLR HBX HL=>?_
  clear hLr hBx hL q0 q1 q2 q3 q4 q5 q6 q7 q8 b0 hl0 hl1
  have HMl2:=Lib.hid hMl2
  clear hMl2
  have hq:okK t=false\/okK t=true:=by cases okK t<;>simp
  rcases hq with hq|hq
  ·have E:Hid (formF (f+1) t=false):=Lib.hid (by unfold formF locB;rw [hq];rfl)
   rw [hq]
   clear hq
   go_wp2_with fail
   go_ret
   exact⟨retb E.out.symm,grownBy_below (HBW2.out.trans ((HBX.out.mono (HBW2.out.size)).setCell (p:=⟨L,0,none⟩) (Nat.le_trans HBW2.out.size HL.out) _)) _,s,Int.le_refl _,by omega,(heap_setCell_other _ _ _ _ (Nat.ne_of_lt (Nat.lt_of_lt_of_le HMl2.out HL.out))).trans (HM2.out.below HBX.out),fun h=>absurd (E.out.symm.trans h) (by decide)⟩
  ·have HQ:=Lib.hid hq
   rw [hq]
   clear hq
   go_upto_region 5 with fail
   have r6:(wc.setCell ⟨L,0,none⟩ (.int .i64 0)).heap[L]?=some (.cells #[.int .i64 0,.int .i64 (leftT t).int,.int .i64 (leftT t).gen,.string (leftT t).name,.string (leftT t).func,.int .i64 (leftT t).arity,.slice so' (leftT t).items.length c',.string (leftT t).bytes,.int .i64 (leftT t).bits] 44 (0,0)):=heap_setCell_same _ _ 0 _ _ (.int .i64 0) HLR.out
   have hB6:Below w.heap.size w (wc.setCell ⟨L,0,none⟩ (.int .i64 0)):=HBW2.out.trans ((HBX.out.mono (HBW2.out.size)).setCell (p:=⟨L,0,none⟩) (Nat.le_trans HBW2.out.size HL.out) _)
   have hB62:Below W2.heap.size W2 (wc.setCell ⟨L,0,none⟩ (.int .i64 0)):=HBX.out.setCell (p:=⟨L,0,none⟩) HL.out _
   have HM6:Hid (MeasAt M s (wc.setCell ⟨L,0,none⟩ (.int .i64 0))):=Lib.hid (HM2.out.below hB62)
   have HR0:=Lib.hid ((hB62.block B (lt_of_row R0.out)).trans R0.out)
   have HR1:=Lib.hid ((hB62.block (B+1) (lt_of_row R1.out)).trans R1.out)
   have HB6:=Lib.hid hB6
   clear hB6 hB62 x0 x1 x2 x3 x4 x5 x6 x7 x8 xz
   generalize wc.setCell ⟨L,0,none⟩ (.int .i64 0)=w6 at *
   have HB06:Hid (Below w0.heap.size w0 w6):=Lib.hid (HB.out.trans (HB6.out.mono HB.out.size))
   have hSM:Calls Tryz.prog 151 #[.agg #[.int .i64 0,.int .i64 (leftT t).int,.int .i64 (leftT t).gen,.string (leftT t).name,.string (leftT t).func,.int .i64 (leftT t).arity,.slice so' (leftT t).items.length c',.string (leftT t).bytes,.int .i64 (leftT t).bits],.agg #[.int .i64 0,.int .i64 0,.int .i64 0,.string ⟨#[]⟩,.string ⟨#[]⟩,.int .i64 0,.slice none 0 0,.string ⟨#[]⟩,.int .i64 0]] w6 fun e w'=>e= .returned (.bool (sameF (f+1) (left0 t) zeroTm))/\Below w6.heap.size w6 w':=same_any f (left0 t) zeroTm so' none c' 0 w6 (HSL.out.tms HB06.out) (SlAt.nil _ _ _ _) (Nat.le_trans (leftT_len t) HOK.out.2.2.2.2.2.2.1) (Nat.zero_le _)
   have HLO:Hid ((true&&sameF (f+1) (left0 t) zeroTm)=locB t):=Lib.hid (by rw [<-HQ.out];exact loc_of f t)
   obtain⟨x0,x1,x2,x3,x4,x5,x6,x7,x8,xz⟩:=term_cells r6
   clear r6 xz
   generalize sameF (f+1) (left0 t) zeroTm=q at *
   cases q with
   |false=>
    have E:Hid (formF (f+1) t=false):=Lib.hid (by unfold formF;rw [<-HLO.out];rfl)
    go_wp2_with fail
    refine hSM.mono ?_
    rintro e w7 ⟨rfl,hb7⟩
    go_wp2_with fail
    go_ret
    exact⟨retb E.out.symm,grownBy_below (below_next HB6.out hb7) _,s,Int.le_refl _,by omega,HM6.out.below hb7,fun h=>absurd (E.out.symm.trans h) (by decide)⟩
   |true=>
    have HLB:Hid (locB t=true):=Lib.hid HLO.out.symm
    go_wp2_with fail
    refine hSM.mono ?_
    rintro e w7 ⟨rfl,hb7⟩
    have hR0:=(hb7.block B (lt_of_row HR0.out)).trans HR0.out
    have hR1:=(hb7.block (B+1) (lt_of_row HR1.out)).trans HR1.out
    have HM7:=Lib.hid (HM6.out.below hb7)
    have HB7:=Lib.hid (below_next HB6.out hb7)
    clear hb7 hSM x0 x1 x2 x3 x4 x5 x6 x7 x8
    obtain⟨y0,y1,y2,y3,y4,y5,y6,y7,y8,yz⟩:=term_cells hR1
    have b0:w7.cell? ⟨B,0,none⟩=some (.pointer (some ⟨M,0,none⟩)):=by rw [cell_of_row _ _ _ _ _ _ hR0];rfl
    obtain⟨m11,mz⟩:=HM7.out.cell
    have HR07:=Lib.hid hR0;have HR17:=Lib.hid hR1
    clear hR0 hR1 yz
    by_cases k9:tk=9
    ·subst k9
     have hl2:=len_bound HLB.out HKT.out
     have hcap:(capF (f+1) t:Int)=300+(t.items.length:Int)+(sumN (t.items.map (capF f)):Int):=by unfold capF;omega
     have hwr1:=zzV t.items.length (by omega)
     have hwr2:IntKind.i64.wrap (s+((t.items.length:Int)-1))=s+((t.items.length:Int)-1):=by rw [IntKind.wrap_i64];omega
     go_upto_region 10 with fail
     go_region
     go_upto_region 13 with fail
     have HM8:Hid (MeasAt M (s+((t.items.length:Int)-1)) (w7.setCell ⟨M,11,none⟩ (.int .i64 (s+((t.items.length:Int)-1)))).drew):=Lib.hid (meas_set HM7.out)
     have HG8:Hid (w.grownBy (w7.setCell ⟨M,11,none⟩ (.int .i64 (s+((t.items.length:Int)-1)))).drew (some M)):=Lib.hid (grownBy_drew (grownBy_trans (grownBy_below HB7.out _) (grownBy_set _ _ _ _)))
     have hR0:(w7.setCell ⟨M,11,none⟩ (.int .i64 (s+((t.items.length:Int)-1)))).drew.heap[B]?=some (.cells #[.pointer (some ⟨M,0,none⟩)] 193 (0,0)):=(heap_setCell_other _ _ _ _ (Nat.ne_of_gt HML.out)).trans HR07.out
     have hR1:(w7.setCell ⟨M,11,none⟩ (.int .i64 (s+((t.items.length:Int)-1)))).drew.heap[B+1]?=some (.cells #[.int .i64 9,.int .i64 t.int,.int .i64 t.gen,.string t.name,.string t.func,.int .i64 t.arity,.slice so t.items.length c,.string t.bytes,.int .i64 t.bits] 44 (0,0)):=(heap_setCell_other _ _ _ _ (Nat.ne_of_gt (Nat.lt_succ_of_lt HML.out))).trans HR17.out
     have HB08:Hid (Below w0.heap.size w0 (w7.setCell ⟨M,11,none⟩ (.int .i64 (s+((t.items.length:Int)-1)))).drew):=Lib.hid (below_grown HB.out HG8.out hM)
     clear y0 y1 y2 y3 y4 y5 y6 y7 y8 b0 m11 mz
     generalize(w7.setCell ⟨M,11,none⟩ (.int .i64 (s+((t.items.length:Int)-1)))).drew=w8 at *
     obtain⟨y0,y1,y2,y3,y4,y5,y6,y7,y8,yz⟩:=term_cells hR1
     have hCF:=HC.out t.items so c M B (s+((t.items.length:Int)-1)) w0 w8 HT.out HOK.out.2.2.2.2.2.2.1 HB08.out hM HM8.out hR0 (Nat.ne_of_gt HML.out) (by omega) (by omega)
     have EF:Hid (formF (f+1) t=t.items.all (formF f)):=Lib.hid (by unfold formF;rw [HLB.out];rfl)
     have EW:Hid (wholeF (f+1) t=((t.items.length:Int)-1)+sumI (t.items.map (wholeF f))):=Lib.hid (by unfold wholeF ownSize;rw [HKT.out];rfl)
     clear hR0 hR1 yz
     generalize t.items.all (formF f)=al at *
     generalize sumI (t.items.map (wholeF f))=sw at *
     generalize sumN (t.items.map (capF f))=sc at *
     cases al with
     |false=>
      go_wp2_with fail
      refine hCF.mono ?_
      rintro e w9 ⟨rfl,hg9,s',z1,z2,z3,z4⟩
      go_wp2_with fail
      go_ret
      exact⟨retb EF.out.symm,grownBy_trans HG8.out hg9,s',by omega,by omega,z3,fun h=>absurd (EF.out.symm.trans h) (by decide)⟩
     |true=>
      go_wp2_with fail
      refine hCF.mono ?_
      rintro e w9 ⟨rfl,hg9,s',z1,z2,z3,z4⟩
      go_wp2_with fail
      go_ret
      exact⟨retb EF.out.symm,grownBy_trans HG8.out hg9,s',by omega,by omega,z3,fun _=>by rw [EW.out,z4 (by trivial)];omega⟩
    ·by_cases k10:tk=10
     ·subst k10
      obtain⟨hl2,hl3⟩:=bits_bound HLB.out HKT.out
      have hcap:(capF (f+1) t:Int)=300+(t.items.length:Int)+(sumN (t.items.map (capF f)):Int):=by unfold capF;omega
      have hwr0:IntKind.i64.wrap (t.bits+63)=t.bits+63:=by rw [IntKind.wrap_i64];omega
      have hwd:(t.bits+63).tdiv 64=(t.bits+63)/64:=by rw [Int.tdiv_eq_ediv_of_nonneg (by omega)]
      have hwr1:IntKind.i64.wrap (1+(t.bits+63)/64)=1+(t.bits+63)/64:=by rw [IntKind.wrap_i64];omega
      have hwr2:IntKind.i64.wrap (s+(1+(t.bits+63)/64))=s+(1+(t.bits+63)/64):=by rw [IntKind.wrap_i64];omega
      go_upto_region 12 with fail
      go_region
      go_upto_region 13 with fail
      have HM8:Hid (MeasAt M (s+(1+(t.bits+63)/64)) (w7.setCell ⟨M,11,none⟩ (.int .i64 (s+(1+(t.bits+63)/64)))).drew):=Lib.hid (meas_set HM7.out)
      have HG8:Hid (w.grownBy (w7.setCell ⟨M,11,none⟩ (.int .i64 (s+(1+(t.bits+63)/64)))).drew (some M)):=Lib.hid (grownBy_drew (grownBy_trans (grownBy_below HB7.out _) (grownBy_set _ _ _ _)))
      have hR0:(w7.setCell ⟨M,11,none⟩ (.int .i64 (s+(1+(t.bits+63)/64)))).drew.heap[B]?=some (.cells #[.pointer (some ⟨M,0,none⟩)] 193 (0,0)):=(heap_setCell_other _ _ _ _ (Nat.ne_of_gt HML.out)).trans HR07.out
      have hR1:(w7.setCell ⟨M,11,none⟩ (.int .i64 (s+(1+(t.bits+63)/64)))).drew.heap[B+1]?=some (.cells #[.int .i64 10,.int .i64 t.int,.int .i64 t.gen,.string t.name,.string t.func,.int .i64 t.arity,.slice so t.items.length c,.string t.bytes,.int .i64 t.bits] 44 (0,0)):=(heap_setCell_other _ _ _ _ (Nat.ne_of_gt (Nat.lt_succ_of_lt HML.out))).trans HR17.out
      have HB08:Hid (Below w0.heap.size w0 (w7.setCell ⟨M,11,none⟩ (.int .i64 (s+(1+(t.bits+63)/64)))).drew):=Lib.hid (below_grown HB.out HG8.out hM)
      clear y0 y1 y2 y3 y4 y5 y6 y7 y8 b0 m11 mz
      generalize(w7.setCell ⟨M,11,none⟩ (.int .i64 (s+(1+(t.bits+63)/64)))).drew=w8 at *
      obtain⟨y0,y1,y2,y3,y4,y5,y6,y7,y8,yz⟩:=term_cells hR1
      have hCF:=HC.out t.items so c M B (s+(1+(t.bits+63)/64)) w0 w8 HT.out HOK.out.2.2.2.2.2.2.1 HB08.out hM HM8.out hR0 (Nat.ne_of_gt HML.out) (by omega) (by omega)
      have EF:Hid (formF (f+1) t=t.items.all (formF f)):=Lib.hid (by unfold formF;rw [HLB.out];rfl)
      have EW:Hid (wholeF (f+1) t=(1+(t.bits+63)/64)+sumI (t.items.map (wholeF f))):=Lib.hid (by unfold wholeF ownSize;rw [HKT.out];rfl)
      clear hR0 hR1 yz
      generalize t.items.all (formF f)=al at *
      generalize sumI (t.items.map (wholeF f))=sw at *
      generalize sumN (t.items.map (capF f))=sc at *
      cases al with
      |false=>
       go_wp2_with fail
       refine hCF.mono ?_
       rintro e w9 ⟨rfl,hg9,s',z1,z2,z3,z4⟩
       go_wp2_with fail
       go_ret
       exact⟨retb EF.out.symm,grownBy_trans HG8.out hg9,s',by omega,by omega,z3,fun h=>absurd (EF.out.symm.trans h) (by decide)⟩
      |true=>
       go_wp2_with fail
       refine hCF.mono ?_
       rintro e w9 ⟨rfl,hg9,s',z1,z2,z3,z4⟩
       go_wp2_with fail
       go_ret
       exact⟨retb EF.out.symm,grownBy_trans HG8.out hg9,s',by omega,by omega,z3,fun _=>by rw [EW.out,z4 (by trivial)];omega⟩
     ·have hcap:(capF (f+1) t:Int)=300+(t.items.length:Int)+(sumN (t.items.map (capF f)):Int):=by unfold capF;omega
      have t9:(tk==9)=false:=beq_eq_false_iff_ne.2 k9
      have t10:(tk==10)=false:=beq_eq_false_iff_ne.2 k10
      have K9:=Lib.hid k9
      have K10:=Lib.hid k10
      clear k9 k10
      go_upto_region 13 with fail
      have HM8:Hid (MeasAt M (s+1) (w7.setCell ⟨M,11,none⟩ (.int .i64 (s+1)))):=Lib.hid (meas_set HM7.out)
      have HG8:Hid (w.grownBy (w7.setCell ⟨M,11,none⟩ (.int .i64 (s+1))) (some M)):=Lib.hid ((grownBy_trans (grownBy_below HB7.out _) (grownBy_set _ _ _ _)))
      have hR0:(w7.setCell ⟨M,11,none⟩ (.int .i64 (s+1))).heap[B]?=some (.cells #[.pointer (some ⟨M,0,none⟩)] 193 (0,0)):=(heap_setCell_other _ _ _ _ (Nat.ne_of_gt HML.out)).trans HR07.out
      have hR1:(w7.setCell ⟨M,11,none⟩ (.int .i64 (s+1))).heap[B+1]?=some (.cells #[.int .i64 tk,.int .i64 t.int,.int .i64 t.gen,.string t.name,.string t.func,.int .i64 t.arity,.slice so t.items.length c,.string t.bytes,.int .i64 t.bits] 44 (0,0)):=(heap_setCell_other _ _ _ _ (Nat.ne_of_gt (Nat.lt_succ_of_lt HML.out))).trans HR17.out
      have HB08:Hid (Below w0.heap.size w0 (w7.setCell ⟨M,11,none⟩ (.int .i64 (s+1)))):=Lib.hid (below_grown HB.out HG8.out hM)
      clear y0 y1 y2 y3 y4 y5 y6 y7 y8 b0 m11 mz
      generalize(w7.setCell ⟨M,11,none⟩ (.int .i64 (s+1)))=w8 at *
      obtain⟨y0,y1,y2,y3,y4,y5,y6,y7,y8,yz⟩:=term_cells hR1
      have hCF:=HC.out t.items so c M B (s+1) w0 w8 HT.out HOK.out.2.2.2.2.2.2.1 HB08.out hM HM8.out hR0 (Nat.ne_of_gt HML.out) (by omega) (by omega)
      have EF:Hid (formF (f+1) t=t.items.all (formF f)):=Lib.hid (by unfold formF;rw [HLB.out];rfl)
      have EW:Hid (wholeF (f+1) t=1+sumI (t.items.map (wholeF f))):=Lib.hid (by unfold wholeF ownSize;rw [HKT.out];rw [if_neg K9.out,if_neg K10.out])
      clear hR0 hR1 yz
      generalize t.items.all (formF f)=al at *
      generalize sumI (t.items.map (wholeF f))=sw at *
      generalize sumN (t.items.map (capF f))=sc at *
      cases al with
      |false=>
       go_wp2_with fail
       refine hCF.mono ?_
       rintro e w9 ⟨rfl,hg9,s',z1,z2,z3,z4⟩
       go_wp2_with fail
       go_ret
       exact⟨retb EF.out.symm,grownBy_trans HG8.out hg9,s',by omega,by omega,z3,fun h=>absurd (EF.out.symm.trans h) (by decide)⟩
      |true=>
       go_wp2_with fail
       refine hCF.mono ?_
       rintro e w9 ⟨rfl,hg9,s',z1,z2,z3,z4⟩
       go_wp2_with fail
       go_ret
       exact⟨retb EF.out.symm,grownBy_trans HG8.out hg9,s',by omega,by omega,z3,fun _=>by rw [EW.out,z4 (by trivial)];omega⟩
theorem of_any {f:Nat} (HC:Hid (CfP f)):OfP f:=fun t so c M s w0 w ht hok hb hM hm hs0 hs1=>by
 by_cases hk:0<=t.kind/\t.kind<11
 ·exact of_in HC t so c M s w0 w ht hok hb hM hm hs0 hs1 hk.1 hk.2
 ·exact of_out t so c M s w0 w hm hk
theorem cnt_after {M:Nat} {s:Int} {c1:Nat} {o1:Bool} {a1:Int} {w w1 w2:World} (h:Below w.heap.size w w1) (h1:CntQ M s c1 o1 a1 w1 w2):CntQ M s c1 o1 a1 w w2:=⟨grownBy_trans (grownBy_below h _) h1.1,h1.2⟩
theorem of1_any {f:Nat} (HO:Hid (OfP f)) (t:Tm) (so:zzA) (c M mb:Nat) (s:Int) (w0 w:World) (ht:SlAt w0 9 (TmAt w0 f) so t.items) (hok:t.Ok) (hb:Below w0.heap.size w0 w) (hM:w0.heap.size<=M) (hm:MeasAt M s w) (hmb:w.heap[mb]?=some (.cells #[.pointer (some ⟨M,0,none⟩)] 193 (0,0))) (hs0:0<=s) (hs1:s+capF (f+1) t<=1152921504606846976):
  Calls Tryz.prog 153 #[.agg #[.int .i64 t.kind,.int .i64 t.int,.int .i64 t.gen,.string t.name,.string t.func,.int .i64 t.arity,.slice so t.items.length c,.string t.bytes,.int .i64 t.bits],.pointer (some ⟨mb,0,none⟩)] w fun e w'=>e= .returned (.bool (!(formF (f+1) t)))/\CntQ M s (capF (f+1) t) (formF (f+1) t) (wholeF (f+1) t) w w':=by
 have hB:Below w.heap.size w (w.alloc (.cells #[.int .i64 t.kind,.int .i64 t.int,.int .i64 t.gen,.string t.name,.string t.func,.int .i64 t.arity,.slice so t.items.length c,.string t.bytes,.int .i64 t.bits] 44)):=zzE _ _
 have hO:=HO.out t so c M s w0 (w.alloc (.cells #[.int .i64 t.kind,.int .i64 t.int,.int .i64 t.gen,.string t.name,.string t.func,.int .i64 t.arity,.slice so t.items.length c,.string t.bytes,.int .i64 t.bits] 44)) ht hok (hb.trans (hB.mono hb.size)) hM (hm.below hB) hs0 hs1
 have c0:w.cell? ⟨mb,0,none⟩=some (.pointer (some ⟨M,0,none⟩)):=by rw [cell_of_row _ _ _ _ _ _ hmb];rfl
 have hl:=lt_of_row hmb
 have HBB:=Lib.hid hB
 clear hmb hB hm hb ht hok hs0 hs1
 generalize formF (f+1) t=r at *
 cases r
 all_goals
  go_enter Tryz.func153,Tryz.ntmps153
  go_wp2_with fail
  refine hO.mono ?_
  rintro e w5 ⟨rfl,hq⟩
  have HQ:=Lib.hid hq
  clear hq
  go_wp2_with fail
  go_ret
  exact⟨rfl,cnt_after HBB.out HQ.out⟩
theorem sumN_drop {f:Nat} {l:List Tm} {k:Nat} (h:k<l.length):sumN ((l.drop k).map (capF f))=capF f l[k]+sumN ((l.drop (k+1)).map (capF f)):=by
 rw [List.drop_eq_getElem_cons h,List.map_cons,sumN]
theorem sumI_drop {f:Nat} {l:List Tm} {k:Nat} (h:k<l.length):sumI ((l.drop k).map (wholeF f))=wholeF f l[k]+sumI ((l.drop (k+1)).map (wholeF f)):=by
 rw [List.drop_eq_getElem_cons h,List.map_cons,sumI]
theorem all_drop {p:Tm->Bool} {l:List Tm} {k:Nat} (h:k<l.length):(l.drop k).all p=(p l[k]&&(l.drop (k+1)).all p):=by
 rw [List.drop_eq_getElem_cons h,List.all_cons]
def IdxQ (M:Nat) (s:Int) (cap:Nat) (ok:Bool) (add:Int) (w:World) (e:Ending) (w':World):Prop:=(∃i:Int,e= .returned (.int .i64 i)/\decide (0<=i)= !ok)/\CntQ M s cap ok add w w'
def GoQ (M:Nat) (s:Int) (f:Nat) (l:List Tm) (k:Nat) (w wr:World):Prop:=w.grownBy wr (some M)/\ ∃s',s<=s'/\s'+sumN ((l.drop k).map (capF f))<=s+sumN (l.map (capF f))/\MeasAt M s' wr/\l.all (formF f)=(l.drop k).all (formF f)/\s'+sumI ((l.drop k).map (wholeF f))=s+sumI (l.map (wholeF f))
theorem idx_succ {f:Nat} (HO:Hid (OfP f)) (l:List Tm) (ao:zzA) (c M mb:Nat) (s:Int) (w0 w:World) (ht:SlAt w0 9 (TmAt w0 (f+1)) ao l) (hl:l.length<=maxLen) (hb:Below w0.heap.size w0 w) (hM:w0.heap.size<=M) (hm:MeasAt M s w) (hmb:w.heap[mb]?=some (.cells #[.pointer (some ⟨M,0,none⟩)] 193 (0,0))) (hne:mb≠M) (hs0:0<=s) (hs1:s+sumN (l.map (capF (f+1)))<=1152921504606846976):
  Calls Tryz.prog 184 #[.slice ao l.length c,.func (.func 153) #[] #[.pointer (some ⟨mb,0,none⟩)]] w (IdxQ M s (sumN (l.map (capF (f+1)))) (l.all (formF (f+1))) (sumI (l.map (wholeF (f+1)))) w):=by
 unfold maxLen at hl
 refine zzK3 ht hb hmb fun HT HB HMB=>?_
 have HG:Hid (GoQ M s (f+1) l 0 w w):=Lib.hid ⟨grownBy_refl _ _,s,Int.le_refl _,by rw [List.drop_zero];omega,hm,rfl,by rw [List.drop_zero]⟩
 have HML:=Lib.hid (lt_of_row hmb)
 clear ht hb hmb hm
 go_enter Tryz.func184,Tryz.ntmps184
 go_wp2_with fail
 go_loopw [5,8] (fun _ i wr=> ∃k:Nat,k<=l.length/\i= .int .i64 k/\Hid (GoQ M s (f+1) l k w wr)) (fun _ i _=>l.length-(intOf i).toNat)
 case atStart=>exact⟨0,Nat.zero_le _,rfl,HG⟩
 case round=>
  obtain⟨k,hk,rfl,HK⟩:=hrel
  rename World=>wr
  obtain⟨g1,s',z1,z2,z3,z4,z5⟩:=HK.out
  have hB0r:Below w0.heap.size w0 wr:=below_grown HB.out g1 hM
  have hmbr:=(g1.block mb HML.out (fun e=>hne (Option.some.inj e))).trans HMB.out
  by_cases hlt:k<l.length
  ·have hsa:=HT.out.tms hB0r
   obtain⟨b1,off1,ai,ci,hao,hb1,q0,q1,q2,q3,q4,q5,q6,q7,q8,hit,hok⟩:=hsa.tm hlt
   obtain⟨b1',off1',ai',ci',hao',hb1',q0',q1',q2',q3',q4',q5',q6',q7',q8',hit',hok'⟩:=HT.out.tm hlt
   subst hao
   obtain⟨rfl,rfl⟩:b1=b1'/\off1=off1':=by injection hao' with h;injection h with h1 h2;exact⟨h1,h2⟩
   have hai:ai=ai':=by
    have h:=(hB0r.cell (p:=⟨b1,off1+k*9+6,none⟩) hb1').symm.trans q6
    rw [q6']at h;injection h with h;injection h with h1 h2;exact h1.symm
   subst hai
   rw [sumN_drop hlt]at z2
   rw [all_drop hlt]at z4
   rw [sumI_drop hlt]at z5
   have hO:=of1_any HO l[k] ai ci M mb s' w0 wr hit' hok hB0r hM z3 hmbr (by omega) (by omega)
   refine zzK3 z2 z4 z5 fun Z2 Z4 Z5=>?_
   clear hao' q0' q1' q2' q3' q4' q5' q6' q7' q8' hit' hok' hit hok hsa z2 z4 z5
   generalize l[k]=x at *
   cases hr:formF (f+1) x with
   |true=>
    rw [hr]at hO
    have Z4':Hid (l.all (formF (f+1))=(l.drop (k+1)).all (formF (f+1))):=Lib.hid (by rw [Z4.out,hr,Bool.true_and])
    clear hr
    go_wp2_with fail
    refine hO.mono ?_
    rintro e w5 ⟨rfl,g5,s5,y1,y2,y3,y4⟩
    have HG5:Hid (GoQ M s (f+1) l (k+1) w w5):=Lib.hid ⟨grownBy_trans g1 g5,s5,by omega,by have:=Z2.out;omega,y3,Z4'.out,by have:=Z5.out;have:=y4 rfl;omega⟩
    go_wp2_with fail
    go_roundw
    case rel=>exact⟨k+1,by omega,by go_num,HG5⟩
    case measure=>simp [intOf];omega
   |false=>
    rw [hr]at hO
    have Z4':Hid (l.all (formF (f+1))=false):=Lib.hid (by rw [Z4.out,hr,Bool.false_and])
    clear hr
    go_wp2_with fail
    refine hO.mono ?_
    rintro e w5 ⟨rfl,g5,s5,y1,y2,y3,y4⟩
    have HF:Hid (CntQ M s (sumN (l.map (capF (f+1)))) (l.all (formF (f+1))) (sumI (l.map (wholeF (f+1)))) w w5):=Lib.hid ⟨grownBy_trans g1 g5,s5,by omega,by have:=Z2.out;omega,y3,fun h=>absurd (Z4'.out.symm.trans h) (by decide)⟩
    have HE:Hid (decide (0<=(k:Int))= !(l.all (formF (f+1)))):=Lib.hid (by rw [Z4'.out,decide_eq_true (by omega)];rfl)
    go_wp2_with fail
    go_ret
    exact⟨⟨_,rfl,HE.out⟩,HF.out⟩
  ·have hke:l.drop k= []:=List.drop_eq_nil_of_le (by omega)
   rw [hke]at z2 z4 z5
   have HF:Hid (CntQ M s (sumN (l.map (capF (f+1)))) (l.all (formF (f+1))) (sumI (l.map (wholeF (f+1)))) w wr):=Lib.hid ⟨g1,s',z1,by simp only [List.map_nil,sumN]at z2;omega,z3,fun _=>by simp only [List.map_nil,sumI]at z5;omega⟩
   have HE:Hid (decide (0<=(-1:Int))= !(l.all (formF (f+1)))):=Lib.hid (by rw [z4];rfl)
   clear z2 z4 z5 hke
   go_wp2_with fail
   go_ret
   exact⟨⟨_,rfl,HE.out⟩,HF.out⟩
theorem idx_zero (ao:zzA) (c M mb:Nat) (s:Int) (w:World) (hm:MeasAt M s w):
  Calls Tryz.prog 184 #[.slice ao 0 c,.func (.func 153) #[] #[.pointer (some ⟨mb,0,none⟩)]] w (IdxQ M s 0 true 0 w):=by
 have HF:Hid (CntQ M s 0 true 0 w w):=Lib.hid ⟨grownBy_refl _ _,s,Int.le_refl _,by omega,hm,fun _=>by omega⟩
 clear hm
 go_enter Tryz.func184,Tryz.ntmps184
 go_wp2_with fail
 go_loop [8] (fun i=>i= .int .i64 0) (fun _=>0)
 case atStart=>rfl
 case round=>
  obtain rfl:=hrel
  go_wp2_with fail
  go_ret
  exact⟨⟨_,rfl,rfl⟩,HF.out⟩
theorem cf_of (l:List Tm) (ao:zzA) (c M mb:Nat) (s:Int) (cap:Nat) (ok:Bool) (add:Int) (w:World)
  (h:Calls Tryz.prog 184 #[.slice ao l.length c,.func (.func 153) #[] #[.pointer (some ⟨mb,0,none⟩)]] w (IdxQ M s cap ok add w)):
  Calls Tryz.prog 152 #[.slice ao l.length c,.func (.func 153) #[] #[.pointer (some ⟨mb,0,none⟩)]] w fun e w'=>e= .returned (.bool (!ok))/\CntQ M s cap ok add w w':=by
 go_enter Tryz.func152,Tryz.ntmps152
 go_wp2_with fail
 refine h.mono ?_
 rintro e w5 ⟨⟨i,rfl,hi⟩,hq⟩
 have HI:=Lib.hid hi;have HQ:=Lib.hid hq
 clear hi hq
 go_wp2_with fail
 go_ret
 exact⟨retb HI.out,HQ.out⟩
theorem cf_all: ∀f,CfP f
 |0=>fun l ao c M mb s w0 w ht hl hb hM hm hmb hne hs0 hs1=>by
  obtain rfl:=ht.zero
  exact cf_of [] ao c M mb s 0 true 0 w (idx_zero ao c M mb s w hm)
 |f+1=>fun l ao c M mb s w0 w ht hl hb hM hm hmb hne hs0 hs1=>
  cf_of l ao c M mb s _ _ _ w (idx_succ (Lib.hid (of_any (Lib.hid (cf_all f)))) l ao c M mb s w0 w ht hl hb hM hm hmb hne hs0 hs1)
theorem of_all (f:Nat):OfP f:=of_any (Lib.hid (cf_all f))
theorem kinds_any (w:World):Calls Tryz.prog 93 #[] w fun e w'=>e= .returned (.agg #[.func (.func 142) #[] #[],.func (.func 143) #[] #[],.func (.func 144) #[] #[],.func (.func 140) #[] #[],.func (.func 145) #[] #[],.func (.func 146) #[] #[],.func (.func 140) #[] #[],.func (.func 147) #[] #[],.func (.func 148) #[] #[],.func (.func 149) #[] #[],.func (.func 150) #[] #[]])/\Below w.heap.size w w':=by
 go_enter Tryz.func93,Tryz.ntmps93
 go_wp2_with fail
 exact bodyPost_ret (v:=.agg #[.func (.func 142) #[] #[],.func (.func 143) #[] #[],.func (.func 144) #[] #[],.func (.func 140) #[] #[],.func (.func 145) #[] #[],.func (.func 146) #[] #[],.func (.func 140) #[] #[],.func (.func 147) #[] #[],.func (.func 148) #[] #[],.func (.func 149) #[] #[],.func (.func 150) #[] #[]]) (by simp [results,Tryz.results93,go_sem]) rfl ⟨rfl,zzE _ _⟩
def SumQ (w:World) (ok:Bool) (n:Int) (e:Ending) (w':World):Prop:=e= .returned (.tuple #[.int .i64 (if ok=true then n else 0),.bool ok])/\Below w.heap.size w w'
theorem sumQ_no {w w':World} {ok:Bool} {n:Int} (h:ok=false) (hb:Below w.heap.size w w'):SumQ w ok n (.returned (.tuple #[.int .i64 0,.bool false])) w':=by subst h;exact⟨rfl,hb⟩
theorem sumQ_yes {w w':World} {ok:Bool} {n m:Int} (h:ok=true) (hn:m=n) (hb:Below w.heap.size w w'):SumQ w ok n (.returned (.tuple #[.int .i64 m,.bool true])) w':=by subst h;subst hn;exact⟨rfl,hb⟩
theorem sum_any (f:Nat) (l:List Tm) (ao:zzA) (c:Nat) (w:World) (ht:SlAt w 9 (TmAt w (f+1)) ao l) (hl:l.length<=maxLen) (hs1:(sumN (l.map (capF (f+1))):Int)<=1152921504606846976):
  Calls Tryz.prog 50 #[.slice ao l.length c] w (SumQ w (l.all (formF (f+1))) (sumI (l.map (wholeF (f+1))))):=by
 unfold maxLen at hl
 have HT:=Lib.hid ht
 clear ht
 go_enter Tryz.func50,Tryz.ntmps50
 go_wp2_with fail
 refine(kinds_any _).mono ?_
 rintro e w1 ⟨rfl,hb1⟩
 go_wp2_with fail
 have hm:=heap_alloc_new w1 (.cells #[.func (.func 142) #[] #[],.func (.func 143) #[] #[],.func (.func 144) #[] #[],.func (.func 140) #[] #[],.func (.func 145) #[] #[],.func (.func 146) #[] #[],.func (.func 140) #[] #[],.func (.func 147) #[] #[],.func (.func 148) #[] #[],.func (.func 149) #[] #[],.func (.func 150) #[] #[],.int .i64 0] 198)
 have hb2:Below w.heap.size w (w1.alloc (.cells #[.func (.func 142) #[] #[],.func (.func 143) #[] #[],.func (.func 144) #[] #[],.func (.func 140) #[] #[],.func (.func 145) #[] #[],.func (.func 146) #[] #[],.func (.func 140) #[] #[],.func (.func 147) #[] #[],.func (.func 148) #[] #[],.func (.func 149) #[] #[],.func (.func 150) #[] #[],.int .i64 0] 198)):=hb1.alloc hb1.size _
 have hM:w.heap.size<=w1.heap.size:=hb1.size
 generalize w1.alloc (.cells #[.func (.func 142) #[] #[],.func (.func 143) #[] #[],.func (.func 144) #[] #[],.func (.func 140) #[] #[],.func (.func 145) #[] #[],.func (.func 146) #[] #[],.func (.func 140) #[] #[],.func (.func 147) #[] #[],.func (.func 148) #[] #[],.func (.func 149) #[] #[],.func (.func 150) #[] #[],.int .i64 0] 198)=W at *
 generalize w1.heap.size=M at *
 have HM:Hid (MeasAt M 0 W):=Lib.hid hm
 have HG:Hid (GoQ M 0 (f+1) l 0 W W):=Lib.hid ⟨grownBy_refl _ _,0,Int.le_refl _,by rw [List.drop_zero];omega,hm,rfl,by rw [List.drop_zero]⟩
 have HB:=Lib.hid hb2
 clear hm hb2 hb1
 go_loopw [7,15] (fun _ i wr=> ∃k:Nat,k<=l.length/\i= .int .i64 k/\Hid (GoQ M 0 (f+1) l k W wr)) (fun _ i _=>l.length-(intOf i).toNat)
 case atStart=>exact⟨0,Nat.zero_le _,rfl,HG⟩
 case round=>
  obtain⟨k,hk,rfl,HK⟩:=hrel
  rename World=>wr
  obtain⟨g1,s',z1,z2,z3,z4,z5⟩:=HK.out
  have hB0r:Below w.heap.size w wr:=below_grown HB.out g1 hM
  by_cases hlt:k<l.length
  ·have hsa:=HT.out.tms hB0r
   obtain⟨b1,off1,ai,ci,hao,hb1,q0,q1,q2,q3,q4,q5,q6,q7,q8,hit,hok⟩:=hsa.tm hlt
   obtain⟨b1',off1',ai',ci',hao',hb1',q0',q1',q2',q3',q4',q5',q6',q7',q8',hit',hok'⟩:=HT.out.tm hlt
   subst hao
   obtain⟨rfl,rfl⟩:b1=b1'/\off1=off1':=by injection hao' with h;injection h with h1 h2;exact⟨h1,h2⟩
   have hai:ai=ai':=by
    have h:=(hB0r.cell (p:=⟨b1,off1+k*9+6,none⟩) hb1').symm.trans q6
    rw [q6']at h;injection h with h;injection h with h1 h2;exact h1.symm
   subst hai
   rw [sumN_drop hlt]at z2
   rw [all_drop hlt]at z4
   rw [sumI_drop hlt]at z5
   have hbx:Below wr.heap.size wr (wr.alloc (.cells #[.int .i64 l[k].kind,.int .i64 l[k].int,.int .i64 l[k].gen,.string l[k].name,.string l[k].func,.int .i64 l[k].arity,.slice ai l[k].items.length ci,.string l[k].bytes,.int .i64 l[k].bits] 44)):=zzE _ _
   have HGX:Hid (W.grownBy (wr.alloc (.cells #[.int .i64 l[k].kind,.int .i64 l[k].int,.int .i64 l[k].gen,.string l[k].name,.string l[k].func,.int .i64 l[k].arity,.slice ai l[k].items.length ci,.string l[k].bytes,.int .i64 l[k].bits] 44)) (some M)):=Lib.hid (grownBy_trans g1 (grownBy_below hbx _))
   have hO:=of_all f l[k] ai ci M s' w (wr.alloc (.cells #[.int .i64 l[k].kind,.int .i64 l[k].int,.int .i64 l[k].gen,.string l[k].name,.string l[k].func,.int .i64 l[k].arity,.slice ai l[k].items.length ci,.string l[k].bytes,.int .i64 l[k].bits] 44)) hit' hok' (hB0r.trans (hbx.mono hB0r.size)) hM (z3.below hbx) (by omega) (by omega)
   refine zzK3 z2 z4 z5 fun Z2 Z4 Z5=>?_
   clear hao' q0' q1' q2' q3' q4' q5' q6' q7' q8' hit' hok' hit hok hsa z2 z4 z5 hbx
   generalize l[k]=x at *
   cases hr:formF (f+1) x with
   |true=>
    rw [hr]at hO
    have Z4':Hid (l.all (formF (f+1))=(l.drop (k+1)).all (formF (f+1))):=Lib.hid (by rw [Z4.out,hr,Bool.true_and])
    clear hr
    go_wp2_with fail
    refine hO.mono ?_
    rintro e w5 ⟨rfl,g5,s5,y1,y2,y3,y4⟩
    have HG5:Hid (GoQ M 0 (f+1) l (k+1) W w5):=Lib.hid ⟨grownBy_trans HGX.out g5,s5,by omega,by have:=Z2.out;omega,y3,Z4'.out,by have:=Z5.out;have:=y4 rfl;omega⟩
    go_wp2_with fail
    go_roundw
    case rel=>exact⟨k+1,by omega,by go_num,HG5⟩
    case measure=>simp [intOf];omega
   |false=>
    rw [hr]at hO
    have Z4':Hid (l.all (formF (f+1))=false):=Lib.hid (by rw [Z4.out,hr,Bool.false_and])
    clear hr
    go_wp2_with fail
    refine hO.mono ?_
    rintro e w5 ⟨rfl,g5,s5,y1,y2,y3,y4⟩
    have HF:Hid (Below w.heap.size w w5):=Lib.hid (below_grown HB.out (grownBy_trans HGX.out g5) hM)
    go_wp2_with fail
    go_ret2
    exact sumQ_no Z4'.out HF.out
  ·have hke:l.drop k= []:=List.drop_eq_nil_of_le (by omega)
   rw [hke]at z4 z5
   have E1:Hid (l.all (formF (f+1))=true):=Lib.hid z4
   have E2:Hid (s'=sumI (l.map (wholeF (f+1)))):=Lib.hid (by simp only [List.map_nil,sumI]at z5;omega)
   obtain⟨m11,mz⟩:=z3.cell
   clear z2 z4 z5 hke z3
   go_wp2_with fail
   go_ret2
   exact sumQ_yes E1.out E2.out hB0r
def checkF (f:Nat) (t:Tm):Int:=if formF f t=true then(if 2000<wholeF f t then 3 else 0)else 2
theorem tcheck_any (f:Nat) (t:Tm) (so:zzA) (c:Nat) (w:World) (ht:SlAt w 9 (TmAt w f) so t.items) (hok:t.Ok) (hs1:(capF (f+1) t:Int)<=1152921504606846976):
  Calls Tryz.prog 33 #[.agg #[.int .i64 t.kind,.int .i64 t.int,.int .i64 t.gen,.string t.name,.string t.func,.int .i64 t.arity,.slice so t.items.length c,.string t.bytes,.int .i64 t.bits]] w fun e w'=>e= .returned (.int .i64 (checkF (f+1) t))/\Below w.heap.size w w':=by
 have hB:=two_below w (.cells #[.int .i64 t.kind,.int .i64 t.int,.int .i64 t.gen,.string t.name,.string t.func,.int .i64 t.arity,.slice so t.items.length c,.string t.bytes,.int .i64 t.bits] 44) (.cells #[.int .i64 t.kind,.int .i64 t.int,.int .i64 t.gen,.string t.name,.string t.func,.int .i64 t.arity,.slice so t.items.length c,.string t.bytes,.int .i64 t.bits] 44)
 have hr:=two1 w (.cells #[.int .i64 t.kind,.int .i64 t.int,.int .i64 t.gen,.string t.name,.string t.func,.int .i64 t.arity,.slice so t.items.length c,.string t.bytes,.int .i64 t.bits] 44) (.cells #[.int .i64 t.kind,.int .i64 t.int,.int .i64 t.gen,.string t.name,.string t.func,.int .i64 t.arity,.slice so t.items.length c,.string t.bytes,.int .i64 t.bits] 44)
 have hS:=sum_any f [t] (some ⟨w.heap.size+1,0,none⟩) 1 ((w.alloc (.cells #[.int .i64 t.kind,.int .i64 t.int,.int .i64 t.gen,.string t.name,.string t.func,.int .i64 t.arity,.slice so t.items.length c,.string t.bytes,.int .i64 t.bits] 44)).alloc (.cells #[.int .i64 t.kind,.int .i64 t.int,.int .i64 t.gen,.string t.name,.string t.func,.int .i64 t.arity,.slice so t.items.length c,.string t.bytes,.int .i64 t.bits] 44)) (.inr ⟨w.heap.size+1,0,rfl,by simp,fun j hj=>by
  obtain rfl:j=0:=by simpa using hj
  refine⟨[.int .i64 t.kind,.int .i64 t.int,.int .i64 t.gen,.string t.name,.string t.func,.int .i64 t.arity,.slice so t.items.length c,.string t.bytes,.int .i64 t.bits],rfl,fun i hi=>?_,⟨so,c,rfl,ht.tms hB⟩,hok⟩
  rw [show 0+0*9+i=i by omega,cell_of_row _ _ _ _ _ _ hr];simp⟩) (by unfold maxLen;simp) (by simp [sumN];omega)
 have e1: [t].all (formF (f+1))=formF (f+1) t:=by simp
 have e2:sumI ([t].map (wholeF (f+1)))=wholeF (f+1) t:=by simp [sumI]
 rw [e1,e2]at hS
 unfold SumQ at hS
 have E:Hid (checkF (f+1) t=if formF (f+1) t=true then(if 2000<wholeF (f+1) t then 3 else 0)else 2):=Lib.hid rfl
 have HB:=Lib.hid hB
 clear e1 e2 hr hB ht hok hs1
 generalize formF (f+1) t=r at *
 generalize wholeF (f+1) t=n at *
 cases r with
 |false=>
  rw [if_neg (by decide)]at E hS
  go_enter Tryz.func33,Tryz.ntmps33
  go_wp2_with fail
  refine hS.mono ?_
  rintro e w5 ⟨rfl,hb5⟩
  go_wp2_with fail
  go_ret
  exact⟨ret1 E.out.symm,below_next HB.out hb5⟩
 |true=>
  rw [if_pos rfl]at E hS
  by_cases hn:2000<n
  ·rw [if_pos hn]at E
   go_enter Tryz.func33,Tryz.ntmps33
   go_wp2_with fail
   refine hS.mono ?_
   rintro e w5 ⟨rfl,hb5⟩
   go_wp2_with fail
   go_ret
   exact⟨ret1 E.out.symm,below_next HB.out hb5⟩
  ·rw [if_neg hn]at E
   have hn':n<=2000:=by omega
   clear hn
   go_enter Tryz.func33,Tryz.ntmps33
   go_wp2_with fail
   refine hS.mono ?_
   rintro e w5 ⟨rfl,hb5⟩
   go_wp2_with fail
   go_ret
   exact⟨ret1 E.out.symm,below_next HB.out hb5⟩
theorem tvalid_any (f:Nat) (t:Tm) (so:zzA) (c:Nat) (w:World) (ht:SlAt w 9 (TmAt w f) so t.items) (hok:t.Ok) (hs1:(capF (f+1) t:Int)<=1152921504606846976):
  Calls Tryz.prog 25 #[.agg #[.int .i64 t.kind,.int .i64 t.int,.int .i64 t.gen,.string t.name,.string t.func,.int .i64 t.arity,.slice so t.items.length c,.string t.bytes,.int .i64 t.bits]] w fun e w'=>e= .returned (.bool (validF (f+1) t))/\Below w.heap.size w w':=by
 have hB:Below w.heap.size w (w.alloc (.cells #[.int .i64 t.kind,.int .i64 t.int,.int .i64 t.gen,.string t.name,.string t.func,.int .i64 t.arity,.slice so t.items.length c,.string t.bytes,.int .i64 t.bits] 44)):=zzE _ _
 have hC:=tcheck_any f t so c (w.alloc (.cells #[.int .i64 t.kind,.int .i64 t.int,.int .i64 t.gen,.string t.name,.string t.func,.int .i64 t.arity,.slice so t.items.length c,.string t.bytes,.int .i64 t.bits] 44)) (ht.tms hB) hok hs1
 have E:Hid ((checkF (f+1) t==0)=validF (f+1) t):=Lib.hid (by
  unfold checkF validF
  cases formF (f+1) t
  ·rfl
  ·rw [if_pos rfl,Bool.true_and]
   by_cases h:2000<wholeF (f+1) t
   ·rw [if_pos h,decide_eq_false (by omega)];rfl
   ·rw [if_neg h,decide_eq_true (by omega)];rfl)
 have HB:=Lib.hid hB
 clear hB ht hok hs1
 generalize checkF (f+1) t=n at *
 go_enter Tryz.func25,Tryz.ntmps25
 go_wp2_with fail
 refine hC.mono ?_
 rintro e w5 ⟨rfl,hb5⟩
 go_wp2_with fail
 go_ret
 exact⟨retb E.out,below_next HB.out hb5⟩
theorem isNaN64_any (x:Int) (w:World):Calls Tryz.prog 242 #[.int .i64 x] w fun e w'=>e= .returned (.bool false)/\w=w':=by
 go_enter Tryz.func242,Tryz.ntmps242
 go_wp2
 go_ret
 exact⟨rfl,rfl⟩
theorem cmp64_any (x y:Int) (w:World):Calls Tryz.prog 221 #[.int .i64 x,.int .i64 y] w fun e w'=>e= .returned (.int .i64 (Lib.compareInt x y))/\w=w':=by
 by_cases h1:x<y
 ·have E:Hid (Lib.compareInt x y= -1):=Lib.hid (by unfold Lib.compareInt;rw [if_pos h1])
  go_enter Tryz.func221,Tryz.ntmps221
  go_wp2_with (go_at_call 242;refine(isNaN64_any _ _).mono ?_;rintro e w1 ⟨rfl,rfl⟩)
  go_ret
  exact⟨ret1 E.out.symm,rfl⟩
 ·by_cases h2:y<x
  ·have E:Hid (Lib.compareInt x y=1):=Lib.hid (by unfold Lib.compareInt;rw [if_neg h1,if_pos h2])
   have h1':y<=x:=by omega
   clear h1
   go_enter Tryz.func221,Tryz.ntmps221
   go_wp2_with (go_at_call 242;refine(isNaN64_any _ _).mono ?_;rintro e w1 ⟨rfl,rfl⟩)
   go_ret
   exact⟨ret1 E.out.symm,rfl⟩
  ·obtain rfl:x=y:=by omega
   have E:Hid (Lib.compareInt x x=0):=Lib.hid (by unfold Lib.compareInt;rw [if_neg h1,if_neg h1])
   clear h1 h2
   go_enter Tryz.func221,Tryz.ntmps221
   go_wp2_with (go_at_call 242;refine(isNaN64_any _ _).mono ?_;rintro e w1 ⟨rfl,rfl⟩)
   go_ret
   exact⟨ret1 E.out.symm,rfl⟩
def orL:List Int->Int
 |[]=>0
 |x::l=>if x=0 then orL l else x
theorem orL_drop {l:List Int} {k:Nat} (h:k<l.length):orL (l.drop k)=if l[k]=0 then orL (l.drop (k+1))else l[k]:=by rw [List.drop_eq_getElem_cons h,orL]
theorem or_any (l:List Int) (hl:l.length<=1000) (B c:Nat) (w:World) (hc: ∀k (h:k<l.length),w.cell? ⟨B,k,none⟩=some (.int .i64 l[k])):
  Calls Tryz.prog 219 #[.slice (some ⟨B,0,none⟩) l.length c] w fun e w'=>e= .returned (.int .i64 (orL l))/\w=w':=by
 have HC:=Lib.hid hc
 have HI:Hid (orL l=orL (l.drop 0)):=Lib.hid rfl
 clear hc
 go_enter Tryz.func219,Tryz.ntmps219
 go_wp2_with fail
 go_loop [5,8] (fun _ i=> ∃k:Nat,k<=l.length/\i= .int .i64 k/\Hid (orL l=orL (l.drop k))) (fun _ i=>l.length-(intOf i).toNat)
 case atStart=>exact⟨0,Nat.zero_le _,rfl,HI⟩
 case round=>
  obtain⟨k,hk,rfl,HK⟩:=hrel
  by_cases hlt:k<l.length
  ·have hcell:=HC.out k hlt
   have HD:=Lib.hid (orL_drop hlt)
   generalize l[k]=x at *
   by_cases hx:x=0
   ·have HK2:Hid (orL l=orL (l.drop (k+1))):=Lib.hid (by rw [HK.out,HD.out,if_pos hx])
    have hb : (x != 0) = false := by rw [hx]; rfl
    clear hx
    go_wp2
    go_round
    case rel=>exact⟨k+1,by omega,by go_num,HK2⟩
    case measure=>simp [intOf];omega
   ·have E:Hid (orL l=x):=Lib.hid (by rw [HK.out,HD.out,if_neg hx])
    have hb : (x != 0) = true := by rw [bne_iff_ne]; exact hx
    clear hx
    go_wp2
    go_ret
    exact⟨ret1 E.out.symm,rfl⟩
  ·have E:Hid (orL l=0):=Lib.hid (by rw [HK.out,List.drop_eq_nil_of_le (by omega)];rfl)
   go_wp2
   go_ret
   exact⟨ret1 E.out.symm,rfl⟩
theorem each_nil (ao bo:zzA) (c d:Nat) (v:Value) (w:World):
  Calls Tryz.prog 239 #[.slice ao 0 c,.slice bo 0 d,v] w fun e w'=>e= .returned (.int .i64 0)/\w=w':=by
 go_enter Tryz.func239,Tryz.ntmps239
 go_wp2_with fail
 go_loop [11] (fun i=>i= .int .i64 0) (fun _=>0)
 case atStart=>rfl
 case round=>
  obtain rfl:=hrel
  go_wp2_with fail
  go_ret
  exact⟨rfl,rfl⟩
theorem items_nil (ao bo:zzA) (c d:Nat) (w:World):
  Calls Tryz.prog 216 #[.slice ao 0 c,.slice bo 0 d] w fun e w'=>e= .returned (.int .i64 0)/\w=w':=by
 have hc:=Tryz.cmp_Compare_int 0 0 w
 rw [show Lib.compareInt 0 0=0 by decide]at hc
 go_enter Tryz.func216,Tryz.ntmps216
 go_wp2_with fail
 refine hc.mono ?_
 rintro e w1 ⟨rfl,rfl⟩
 go_wp2_with (go_at_call 239;refine(each_nil _ _ _ _ _ _).mono ?_;rintro e w2 ⟨rfl,rfl⟩)
 go_ret
 exact⟨rfl,rfl⟩
theorem or_cells (w:World) (x1 x2 x3 x4 x5:Int): ∀k (h:k< [x1,x2,x3,x4,x5].length),(w.alloc (.cells #[.int .i64 x1,.int .i64 x2,.int .i64 x3,.int .i64 x4,.int .i64 x5] 3)).drew.cell? ⟨w.heap.size,k,none⟩=some (.int .i64 [x1,x2,x3,x4,x5][k]):=fun k h=>by
 have hr:=heap_alloc_new w (.cells #[.int .i64 x1,.int .i64 x2,.int .i64 x3,.int .i64 x4,.int .i64 x5] 3)
 have hc:=cell_of_row _ _ k _ _ _ hr
 refine Eq.trans (show _=(w.alloc (.cells #[.int .i64 x1,.int .i64 x2,.int .i64 x3,.int .i64 x4,.int .i64 x5] 3)).cell? ⟨w.heap.size,k,none⟩from rfl) (hc.trans ?_)
 match k,h with
 |0,_=>rfl
 |1,_=>rfl
 |2,_=>rfl
 |3,_=>rfl
 |4,_=>rfl
 |k+5,h=>exact absurd h (by simp)
def cmpS (a b:Tm):Int:=if Lib.compareInt a.kind b.kind=0 then orL [Lib.compareBytes a.name.data.toList b.name.data.toList,Lib.compareBytes a.func.data.toList b.func.data.toList,Lib.compareInt a.gen b.gen,Lib.compareInt a.int b.int,Lib.compareInt a.arity b.arity]else Lib.compareInt a.kind b.kind
theorem valid_simple (a b:Tm) (ao bo:zzA) (c d:Nat) (w:World) (ha:a.items= []) (hb:b.items= []) (h7:a.kind≠7) (h9:a.kind≠9) (h10:a.kind≠10):
  Calls Tryz.prog 196 #[.agg #[.int .i64 a.kind,.int .i64 a.int,.int .i64 a.gen,.string a.name,.string a.func,.int .i64 a.arity,.slice ao a.items.length c,.string a.bytes,.int .i64 a.bits],.agg #[.int .i64 b.kind,.int .i64 b.int,.int .i64 b.gen,.string b.name,.string b.func,.int .i64 b.arity,.slice bo b.items.length d,.string b.bytes,.int .i64 b.bits]] w fun e w'=>e= .returned (.int .i64 (cmpS a b))/\Below w.heap.size w w':=by
 have hla:a.items.length=0:=by rw [ha];rfl
 have hlb:b.items.length=0:=by rw [hb];rfl
 rw [hla,hlb]
 have hB:=two_below w (.cells #[.int .i64 a.kind,.int .i64 a.int,.int .i64 a.gen,.string a.name,.string a.func,.int .i64 a.arity,.slice ao 0 c,.string a.bytes,.int .i64 a.bits] 44) (.cells #[.int .i64 b.kind,.int .i64 b.int,.int .i64 b.gen,.string b.name,.string b.func,.int .i64 b.arity,.slice bo 0 d,.string b.bytes,.int .i64 b.bits] 44)
 have r0:=two0 w (.cells #[.int .i64 a.kind,.int .i64 a.int,.int .i64 a.gen,.string a.name,.string a.func,.int .i64 a.arity,.slice ao 0 c,.string a.bytes,.int .i64 a.bits] 44) (.cells #[.int .i64 b.kind,.int .i64 b.int,.int .i64 b.gen,.string b.name,.string b.func,.int .i64 b.arity,.slice bo 0 d,.string b.bytes,.int .i64 b.bits] 44)
 have r1:=two1 w (.cells #[.int .i64 a.kind,.int .i64 a.int,.int .i64 a.gen,.string a.name,.string a.func,.int .i64 a.arity,.slice ao 0 c,.string a.bytes,.int .i64 a.bits] 44) (.cells #[.int .i64 b.kind,.int .i64 b.int,.int .i64 b.gen,.string b.name,.string b.func,.int .i64 b.arity,.slice bo 0 d,.string b.bytes,.int .i64 b.bits] 44)
 have hcmp:=fun wx=>Tryz.cmp_Compare_int a.kind b.kind wx
 have E0:Hid (cmpS a b=if Lib.compareInt a.kind b.kind=0 then orL [Lib.compareBytes a.name.data.toList b.name.data.toList,Lib.compareBytes a.func.data.toList b.func.data.toList,Lib.compareInt a.gen b.gen,Lib.compareInt a.int b.int,Lib.compareInt a.arity b.arity]else Lib.compareInt a.kind b.kind):=Lib.hid rfl
 have HB:=Lib.hid hB
 clear hla hlb ha hb
 generalize hk:Lib.compareInt a.kind b.kind=kk at *
 by_cases hz:kk=0
 ·subst hz
  rw [if_pos rfl]at E0
  have hs1: ∀wx,Calls Tryz.prog 220 #[.string a.name,.string b.name] wx fun e w'=>e= .returned (.int .i64 (Lib.compareBytes a.name.data.toList b.name.data.toList))/\wx=w':=fun wx=>(Tryz.strings_Compare _ _ wx).mono fun _ _ ⟨h,h'⟩=>⟨h,h'.symm⟩
  have hs2: ∀wx,Calls Tryz.prog 220 #[.string a.func,.string b.func] wx fun e w'=>e= .returned (.int .i64 (Lib.compareBytes a.func.data.toList b.func.data.toList))/\wx=w':=fun wx=>(Tryz.strings_Compare _ _ wx).mono fun _ _ ⟨h,h'⟩=>⟨h,h'.symm⟩
  have hs3:=fun wx=>cmp64_any a.gen b.gen wx
  have hs4:=fun wx=>cmp64_any a.int b.int wx
  have hs5: ∀wx,Calls Tryz.prog 215 #[.int .i64 a.arity,.int .i64 b.arity] wx fun e w'=>e= .returned (.int .i64 (Lib.compareInt a.arity b.arity))/\wx=w':=fun wx=>(Tryz.cmp_Compare_int _ _ wx).mono fun _ _ ⟨h,h'⟩=>⟨h,h'.symm⟩
  generalize Lib.compareBytes a.name.data.toList b.name.data.toList=x1 at *
  generalize Lib.compareBytes a.func.data.toList b.func.data.toList=x2 at *
  generalize Lib.compareInt a.gen b.gen=x3 at *
  generalize Lib.compareInt a.int b.int=x4 at *
  generalize Lib.compareInt a.arity b.arity=x5 at *
  have t7:(a.kind==7)=false:=beq_eq_false_iff_ne.2 h7
  have t9:(a.kind==9)=false:=beq_eq_false_iff_ne.2 h9
  have t10:(a.kind==10)=false:=beq_eq_false_iff_ne.2 h10
  clear h7 h9 h10 hk
  go_enter Tryz.func196,Tryz.ntmps196
  go_upto_region 11 with((go_at_call 215;refine(hcmp _).mono ?_;rintro e w1 ⟨rfl,rfl⟩))
  generalize(w.alloc (.cells #[.int .i64 a.kind,.int .i64 a.int,.int .i64 a.gen,.string a.name,.string a.func,.int .i64 a.arity,.slice ao 0 c,.string a.bytes,.int .i64 a.bits] 44)).alloc (.cells #[.int .i64 b.kind,.int .i64 b.int,.int .i64 b.gen,.string b.name,.string b.func,.int .i64 b.arity,.slice bo 0 d,.string b.bytes,.int .i64 b.bits] 44)=W at *
  obtain⟨q0,q1,q2,q3,q4,q5,q6,q7,q8,zq⟩:=term_cells r0
  obtain⟨p0,p1,p2,p3,p4,p5,p6,p7,p8,zp⟩:=term_cells r1
  have hl0:=lt_of_row r0
  have hl1:=lt_of_row r1
  clear zq zp r0 r1
  generalize hBe:w.heap.size=B at *
  have HBE:=Lib.hid hBe
  clear hBe
  have SK0:=Lib.hid (sk_of (Below.refl W.heap.size W).drew)
  have SK1:=Lib.hid (sk_of ((Below.refl W.heap.size W).alloc (Nat.le_refl _) (.cells #[.int .i64 x1,.int .i64 x2,.int .i64 x3,.int .i64 x4,.int .i64 x5] 3)).drew)
  have HC:=Lib.hid (or_cells W x1 x2 x3 x4 x5)
  have hor:=fun(B c:Nat) (wx:World) hc=>or_any [x1,x2,x3,x4,x5] (by simp) B c wx hc
  generalize orL [x1,x2,x3,x4,x5]=r at *
  have HOR:=Lib.hid hor
  clear hor
  first|go_region_held3 (fun w'=>W.heap.size<=w'.heap.size/\ ∀b o,b<W.heap.size->w'.cell? ⟨b,o,none⟩=W.cell? ⟨b,o,none⟩) (first|with_reducible exact SK0.out|with_reducible exact SK1.out)
   (first
    |(go_at_call 220;(first|(with_reducible refine(hs1 _).mono ?_)|(with_reducible refine(hs2 _).mono ?_));rintro e w1 ⟨rfl,rfl⟩)
    |(go_at_call 221;(first|(with_reducible refine(hs3 _).mono ?_)|(with_reducible refine(hs4 _).mono ?_));rintro e w1 ⟨rfl,rfl⟩)
    |(go_at_call 215;(with_reducible refine(hs5 _).mono ?_);rintro e w1 ⟨rfl,rfl⟩)
    |(go_at_call 219;refine(HOR.out _ _ _ HC.out).mono ?_;rintro e w1 ⟨rfl,rfl⟩))|fail
  by_cases hr:r=0
  ·have hrb : (r != 0) = false := by rw [hr]; rfl
   have ER:Hid (cmpS a b=0):=Lib.hid (E0.out.trans hr)
   clear hr
   go_wp2_with (go_at_call 216;refine(items_nil _ _ _ _ _).mono ?_;rintro e w2 ⟨rfl,rfl⟩)
   go_ret
   exact⟨ret1 ER.out.symm,(by rw [HBE.out];exact(HB.out.alloc (by rw [<-HBE.out];exact HB.out.size) _).drew)⟩
  ·have hrb : (r != 0) = true := by rw [bne_iff_ne]; exact hr
   clear hr
   go_wp2_with fail
   go_ret
   exact⟨ret1 E0.out.symm,(by rw [HBE.out];exact(HB.out.alloc (by rw [<-HBE.out];exact HB.out.size) _).drew)⟩
 ·have hnb : (kk != 0) = true := by rw [bne_iff_ne]; exact hz
  rw [if_neg hz]at E0
  clear hz hk
  go_enter Tryz.func196,Tryz.ntmps196
  go_wp2_with ((go_at_call 215;refine(hcmp _).mono ?_;rintro e w1 ⟨rfl,hw1⟩;rw [hw1]))
  go_ret
  exact⟨ret1 E0.out.symm,HB.out⟩
theorem compare_simple (f:Nat) (a b:Tm) (ao bo:zzA) (c d:Nat) (w:World) (hta:SlAt w 9 (TmAt w f) ao a.items) (htb:SlAt w 9 (TmAt w f) bo b.items) (oa:a.Ok) (ob:b.Ok) (ca:(capF (f+1) a:Int)<=1152921504606846976) (cb:(capF (f+1) b:Int)<=1152921504606846976)
  (va:validF (f+1) a=true) (vb:validF (f+1) b=true) (ha:a.items= []) (hb:b.items= []) (h7:a.kind≠7) (h9:a.kind≠9) (h10:a.kind≠10):
  Calls Tryz.prog 167 #[.agg #[.int .i64 a.kind,.int .i64 a.int,.int .i64 a.gen,.string a.name,.string a.func,.int .i64 a.arity,.slice ao a.items.length c,.string a.bytes,.int .i64 a.bits],.agg #[.int .i64 b.kind,.int .i64 b.int,.int .i64 b.gen,.string b.name,.string b.func,.int .i64 b.arity,.slice bo b.items.length d,.string b.bytes,.int .i64 b.bits]] w fun e w'=>e= .returned (.int .i64 (cmpS a b))/\Below w.heap.size w w':=by
 have hB:=two_below w (.cells #[.int .i64 a.kind,.int .i64 a.int,.int .i64 a.gen,.string a.name,.string a.func,.int .i64 a.arity,.slice ao a.items.length c,.string a.bytes,.int .i64 a.bits] 44) (.cells #[.int .i64 b.kind,.int .i64 b.int,.int .i64 b.gen,.string b.name,.string b.func,.int .i64 b.arity,.slice bo b.items.length d,.string b.bytes,.int .i64 b.bits] 44)
 have r0:=two0 w (.cells #[.int .i64 a.kind,.int .i64 a.int,.int .i64 a.gen,.string a.name,.string a.func,.int .i64 a.arity,.slice ao a.items.length c,.string a.bytes,.int .i64 a.bits] 44) (.cells #[.int .i64 b.kind,.int .i64 b.int,.int .i64 b.gen,.string b.name,.string b.func,.int .i64 b.arity,.slice bo b.items.length d,.string b.bytes,.int .i64 b.bits] 44)
 have r1:=two1 w (.cells #[.int .i64 a.kind,.int .i64 a.int,.int .i64 a.gen,.string a.name,.string a.func,.int .i64 a.arity,.slice ao a.items.length c,.string a.bytes,.int .i64 a.bits] 44) (.cells #[.int .i64 b.kind,.int .i64 b.int,.int .i64 b.gen,.string b.name,.string b.func,.int .i64 b.arity,.slice bo b.items.length d,.string b.bytes,.int .i64 b.bits] 44)
 have hva: ∀wx,Below w.heap.size w wx->Calls Tryz.prog 25 #[.agg #[.int .i64 a.kind,.int .i64 a.int,.int .i64 a.gen,.string a.name,.string a.func,.int .i64 a.arity,.slice ao a.items.length c,.string a.bytes,.int .i64 a.bits]] wx fun e w'=>e= .returned (.bool true)/\Below wx.heap.size wx w':=fun wx hx=>by have h:=tvalid_any f a ao c wx (hta.tms hx) oa ca;rwa [va]at h
 have hvb: ∀wx,Below w.heap.size w wx->Calls Tryz.prog 25 #[.agg #[.int .i64 b.kind,.int .i64 b.int,.int .i64 b.gen,.string b.name,.string b.func,.int .i64 b.arity,.slice bo b.items.length d,.string b.bytes,.int .i64 b.bits]] wx fun e w'=>e= .returned (.bool true)/\Below wx.heap.size wx w':=fun wx hx=>by have h:=tvalid_any f b bo d wx (htb.tms hx) ob cb;rwa [vb]at h
 have hvs:=fun wx=>valid_simple a b ao bo c d wx ha hb h7 h9 h10
 have HB:=Lib.hid hB
 clear hta htb oa ob ca cb va vb ha hb h7 h9 h10 hB
 generalize cmpS a b=r at *
 go_enter Tryz.func167,Tryz.ntmps167
 go_wp2_with fail
 generalize(w.alloc (.cells #[.int .i64 a.kind,.int .i64 a.int,.int .i64 a.gen,.string a.name,.string a.func,.int .i64 a.arity,.slice ao a.items.length c,.string a.bytes,.int .i64 a.bits] 44)).alloc (.cells #[.int .i64 b.kind,.int .i64 b.int,.int .i64 b.gen,.string b.name,.string b.func,.int .i64 b.arity,.slice bo b.items.length d,.string b.bytes,.int .i64 b.bits] 44)=W at *
 obtain⟨q0,q1,q2,q3,q4,q5,q6,q7,q8,zq⟩:=term_cells r0
 obtain⟨p0,p1,p2,p3,p4,p5,p6,p7,p8,zp⟩:=term_cells r1
 have hl0:=lt_of_row r0
 have hl1:=lt_of_row r1
 have R0:=Lib.hid r0;have R1:=Lib.hid r1
 clear zq zp r0 r1
 have HW:=Lib.hid HB.out
 generalize hBe:w.heap.size=B at *
 have HBE:=Lib.hid hBe
 have HB':Hid (Below w.heap.size w W):=Lib.hid (by rw [hBe];exact HB.out)
 have hva': ∀wx,Below W.heap.size W wx->Calls Tryz.prog 25 #[.agg #[.int .i64 a.kind,.int .i64 a.int,.int .i64 a.gen,.string a.name,.string a.func,.int .i64 a.arity,.slice ao a.items.length c,.string a.bytes,.int .i64 a.bits]] wx fun e w'=>e= .returned (.bool true)/\Below W.heap.size W w':=fun wx hx=>(hva wx (by rw [<-hBe];exact below_next HB'.out hx)).mono fun _ _ ⟨h,h'⟩=>⟨h,below_next hx h'⟩
 have hvb': ∀wx,Below W.heap.size W wx->Calls Tryz.prog 25 #[.agg #[.int .i64 b.kind,.int .i64 b.int,.int .i64 b.gen,.string b.name,.string b.func,.int .i64 b.arity,.slice bo b.items.length d,.string b.bytes,.int .i64 b.bits]] wx fun e w'=>e= .returned (.bool true)/\Below W.heap.size W w':=fun wx hx=>(hvb wx (by rw [<-hBe];exact below_next HB'.out hx)).mono fun _ _ ⟨h,h'⟩=>⟨h,below_next hx h'⟩
 clear hBe hva hvb
 have HDR:=Lib.hid ((Below.refl W.heap.size W).drew)
 have SK0:=Lib.hid (sk_of HDR.out)
 first|go_region_held3 (fun w'=>W.heap.size<=w'.heap.size/\ ∀b o,b<W.heap.size->w'.cell? ⟨b,o,none⟩=W.cell? ⟨b,o,none⟩) (first|with_reducible exact SK0.out|with_reducible exact HK5.out|with_reducible exact HK6.out)
  (first
   |(go_at_call 25;(first|(with_reducible refine(hva' _ HDR.out).mono ?_)|(with_reducible refine(hvb' _ HDR.out).mono ?_));rintro e w5 ⟨rfl,hb5⟩;have HK5:=Lib.hid (sk_of hb5))
   |(go_at_call 25;(first|(with_reducible refine(hva' _ hb5).mono ?_)|(with_reducible refine(hvb' _ hb5).mono ?_));rintro e w6 ⟨rfl,hb6⟩;have HK6:=Lib.hid (sk_of hb6)))|fail
 all_goals
  obtain⟨s0,s1,s2,s3,s4,s5,s6,s7,s8,zs⟩:=term_cells ((hb6.block B hl0).trans R0.out)
  obtain⟨u0,u1,u2,u3,u4,u5,u6,u7,u8,zu⟩:=term_cells ((hb6.block (B+1) hl1).trans R1.out)
  go_wp2_with (go_at_call 196;refine(hvs _).mono ?_;rintro e w8 ⟨rfl,hb8⟩)
  go_ret
  exact⟨rfl,below_next HB'.out (below_next hb6 hb8)⟩
theorem less_simple (f:Nat) (a b:Tm) (ao bo:zzA) (c d:Nat) (w:World) (hta:SlAt w 9 (TmAt w f) ao a.items) (htb:SlAt w 9 (TmAt w f) bo b.items) (oa:a.Ok) (ob:b.Ok) (ca:(capF (f+1) a:Int)<=1152921504606846976) (cb:(capF (f+1) b:Int)<=1152921504606846976)
  (va:validF (f+1) a=true) (vb:validF (f+1) b=true) (ha:a.items= []) (hb:b.items= []) (h7:a.kind≠7) (h9:a.kind≠9) (h10:a.kind≠10):
  Calls Tryz.prog 121 #[.agg #[.int .i64 a.kind,.int .i64 a.int,.int .i64 a.gen,.string a.name,.string a.func,.int .i64 a.arity,.slice ao a.items.length c,.string a.bytes,.int .i64 a.bits],.agg #[.int .i64 b.kind,.int .i64 b.int,.int .i64 b.gen,.string b.name,.string b.func,.int .i64 b.arity,.slice bo b.items.length d,.string b.bytes,.int .i64 b.bits]] w fun e w'=>e= .returned (.bool (decide (cmpS a b<0)))/\Below w.heap.size w w':=by
 have hB:=two_below w (.cells #[.int .i64 a.kind,.int .i64 a.int,.int .i64 a.gen,.string a.name,.string a.func,.int .i64 a.arity,.slice ao a.items.length c,.string a.bytes,.int .i64 a.bits] 44) (.cells #[.int .i64 b.kind,.int .i64 b.int,.int .i64 b.gen,.string b.name,.string b.func,.int .i64 b.arity,.slice bo b.items.length d,.string b.bytes,.int .i64 b.bits] 44)
 have hC:=compare_simple f a b ao bo c d _ (hta.tms hB) (htb.tms hB) oa ob ca cb va vb ha hb h7 h9 h10
 have HB:=Lib.hid hB
 clear hta htb oa ob ca cb va vb ha hb h7 h9 h10 hB
 generalize cmpS a b=r at *
 go_enter Tryz.func121,Tryz.ntmps121
 go_wp2_with fail
 refine hC.mono ?_
 rintro e w5 ⟨rfl,hb5⟩
 go_wp2_with fail
 go_ret
 exact⟨rfl,below_next HB.out hb5⟩
def litAt (lits:List Tm) (i:Int):Tm:=(lits[i.toNat]?).getD zeroTm
def clit (cases:List RCase) (k:Nat):Int:=((cases[k]?).map RCase.lit).getD 0
def kindOk (t:Tm):Bool:=decide (t.kind=1\/t.kind=2\/t.kind=8)
def caseOk (lits:List Tm) (cases:List RCase) (k:Nat):Bool:=wi (clit cases k) 0 ((lits.length:Int)-1)&&(kindOk (litAt lits (clit cases k))&&(decide (k=0)||decide (cmpS (litAt lits (clit cases (k-1))) (litAt lits (clit cases k))<0)))
def casesB (lits:List Tm) (cases:List RCase):Bool:=decide (∀k,k<cases.length->caseOk lits cases k=true)
def segB (nl:Nat) (g:RSeg):Bool:=wi g.type 1 3&&(opdB nl g.val&&(((decide (g.size.kind=0)&&decide (g.size.n=0))||opdB nl g.size)&&(!g.little||g.type==1)))
def listsB (lits:List Tm) (x:RIns):Bool:=((!(x.op==12)||wi x.cases.length 1 1000)&&decide ((x.segs.length:Int)<=60))&&(casesB lits x.cases&&x.segs.all (segB lits.length))
theorem casesB_no {lits:List Tm} {cases:List RCase} {k:Nat} (h:k<cases.length) (e:caseOk lits cases k=false):casesB lits cases=false:=by
 unfold casesB;exact decide_eq_false (fun hh=>by rw [hh k h]at e;cases e)
theorem casesB_yes {lits:List Tm} {cases:List RCase} (h: ∀k,k<cases.length->caseOk lits cases k=true):casesB lits cases=true:=decide_eq_true h
theorem clit_at {cases:List RCase} {k:Nat} (h:k<cases.length):clit cases k=cases[k].lit:=by unfold clit;rw [List.getElem?_eq_getElem h];rfl
theorem litAt_at {lits:List Tm} {m:Nat} (h:m<lits.length):litAt lits (m:Int)=lits[m]:=by unfold litAt;rw [Int.toNat_natCast,List.getElem?_eq_getElem h];rfl
theorem valid_items {f:Nat} {t:Tm} (h:validF (f+1) t=true) (hk:t.kind=1\/t.kind=2\/t.kind=8):t.items= []:=by
 unfold validF formF locB zeroK at h
 have h4:decide (t.kind=4\/t.kind=7\/t.kind=9)=false:=decide_eq_false (by omega)
 simp only [h4,Bool.and_eq_true,Bool.false_or]at h
 have:=h.1.1.2.1.1.2
 unfold zL at this
 exact List.eq_nil_of_length_eq_zero (of_decide_eq_true this)
structure LitsOk (w:World) (f:Nat) (lo:Option Addr) (lits:List Tm):Prop where
 at':SlAt w 9 (TmAt w (f+1)) lo lits
 ok: ∀t∈lits,validF (f+1) t=true/\(capF (f+1) t:Int)<=1152921504606846976
theorem LitsOk.below {w w':World} {f:Nat} {lo:zzA} {lits:List Tm} (h:LitsOk w f lo lits) (hb:Below w.heap.size w w'):LitsOk w' f lo lits:=⟨h.at'.tms hb,h.ok⟩
theorem less_lits {w:World} {f:Nat} {lo:zzA} {lits:List Tm} (h:LitsOk w f lo lits) {i j:Nat} (hi:i<lits.length) (hj:j<lits.length) (ki:kindOk lits[i]=true) (kj:kindOk lits[j]=true) {ai aj:zzA} {ci cj:Nat}
  (si:SlAt w 9 (TmAt w f) ai lits[i].items) (sj:SlAt w 9 (TmAt w f) aj lits[j].items) (oi:lits[i].Ok) (oj:lits[j].Ok) (wx:World) (hx:Below w.heap.size w wx):
  Calls Tryz.prog 121 #[.agg #[.int .i64 lits[i].kind,.int .i64 lits[i].int,.int .i64 lits[i].gen,.string lits[i].name,.string lits[i].func,.int .i64 lits[i].arity,.slice ai lits[i].items.length ci,.string lits[i].bytes,.int .i64 lits[i].bits],.agg #[.int .i64 lits[j].kind,.int .i64 lits[j].int,.int .i64 lits[j].gen,.string lits[j].name,.string lits[j].func,.int .i64 lits[j].arity,.slice aj lits[j].items.length cj,.string lits[j].bytes,.int .i64 lits[j].bits]] wx fun e w'=>e= .returned (.bool (decide (cmpS lits[i] lits[j]<0)))/\Below wx.heap.size wx w':=by
 obtain⟨vi,bi⟩:=h.ok _ (List.getElem_mem hi)
 obtain⟨vj,bj⟩:=h.ok _ (List.getElem_mem hj)
 have ki':=of_decide_eq_true ki
 have kj':=of_decide_eq_true kj
 exact less_simple f lits[i] lits[j] ai aj ci cj wx (si.tms hx) (sj.tms hx) oi oj bi bj vi vj (valid_items vi ki') (valid_items vj kj') (by omega) (by omega) (by omega)
end Go.Proofs.YtponljdhfoipjaaGreatDoor
