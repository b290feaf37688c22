import Derived.Test.YtepjanajflkakaaGreatDoorW03
import Derived.Test.YtepjanajflkakaaGreatDoorW04
import Derived.Test.YtepjanajflkakaaGreatDoorW05
namespace Go.Proofs.YtepjanajflkakaaGreatDoor
open Go.RowKit
set_option linter.unusedVariables false
set_option linter.unusedSimpArgs false
set_option maxRecDepth 100000
set_option maxHeartbeats 0
def MeasAt (M:Nat) (s:Int) (w:World):Prop:=w.heap[M]?=some (.cells #[.func (.func 205) #[] #[],.func (.func 206) #[] #[],.func (.func 207) #[] #[],.func (.func 203) #[] #[],.func (.func 208) #[] #[],.func (.func 209) #[] #[],.func (.func 203) #[] #[],.func (.func 210) #[] #[],.func (.func 211) #[] #[],.func (.func 212) #[] #[],.func (.func 213) #[] #[],.int .i64 s] 229 (0,0))
theorem zbf {W w:World} (h:Below W.heap.size W w):W.heap.size<=w.heap.size/\ ∀b o,b<W.heap.size->w.cell? ⟨b,o,none⟩=W.cell? ⟨b,o,none⟩:=⟨h.size,fun b o hb=>h.cell (p:=⟨b,o,none⟩) hb⟩
theorem zZ {W w:World} {o:Obj} (h:W.heap.size<=w.heap.size/\ ∀b o,b<W.heap.size->w.cell? ⟨b,o,none⟩=W.cell? ⟨b,o,none⟩):W.heap.size<=(w.alloc o).heap.size/\ ∀b q,b<W.heap.size->(w.alloc o).cell? ⟨b,q,none⟩=W.cell? ⟨b,q,none⟩:=
 ⟨by have:=h.1;simp;omega,fun b q hb=>(((zzR w.heap.size w).alloc (zzL _) o).cell (p:=⟨b,q,none⟩) (zzW hb h.1)).trans (h.2 b q hb)⟩
theorem zcE {W w:World} {q:Nat} {v:Value} (h:W.heap.size<=w.heap.size/\ ∀b o,b<W.heap.size->w.cell? ⟨b,o,none⟩=W.cell? ⟨b,o,none⟩):W.heap.size<=(w.setCell ⟨W.heap.size,q,none⟩ v).heap.size/\ ∀b o,b<W.heap.size->(w.setCell ⟨W.heap.size,q,none⟩ v).cell? ⟨b,o,none⟩=W.cell? ⟨b,o,none⟩:=
 ⟨by simpa [World.setCell] using h.1,fun b o hb=>(World.cell?_of_block (Below.heap_setCell _ _ _ _ (Nat.ne_of_lt hb))).trans (h.2 b o hb)⟩
theorem zb8 {W w:World} {v0 v1 v2 v3 v4 v5 v6 v7 v8:Value} (h:W.heap.size<=w.heap.size/\ ∀b o,b<W.heap.size->w.cell? ⟨b,o,none⟩=W.cell? ⟨b,o,none⟩):
  W.heap.size<=(((((((((w.setCell ⟨W.heap.size,0,none⟩ v0).setCell ⟨W.heap.size,1,none⟩ v1).setCell ⟨W.heap.size,2,none⟩ v2).setCell ⟨W.heap.size,3,none⟩ v3).setCell ⟨W.heap.size,4,none⟩ v4).setCell ⟨W.heap.size,5,none⟩ v5).setCell ⟨W.heap.size,6,none⟩ v6).setCell ⟨W.heap.size,7,none⟩ v7).setCell ⟨W.heap.size,8,none⟩ v8).heap.size /\
   ∀b o,b<W.heap.size->(((((((((w.setCell ⟨W.heap.size,0,none⟩ v0).setCell ⟨W.heap.size,1,none⟩ v1).setCell ⟨W.heap.size,2,none⟩ v2).setCell ⟨W.heap.size,3,none⟩ v3).setCell ⟨W.heap.size,4,none⟩ v4).setCell ⟨W.heap.size,5,none⟩ v5).setCell ⟨W.heap.size,6,none⟩ v6).setCell ⟨W.heap.size,7,none⟩ v7).setCell ⟨W.heap.size,8,none⟩ v8).cell? ⟨b,o,none⟩=W.cell? ⟨b,o,none⟩:=
 zcE (zcE (zcE (zcE (zcE (zcE (zcE (zcE (zcE h))))))))
def zcY (M:Nat) (s:Int) (cap:Nat) (ok:Bool) (add:Int) (w w':World):Prop:=w.grownBy w' (some M)/\ ∃s':Int,s<=s'/\s'<=s+cap/\MeasAt M s' w'/\(ok=true->s'=s+add)
def OfP (f:Nat):Prop:= ∀(t:Tm) (so:Option Addr) (c M:Nat) (s:Int) (w0 w:World),SlAt w0 9 (TmAt w0 f) so t.items->t.Ok->Below w0.heap.size w0 w->w0.heap.size<=M->MeasAt M s w->0<=s->s+zv (f+1) t<=1152921504606846976 ->
 Calls Tryz.prog 174 #[.pointer (some ⟨M,0,none⟩),.agg #[.int .i64 t.kind,.int .i64 t.int,.int .i64 t.gen,.string t.name,.string t.func,.int .i64 t.arity,.slice so t.items.length c,.string t.bytes,.int .i64 t.bits]] w fun e w'=>e= .returned (.bool (zr (f+1) t))/\zcY M s (zv (f+1) t) (zr (f+1) t) (zD (f+1) t) w w'
def CfP (f:Nat):Prop:= ∀(l:List Tm) (ao:Option Addr) (c M mb:Nat) (s:Int) (w0 w:World),SlAt w0 9 (TmAt w0 f) ao l->l.length<=maxLen->Below w0.heap.size w0 w->w0.heap.size<=M->MeasAt M s w->w.heap[mb]?=some (.cells #[.pointer (some ⟨M,0,none⟩)] 224 (0,0))->mb≠M->0<=s->s+zR (l.map (zv f))<=1152921504606846976 ->
 Calls Tryz.prog 215 #[.slice ao l.length c,.func (.func 216) #[] #[.pointer (some ⟨mb,0,none⟩)]] w fun e w'=>e= .returned (.bool (!(l.all (zr f))))/\zcY M s (zR (l.map (zv f))) (l.all (zr f)) (zbA (l.map (zD f))) w w'
theorem zdq (w:World) (r o:Nat) (v:Value):w.grownBy (w.setCell ⟨r,o,none⟩ v) (some r):=
 ⟨rfl,rfl,rfl,by simp [World.setCell],fun k _ hk=>Below.heap_setCell _ _ _ _ (fun e=>hk (by rw [e]))⟩
theorem zeH {M:Nat} {s s':Int} {w:World} (h:MeasAt M s w):MeasAt M s' (w.setCell ⟨M,11,none⟩ (.int .i64 s')):=zzS _ _ 11 _ _ (.int .i64 s') h
theorem MeasAt.below {M:Nat} {s:Int} {w w':World} (h:MeasAt M s w) (hb:Below w.heap.size w w'):MeasAt M s w':=(hb.block M (zb h)).trans h
theorem MeasAt.cell {M:Nat} {s:Int} {w:World} (h:MeasAt M s w):w.cell? ⟨M,11,none⟩=some (.int .i64 s)/\w.frozen? ⟨M,11,none⟩=false:=⟨zzq0 _ _ 11 _ _ _ h,zzq2 _ _ 11 _ _ h⟩
theorem zb6 {w0 a b:World} {M:Nat} (h:Below w0.heap.size w0 a) (hg:a.grownBy b (some M)) (hM:w0.heap.size<=M):Below w0.heap.size w0 b:=h.grown hg h.size (fun k hk=>by cases hk;exact hM)
theorem ziQ (t:Tm):(zk t).items.length<=t.items.length:=by
 unfold zk
 repeat' split
 all_goals first|exact zzL _|exact zzZ _
theorem ziy {t:Tm} (h:zcc t=true) (hk:t.kind=10):0<=t.bits/\t.bits<=16384:=by
 unfold zcc okK zgb zcN wi at h;simp only [hk]at h;simp at h;omega
theorem zji {t:Tm} (h:zcc t=true) (hk:t.kind=9):2<=t.items.length:=by
 unfold zcc okK at h;simp only [hk]at h;simp at h;omega
theorem zjc {t:Tm} (h: ¬(0<=t.kind/\t.kind<11)):zcc t=false:=by
 unfold zcc;rw [zgj (by omega)];rfl
theorem zlZ {f:Nat} (t:Tm) (so:zzA) (c M:Nat) (s:Int) (w0 w:World) (hm:MeasAt M s w) (hk: ¬(0<=t.kind/\t.kind<11)):
  Calls Tryz.prog 174 #[.pointer (some ⟨M,0,none⟩),.agg (zzt t so c)] w fun e w'=>e= .returned (.bool (zr (f+1) t))/\zcY M s (zv (f+1) t) (zr (f+1) t) (zD (f+1) t) w w':=by
 unfold zzt;have E:Hid (zr (f+1) t=false):=zzH (by unfold zr;rw [zjc hk];rfl);have H2:=zzH (zx w (.cells #[.pointer (some ⟨M,0,none⟩)] 224) (.cells #[.int .i64 t.kind,.int .i64 t.int,.int .i64 t.gen,.string t.name,.string t.func,.int .i64 t.arity,.slice so t.items.length c,.string t.bytes,.int .i64 t.bits] 116));by_cases h0:t.kind<0
 ·exact zz43
 ·have h1:11<=t.kind:=by omega
  have h0':0<=t.kind:=by omega
  clear hk h0;exact zz43
theorem zl0 {f:Nat} (HC:Hid (CfP f)) (t:Tm) (so:zzA) (c M:Nat) (s:Int) (w0 w:World) (ht:SlAt w0 9 (TmAt w0 f) so t.items) (hok:t.Ok) (hb:Below w0.heap.size w0 w) (hM:w0.heap.size<=M) (hm:MeasAt M s w) (hs0:0<=s) (hs1:s+zv (f+1) t<=1152921504606846976) (hk0:0<=t.kind) (hk1:t.kind<11):
  Calls Tryz.prog 174 #[.pointer (some ⟨M,0,none⟩),.agg (zzt t so c)] w fun e w'=>e= .returned (.bool (zr (f+1) t))/\zcY M s (zv (f+1) t) (zr (f+1) t) (zD (f+1) t) w w':=by
 unfold zzt;have hMl:=zb hm;refine zzK4 ht hok hb hm fun HT HOK HB HM=>?_;clear ht hok hb hm;generalize hkt:t.kind=tk at *;have HKT:=zzH hkt;clear hkt;go_in;go_upto_region 3 with fail;have r0:=zdk w (.cells #[.pointer (some ⟨M,0,none⟩)] 224) (.cells #[.int .i64 tk,.int .i64 t.int,.int .i64 t.gen,.string t.name,.string t.func,.int .i64 t.arity,.slice so t.items.length c,.string t.bytes,.int .i64 t.bits] 116);have r1:=zcL w (.cells #[.pointer (some ⟨M,0,none⟩)] 224) (.cells #[.int .i64 tk,.int .i64 t.int,.int .i64 t.gen,.string t.name,.string t.func,.int .i64 t.arity,.slice so t.items.length c,.string t.bytes,.int .i64 t.bits] 116);have hB2:=zx w (.cells #[.pointer (some ⟨M,0,none⟩)] 224) (.cells #[.int .i64 tk,.int .i64 t.int,.int .i64 t.gen,.string t.name,.string t.func,.int .i64 t.arity,.slice so t.items.length c,.string t.bytes,.int .i64 t.bits] 116);have HM2:=zzH (HM.out.below hB2);have hMl2:M<((w.alloc (.cells #[.pointer (some ⟨M,0,none⟩)] 224)).alloc (.cells #[.int .i64 tk,.int .i64 t.int,.int .i64 t.gen,.string t.name,.string t.func,.int .i64 t.arity,.slice so t.items.length c,.string t.bytes,.int .i64 t.bits] 116)).heap.size:=zzW hMl hB2.size;generalize(w.alloc (.cells #[.pointer (some ⟨M,0,none⟩)] 224)).alloc (.cells #[.int .i64 tk,.int .i64 t.int,.int .i64 t.gen,.string t.name,.string t.func,.int .i64 t.arity,.slice so t.items.length c,.string t.bytes,.int .i64 t.bits] 116)=W2 at *;have HB2:=zzH hB2;have hBM:M<w.heap.size:=hMl;have HMB:Hid (w.heap.size≠M):=zzH (Nat.ne_of_gt hMl);have HWB:Hid (w0.heap.size<=w.heap.size):=zzH HB.out.size;have HML:=zzH hBM;obtain⟨q0,q1,q2,q3,q4,q5,q6,q7,q8,z1⟩:=zf r1;have b0:W2.cell? ⟨w.heap.size,0,none⟩=some (.pointer (some ⟨M,0,none⟩)):=by rw [zzq0 _ _ _ _ _ _ r0];rfl
 have hl0:=zb r0;have hl1:=zb r1;have R0:=zzH r0;have R1:=zzH r1;clear z1 r0 r1 hB2 hMl hBM;generalize hBe:w.heap.size=B at *;have HBW2:Hid (Below w.heap.size w W2):=zzH (by rw [hBe];exact HB2.out);have HBE:=zzH hBe;clear hBe;go_cut [5,6] (fun s5 s6 wx=> ∃(L:Nat) (so':zzA) (c':Nat),s5= .pointer (some ⟨L,0,none⟩)/\s6= .bool (okK t)/\W2.heap.size<=L/\SlAt w0 9 (TmAt w0 f) so' (zk t).items/\wx.heap[L]?=some (.cells #[.int .i64 (zk t).kind,.int .i64 (zk t).int,.int .i64 (zk t).gen,.string (zk t).name,.string (zk t).func,.int .i64 (zk t).arity,.slice so' (zk t).items.length c',.string (zk t).bytes,.int .i64 (zk t).bits] 116 (0,0))/\Below W2.heap.size W2 wx)
 case first=>
  have HDR:=zzH ((zzR W2.heap.size W2).drew);have HDA:=zzH (((zzR W2.heap.size W2).alloc (zzL _) (.cells #[.int .i64 0,.int .i64 0,.int .i64 0,.string ⟨#[]⟩,.string ⟨#[]⟩,.int .i64 0,.slice none 0 0,.string ⟨#[]⟩,.int .i64 0] 116)).drew);have SK0:=zzH (zbf HDR.out);have SK1:=zzH (zbf HDA.out);have HAN:Hid ((W2.alloc (.cells #[.int .i64 0,.int .i64 0,.int .i64 0,.string ⟨#[]⟩,.string ⟨#[]⟩,.int .i64 0,.slice none 0 0,.string ⟨#[]⟩,.int .i64 0] 116)).drew.heap[W2.heap.size]?=some (.cells zY 116 (0,0))):=zzH (zzF W2 _)
  have hkk:tk=0\/tk=1\/tk=2\/tk=3\/tk=4\/tk=5\/tk=6\/tk=7\/tk=8\/tk=9\/tk=10:=by omega
  clear hk0 hk1 hs0 hs1;rcases hkk with rfl|rfl|rfl|rfl|rfl|rfl|rfl|rfl|rfl|rfl|rfl
  ·have hQ: ∀wx,Calls Tryz.prog 205 #[.agg #[.int .i64 0,.int .i64 t.int,.int .i64 t.gen,.string t.name,.string t.func,.int .i64 t.arity,.slice so t.items.length c,.string t.bytes,.int .i64 t.bits]] wx (zby w0 wx f t):=fun wx=>by have h:=zlm t so c f w0 wx HT.out HKT.out;rwa [HKT.out]at h
   have n0:W2.cell? ⟨M,0,none⟩=some (.func (.func 205) #[] #[]):=zzq0 _ _ 0 _ _ _ HM2.out
   first|go_region_held3 (fun w'=>W2.heap.size<=w'.heap.size/\ ∀b o,b<W2.heap.size->w'.cell? ⟨b,o,none⟩=W2.cell? ⟨b,o,none⟩) (first|with_reducible exact HK5.out|with_reducible exact SK0.out|with_reducible exact zZ SK0.out|with_reducible exact SK1.out|with_reducible exact zZ HK5.out|with_reducible exact zb8 HK5.out)
    ((go_at_call 205;refine(hQ _).mono ?_;rintro e w5 ⟨so',c',rfl,hs',hb5⟩;first|(have hbb:Below W2.heap.size W2 w5:=(by with_reducible exact zd HDR.out hb5);have HK5:=zzH (zbf hbb))|(have hbb:Below W2.heap.size W2 w5:=(by with_reducible exact zd HDA.out hb5);have xl:w5.heap[W2.heap.size]?=some (.cells zY 116 (0,0)):=(hb5.block W2.heap.size (zb HAN.out)).trans HAN.out;have XL:=zzH xl;obtain⟨l0,l1,l2,l3,l4,l5,l6,l7,l8,lz⟩:=zf xl;clear xl;have HK5:=zzH (zbf hbb))))|fail
   ·exact zz47
   ·exact zz46
  ·have hQ: ∀wx,Calls Tryz.prog 206 #[.agg #[.int .i64 1,.int .i64 t.int,.int .i64 t.gen,.string t.name,.string t.func,.int .i64 t.arity,.slice so t.items.length c,.string t.bytes,.int .i64 t.bits]] wx (zby w0 wx f t):=fun wx=>by have h:=zk2 t so c f w0 wx HT.out HKT.out;rwa [HKT.out]at h
   have n0:W2.cell? ⟨M,1,none⟩=some (.func (.func 206) #[] #[]):=zzq0 _ _ 1 _ _ _ HM2.out
   first|go_region_held3 (fun w'=>W2.heap.size<=w'.heap.size/\ ∀b o,b<W2.heap.size->w'.cell? ⟨b,o,none⟩=W2.cell? ⟨b,o,none⟩) (first|with_reducible exact HK5.out|with_reducible exact SK0.out|with_reducible exact zZ SK0.out|with_reducible exact SK1.out|with_reducible exact zZ HK5.out|with_reducible exact zb8 HK5.out)
    ((go_at_call 206;refine(hQ _).mono ?_;rintro e w5 ⟨so',c',rfl,hs',hb5⟩;first|(have hbb:Below W2.heap.size W2 w5:=(by with_reducible exact zd HDR.out hb5);have HK5:=zzH (zbf hbb))|(have hbb:Below W2.heap.size W2 w5:=(by with_reducible exact zd HDA.out hb5);have xl:w5.heap[W2.heap.size]?=some (.cells zY 116 (0,0)):=(hb5.block W2.heap.size (zb HAN.out)).trans HAN.out;have XL:=zzH xl;obtain⟨l0,l1,l2,l3,l4,l5,l6,l7,l8,lz⟩:=zf xl;clear xl;have HK5:=zzH (zbf hbb))))|fail
   ·exact zz47
   ·exact zz46
  ·have hQ: ∀wx,Calls Tryz.prog 207 #[.agg #[.int .i64 2,.int .i64 t.int,.int .i64 t.gen,.string t.name,.string t.func,.int .i64 t.arity,.slice so t.items.length c,.string t.bytes,.int .i64 t.bits]] wx (zby w0 wx f t):=fun wx=>by have h:=zk0 t so c f w0 wx HT.out HKT.out;rwa [HKT.out]at h
   have n0:W2.cell? ⟨M,2,none⟩=some (.func (.func 207) #[] #[]):=zzq0 _ _ 2 _ _ _ HM2.out
   first|go_region_held3 (fun w'=>W2.heap.size<=w'.heap.size/\ ∀b o,b<W2.heap.size->w'.cell? ⟨b,o,none⟩=W2.cell? ⟨b,o,none⟩) (first|with_reducible exact HK5.out|with_reducible exact SK0.out|with_reducible exact zZ SK0.out|with_reducible exact SK1.out|with_reducible exact zZ HK5.out|with_reducible exact zb8 HK5.out)
    ((go_at_call 207;refine(hQ _).mono ?_;rintro e w5 ⟨so',c',rfl,hs',hb5⟩;first|(have hbb:Below W2.heap.size W2 w5:=(by with_reducible exact zd HDR.out hb5);have HK5:=zzH (zbf hbb))|(have hbb:Below W2.heap.size W2 w5:=(by with_reducible exact zd HDA.out hb5);have xl:w5.heap[W2.heap.size]?=some (.cells zY 116 (0,0)):=(hb5.block W2.heap.size (zb HAN.out)).trans HAN.out;have XL:=zzH xl;obtain⟨l0,l1,l2,l3,l4,l5,l6,l7,l8,lz⟩:=zf xl;clear xl;have HK5:=zzH (zbf hbb))))|fail
   ·exact zz47
   ·exact zz46
  ·have hQ: ∀wx,Calls Tryz.prog 203 #[.agg #[.int .i64 3,.int .i64 t.int,.int .i64 t.gen,.string t.name,.string t.func,.int .i64 t.arity,.slice so t.items.length c,.string t.bytes,.int .i64 t.bits]] wx (zby w0 wx f t):=fun wx=>by have h:=zlg t so c f w0 wx HT.out HKT.out;rwa [HKT.out]at h
   have n0:W2.cell? ⟨M,3,none⟩=some (.func (.func 203) #[] #[]):=zzq0 _ _ 3 _ _ _ HM2.out;exact zz44
  ·have hQ: ∀wx,Calls Tryz.prog 208 #[.agg #[.int .i64 4,.int .i64 t.int,.int .i64 t.gen,.string t.name,.string t.func,.int .i64 t.arity,.slice so t.items.length c,.string t.bytes,.int .i64 t.bits]] wx (zby w0 wx f t):=fun wx=>by have h:=zlh t so c f w0 wx HT.out HKT.out;rwa [HKT.out]at h
   have n0:W2.cell? ⟨M,4,none⟩=some (.func (.func 208) #[] #[]):=zzq0 _ _ 4 _ _ _ HM2.out
   first|go_region_held3 (fun w'=>W2.heap.size<=w'.heap.size/\ ∀b o,b<W2.heap.size->w'.cell? ⟨b,o,none⟩=W2.cell? ⟨b,o,none⟩) (first|with_reducible exact HK5.out|with_reducible exact SK0.out|with_reducible exact zZ SK0.out|with_reducible exact SK1.out|with_reducible exact zZ HK5.out|with_reducible exact zb8 HK5.out)
    ((go_at_call 208;refine(hQ _).mono ?_;rintro e w5 ⟨so',c',rfl,hs',hb5⟩;first|(have hbb:Below W2.heap.size W2 w5:=(by with_reducible exact zd HDR.out hb5);have HK5:=zzH (zbf hbb))|(have hbb:Below W2.heap.size W2 w5:=(by with_reducible exact zd HDA.out hb5);have xl:w5.heap[W2.heap.size]?=some (.cells zY 116 (0,0)):=(hb5.block W2.heap.size (zb HAN.out)).trans HAN.out;have XL:=zzH xl;obtain⟨l0,l1,l2,l3,l4,l5,l6,l7,l8,lz⟩:=zf xl;clear xl;have HK5:=zzH (zbf hbb))))|fail
   ·exact zz47
   ·exact zz46
  ·have hQ: ∀wx,Calls Tryz.prog 209 #[.agg #[.int .i64 5,.int .i64 t.int,.int .i64 t.gen,.string t.name,.string t.func,.int .i64 t.arity,.slice so t.items.length c,.string t.bytes,.int .i64 t.bits]] wx (zby w0 wx f t):=fun wx=>by have h:=zll t so c f w0 wx HT.out HKT.out;rwa [HKT.out]at h
   have n0:W2.cell? ⟨M,5,none⟩=some (.func (.func 209) #[] #[]):=zzq0 _ _ 5 _ _ _ HM2.out
   first|go_region_held3 (fun w'=>W2.heap.size<=w'.heap.size/\ ∀b o,b<W2.heap.size->w'.cell? ⟨b,o,none⟩=W2.cell? ⟨b,o,none⟩) (first|with_reducible exact HK5.out|with_reducible exact SK0.out|with_reducible exact zZ SK0.out|with_reducible exact SK1.out|with_reducible exact zZ HK5.out|with_reducible exact zb8 HK5.out)
    ((go_at_call 209;refine(hQ _).mono ?_;rintro e w5 ⟨so',c',rfl,hs',hb5⟩;first|(have hbb:Below W2.heap.size W2 w5:=(by with_reducible exact zd HDR.out hb5);have HK5:=zzH (zbf hbb))|(have hbb:Below W2.heap.size W2 w5:=(by with_reducible exact zd HDA.out hb5);have xl:w5.heap[W2.heap.size]?=some (.cells zY 116 (0,0)):=(hb5.block W2.heap.size (zb HAN.out)).trans HAN.out;have XL:=zzH xl;obtain⟨l0,l1,l2,l3,l4,l5,l6,l7,l8,lz⟩:=zf xl;clear xl;have HK5:=zzH (zbf hbb))))|fail
   ·exact zz47
   ·exact zz46
  ·have hQ: ∀wx,Calls Tryz.prog 203 #[.agg #[.int .i64 6,.int .i64 t.int,.int .i64 t.gen,.string t.name,.string t.func,.int .i64 t.arity,.slice so t.items.length c,.string t.bytes,.int .i64 t.bits]] wx (zby w0 wx f t):=fun wx=>by have h:=zln t so c f w0 wx HT.out HKT.out;rwa [HKT.out]at h
   have n0:W2.cell? ⟨M,6,none⟩=some (.func (.func 203) #[] #[]):=zzq0 _ _ 6 _ _ _ HM2.out;exact zz44
  ·have hQ: ∀wx,Calls Tryz.prog 210 #[.agg #[.int .i64 7,.int .i64 t.int,.int .i64 t.gen,.string t.name,.string t.func,.int .i64 t.arity,.slice so t.items.length c,.string t.bytes,.int .i64 t.bits]] wx (zby w0 wx f t):=fun wx=>by have h:=zk9 t so c f w0 wx HT.out HKT.out;rwa [HKT.out]at h
   have n0:W2.cell? ⟨M,7,none⟩=some (.func (.func 210) #[] #[]):=zzq0 _ _ 7 _ _ _ HM2.out
   first|go_region_held3 (fun w'=>W2.heap.size<=w'.heap.size/\ ∀b o,b<W2.heap.size->w'.cell? ⟨b,o,none⟩=W2.cell? ⟨b,o,none⟩) (first|with_reducible exact HK5.out|with_reducible exact SK0.out|with_reducible exact zZ SK0.out|with_reducible exact SK1.out|with_reducible exact zZ HK5.out|with_reducible exact zb8 HK5.out)
    ((go_at_call 210;refine(hQ _).mono ?_;rintro e w5 ⟨so',c',rfl,hs',hb5⟩;first|(have hbb:Below W2.heap.size W2 w5:=(by with_reducible exact zd HDR.out hb5);have HK5:=zzH (zbf hbb))|(have hbb:Below W2.heap.size W2 w5:=(by with_reducible exact zd HDA.out hb5);have xl:w5.heap[W2.heap.size]?=some (.cells zY 116 (0,0)):=(hb5.block W2.heap.size (zb HAN.out)).trans HAN.out;have XL:=zzH xl;obtain⟨l0,l1,l2,l3,l4,l5,l6,l7,l8,lz⟩:=zf xl;clear xl;have HK5:=zzH (zbf hbb))))|fail
   ·exact zz47
   ·exact zz46
  ·have hQ: ∀wx,Calls Tryz.prog 211 #[.agg #[.int .i64 8,.int .i64 t.int,.int .i64 t.gen,.string t.name,.string t.func,.int .i64 t.arity,.slice so t.items.length c,.string t.bytes,.int .i64 t.bits]] wx (zby w0 wx f t):=fun wx=>by have h:=zlb t so c f w0 wx HT.out HKT.out;rwa [HKT.out]at h
   have n0:W2.cell? ⟨M,8,none⟩=some (.func (.func 211) #[] #[]):=zzq0 _ _ 8 _ _ _ HM2.out
   first|go_region_held3 (fun w'=>W2.heap.size<=w'.heap.size/\ ∀b o,b<W2.heap.size->w'.cell? ⟨b,o,none⟩=W2.cell? ⟨b,o,none⟩) (first|with_reducible exact HK5.out|with_reducible exact SK0.out|with_reducible exact zZ SK0.out|with_reducible exact SK1.out|with_reducible exact zZ HK5.out|with_reducible exact zb8 HK5.out)
    ((go_at_call 211;refine(hQ _).mono ?_;rintro e w5 ⟨so',c',rfl,hs',hb5⟩;first|(have hbb:Below W2.heap.size W2 w5:=(by with_reducible exact zd HDR.out hb5);have HK5:=zzH (zbf hbb))|(have hbb:Below W2.heap.size W2 w5:=(by with_reducible exact zd HDA.out hb5);have xl:w5.heap[W2.heap.size]?=some (.cells zY 116 (0,0)):=(hb5.block W2.heap.size (zb HAN.out)).trans HAN.out;have XL:=zzH xl;obtain⟨l0,l1,l2,l3,l4,l5,l6,l7,l8,lz⟩:=zf xl;clear xl;have HK5:=zzH (zbf hbb))))|fail
   ·exact zz47
   ·exact zz46
  ·have hQ: ∀wx,Below W2.heap.size W2 wx->Calls Tryz.prog 212 #[.agg #[.int .i64 9,.int .i64 t.int,.int .i64 t.gen,.string t.name,.string t.func,.int .i64 t.arity,.slice so t.items.length c,.string t.bytes,.int .i64 t.bits]] wx (zby w0 wx f t):=fun wx hbx=>by have h:=zk1 t so c f w0 wx HT.out ((HB.out.trans (HB2.out.mono HWB.out)).trans (hbx.mono (zzY HB.out.size HB2.out.size))) HOK.out.2.2.2.2.2.2.1 HKT.out;rwa [HKT.out]at h
   have n0:W2.cell? ⟨M,9,none⟩=some (.func (.func 212) #[] #[]):=zzq0 _ _ 9 _ _ _ HM2.out
   first|go_region_held3 (fun w'=>W2.heap.size<=w'.heap.size/\ ∀b o,b<W2.heap.size->w'.cell? ⟨b,o,none⟩=W2.cell? ⟨b,o,none⟩) (first|with_reducible exact HK5.out|with_reducible exact SK0.out|with_reducible exact zZ SK0.out|with_reducible exact SK1.out|with_reducible exact zZ HK5.out|with_reducible exact zb8 HK5.out)
    ((go_at_call 212;(first|(refine(hQ _ ?_).mono ?_;with_reducible exact HDR.out)|(refine(hQ _ ?_).mono ?_;with_reducible exact HDA.out));rintro e w5 ⟨so',c',rfl,hs',hb5⟩;first|(have hbb:Below W2.heap.size W2 w5:=(by with_reducible exact zd HDR.out hb5);have HK5:=zzH (zbf hbb))|(have hbb:Below W2.heap.size W2 w5:=(by with_reducible exact zd HDA.out hb5);have xl:w5.heap[W2.heap.size]?=some (.cells zY 116 (0,0)):=(hb5.block W2.heap.size (zb HAN.out)).trans HAN.out;have XL:=zzH xl;obtain⟨l0,l1,l2,l3,l4,l5,l6,l7,l8,lz⟩:=zf xl;clear xl;have HK5:=zzH (zbf hbb))))|fail
   ·exact zz47
   ·exact zz46
  ·have hQ: ∀wx,Calls Tryz.prog 213 #[.agg #[.int .i64 10,.int .i64 t.int,.int .i64 t.gen,.string t.name,.string t.func,.int .i64 t.arity,.slice so t.items.length c,.string t.bytes,.int .i64 t.bits]] wx (zby w0 wx f t):=fun wx=>by have h:=zkL t so c f w0 wx HT.out HOK.out.2.2.2.2.2.2.2.1 HOK.out.2.2.2.2.2.2.2.2 HKT.out;rwa [HKT.out]at h
   have n0:W2.cell? ⟨M,10,none⟩=some (.func (.func 213) #[] #[]):=zzq0 _ _ 10 _ _ _ HM2.out
   first|go_region_held3 (fun w'=>W2.heap.size<=w'.heap.size/\ ∀b o,b<W2.heap.size->w'.cell? ⟨b,o,none⟩=W2.cell? ⟨b,o,none⟩) (first|with_reducible exact HK5.out|with_reducible exact SK0.out|with_reducible exact zZ SK0.out|with_reducible exact SK1.out|with_reducible exact zZ HK5.out|with_reducible exact zb8 HK5.out)
    ((go_at_call 213;refine(hQ _).mono ?_;rintro e w5 ⟨so',c',rfl,hs',hb5⟩;first|(have hbb:Below W2.heap.size W2 w5:=(by with_reducible exact zd HDR.out hb5);have HK5:=zzH (zbf hbb))|(have hbb:Below W2.heap.size W2 w5:=(by with_reducible exact zd HDA.out hb5);have xl:w5.heap[W2.heap.size]?=some (.cells zY 116 (0,0)):=(hb5.block W2.heap.size (zb HAN.out)).trans HAN.out;have XL:=zzH xl;obtain⟨l0,l1,l2,l3,l4,l5,l6,l7,l8,lz⟩:=zf xl;clear xl;have HK5:=zzH (zbf hbb))))|fail
   ·exact zz47
   ·exact zz46
 case rest=>
  obtain⟨L,so',c',rfl,rfl,hL,hsl,hLr,hBx⟩:=hcut;rename World=>wc
  have HSL:=zzH hsl;clear hsl;obtain⟨x0,x1,x2,x3,x4,x5,x6,x7,x8,xz⟩:=zf hLr;refine zzK3 hLr hBx hL fun HLR HBX HL=>?_;clear hLr hBx hL q0 q1 q2 q3 q4 q5 q6 q7 q8 b0 hl0 hl1;have HMl2:=zzH hMl2;clear hMl2;have hq:okK t=false\/okK t=true:=by cases okK t<;>simp
  rcases hq with hq|hq
  ·have E:Hid (zr (f+1) t=false):=zzH (by unfold zr zcc;rw [hq];rfl)
   rw [hq];clear hq;go_wp2;go_ret;exact⟨zi E.out.symm,zT (HBW2.out.trans ((HBX.out.mono (HBW2.out.size)).setCell (p:=⟨L,0,none⟩) (zzY HBW2.out.size HL.out) _)) _,s,Int.le_refl _,by omega,(zzq3 _ _ _ _ (Nat.ne_of_lt (zzW HMl2.out HL.out))).trans (HM2.out.below HBX.out),fun h=>absurd (E.out.symm.trans h) (by decide)⟩
  ·have HQ:=zzH hq
   rw [hq];clear hq;go_upto_region 5 with fail;have r6:(wc.setCell ⟨L,0,none⟩ (.int .i64 0)).heap[L]?=some (.cells #[.int .i64 0,.int .i64 (zk t).int,.int .i64 (zk t).gen,.string (zk t).name,.string (zk t).func,.int .i64 (zk t).arity,.slice so' (zk t).items.length c',.string (zk t).bytes,.int .i64 (zk t).bits] 116 (0,0)):=zzS _ _ 0 _ _ (.int .i64 0) HLR.out
   have hB6:Below w.heap.size w (wc.setCell ⟨L,0,none⟩ (.int .i64 0)):=HBW2.out.trans ((HBX.out.mono (HBW2.out.size)).setCell (p:=⟨L,0,none⟩) (zzY HBW2.out.size HL.out) _);have hB62:Below W2.heap.size W2 (wc.setCell ⟨L,0,none⟩ (.int .i64 0)):=HBX.out.setCell (p:=⟨L,0,none⟩) HL.out _;have HM6:Hid (MeasAt M s (wc.setCell ⟨L,0,none⟩ (.int .i64 0))):=zzH (HM2.out.below hB62);refine zzK3 ((hB62.block B (zb R0.out)).trans R0.out) ((hB62.block (B+1) (zb R1.out)).trans R1.out) hB6 fun HR0 HR1 HB6=>?_;clear hB6 hB62 x0 x1 x2 x3 x4 x5 x6 x7 x8 xz;generalize wc.setCell ⟨L,0,none⟩ (.int .i64 0)=w6 at *;have HB06:Hid (Below w0.heap.size w0 w6):=zzH (HB.out.trans (HB6.out.mono HB.out.size));have hSM:Calls Tryz.prog 214 #[.agg #[.int .i64 0,.int .i64 (zk t).int,.int .i64 (zk t).gen,.string (zk t).name,.string (zk t).func,.int .i64 (zk t).arity,.slice so' (zk t).items.length c',.string (zk t).bytes,.int .i64 (zk t).bits],.agg #[.int .i64 0,.int .i64 0,.int .i64 0,.string ⟨#[]⟩,.string ⟨#[]⟩,.int .i64 0,.slice none 0 0,.string ⟨#[]⟩,.int .i64 0]] w6 fun e w'=>e= .returned (.bool (zbr (f+1) (zen t) zcW))/\Below w6.heap.size w6 w':=zkB f (zen t) zcW so' none c' 0 w6 (HSL.out.tms HB06.out) (SlAt.nil _ _ _ _) (zzY (ziQ t) HOK.out.2.2.2.2.2.2.1) (zzZ _)
   have HLO:Hid ((true&&zbr (f+1) (zen t) zcW)=zcc t):=zzH (by rw [<-HQ.out];exact zlY f t);obtain⟨x0,x1,x2,x3,x4,x5,x6,x7,x8,xz⟩:=zf r6;clear r6 xz;generalize zbr (f+1) (zen t) zcW=q at *
   cases q with
   |false=>
    have E:Hid (zr (f+1) t=false):=zzH (by unfold zr;rw [<-HLO.out];rfl);go_wp2_with fail;refine hSM.mono ?_;rintro e w7 ⟨rfl,hb7⟩;go_wp2;go_ret;exact⟨zi E.out.symm,zT (zd HB6.out hb7) _,s,Int.le_refl _,by omega,HM6.out.below hb7,fun h=>absurd (E.out.symm.trans h) (by decide)⟩
   |true=>
    have HLB:Hid (zcc t=true):=zzH HLO.out.symm;go_wp2_with fail;refine hSM.mono ?_;rintro e w7 ⟨rfl,hb7⟩;have hR0:=(hb7.block B (zb HR0.out)).trans HR0.out;have hR1:=(hb7.block (B+1) (zb HR1.out)).trans HR1.out;have HM7:=zzH (HM6.out.below hb7);have HB7:=zzH (zd HB6.out hb7);clear hb7 hSM x0 x1 x2 x3 x4 x5 x6 x7 x8;obtain⟨y0,y1,y2,y3,y4,y5,y6,y7,y8,yz⟩:=zf hR1;have b0:w7.cell? ⟨B,0,none⟩=some (.pointer (some ⟨M,0,none⟩)):=by rw [zzq0 _ _ _ _ _ _ hR0];rfl
    obtain⟨m11,mz⟩:=HM7.out.cell;have HR07:=zzH hR0;have HR17:=zzH hR1;clear hR0 hR1 yz;by_cases k9:tk=9
    ·subst k9
     have hl2:=zji HLB.out HKT.out;have hcap:(zv (f+1) t:Int)=300+(t.items.length:Int)+(zR (t.items.map (zv f)):Int):=by unfold zv;omega
     have hwr1:=zzV t.items.length (by omega)
     have hwr2:IntKind.i64.wrap (s+((t.items.length:Int)-1))=s+((t.items.length:Int)-1):=by rw [zzq5];omega
     go_upto_region 10 with fail;go_region;go_upto_region 13 with fail;have HM8:Hid (MeasAt M (s+((t.items.length:Int)-1)) (w7.setCell ⟨M,11,none⟩ (.int .i64 (s+((t.items.length:Int)-1)))).drew):=zzH (zeH HM7.out);have HG8:Hid (w.grownBy (w7.setCell ⟨M,11,none⟩ (.int .i64 (s+((t.items.length:Int)-1)))).drew (some M)):=zzH (zef (zbe (zT HB7.out _) (zdq _ _ _ _)));have hR0:(w7.setCell ⟨M,11,none⟩ (.int .i64 (s+((t.items.length:Int)-1)))).drew.heap[B]?=some (.cells #[.pointer (some ⟨M,0,none⟩)] 224 (0,0)):=(zzq3 _ _ _ _ (Nat.ne_of_gt HML.out)).trans HR07.out
     have hR1:(w7.setCell ⟨M,11,none⟩ (.int .i64 (s+((t.items.length:Int)-1)))).drew.heap[B+1]?=some (.cells #[.int .i64 9,.int .i64 t.int,.int .i64 t.gen,.string t.name,.string t.func,.int .i64 t.arity,.slice so t.items.length c,.string t.bytes,.int .i64 t.bits] 116 (0,0)):=(zzq3 _ _ _ _ (Nat.ne_of_gt (Nat.lt_succ_of_lt HML.out))).trans HR17.out
     have HB08:Hid (Below w0.heap.size w0 (w7.setCell ⟨M,11,none⟩ (.int .i64 (s+((t.items.length:Int)-1)))).drew):=zzH (zb6 HB.out HG8.out hM);clear y0 y1 y2 y3 y4 y5 y6 y7 y8 b0 m11 mz;generalize(w7.setCell ⟨M,11,none⟩ (.int .i64 (s+((t.items.length:Int)-1)))).drew=w8 at *;obtain⟨y0,y1,y2,y3,y4,y5,y6,y7,y8,yz⟩:=zf hR1;have hCF:=HC.out t.items so c M B (s+((t.items.length:Int)-1)) w0 w8 HT.out HOK.out.2.2.2.2.2.2.1 HB08.out hM HM8.out hR0 (Nat.ne_of_gt HML.out) (by omega) (by omega);have EF:Hid (zr (f+1) t=t.items.all (zr f)):=zzH (by unfold zr;rw [HLB.out];rfl);have EW:Hid (zD (f+1) t=((t.items.length:Int)-1)+zbA (t.items.map (zD f))):=zzH (by unfold zD zcm;rw [HKT.out];rfl);exact zz45
    ·by_cases k10:tk=10
     ·subst k10
      obtain⟨hl2,hl3⟩:=ziy HLB.out HKT.out;have hcap:(zv (f+1) t:Int)=300+(t.items.length:Int)+(zR (t.items.map (zv f)):Int):=by unfold zv;omega
      have hwr0:IntKind.i64.wrap (t.bits+63)=t.bits+63:=by rw [zzq5];omega
      have hwd:(t.bits+63).tdiv 64=(t.bits+63)/64:=by rw [Int.tdiv_eq_ediv_of_nonneg (by omega)]
      have hwr1:IntKind.i64.wrap (1+(t.bits+63)/64)=1+(t.bits+63)/64:=by rw [zzq5];omega
      have hwr2:IntKind.i64.wrap (s+(1+(t.bits+63)/64))=s+(1+(t.bits+63)/64):=by rw [zzq5];omega
      go_upto_region 12 with fail;go_region;go_upto_region 13 with fail;have HM8:Hid (MeasAt M (s+(1+(t.bits+63)/64)) (w7.setCell ⟨M,11,none⟩ (.int .i64 (s+(1+(t.bits+63)/64)))).drew):=zzH (zeH HM7.out);have HG8:Hid (w.grownBy (w7.setCell ⟨M,11,none⟩ (.int .i64 (s+(1+(t.bits+63)/64)))).drew (some M)):=zzH (zef (zbe (zT HB7.out _) (zdq _ _ _ _)));have hR0:(w7.setCell ⟨M,11,none⟩ (.int .i64 (s+(1+(t.bits+63)/64)))).drew.heap[B]?=some (.cells #[.pointer (some ⟨M,0,none⟩)] 224 (0,0)):=(zzq3 _ _ _ _ (Nat.ne_of_gt HML.out)).trans HR07.out
      have hR1:(w7.setCell ⟨M,11,none⟩ (.int .i64 (s+(1+(t.bits+63)/64)))).drew.heap[B+1]?=some (.cells #[.int .i64 10,.int .i64 t.int,.int .i64 t.gen,.string t.name,.string t.func,.int .i64 t.arity,.slice so t.items.length c,.string t.bytes,.int .i64 t.bits] 116 (0,0)):=(zzq3 _ _ _ _ (Nat.ne_of_gt (Nat.lt_succ_of_lt HML.out))).trans HR17.out
      have HB08:Hid (Below w0.heap.size w0 (w7.setCell ⟨M,11,none⟩ (.int .i64 (s+(1+(t.bits+63)/64)))).drew):=zzH (zb6 HB.out HG8.out hM);clear y0 y1 y2 y3 y4 y5 y6 y7 y8 b0 m11 mz;generalize(w7.setCell ⟨M,11,none⟩ (.int .i64 (s+(1+(t.bits+63)/64)))).drew=w8 at *;obtain⟨y0,y1,y2,y3,y4,y5,y6,y7,y8,yz⟩:=zf hR1;have hCF:=HC.out t.items so c M B (s+(1+(t.bits+63)/64)) w0 w8 HT.out HOK.out.2.2.2.2.2.2.1 HB08.out hM HM8.out hR0 (Nat.ne_of_gt HML.out) (by omega) (by omega);have EF:Hid (zr (f+1) t=t.items.all (zr f)):=zzH (by unfold zr;rw [HLB.out];rfl);have EW:Hid (zD (f+1) t=(1+(t.bits+63)/64)+zbA (t.items.map (zD f))):=zzH (by unfold zD zcm;rw [HKT.out];rfl);exact zz45
     ·have hcap:(zv (f+1) t:Int)=300+(t.items.length:Int)+(zR (t.items.map (zv f)):Int):=by unfold zv;omega
      have t9:(tk==9)=false:=zzB.2 k9;have t10:(tk==10)=false:=zzB.2 k10;have K9:=zzH k9;have K10:=zzH k10;clear k9 k10;go_upto_region 13 with fail;have HM8:Hid (MeasAt M (s+1) (w7.setCell ⟨M,11,none⟩ (.int .i64 (s+1)))):=zzH (zeH HM7.out);have HG8:Hid (w.grownBy (w7.setCell ⟨M,11,none⟩ (.int .i64 (s+1))) (some M)):=zzH ((zbe (zT HB7.out _) (zdq _ _ _ _)));have hR0:(w7.setCell ⟨M,11,none⟩ (.int .i64 (s+1))).heap[B]?=some (.cells #[.pointer (some ⟨M,0,none⟩)] 224 (0,0)):=(zzq3 _ _ _ _ (Nat.ne_of_gt HML.out)).trans HR07.out
      have hR1:(w7.setCell ⟨M,11,none⟩ (.int .i64 (s+1))).heap[B+1]?=some (.cells #[.int .i64 tk,.int .i64 t.int,.int .i64 t.gen,.string t.name,.string t.func,.int .i64 t.arity,.slice so t.items.length c,.string t.bytes,.int .i64 t.bits] 116 (0,0)):=(zzq3 _ _ _ _ (Nat.ne_of_gt (Nat.lt_succ_of_lt HML.out))).trans HR17.out
      have HB08:Hid (Below w0.heap.size w0 (w7.setCell ⟨M,11,none⟩ (.int .i64 (s+1)))):=zzH (zb6 HB.out HG8.out hM);clear y0 y1 y2 y3 y4 y5 y6 y7 y8 b0 m11 mz;generalize(w7.setCell ⟨M,11,none⟩ (.int .i64 (s+1)))=w8 at *;obtain⟨y0,y1,y2,y3,y4,y5,y6,y7,y8,yz⟩:=zf hR1;have hCF:=HC.out t.items so c M B (s+1) w0 w8 HT.out HOK.out.2.2.2.2.2.2.1 HB08.out hM HM8.out hR0 (Nat.ne_of_gt HML.out) (by omega) (by omega);have EF:Hid (zr (f+1) t=t.items.all (zr f)):=zzH (by unfold zr;rw [HLB.out];rfl);have EW:Hid (zD (f+1) t=1+zbA (t.items.map (zD f))):=zzH (by unfold zD zcm;rw [HKT.out];rw [if_neg K9.out,if_neg K10.out]);exact zz45
theorem zjD {f:Nat} (HC:Hid (CfP f)):OfP f:=fun t so c M s w0 w ht hok hb hM hm hs0 hs1=>by
 by_cases hk:0<=t.kind/\t.kind<11
 ·exact zl0 HC t so c M s w0 w ht hok hb hM hm hs0 hs1 hk.1 hk.2
 ·exact zlZ t so c M s w0 w hm hk
theorem ziN {M:Nat} {s:Int} {c1:Nat} {o1:Bool} {a1:Int} {w w1 w2:World} (h:Below w.heap.size w w1) (h1:zcY M s c1 o1 a1 w1 w2):zcY M s c1 o1 a1 w w2:=⟨zbe (zT h _) h1.1,h1.2⟩
theorem zk7 {f:Nat} (HO:Hid (OfP f)) (t:Tm) (so:zzA) (c M mb:Nat) (s:Int) (w0 w:World) (ht:SlAt w0 9 (TmAt w0 f) so t.items) (hok:t.Ok) (hb:Below w0.heap.size w0 w) (hM:w0.heap.size<=M) (hm:MeasAt M s w) (hmb:w.heap[mb]?=some (.cells #[.pointer (some ⟨M,0,none⟩)] 224 (0,0))) (hs0:0<=s) (hs1:s+zv (f+1) t<=1152921504606846976):
  Calls Tryz.prog 216 #[.agg (zzt t so c),.pointer (some ⟨mb,0,none⟩)] w fun e w'=>e= .returned (.bool (!(zr (f+1) t)))/\zcY M s (zv (f+1) t) (zr (f+1) t) (zD (f+1) t) w w':=by
 unfold zzt;have hB:Below w.heap.size w (w.alloc (.cells (zzt t so c) 116)):=zzE _ _;have hO:=HO.out t so c M s w0 (w.alloc (.cells (zzt t so c) 116)) ht hok (hb.trans (hB.mono hb.size)) hM (hm.below hB) hs0 hs1;have c0:w.cell? ⟨mb,0,none⟩=some (.pointer (some ⟨M,0,none⟩)):=by rw [zzq0 _ _ _ _ _ _ hmb];rfl
 have hl:=zb hmb;have HBB:=zzH hB;clear hmb hB hm hb ht hok hs0 hs1;generalize zr (f+1) t=r at *
 cases r
 all_goals
  go_in;go_wp2_with fail;refine hO.mono ?_;rintro e w5 ⟨rfl,hq⟩;have HQ:=zzH hq;clear hq;go_wp2;go_ret;exact⟨rfl,ziN HBB.out HQ.out⟩
theorem zfM {f:Nat} {l:List Tm} {k:Nat} (h:k<l.length):zR ((l.drop k).map (zv f))=zv f l[k]+zR ((l.drop (k+1)).map (zv f)):=by
 rw [List.drop_eq_getElem_cons h,List.map_cons,zR]
theorem zfE {f:Nat} {l:List Tm} {k:Nat} (h:k<l.length):zbA ((l.drop k).map (zD f))=zD f l[k]+zbA ((l.drop (k+1)).map (zD f)):=by
 rw [List.drop_eq_getElem_cons h,List.map_cons,zbA]
theorem zgM {p:Tm->Bool} {l:List Tm} {k:Nat} (h:k<l.length):(l.drop k).all p=(p l[k]&&(l.drop (k+1)).all p):=by
 rw [List.drop_eq_getElem_cons h,List.all_cons]
def zkN (M:Nat) (s:Int) (cap:Nat) (ok:Bool) (add:Int) (w:World) (e:Ending) (w':World):Prop:=(∃i:Int,e= .returned (.int .i64 i)/\decide (0<=i)= !ok)/\zcY M s cap ok add w w'
def GoQ (M:Nat) (s:Int) (f:Nat) (l:List Tm) (k:Nat) (w wr:World):Prop:=w.grownBy wr (some M)/\ ∃s',s<=s'/\s'+zR ((l.drop k).map (zv f))<=s+zR (l.map (zv f))/\MeasAt M s' wr/\l.all (zr f)=(l.drop k).all (zr f)/\s'+zbA ((l.drop k).map (zD f))=s+zbA (l.map (zD f))
theorem zj4 {f:Nat} (HO:Hid (OfP f)) (l:List Tm) (ao:zzA) (c M mb:Nat) (s:Int) (w0 w:World) (ht:SlAt w0 9 (TmAt w0 (f+1)) ao l) (hl:l.length<=maxLen) (hb:Below w0.heap.size w0 w) (hM:w0.heap.size<=M) (hm:MeasAt M s w) (hmb:w.heap[mb]?=some (.cells #[.pointer (some ⟨M,0,none⟩)] 224 (0,0))) (hne:mb≠M) (hs0:0<=s) (hs1:s+zR (l.map (zv (f+1)))<=1152921504606846976):
  Calls Tryz.prog 233 #[.slice ao l.length c,.func (.func 216) #[] #[.pointer (some ⟨mb,0,none⟩)]] w (zkN M s (zR (l.map (zv (f+1)))) (l.all (zr (f+1))) (zbA (l.map (zD (f+1)))) w):=by
 unfold maxLen at hl;refine zzK3 ht hb hmb fun HT HB HMB=>?_;have HG:Hid (GoQ M s (f+1) l 0 w w):=zzH ⟨zdh _ _,s,Int.le_refl _,by rw [List.drop_zero];omega,hm,rfl,by rw [List.drop_zero]⟩;have HML:=zzH (zb hmb);clear ht hb hmb hm;go_in;go_wp2_with fail;go_loopw [5,8] (fun _ i wr=> ∃k:Nat,k<=l.length/\i= .int .i64 k/\Hid (GoQ M s (f+1) l k w wr)) (fun _ i _=>l.length-(intOf i).toNat)
 case atStart=>exact⟨0,zzZ _,rfl,HG⟩
 case round=>
  obtain⟨k,hk,rfl,HK⟩:=hrel;rename World=>wr
  obtain⟨g1,s',z1,z2,z3,z4,z5⟩:=HK.out;have hB0r:Below w0.heap.size w0 wr:=zb6 HB.out g1 hM;have hmbr:=(g1.block mb HML.out (fun e=>hne (zzf e))).trans HMB.out;by_cases hlt:k<l.length
  ·have hsa:=HT.out.tms hB0r
   obtain⟨b1,off1,ai,ci,hao,hb1,q0,q1,q2,q3,q4,q5,q6,q7,q8,hit,hok⟩:=hsa.tm hlt;obtain⟨b1',off1',ai',ci',hao',hb1',q0',q1',q2',q3',q4',q5',q6',q7',q8',hit',hok'⟩:=HT.out.tm hlt;subst hao;obtain⟨rfl,rfl⟩:b1=b1'/\off1=off1':=by injection hao' with h;injection h with h1 h2;exact⟨h1,h2⟩
   have hai:ai=ai':=by
    exact zz48
   subst hai;rw [zfM hlt]at z2;rw [zgM hlt]at z4;rw [zfE hlt]at z5;have hO:=zk7 HO l[k] ai ci M mb s' w0 wr hit' hok hB0r hM z3 hmbr (by omega) (by omega);refine zzK3 z2 z4 z5 fun Z2 Z4 Z5=>?_;clear hao' q0' q1' q2' q3' q4' q5' q6' q7' q8' hit' hok' hit hok hsa z2 z4 z5;generalize l[k]=x at *
   cases hr:zr (f+1) x with
   |true=>
    rw [hr]at hO;have Z4':Hid (l.all (zr (f+1))=(l.drop (k+1)).all (zr (f+1))):=zzH (by rw [Z4.out,hr,zzq11]);clear hr;go_wp2_with fail;refine hO.mono ?_;rintro e w5 ⟨rfl,g5,s5,y1,y2,y3,y4⟩;have HG5:Hid (GoQ M s (f+1) l (k+1) w w5):=zzH ⟨zbe g1 g5,s5,by omega,by have:=Z2.out;omega,y3,Z4'.out,by have:=Z5.out;have:=y4 rfl;omega⟩;exact zz49
   |false=>
    rw [hr]at hO;have Z4':Hid (l.all (zr (f+1))=false):=zzH (by rw [Z4.out,hr,Bool.false_and]);clear hr;go_wp2_with fail;refine hO.mono ?_;rintro e w5 ⟨rfl,g5,s5,y1,y2,y3,y4⟩;have HF:Hid (zcY M s (zR (l.map (zv (f+1)))) (l.all (zr (f+1))) (zbA (l.map (zD (f+1)))) w w5):=zzH ⟨zbe g1 g5,s5,by omega,by have:=Z2.out;omega,y3,fun h=>absurd (Z4'.out.symm.trans h) (by decide)⟩;have HE:Hid (decide (0<=(k:Int))= !(l.all (zr (f+1)))):=zzH (by rw [Z4'.out,decide_eq_true (by omega)];rfl);go_wp2;go_ret;exact⟨⟨_,rfl,HE.out⟩,HF.out⟩
  ·have hke:l.drop k= []:=zzq10 (by omega)
   rw [hke]at z2 z4 z5;have HF:Hid (zcY M s (zR (l.map (zv (f+1)))) (l.all (zr (f+1))) (zbA (l.map (zD (f+1)))) w wr):=zzH ⟨g1,s',z1,by simp only [List.map_nil,zR]at z2;omega,z3,fun _=>by simp only [List.map_nil,zbA]at z5;omega⟩;have HE:Hid (decide (0<=(-1:Int))= !(l.all (zr (f+1)))):=zzH (by rw [z4];rfl);clear z2 z4 z5 hke;go_wp2;go_ret;exact⟨⟨_,rfl,HE.out⟩,HF.out⟩
theorem zkw (ao:zzA) (c M mb:Nat) (s:Int) (w:World) (hm:MeasAt M s w):
  Calls Tryz.prog 233 #[.slice ao 0 c,.func (.func 216) #[] #[.pointer (some ⟨mb,0,none⟩)]] w (zkN M s 0 true 0 w):=by
 have HF:Hid (zcY M s 0 true 0 w w):=zzH ⟨zdh _ _,s,Int.le_refl _,by omega,hm,fun _=>by omega⟩;clear hm;go_in;go_wp2_with fail;go_loop [8] (fun i=>i= .int .i64 0) (fun _=>0)
 case atStart=>rfl
 case round=>
  obtain rfl:=hrel;go_wp2;go_ret;exact⟨⟨_,rfl,rfl⟩,HF.out⟩
theorem zkU (l:List Tm) (ao:zzA) (c M mb:Nat) (s:Int) (cap:Nat) (ok:Bool) (add:Int) (w:World)
  (h:Calls Tryz.prog 233 #[.slice ao l.length c,.func (.func 216) #[] #[.pointer (some ⟨mb,0,none⟩)]] w (zkN M s cap ok add w)):
  Calls Tryz.prog 215 #[.slice ao l.length c,.func (.func 216) #[] #[.pointer (some ⟨mb,0,none⟩)]] w fun e w'=>e= .returned (.bool (!ok))/\zcY M s cap ok add w w':=by
 go_in;go_wp2_with fail;refine h.mono ?_;rintro e w5 ⟨⟨i,rfl,hi⟩,hq⟩;have HI:=zzH hi;have HQ:=zzH hq;clear hi hq;go_wp2;go_ret;exact⟨zi HI.out,HQ.out⟩
theorem zjP: ∀f,CfP f
 |0=>fun l ao c M mb s w0 w ht hl hb hM hm hmb hne hs0 hs1=>by
  obtain rfl:=ht.zero;exact zkU [] ao c M mb s 0 true 0 w (zkw ao c M mb s w hm)
 |f+1=>fun l ao c M mb s w0 w ht hl hb hM hm hmb hne hs0 hs1=>
  zkU l ao c M mb s _ _ _ w (zj4 (zzH (zjD (zzH (zjP f)))) l ao c M mb s w0 w ht hl hb hM hm hmb hne hs0 hs1)
theorem zlF (f:Nat):OfP f:=zjD (zzH (zjP f))
theorem zjS (w:World):Calls Tryz.prog 173 #[] w fun e w'=>e= .returned (.agg #[.func (.func 205) #[] #[],.func (.func 206) #[] #[],.func (.func 207) #[] #[],.func (.func 203) #[] #[],.func (.func 208) #[] #[],.func (.func 209) #[] #[],.func (.func 203) #[] #[],.func (.func 210) #[] #[],.func (.func 211) #[] #[],.func (.func 212) #[] #[],.func (.func 213) #[] #[]])/\Below w.heap.size w w':=by
 go_in;go_wp2_with fail;exact zzj (v:=.agg #[.func (.func 205) #[] #[],.func (.func 206) #[] #[],.func (.func 207) #[] #[],.func (.func 203) #[] #[],.func (.func 208) #[] #[],.func (.func 209) #[] #[],.func (.func 203) #[] #[],.func (.func 210) #[] #[],.func (.func 211) #[] #[],.func (.func 212) #[] #[],.func (.func 213) #[] #[]]) (by simp [results,Tryz.results173,go_sem]) rfl ⟨rfl,zzE _ _⟩
def zio (w:World) (ok:Bool) (n:Int) (e:Ending) (w':World):Prop:=e= .returned (.tuple #[.int .i64 (if ok=true then n else 0),.bool ok])/\Below w.heap.size w w'
theorem zld {w w':World} {ok:Bool} {n:Int} (h:ok=false) (hb:Below w.heap.size w w'):zio w ok n (.returned (.tuple #[.int .i64 0,.bool false])) w':=by subst h;exact⟨rfl,hb⟩
theorem zkx {w w':World} {ok:Bool} {n m:Int} (h:ok=true) (hn:m=n) (hb:Below w.heap.size w w'):zio w ok n (.returned (.tuple #[.int .i64 m,.bool true])) w':=by subst h;subst hn;exact⟨rfl,hb⟩
theorem zk3 (f:Nat) (l:List Tm) (ao:zzA) (c:Nat) (w:World) (ht:SlAt w 9 (TmAt w (f+1)) ao l) (hl:l.length<=maxLen) (hs1:(zR (l.map (zv (f+1))):Int)<=1152921504606846976):
  Calls Tryz.prog 155 #[.slice ao l.length c] w (zio w (l.all (zr (f+1))) (zbA (l.map (zD (f+1))))):=by
 unfold maxLen at hl;have HT:=zzH ht;clear ht;go_in;go_wp2_with fail;refine(zjS _).mono ?_;rintro e w1 ⟨rfl,hb1⟩;go_wp2_with fail;have hm:=zzF w1 (.cells #[.func (.func 205) #[] #[],.func (.func 206) #[] #[],.func (.func 207) #[] #[],.func (.func 203) #[] #[],.func (.func 208) #[] #[],.func (.func 209) #[] #[],.func (.func 203) #[] #[],.func (.func 210) #[] #[],.func (.func 211) #[] #[],.func (.func 212) #[] #[],.func (.func 213) #[] #[],.int .i64 0] 229);have hb2:Below w.heap.size w (w1.alloc (.cells #[.func (.func 205) #[] #[],.func (.func 206) #[] #[],.func (.func 207) #[] #[],.func (.func 203) #[] #[],.func (.func 208) #[] #[],.func (.func 209) #[] #[],.func (.func 203) #[] #[],.func (.func 210) #[] #[],.func (.func 211) #[] #[],.func (.func 212) #[] #[],.func (.func 213) #[] #[],.int .i64 0] 229)):=hb1.alloc hb1.size _;have hM:w.heap.size<=w1.heap.size:=hb1.size;generalize w1.alloc (.cells #[.func (.func 205) #[] #[],.func (.func 206) #[] #[],.func (.func 207) #[] #[],.func (.func 203) #[] #[],.func (.func 208) #[] #[],.func (.func 209) #[] #[],.func (.func 203) #[] #[],.func (.func 210) #[] #[],.func (.func 211) #[] #[],.func (.func 212) #[] #[],.func (.func 213) #[] #[],.int .i64 0] 229)=W at *;generalize w1.heap.size=M at *;have HM:Hid (MeasAt M 0 W):=zzH hm;have HG:Hid (GoQ M 0 (f+1) l 0 W W):=zzH ⟨zdh _ _,0,Int.le_refl _,by rw [List.drop_zero];omega,hm,rfl,by rw [List.drop_zero]⟩;have HB:=zzH hb2;clear hm hb2 hb1;go_loopw [7,15] (fun _ i wr=> ∃k:Nat,k<=l.length/\i= .int .i64 k/\Hid (GoQ M 0 (f+1) l k W wr)) (fun _ i _=>l.length-(intOf i).toNat)
 case atStart=>exact⟨0,zzZ _,rfl,HG⟩
 case round=>
  obtain⟨k,hk,rfl,HK⟩:=hrel;rename World=>wr
  obtain⟨g1,s',z1,z2,z3,z4,z5⟩:=HK.out;have hB0r:Below w.heap.size w wr:=zb6 HB.out g1 hM;by_cases hlt:k<l.length
  ·have hsa:=HT.out.tms hB0r
   obtain⟨b1,off1,ai,ci,hao,hb1,q0,q1,q2,q3,q4,q5,q6,q7,q8,hit,hok⟩:=hsa.tm hlt;obtain⟨b1',off1',ai',ci',hao',hb1',q0',q1',q2',q3',q4',q5',q6',q7',q8',hit',hok'⟩:=HT.out.tm hlt;subst hao;obtain⟨rfl,rfl⟩:b1=b1'/\off1=off1':=by injection hao' with h;injection h with h1 h2;exact⟨h1,h2⟩
   have hai:ai=ai':=by
    exact zz48
   subst hai;rw [zfM hlt]at z2;rw [zgM hlt]at z4;rw [zfE hlt]at z5;have hbx:Below wr.heap.size wr (wr.alloc (.cells (zzt l[k] ai ci) 116)):=zzE _ _;have HGX:Hid (W.grownBy (wr.alloc (.cells (zzt l[k] ai ci) 116)) (some M)):=zzH (zbe g1 (zT hbx _));have hO:=zlF f l[k] ai ci M s' w (wr.alloc (.cells (zzt l[k] ai ci) 116)) hit' hok' (hB0r.trans (hbx.mono hB0r.size)) hM (z3.below hbx) (by omega) (by omega);refine zzK3 z2 z4 z5 fun Z2 Z4 Z5=>?_;clear hao' q0' q1' q2' q3' q4' q5' q6' q7' q8' hit' hok' hit hok hsa z2 z4 z5 hbx;generalize l[k]=x at *
   cases hr:zr (f+1) x with
   |true=>
    rw [hr]at hO;have Z4':Hid (l.all (zr (f+1))=(l.drop (k+1)).all (zr (f+1))):=zzH (by rw [Z4.out,hr,zzq11]);clear hr;go_wp2_with fail;refine hO.mono ?_;rintro e w5 ⟨rfl,g5,s5,y1,y2,y3,y4⟩;have HG5:Hid (GoQ M 0 (f+1) l (k+1) W w5):=zzH ⟨zbe HGX.out g5,s5,by omega,by have:=Z2.out;omega,y3,Z4'.out,by have:=Z5.out;have:=y4 rfl;omega⟩;exact zz49
   |false=>
    rw [hr]at hO;have Z4':Hid (l.all (zr (f+1))=false):=zzH (by rw [Z4.out,hr,Bool.false_and]);clear hr;go_wp2_with fail;refine hO.mono ?_;rintro e w5 ⟨rfl,g5,s5,y1,y2,y3,y4⟩;have HF:Hid (Below w.heap.size w w5):=zzH (zb6 HB.out (zbe HGX.out g5) hM);go_wp2;go_ret2;exact zld Z4'.out HF.out
  ·have hke:l.drop k= []:=zzq10 (by omega)
   rw [hke]at z4 z5;have E1:Hid (l.all (zr (f+1))=true):=zzH z4;have E2:Hid (s'=zbA (l.map (zD (f+1)))):=zzH (by simp only [List.map_nil,zbA]at z5;omega);obtain⟨m11,mz⟩:=z3.cell;clear z2 z4 z5 hke z3;go_wp2;go_ret2;exact zkx E1.out E2.out hB0r
def zei (f:Nat) (t:Tm):Int:=if zr f t=true then(if 2000<zD f t then 3 else 0)else 2
theorem zii (f:Nat) (t:Tm) (so:zzA) (c:Nat) (w:World) (ht:SlAt w 9 (TmAt w f) so t.items) (hok:t.Ok) (hs1:(zv (f+1) t:Int)<=1152921504606846976):
  Calls Tryz.prog 123 #[.agg (zzt t so c)] w fun e w'=>e= .returned (.int .i64 (zei (f+1) t))/\Below w.heap.size w w':=by
 unfold zzt;have hB:=zx w (.cells #[.int .i64 t.kind,.int .i64 t.int,.int .i64 t.gen,.string t.name,.string t.func,.int .i64 t.arity,.slice so t.items.length c,.string t.bytes,.int .i64 t.bits] 116) (.cells #[.int .i64 t.kind,.int .i64 t.int,.int .i64 t.gen,.string t.name,.string t.func,.int .i64 t.arity,.slice so t.items.length c,.string t.bytes,.int .i64 t.bits] 116);have hr:=zcL w (.cells #[.int .i64 t.kind,.int .i64 t.int,.int .i64 t.gen,.string t.name,.string t.func,.int .i64 t.arity,.slice so t.items.length c,.string t.bytes,.int .i64 t.bits] 116) (.cells #[.int .i64 t.kind,.int .i64 t.int,.int .i64 t.gen,.string t.name,.string t.func,.int .i64 t.arity,.slice so t.items.length c,.string t.bytes,.int .i64 t.bits] 116)
 have hS:=zk3 f [t] (some ⟨w.heap.size+1,0,none⟩) 1 ((w.alloc (.cells (zzt t so c) 116)).alloc (.cells (zzt t so c) 116)) (.inr ⟨w.heap.size+1,0,rfl,by simp,fun j hj=>by
  obtain rfl:j=0:=by simpa using hj
  refine⟨[.int .i64 t.kind,.int .i64 t.int,.int .i64 t.gen,.string t.name,.string t.func,.int .i64 t.arity,.slice so t.items.length c,.string t.bytes,.int .i64 t.bits],rfl,fun i hi=>?_,⟨so,c,rfl,ht.tms hB⟩,hok⟩;rw [show 0+0*9+i=i by omega,zzq0 _ _ _ _ _ _ hr];simp⟩) (by unfold maxLen;simp) (by simp [zR];omega)
 have e1: [t].all (zr (f+1))=zr (f+1) t:=by simp
 have e2:zbA ([t].map (zD (f+1)))=zD (f+1) t:=by simp [zbA]
 rw [e1,e2]at hS;unfold zio at hS;have E:Hid (zei (f+1) t=if zr (f+1) t=true then(if 2000<zD (f+1) t then 3 else 0)else 2):=zzH rfl;have HB:=zzH hB;clear e1 e2 hr hB ht hok hs1;generalize zr (f+1) t=r at *;generalize zD (f+1) t=n at *
 cases r with
 |false=>
  rw [if_neg (by decide)]at E hS;exact zz50
 |true=>
  rw [if_pos rfl]at E hS;by_cases hn:2000<n
  ·rw [if_pos hn]at E
   exact zz50
  ·rw [if_neg hn]at E
   have hn':n<=2000:=by omega
   clear hn;exact zz50
theorem zdH (f:Nat) (t:Tm) (so:zzA) (c:Nat) (w:World) (ht:SlAt w 9 (TmAt w f) so t.items) (hok:t.Ok) (hs1:(zv (f+1) t:Int)<=1152921504606846976):
  Calls Tryz.prog 70 #[.agg (zzt t so c)] w fun e w'=>e= .returned (.bool (zbc (f+1) t))/\Below w.heap.size w w':=by
 unfold zzt;have hB:Below w.heap.size w (w.alloc (.cells (zzt t so c) 116)):=zzE _ _;have hC:=zii f t so c (w.alloc (.cells (zzt t so c) 116)) (ht.tms hB) hok hs1
 have E:Hid ((zei (f+1) t==0)=zbc (f+1) t):=zzH (by
  unfold zei zbc
  cases zr (f+1) t
  ·rfl
  ·rw [if_pos rfl,zzq11]
   by_cases h:2000<zD (f+1) t
   ·rw [if_pos h,decide_eq_false (by omega)];rfl
   ·rw [if_neg h,decide_eq_true (by omega)];rfl)
 have HB:=zzH hB;clear hB ht hok hs1;generalize zei (f+1) t=n at *;go_in;go_wp2_with fail;refine hC.mono ?_;rintro e w5 ⟨rfl,hb5⟩;go_wp2;go_ret;exact⟨zi E.out,zd HB.out hb5⟩
theorem zg5 (x:Int) (w:World):Calls Tryz.prog 226 #[.int .i64 x] w fun e w'=>e= .returned (.bool false)/\w=w':=by
 go_in;go_wp2;go_ret;exact⟨rfl,rfl⟩
theorem zfP (x y:Int) (w:World):Calls Tryz.prog 184 #[.int .i64 x,.int .i64 y] w fun e w'=>e= .returned (.int .i64 (Lib.compareInt x y))/\w=w':=by
 by_cases h1:x<y
 ·have E:Hid (Lib.compareInt x y= -1):=zzH (by unfold Lib.compareInt;rw [if_pos h1])
  exact zz63
 ·by_cases h2:y<x
  ·have E:Hid (Lib.compareInt x y=1):=zzH (by unfold Lib.compareInt;rw [if_neg h1,if_pos h2])
   have h1':y<=x:=by omega
   clear h1;exact zz63
  ·obtain rfl:x=y:=by omega
   have E:Hid (Lib.compareInt x x=0):=zzH (by unfold Lib.compareInt;rw [if_neg h1,if_neg h1]);clear h1 h2;exact zz63
def orL:List Int->Int
 |[]=>0
 |x::l=>if x=0 then orL l else x
theorem zkd {l:List Int} {k:Nat} (h:k<l.length):orL (l.drop k)=if l[k]=0 then orL (l.drop (k+1))else l[k]:=by rw [List.drop_eq_getElem_cons h,orL]
theorem zlC (l:List Int) (hl:l.length<=1000) (B c:Nat) (w:World) (hc: ∀k (h:k<l.length),w.cell? ⟨B,k,none⟩=some (.int .i64 l[k])):
  Calls Tryz.prog 182 #[.slice (some ⟨B,0,none⟩) l.length c] w fun e w'=>e= .returned (.int .i64 (orL l))/\w=w':=by
 have HC:=zzH hc;have HI:Hid (orL l=orL (l.drop 0)):=zzH rfl;clear hc;go_in;go_wp2_with fail;go_loop [5,8] (fun _ i=> ∃k:Nat,k<=l.length/\i= .int .i64 k/\Hid (orL l=orL (l.drop k))) (fun _ i=>l.length-(intOf i).toNat)
 case atStart=>exact⟨0,zzZ _,rfl,HI⟩
 case round=>
  obtain⟨k,hk,rfl,HK⟩:=hrel;by_cases hlt:k<l.length
  ·have hcell:=HC.out k hlt
   have HD:=zzH (zkd hlt);generalize l[k]=x at *;by_cases hx:x=0
   ·have HK2:Hid (orL l=orL (l.drop (k+1))):=zzH (by rw [HK.out,HD.out,if_pos hx])
    have hb : (x != 0) = false := by rw [hx]; rfl
    clear hx;go_wp2;go_round
    case rel=>exact⟨k+1,by omega,by go_num,HK2⟩
    case measure=>simp [intOf];omega
   ·have E:Hid (orL l=x):=zzH (by rw [HK.out,HD.out,if_neg hx])
    have hb : (x != 0) = true := by rw [bne_iff_ne]; exact hx
    clear hx;go_wp2;go_ret;exact⟨zcp E.out.symm,rfl⟩
  ·have E:Hid (orL l=0):=zzH (by rw [HK.out,zzq10 (by omega)];rfl)
   go_wp2;go_ret;exact⟨zcp E.out.symm,rfl⟩
theorem zku (ao bo:zzA) (c d:Nat) (v:Value) (w:World):
  Calls Tryz.prog 223 #[.slice ao 0 c,.slice bo 0 d,v] w fun e w'=>e= .returned (.int .i64 0)/\w=w':=by
 go_in;go_wp2_with fail;go_loop [11] (fun i=>i= .int .i64 0) (fun _=>0)
 case atStart=>rfl
 case round=>
  obtain rfl:=hrel;exact zz20
theorem ziS (ao bo:zzA) (c d:Nat) (w:World):
  Calls Tryz.prog 179 #[.slice ao 0 c,.slice bo 0 d] w fun e w'=>e= .returned (.int .i64 0)/\w=w':=by
 have hc:=Tryz.cmp_Compare_int 0 0 w;rw [show Lib.compareInt 0 0=0 by decide]at hc;go_in;go_wp2_with fail;refine hc.mono ?_;rintro e w1 ⟨rfl,rfl⟩;go_wp2_with (go_at_call 223;refine(zku _ _ _ _ _ _).mono ?_;rintro e w2 ⟨rfl,rfl⟩);go_ret;exact⟨rfl,rfl⟩
theorem zjW (w:World) (x1 x2 x3 x4 x5:Int): ∀k (h:k< [x1,x2,x3,x4,x5].length),(w.alloc (.cells #[.int .i64 x1,.int .i64 x2,.int .i64 x3,.int .i64 x4,.int .i64 x5] 3)).drew.cell? ⟨w.heap.size,k,none⟩=some (.int .i64 [x1,x2,x3,x4,x5][k]):=fun k h=>by
 have hr:=zzF w (.cells #[.int .i64 x1,.int .i64 x2,.int .i64 x3,.int .i64 x4,.int .i64 x5] 3);have hc:=zzq0 _ _ k _ _ _ hr;refine Eq.trans (show _=(w.alloc (.cells #[.int .i64 x1,.int .i64 x2,.int .i64 x3,.int .i64 x4,.int .i64 x5] 3)).cell? ⟨w.heap.size,k,none⟩from rfl) (hc.trans ?_)
 match k,h with
 |0,_=>rfl
 |1,_=>rfl
 |2,_=>rfl
 |3,_=>rfl
 |4,_=>rfl
 |k+5,h=>exact absurd h (by simp)
def zdc (a b:Tm):Int:=if Lib.compareInt a.kind b.kind=0 then orL [Lib.compareBytes a.name.data.toList b.name.data.toList,Lib.compareBytes a.func.data.toList b.func.data.toList,Lib.compareInt a.gen b.gen,Lib.compareInt a.int b.int,Lib.compareInt a.arity b.arity]else Lib.compareInt a.kind b.kind
theorem zgx (a b:Tm) (ao bo:zzA) (c d:Nat) (w:World) (ha:a.items= []) (hb:b.items= []) (h7:a.kind≠7) (h9:a.kind≠9) (h10:a.kind≠10):
  Calls Tryz.prog 160 #[.agg (zzt a ao c),.agg (zzt b bo d)] w fun e w'=>e= .returned (.int .i64 (zdc a b))/\Below w.heap.size w w':=by
 unfold zzt;have hla:a.items.length=0:=by rw [ha];rfl
 have hlb:b.items.length=0:=by rw [hb];rfl
 rw [hla,hlb];have hB:=zx w (.cells #[.int .i64 a.kind,.int .i64 a.int,.int .i64 a.gen,.string a.name,.string a.func,.int .i64 a.arity,.slice ao 0 c,.string a.bytes,.int .i64 a.bits] 116) (.cells #[.int .i64 b.kind,.int .i64 b.int,.int .i64 b.gen,.string b.name,.string b.func,.int .i64 b.arity,.slice bo 0 d,.string b.bytes,.int .i64 b.bits] 116);have r0:=zdk w (.cells #[.int .i64 a.kind,.int .i64 a.int,.int .i64 a.gen,.string a.name,.string a.func,.int .i64 a.arity,.slice ao 0 c,.string a.bytes,.int .i64 a.bits] 116) (.cells #[.int .i64 b.kind,.int .i64 b.int,.int .i64 b.gen,.string b.name,.string b.func,.int .i64 b.arity,.slice bo 0 d,.string b.bytes,.int .i64 b.bits] 116);have r1:=zcL w (.cells #[.int .i64 a.kind,.int .i64 a.int,.int .i64 a.gen,.string a.name,.string a.func,.int .i64 a.arity,.slice ao 0 c,.string a.bytes,.int .i64 a.bits] 116) (.cells #[.int .i64 b.kind,.int .i64 b.int,.int .i64 b.gen,.string b.name,.string b.func,.int .i64 b.arity,.slice bo 0 d,.string b.bytes,.int .i64 b.bits] 116);have hcmp:=fun wx=>Tryz.cmp_Compare_int a.kind b.kind wx
 have E0:Hid (zdc a b=if Lib.compareInt a.kind b.kind=0 then orL [Lib.compareBytes a.name.data.toList b.name.data.toList,Lib.compareBytes a.func.data.toList b.func.data.toList,Lib.compareInt a.gen b.gen,Lib.compareInt a.int b.int,Lib.compareInt a.arity b.arity]else Lib.compareInt a.kind b.kind):=zzH rfl;have HB:=zzH hB;clear hla hlb ha hb;generalize hk:Lib.compareInt a.kind b.kind=kk at *;by_cases hz:kk=0
 ·subst hz
  rw [if_pos rfl]at E0;have hs1: ∀wx,Calls Tryz.prog 183 #[.string a.name,.string b.name] wx fun e w'=>e= .returned (.int .i64 (Lib.compareBytes a.name.data.toList b.name.data.toList))/\wx=w':=fun wx=>(Tryz.strings_Compare _ _ wx).mono fun _ _ ⟨h,h'⟩=>⟨h,h'.symm⟩
  have hs2: ∀wx,Calls Tryz.prog 183 #[.string a.func,.string b.func] wx fun e w'=>e= .returned (.int .i64 (Lib.compareBytes a.func.data.toList b.func.data.toList))/\wx=w':=fun wx=>(Tryz.strings_Compare _ _ wx).mono fun _ _ ⟨h,h'⟩=>⟨h,h'.symm⟩
  have hs3:=fun wx=>zfP a.gen b.gen wx
  have hs4:=fun wx=>zfP a.int b.int wx
  have hs5: ∀wx,Calls Tryz.prog 178 #[.int .i64 a.arity,.int .i64 b.arity] wx fun e w'=>e= .returned (.int .i64 (Lib.compareInt a.arity b.arity))/\wx=w':=fun wx=>(Tryz.cmp_Compare_int _ _ wx).mono fun _ _ ⟨h,h'⟩=>⟨h,h'.symm⟩
  generalize Lib.compareBytes a.name.data.toList b.name.data.toList=x1 at *;generalize Lib.compareBytes a.func.data.toList b.func.data.toList=x2 at *;generalize Lib.compareInt a.gen b.gen=x3 at *;generalize Lib.compareInt a.int b.int=x4 at *;generalize Lib.compareInt a.arity b.arity=x5 at *;have t7:(a.kind==7)=false:=zzB.2 h7;have t9:(a.kind==9)=false:=zzB.2 h9;have t10:(a.kind==10)=false:=zzB.2 h10;clear h7 h9 h10 hk;go_in;go_upto_region 11 with((go_at_call 178;refine(hcmp _).mono ?_;rintro e w1 ⟨rfl,rfl⟩));generalize(w.alloc (.cells #[.int .i64 a.kind,.int .i64 a.int,.int .i64 a.gen,.string a.name,.string a.func,.int .i64 a.arity,.slice ao 0 c,.string a.bytes,.int .i64 a.bits] 116)).alloc (.cells #[.int .i64 b.kind,.int .i64 b.int,.int .i64 b.gen,.string b.name,.string b.func,.int .i64 b.arity,.slice bo 0 d,.string b.bytes,.int .i64 b.bits] 116)=W at *;obtain⟨q0,q1,q2,q3,q4,q5,q6,q7,q8,zq⟩:=zf r0;obtain⟨p0,p1,p2,p3,p4,p5,p6,p7,p8,zp⟩:=zf r1;have hl0:=zb r0;have hl1:=zb r1;clear zq zp r0 r1;generalize hBe:w.heap.size=B at *;have HBE:=zzH hBe;clear hBe;refine zzK3 (zbf (zzR W.heap.size W).drew) (zbf ((zzR W.heap.size W).alloc (zzL _) (.cells #[.int .i64 x1,.int .i64 x2,.int .i64 x3,.int .i64 x4,.int .i64 x5] 3)).drew) (zjW W x1 x2 x3 x4 x5) fun SK0 SK1 HC=>?_;have hor:=fun(B c:Nat) (wx:World) hc=>zlC [x1,x2,x3,x4,x5] (by simp) B c wx hc
  generalize orL [x1,x2,x3,x4,x5]=r at *;have HOR:=zzH hor;clear hor
  first|go_region_held3 (fun w'=>W.heap.size<=w'.heap.size/\ ∀b o,b<W.heap.size->w'.cell? ⟨b,o,none⟩=W.cell? ⟨b,o,none⟩) (first|with_reducible exact SK0.out|with_reducible exact SK1.out)
   (first
    |(go_at_call 183;(first|(with_reducible refine(hs1 _).mono ?_)|(with_reducible refine(hs2 _).mono ?_));rintro e w1 ⟨rfl,rfl⟩)
    |(go_at_call 184;(first|(with_reducible refine(hs3 _).mono ?_)|(with_reducible refine(hs4 _).mono ?_));rintro e w1 ⟨rfl,rfl⟩)
    |(go_at_call 178;(with_reducible refine(hs5 _).mono ?_);rintro e w1 ⟨rfl,rfl⟩)
    |(go_at_call 182;refine(HOR.out _ _ _ HC.out).mono ?_;rintro e w1 ⟨rfl,rfl⟩))|fail
  by_cases hr:r=0
  ·have hrb : (r != 0) = false := by rw [hr]; rfl
   have ER:Hid (zdc a b=0):=zzH (E0.out.trans hr);clear hr;go_wp2_with (go_at_call 179;refine(ziS _ _ _ _ _).mono ?_;rintro e w2 ⟨rfl,rfl⟩);go_ret;exact⟨zcp ER.out.symm,(by rw [HBE.out];exact(HB.out.alloc (by rw [<-HBE.out];exact HB.out.size) _).drew)⟩
  ·have hrb : (r != 0) = true := by rw [bne_iff_ne]; exact hr
   clear hr;go_wp2;go_ret;exact⟨zcp E0.out.symm,(by rw [HBE.out];exact(HB.out.alloc (by rw [<-HBE.out];exact HB.out.size) _).drew)⟩
 ·have hnb : (kk != 0) = true := by rw [bne_iff_ne]; exact hz
  rw [if_neg hz]at E0;clear hz hk;go_in;go_wp2_with ((go_at_call 178;refine(hcmp _).mono ?_;rintro e w1 ⟨rfl,hw1⟩;rw [hw1]));go_ret;exact⟨zcp E0.out.symm,HB.out⟩
theorem zfo (f:Nat) (a b:Tm) (ao bo:zzA) (c d:Nat) (w:World) (hta:SlAt w 9 (TmAt w f) ao a.items) (htb:SlAt w 9 (TmAt w f) bo b.items) (oa:a.Ok) (ob:b.Ok) (ca:(zv (f+1) a:Int)<=1152921504606846976) (cb:(zv (f+1) b:Int)<=1152921504606846976)
  (va:zbc (f+1) a=true) (vb:zbc (f+1) b=true) (ha:a.items= []) (hb:b.items= []) (h7:a.kind≠7) (h9:a.kind≠9) (h10:a.kind≠10):
  Calls Tryz.prog 127 #[.agg (zzt a ao c),.agg (zzt b bo d)] w fun e w'=>e= .returned (.int .i64 (zdc a b))/\Below w.heap.size w w':=by
 unfold zzt;have hB:=zx w (.cells #[.int .i64 a.kind,.int .i64 a.int,.int .i64 a.gen,.string a.name,.string a.func,.int .i64 a.arity,.slice ao a.items.length c,.string a.bytes,.int .i64 a.bits] 116) (.cells #[.int .i64 b.kind,.int .i64 b.int,.int .i64 b.gen,.string b.name,.string b.func,.int .i64 b.arity,.slice bo b.items.length d,.string b.bytes,.int .i64 b.bits] 116);have r0:=zdk w (.cells #[.int .i64 a.kind,.int .i64 a.int,.int .i64 a.gen,.string a.name,.string a.func,.int .i64 a.arity,.slice ao a.items.length c,.string a.bytes,.int .i64 a.bits] 116) (.cells #[.int .i64 b.kind,.int .i64 b.int,.int .i64 b.gen,.string b.name,.string b.func,.int .i64 b.arity,.slice bo b.items.length d,.string b.bytes,.int .i64 b.bits] 116);have r1:=zcL w (.cells #[.int .i64 a.kind,.int .i64 a.int,.int .i64 a.gen,.string a.name,.string a.func,.int .i64 a.arity,.slice ao a.items.length c,.string a.bytes,.int .i64 a.bits] 116) (.cells #[.int .i64 b.kind,.int .i64 b.int,.int .i64 b.gen,.string b.name,.string b.func,.int .i64 b.arity,.slice bo b.items.length d,.string b.bytes,.int .i64 b.bits] 116);have hva: ∀wx,Below w.heap.size w wx->Calls Tryz.prog 70 #[.agg #[.int .i64 a.kind,.int .i64 a.int,.int .i64 a.gen,.string a.name,.string a.func,.int .i64 a.arity,.slice ao a.items.length c,.string a.bytes,.int .i64 a.bits]] wx fun e w'=>e= .returned (.bool true)/\Below wx.heap.size wx w':=fun wx hx=>by have h:=zdH f a ao c wx (hta.tms hx) oa ca;rwa [va]at h
 have hvb: ∀wx,Below w.heap.size w wx->Calls Tryz.prog 70 #[.agg #[.int .i64 b.kind,.int .i64 b.int,.int .i64 b.gen,.string b.name,.string b.func,.int .i64 b.arity,.slice bo b.items.length d,.string b.bytes,.int .i64 b.bits]] wx fun e w'=>e= .returned (.bool true)/\Below wx.heap.size wx w':=fun wx hx=>by have h:=zdH f b bo d wx (htb.tms hx) ob cb;rwa [vb]at h
 have hvs:=fun wx=>zgx a b ao bo c d wx ha hb h7 h9 h10
 have HB:=zzH hB;clear hta htb oa ob ca cb va vb ha hb h7 h9 h10 hB;generalize zdc a b=r at *;go_in;go_wp2_with fail;generalize(w.alloc (.cells (zzt a ao c) 116)).alloc (.cells (zzt b bo d) 116)=W at *;obtain⟨q0,q1,q2,q3,q4,q5,q6,q7,q8,zq⟩:=zf r0;obtain⟨p0,p1,p2,p3,p4,p5,p6,p7,p8,zp⟩:=zf r1;have hl0:=zb r0;have hl1:=zb r1;have R0:=zzH r0;have R1:=zzH r1;clear zq zp r0 r1;have HW:=zzH HB.out;generalize hBe:w.heap.size=B at *;have HBE:=zzH hBe;have HB':Hid (Below w.heap.size w W):=zzH (by rw [hBe];exact HB.out);have hva': ∀wx,Below W.heap.size W wx->Calls Tryz.prog 70 #[.agg #[.int .i64 a.kind,.int .i64 a.int,.int .i64 a.gen,.string a.name,.string a.func,.int .i64 a.arity,.slice ao a.items.length c,.string a.bytes,.int .i64 a.bits]] wx fun e w'=>e= .returned (.bool true)/\Below W.heap.size W w':=fun wx hx=>(hva wx (by rw [<-hBe];exact zd HB'.out hx)).mono fun _ _ ⟨h,h'⟩=>⟨h,zd hx h'⟩
 have hvb': ∀wx,Below W.heap.size W wx->Calls Tryz.prog 70 #[.agg #[.int .i64 b.kind,.int .i64 b.int,.int .i64 b.gen,.string b.name,.string b.func,.int .i64 b.arity,.slice bo b.items.length d,.string b.bytes,.int .i64 b.bits]] wx fun e w'=>e= .returned (.bool true)/\Below W.heap.size W w':=fun wx hx=>(hvb wx (by rw [<-hBe];exact zd HB'.out hx)).mono fun _ _ ⟨h,h'⟩=>⟨h,zd hx h'⟩
 clear hBe hva hvb;have HDR:=zzH ((zzR W.heap.size W).drew);have SK0:=zzH (zbf HDR.out)
 first|go_region_held3 (fun w'=>W.heap.size<=w'.heap.size/\ ∀b o,b<W.heap.size->w'.cell? ⟨b,o,none⟩=W.cell? ⟨b,o,none⟩) (first|with_reducible exact SK0.out|with_reducible exact HK5.out|with_reducible exact HK6.out)
  (first
   |(go_at_call 70;(first|(with_reducible refine(hva' _ HDR.out).mono ?_)|(with_reducible refine(hvb' _ HDR.out).mono ?_));rintro e w5 ⟨rfl,hb5⟩;have HK5:=zzH (zbf hb5))
   |(go_at_call 70;(first|(with_reducible refine(hva' _ hb5).mono ?_)|(with_reducible refine(hvb' _ hb5).mono ?_));rintro e w6 ⟨rfl,hb6⟩;have HK6:=zzH (zbf hb6)))|fail
 all_goals
  obtain⟨s0,s1,s2,s3,s4,s5,s6,s7,s8,zs⟩:=zf ((hb6.block B hl0).trans R0.out);obtain⟨u0,u1,u2,u3,u4,u5,u6,u7,u8,zu⟩:=zf ((hb6.block (B+1) hl1).trans R1.out);go_wp2_with (go_at_call 160;refine(hvs _).mono ?_;rintro e w8 ⟨rfl,hb8⟩);go_ret;exact⟨rfl,zd HB'.out (zd hb6 hb8)⟩
theorem zhl (f:Nat) (a b:Tm) (ao bo:zzA) (c d:Nat) (w:World) (hta:SlAt w 9 (TmAt w f) ao a.items) (htb:SlAt w 9 (TmAt w f) bo b.items) (oa:a.Ok) (ob:b.Ok) (ca:(zv (f+1) a:Int)<=1152921504606846976) (cb:(zv (f+1) b:Int)<=1152921504606846976)
  (va:zbc (f+1) a=true) (vb:zbc (f+1) b=true) (ha:a.items= []) (hb:b.items= []) (h7:a.kind≠7) (h9:a.kind≠9) (h10:a.kind≠10):
  Calls Tryz.prog 76 #[.agg #[.int .i64 a.kind,.int .i64 a.int,.int .i64 a.gen,.string a.name,.string a.func,.int .i64 a.arity,.slice ao a.items.length c,.string a.bytes,.int .i64 a.bits],.agg #[.int .i64 b.kind,.int .i64 b.int,.int .i64 b.gen,.string b.name,.string b.func,.int .i64 b.arity,.slice bo b.items.length d,.string b.bytes,.int .i64 b.bits]] w fun e w'=>e= .returned (.bool (decide (zdc a b<0)))/\Below w.heap.size w w':=by
 have hB:=zx w (.cells #[.int .i64 a.kind,.int .i64 a.int,.int .i64 a.gen,.string a.name,.string a.func,.int .i64 a.arity,.slice ao a.items.length c,.string a.bytes,.int .i64 a.bits] 116) (.cells #[.int .i64 b.kind,.int .i64 b.int,.int .i64 b.gen,.string b.name,.string b.func,.int .i64 b.arity,.slice bo b.items.length d,.string b.bytes,.int .i64 b.bits] 116);have hC:=zfo f a b ao bo c d _ (hta.tms hB) (htb.tms hB) oa ob ca cb va vb ha hb h7 h9 h10;have HB:=zzH hB;clear hta htb oa ob ca cb va vb ha hb h7 h9 h10 hB;generalize zdc a b=r at *;go_in;go_wp2_with fail;refine hC.mono ?_;rintro e w5 ⟨rfl,hb5⟩;go_wp2;go_ret;exact⟨rfl,zd HB.out hb5⟩
def zfa (lits:List Tm) (i:Int):Tm:=(lits[i.toNat]?).getD zcW
def zfv (cases:List RCase) (k:Nat):Int:=((cases[k]?).map RCase.lit).getD 0
def zcV (t:Tm):Bool:=decide (t.kind=1\/t.kind=2\/t.kind=8)
def zb3 (lits:List Tm) (cases:List RCase) (k:Nat):Bool:=wi (zfv cases k) 0 ((lits.length:Int)-1)&&(zcV (zfa lits (zfv cases k))&&(decide (k=0)||decide (zdc (zfa lits (zfv cases (k-1))) (zfa lits (zfv cases k))<0)))
def zdi (lits:List Tm) (cases:List RCase):Bool:=decide (∀k,k<cases.length->zb3 lits cases k=true)
def zbU (nl:Nat) (g:RSeg):Bool:=wi g.type 1 3&&(zbH nl g.val&&(((decide (g.size.kind=0)&&decide (g.size.n=0))||zbH nl g.size)&&(!g.little||g.type==1)))
def zbF (lits:List Tm) (x:RIns):Bool:=((!(x.op==12)||wi x.cases.length 1 1000)&&decide ((x.segs.length:Int)<=60))&&(zdi lits x.cases&&x.segs.all (zbU lits.length))
theorem zd3 {lits:List Tm} {cases:List RCase} {k:Nat} (h:k<cases.length) (e:zb3 lits cases k=false):zdi lits cases=false:=by
 unfold zdi;exact zzD (fun hh=>by rw [hh k h]at e;cases e)
theorem zh6 {lits:List Tm} {cases:List RCase} (h: ∀k,k<cases.length->zb3 lits cases k=true):zdi lits cases=true:=zzT h
theorem zhB {cases:List RCase} {k:Nat} (h:k<cases.length):zfv cases k=cases[k].lit:=by unfold zfv;rw [zzq4 h];rfl
theorem zeG {lits:List Tm} {m:Nat} (h:m<lits.length):zfa lits (m:Int)=lits[m]:=by unfold zfa;rw [zzq13,zzq4 h];rfl
theorem zet {f:Nat} {t:Tm} (h:zbc (f+1) t=true) (hk:t.kind=1\/t.kind=2\/t.kind=8):t.items= []:=by
 unfold zbc zr zcc zf9 at h;have h4:decide (t.kind=4\/t.kind=7\/t.kind=9)=false:=zzD (by omega);simp only [h4,zzq6,zzq8]at h;have:=h.1.1.2.1.1.2;unfold zL at this;exact zzQ (zza this)
structure LitsOk (w:World) (f:Nat) (lo:Option Addr) (lits:List Tm):Prop where
 at':SlAt w 9 (TmAt w (f+1)) lo lits
 ok: ∀t∈lits,zbc (f+1) t=true/\(zv (f+1) t:Int)<=1152921504606846976
theorem LitsOk.below {w w':World} {f:Nat} {lo:zzA} {lits:List Tm} (h:LitsOk w f lo lits) (hb:Below w.heap.size w w'):LitsOk w' f lo lits:=⟨h.at'.tms hb,h.ok⟩
theorem zi9 {w:World} {f:Nat} {lo:zzA} {lits:List Tm} (h:LitsOk w f lo lits) {i j:Nat} (hi:i<lits.length) (hj:j<lits.length) (ki:zcV lits[i]=true) (kj:zcV lits[j]=true) {ai aj:zzA} {ci cj:Nat}
  (si:SlAt w 9 (TmAt w f) ai lits[i].items) (sj:SlAt w 9 (TmAt w f) aj lits[j].items) (oi:lits[i].Ok) (oj:lits[j].Ok) (wx:World) (hx:Below w.heap.size w wx):
  Calls Tryz.prog 76 #[.agg #[.int .i64 lits[i].kind,.int .i64 lits[i].int,.int .i64 lits[i].gen,.string lits[i].name,.string lits[i].func,.int .i64 lits[i].arity,.slice ai lits[i].items.length ci,.string lits[i].bytes,.int .i64 lits[i].bits],.agg #[.int .i64 lits[j].kind,.int .i64 lits[j].int,.int .i64 lits[j].gen,.string lits[j].name,.string lits[j].func,.int .i64 lits[j].arity,.slice aj lits[j].items.length cj,.string lits[j].bytes,.int .i64 lits[j].bits]] wx fun e w'=>e= .returned (.bool (decide (zdc lits[i] lits[j]<0)))/\Below wx.heap.size wx w':=by
 obtain⟨vi,bi⟩:=h.ok _ (zzM hi);obtain⟨vj,bj⟩:=h.ok _ (zzM hj);have ki':=zza ki;have kj':=zza kj;exact zhl f lits[i] lits[j] ai aj ci cj wx (si.tms hx) (sj.tms hx) oi oj bi bj vi vj (zet vi ki') (zet vj kj') (by omega) (by omega) (by omega)
end Go.Proofs.YtepjanajflkakaaGreatDoor
