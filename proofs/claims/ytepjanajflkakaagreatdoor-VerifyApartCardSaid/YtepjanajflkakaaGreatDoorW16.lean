import Derived.Test.YtepjanajflkakaaGreatDoorW13
namespace Go.Proofs.YtepjanajflkakaaGreatDoor
open Go.RowKit
set_option linter.unusedVariables false
set_option linter.unusedSimpArgs false
set_option maxRecDepth 100000
set_option maxHeartbeats 0
theorem zN {w:World} {b o:Nat} {arr:Array Value} {T:TypeId} {fr:Nat × Nat} (h:w.heap[b]?=some (.cells arr T fr)) (ho:o<arr.size):w.cell? ⟨b,o,none⟩=some arr[o]:=by
 rw [zzq0 _ _ _ _ _ _ h,Array.getElem?_eq_getElem ho]
theorem SlS.flat {α:Type} {w:World} {R:Nat->Nat->List Value->α->Prop} {T:TypeId} {size lo hi:Nat} {ao:zzA} {l:List α} (h:SlS w R T size lo hi ao l) (hs:0<size):l= []\/ ∃b arr,ao=some ⟨b,0,none⟩/\(lo<=b/\b<hi)/\w.heap[b]?=some (.cells arr T (0,0))/\l.length*size<=arr.size:=by
 rcases h with h|⟨b,arr,a,e,e1,hb1,hb2,hg,hv,hx⟩
 ·exact .inl h
 ·refine .inr ⟨b,arr,e1,⟨hb1,hb2⟩,hg,?_⟩
  rcases Nat.eq_zero_or_pos l.length with h0|h0
  ·rw [h0];omega
  ·obtain⟨cs,k1,k2,-⟩:=hx (l.length-1) (by omega)
   have h1:=k2 (size-1) (by omega);rw [zzq4 (by omega)]at h1;have h2:=(Array.getElem?_eq_some_iff.1 h1).1;have h3:(l.length-1)*size+size=l.length*size:=by rw [<-Nat.succ_mul];congr 1;omega
   omega
theorem zeY (f lo hi:Nat) (u:RUnit) (lo1 fo1 go1 co1:zzA) (lc fc gc cc:Nat) (w:World) (h:UNew w f lo hi u lo1 fo1 go1 co1) (hhi:hi<=w.heap.size)
  (r1:u.lits.length<=9223372036854775807) (r2:u.funcs.length<=9223372036854775807) (r3:u.funs.length<=9223372036854775807) (r4:u.code.length<=9223372036854775807):
  Calls Tryz.prog 20 #[.agg (zzu u lo1 lc fo1 fc go1 gc co1 cc)] w fun e w'=>e= .returned (.tuple #[])/\KeepR lo hi w w':=by
 unfold zzu;obtain⟨m1,m2,m3,b1,b2,b3,b4,g1,g2,g3,g4⟩:=h;have hr:=zzF w (.cells #[.string u.mdl,.int .i64 u.vsn,.slice lo1 u.lits.length lc,.slice fo1 u.funcs.length fc,.slice go1 u.funs.length gc,.slice co1 u.code.length cc] 27);have hb:=(zzR w.heap.size w).alloc (zzL _) (.cells #[.string u.mdl,.int .i64 u.vsn,.slice lo1 u.lits.length lc,.slice fo1 u.funcs.length fc,.slice go1 u.funs.length gc,.slice co1 u.code.length cc] 27);refine zzK7 hr hb g1 g2 g3 g4 hhi fun HR HB H1 H2 H3 H4 HHI=>?_;have HM:Hid (lo<=m1/\m1<=m2/\m2<=m3/\m3<=hi):=zzH ⟨b1,b2,b3,b4⟩;obtain⟨Q,hQ⟩: ∃Q:Ending->World->Prop,Q=fun e w'=>e= .returned (.tuple #[])/\KeepR lo hi w w':=⟨_,rfl⟩
 rw [<-hQ];have HQ:=zzH hQ;clear hr hb g1 g2 g3 g4 hhi b1 b2 b3 b4 hQ;go_in;go_upto_region 1 with fail;generalize w.alloc _=W at *;obtain⟨c0,c1,c2,c3,c4,c5⟩:=zbE HR.out;have hsp:=zf3 f u.lits lo1 lc lo m1 W (H1.out.kept (fun b _ b2=>HB.out.block b (by have:=HM.out;have:=HHI.out;omega)) (zzL _) (zzL _) fun a e cs t ha he hx=>hx.kept (fun b _ b2=>HB.out.block b (by have:=HM.out;have:=HHI.out;omega)) (zzL _) (zzL _)) (by have:=HM.out;have:=HHI.out;have:=HB.out.size;omega) (by unfold maxLen;omega);have HSP:=zzH hsp;clear hsp c0 c1 c3 c4 c5;go_upto_region 2 with(go_at_call 47;refine HSP.out.mono ?_;rintro e2 w2 ⟨rfl,hk2⟩);have HK0:Hid (KeepR lo hi W w2):=zzH (hk2.widen (zzL _) (by have:=HM.out;omega));have hw2: ∀b,m1<=b->b<hi->w2.heap[b]?=w.heap[b]?:=fun b h1 h2=>(hk2.block b (by have:=HHI.out;have:=HB.out.size;omega) (.inr h1)).trans (HB.out.block b (by have:=HHI.out;omega))
 have hF:SlS w2 (fun _ _=>zcl) 106 4 m1 m2 fo1 u.funcs:=H2.out.kept (fun b h1 h2=>hw2 b h1 (by have:=HM.out;omega)) (zzL _) (zzL _) fun _ _ _ _ _ _ h=>h
 have hG:SlS w2 (fun _ _=>zbB) 70 3 m2 m3 go1 u.funs:=H3.out.kept (fun b h1 h2=>hw2 b (by have:=HM.out;omega) (by have:=HM.out;omega)) (zzL _) (zzL _) fun _ _ _ _ _ _ h=>h
 have hC:SlS w2 (InsS w2) 47 10 m3 hi co1 u.code:=H4.out.kept (fun b h1 h2=>hw2 b (by have:=HM.out;omega) h2) (zzL _) (zzL _) fun a e cs t ha he hx=>hx.kept (fun b h1 h2=>hw2 b (by have:=HM.out;omega) (by omega)) (zzL _) (zzL _)
 have hrow2:w2.heap[w.heap.size]?=some (.cells #[.string u.mdl,.int .i64 u.vsn,.slice lo1 u.lits.length lc,.slice fo1 u.funcs.length fc,.slice go1 u.funs.length gc,.slice co1 u.code.length cc] 27 (0,0)):=(hk2.block _ (zb HR.out) (.inr (by have:=HM.out;have:=HHI.out;omega))).trans HR.out
 have hN:hi<=w.heap.size:=HHI.out;have hKW:KeepR lo hi w w2:=(KeepR.below HB.out).trans HK0.out;refine zzK6 hF hG hC hrow2 hKW hN fun HF HG HC HROW HKW HN=>?_;clear hF hG hC hrow2 hw2 hk2 HK0 HSP HB HR c2 hKW hN H1 H2 H3 H4;generalize hNN:w.heap.size=N at *;clear hNN W;go_wp2_with fail;go_loopw [2] (fun iv wv=> ∃k:Nat,k<=u.funcs.length/\iv= .int .i64 k/\Hid (KeepR m1 m2 w2 wv)) (fun i _=>u.funcs.length-(intOf i).toNat)
 case atStart=>exact⟨0,zzZ _,rfl,zzH (KeepR.refl _ _ _)⟩
 case round=>
  obtain⟨k,hk,rfl,HK⟩:=hrel;rename World=>wv
  have c3:wv.cell? ⟨N,3,none⟩=some (.slice fo1 u.funcs.length fc):=by rw [World.cell?_of_block (w:=w2) (HK.out.block N (zb HROW.out) (.inr (by have:=HM.out;have:=HN.out;omega))),zzq0 _ _ _ _ _ _ HROW.out];rfl
  by_cases hlt:k<u.funcs.length
  ·rcases HF.out.flat (by decide)with hnil|⟨fb,arr,hfo,hfb,hfa,hfs⟩
   ·exact zz23
   subst hfo;have HFB:=zzH hfb;have HFA:Hid (w2.heap[fb]?=some (.cells arr 106 (0,0))/\u.funcs.length*4<=arr.size):=zzH ⟨hfa,hfs⟩
   clear hfb hfa hfs;have hq:=HK.out.shp _ _ _ _ HFA.out.1;obtain⟨arr',ha,hs⟩:=hq;have hsz:k*4+4<=arr'.size:=by rw [hs];have h1:=HFA.out.2;have h2:(k+1)*4<=u.funcs.length*4:=Nat.mul_le_mul_right _ hlt;omega
   have HSZ:=zzH hsz;have HA:=zzH ha;obtain⟨v0,x0⟩: ∃v,wv.cell? ⟨fb,k*4,none⟩=some v:=⟨_,zN HA.out (by omega)⟩;have z0:=zzq2 _ _ (k*4) _ _ HA.out;obtain⟨v1,x1⟩: ∃v,wv.cell? ⟨fb,k*4+1,none⟩=some v:=⟨_,zN HA.out (by omega)⟩;have z1:=zzq2 _ _ (k*4+1) _ _ HA.out;obtain⟨v2,x2⟩: ∃v,wv.cell? ⟨fb,k*4+2,none⟩=some v:=⟨_,zN HA.out (by omega)⟩;have z2:=zzq2 _ _ (k*4+2) _ _ HA.out;obtain⟨v3,x3⟩: ∃v,wv.cell? ⟨fb,k*4+3,none⟩=some v:=⟨_,zN HA.out (by omega)⟩;have z3:=zzq2 _ _ (k*4+3) _ _ HA.out;clear hs hsz ha;go_upto_region 4 with fail;generalize hw7:World.setCell _ _ _=w7;have hw7':w7=setL fb [.string ⟨#[115,112,111,105,108,116]⟩,.int .i64 0,.bool false,.int .i64 (-9)] (k*4) wv:=hw7.symm;have hk7:KeepR m1 m2 w2 w7:=by rw [hw7'];exact HK.out.trans (KeepR.setL _ _ HFB.out _ _ _)
   have HK7:=zzH hk7;clear hw7 hw7' hk7 x0 z0 x1 z1 x2 z2 x3 z3 HK HA HSZ;exact zz22
  ·have hkl:k=u.funcs.length:=by omega
   subst hkl;have HKF:=HK;clear HK;have HKF2:Hid (KeepR lo hi w wv):=zzH (HKW.out.trans (HKF.out.widen (by have:=HM.out;omega) (by have:=HM.out;omega)));have HROW3:Hid (wv.heap[N]?=some (.cells #[.string u.mdl,.int .i64 u.vsn,.slice lo1 u.lits.length lc,.slice fo1 u.funcs.length fc,.slice go1 u.funs.length gc,.slice co1 u.code.length cc] 27 (0,0))):=zzH ((HKF.out.block N (zb HROW.out) (.inr (by have:=HM.out;have:=HN.out;omega))).trans HROW.out)
   have HG3:Hid (SlS wv (fun _ _=>zbB) 70 3 m2 m3 go1 u.funs):=zzH (HG.out.kept (fun b h1 h2=>HKF.out.block b (by have:=zb HROW.out;have:=HM.out;have:=HN.out;omega) (.inr h1)) (zzL _) (zzL _) fun _ _ _ _ _ _ h=>h);have HC3:Hid (SlS wv (InsS wv) 47 10 m3 hi co1 u.code):=zzH (HC.out.kept (fun b h1 h2=>HKF.out.block b (by have:=zb HROW.out;have:=HN.out;omega) (.inr (by have:=HM.out;omega))) (zzL _) (zzL _) fun a e cs t ha he hx=>hx.kept (fun b h1 h2=>HKF.out.block b (by have:=zb HROW.out;have:=HN.out;omega) (.inr (by have:=HM.out;omega))) (zzL _) (zzL _));clear HF HG HC HROW HKF HKW hk hlt;go_upto_region 6 with fail;clear c3;go_wp2_with fail;go_loopw [3] (fun iv wx=> ∃k:Nat,k<=u.funs.length/\iv= .int .i64 k/\Hid (KeepR m2 m3 wv wx)) (fun i _=>u.funs.length-(intOf i).toNat)
   case atStart=>exact⟨0,zzZ _,rfl,zzH (KeepR.refl _ _ _)⟩
   case round=>
    obtain⟨k,hk,rfl,HK⟩:=hrel;rename World=>wx
    have c4:wx.cell? ⟨N,4,none⟩=some (.slice go1 u.funs.length gc):=by rw [World.cell?_of_block (w:=wv) (HK.out.block N (zb HROW3.out) (.inr (by have:=HM.out;have:=HN.out;omega))),zzq0 _ _ _ _ _ _ HROW3.out];rfl
    by_cases hlt:k<u.funs.length
    ·rcases HG3.out.flat (by decide)with hnil|⟨fb,arr,hfo,hfb,hfa,hfs⟩
     ·exact zz23
     subst hfo;have HFB:=zzH hfb;have HFA:Hid (wv.heap[fb]?=some (.cells arr 70 (0,0))/\u.funs.length*3<=arr.size):=zzH ⟨hfa,hfs⟩
     clear hfb hfa hfs;have hq:=HK.out.shp _ _ _ _ HFA.out.1;obtain⟨arr',ha,hs⟩:=hq;have hsz:k*3+3<=arr'.size:=by rw [hs];have h1:=HFA.out.2;have h2:(k+1)*3<=u.funs.length*3:=Nat.mul_le_mul_right _ hlt;omega
     have HSZ:=zzH hsz;have HA:=zzH ha;obtain⟨v0,x0⟩: ∃v,wx.cell? ⟨fb,k*3,none⟩=some v:=⟨_,zN HA.out (by omega)⟩;have z0:=zzq2 _ _ (k*3) _ _ HA.out;obtain⟨v1,x1⟩: ∃v,wx.cell? ⟨fb,k*3+1,none⟩=some v:=⟨_,zN HA.out (by omega)⟩;have z1:=zzq2 _ _ (k*3+1) _ _ HA.out;obtain⟨v2,x2⟩: ∃v,wx.cell? ⟨fb,k*3+2,none⟩=some v:=⟨_,zN HA.out (by omega)⟩;have z2:=zzq2 _ _ (k*3+2) _ _ HA.out;clear hs hsz ha;go_upto_region 8 with fail;generalize hw7:World.setCell _ _ _=w7;have hw7':w7=setL fb [.int .i64 0,.int .i64 0,.int .i64 (-9)] (k*3) wx:=hw7.symm;have hk7:KeepR m2 m3 wv w7:=by rw [hw7'];exact HK.out.trans (KeepR.setL _ _ HFB.out _ _ _)
     have HK7:=zzH hk7;clear hw7 hw7' hk7 x0 z0 x1 z1 x2 z2 HK HA HSZ;exact zz22
    ·have hkl:k=u.funs.length:=by omega
     subst hkl;have HKF:=HK;clear HK;have HKW:Hid (KeepR lo hi w wx):=zzH (HKF2.out.trans (HKF.out.widen (by have:=HM.out;omega) (by have:=HM.out;omega)));have HROW:Hid (wx.heap[N]?=some (.cells #[.string u.mdl,.int .i64 u.vsn,.slice lo1 u.lits.length lc,.slice fo1 u.funcs.length fc,.slice go1 u.funs.length gc,.slice co1 u.code.length cc] 27 (0,0))):=zzH ((HKF.out.block N (zb HROW3.out) (.inr (by have:=HM.out;have:=HN.out;omega))).trans HROW3.out)
     have HC:Hid (SlS wx (InsS wx) 47 10 m3 hi co1 u.code):=zzH (HC3.out.kept (fun b h1 h2=>HKF.out.block b (by have:=zb HROW3.out;have:=HN.out;omega) (.inr h1)) (zzL _) (zzL _) fun a e cs t ha he hx=>hx.kept (fun b h1 h2=>HKF.out.block b (by have:=zb HROW3.out;have:=HN.out;omega) (.inr (by omega))) (zzL _) (zzL _));clear HG3 HC3 HROW3 HKF HKF2 hk hlt;go_upto_region 10 with fail;clear c4;go_wp2_with fail;rcases HC.out with hnil|⟨g,arr,a,e,hco,hg1,hg2,hga,hgv,hgx⟩
     ·have hn0:u.code.length=0:=by rw [hnil];rfl
      have c5:wx.cell? ⟨N,5,none⟩=some (.slice co1 u.code.length cc):=by rw [zzq0 _ _ _ _ _ _ HROW.out];rfl
      go_loop [4] (fun i=>i= .int .i64 0) (fun _=>0)
      case atStart=>rfl
      case round=>
       subst hrel;rw [hn0]at c5;go_wp2_with fail;exact⟨rfl,_,results_none rfl _ _ _,by rw [HQ.out];exact⟨rfl,HKW.out⟩⟩
     subst hco;refine zzK3 hgv hgx hga fun HGV HGX HGA=>?_;have HGR:Hid (m3<=g/\g<hi):=zzH ⟨hg1,hg2⟩;have HA0:Hid (∃arr',wx.heap[g]?=some (.cells arr' 47 (0,0))/\ ∀j i,0<=j->j<u.code.length->i<10->arr'[j*10+i]?=arr[j*10+i]?):=zzH ⟨arr,hga,fun _ _ _ _ _=>rfl⟩
     clear hga hgv hgx hg1 hg2 HC;go_loopw [4] (fun iv wy=> ∃k:Nat,k<=u.code.length/\iv= .int .i64 k/\Hid (KeepR m3 hi wx wy)/\Hid (∃arr',wy.heap[g]?=some (.cells arr' 47 (0,0))/\ ∀j i,k<=j->j<u.code.length->i<10->arr'[j*10+i]?=arr[j*10+i]?)) (fun i _=>u.code.length-(intOf i).toNat)
     case atStart=>exact⟨0,zzZ _,rfl,zzH (KeepR.refl _ _ _),HA0⟩
     case round=>
      obtain⟨k0,hk,rfl,HKY,HA⟩:=hrel;rename World=>wy
      have c5:wy.cell? ⟨N,5,none⟩=some (.slice (some ⟨g,0,none⟩) u.code.length cc):=by rw [World.cell?_of_block (w:=wx) (HKY.out.block N (zb HROW.out) (.inr HN.out)),zzq0 _ _ _ _ _ _ HROW.out];rfl
      by_cases hlt:k0<u.code.length
      ·obtain⟨arr',ha1,ha2⟩:=HA.out
       obtain⟨cs,k1,k2,k3⟩:=HGX.out k0 hlt;obtain⟨v1,v2,v3,v4,v5⟩:=HGV.out k0 hlt;obtain⟨⟨so,sc,zo,zc,go2,gc2,rfl,hs1,hs2,hs3⟩,hib⟩:=k3;obtain⟨x,hxe⟩: ∃x,x=u.code[k0]:=⟨_,rfl⟩;rw [<-hxe]at k2 hs1 hs2 hs3 hib;have hq: ∀i,i<10->wy.cell? ⟨g,k0*10+i,none⟩=(zde x so sc zo zc go2 gc2)[i]?:=fun i hi=>by rw [zzq0 _ _ _ _ _ _ ha1,ha2 k0 i (Nat.le_refl _) hlt hi,k2 i hi]
       have q0:wy.cell? ⟨g,k0*10,none⟩=some (.int .i64 x.op):=hq 0 (by decide);have q1:wy.cell? ⟨g,k0*10+1,none⟩=some (.int .i64 x.dst.kind):=hq 1 (by decide);have q2:wy.cell? ⟨g,k0*10+2,none⟩=some (.int .i64 x.dst.n):=hq 2 (by decide);have q3:wy.cell? ⟨g,k0*10+3,none⟩=some (.slice so x.src.length sc):=hq 3 (by decide);have q4:wy.cell? ⟨g,k0*10+4,none⟩=some (.int .i64 x.to):=hq 4 (by decide);have q5:wy.cell? ⟨g,k0*10+5,none⟩=some (.int .i64 x.n):=hq 5 (by decide);have q6:wy.cell? ⟨g,k0*10+6,none⟩=some (.int .i64 x.live):=hq 6 (by decide);have q7:wy.cell? ⟨g,k0*10+7,none⟩=some (.string x.name):=hq 7 (by decide);have q8:wy.cell? ⟨g,k0*10+8,none⟩=some (.slice zo x.cases.length zc):=hq 8 (by decide);have q9:wy.cell? ⟨g,k0*10+9,none⟩=some (.slice go2 x.segs.length gc2):=hq 9 (by decide)
       have hsz:k0*10+10<=arr'.size:=by
        have h1:=ha2 k0 9 (zzL _) hlt (by decide);rw [k2 9 (by decide)]at h1;have:=(Array.getElem?_eq_some_iff.1 (h1.trans rfl)).1;omega
       obtain⟨-,-,-,rl1,-,-,-,-,rl2,rl3⟩:=hib;unfold maxLen at rl1 rl2 rl3;have hNy:N<wy.heap.size:=zzW (zb HROW.out) HKY.out.size;have hbn:=zzF wy (.cells #[.int .i64 x.op,.int .i64 x.dst.kind,.int .i64 x.dst.n,.slice so x.src.length sc,.int .i64 x.to,.int .i64 x.n,.int .i64 x.live,.string x.name,.slice zo x.cases.length zc,.slice go2 x.segs.length gc2] 47);have hbb:=(zzR wy.heap.size wy).alloc (zzL _) (.cells #[.int .i64 x.op,.int .i64 x.dst.kind,.int .i64 x.dst.n,.slice so x.src.length sc,.int .i64 x.to,.int .i64 x.n,.int .i64 x.live,.string x.name,.slice zo x.cases.length zc,.slice go2 x.segs.length gc2] 47);refine zzK8 hbn hbb ha1 ha2 hsz hs1 hs2 hs3 fun HBN HBB HA1 HA2 HSZ HS1 HS2 HS3=>?_;have HV:Hid (m3<=a k0/\e k0<=hi/\(g<a k0\/e k0<=g)/\N<wy.heap.size):=zzH ⟨v1,v3,v4 g rfl,hNy⟩;clear hbn hbb ha1 ha2 hsz hs1 hs2 hs3 v1 v2 v3 v4 v5 hNy hq k1 k2 hxe HA;go_upto_region 14 with fail;generalize wy.alloc _=Wb at *;clear q0 q1 q2 q3 q4 q5 q6 q7 q8 q9 c5;have HRB:Hid (∀b,m3<=b->b<hi->Wb.heap[b]?=wy.heap[b]?):=zzH fun b h1 h2=>HBB.out.block b (by have:=HV.out;have:=HN.out;omega)
       go_wp2_with fail;have HLT:=zzH hlt;clear hlt hk;have HKI:Hid (KeepR (a k0) (e k0) Wb Wb):=zzH (KeepR.refl _ _ _);go_loopw [6] (fun iv w6v=> ∃k:Nat,k<=x.src.length/\iv= .int .i64 k/\Hid (KeepR (a k0) (e k0) Wb w6v)) (fun i _=>x.src.length-(intOf i).toNat)
       case atStart=>exact⟨0,zzZ _,rfl,HKI⟩
       case round=>
        obtain⟨k,hk,rfl,HK⟩:=hrel;rename World=>w6v
        have cb:w6v.cell? ⟨wy.heap.size,3,none⟩=some (.slice so x.src.length sc):=by rw [World.cell?_of_block (w:=Wb) (HK.out.block wy.heap.size (zb HBN.out) (.inr (by have:=HV.out;have:=HN.out;omega))),zzq0 _ _ _ _ _ _ HBN.out];rfl
        by_cases hlt:k<x.src.length
        ·rcases HS1.out.flat (by decide)with hnil|⟨fb,arr1,hfo,hfb,hfa,hfs⟩
         ·exact zz23
         subst hfo;have HFB:=zzH hfb;obtain⟨arr2,hfa2,hfs2⟩:=HKY.out.shp _ _ _ _ hfa;have HFA:Hid (Wb.heap[fb]?=some (.cells arr2 42 (0,0))/\x.src.length*2<=arr2.size):=zzH ⟨(HRB.out fb (by have:=HV.out;omega) (by have:=HV.out;omega)).trans hfa2,by rw [hfs2];exact hfs⟩
         clear hfb hfa hfs hfa2 hfs2;have hq:=HK.out.shp _ _ _ _ HFA.out.1;obtain⟨arr',ha,hs⟩:=hq;have hsz:k*2+2<=arr'.size:=by rw [hs];have h1:=HFA.out.2;have h2:(k+1)*2<=x.src.length*2:=Nat.mul_le_mul_right _ hlt;omega
         have HSZ:=zzH hsz;have HA:=zzH ha;obtain⟨v0,x0⟩: ∃v,w6v.cell? ⟨fb,k*2,none⟩=some v:=⟨_,zN HA.out (by omega)⟩;have z0:=zzq2 _ _ (k*2) _ _ HA.out;obtain⟨v1,x1⟩: ∃v,w6v.cell? ⟨fb,k*2+1,none⟩=some v:=⟨_,zN HA.out (by omega)⟩;have z1:=zzq2 _ _ (k*2+1) _ _ HA.out;clear hs hsz ha;go_upto_region 16 with fail;generalize hw7:World.setCell _ _ _=w7;have hw7':w7=setL fb [.int .i64 (-9),.int .i64 0] (k*2) w6v:=hw7.symm;exact zz21
        ·have hkl:k=x.src.length:=by omega
         subst hkl;have HKI:=HK;clear HK hk hlt;go_upto_region 18 with fail;clear cb;go_wp2_with fail;go_loopw [7] (fun iv w7v=> ∃k:Nat,k<=x.cases.length/\iv= .int .i64 k/\Hid (KeepR (a k0) (e k0) Wb w7v)) (fun i _=>x.cases.length-(intOf i).toNat)
         case atStart=>exact⟨0,zzZ _,rfl,HKI⟩
         case round=>
          obtain⟨k,hk,rfl,HK⟩:=hrel;rename World=>w7v
          have cb:w7v.cell? ⟨wy.heap.size,8,none⟩=some (.slice zo x.cases.length zc):=by rw [World.cell?_of_block (w:=Wb) (HK.out.block wy.heap.size (zb HBN.out) (.inr (by have:=HV.out;have:=HN.out;omega))),zzq0 _ _ _ _ _ _ HBN.out];rfl
          by_cases hlt:k<x.cases.length
          ·rcases HS2.out.flat (by decide)with hnil|⟨fb,arr1,hfo,hfb,hfa,hfs⟩
           ·exact zz23
           subst hfo;have HFB:=zzH hfb;obtain⟨arr2,hfa2,hfs2⟩:=HKY.out.shp _ _ _ _ hfa;have HFA:Hid (Wb.heap[fb]?=some (.cells arr2 111 (0,0))/\x.cases.length*2<=arr2.size):=zzH ⟨(HRB.out fb (by have:=HV.out;omega) (by have:=HV.out;omega)).trans hfa2,by rw [hfs2];exact hfs⟩
           clear hfb hfa hfs hfa2 hfs2;have hq:=HK.out.shp _ _ _ _ HFA.out.1;obtain⟨arr',ha,hs⟩:=hq;have hsz:k*2+2<=arr'.size:=by rw [hs];have h1:=HFA.out.2;have h2:(k+1)*2<=x.cases.length*2:=Nat.mul_le_mul_right _ hlt;omega
           have HSZ:=zzH hsz;have HA:=zzH ha;obtain⟨v0,x0⟩: ∃v,w7v.cell? ⟨fb,k*2,none⟩=some v:=⟨_,zN HA.out (by omega)⟩;have z0:=zzq2 _ _ (k*2) _ _ HA.out;obtain⟨v1,x1⟩: ∃v,w7v.cell? ⟨fb,k*2+1,none⟩=some v:=⟨_,zN HA.out (by omega)⟩;have z1:=zzq2 _ _ (k*2+1) _ _ HA.out;clear hs hsz ha;go_upto_region 20 with fail;generalize hw7:World.setCell _ _ _=w7;have hw7':w7=setL fb [.int .i64 (-9),.int .i64 (-9)] (k*2) w7v:=hw7.symm;exact zz21
          ·have hkl:k=x.cases.length:=by omega
           subst hkl;have HKI:=HK;clear HK hk hlt;go_upto_region 22 with fail;clear cb;go_wp2_with fail;go_loopw [8] (fun iv w8=> ∃k:Nat,k<=x.segs.length/\iv= .int .i64 k/\Hid (KeepR (a k0) (e k0) Wb w8)) (fun i _=>x.segs.length-(intOf i).toNat)
           case atStart=>exact⟨0,zzZ _,rfl,HKI⟩
           case round=>
            obtain⟨k,hk,rfl,HK⟩:=hrel;rename World=>w8
            have cb:w8.cell? ⟨wy.heap.size,9,none⟩=some (.slice go2 x.segs.length gc2):=by rw [World.cell?_of_block (w:=Wb) (HK.out.block wy.heap.size (zb HBN.out) (.inr (by have:=HV.out;have:=HN.out;omega))),zzq0 _ _ _ _ _ _ HBN.out];rfl
            by_cases hlt:k<x.segs.length
            ·rcases HS3.out.flat (by decide)with hnil|⟨fb,arr1,hfo,hfb,hfa,hfs⟩
             ·exact zz23
             subst hfo;have HFB:=zzH hfb;obtain⟨arr2,hfa2,hfs2⟩:=HKY.out.shp _ _ _ _ hfa;have HFA:Hid (Wb.heap[fb]?=some (.cells arr2 113 (0,0))/\x.segs.length*6<=arr2.size):=zzH ⟨(HRB.out fb (by have:=HV.out;omega) (by have:=HV.out;omega)).trans hfa2,by rw [hfs2];exact hfs⟩
             clear hfb hfa hfs hfa2 hfs2;have hq:=HK.out.shp _ _ _ _ HFA.out.1;obtain⟨arr',ha,hs⟩:=hq;have hsz:k*6+6<=arr'.size:=by rw [hs];have h1:=HFA.out.2;have h2:(k+1)*6<=x.segs.length*6:=Nat.mul_le_mul_right _ hlt;omega
             have HSZ:=zzH hsz;have HA:=zzH ha;obtain⟨v0,x0⟩: ∃v,w8.cell? ⟨fb,k*6,none⟩=some v:=⟨_,zN HA.out (by omega)⟩;have z0:=zzq2 _ _ (k*6) _ _ HA.out;obtain⟨v1,x1⟩: ∃v,w8.cell? ⟨fb,k*6+1,none⟩=some v:=⟨_,zN HA.out (by omega)⟩;have z1:=zzq2 _ _ (k*6+1) _ _ HA.out;obtain⟨v2,x2⟩: ∃v,w8.cell? ⟨fb,k*6+2,none⟩=some v:=⟨_,zN HA.out (by omega)⟩;have z2:=zzq2 _ _ (k*6+2) _ _ HA.out;obtain⟨v3,x3⟩: ∃v,w8.cell? ⟨fb,k*6+3,none⟩=some v:=⟨_,zN HA.out (by omega)⟩;have z3:=zzq2 _ _ (k*6+3) _ _ HA.out;obtain⟨v4,x4⟩: ∃v,w8.cell? ⟨fb,k*6+4,none⟩=some v:=⟨_,zN HA.out (by omega)⟩;have z4:=zzq2 _ _ (k*6+4) _ _ HA.out;obtain⟨v5,x5⟩: ∃v,w8.cell? ⟨fb,k*6+5,none⟩=some v:=⟨_,zN HA.out (by omega)⟩;have z5:=zzq2 _ _ (k*6+5) _ _ HA.out;clear hs hsz ha;go_upto_region 24 with fail;generalize hw7:World.setCell _ _ _=w7;have hw7':w7=setL fb [.int .i64 (-9),.int .i64 0,.int .i64 0,.int .i64 0,.int .i64 0,.bool false] (k*6) w8:=hw7.symm;have hk7:KeepR (a k0) (e k0) Wb w7:=by rw [hw7'];exact HK.out.trans (KeepR.setL _ _ HFB.out _ _ _)
             have HK7:=zzH hk7;clear hw7 hw7' hk7 x0 z0 x1 z1 x2 z2 x3 z3 x4 z4 x5 z5 HK HA HSZ;exact zz22
            ·have hkl:k=x.segs.length:=by omega
             subst hkl;have HKI:=HK;clear HK hk hlt;go_upto_region 26 with fail;clear cb;have hgW:w8.heap[g]?=some (.cells arr' 47 (0,0)):=(HKI.out.block g (by have:=zb HBN.out;have:=HV.out;have:=HN.out;have:=HGR.out;omega) (HV.out.2.2.1)).trans ((HRB.out g HGR.out.1 HGR.out.2).trans HA1.out)
             have c5:w8.cell? ⟨N,5,none⟩=some (.slice (some ⟨g,0,none⟩) u.code.length cc):=by rw [World.cell?_of_block (w:=Wb) (HKI.out.block N (by have:=zb HBN.out;have:=HV.out;omega) (.inr (by have:=HV.out;have:=HN.out;omega))),World.cell?_of_block (w:=wy) (HBB.out.block N HV.out.2.2.2),World.cell?_of_block (w:=wx) (HKY.out.block N (zb HROW.out) (.inr HN.out)),zzq0 _ _ _ _ _ _ HROW.out];rfl
             have HGW:=zzH hgW;have hsz:=HSZ.out;obtain⟨v0,x0⟩: ∃v,w8.cell? ⟨g,k0*10,none⟩=some v:=⟨_,zN HGW.out (by omega)⟩;have z0:=zzq2 _ _ (k0*10) _ _ HGW.out;obtain⟨v1,x1⟩: ∃v,w8.cell? ⟨g,k0*10+1,none⟩=some v:=⟨_,zN HGW.out (by omega)⟩;have z1:=zzq2 _ _ (k0*10+1) _ _ HGW.out;obtain⟨v2,x2⟩: ∃v,w8.cell? ⟨g,k0*10+2,none⟩=some v:=⟨_,zN HGW.out (by omega)⟩;have z2:=zzq2 _ _ (k0*10+2) _ _ HGW.out;obtain⟨v3,x3⟩: ∃v,w8.cell? ⟨g,k0*10+3,none⟩=some v:=⟨_,zN HGW.out (by omega)⟩;have z3:=zzq2 _ _ (k0*10+3) _ _ HGW.out;obtain⟨v4,x4⟩: ∃v,w8.cell? ⟨g,k0*10+4,none⟩=some v:=⟨_,zN HGW.out (by omega)⟩;have z4:=zzq2 _ _ (k0*10+4) _ _ HGW.out;obtain⟨v5,x5⟩: ∃v,w8.cell? ⟨g,k0*10+5,none⟩=some v:=⟨_,zN HGW.out (by omega)⟩;have z5:=zzq2 _ _ (k0*10+5) _ _ HGW.out;obtain⟨v6,x6⟩: ∃v,w8.cell? ⟨g,k0*10+6,none⟩=some v:=⟨_,zN HGW.out (by omega)⟩;have z6:=zzq2 _ _ (k0*10+6) _ _ HGW.out;obtain⟨v7,x7⟩: ∃v,w8.cell? ⟨g,k0*10+7,none⟩=some v:=⟨_,zN HGW.out (by omega)⟩;have z7:=zzq2 _ _ (k0*10+7) _ _ HGW.out;obtain⟨v8,x8⟩: ∃v,w8.cell? ⟨g,k0*10+8,none⟩=some v:=⟨_,zN HGW.out (by omega)⟩;have z8:=zzq2 _ _ (k0*10+8) _ _ HGW.out;obtain⟨v9,x9⟩: ∃v,w8.cell? ⟨g,k0*10+9,none⟩=some v:=⟨_,zN HGW.out (by omega)⟩;have z9:=zzq2 _ _ (k0*10+9) _ _ HGW.out;clear hgW hsz;have hlt:=HLT.out;go_upto_region 12 with fail;generalize hw7:World.setCell _ _ _=w7;have hw7':w7=setL g [.int .i64 (-9),.int .i64 0,.int .i64 0,.slice none 0 0,.int .i64 0,.int .i64 0,.int .i64 0,.string ⟨#[]⟩,.slice none 0 0,.slice none 0 0] (k0*10) w8:=hw7.symm;obtain⟨arr7,e7,e8⟩:=zdM [.int .i64 (-9),.int .i64 0,.int .i64 0,.slice none 0 0,.int .i64 0,.int .i64 0,.int .i64 0,.string ⟨#[]⟩,.slice none 0 0,.slice none 0 0] (k0*10) w8 _ HGW.out HSZ.out;rw [<-hw7']at e7;have hk7:KeepR m3 hi wx w7:=by rw [hw7'];exact((HKY.out.trans (KeepR.below HBB.out)).trans (HKI.out.widen HV.out.1 HV.out.2.1)).trans (KeepR.setL m3 hi HGR.out _ _ _)
             have HA7:Hid (∃arr',w7.heap[g]?=some (.cells arr' 47 (0,0))/\ ∀j i,k0+1<=j->j<u.code.length->i<10->arr'[j*10+i]?=arr[j*10+i]?):=zzH ⟨arr7,e7,fun j i hj hjl hi=>by
              rw [e8,if_neg (by simp only [List.length_cons,List.length_nil];omega)];exact HA2.out j i (by omega) hjl hi⟩
             have HK7:=zzH hk7;clear hw7 hw7' e7 e8 hk7 x0 z0 x1 z1 x2 z2 x3 z3 x4 z4 x5 z5 x6 z6 x7 z7 x8 z8 x9 z9 c5;go_wp2_with fail;go_roundw
             case rel=>exact⟨k0+1,by omega,by go_num,HK7,HA7⟩
             case measure=>simp [intOf];omega
      ·have hkl:k0=u.code.length:=by omega
       subst hkl;go_wp2_with fail;exact⟨rfl,_,results_none rfl _ _ _,by rw [HQ.out];exact⟨rfl,HKW.out.trans (HKY.out.widen (by have:=HM.out;omega) (zzL _))⟩⟩
end Go.Proofs.YtepjanajflkakaaGreatDoor
