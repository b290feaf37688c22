import Derived.Test.YthajedcbgnloeaaGreatDoorW14
import Derived.Test.YthajedcbgnloeaaGreatDoorW15
import Derived.Test.YthajedcbgnloeaaGreatDoorW16
namespace Go.Proofs.YthajedcbgnloeaaGreatDoor
open Go.RowKit
set_option linter.unusedVariables false
set_option linter.unusedSimpArgs false
set_option maxRecDepth 100000
set_option maxHeartbeats 0
abbrev uRow (u:RUnit) (lo:Option Addr) (lc:Nat) (fo:Option Addr) (fc:Nat) (go:Option Addr) (gc:Nat) (co:Option Addr) (cc:Nat):Array Value:=#[.string u.mdl,.int .i64 u.vsn,.slice lo u.lits.length lc,.slice fo u.funcs.length fc,.slice go u.funs.length gc,.slice co u.code.length cc]
abbrev xRow (x:RIns) (so:Option Addr) (sc:Nat) (zo:Option Addr) (zc:Nat) (zs:Option Addr) (zsc:Nat):Array Value:=#[.int .i64 x.op,.int .i64 x.dst.kind,.int .i64 x.dst.n,.slice so x.src.length sc,.int .i64 x.to,.int .i64 x.n,.int .i64 x.live,.string x.name,.slice zo x.cases.length zc,.slice zs x.segs.length zsc]
def zbb (i:Nat) (c n:VSt) (op xn xt:Int) (a0:RArg):VSt:=
 if op=9 then zb6 c a0 (3+xn)else if op=10 then zb6 c a0 2
 else if op=15\/op=16\/op=18\/op=20\/op=22 then zci c
 else if op=37 then zcL c
 else if op=24 then{n with frame:=xn,y:=zbY xn}
 else if op=25 then{n with frame:= -1,y:=[]}
 else if op=28 then{n with tries:=c.tries++ [xt]}
 else if op=29 then{n with tries:=c.tries.take (c.tries.length-1)}
 else if op=30 then{n with mt:=true}
 else if op=36 then{n with recv:=1,frm:=i}
 else if op=38\/op=40 then{n with recv:=0,frm:=0}
 else n
def zbM (c:VSt) (op:Int):VSt:=if op=37 then{zcL c with x:=[],recv:=1}else if op=39 then{c with recv:=1}else c
def zeM (c:VSt) (x:RIns) (rv:Int):VSt:=if x.dst.kind≠0 then zb6 c x.dst rv else c
theorem zoh (u:RUnit) (i:Nat) (s:VSt) (x:RIns):zdj u i s x=zbb i (z8 s x) (zeM (z8 s x) x (zcM u s x)) x.op x.n x.to (zB x):=rfl
theorem zqv (s:VSt) (x:RIns):toV s x=zbM (z8 s x) x.op:=rfl
theorem zkW (s:VSt) (x:RIns):(z8 s x).y=s.y/\(z8 s x).tries=s.tries/\(z8 s x).x.length<=s.x.length:=by
 unfold z8;split
 ·refine⟨rfl,rfl,?_⟩
  exact zz102
 ·exact⟨rfl,rfl,zzL _⟩
theorem zmk {op:Int} (h:1<=op/\op<=40):(zco op).h=zcY op/\(zco op).a=zx (zD op).1.toNat 1/\((zco op).g=true↔toB op=true\/op=28):=by
 obtain⟨h1,h2,-⟩:=zkF h;rw [zhN h];exact⟨Bool.eq_iff_iff.2 h2,rfl,h1⟩
theorem ziW {w:World} {g:Nat} {fr:Nat × Nat} (h:w.heap[g]?=some (.cells #[.int .i64 1] 3 fr)):IntsAt w (some ⟨g,0,none⟩) [1]:=
 .inr ⟨g,0,_,_,rfl,h,fun j hj=>by
  have:j=0:=by simp at hj;omega
  subst this;rfl⟩
theorem znK {w:World} {g:Nat} {fr:Nat × Nat} (h:w.heap[g]?=some (.cells #[.int .i64 1,.int .i64 1] 3 fr)):IntsAt w (some ⟨g,0,none⟩) [1,1]:=
 .inr ⟨g,0,_,_,rfl,h,fun j hj=>by
  have:j=0\/j=1:=by simp at hj;omega
  rcases this with rfl|rfl<;>rfl⟩
theorem zgu {fn:Func} {p q r:Tmp} {ty:TypeId} (h:fn.results=#[.cell p ty,.cell q ty,.cell r ty]) (tmps:Array Value) (P:Program) (w:World) (g1 g2 g3:Nat) (t:TypeId) (cs1 cs2 cs3:Array Value) (fr:Nat × Nat) (fs:Array Field)
  (hp:tmps.getD p undef= .pointer (some ⟨g1,0,none⟩)) (hq:tmps.getD q undef= .pointer (some ⟨g2,0,none⟩)) (hr:tmps.getD r undef= .pointer (some ⟨g3,0,none⟩))
  (h1:w.heap[g1]?=some (.cells cs1 t fr)) (h2:w.heap[g2]?=some (.cells cs2 t fr)) (h3:w.heap[g3]?=some (.cells cs3 t fr))
  (hu:P.underlying ty=some (.struct fs)) (i1:(P.info? ty).map (·.size)=some cs1.size) (i2:(P.info? ty).map (·.size)=some cs2.size) (i3:(P.info? ty).map (·.size)=some cs3.size):
  (results fn tmps).run P w= .ok (.tuple #[.agg cs1,.agg cs2,.agg cs3]) w:=by
 have l1:=run_loadVar_row w g1 t ty cs1 fr (.struct fs) h1 hu rfl i1;have l2:=run_loadVar_row w g2 t ty cs2 fr (.struct fs) h2 hu rfl i2;have l3:=run_loadVar_row w g3 t ty cs3 fr (.struct fs) h3 hu rfl i3;have hp':tmps[p]?.getD undef= .pointer (some ⟨g1,0,none⟩):=by simpa using hp
 have hq':tmps[q]?.getD undef= .pointer (some ⟨g2,0,none⟩):=by simpa using hq
 have hr':tmps[r]?.getD undef= .pointer (some ⟨g3,0,none⟩):=by simpa using hr
 simp [results,h,hp',hq',hr',asAddr,l1,l2,l3]
def ziE (u:RUnit) (i:Nat) (s:VSt) (x:RIns) (w:World) (e:Ending) (w':World):Prop:=
 (∃xo xc yo yc to' tc xo2 xc2 yo2 yc2 to2 tc2 xo3 xc3 yo3 yc3 to3 tc3,e= .returned (.tuple #[.agg (zj (zdj u i s x) xo xc yo yc to' tc),.agg (zj (toV s x) xo2 xc2 yo2 yc2 to2 tc2),.agg (zj (zcD s) xo3 xc3 yo3 yc3 to3 tc3)]) /\
  StLs w' (zdj u i s x) xo xc yo yc to' tc/\StLs w' (toV s x) xo2 xc2 yo2 yc2 to2 tc2/\StLs w' (zcD s) xo3 xc3 yo3 yc3 to3 tc3)/\Below w.heap.size w w'
theorem zjs (u:RUnit) (lo fo go co:zzA) (lc fc gc cc i:Nat) (s:VSt) (xo yo to':zzA) (xc yc tc:Nat) (x:RIns) (so zo zs:zzA) (sc zc zsc:Nat) (w:World) (hup:UP w u lo fo go co) (hs:StLs w s xo xc yo yc to' tc)
  (hx:InsR w [.int .i64 x.op,.int .i64 x.dst.kind,.int .i64 x.dst.n,.slice so x.src.length sc,.int .i64 x.to,.int .i64 x.n,.int .i64 x.live,.string x.name,.slice zo x.cases.length zc,.slice zs x.segs.length zsc] x) (hsl:SlAt w 2 zeG so x.src) (hop:1<=x.op/\x.op<=40) (ho:StOk s) (hl:zcU u) (he:EffOk u s x) (hd:x.dst.kind=0↔zx (zD x.op).1.toNat 1=false):
  Calls Tryz.prog 89 #[.agg (zzu u lo lc fo fc go gc co cc),.int .i64 (i:Int),.agg (zzs s xo xc yo yc to' tc),.agg (zzi x so sc zo zc zs zsc)] w (ziE u i s x w):=by
 unfold zzi zzs zzu;obtain⟨g0,g1,g2,g3,g4,g5,hb,-⟩:=zkZ w (.cells #[.string u.mdl,.int .i64 u.vsn,.slice lo u.lits.length lc,.slice fo u.funcs.length fc,.slice go u.funs.length gc,.slice co u.code.length cc] 27) (.cells #[.int .i64 s.frame,.slice xo s.x.length xc,.slice yo s.y.length yc,.slice to' s.tries.length tc,.bool s.mt,.int .i64 s.recv,.int .i64 s.frm] 40) (.cells #[.int .i64 x.op,.int .i64 x.dst.kind,.int .i64 x.dst.n,.slice so x.src.length sc,.int .i64 x.to,.int .i64 x.n,.int .i64 x.live,.string x.name,.slice zo x.cases.length zc,.slice zs x.segs.length zsc] 47) (.cells zSt 40) (.cells zSt 40) (.cells zSt 40);refine zzK10 (EV.mk (w:=w) (ur:=(uRow u lo lc fo fc go gc co cc)) (xr:=(xRow x so sc zo zc zs zsc)) (c:=s) (N:=VSt.zero) (T:=VSt.zero) (H:=VSt.zero) g0 ⟨xo,xc,yo,yc,to',tc,g1,hs.below hb⟩ g2 ⟨none,0,none,0,none,0,g3,zf7 _⟩ ⟨none,0,none,0,none,0,g4,zf7 _⟩ ⟨none,0,none,0,none,0,g5,zf7 _⟩ hb) (zjX u lo fo go co lc fc gc cc s xo yo to' xc yc tc x so zo zs sc zc zsc _ (hup.below hb) (hs.below hb) ho hl (hx.below hb) he.src1 he.srcl) g0 g1 g2 hsl ho he (zmk hop) hd fun HEV HRES G0 G1 G2 HSR HO HE HRW HD=>?_;obtain⟨Q,hQ⟩: ∃Q,Q=ziE u i s x w:=⟨_,rfl⟩;rw [<-hQ];have HQ:=zzH hQ;clear g0 g1 g2 g3 g4 g5 hb hup hs hx hsl hop ho hl he hd hQ;go_in;go_upto_region 1 with fail;generalize(((((w.alloc _).alloc _).alloc _).alloc _).alloc _).alloc _=W at *;obtain⟨c0,c1,c2,c3,c4,c5⟩:=zV G0.out;obtain⟨d0,d1,d2,d3,d4,d5,d6⟩:=zN G1.out;obtain⟨i0,i1,i2,i3,i4,i5,i6,i7,i8,i9⟩:=zC G2.out;obtain⟨rv,hrv⟩: ∃rv,rv=zcM u s x:=⟨_,rfl⟩;rw [<-hrv]at HRES;have HRV:=zzH hrv;clear hrv;go_wp2_with fail;refine HRES.out.mono ?_;rintro e w1 ⟨rfl,hb1⟩;have HEV1:=zzH (HEV.out.below hb1);clear hb1 HRES HEV G0 G1 G2 c0 c1 c2 c3 c4 c5 d0 d1 d2 d3 d4 d5 d6 i0 i1 i2 i3 i4 i5 i6 i7 i8 i9;have i0:=(zC HEV1.out.x).1;go_wp2_with fail;refine(zfI _ _).mono ?_;rintro e w2 ⟨rfl,hb2⟩;have HEV2:=zzH (HEV1.out.below hb2);clear hb2 HEV1 i0;go_upto_region 3 with(refine zzm rfl 93 _ _ rfl _ _ rfl rfl 93 _ (zzF _ _) (by kernel_rfl) rfl (RRow.one _) ?_);have hO:=HEV2.out.le;generalize hw3:World.setRow _ _ _=w3;have hbA:Below w2.heap.size w2 w3:=by rw [<-hw3];exact below_setRow (zzE _ _) (zzL _) _
 have HR3:Hid (w3.heap[w2.heap.size]?=some (.cells (zco x.op).val 93 (0,0))):=zzH (by rw [<-hw3];exact setRow_heap _ _ _ _ _ _ (zzF w2 _))
 have HEV3:=zzH (HEV2.out.below hbA);clear hw3 hbA HEV2;generalize w2.heap.size=O at *;have HOG:=zzH hO;clear hO;obtain⟨xo,xc,yo,yc,to',tc,hslt,⟨d0,d1,d2,d3,d4,d5,d6⟩,hL⟩:=HEV3.out.s.seven2
 replace d2:=((zzR w3.heap.size w3).alloc (zzL _) (.cells #[.int .i64 1,.int .i64 1] 3)).cell (p:=⟨w.heap.size+1,2,none⟩) hslt |>.trans d2
 have HL:=zzH hL;obtain⟨_,_,_,_,_,_,hr5,-⟩:=HEV3.out.h;have hk5:=(Below.heap_alloc w3 (.cells #[.int .i64 1,.int .i64 1] 3) _ (zd hr5)).trans hr5;clear hL hr5 hslt;go_upto_region 4 with(refine zzm rfl 40 _ _ rfl _ _ rfl rfl 40 _ hk5 (by kernel_rfl) rfl (by simp [Value.oneCell']) ?_);clear hk5;generalize hw4:World.setRow _ _ _=w4;have hbI:Below w3.heap.size w3 (w3.alloc (.cells #[.int .i64 1,.int .i64 1] 3)):=zzE _ _;have hlH:StLs (w3.alloc (.cells #[.int .i64 1,.int .i64 1] 3)) (⟨s.frame,[1,1],s.y,[],false,0,0⟩:VSt) (some ⟨w3.heap.size,0,none⟩) 2 yo yc none 0:=⟨znK (zzF _ _),HL.out.y.below hbI,.nil _ _,zzL _,HL.out.yl,zzL _⟩;obtain⟨hev,-⟩:=(HEV3.out.below hbI).row_h hlH;have HEV4:Hid (EV w w4 (uRow u lo lc fo fc go gc co cc) (xRow x so sc zo zc zs zsc) s VSt.zero VSt.zero ⟨s.frame,[1,1],s.y,[],false,0,0⟩):=zzH (by rw [<-hw4];exact hev);have HR4:Hid (w4.heap[O]?=some (.cells (zco x.op).val 93 (0,0))):=zzH (by rw [<-hw4];exact(zzv _ _ O _ (by have:=HOG.out;omega)).trans ((hbI.block O (zd HR3.out)).trans HR3.out))
 clear hw4 hbI hlH hev HEV3 HR3 HL d0 d1 d2 d3 d4 d5 d6;obtain⟨xo,xc,yo,yc,to',tc,-,⟨d0,d1,d2,d3,d4,d5,d6⟩,hL⟩:=HEV4.out.s.seven2;have HL:=zzH hL;clear hL;go_upto_if 33 with fail;go_cut [] (fun wx=>Hid (EV w wx (uRow u lo lc fo fc go gc co cc) (xRow x so sc zo zc zs zsc) s VSt.zero VSt.zero (zcD s))/\Hid (wx.heap[O]?=some (.cells (zco x.op).val 93 (0,0))))
 case first=>
  by_cases h0:0<s.tries.length
  ·have u0:decide ((0:Int)<(s.tries.length:Int))=true:=zzT (by omega)
   have u9:decide (0<s.tries.length)=true:=zzT h0;rw [u9];obtain⟨n,hn⟩: ∃n,s.tries.length=n+1:=⟨s.tries.length-1,by omega⟩;obtain⟨tb,tf,hto,-,-⟩:=HL.out.t.cell (k:=n) (by omega);subst hto;have htl:=HL.out.tl;have hl1:=HO.out.len.t;have hw:IntKind.i64.wrap ((s.tries.length:Int)-1)=(n:Int):=by rw [zzq2];omega
   have hI0:(0:Int)<=(n:Int):=by omega
   have hI1:(n:Int)<=(s.tries.length:Int):=by omega
   have hI2:(n:Int)<=(tc:Int):=by omega
   obtain⟨xo5,xc5,yo5,yc5,to5,tc5,hr5,hL5⟩:=HEV4.out.h;have z3:=zw hr5 (k:=3) (by simp [zj]);have y3:w4.frozen? ⟨w.heap.size+1+1+1+1+1,3,none⟩=false:=zzq5 _ _ _ _ _ hr5;refine zzK4 hr5 hL5 hn htl fun H5 HL5 HN HTL=>?_;clear hr5 hL5 hn h0 htl hl1 d0 d1 d2 d4 d5 d6;go_wp2_with fail;go_meet;have hlt:(zcD s).tries.length=n:=by show(s.tries.take _).length=n;rw [List.length_take,HN.out];omega
   refine⟨zzH (HEV4.out.cell_h H5.out (X:=zcD s) (xo2:=xo5) (xc2:=xc5) (yo2:=yo5) (yc2:=yc5) (to2:=some ⟨tb,tf,none⟩) (tc2:=tc) ?_ ⟨HL5.out.x,HL5.out.y,HL.out.t.take _,HL5.out.xl,HL5.out.yl,?_⟩).1,zzH ((zzq6 _ _ _ _ (by show O≠w.heap.size+1+1+1+1+1;have:=HOG.out;omega)).trans HR4.out)⟩
   ·unfold zj;rw [hlt];rfl
   ·rw [hlt];have:=HTL.out;have:=HN.out;omega
  ·have u0:decide ((0:Int)<(s.tries.length:Int))=false:=zzD (by omega)
   have u9:decide (0<s.tries.length)=false:=zzD h0
   have hH:zcD s=⟨s.frame,[1,1],s.y,[],false,0,0⟩:=by
    have h1:s.tries= []:=zzQ (by omega);unfold zcD;rw [h1];rfl
   have HH:=zzH hH;rw [u9];clear hH h0;go_wp2_with fail;go_meet;exact⟨by rw [HH.out];exact HEV4,HR4⟩
 case rest=>
  obtain⟨HEV5,HR5⟩:=hcut;clear HEV4 HR4 d0 d1 d2 d3 d4 d5 d6 HL;rename World=>w5
  obtain⟨xo,xc,yo,yc,to',tc,-,⟨d0,d1,d2,d3,d4,d5,d6⟩,hL⟩:=HEV5.out.s.seven2;have HL:=zzH hL;clear hL;have l7:w5.cell? ⟨O,7,none⟩=some (.bool (zco x.op).h):=zzq0 _ _ 7 _ _ _ HR5.out;rw [HRW.out.1]at l7;have i6:=(zC HEV5.out.x).2.2.2.2.2.2.1;go_upto_region 6 with fail;obtain⟨B,hB⟩: ∃B,B=(zcY x.op&&decide (x.live<(s.x.length:Int))):=⟨_,rfl⟩;have HB:=zzH hB;clear hB;go_cut [51] (fun v wx=>v= .bool B/\w5=wx)
  case first=>
   cases hlm:zcY x.op with
   |false=>
    rw [hlm]at l7;have HBV:Hid (B=false):=zzH (by rw [HB.out,hlm];rfl);clear hlm;exact zz128
   |true=>
    rw [hlm]at l7;by_cases h1:x.live<(s.x.length:Int)
    ·have t1:decide (x.live<(s.x.length:Int))=true:=zzT h1
     have HBV:Hid (B=true):=zzH (by rw [HB.out,hlm,t1];rfl);clear hlm h1;exact zz128
    ·have t1:decide (x.live<(s.x.length:Int))=false:=zzD h1
     have HBV:Hid (B=false):=zzH (by rw [HB.out,hlm,t1];rfl);clear hlm h1;exact zz128
  case rest=>
   obtain⟨rfl,rfl⟩:=hcut;clear l7;go_upto_if 51 with fail;go_cut [] (fun wx=>Hid (EV w wx (uRow u lo lc fo fc go gc co cc) (xRow x so sc zo zc zs zsc) (z8 s x) VSt.zero VSt.zero (zcD s))/\Hid (wx.heap[O]?=some (.cells (zco x.op).val 93 (0,0))))
   case first=>
    cases B with
    |false=>
     have hc:z8 s x=s:=by
      have h1:=HB.out;unfold z8;rw [if_neg];rintro⟨h2,h3⟩;rw [h2,decide_eq_true h3]at h1;cases h1
     have HC:=zzH hc;clear hc;go_wp2_with fail;go_meet;exact⟨by rw [HC.out];exact HEV5,HR5⟩
    |true=>
     have h1:zcY x.op=true/\x.live<(s.x.length:Int):=by have h:=HB.out.symm;rw [zzq4,zzq8]at h;exact h
     obtain⟨lv,hlv2⟩:=zzJ HE.out.live.1;have hd:=h1.2;rw [hlv2]at i6 hd;have hc:z8 s x= {s with x:=zA (s.x.take lv)}:=by unfold z8;rw [if_pos h1,hlv2,zzq11]
     have hlen:(s.x.take lv).length=lv:=by rw [List.length_take];omega
     obtain⟨xb,xf,hxo,-,-⟩:=HL.out.x.cell (k:=lv) (by omega);subst hxo;have hxl:=HL.out.xl;have hxm:=HO.out.len.x;have hI0:(0:Int)<=(lv:Int):=by omega
     have hI1:(lv:Int)<=(s.x.length:Int):=by omega
     have hI2:(lv:Int)<=(xc:Int):=by omega
     have htr:=zgf (s.x.take lv) (some ⟨xb,xf,none⟩) xc w5 (HL.out.x.take lv) (by omega) (by omega);rw [hlen]at htr;have HTR:=zzH htr;have HC:=zzH hc;clear hc htr hlen hxl hxm hd h1 hlv2;go_wp2_with fail;refine HTR.out.mono ?_;rintro e w6 ⟨⟨v6,rfl,ho6⟩,hb6⟩;obtain⟨vo,vc,rfl,hi6,hc6⟩:=ho6.ints;have HEV6:=zzH (HEV5.out.below hb6);have HR6:=zzH ((hb6.block _ (zd HR5.out)).trans HR5.out);obtain⟨xo1,xc1,yo1,yc1,to1,tc1,hr1,hL1⟩:=HEV6.out.s;have z1:=zw hr1 (k:=1) (by simp [zj]);have y1:w6.frozen? ⟨w.heap.size+1,1,none⟩=false:=zzq5 _ _ _ _ _ hr1;refine zzK4 hr1 hL1 hi6 hc6 fun H1 HL1 HI6 HC6=>?_;obtain⟨TX,hTX⟩: ∃TX,TX=(zA (s.x.take lv)).length:=⟨_,rfl⟩;rw [<-hTX];have HTX:=zzH hTX;clear hTX hr1 hL1 hi6 hc6 ho6 hb6 HTR d0 d1 d2 d3 d4 d5 d6;go_wp2_with fail;go_meet;refine⟨zzH ?_,zzH ((zzq6 _ _ _ _ (by show O≠w.heap.size+1;have:=HOG.out;omega)).trans HR6.out)⟩;rw [HC.out];exact(HEV6.out.cell_s H1.out (X:={s with x:=zA (s.x.take lv)}) (xo2:=vo) (xc2:=vc) (yo2:=yo1) (yc2:=yc1) (to2:=to1) (tc2:=tc1) (by rw [HTX.out];rfl) ⟨HI6.out,HL1.out.y,HL1.out.t,HC6.out,HL1.out.yl,HL1.out.tl⟩).1
   case rest=>
    obtain⟨HEV7,HR7⟩:=hcut;clear HEV5 HR5 HB B i6 d0 d1 d2 d3 d4 d5 d6 HL;rename World=>w7
    have hCF:=zkW s x;have HVL:Hid (VLen (z8 s x)):=zzH ⟨zzY hCF.2.2 HO.out.len.x,by rw [hCF.1];exact HO.out.len.y,by rw [hCF.2.1];exact HO.out.len.t⟩;have HNV:Hid (zdj u i s x=zbb i (z8 s x) (zeM (z8 s x) x rv) x.op x.n x.to (zB x)):=zzH (by rw [HRV.out];exact zoh u i s x);have HTV:Hid (toV s x=zbM (z8 s x) x.op):=zzH (zqv s x);have HSP:Hid (x.op=9\/x.op=10->0<x.src.length/\((zB x).kind=1->0<=(zB x).n/\(zB x).n<=255)/\((zB x).kind=2->0<=(zB x).n/\(zB x).n<(z8 s x).y.length)):=zzH (by rw [hCF.1];exact HE.out.srcp);have HDY:Hid (x.dst.kind=2->0<=x.dst.n/\x.dst.n<(z8 s x).y.length):=zzH (by rw [hCF.1];exact HE.out.dsty);have HTU:=zzH HE.out.tup;have HFR:=zzH HE.out.frm;have HTT:Hid (x.op=29->(z8 s x).tries≠ []):=zzH (by rw [hCF.2.1];exact HE.out.tri);generalize z8 s x=c at *;clear hCF;obtain⟨xo,xc,yo,yc,to',tc,-,⟨d0,d1,d2,d3,d4,d5,d6⟩,hL⟩:=HEV7.out.s.seven2;have HL:=zzH hL;clear hL;obtain⟨_,_,_,_,_,_,hr3,-⟩:=HEV7.out.n;obtain⟨_,_,_,_,_,_,hr4,-⟩:=HEV7.out.t;have H3:=zzH hr3;have H4:=zzH hr4;clear hr3 hr4;go_upto_region 8 with fail;have K1:Hid (zzrSt w7.drew (w.heap.size+1) c xo xc yo yc to' tc):=zzH ⟨by simpa using d0,by simpa using d1,by simpa using d2,by simpa using d3,by simpa using d4,by simpa using d5,by simpa using d6⟩;refine zbr 4 (fun w'=>zzrSt w' (w.heap.size+1) c xo xc yo yc to' tc) (fun w'=>True) (by kernel_rfl) ⟨K1.out,trivial⟩ (fun hHeld=>?_);refine zg 0 hHeld ?_;simp only [zzX0];refine zg 1 hHeld ?_;simp only [zzX0];have S3:zzrSt (w7.drew.setRow (w.heap.size+1+1+1) (zj c xo xc yo yc to' tc)) (w.heap.size+1) c xo xc yo yc to' tc:=⟨(zzw _ _ _ ⟨w.heap.size+1,0,none⟩ (by show w.heap.size+1≠w.heap.size+1+1+1;omega)).trans K1.out.1,(zzw _ _ _ ⟨w.heap.size+1,1,none⟩ (by show w.heap.size+1≠w.heap.size+1+1+1;omega)).trans K1.out.2.1,(zzw _ _ _ ⟨w.heap.size+1,2,none⟩ (by show w.heap.size+1≠w.heap.size+1+1+1;omega)).trans K1.out.2.2.1,(zzw _ _ _ ⟨w.heap.size+1,3,none⟩ (by show w.heap.size+1≠w.heap.size+1+1+1;omega)).trans K1.out.2.2.2.1,(zzw _ _ _ ⟨w.heap.size+1,4,none⟩ (by show w.heap.size+1≠w.heap.size+1+1+1;omega)).trans K1.out.2.2.2.2.1,(zzw _ _ _ ⟨w.heap.size+1,5,none⟩ (by show w.heap.size+1≠w.heap.size+1+1+1;omega)).trans K1.out.2.2.2.2.2.1,(zzw _ _ _ ⟨w.heap.size+1,6,none⟩ (by show w.heap.size+1≠w.heap.size+1+1+1;omega)).trans K1.out.2.2.2.2.2.2⟩;have S4:zzrSt (w7.drew.setRow (w.heap.size+1+1+1+1) (zj c xo xc yo yc to' tc)) (w.heap.size+1) c xo xc yo yc to' tc:=⟨(zzw _ _ _ ⟨w.heap.size+1,0,none⟩ (by show w.heap.size+1≠w.heap.size+1+1+1+1;omega)).trans K1.out.1,(zzw _ _ _ ⟨w.heap.size+1,1,none⟩ (by show w.heap.size+1≠w.heap.size+1+1+1+1;omega)).trans K1.out.2.1,(zzw _ _ _ ⟨w.heap.size+1,2,none⟩ (by show w.heap.size+1≠w.heap.size+1+1+1+1;omega)).trans K1.out.2.2.1,(zzw _ _ _ ⟨w.heap.size+1,3,none⟩ (by show w.heap.size+1≠w.heap.size+1+1+1+1;omega)).trans K1.out.2.2.2.1,(zzw _ _ _ ⟨w.heap.size+1,4,none⟩ (by show w.heap.size+1≠w.heap.size+1+1+1+1;omega)).trans K1.out.2.2.2.2.1,(zzw _ _ _ ⟨w.heap.size+1,5,none⟩ (by show w.heap.size+1≠w.heap.size+1+1+1+1;omega)).trans K1.out.2.2.2.2.2.1,(zzw _ _ _ ⟨w.heap.size+1,6,none⟩ (by show w.heap.size+1≠w.heap.size+1+1+1+1;omega)).trans K1.out.2.2.2.2.2.2⟩;have S34:zzrSt ((w7.drew.setRow (w.heap.size+1+1+1) (zj c xo xc yo yc to' tc)).setRow (w.heap.size+1+1+1+1) (zj c xo xc yo yc to' tc)) (w.heap.size+1) c xo xc yo yc to' tc:=⟨(zzw _ _ _ ⟨w.heap.size+1,0,none⟩ (by show w.heap.size+1≠w.heap.size+1+1+1+1;omega)).trans S3.1,(zzw _ _ _ ⟨w.heap.size+1,1,none⟩ (by show w.heap.size+1≠w.heap.size+1+1+1+1;omega)).trans S3.2.1,(zzw _ _ _ ⟨w.heap.size+1,2,none⟩ (by show w.heap.size+1≠w.heap.size+1+1+1+1;omega)).trans S3.2.2.1,(zzw _ _ _ ⟨w.heap.size+1,3,none⟩ (by show w.heap.size+1≠w.heap.size+1+1+1+1;omega)).trans S3.2.2.2.1,(zzw _ _ _ ⟨w.heap.size+1,4,none⟩ (by show w.heap.size+1≠w.heap.size+1+1+1+1;omega)).trans S3.2.2.2.2.1,(zzw _ _ _ ⟨w.heap.size+1,5,none⟩ (by show w.heap.size+1≠w.heap.size+1+1+1+1;omega)).trans S3.2.2.2.2.2.1,(zzw _ _ _ ⟨w.heap.size+1,6,none⟩ (by show w.heap.size+1≠w.heap.size+1+1+1+1;omega)).trans S3.2.2.2.2.2.2⟩;refine zE 2 fun KK hK=>?_
    rw [if_pos (by rfl)];refine wp_store_row 40 (.tmp 8) (.tmp 59) rfl (w.heap.size+1+1+1) (zj c xo xc yo yc to' tc) rfl rfl 40 (zj VSt.zero _ _ _ _ _ _) H3.out (by kernel_rfl) rfl (zbU _ _ _ _ _ _ _) ?_;refine hK.out _ _ ⟨S3,trivial⟩ ?_;clear hK KK
    try simp only [zzX0]
    refine zE 3 fun KK hK=>?_
    rw [if_pos (by rfl)];refine wp_store_row 40 (.tmp 9) (.tmp 60) rfl (w.heap.size+1+1+1+1) (zj c xo xc yo yc to' tc) rfl rfl 40 (zj VSt.zero _ _ _ _ _ _) ((zzv _ _ _ _ (by omega)).trans H4.out) (by kernel_rfl) rfl (zbU _ _ _ _ _ _ _) ?_;refine hK.out _ _ ⟨S34,trivial⟩ ?_;clear hK KK
    try simp only [zzX0]
    refine zbq (by kernel_rfl) ?_ _;generalize hw8:World.setRow (World.setRow _ _ _) _ _=w8;have hbd:Below w7.heap.size w7 w7.drew:=(zzR _ _).drew;obtain⟨hev,hk⟩:=(HEV7.out.below hbd).row_n (HL.out.below hbd);obtain⟨hev2,hk2⟩:=hev.row_t ((HL.out.below hbd).keepI hk);have HEV8:Hid (EV w w8 (uRow u lo lc fo fc go gc co cc) (xRow x so sc zo zc zs zsc) c c c (zcD s)):=zzH (by rw [<-hw8];exact hev2);have HR8:Hid (w8.heap[O]?=some (.cells (zco x.op).val 93 (0,0))):=zzH (by rw [<-hw8];exact(zzv _ _ O _ (by have:=HOG.out;omega)).trans ((zzv _ _ O _ (by have:=HOG.out;omega)).trans HR7.out))
    clear hw8 hbd hev hk hev2 hk2 HEV7 HR7 H3 H4 K1 S3 S4 S34 hHeld d0 d1 d2 d3 d4 d5 d6 HL;obtain⟨H,hH⟩: ∃H,H=zcD s:=⟨_,rfl⟩;rw [<-hH]at HEV8;have HHV:=zzH hH;clear hH;obtain⟨xo,xc,yo,yc,to',tc,-,⟨d0,d1,d2,d3,d4,d5,d6⟩,hL⟩:=HEV8.out.s.seven2;have HL:=zzH hL;clear hL;have l0:w8.cell? ⟨O,0,none⟩=some (.bool (zco x.op).a):=zzq0 _ _ 0 _ _ _ HR8.out;obtain⟨da,hda⟩: ∃da,da=(zco x.op).a:=⟨_,rfl⟩;rw [<-hda]at l0;have HDA:Hid (da=false↔x.dst.kind=0):=zzH (by rw [hda,HRW.out.2.1];exact HD.out.symm);clear hda;have i1:=(zC HEV8.out.x).2.1;have i2:=(zC HEV8.out.x).2.2.1;go_upto_if 62 with fail;go_cut [] (fun wx=>Hid (EV w wx (uRow u lo lc fo fc go gc co cc) (xRow x so sc zo zc zs zsc) c (zeM c x rv) c H))
    case first=>
     cases da with
     |false=>
      have hN:zeM c x rv=c:=by unfold zeM;rw [if_neg (fun h=>h (HDA.out.1 rfl))]
      have HN:=zzH hN;clear hN;go_wp2_with fail;go_meet;rw [HN.out];exact HEV8
     |true=>
      have hk:x.dst.kind≠0:=fun h=>by have:=HDA.out.2 h;cases this
      have hN:zeM c x rv=zb6 c x.dst rv:=by unfold zeM;rw [if_pos hk]
      have HN:=zzH hN;have HPUT:=zzH (zgV c xo yo to' xc yc tc x.dst rv w8 HL.out HVL.out HE.out.dstx HDY.out);clear hN hk;go_wp2_with fail;refine HPUT.out.mono ?_;rintro e w9 ⟨⟨xo9,xc9,yo9,yc9,to9,tc9,rfl,hl9⟩,hb9⟩;have hev:=HEV8.out.below hb9;obtain⟨_,_,_,_,_,_,hr3,-⟩:=hev.n;refine zzK3 hr3 hev hl9 fun H3 HE9 HL9=>?_;clear hr3 hev hl9 hb9 HPUT;go_wp2_with (refine zzm rfl 40 (.tmp 8) (.tmp 67) rfl (w.heap.size+1+1+1) (zj (zb6 c x.dst rv) xo9 xc9 yo9 yc9 to9 tc9) rfl rfl 40 _ H3.out (by kernel_rfl) rfl (zbU _ _ _ _ _ _ _) ?_;generalize hwz:World.setRow _ _ _=wz);have HZ:Hid (EV w wz (uRow u lo lc fo fc go gc co cc) (xRow x so sc zo zc zs zsc) c (zeM c x rv) c H):=zzH (by rw [<-hwz,HN.out];exact(HE9.out.row_n HL9.out).1);clear hwz;go_meet;exact HZ
    case rest=>
     have HEV9:=hcut;clear hcut HEV8 HR8 HDA l0 i1 i2 da d0 d1 d2 d3 d4 d5 d6 HL;rename World=>w9
     generalize zeM c x rv=N at *;have i0:=(zC HEV9.out.x).1;go_upto_block 0 with fail;go_cut [] (fun wx=>Hid (EV w wx (uRow u lo lc fo fc go gc co cc) (xRow x so sc zo zc zs zsc) c (zbb i c N x.op x.n x.to (zB x)) (zbM c x.op) H))
     case first=>
      clear i0 HNV HTV HQ HRV;have HXX:Hid (x.op=x.op):=zzH rfl;generalize x.op=op at *;clear HXX;by_cases h9:op=9
      ·subst h9
       as_aux_lemma=>
       have E1:zbb i c N 9 x.n x.to (zB x)=zb6 c (zB x) (3+x.n):=by simp [zbb]
       have E2:zbM c 9=c:=by simp [zbM]
       have HE1:=zzH E1;have HE2:=zzH E2;clear E1 E2;obtain⟨xo,xc,yo,yc,to',tc,-,⟨d0,d1,d2,d3,d4,d5,d6⟩,hL⟩:=HEV9.out.s.seven2;have HL:=zzH hL;clear hL;obtain⟨i0,i1,i2,i3,i4,i5,i6,i7,i8,i9⟩:=zC HEV9.out.x;obtain⟨hs0,hp1,hp2⟩:=HSP.out (by omega);obtain⟨sb,sf,hso,hsb,q0,q1,-,-⟩:=(HSR.out.mono HEV9.out.bl fun _ _ h=>h).arg hs0;rw [hso]at i3;clear hso;rw [Nat.zero_mul,Nat.add_zero]at q0 q1;have hs0e:x.src[0]=zB x:=by unfold zB;rw [List.headD_eq_head?_getD,List.head?_eq_getElem?,zzq3 hs0];rfl
       rw [hs0e]at q0 q1;have hpi:(0:Int)<(x.src.length:Int):=by omega
       have hpn:0<x.src.length:=hs0;have htu:=HTU.out rfl;have hw:IntKind.i64.wrap (3+x.n)=3+x.n:=by rw [zzq2];omega
       clear htu;have hbd:Below w9.heap.size w9 w9.drew:=(zzR _ _).drew;have HPUT:=zzH (zgV c xo yo to' xc yc tc (zB x) (3+x.n) w9.drew (HL.out.below hbd) HVL.out hp1 hp2);have hle:=HEV9.out.le;have HX:=zzH (zzI hsb hle);generalize hag:zB x=ag at *;obtain⟨ak,an⟩:=ag;simp only at q0 q1 HPUT;clear hs0 hp1 hp2 hs0e hsb hle hbd hag;go_upto_region 13 with fail;have K1:Hid (zzrS w9.drew (w.heap.size+1) c xo xc yo yc to' tc (w9.drew.cell? ⟨w.heap.size+1+1,3,none⟩=some (.slice (some ⟨sb,sf,none⟩) x.src.length sc)/\w9.drew.cell? ⟨w.heap.size+1+1,5,none⟩=some (.int .i64 x.n)/\w9.drew.cell? ⟨sb,sf,none⟩=some (.int .i64 ak)/\w9.drew.cell? ⟨sb,sf+1,none⟩=some (.int .i64 an))):=zzH ⟨by simpa using d0,by simpa using d1,by simpa using d2,by simpa using d3,by simpa using d4,by simpa using d5,by simpa using d6,by simpa using i3,by simpa using i5,by simpa using q0,by simpa using q1⟩;refine zbr 9 (fun w'=>True) (fun w'=>zzrS w' (w.heap.size+1) c xo xc yo yc to' tc (w'.cell? ⟨w.heap.size+1+1,3,none⟩=some (.slice (some ⟨sb,sf,none⟩) x.src.length sc)/\w'.cell? ⟨w.heap.size+1+1,5,none⟩=some (.int .i64 x.n)/\w'.cell? ⟨sb,sf,none⟩=some (.int .i64 ak)/\w'.cell? ⟨sb,sf+1,none⟩=some (.int .i64 an))) (by kernel_rfl) ⟨trivial,K1.out⟩ (fun hHeld=>?_);refine zt [8] 0 hHeld ?_;simp only [zzX0];refine zg 1 hHeld ?_;simp only [zzX0];refine zt [8,4,3] 2 hHeld ?_;simp only [zzX0];refine zg 3 hHeld ?_;simp only [zzX0];refine zt [8] 4 hHeld ?_;simp only [zzX0];refine zg 5 hHeld ?_;simp only [zzX0];refine zt [8,7] 6 hHeld ?_;simp only [zzX0];refine zg 7 hHeld ?_;simp only [zzX0];refine zE 8 fun KK hK=>?_
       go_simp;refine HPUT.out.mono ?_;rintro e w5 ⟨⟨xo5,xc5,yo5,yc5,to5,tc5,rfl,hl5⟩,hb5⟩;have hbd:=(zzR w9.heap.size w9).drew.trans hb5;have K5:Hid (zzrS w5 (w.heap.size+1) c xo xc yo yc to' tc (w5.cell? ⟨w.heap.size+1+1,3,none⟩=some (.slice (some ⟨sb,sf,none⟩) x.src.length sc)/\w5.cell? ⟨w.heap.size+1+1,5,none⟩=some (.int .i64 x.n)/\w5.cell? ⟨sb,sf,none⟩=some (.int .i64 ak)/\w5.cell? ⟨sb,sf+1,none⟩=some (.int .i64 an))):=zzH ⟨(hbd.cell (p:=⟨w.heap.size+1,0,none⟩) (by show w.heap.size+1<w9.heap.size;have:=HX.out;omega)).trans d0,(hbd.cell (p:=⟨w.heap.size+1,1,none⟩) (by show w.heap.size+1<w9.heap.size;have:=HX.out;omega)).trans d1,(hbd.cell (p:=⟨w.heap.size+1,2,none⟩) (by show w.heap.size+1<w9.heap.size;have:=HX.out;omega)).trans d2,(hbd.cell (p:=⟨w.heap.size+1,3,none⟩) (by show w.heap.size+1<w9.heap.size;have:=HX.out;omega)).trans d3,(hbd.cell (p:=⟨w.heap.size+1,4,none⟩) (by show w.heap.size+1<w9.heap.size;have:=HX.out;omega)).trans d4,(hbd.cell (p:=⟨w.heap.size+1,5,none⟩) (by show w.heap.size+1<w9.heap.size;have:=HX.out;omega)).trans d5,(hbd.cell (p:=⟨w.heap.size+1,6,none⟩) (by show w.heap.size+1<w9.heap.size;have:=HX.out;omega)).trans d6,(hbd.cell (p:=⟨w.heap.size+1+1,3,none⟩) (by show w.heap.size+1+1<w9.heap.size;have:=HX.out;omega)).trans i3,(hbd.cell (p:=⟨w.heap.size+1+1,5,none⟩) (by show w.heap.size+1+1<w9.heap.size;have:=HX.out;omega)).trans i5,(hbd.cell (p:=⟨sb,sf,none⟩) (by show sb<w9.heap.size;have:=HX.out;omega)).trans q0,(hbd.cell (p:=⟨sb,sf+1,none⟩) (by show sb<w9.heap.size;have:=HX.out;omega)).trans q1⟩;have HL5:=zzH hl5;have HEV5:=zzH (HEV9.out.below hbd);obtain⟨_,_,_,_,_,_,hr3,-⟩:=HEV5.out.n;have H3:=zzH hr3;clear hl5 hb5 hbd hr3;go_wp2_with fail;refine hK.out _ _ ⟨trivial,K5.out⟩ ?_;clear hK KK
       try simp only [zzX0]
       refine zO 9 fun KK hK=>?_
       rw [if_pos (by rfl)];refine wp_store_row 40 (.tmp 8) (.tmp 80) rfl (w.heap.size+1+1+1) (zj (zb6 c ⟨ak,an⟩ (3+x.n)) xo5 xc5 yo5 yc5 to5 tc5) rfl rfl 40 _ H3.out (by kernel_rfl) rfl (zbU _ _ _ _ _ _ _) ?_;refine hK.out _ _ trivial ?_;clear hK KK
       try simp only [zzX0]
       refine zbq (by kernel_rfl) ?_ _;clear K1 K5 hHeld q0 q1 i0 i1 i2 i3 i4 i5 i6 i7 i8 i9 d0 d1 d2 d3 d4 d5 d6;generalize hwz:World.setRow _ _ _=wz;have HZ:Hid (EV w wz (uRow u lo lc fo fc go gc co cc) (xRow x so sc zo zc zs zsc) c (zb6 c ⟨ak,an⟩ (3+x.n)) c H):=zzH (by rw [<-hwz];exact(HEV5.out.row_n HL5.out).1);clear hwz;go_wp2_with fail;go_meet;exact zzH (by rw [HE1.out,HE2.out];exact HZ.out)
      have t9:(op==9)=false:=zzB.2 h9;by_cases h10:op=10
      ·subst h10
       as_aux_lemma=>
       have E1:zbb i c N 10 x.n x.to (zB x)=zb6 c (zB x) 2:=by simp [zbb]
       have E2:zbM c 10=c:=by simp [zbM]
       have HE1:=zzH E1;have HE2:=zzH E2;clear E1 E2;obtain⟨xo,xc,yo,yc,to',tc,-,⟨d0,d1,d2,d3,d4,d5,d6⟩,hL⟩:=HEV9.out.s.seven2;have HL:=zzH hL;clear hL;obtain⟨i0,i1,i2,i3,i4,i5,i6,i7,i8,i9⟩:=zC HEV9.out.x;obtain⟨hs0,hp1,hp2⟩:=HSP.out (by omega);obtain⟨sb,sf,hso,hsb,q0,q1,-,-⟩:=(HSR.out.mono HEV9.out.bl fun _ _ h=>h).arg hs0;rw [hso]at i3;clear hso;rw [Nat.zero_mul,Nat.add_zero]at q0 q1;have hs0e:x.src[0]=zB x:=by unfold zB;rw [List.headD_eq_head?_getD,List.head?_eq_getElem?,zzq3 hs0];rfl
       rw [hs0e]at q0 q1;have hpi:(0:Int)<(x.src.length:Int):=by omega
       have hpn:0<x.src.length:=hs0;have hbd:Below w9.heap.size w9 w9.drew:=(zzR _ _).drew;have HPUT:=zzH (zgV c xo yo to' xc yc tc (zB x) 2 w9.drew (HL.out.below hbd) HVL.out hp1 hp2);have hle:=HEV9.out.le;have HX:=zzH (zzI hsb hle);generalize hag:zB x=ag at *;obtain⟨ak,an⟩:=ag;simp only at q0 q1 HPUT;clear hs0 hp1 hp2 hs0e hsb hle hbd hag;go_upto_region 15 with fail;have K1:Hid (zzrS w9.drew (w.heap.size+1) c xo xc yo yc to' tc (w9.drew.cell? ⟨w.heap.size+1+1,3,none⟩=some (.slice (some ⟨sb,sf,none⟩) x.src.length sc)/\w9.drew.cell? ⟨w.heap.size+1+1,5,none⟩=some (.int .i64 x.n)/\w9.drew.cell? ⟨sb,sf,none⟩=some (.int .i64 ak)/\w9.drew.cell? ⟨sb,sf+1,none⟩=some (.int .i64 an))):=zzH ⟨by simpa using d0,by simpa using d1,by simpa using d2,by simpa using d3,by simpa using d4,by simpa using d5,by simpa using d6,by simpa using i3,by simpa using i5,by simpa using q0,by simpa using q1⟩;refine zbr 6 (fun w'=>True) (fun w'=>zzrS w' (w.heap.size+1) c xo xc yo yc to' tc (w'.cell? ⟨w.heap.size+1+1,3,none⟩=some (.slice (some ⟨sb,sf,none⟩) x.src.length sc)/\w'.cell? ⟨w.heap.size+1+1,5,none⟩=some (.int .i64 x.n)/\w'.cell? ⟨sb,sf,none⟩=some (.int .i64 ak)/\w'.cell? ⟨sb,sf+1,none⟩=some (.int .i64 an))) (by kernel_rfl) ⟨trivial,K1.out⟩ (fun hHeld=>?_);refine zt [5] 0 hHeld ?_;simp only [zzX0];refine zg 1 hHeld ?_;simp only [zzX0];refine zt [5,4,3] 2 hHeld ?_;simp only [zzX0];refine zg 3 hHeld ?_;simp only [zzX0];refine zt [5] 4 hHeld ?_;simp only [zzX0];refine zE 5 fun KK hK=>?_
       go_simp;refine HPUT.out.mono ?_;rintro e w5 ⟨⟨xo5,xc5,yo5,yc5,to5,tc5,rfl,hl5⟩,hb5⟩;have hbd:=(zzR w9.heap.size w9).drew.trans hb5;have K5:Hid (zzrS w5 (w.heap.size+1) c xo xc yo yc to' tc (w5.cell? ⟨w.heap.size+1+1,3,none⟩=some (.slice (some ⟨sb,sf,none⟩) x.src.length sc)/\w5.cell? ⟨w.heap.size+1+1,5,none⟩=some (.int .i64 x.n)/\w5.cell? ⟨sb,sf,none⟩=some (.int .i64 ak)/\w5.cell? ⟨sb,sf+1,none⟩=some (.int .i64 an))):=zzH ⟨(hbd.cell (p:=⟨w.heap.size+1,0,none⟩) (by show w.heap.size+1<w9.heap.size;have:=HX.out;omega)).trans d0,(hbd.cell (p:=⟨w.heap.size+1,1,none⟩) (by show w.heap.size+1<w9.heap.size;have:=HX.out;omega)).trans d1,(hbd.cell (p:=⟨w.heap.size+1,2,none⟩) (by show w.heap.size+1<w9.heap.size;have:=HX.out;omega)).trans d2,(hbd.cell (p:=⟨w.heap.size+1,3,none⟩) (by show w.heap.size+1<w9.heap.size;have:=HX.out;omega)).trans d3,(hbd.cell (p:=⟨w.heap.size+1,4,none⟩) (by show w.heap.size+1<w9.heap.size;have:=HX.out;omega)).trans d4,(hbd.cell (p:=⟨w.heap.size+1,5,none⟩) (by show w.heap.size+1<w9.heap.size;have:=HX.out;omega)).trans d5,(hbd.cell (p:=⟨w.heap.size+1,6,none⟩) (by show w.heap.size+1<w9.heap.size;have:=HX.out;omega)).trans d6,(hbd.cell (p:=⟨w.heap.size+1+1,3,none⟩) (by show w.heap.size+1+1<w9.heap.size;have:=HX.out;omega)).trans i3,(hbd.cell (p:=⟨w.heap.size+1+1,5,none⟩) (by show w.heap.size+1+1<w9.heap.size;have:=HX.out;omega)).trans i5,(hbd.cell (p:=⟨sb,sf,none⟩) (by show sb<w9.heap.size;have:=HX.out;omega)).trans q0,(hbd.cell (p:=⟨sb,sf+1,none⟩) (by show sb<w9.heap.size;have:=HX.out;omega)).trans q1⟩;have HL5:=zzH hl5;have HEV5:=zzH (HEV9.out.below hbd);obtain⟨_,_,_,_,_,_,hr3,-⟩:=HEV5.out.n;have H3:=zzH hr3;clear hl5 hb5 hbd hr3;go_wp2_with fail;refine hK.out _ _ ⟨trivial,K5.out⟩ ?_;clear hK KK
       try simp only [zzX0]
       refine zO 6 fun KK hK=>?_
       rw [if_pos (by rfl)];refine wp_store_row 40 (.tmp 8) (.tmp 88) rfl (w.heap.size+1+1+1) (zj (zb6 c ⟨ak,an⟩ 2) xo5 xc5 yo5 yc5 to5 tc5) rfl rfl 40 _ H3.out (by kernel_rfl) rfl (zbU _ _ _ _ _ _ _) ?_;refine hK.out _ _ trivial ?_;clear hK KK
       try simp only [zzX0]
       refine zbq (by kernel_rfl) ?_ _;clear K1 K5 hHeld q0 q1 i0 i1 i2 i3 i4 i5 i6 i7 i8 i9 d0 d1 d2 d3 d4 d5 d6;generalize hwz:World.setRow _ _ _=wz;have HZ:Hid (EV w wz (uRow u lo lc fo fc go gc co cc) (xRow x so sc zo zc zs zsc) c (zb6 c ⟨ak,an⟩ 2) c H):=zzH (by rw [<-hwz];exact(HEV5.out.row_n HL5.out).1);clear hwz;go_wp2_with fail;go_meet;exact zzH (by rw [HE1.out,HE2.out];exact HZ.out)
      have t10:(op==10)=false:=zzB.2 h10;by_cases h15:op=15
      ·subst h15
       as_aux_lemma=>
       have E1:zbb i c N 15 x.n x.to (zB x)=zci c:=by simp [zbb]
       have E2:zbM c 15=c:=by simp [zbM]
       exact zz127
      have t15:(op==15)=false:=zzB.2 h15;by_cases h16:op=16
      ·subst h16
       as_aux_lemma=>
       have E1:zbb i c N 16 x.n x.to (zB x)=zci c:=by simp [zbb]
       have E2:zbM c 16=c:=by simp [zbM]
       exact zz127
      have t16:(op==16)=false:=zzB.2 h16;by_cases h18:op=18
      ·subst h18
       as_aux_lemma=>
       have E1:zbb i c N 18 x.n x.to (zB x)=zci c:=by simp [zbb]
       have E2:zbM c 18=c:=by simp [zbM]
       exact zz127
      have t18:(op==18)=false:=zzB.2 h18;by_cases h20:op=20
      ·subst h20
       as_aux_lemma=>
       have E1:zbb i c N 20 x.n x.to (zB x)=zci c:=by simp [zbb]
       have E2:zbM c 20=c:=by simp [zbM]
       exact zz127
      have t20:(op==20)=false:=zzB.2 h20;by_cases h22:op=22
      ·subst h22
       as_aux_lemma=>
       have E1:zbb i c N 22 x.n x.to (zB x)=zci c:=by simp [zbb]
       have E2:zbM c 22=c:=by simp [zbM]
       exact zz127
      have t22:(op==22)=false:=zzB.2 h22;by_cases h24:op=24
      ·subst h24
       as_aux_lemma=>
       have E1:zbb i c N 24 x.n x.to (zB x)= {N with frame:=x.n,y:=zbY x.n}:=by simp [zbb]
       have E2:zbM c 24=c:=by simp [zbM]
       have HE1:=zzH E1;have HE2:=zzH E2;clear E1 E2;obtain⟨m,hm⟩:=zzJ (Int.le_trans (by decide:(0:Int)<=1) (HFR.out rfl).1);have hm2:=(HFR.out rfl).2;obtain⟨i0,i1,i2,i3,i4,i5,i6,i7,i8,i9⟩:=zC HEV9.out.x;rw [hm]at i5 hm2;have HM:=zzH hm;have HM2:=zzH hm2;clear hm hm2 i0 i1 i2 i3 i4 i6 i7 i8 i9;obtain⟨xoN,xcN,yoN,ycN,toN,tcN,hrN,hLN⟩:=HEV9.out.n;have HN3:=zzH hrN;have HLN:=zzH hLN;have z0:=zw hrN (k:=0) (by simp [zj]);have y0:w9.frozen? ⟨w.heap.size+1+1+1,0,none⟩=false:=zzq5 _ _ _ _ _ hrN;clear hrN hLN;go_upto_region 24 with fail;generalize hwa:World.setCell _ _ _=wa;have HEVA:Hid (EV w wa (uRow u lo lc fo fc go gc co cc) (xRow x so sc zo zc zs zsc) c {N with frame:=(m:Int)} c H):=zzH (by rw [<-hwa];exact(HEV9.out.cell_n HN3.out (X:={N with frame:=(m:Int)}) (j:=0) (v:=.int .i64 (m:Int)) (xo2:=xoN) (xc2:=xcN) (yo2:=yoN) (yc2:=ycN) (to2:=toN) (tc2:=tcN) rfl ⟨HLN.out.x,HLN.out.y,HLN.out.t,HLN.out.xl,HLN.out.yl,HLN.out.tl⟩).1);clear hwa z0 y0 i5 HN3 HLN;have i5:=(zC HEVA.out.x).2.2.2.2.2.1;rw [HM.out]at i5;go_wp2_with fail;refine(zh0 m (by have:=HM2.out;omega) wa).mono ?_;rintro e w5 ⟨⟨v5,rfl,ho5⟩,hb5⟩;obtain⟨vo,vc,rfl,hi5,hc5⟩:=ho5.ints;rw [List.length_replicate]at hc5 ⊢;refine zzK3 (HEVA.out.below hb5) hi5 hc5 fun HEV5 HI5 HC5=>?_;clear ho5 hb5 hi5 hc5 i5;obtain⟨xoN,xcN,yoN,ycN,toN,tcN,hrN,hLN⟩:=HEV5.out.n;have HN3:=zzH hrN;have HLN:=zzH hLN;have z2:=zw hrN (k:=2) (by simp [zj]);have y2:w5.frozen? ⟨w.heap.size+1+1+1,2,none⟩=false:=zzq5 _ _ _ _ _ hrN;clear hrN hLN;go_wp2_with fail;go_meet;have hX:({N with frame:=x.n,y:=zbY x.n}:VSt)= {N with frame:=(m:Int),y:=List.replicate m 1}:=by rw [HM.out];unfold zbY;rw [zzq11]
       exact zzH (by rw [HE1.out,HE2.out,hX];exact(HEV5.out.cell_n HN3.out (X:={N with frame:=(m:Int),y:=List.replicate m 1}) (xo2:=xoN) (xc2:=xcN) (yo2:=vo) (yc2:=vc) (to2:=toN) (tc2:=tcN) (by unfold zj;simp only [List.length_replicate];rfl) ⟨HLN.out.x,HI5.out,HLN.out.t,HLN.out.xl,by show(List.replicate m (1:Int)).length<=vc;rw [List.length_replicate];exact HC5.out,HLN.out.tl⟩).1)
      have t24:(op==24)=false:=zzB.2 h24;by_cases h25:op=25
      ·subst h25
       as_aux_lemma=>
       have E1:zbb i c N 25 x.n x.to (zB x)= {N with frame:= -1,y:=[]}:=by simp [zbb]
       have E2:zbM c 25=c:=by simp [zbM]
       have HE1:=zzH E1;have HE2:=zzH E2;clear E1 E2;obtain⟨xoN,xcN,yoN,ycN,toN,tcN,hrN,hLN⟩:=HEV9.out.n;have HN3:=zzH hrN;have HLN:=zzH hLN;have z0:=zw hrN (k:=0) (by simp [zj]);have y0:w9.frozen? ⟨w.heap.size+1+1+1,0,none⟩=false:=zzq5 _ _ _ _ _ hrN;have z2:=zw hrN (k:=2) (by simp [zj]);have y2:w9.frozen? ⟨w.heap.size+1+1+1,2,none⟩=false:=zzq5 _ _ _ _ _ hrN;clear hrN hLN;go_wp2_with fail;go_meet;obtain⟨h1,k1⟩:=HEV9.out.cell_n HN3.out (X:={N with frame:= -1}) (j:=0) (v:=.int .i64 (-1)) (xo2:=xoN) (xc2:=xcN) (yo2:=yoN) (yc2:=ycN) (to2:=toN) (tc2:=tcN) (rfl) ⟨HLN.out.x,HLN.out.y,HLN.out.t,HLN.out.xl,HLN.out.yl,HLN.out.tl⟩;have hr1:=zzS w9 (w.heap.size+1+1+1) 0 _ _ (.int .i64 (-1)) HN3.out;obtain⟨h2,-⟩:=h1.cell_n (Y:={N with frame:= -1}) hr1 (X:={N with frame:= -1,y:=[]}) (j:=2) (v:=.slice none 0 0) (xo2:=xoN) (xc2:=xcN) (yo2:=none) (yc2:=0) (to2:=toN) (tc2:=tcN) rfl ⟨HLN.out.x.keepI k1,.nil _ _,HLN.out.t.keepI k1,HLN.out.xl,zzL _,HLN.out.tl⟩;exact zzH (by rw [HE1.out,HE2.out];exact h2)
      have t25:(op==25)=false:=zzB.2 h25;by_cases h28:op=28
      ·subst h28
       as_aux_lemma=>
       have E1:zbb i c N 28 x.n x.to (zB x)= {N with tries:=c.tries++ [x.to]}:=by simp [zbb]
       have E2:zbM c 28=c:=by simp [zbM]
       have HE1:=zzH E1;have HE2:=zzH E2;clear E1 E2;obtain⟨xo,xc,yo,yc,to',tc,-,⟨d0,d1,d2,d3,d4,d5,d6⟩,hL⟩:=HEV9.out.s.seven2;have HL:=zzH hL;clear hL;have i4:=(zC HEV9.out.x).2.2.2.2.1;have hle:=HEV9.out.le;have HX:=zzH hle;have hb0:Below w9.heap.size w9 w9.drew:=(zzR _ _).drew;have HB0:=zzH hb0;have KD:=zzH (zzI d3 i4);have htl:=HVL.out.t;have HTL:=zzH htl;clear hle hb0 htl d0 d1 d2 d4 d5 d6;go_upto_region 29 with fail;refine zbr 10 (fun w'=>w'.cell? ⟨w.heap.size+1,3,none⟩=some (.slice to' c.tries.length tc)/\w'.cell? ⟨w.heap.size+1+1,4,none⟩=some (.int .i64 x.to)) (fun w'=>True) (by kernel_rfl) ⟨⟨(HB0.out.cell (p:=⟨w.heap.size+1,3,none⟩) (by show w.heap.size+1<w9.heap.size;have:=HX.out;omega)).trans KD.out.1,(HB0.out.cell (p:=⟨w.heap.size+1+1,4,none⟩) (by show w.heap.size+1+1<w9.heap.size;have:=HX.out;omega)).trans KD.out.2⟩,trivial⟩ (fun hHeld=>?_);refine zg 1 hHeld ?_;simp only [zzX0];refine zg 2 hHeld ?_;simp only [zzX0];refine zg 4 hHeld ?_;simp only [zzX0];refine zg 5 hHeld ?_;simp only [zzX0];clear hHeld d3 i4;refine zhx (i:=0) (j:=6) (by kernel_rfl) rfl rfl rfl rfl (fun KK hK=>?_) (fun KK hK=>?_)
       ·as_aux_lemma=>
        go_simp;generalize hWA:World.drew (World.alloc _ _)=WA;have HBA:Hid (Below w9.heap.size w9 WA):=zzH (by rw [<-hWA];exact(zzE _ _).drew);have HGA:Hid (WA.heap[w9.heap.size]?=some (.cells #[] 3 (0,0))):=zzH (by rw [<-hWA];exact zzF _ _)
        have HSZWA:Hid (WA.heap.size=w9.heap.size+1):=zzH (by rw [<-hWA];show(World.alloc w9 _).heap.size=_;simp);have HKWA:Hid (∀k,k<w9.heap.size->WA.heap[k]?=w9.heap[k]?):=zzH (fun k hk=>by rw [<-hWA];exact Below.heap_alloc _ _ k hk)
        clear hWA;refine hK.out _ _ ⟨(HBA.out.cell (p:=⟨w.heap.size+1,3,none⟩) (by show w.heap.size+1<w9.heap.size;have:=HX.out;omega)).trans KD.out.1,(HBA.out.cell (p:=⟨w.heap.size+1+1,4,none⟩) (by show w.heap.size+1+1<w9.heap.size;have:=HX.out;omega)).trans KD.out.2⟩ ?_;clear hK KK
        try simp only [zzX0]
        refine zhx (i:=3) (j:=6) (by kernel_rfl) rfl rfl rfl rfl (fun KK hK=>?_) (fun KK hK=>?_)
        ·as_aux_lemma=>
         refine zdg (ops:=#[]) (.tmp 112) (.tmp 114) rfl w9.heap.size (.slice (some ⟨w9.heap.size,0,none⟩) 0 0) ([]) rfl (zen HGA.out (zzL _)) (to') tc (c.tries) _ rfl rfl (HL.out.t.below HBA.out) HBA.out.size (by have:=HTL.out;simp;try omega) (fun v1 WB hoWB hgWB hatWB=>?_);have HBB:Hid (Below w9.heap.size w9 WB):=zzH (HBA.out.grown hgWB HBA.out.size (fun k e=>OwnI.base (zen HGA.out (zzL _)) k e));have HOWB:=zzH hoWB;have HGWB:=zzH hgWB;clear hoWB hgWB hatWB;refine hK.out _ _ ⟨(HBB.out.cell (p:=⟨w.heap.size+1,3,none⟩) (by show w.heap.size+1<w9.heap.size;have:=HX.out;omega)).trans KD.out.1,(HBB.out.cell (p:=⟨w.heap.size+1+1,4,none⟩) (by show w.heap.size+1+1<w9.heap.size;have:=HX.out;omega)).trans KD.out.2⟩ ?_;clear hK KK
         try simp only [zzX0]
         refine zE 6 fun KK hK=>?_
         rw [if_pos (by rfl)];go_simp;generalize hWA:World.alloc _ _=WC;have HBC:Hid (Below w9.heap.size w9 WC):=zzH (by rw [<-hWA];exact HBB.out.alloc HBB.out.size _);have HGC:Hid (WC.heap[WB.heap.size]?=some (.cells #[.int .i64 x.to] 3 (0,0))):=zzH (by rw [<-hWA];exact zzF _ _)
         have HSZWC:Hid (WC.heap.size=WB.heap.size+1):=zzH (by rw [<-hWA];show(World.alloc WB _).heap.size=_;simp);have HKWC:Hid (∀k,k<WB.heap.size->WC.heap[k]?=WB.heap[k]?):=zzH (fun k hk=>by rw [<-hWA];exact Below.heap_alloc _ _ k hk)
         clear hWA;refine hK.out _ _ ⟨⟨(HBC.out.cell (p:=⟨w.heap.size+1,3,none⟩) (by show w.heap.size+1<w9.heap.size;have:=HX.out;omega)).trans KD.out.1,(HBC.out.cell (p:=⟨w.heap.size+1+1,4,none⟩) (by show w.heap.size+1+1<w9.heap.size;have:=HX.out;omega)).trans KD.out.2⟩,trivial⟩ ?_;clear hK KK
         try simp only [zzX0]
         have HO1:Hid (OwnI WC w9.heap.size v1 c.tries):=zzH (by have h1:=HOWB.out;rw [List.nil_append]at h1;exact znv h1 HSZWC.out HKWC.out);refine zE 7 fun KK hK=>?_
         rw [if_pos (by rfl)];refine zdg (ops:=#[]) (.tmp 115) (.tmp 118) rfl w9.heap.size (v1) (c.tries) rfl (HO1.out) (some ⟨WB.heap.size,0,none⟩) 1 ([x.to]) _ rfl rfl (zdf HGC.out) HBC.out.size (by have:=HTL.out;simp;try omega) (fun v2 WD hoWD hgWD hatWD=>?_);have HBD:Hid (Below w9.heap.size w9 WD):=zzH (HBC.out.grown hgWD HBC.out.size (fun k e=>OwnI.base (HO1.out) k e));have HOWD:=zzH hoWD;have HGWD:=zzH hgWD;clear hoWD hgWD hatWD;obtain⟨av,cv,rfl,hi2,hc2⟩:=HOWD.out.ints;have HI2:=zzH hi2;have HC2:=zzH hc2;clear hi2 hc2;refine hK.out _ _ ⟨⟨(HBD.out.cell (p:=⟨w.heap.size+1,3,none⟩) (by show w.heap.size+1<w9.heap.size;have:=HX.out;omega)).trans KD.out.1,(HBD.out.cell (p:=⟨w.heap.size+1+1,4,none⟩) (by show w.heap.size+1+1<w9.heap.size;have:=HX.out;omega)).trans KD.out.2⟩,trivial⟩ ?_;clear hK KK
         try simp only [zzX0]
         refine zE 8 fun KK hK=>?_
         rw [if_pos (by rfl)];go_simp;refine hK.out _ _ ⟨⟨(HBD.out.cell (p:=⟨w.heap.size+1,3,none⟩) (by show w.heap.size+1<w9.heap.size;have:=HX.out;omega)).trans KD.out.1,(HBD.out.cell (p:=⟨w.heap.size+1+1,4,none⟩) (by show w.heap.size+1+1<w9.heap.size;have:=HX.out;omega)).trans KD.out.2⟩,trivial⟩ ?_;clear hK KK
         try simp only [zzX0]
         refine zE 9 fun KK hK=>?_
         rw [if_pos (by rfl)];have HEVD:=zzH (HEV9.out.below HBD.out);obtain⟨xoN,xcN,yoN,ycN,toN,tcN,hrN,hLN⟩:=HEVD.out.n;have HN3:=zzH hrN;have HLN:=zzH hLN;have z3:=zw hrN (k:=3) (by simp [zj]);have y3:WD.frozen? ⟨w.heap.size+1+1+1,3,none⟩=false:=zzq5 _ _ _ _ _ hrN;clear hrN hLN;go_simp;refine hK.out _ _ ⟨⟨(World.cell?_setCell_far WD ⟨w.heap.size+1+1+1,3,none⟩ ⟨w.heap.size+1,3,none⟩ _ (by show w.heap.size+1+1+1≠w.heap.size+1;omega)).trans (show _/\_ from⟨(HBD.out.cell (p:=⟨w.heap.size+1,3,none⟩) (by show w.heap.size+1<w9.heap.size;have:=HX.out;omega)).trans KD.out.1,(HBD.out.cell (p:=⟨w.heap.size+1+1,4,none⟩) (by show w.heap.size+1+1<w9.heap.size;have:=HX.out;omega)).trans KD.out.2⟩).1,(World.cell?_setCell_far WD ⟨w.heap.size+1+1+1,3,none⟩ ⟨w.heap.size+1+1,4,none⟩ _ (by show w.heap.size+1+1+1≠w.heap.size+1+1;omega)).trans (show _/\_ from⟨(HBD.out.cell (p:=⟨w.heap.size+1,3,none⟩) (by show w.heap.size+1<w9.heap.size;have:=HX.out;omega)).trans KD.out.1,(HBD.out.cell (p:=⟨w.heap.size+1+1,4,none⟩) (by show w.heap.size+1+1<w9.heap.size;have:=HX.out;omega)).trans KD.out.2⟩).2⟩,trivial⟩ ?_;clear hK KK
         try simp only [zzX0]
         refine zbq (by kernel_rfl) ?_ _;clear z3 y3;go_wp2_with fail;go_meet;exact zzH (by rw [HE1.out,HE2.out];exact(HEVD.out.cell_n HN3.out (X:={N with tries:=c.tries++ [x.to]}) (j:=3) (v:=.slice av (c.tries.length+1) cv) (xo2:=xoN) (xc2:=xcN) (yo2:=yoN) (yc2:=ycN) (to2:=av) (tc2:=cv) (by unfold zj;simp only [zzq12,zzq18,List.length_nil];rfl) ⟨HLN.out.x,HLN.out.y,HI2.out,HLN.out.xl,HLN.out.yl,HC2.out⟩).1)
        ·as_aux_lemma=>
         go_simp;generalize hWA:World.alloc _ _=WC;have HBC:Hid (Below w9.heap.size w9 WC):=zzH (by rw [<-hWA];exact HBA.out.alloc HBA.out.size _);have HGC:Hid (WC.heap[WA.heap.size]?=some (.cells #[.int .i64 x.to] 3 (0,0))):=zzH (by rw [<-hWA];exact zzF _ _)
         have HSZWC:Hid (WC.heap.size=WA.heap.size+1):=zzH (by rw [<-hWA];show(World.alloc WA _).heap.size=_;simp);have HKWC:Hid (∀k,k<WA.heap.size->WC.heap[k]?=WA.heap[k]?):=zzH (fun k hk=>by rw [<-hWA];exact Below.heap_alloc _ _ k hk)
         clear hWA;refine hK.out _ _ ⟨(HBC.out.cell (p:=⟨w.heap.size+1,3,none⟩) (by show w.heap.size+1<w9.heap.size;have:=HX.out;omega)).trans KD.out.1,(HBC.out.cell (p:=⟨w.heap.size+1+1,4,none⟩) (by show w.heap.size+1+1<w9.heap.size;have:=HX.out;omega)).trans KD.out.2⟩ ?_;clear hK KK
         try simp only [zzX0]
         have HGA2:Hid (WC.heap[w9.heap.size]?=some (.cells #[] 3 (0,0))):=zzH ((HKWC.out _ (zd HGA.out)).trans HGA.out)
         refine zE 3 fun KK hK=>?_
         rw [if_pos (by rfl)];refine zdg (ops:=#[]) (.tmp 112) (.tmp 114) rfl w9.heap.size (.slice (some ⟨w9.heap.size,0,none⟩) 0 0) ([]) rfl (zen HGA2.out (zzL _)) (to') tc (c.tries) _ rfl rfl (HL.out.t.below HBC.out) HBC.out.size (by have:=HTL.out;simp;try omega) (fun v1 WB hoWB hgWB hatWB=>?_);have HBB:Hid (Below w9.heap.size w9 WB):=zzH (HBC.out.grown hgWB HBC.out.size (fun k e=>OwnI.base (zen HGA2.out (zzL _)) k e));have HOWB:=zzH hoWB;have HGWB:=zzH hgWB;clear hoWB hgWB hatWB;refine hK.out _ _ ⟨⟨(HBB.out.cell (p:=⟨w.heap.size+1,3,none⟩) (by show w.heap.size+1<w9.heap.size;have:=HX.out;omega)).trans KD.out.1,(HBB.out.cell (p:=⟨w.heap.size+1+1,4,none⟩) (by show w.heap.size+1+1<w9.heap.size;have:=HX.out;omega)).trans KD.out.2⟩,trivial⟩ ?_;clear hK KK
         try simp only [zzX0]
         have HGB:Hid (WB.heap[WA.heap.size]?=some (.cells #[.int .i64 x.to] 3 (0,0))):=zzH ((HGWB.out.block _ (zd HGC.out) (fun e=>by have h1:WA.heap.size=w9.heap.size:=zzf e;have:=HSZWA.out;omega)).trans HGC.out)
         refine zE 7 fun KK hK=>?_
         rw [if_pos (by rfl)];refine zdg (ops:=#[]) (.tmp 115) (.tmp 118) rfl w9.heap.size (v1) (c.tries) rfl ((by have h1:=HOWB.out;rw [List.nil_append]at h1;exact h1)) (some ⟨WA.heap.size,0,none⟩) 1 ([x.to]) _ rfl rfl (zdf HGB.out) HBB.out.size (by have:=HTL.out;simp;try omega) (fun v2 WD hoWD hgWD hatWD=>?_);exact zz125
       ·as_aux_lemma=>
        go_simp;generalize hWA:World.drew (World.alloc _ _)=WC;have HBC:Hid (Below w9.heap.size w9 WC):=zzH (by rw [<-hWA];exact(zzE _ _).drew);have HGC:Hid (WC.heap[w9.heap.size]?=some (.cells #[.int .i64 x.to] 3 (0,0))):=zzH (by rw [<-hWA];exact zzF _ _)
        have HSZWC:Hid (WC.heap.size=w9.heap.size+1):=zzH (by rw [<-hWA];show(World.alloc w9 _).heap.size=_;simp);have HKWC:Hid (∀k,k<w9.heap.size->WC.heap[k]?=w9.heap[k]?):=zzH (fun k hk=>by rw [<-hWA];exact Below.heap_alloc _ _ k hk)
        clear hWA;refine hK.out _ _ ⟨(HBC.out.cell (p:=⟨w.heap.size+1,3,none⟩) (by show w.heap.size+1<w9.heap.size;have:=HX.out;omega)).trans KD.out.1,(HBC.out.cell (p:=⟨w.heap.size+1+1,4,none⟩) (by show w.heap.size+1+1<w9.heap.size;have:=HX.out;omega)).trans KD.out.2⟩ ?_;clear hK KK
        try simp only [zzX0]
        refine zE 0 fun KK hK=>?_
        rw [if_pos (by rfl)];go_simp;generalize hWA:World.alloc _ _=WA;have HBA:Hid (Below w9.heap.size w9 WA):=zzH (by rw [<-hWA];exact HBC.out.alloc HBC.out.size _);have HGA:Hid (WA.heap[WC.heap.size]?=some (.cells #[] 3 (0,0))):=zzH (by rw [<-hWA];exact zzF _ _)
        have HSZWA:Hid (WA.heap.size=WC.heap.size+1):=zzH (by rw [<-hWA];show(World.alloc WC _).heap.size=_;simp);have HKWA:Hid (∀k,k<WC.heap.size->WA.heap[k]?=WC.heap[k]?):=zzH (fun k hk=>by rw [<-hWA];exact Below.heap_alloc _ _ k hk)
        clear hWA;refine hK.out _ _ ⟨⟨(HBA.out.cell (p:=⟨w.heap.size+1,3,none⟩) (by show w.heap.size+1<w9.heap.size;have:=HX.out;omega)).trans KD.out.1,(HBA.out.cell (p:=⟨w.heap.size+1+1,4,none⟩) (by show w.heap.size+1+1<w9.heap.size;have:=HX.out;omega)).trans KD.out.2⟩,trivial⟩ ?_;clear hK KK
        try simp only [zzX0]
        have HGC2:Hid (WA.heap[w9.heap.size]?=some (.cells #[.int .i64 x.to] 3 (0,0))):=zzH ((HKWA.out _ (zd HGC.out)).trans HGC.out)
        refine zE 3 fun KK hK=>?_
        rw [if_pos (by rfl)];refine zdg (ops:=#[]) (.tmp 112) (.tmp 114) rfl w9.heap.size (.slice (some ⟨WC.heap.size,0,none⟩) 0 0) ([]) rfl (zen HGA.out HBC.out.size) (to') tc (c.tries) _ rfl rfl (HL.out.t.below HBA.out) HBA.out.size (by have:=HTL.out;simp;try omega) (fun v1 WB hoWB hgWB hatWB=>?_);have HBB:Hid (Below w9.heap.size w9 WB):=zzH (HBA.out.grown hgWB HBA.out.size (fun k e=>OwnI.base (zen HGA.out HBC.out.size) k e));have HOWB:=zzH hoWB;have HGWB:=zzH hgWB;clear hoWB hgWB hatWB;refine hK.out _ _ ⟨⟨(HBB.out.cell (p:=⟨w.heap.size+1,3,none⟩) (by show w.heap.size+1<w9.heap.size;have:=HX.out;omega)).trans KD.out.1,(HBB.out.cell (p:=⟨w.heap.size+1+1,4,none⟩) (by show w.heap.size+1+1<w9.heap.size;have:=HX.out;omega)).trans KD.out.2⟩,trivial⟩ ?_;clear hK KK
        try simp only [zzX0]
        have HGB:Hid (WB.heap[w9.heap.size]?=some (.cells #[.int .i64 x.to] 3 (0,0))):=zzH ((HGWB.out.block _ (zd HGC2.out) (fun e=>by have h1:w9.heap.size=WC.heap.size:=zzf e;have:=HSZWC.out;omega)).trans HGC2.out)
        refine zE 7 fun KK hK=>?_
        rw [if_pos (by rfl)];refine zdg (ops:=#[]) (.tmp 115) (.tmp 118) rfl w9.heap.size (v1) (c.tries) rfl ((by have h1:=HOWB.out;rw [List.nil_append]at h1;exact h1)) (some ⟨w9.heap.size,0,none⟩) 1 ([x.to]) _ rfl rfl (zdf HGB.out) HBB.out.size (by have:=HTL.out;simp;try omega) (fun v2 WD hoWD hgWD hatWD=>?_);exact zz125
      have t28:(op==28)=false:=zzB.2 h28;by_cases h29:op=29
      ·subst h29
       as_aux_lemma=>
       have E1:zbb i c N 29 x.n x.to (zB x)= {N with tries:=c.tries.take (c.tries.length-1)}:=by simp [zbb]
       have E2:zbM c 29=c:=by simp [zbM]
       have HE1:=zzH E1;have HE2:=zzH E2;clear E1 E2;obtain⟨xo,xc,yo,yc,to',tc,-,⟨d0,d1,d2,d3,d4,d5,d6⟩,hL⟩:=HEV9.out.s.seven2;have HL:=zzH hL;clear hL;have hne:=HTT.out rfl;obtain⟨n,hn⟩: ∃n,c.tries.length=n+1:=⟨c.tries.length-1,by have:=List.length_pos_iff.2 hne;omega⟩;obtain⟨tb,tf,hto,-,-⟩:=HL.out.t.cell (k:=n) (by omega);subst hto;have htl:=HL.out.tl;have hl1:=HVL.out.t;have hw:IntKind.i64.wrap ((c.tries.length:Int)-1)=(n:Int):=by rw [zzq2];omega
       have hI0:(0:Int)<=(n:Int):=by omega
       have hI1:(n:Int)<=(c.tries.length:Int):=by omega
       have hI2:(n:Int)<=(tc:Int):=by omega
       have HNN:=zzH hn;have HTL:=zzH htl;obtain⟨xoN,xcN,yoN,ycN,toN,tcN,hrN,hLN⟩:=HEV9.out.n;have HN3:=zzH hrN;have HLN:=zzH hLN;have z3:=zw hrN (k:=3) (by simp [zj]);have y3:w9.frozen? ⟨w.heap.size+1+1+1,3,none⟩=false:=zzq5 _ _ _ _ _ hrN;clear hrN hLN hne hn htl hl1 d0 d1 d2 d4 d5 d6;go_wp2_with fail;go_meet;have hlt:(c.tries.take (c.tries.length-1)).length=n:=by rw [List.length_take,HNN.out];omega
       exact zzH (by rw [HE1.out,HE2.out];exact(HEV9.out.cell_n HN3.out (X:={N with tries:=c.tries.take (c.tries.length-1)}) (j:=3) (v:=.slice (some ⟨tb,tf,none⟩) n tc) (xo2:=xoN) (xc2:=xcN) (yo2:=yoN) (yc2:=ycN) (to2:=some ⟨tb,tf,none⟩) (tc2:=tc) (by unfold zj;simp only [hlt];rfl) ⟨HLN.out.x,HLN.out.y,HL.out.t.take _,HLN.out.xl,HLN.out.yl,by show(c.tries.take (c.tries.length-1)).length<=tc;rw [hlt];have:=HTL.out;have:=HNN.out;omega⟩).1)
      have t29:(op==29)=false:=zzB.2 h29;by_cases h30:op=30
      ·subst h30
       as_aux_lemma=>
       have E1:zbb i c N 30 x.n x.to (zB x)= {N with mt:=true}:=by simp [zbb]
       have E2:zbM c 30=c:=by simp [zbM]
       have HE1:=zzH E1;have HE2:=zzH E2;clear E1 E2;obtain⟨xoN,xcN,yoN,ycN,toN,tcN,hrN,hLN⟩:=HEV9.out.n;have HN3:=zzH hrN;have HLN:=zzH hLN;have z4:=zw hrN (k:=4) (by simp [zj]);have y4:w9.frozen? ⟨w.heap.size+1+1+1,4,none⟩=false:=zzq5 _ _ _ _ _ hrN;clear hrN hLN;go_wp2_with fail;go_meet;exact zzH (by rw [HE1.out,HE2.out];exact(HEV9.out.cell_n HN3.out (X:={N with mt:=true}) (j:=4) (v:=.bool true) (xo2:=xoN) (xc2:=xcN) (yo2:=yoN) (yc2:=ycN) (to2:=toN) (tc2:=tcN) (rfl) ⟨HLN.out.x,HLN.out.y,HLN.out.t,HLN.out.xl,HLN.out.yl,HLN.out.tl⟩).1)
      have t30:(op==30)=false:=zzB.2 h30;by_cases h36:op=36
      ·subst h36
       as_aux_lemma=>
       have E1:zbb i c N 36 x.n x.to (zB x)= {N with recv:=1,frm:=(i:Int)}:=by simp [zbb]
       have E2:zbM c 36=c:=by simp [zbM]
       have HE1:=zzH E1;have HE2:=zzH E2;clear E1 E2;obtain⟨xoN,xcN,yoN,ycN,toN,tcN,hrN,hLN⟩:=HEV9.out.n;have HN3:=zzH hrN;have HLN:=zzH hLN;have z5:=zw hrN (k:=5) (by simp [zj]);have y5:w9.frozen? ⟨w.heap.size+1+1+1,5,none⟩=false:=zzq5 _ _ _ _ _ hrN;have z6:=zw hrN (k:=6) (by simp [zj]);have y6:w9.frozen? ⟨w.heap.size+1+1+1,6,none⟩=false:=zzq5 _ _ _ _ _ hrN;clear hrN hLN;go_wp2_with fail;go_meet;obtain⟨h1,k1⟩:=HEV9.out.cell_n HN3.out (X:={N with recv:=1}) (j:=5) (v:=.int .i64 1) (xo2:=xoN) (xc2:=xcN) (yo2:=yoN) (yc2:=ycN) (to2:=toN) (tc2:=tcN) (rfl) ⟨HLN.out.x,HLN.out.y,HLN.out.t,HLN.out.xl,HLN.out.yl,HLN.out.tl⟩;have hr1:=zzS w9 (w.heap.size+1+1+1) 5 _ _ (.int .i64 1) HN3.out;obtain⟨h2,-⟩:=h1.cell_n (Y:={N with recv:=1}) hr1 (X:={N with recv:=1,frm:=(i:Int)}) (j:=6) (v:=.int .i64 (i:Int)) (xo2:=xoN) (xc2:=xcN) (yo2:=yoN) (yc2:=ycN) (to2:=toN) (tc2:=tcN) rfl ⟨HLN.out.x.keepI k1,HLN.out.y.keepI k1,HLN.out.t.keepI k1,HLN.out.xl,HLN.out.yl,HLN.out.tl⟩;exact zzH (by rw [HE1.out,HE2.out];exact h2)
      have t36:(op==36)=false:=zzB.2 h36;by_cases h37:op=37
      ·subst h37
       as_aux_lemma=>
       have E1:zbb i c N 37 x.n x.to (zB x)=zcL c:=by simp [zbb]
       have E2:zbM c 37= {zcL c with x:=[],recv:=1}:=by simp [zbM]
       have HE1:=zzH E1;have HE2:=zzH E2;clear E1 E2;obtain⟨xo,xc,yo,yc,to',tc,-,⟨d0,d1,d2,d3,d4,d5,d6⟩,hL⟩:=HEV9.out.s.seven2;have HL:=zzH hL;clear hL;go_wp2_with fail;refine(zhg c xo yo to' xc yc tc _).mono ?_;rintro e w5 ⟨⟨g,rfl,-,hg⟩,hb5⟩;have hl5:StLs w5 (zci c) (some ⟨g,0,none⟩) 1 yo yc to' tc:=⟨ziW hg,(HL.out.below hb5).y,(HL.out.below hb5).t,zzL _,HL.out.yl,HL.out.tl⟩;have HEV5:=zzH (HEV9.out.below hb5);have HL5:=zzH hl5;obtain⟨_,_,_,_,_,_,hr3,-⟩:=HEV5.out.n;have H3:=zzH hr3;clear hr3 hl5 hb5 hg d0 d1 d2 d3 d4 d5 d6;go_upto_region 39 with(refine zzm rfl 40 (.tmp 8) (.tmp 142) rfl (w.heap.size+1+1+1) (zj (zci c) (some ⟨g,0,none⟩) 1 yo yc to' tc) rfl rfl 40 _ H3.out (by kernel_rfl) rfl (zbU _ _ _ _ _ _ _) ?_;generalize hwz:World.setRow _ _ _=wz);have HZ:Hid (EV w wz (uRow u lo lc fo fc go gc co cc) (xRow x so sc zo zc zs zsc) c (zci c) c H):=zzH (by rw [<-hwz];exact(HEV5.out.row_n HL5.out).1);clear hwz;clear HEV5 HL5 H3 HL;obtain⟨xa,xb,ya,yb,ta,tb,hrN,hLN⟩:=HZ.out.n;have HN3:=zzH hrN;have HLN:=zzH hLN;have z5:=zw hrN (k:=5) (by simp [zj]);have y5:wz.frozen? ⟨w.heap.size+1+1+1,5,none⟩=false:=zzq5 _ _ _ _ _ hrN;clear hrN hLN;go_upto_region 40 with fail;generalize hwa:World.setCell _ _ _=wa;have HEVA:Hid (EV w wa (uRow u lo lc fo fc go gc co cc) (xRow x so sc zo zc zs zsc) c {zci c with recv:=2} c H):=zzH (by rw [<-hwa];exact(HZ.out.cell_n HN3.out (X:={zci c with recv:=2}) (j:=5) (v:=.int .i64 2) (xo2:=xa) (xc2:=xb) (yo2:=ya) (yc2:=yb) (to2:=ta) (tc2:=tb) (rfl) ⟨HLN.out.x,HLN.out.y,HLN.out.t,HLN.out.xl,HLN.out.yl,HLN.out.tl⟩).1);clear hwa z5 y5 HN3 HLN HZ;obtain⟨xo,xc,yo,yc,to',tc,-,⟨d0,d1,d2,d3,d4,d5,d6⟩,hL⟩:=HEVA.out.s.seven2;have HL:=zzH hL;clear hL;have hyl:=HVL.out.y;go_wp2_with fail;refine(zh0 c.y.length (by omega) wa).mono ?_;rintro e w5 ⟨⟨v5,rfl,ho5⟩,hb5⟩;obtain⟨vo,vc,rfl,hi5,hc5⟩:=ho5.ints;rw [List.length_replicate]at hc5 ⊢;refine zzK3 (HEVA.out.below hb5) hi5 hc5 fun HEV5 HI5 HC5=>?_;clear ho5 hb5 hi5 hc5 HEVA hyl d0 d1 d2 d3 d4 d5 d6 HL;obtain⟨xa,xb,ya,yb,ta,tb,hrN,hLN⟩:=HEV5.out.n;have HN3:=zzH hrN;have HLN:=zzH hLN;have z2:=zw hrN (k:=2) (by simp [zj]);have y2:w5.frozen? ⟨w.heap.size+1+1+1,2,none⟩=false:=zzq5 _ _ _ _ _ hrN;clear hrN hLN;go_upto_region 41 with fail;generalize hwb:World.setCell _ _ _=wb;have HEVB:Hid (EV w wb (uRow u lo lc fo fc go gc co cc) (xRow x so sc zo zc zs zsc) c (zcL c) c H):=zzH (by rw [<-hwb];exact(HEV5.out.cell_n HN3.out (X:=(zcL c)) (j:=2) (v:=.slice vo c.y.length vc) (xo2:=xa) (xc2:=xb) (yo2:=vo) (yc2:=vc) (to2:=ta) (tc2:=tb) (by unfold zj zcL;simp only [List.length_replicate];rfl) ⟨HLN.out.x,HI5.out,HLN.out.t,HLN.out.xl,by show(List.replicate c.y.length (1:Int)).length<=vc;rw [List.length_replicate];exact HC5.out,HLN.out.tl⟩).1);clear hwb z2 y2 HN3 HLN HEV5;obtain⟨xa,xb,ya,yb,ta,tb,hrN,hLN⟩:=HEVB.out.n;have HN3:=zzH hrN;have HLN:=zzH hLN;obtain⟨_,_,_,_,_,_,hr4,-⟩:=HEVB.out.t;have H4:=zzH hr4;clear hrN hLN hr4 HI5 HC5;refine wp_region_list ?_;refine wpList_load_row rfl 40 (.tmp 8) rfl (w.heap.size+1+1+1) rfl 40 _ _ _ HN3.out Tryz.underlying40 rfl (by kernel_rfl) ?_;refine zzm rfl 40 (.tmp 9) (.tmp 149) rfl (w.heap.size+1+1+1+1) (zj (zcL c) xa xb ya yb ta tb) rfl rfl 40 _ H4.out (by kernel_rfl) rfl (zbU _ _ _ _ _ _ _) ?_;refine wpList_nil ?_;generalize hwc:World.setRow _ _ _=wc;have HEVC:Hid (EV w wc (uRow u lo lc fo fc go gc co cc) (xRow x so sc zo zc zs zsc) c (zcL c) (zcL c) H):=zzH (by rw [<-hwc];exact(HEVB.out.row_t HLN.out).1);clear hwc H4 HN3 HLN HEVB;obtain⟨xa,xb,ya,yb,ta,tb,hrN,hLN⟩:=HEVC.out.t;have HN3:=zzH hrN;have HLN:=zzH hLN;have z1:=zw hrN (k:=1) (by simp [zj]);have y1:wc.frozen? ⟨w.heap.size+1+1+1+1,1,none⟩=false:=zzq5 _ _ _ _ _ hrN;have z5:=zw hrN (k:=5) (by simp [zj]);have y5:wc.frozen? ⟨w.heap.size+1+1+1+1,5,none⟩=false:=zzq5 _ _ _ _ _ hrN;clear hrN hLN;go_wp2_with fail;go_meet;obtain⟨h1,k1⟩:=HEVC.out.cell_t HN3.out (X:={zcL c with x:=[]}) (xo2:=none) (xc2:=0) (yo2:=ya) (yc2:=yb) (to2:=ta) (tc2:=tb) (v:=.slice none 0 0) (j:=1) rfl ⟨.nil _ _,HLN.out.y,HLN.out.t,zzL _,HLN.out.yl,HLN.out.tl⟩;have hr1:=zzS wc (w.heap.size+1+1+1+1) 1 _ _ (.slice none 0 0) HN3.out;obtain⟨h2,-⟩:=h1.cell_t (Y:={zcL c with x:=[]}) hr1 (X:={zcL c with x:=[],recv:=1}) (xo2:=none) (xc2:=0) (yo2:=ya) (yc2:=yb) (to2:=ta) (tc2:=tb) (v:=.int .i64 1) (j:=5) rfl ⟨.nil _ _,HLN.out.y.keepI k1,HLN.out.t.keepI k1,zzL _,HLN.out.yl,HLN.out.tl⟩;exact zzH (by rw [HE1.out,HE2.out];exact h2)
      have t37:(op==37)=false:=zzB.2 h37;by_cases h38:op=38
      ·subst h38
       as_aux_lemma=>
       have E1:zbb i c N 38 x.n x.to (zB x)= {N with recv:=0,frm:=0}:=by simp [zbb]
       have E2:zbM c 38=c:=by simp [zbM]
       exact zz126
      have t38:(op==38)=false:=zzB.2 h38;by_cases h40:op=40
      ·subst h40
       as_aux_lemma=>
       have E1:zbb i c N 40 x.n x.to (zB x)= {N with recv:=0,frm:=0}:=by simp [zbb]
       have E2:zbM c 40=c:=by simp [zbM]
       exact zz126
      have t40:(op==40)=false:=zzB.2 h40;by_cases h39:op=39
      ·subst h39
       as_aux_lemma=>
       have E1:zbb i c N 39 x.n x.to (zB x)=N:=by simp [zbb]
       have E2:zbM c 39= {c with recv:=1}:=by simp [zbM]
       have HE1:=zzH E1;have HE2:=zzH E2;clear E1 E2;obtain⟨xoN,xcN,yoN,ycN,toN,tcN,hrN,hLN⟩:=HEV9.out.t;have HN3:=zzH hrN;have HLN:=zzH hLN;have z5:=zw hrN (k:=5) (by simp [zj]);have y5:w9.frozen? ⟨w.heap.size+1+1+1+1,5,none⟩=false:=zzq5 _ _ _ _ _ hrN;clear hrN hLN;go_wp2_with fail;go_meet;exact zzH (by rw [HE1.out,HE2.out];exact(HEV9.out.cell_t HN3.out (X:={c with recv:=1}) (j:=5) (v:=.int .i64 1) (xo2:=xoN) (xc2:=xcN) (yo2:=yoN) (yc2:=ycN) (to2:=toN) (tc2:=tcN) (rfl) ⟨HLN.out.x,HLN.out.y,HLN.out.t,HLN.out.xl,HLN.out.yl,HLN.out.tl⟩).1)
      have t39:(op==39)=false:=zzB.2 h39;have E1:zbb i c N op x.n x.to (zB x)=N:=by simp [zbb,h9,h10,h15,h16,h18,h20,h22,h24,h25,h28,h29,h30,h36,h37,h38,h40,h39]
      have E2:zbM c op=c:=by simp [zbM,h37,h39]
      have HE1:=zzH E1;have HE2:=zzH E2;clear E1 E2 h9 h10 h15 h16 h18 h20 h22 h24 h25 h28 h29 h30 h36 h37 h38 h40 h39;go_wp2_with fail;go_meet;exact zzH (by rw [HE1.out,HE2.out];exact HEV9.out)
     case rest=>
      have HEVF:=hcut;clear hcut HEV9 i0;rename World=>wf
      rw [<-HNV.out,<-HTV.out]at HEVF;obtain⟨xo,xc,yo,yc,to',tc,r3,hl3⟩:=HEVF.out.n;obtain⟨xo2,xc2,yo2,yc2,to2,tc2,r4,hl4⟩:=HEVF.out.t;obtain⟨xo3,xc3,yo3,yc3,to3,tc3,r5,hl5⟩:=HEVF.out.h;refine zzK6 r3 r4 r5 hl3 hl4 hl5 fun H3 H4 H5 HL3 HL4 HL5=>?_;clear r3 r4 r5 hl3 hl4 hl5;obtain⟨NV,hNV⟩: ∃NV,NV=zdj u i s x:=⟨_,rfl⟩;obtain⟨TV,hTV⟩: ∃TV,TV=toV s x:=⟨_,rfl⟩;rw [<-hNV]at HEVF H3 HL3;rw [<-hTV]at HEVF H4 HL4;have HNV2:=zzH hNV;have HTV2:=zzH hTV;clear hNV hTV HNV HTV;go_upto_region 50 with fail;refine zbr 6 (fun w'=>w'.heap[w.heap.size+1+1+1]?=some (.cells (zj NV xo xc yo yc to' tc) 40 (0,0))/\w'.heap[w.heap.size+1+1+1+1]?=some (.cells (zj TV xo2 xc2 yo2 yc2 to2 tc2) 40 (0,0))/\w'.heap[w.heap.size+1+1+1+1+1]?=some (.cells (zj H xo3 xc3 yo3 yc3 to3 tc3) 40 (0,0))) (fun w'=>True) (by kernel_rfl) ⟨⟨H3.out,H4.out,H5.out⟩,trivial⟩ (fun hHeld=>?_)
      refine zet (i:=0) (v:=.agg (zj NV xo xc yo yc to' tc)) rfl (by kernel_rfl) (by kernel_rfl) (by kernel_rfl) (by kernel_rfl) (fun _ _ _ h=>h) (Or.inl ⟨by rfl,fun w' hS=>zeU 40 (.tmp 8) rfl (w.heap.size+1+1+1) rfl 40 _ _ _ hS.1 Tryz.underlying40 rfl (by kernel_rfl)⟩) hHeld ?_;simp only [zzX0];refine zet (i:=1) (v:=.agg (zj TV xo2 xc2 yo2 yc2 to2 tc2)) rfl (by kernel_rfl) (by kernel_rfl) (by kernel_rfl) (by kernel_rfl) (fun _ _ _ h=>h) (Or.inl ⟨by rfl,fun w' hS=>zeU 40 (.tmp 9) rfl (w.heap.size+1+1+1+1) rfl 40 _ _ _ hS.2.1 Tryz.underlying40 rfl (by kernel_rfl)⟩) hHeld ?_;simp only [zzX0];refine zet (i:=2) (v:=.agg (zj H xo3 xc3 yo3 yc3 to3 tc3)) rfl (by kernel_rfl) (by kernel_rfl) (by kernel_rfl) (by kernel_rfl) (fun _ _ _ h=>h) (Or.inl ⟨by rfl,fun w' hS=>zeU 40 (.tmp 10) rfl (w.heap.size+1+1+1+1+1) rfl 40 _ _ _ hS.2.2 Tryz.underlying40 rfl (by kernel_rfl)⟩) hHeld ?_;simp only [zzX0];refine zgH (listed:=#[true,true,true,false,false,false]) [3,4,5] hHeld.1 ?_ (by kernel_rfl) (fun j hj=>?_) _ _ (by kernel_rfl) (by decide) (fun _ h=>h)
      rotate_left 1
      ·rcases List.mem_cons.1 hj with rfl|hj
       ·exact⟨_,rfl,rfl,fun K hK=>wp_store_row 40 (.tmp 8) (.tmp 160) rfl (w.heap.size+1+1+1) (zj NV xo xc yo yc to' tc) rfl rfl 40 _ hHeld.1.1 (by kernel_rfl) rfl (zbU _ _ _ _ _ _ _) (by rw [zfa hHeld.1.1];exact hK)⟩
       ·rcases List.mem_cons.1 hj with rfl|hj
        ·exact⟨_,rfl,rfl,fun K hK=>wp_store_row 40 (.tmp 9) (.tmp 161) rfl (w.heap.size+1+1+1+1) (zj TV xo2 xc2 yo2 yc2 to2 tc2) rfl rfl 40 _ hHeld.1.2.1 (by kernel_rfl) rfl (zbU _ _ _ _ _ _ _) (by rw [zfa hHeld.1.2.1];exact hK)⟩
        ·rw [List.mem_singleton]at hj
         subst hj;exact⟨_,rfl,rfl,fun K hK=>wp_store_row 40 (.tmp 10) (.tmp 162) rfl (w.heap.size+1+1+1+1+1) (zj H xo3 xc3 yo3 yc3 to3 tc3) rfl rfl 40 _ hHeld.1.2.2 (by kernel_rfl) rfl (zbU _ _ _ _ _ _ _) (by rw [zfa hHeld.1.2.2];exact hK)⟩
      clear hHeld;rename_i hret;refine hret _ _ (wp_ret ?_);refine zzj (zgu rfl _ _ _ (w.heap.size+1+1+1) (w.heap.size+1+1+1+1) (w.heap.size+1+1+1+1+1) _ _ _ _ _ _ rfl rfl rfl H3.out H4.out H5.out Tryz.underlying40 (by kernel_rfl) (by kernel_rfl) (by kernel_rfl)) rfl ?_;rw [HQ.out];unfold ziE;rw [<-HNV2.out,<-HTV2.out,<-HHV.out];have hbd:Below wf.heap.size wf wf.drew:=(zzR _ _).drew;exact⟨⟨xo,xc,yo,yc,to',tc,xo2,xc2,yo2,yc2,to2,tc2,xo3,xc3,yo3,yc3,to3,tc3,rfl,HL3.out.below hbd,HL4.out.below hbd,HL5.out.below hbd⟩,HEVF.out.bl.drew⟩
theorem zol {u:RUnit} {i:Nat} {s:VSt} {x:RIns} (hs:SInv u.code.length i s) (hx:VIns u i x) (hi:i<u.code.length): ∀p∈zbL u i s x,SInv u.code.length (i+1) p.2:=by
 intro p hp;have ht:SInv u.code.length (i+1) (toV s x):=(ziX hs x).mono (Nat.le_succ i);unfold zbL at hp;rcases zzk.1 hp with hp|hp
 ·split at hp
  ·rw [List.mem_singleton.1 hp];exact ht
  ·cases hp
 rcases zzk.1 hp with hp|hp
 ·obtain⟨c,-,rfl⟩:=List.mem_map.1 hp
  exact ht
 rcases zzk.1 hp with hp|hp
 ·split at hp
  ·rw [List.mem_singleton.1 hp];exact(ziZ hs).mono (Nat.le_succ i)
  ·cases hp
 ·split at hp
  ·rw [List.mem_singleton.1 hp];exact ziC hs hx hi
  ·cases hp
theorem zoI (u:RUnit) (i:Nat) (s:VSt) (x:RIns):(zbL u i s x).length<=x.cases.length+3:=by
 unfold zbL;simp only [zzq12,List.length_map];have h: ∀(c:Prop) [Decidable c] (p:Nat × VSt),(if c then [p]else []).length<=1:=fun c _ p=>by split<;>simp
 have h1:=h (toB x.op=true/\(i:Int)<x.to) (x.to.toNat,toV s x);have h2:=h (zbu x.op=true/\s.tries≠ []) ((zcn s.tries).toNat,zcD s);have h3:=h (z7 x.op=true) (i+1,zdj u i s x);omega
theorem zfr {P:VSt->Prop}: ∀(l:List (Nat × VSt)) (K:Nat->List VSt),(∀j,∀t∈K j,P t)->(∀p∈l,P p.2)-> ∀j,∀t∈l.foldl zbd K j,P t
 |[],K,h,_=>h
 |p::l,K,h,hl=>by
  rw [List.foldl_cons];refine zfr l (zbd K p) (fun j t ht=>?_) (fun q hq=>hl q (zzh _ hq));unfold zbd at ht;split at ht
  ·rcases zzk.1 ht with ht|ht
   ·exact h j t ht
   ·rw [List.mem_singleton.1 ht];exact hl p zzg
  ·exact h j t ht
theorem zjx {n i:Nat} {l:List VSt} (h: ∀t∈l,SInv n i t) (h0:0<l.length) (hd:zbC l=0):SInv n i (zbv l):=by
 have key: ∀k,1<=k->k<=l.length->SInv n i (zbv (l.take k))/\(zbv (l.take k)).frame=l[0].frame:=by
  intro k
  induction k with
  |zero=>intro h1;omega
  |succ k ih=>
   intro _ hk;rcases Nat.eq_zero_or_pos k with e|e
   ·subst e
    cases l with
    |nil=>exact absurd h0 (Nat.lt_irrefl _)
    |cons a r=>exact⟨h a zzg,rfl⟩
   ·obtain⟨h1,h2⟩:=ih e (by omega)
    have hk':k<l.length:=by omega
    have hc:=clash_zero.1 (zgI h0 hd k hk');rw [zfX e hk'];exact⟨zgN h1 (h _ (zzM hk')) (h2.trans hc.1.symm),h2⟩
 have:=(key l.length h0 (zzL _)).1
 rwa [List.take_length]at this
section
variable {u:RUnit} {f i:Nat} {K:Nat->List VSt} {S:Nat->Option VSt}
theorem zmd (h:K i= []):zcy u (f+1) i K S=zcy u f (i+1) K S:=by
 conv=>lhs;unfold zcy
 rw [if_pos h]
theorem zhA (h:K i≠ []):zcy u (f+1) i K S=if zbC (K i)≠0 then(((i:Int),zbC (K i)),S)else if zb1 u i (zbv (K i)) (zcE u i)≠0 then(((i:Int),zb1 u i (zbv (K i)) (zcE u i)),S)
  else if zbN u i (zbv (K i)) (zcE u i) (zcw S i (zbv (K i)))≠0 then(((i:Int),zbN u i (zbv (K i)) (zcE u i) (zcw S i (zbv (K i)))),S)
  else zcy u f (i+1) ((zbL u i (zbv (K i)) (zcE u i)).foldl zbd K) (zcw S i (zbv (K i))):=by
 conv=>lhs;unfold zcy
 rw [if_neg h]
end
theorem zkp {u:RUnit} {i:Nat} (h:i<u.code.length):zcE u i=u.code[i]:=by
 unfold zcE;rw [zzq3 h];rfl
theorem zjv (nl:Nat) (x:RIns) (h:1<=x.op/\x.op<=40):zea nl x (zco x.op)=zU nl x (zD x.op).1.toNat (zD x.op).2.1.toNat (zD x.op).2.2.toNat:=by
 rw [zhN h,<-zir];have hk:x.op.toNat<41:=by omega
 have hr:zD x.op=rowT[x.op.toNat]'hk:=by unfold zD;rw [zzq3 (by exact hk)];rfl
 have:=zgM x.op.toNat hk;rw [hr,Int.toNat_of_nonneg this.2.2.1,Int.toNat_of_nonneg this.2.2.2.2.1]
theorem ziP (code:List RIns) (i:Nat) (x:RIns) (h:1<=x.op/\x.op<=40):zd4 code i x (zco x.op).g=zbK code i x (zD x.op).1.toNat:=by
 rw [zhN h];exact zj1 code i x _
theorem zkM (f:Nat) (u:RUnit) (lo fo go co:zzA) (lc fc gc cc:Nat) (w:World) (hp:UP w u lo fo go co) (hlits:SlAt w 9 (TmAt w (f+1)) lo u.lits) (hcap: ∀t∈u.lits,(zR (f+1) t:Int)<=1152921504606846976):
  Calls Tryz.prog 17 #[.agg (zzu u lo lc fo fc go gc co cc)] w fun e w'=>e= .returned (.tuple #[.int .i64 (zb8 (f+1) u),.int .i64 (zbt (f+1) u)])/\Below w.heap.size w w':=by
 unfold zzu;refine zzK3 hp hlits hcap fun HP0 HLI0 HCAP=>?_;have hcl:=hp.codeLen;clear hp hlits hcap;have hbx:=zd3 w u lo fo go co lc fc gc cc;have hba:Below w.heap.size w (w.alloc (.cells (zzu u lo lc fo fc go gc co cc) 27)):=zzE _ _;have HT:=zzH (zjJ f u lo fo go co lc fc gc cc _ (HP0.out.below hba) (HLI0.out.tms hba) HCAP.out);have EI:Hid (zb8 (f+1) u=if zP (f+1) u=true then(match zbk u u.code 0 with|some i=>(i:Int)|none=>0)else -1):=zzH rfl;have EE:Hid (zbt (f+1) u=if zP (f+1) u=true then(match zbk u u.code 0 with|some _=>6|none=>0)else 6):=zzH rfl;have HLV:Hid (zP (f+1) u=true-> ∀t∈u.lits,zM (f+1) t=true):=zzH zfJ;go_in;go_upto_region 1 with fail;generalize w.alloc (.cells (zzu u lo lc fo fc go gc co cc) 27)=W at *;refine zzK3 hba (HP0.out.below hba) (HLI0.out.tms hba) fun HBA HP HLI=>?_;clear hba HP0 HLI0;generalize hBz:w.heap.size=B at *;have HBZ:=zzH hBz;clear hBz;have HFIN:Hid (∀wx,Below W.heap.size W wx->Below B w wx):=zzH (fun wx hh=>HBA.out.trans (hh.mono (by have:=HBA.out.size;have:=HBZ.out;omega)));have HU:=zzH hbx;have z0:=hbx.c0;have z1:=hbx.c1;have z2:=hbx.c2;have z3:=hbx.c3;have z4:=hbx.c4;have z5:=hbx.c5;have hlu:=hbx.lt;clear hbx;generalize zP (f+1) u=tb at *
 cases tb with
 |false=>
  rw [if_neg (by decide)]at EI EE;go_wp2_with fail;refine HT.out.mono ?_;rintro e w5 ⟨rfl,hb5⟩;go_wp2;go_ret2;exact⟨zcP EI.out.symm EE.out.symm,by rw [HBZ.out];exact HFIN.out _ hb5⟩
 |true=>
  rw [if_pos rfl]at EI EE;have HI:Hid (zbk u u.code 0=zbk u (u.code.drop 0) 0):=zzH rfl;go_wp2_with fail;refine HT.out.mono ?_;rintro e w5 ⟨rfl,hb5⟩;have HB5:=zzH hb5;clear z0 z1 z2 z3 z4 z5 hlu;have z5:=(HU.out.below hb5).c5;clear hb5;go_wp2_with fail;go_loopw [4,5,6,7] (fun i _ _ _ wr=> ∃k:Nat,k<=u.code.length/\i= .int .i64 k/\Hid (zbk u u.code 0=zbk u (u.code.drop k) k)/\Below W.heap.size W wr) (fun i _ _ _ _=>u.code.length-(intOf i).toNat)
  case atStart=>exact⟨0,zzZ _,rfl,HI,HB5.out⟩
  case round=>
   obtain⟨k,hk,rfl,HK,hBw⟩:=hrel;rename World=>wr
   clear z5 HI HB5;have HBW:=zzH hBw;have z5:=(HU.out.below hBw).c5;have hlu:=(HU.out.below hBw).lt;clear hBw;by_cases hlt:k<u.code.length
   ·obtain⟨bc,oc,so,co',go',sc,cc',gc',hco,hxb⟩:=zdl (HP.out.below HBW.out).code hlt
    subst hco;have HST:=zzH (zi2 u hlt);have k0:=hxb.c0;have k1:=hxb.c1;have k2:=hxb.c2;have k3:=hxb.c3;have k4:=hxb.c4;have k5:=hxb.c5;have k6:=hxb.c6;have k7:=hxb.c7;have k8:=hxb.c8;have k9:=hxb.c9;have hkl:=hxb.lt;have HXB:=zzH hxb;have HINS:Hid (zem u k u.code[k]=(zdA u.code[k].op&&(zU u.lits.length u.code[k] (zD u.code[k].op).1.toNat (zD u.code[k].op).2.1.toNat (zD u.code[k].op).2.2.toNat&&(zi u.funcs.length u.funs u.code[k]&&(zbp u.code[k]&&(zbl u.lits u.code[k]&&zbK u.code k u.code[k] (zD u.code[k].op).1.toNat)))))):=zzH rfl;have HRF:Hid (1<=u.code[k].op/\u.code[k].op<=40->zea u.lits.length u.code[k] (zco u.code[k].op)=zU u.lits.length u.code[k] (zD u.code[k].op).1.toNat (zD u.code[k].op).2.1.toNat (zD u.code[k].op).2.2.toNat):=zzH (fun h=>zjv _ _ h);have HRT:Hid (1<=u.code[k].op/\u.code[k].op<=40->zd4 u.code k u.code[k] (zco u.code[k].op).g=zbK u.code k u.code[k] (zD u.code[k].op).1.toNat):=zzH (fun h=>ziP _ _ _ h);have hro:=fun wx=>zfI u.code[k].op wx
    have hbad:zem u k u.code[k]=false->zbk u u.code 0=some k:=fun e=>by rw [HK.out,HST.out,e];rfl
    have hgood:zem u k u.code[k]=true->zbk u u.code 0=zbk u (u.code.drop (k+1)) (k+1):=fun e=>by rw [HK.out,HST.out,e];rfl
    have hlx:=hxb.rsrc;have hlcs:=hxb.rcases;have hlsg:=hxb.rsegs;have hnm:=hxb.rname;have hnn:=hxb.rn;have hdk:=zzI hxb.rdk hxb.rdn;refine zzK7 (fun wx (hx:Below W.heap.size W wx) (hb:Below wr.heap.size wr wx)=>zj6 u lo fo go (some ⟨bc,oc,none⟩) lc fc gc cc u.code[k] so co' go' sc cc' gc' (zco u.code[k].op) wx HP.out.litsLen (hxb.src.mono hb fun _ _ h=>h) hdk hlx hlcs hlsg) (fun wx (hx:Below W.heap.size W wx) (hb:Below wr.heap.size wr wx)=>zj8 u lo fo go (some ⟨bc,oc,none⟩) lc fc gc cc u.code[k] so co' go' sc cc' gc' wx HP.out.funcsLen HP.out.funsLen (HP.out.below hx).funs hnn hlx) (fun wx (hx:Below W.heap.size W wx) (hb:Below wr.heap.size wr wx)=>zkV u.code[k] so co' go' sc cc' gc' wx hnm hlx hnn) (fun wx (hx:Below W.heap.size W wx) (hb:Below wr.heap.size wr wx)=>zld u lo fo go (some ⟨bc,oc,none⟩) lc fc gc cc u.code[k] so co' go' sc cc' gc' f wx HP.out.litsLen ⟨HLI.out.tms hx,fun t ht=>⟨HLV.out (by trivial) t ht,HCAP.out t ht⟩⟩ (hxb.cases.mono hb fun _ _ h=>h) (hxb.segs.mono hb fun _ _ h=>h) hlcs hlsg) (fun wx (hx:Below W.heap.size W wx) (hb:Below wr.heap.size wr wx)=>zjh u lo fo go (some ⟨bc,oc,none⟩) lc fc gc cc k (zco u.code[k].op) wx (HP.out.below hx).code hcl hlt) hbad hgood fun CF CN CM CL CT HBAD HGOOD=>?_;dsimp only [zzi,zzu]at CF CN CM CL CT;clear hbad hgood hxb HST HXB hlx hlcs hlsg hnm hnn hdk;have hXB:=fun(wx:World)=>zzF wx (.cells #[.int .i64 u.code[k].op,.int .i64 u.code[k].dst.kind,.int .i64 u.code[k].dst.n,.slice so u.code[k].src.length sc,.int .i64 u.code[k].to,.int .i64 u.code[k].n,.int .i64 u.code[k].live,.string u.code[k].name,.slice co' u.code[k].cases.length cc',.slice go' u.code[k].segs.length gc'] 47)
    have HXN:=zzH hXB;clear hXB;generalize zea u.lits.length u.code[k] (zco u.code[k].op)=b1 at *;generalize zd4 u.code k u.code[k] (zco u.code[k].op).g=b5 at *;generalize zi u.funcs.length u.funs u.code[k]=b2 at *;generalize zbp u.code[k]=b3 at *;generalize zbl u.lits u.code[k]=b4 at *;generalize zem u k u.code[k]=ib at *;have hopk:zdA u.code[k].op=true->1<=u.code[k].op/\u.code[k].op<=40:=fun h=>zza h
    have HOPK:=zzH hopk;clear hopk;generalize zU u.lits.length u.code[k] (zD u.code[k].op).1.toNat (zD u.code[k].op).2.1.toNat (zD u.code[k].op).2.2.toNat=f1 at *;generalize zbK u.code k u.code[k] (zD u.code[k].op).1.toNat=f5 at *
    have HIB:Hid (ib=(zdA u.code[k].op&&(b1&&(b2&&(b3&&(b4&&b5)))))):=zzH (by
     rw [HINS.out]
     cases h:zdA u.code[k].op with
     |false=>rfl
     |true=>rw [HRF.out (HOPK.out h),HRT.out (HOPK.out h)])
    clear HINS HRF HRT HOPK;generalize zdA u.code[k].op=b0 at *;generalize hrw:zco u.code[k].op=rw0 at *;obtain⟨ra,rb,rc,rd,re,rf,rg,rh,rlo,rhi⟩:=rw0;clear hrw;simp only [RRow.val]at hro CF CT;generalize u.code[k]=x at *;obtain⟨op,⟨dk,dn⟩,src,jt,nn,lv,nm,cases,segs⟩:=x;simp only at *;generalize src.length=sl at *;generalize cases.length=cl at *;generalize segs.length=gl at *;go_upto_region 7 with fail;have hx1:=HXN.out wr;have hxb1:Below wr.heap.size wr (wr.alloc (.cells #[.int .i64 op,.int .i64 dk,.int .i64 dn,.slice so sl sc,.int .i64 jt,.int .i64 nn,.int .i64 lv,.string nm,.slice co' cl cc',.slice go' gl gc'] 47)):=zzE _ _;generalize wr.alloc (.cells #[.int .i64 op,.int .i64 dk,.int .i64 dn,.slice so sl sc,.int .i64 jt,.int .i64 nn,.int .i64 lv,.string nm,.slice co' cl cc',.slice go' gl gc'] 47)=W1 at *;clear HXN;have HX1:=zzH hx1;have HB1:=zzH hxb1;have x0:W1.cell? ⟨wr.heap.size,0,none⟩=some (.int .i64 op):=by rw [zzq0 _ _ _ _ _ _ hx1];rfl
    have hlx1:=zd hx1;clear k0 k1 k2 k3 k4 k5 k6 k7 k8 k9 z5 hlu hkl hx1 hxb1;generalize hXz:wr.heap.size=X at *;have HXZ:=zzH hXz;clear hXz;go_wp2_with fail;refine(hro _).mono ?_;rintro e w2 ⟨rfl,hb2⟩;go_upto_region 8 with fail;have hr1:=zzF w2 (.cells #[.bool ra,.bool rb,.bool rc,.bool rd,.bool re,.bool rf,.bool rg,.bool rh,.int .i64 rlo,.int .i64 rhi] 93);have hrb1:Below w2.heap.size w2 (w2.alloc (.cells #[.bool ra,.bool rb,.bool rc,.bool rd,.bool re,.bool rf,.bool rg,.bool rh,.int .i64 rlo,.int .i64 rhi] 93)):=zzE _ _;generalize w2.alloc (.cells #[.bool ra,.bool rb,.bool rc,.bool rd,.bool re,.bool rf,.bool rg,.bool rh,.int .i64 rlo,.int .i64 rhi] 93)=W2 at *;have HR1:=zzH hr1;have HB2:Hid (Below wr.heap.size wr W2):=zzH ((show Below wr.heap.size wr W1 by rw [HXZ.out];exact HB1.out).trans ((hb2.trans (hrb1.mono hb2.size)).mono (by have:=HB1.out.size;have:=HXZ.out;omega)));have HX2:Hid (W2.heap[X]?=some (.cells #[.int .i64 op,.int .i64 dk,.int .i64 dn,.slice so sl sc,.int .i64 jt,.int .i64 nn,.int .i64 lv,.string nm,.slice co' cl cc',.slice go' gl gc'] 47 (0,0))):=zzH (((hb2.trans (hrb1.mono hb2.size)).block X hlx1).trans HX1.out)
    have HBW2:Hid (Below W.heap.size W W2):=zzH (ze HBW.out HB2.out);clear x0 hlx1 hb2 hrb1 hr1 HX1 HB1;generalize hRz:w2.heap.size=Z at *;have HRZ:=zzH hRz;clear hRz
    cases b0 with
    |false=>
     have hb:=HBAD.out HIB.out;have E1:Hid (zb8 (f+1) u=k):=zzH (by rw [EI.out,hb]);have E2:Hid (zbt (f+1) u=6):=zzH (by rw [EE.out,hb]);clear hb;go_wp2;go_ret2;exact⟨zcP E1.out.symm E2.out.symm,by rw [HBZ.out];exact HFIN.out _ (ze HBW2.out (zzR _ _))⟩
    |true=>
     have z0:=(HU.out.below HBW2.out).c0;have z1:=(HU.out.below HBW2.out).c1;have z2:=(HU.out.below HBW2.out).c2;have z3:=(HU.out.below HBW2.out).c3;have z4:=(HU.out.below HBW2.out).c4;have z5:=(HU.out.below HBW2.out).c5;have hlua:=(HU.out.below HBW2.out).lt;have qx:=HX2.out;obtain ⟨x0,x1,x2,x3,x4,x5,x6,x7,x8,x9⟩:=zzc10 qx;have hlxa:=zd qx;clear qx;have qr:=HR1.out;obtain ⟨r0,r1,r2,r3,r4,r5,r6,r7,r8,r9⟩:=zzc10 qr;have hlra:=zd qr;clear qr;go_wp2_with fail;refine(CF.out _ (ze HBW2.out (zzR _ _)) (by rw [<-HXZ.out];exact ze HB2.out (zzR _ _))).mono ?_;rintro e w10 ⟨rfl,hb10⟩;have HB10:=zzH (ze (zzR _ _) hb10);clear hb10 z0 z1 z2 z3 z4 z5 x0 x1 x2 x3 x4 x5 x6 x7 x8 x9 r0 r1 r2 r3 r4 r5 r6 r7 r8 r9
     cases b1 with
     |false=>
      have hb:=HBAD.out HIB.out;have E1:Hid (zb8 (f+1) u=k):=zzH (by rw [EI.out,hb]);have E2:Hid (zbt (f+1) u=6):=zzH (by rw [EE.out,hb]);clear hb;go_wp2;go_ret2;exact⟨zcP E1.out.symm E2.out.symm,by rw [HBZ.out];exact HFIN.out _ (ze HBW2.out HB10.out)⟩
     |true=>
      have z0:=(HU.out.below (ze HBW2.out HB10.out)).c0;have z1:=(HU.out.below (ze HBW2.out HB10.out)).c1;have z2:=(HU.out.below (ze HBW2.out HB10.out)).c2;have z3:=(HU.out.below (ze HBW2.out HB10.out)).c3;have z4:=(HU.out.below (ze HBW2.out HB10.out)).c4;have z5:=(HU.out.below (ze HBW2.out HB10.out)).c5;have hlub:=(HU.out.below (ze HBW2.out HB10.out)).lt;have qx:=(HB10.out.block X (zd HX2.out)).trans HX2.out;obtain ⟨x0,x1,x2,x3,x4,x5,x6,x7,x8,x9⟩:=zzc10 qx;have hlxb:=zd qx;clear qx;go_wp2_with fail;refine(CN.out _ (ze HBW2.out HB10.out) (by rw [<-HXZ.out];exact ze HB2.out HB10.out)).mono ?_;rintro e w11 ⟨rfl,hb11⟩;have HB11:=zzH (ze HB10.out hb11);clear hb11 z0 z1 z2 z3 z4 z5 x0 x1 x2 x3 x4 x5 x6 x7 x8 x9
      cases b2 with
      |false=>
       have hb:=HBAD.out HIB.out;have E1:Hid (zb8 (f+1) u=k):=zzH (by rw [EI.out,hb]);have E2:Hid (zbt (f+1) u=6):=zzH (by rw [EE.out,hb]);clear hb;go_wp2;go_ret2;exact⟨zcP E1.out.symm E2.out.symm,by rw [HBZ.out];exact HFIN.out _ (ze HBW2.out HB11.out)⟩
      |true=>
       have qx:=(HB11.out.block X (zd HX2.out)).trans HX2.out;obtain ⟨x0,x1,x2,x3,x4,x5,x6,x7,x8,x9⟩:=zzc10 qx;have hlxc:=zd qx;clear qx;go_wp2_with fail;refine(CM.out _ (ze HBW2.out HB11.out) (by rw [<-HXZ.out];exact ze HB2.out HB11.out)).mono ?_;rintro e w12 ⟨rfl,hb12⟩;have HB12:=zzH (ze HB11.out hb12);clear hb12 x0 x1 x2 x3 x4 x5 x6 x7 x8 x9
       cases b3 with
       |false=>
        have hb:=HBAD.out HIB.out;have E1:Hid (zb8 (f+1) u=k):=zzH (by rw [EI.out,hb]);have E2:Hid (zbt (f+1) u=6):=zzH (by rw [EE.out,hb]);clear hb;go_wp2;go_ret2;exact⟨zcP E1.out.symm E2.out.symm,by rw [HBZ.out];exact HFIN.out _ (ze HBW2.out HB12.out)⟩
       |true=>
        have z0:=(HU.out.below (ze HBW2.out HB12.out)).c0;have z1:=(HU.out.below (ze HBW2.out HB12.out)).c1;have z2:=(HU.out.below (ze HBW2.out HB12.out)).c2;have z3:=(HU.out.below (ze HBW2.out HB12.out)).c3;have z4:=(HU.out.below (ze HBW2.out HB12.out)).c4;have z5:=(HU.out.below (ze HBW2.out HB12.out)).c5;have hlud:=(HU.out.below (ze HBW2.out HB12.out)).lt;have qx:=(HB12.out.block X (zd HX2.out)).trans HX2.out;obtain ⟨x0,x1,x2,x3,x4,x5,x6,x7,x8,x9⟩:=zzc10 qx;have hlxd:=zd qx;clear qx;go_wp2_with fail;refine(CL.out _ (ze HBW2.out HB12.out) (by rw [<-HXZ.out];exact ze HB2.out HB12.out)).mono ?_;rintro e w13 ⟨rfl,hb13⟩;have HB13:=zzH (ze HB12.out hb13);clear hb13 z0 z1 z2 z3 z4 z5 x0 x1 x2 x3 x4 x5 x6 x7 x8 x9
        cases b4 with
        |false=>
         have hb:=HBAD.out HIB.out;have E1:Hid (zb8 (f+1) u=k):=zzH (by rw [EI.out,hb]);have E2:Hid (zbt (f+1) u=6):=zzH (by rw [EE.out,hb]);clear hb;go_wp2;go_ret2;exact⟨zcP E1.out.symm E2.out.symm,by rw [HBZ.out];exact HFIN.out _ (ze HBW2.out HB13.out)⟩
        |true=>
         have z0:=(HU.out.below (ze HBW2.out HB13.out)).c0;have z1:=(HU.out.below (ze HBW2.out HB13.out)).c1;have z2:=(HU.out.below (ze HBW2.out HB13.out)).c2;have z3:=(HU.out.below (ze HBW2.out HB13.out)).c3;have z4:=(HU.out.below (ze HBW2.out HB13.out)).c4;have z5:=(HU.out.below (ze HBW2.out HB13.out)).c5;have hlue:=(HU.out.below (ze HBW2.out HB13.out)).lt;have qr:=(HB13.out.block Z (zd HR1.out)).trans HR1.out;obtain ⟨r0,r1,r2,r3,r4,r5,r6,r7,r8,r9⟩:=zzc10 qr;have hlre:=zd qr;clear qr;go_wp2_with fail;refine(CT.out _ (ze HBW2.out HB13.out) (by rw [<-HXZ.out];exact ze HB2.out HB13.out)).mono ?_;rintro e w14 ⟨rfl,hb14⟩;have HB14:=zzH (ze HB13.out hb14);clear hb14 z0 z1 z2 z3 z4 z5 r0 r1 r2 r3 r4 r5 r6 r7 r8 r9
         cases b5 with
         |false=>
          have hb:=HBAD.out HIB.out;have E1:Hid (zb8 (f+1) u=k):=zzH (by rw [EI.out,hb]);have E2:Hid (zbt (f+1) u=6):=zzH (by rw [EE.out,hb]);clear hb;go_wp2;go_ret2;exact⟨zcP E1.out.symm E2.out.symm,by rw [HBZ.out];exact HFIN.out _ (ze HBW2.out HB14.out)⟩
         |true=>
          have HK2:=zzH (HGOOD.out HIB.out);go_wp2_with fail;go_roundw
          case rel=>exact⟨k+1,by omega,by go_num,HK2,ze HBW2.out HB14.out⟩
          case measure=>simp [intOf];omega
   ·have hb:zbk u u.code 0=none:=by rw [HK.out,zzq10 (by omega)];rfl
    have E1:Hid (zb8 (f+1) u=0):=zzH (by rw [EI.out,hb]);have E2:Hid (zbt (f+1) u=0):=zzH (by rw [EE.out,hb]);clear hb;go_wp2;go_ret2;exact⟨zcP E1.out.symm E2.out.symm,by rw [HBZ.out];exact HFIN.out _ HBW.out⟩
end Go.Proofs.YthajedcbgnloeaaGreatDoor
