import Derived.Test.YtepjanajflkakaaGreatDoorW07
namespace Go.Proofs.YtepjanajflkakaaGreatDoor
open Go.RowKit
set_option linter.unusedVariables false
set_option linter.unusedSimpArgs false
set_option maxRecDepth 100000
set_option maxHeartbeats 0
theorem zcf {w:World} {X k b o:Nat} {v:Value} (h:b≠X):(w.setCell ⟨X,k,none⟩ v).cell? ⟨b,o,none⟩=w.cell? ⟨b,o,none⟩:=by
 unfold World.cell?;rw [zzq3 _ _ _ _ h]
theorem zh1 {w w':World} {H:Nat} {x:Value} (h: ∀(j:Nat) (u:Value),([x]:List Value)[j]?=some u->w.cell? ((⟨H,0,none⟩:Addr).add j)=some u) (hb:Below w.heap.size w w') (hH:H<w.heap.size):
  ∀(j:Nat) (u:Value),([x]:List Value)[j]?=some u->w'.cell? ((⟨H,0,none⟩:Addr).add j)=some u:=fun j u hj=>by
 have e:(⟨H,0,none⟩:Addr).add j=⟨H,j,none⟩:=by unfold Addr.add;split<;>simp_all
 have h1:=h j u hj;rw [e]at h1 ⊢;exact(hb.cell (p:=⟨H,j,none⟩) hH).trans h1
theorem zkK {w:World} {B g c n:Nat} {l:List Int} {x:Int} (h:w.ownsRow B 3 1 (.slice (some ⟨g,0,none⟩) n c) (l.length+1) (l.map (Value.int .i64)++ [.int .i64 x])):IntsAt w (some ⟨g,0,none⟩) (l++ [x])/\(l++ [x]).length<=c:=by
 have h':OwnI w B (.slice (some ⟨g,0,none⟩) n c) (l++ [x]):=by
  unfold OwnI;rw [zzq16,List.map_append];exact h
 obtain⟨ao,c',e,h1,h2⟩:=h'.ints;injection e with e1 e2 e3;rw [e1,e3];exact⟨h1,h2⟩
def ze3 (u:RUnit) (s:VSt) (x:RIns):VSt:=if x.dst.kind≠0 then zch (zX s x) x.dst (zck u s x)else zX s x
theorem zkX (s:VSt) (x:RIns):(zX s x).y=s.y/\(zX s x).tries=s.tries/\(zX s x).x.length<=s.x.length/\(zX s x).frame=s.frame:=by
 unfold zX;split
 ·refine⟨rfl,rfl,?_,rfl⟩
  show(zt (s.x.take x.live.toNat)).length<=_;unfold zt;rw [List.length_take,List.length_take];omega
 ·exact⟨rfl,rfl,zzL _,rfl⟩
theorem VLen.cut {s:VSt} (h:VLen s) (x:RIns):VLen (zX s x):=by
 obtain⟨h1,h2,h3,h4⟩:=zkX s x;exact⟨zzY h3 h.x,by rw [h1];exact h.y,by rw [h2];exact h.t⟩
theorem zhv (E U mb p b o i:Nat) (u:RUnit) (lo fo go co:zzA) (lc fc gc cc mc:Nat) (x:RIns) (s:VSt) (so co' go':zzA) (sc cc' gc':Nat) (w:World) (hx:VCx w E U mb i u lo fo go co lc fc gc cc mc) (hi:IBox w b o x so co' go' sc cc' gc') (hs:StAt w p s) (ho:StOk s) (hl:zcv u) (he:EffOk u s x):
  Calls Tryz.prog 98 #[.pointer (some ⟨E,0,none⟩),.pointer (some ⟨p,0,none⟩),.pointer (some ⟨b,o,none⟩)] w fun e w'=>(∃bn bt,e= .returned (.tuple #[.pointer (some ⟨bn,0,none⟩),.pointer (some ⟨bt,0,none⟩)])/\StAt w' bn (zc5 u i s x)/\StAt w' bt (toV s x))/\Below w.heap.size w w':=by
 refine zzK4 hi hx hs he fun HI HX HS HE=>?_;have hres:=zhc E U mb p b o i u lo fo go co lc fc gc cc mc x s so co' go' sc cc' gc' w hx hi hs ho hl he.src1 he.srcl;have HRES:=zzH hres;have HCV:Hid (zX s x=if zcu x.op=true/\x.live<s.x.length then{s with x:=zt (s.x.take x.live.toNat)}else s):=zzH rfl;have HNN:Hid (ze3 u s x=if x.dst.kind≠0 then zch (zX s x) x.dst (zck u s x)else zX s x):=zzH rfl;have hvl:=ho.len.cut x;have hlv:=he.live;have hcy:=zkX s x;have HCY:=zzH hcy;clear hres hx hi hs he hcy;generalize hrv:zck u s x=rv at *;have HRV:=zzH hrv;clear hrv;have HRN0:Hid (zc5 u i s x=zc5 u i s x):=zzH rfl;obtain⟨RN,hrn⟩: ∃RN,RN=zc5 u i s x:=⟨_,rfl⟩;obtain⟨RT,hrt⟩: ∃RT,RT=toV s x:=⟨_,rfl⟩;rw [<-hrn,<-hrt];have HRN:=zzH hrn;have HRT:=zzH hrt;clear hrn hrt HRN0;go_in;go_wp2_with fail;refine HRES.out.mono ?_;rintro e w1 ⟨rfl,hb1⟩;refine zzK3 hb1 (HI.out.below hb1) (HS.out.below hb1) fun HB1 HI1 HS1=>?_;clear hb1 HRES;go_upto_region 2 with fail;have i0:=HI1.out.c0;have i6:=HI1.out.c6;obtain⟨xo,xc,yo,yc,to',tc,c0,c1,c2,c3,c4,c5,c6,hL⟩:=HS1.out.cells;have HL:=zzH hL;have hlim:=fun wx=>zg8 x.op wx
 generalize hlm:zcu x.op=lm at *;have HLM:=zzH hlim;clear hlim hL hlm;go_cut [33] (fun bv wx=> ∃q,wx=w1.drewN q/\bv= .bool (lm&&decide (x.live<(s.x.length:Int))))
 case first=>
  cases lm with
  |false=>
   go_quiet (exact zze (HLM.out _));go_wp2_with fail;go_meet
   case rel=>exact⟨_,rfl,rfl⟩
  |true=>
   by_cases hd:x.live<(s.x.length:Int)
   ·have t0:decide (x.live<(s.x.length:Int))=true:=zzT hd
    exact zz104
   ·have t0:decide (x.live<(s.x.length:Int))=false:=zzD hd
    exact zz104
 case rest=>
  obtain⟨q,rfl,rfl⟩:=hcut;have HB2:Hid (Below w.heap.size w (w1.drewN q)):=zzH (zg HB1.out q);clear c0 c1 c2 c3 c4 c5 c6 i0 i6 HL xo xc yo yc to' tc;generalize w1.drewN q=w2 at *;have HI2:=zzH (HI.out.below HB2.out);have HS2:=zzH (HS.out.below HB2.out);obtain⟨xo,xc,yo,yc,to',tc,c0,c1,c2,c3,c4,c5,c6,hL⟩:=HS2.out.cells;have HL:=zzH hL;have i6:=HI2.out.c6;clear hL HI1 HS1 HB1 HLM;generalize hbv:(lm&&decide (x.live<(s.x.length:Int)))=bv at *;have HBVV:=zzH hbv;clear hbv;go_upto_if 33 with fail;go_cut [1] (fun p' wx=> ∃pc,p'= .pointer (some ⟨pc,0,none⟩)/\Hid (StAt wx pc (zX s x)/\Below w.heap.size w wx))
  case first=>
   cases bv with
   |true=>
    obtain⟨rfl,hd⟩:lm=true/\x.live<(s.x.length:Int):=by have h:=HBVV.out;simpa using h
    obtain⟨lv,hlv2⟩:=zzJ hlv.1;rw [hlv2]at i6 hd hlv;have hcv:zX s x= {s with x:=zt (s.x.take lv)}:=by rw [HCV.out,if_pos ⟨rfl,by rw [hlv2];exact hd⟩,hlv2,zzq13]
    have HC2:=zzH hcv;have hlen:(s.x.take lv).length=lv:=by rw [List.length_take];omega
    obtain⟨xb,xf,hxo,-,-⟩:=HL.out.x.cell (k:=lv) (by omega);subst hxo;have e1:=zzF w2 (.cells (zA s (some ⟨xb,xf,none⟩) xc yo yc to' tc) 91);have hB:=(zzR w2.heap.size w2).alloc (zzL _) (.cells (zA s (some ⟨xb,xf,none⟩) xc yo yc to' tc) 91);change (w2.alloc (.cells #[.int .i64 s.frame,.slice (some ⟨xb,xf,none⟩) s.x.length xc,.slice yo s.y.length yc,.slice to' s.tries.length tc,.bool s.mt,.int .i64 s.recv,.int .i64 s.frm] 91)).heap[w2.heap.size]?=_ at e1
    change Below w2.heap.size w2 (w2.alloc (.cells #[.int .i64 s.frame,.slice (some ⟨xb,xf,none⟩) s.x.length xc,.slice yo s.y.length yc,.slice to' s.tries.length tc,.bool s.mt,.int .i64 s.recv,.int .i64 s.frm] 91))at hB;have hp:=HS2.out.lt;have hbb:=HI2.out.lt;have i0:=HI2.out.c6;go_upto_region 4 with fail;clear i0;have y1:=(hB.cell (p:=⟨p,1,none⟩) hp).trans c1;have y2:=(hB.cell (p:=⟨b,o+6,none⟩) hbb).trans i6;have hpn:p≠w2.heap.size:=Nat.ne_of_lt hp;have hbn:b≠w2.heap.size:=Nat.ne_of_lt hbb;generalize w2.alloc (.cells (zzs s (some ⟨xb,xf,none⟩) xc yo yc to' tc) 91)=V at *;have hz:=zb e1;have HBW:Hid (w2.heap.size<=w2.heap.size):=zzH (zzL _);generalize hZ:w2.heap.size=Z at *;have HZ:=zzH hZ;have hIx:IntsAt V.drew (some ⟨xb,xf,none⟩) (s.x.take lv):=(IntsAt.take (IntsAt.below HL.out.x (w':=V) (by rw [hZ];exact hB)) lv).heap rfl;have htr:=zd1 (s.x.take lv) (some ⟨xb,xf,none⟩) xc V.drew hIx (by unfold maxLen;omega) (by have:=HL.out.xl;omega);have hI2:=hIx.take (zbl (s.x.take lv) (s.x.take lv).length);change IntsAt _ _ (zt (s.x.take lv))at hI2;have hT2:(zt (s.x.take lv)).length<=xc:=by have:=HL.out.xl;unfold zt;rw [List.length_take];omega
    rw [hlen]at htr;refine zzK5 htr hI2 hT2 hB e1 fun HTR HI5 HT2 HBV HE1=>?_;generalize zt (s.x.take lv)=TX at *;have KS:Hid (V.drew.cell? ⟨p,1,none⟩=some (.slice (some ⟨xb,xf,none⟩) s.x.length xc)/\V.drew.cell? ⟨b,o+6,none⟩=some (.int .i64 (lv:Int))):=zzH ⟨y1,y2⟩;have hI0:(0:Int)<=(lv:Int):=by omega
    have hI1:(lv:Int)<=(xc:Int):=by have:=HL.out.xl;omega
    have hI3:(lv:Int)<=(s.x.length:Int):=by omega
    clear c0 c1 c2 c3 c4 c5 c6 htr hI2 hIx hT2 hcv hlen hZ hB hlv2;have hpV:p<V.heap.size:=by omega
    have hbV:b<V.heap.size:=by omega
    have hzc:=zm e1 (k:=1) (by simp [zA]);clear e1
    first|go_region_held3 (fun w'=>w'.cell? ⟨p,1,none⟩=some (.slice (some ⟨xb,xf,none⟩) s.x.length xc)/\w'.cell? ⟨b,o+6,none⟩=some (.int .i64 (lv:Int))) (first|with_reducible exact KS.out|with_reducible exact KS5.out|with_reducible exact KT5.out)
     ((go_at_call 131;refine HTR.out.mono ?_;rintro e w5 ⟨rfl,hb5⟩;have hr5:=(hb5.block Z hz).trans HE1.out;have HR5:=zzH hr5;have HB5:=zzH hb5;have v1:=zm hr5 (k:=1) (by simp [zA]);have v2:w5.frozen? ⟨Z,1,none⟩=false:=zzq2 _ _ _ _ _ hr5;have KS5:Hid (w5.cell? ⟨p,1,none⟩=some (.slice (some ⟨xb,xf,none⟩) s.x.length xc)/\w5.cell? ⟨b,o+6,none⟩=some (.int .i64 (lv:Int))):=zzH ⟨(hb5.cell (p:=⟨p,1,none⟩) hpV).trans y1,(hb5.cell (p:=⟨b,o+6,none⟩) hbV).trans y2⟩;have KT5:Hid ((w5.setCell ⟨Z,1,none⟩ (.slice (some ⟨xb,xf,none⟩) TX.length xc)).cell? ⟨p,1,none⟩=some (.slice (some ⟨xb,xf,none⟩) s.x.length xc)/\(w5.setCell ⟨Z,1,none⟩ (.slice (some ⟨xb,xf,none⟩) TX.length xc)).cell? ⟨b,o+6,none⟩=some (.int .i64 (lv:Int))):=zzH ⟨(zcf hpn).trans KS5.out.1,(zcf hbn).trans KS5.out.2⟩;clear hr5 hb5))|fail
    go_wp2_with fail;go_meet
    case rel=>
     have hbl:Below w2.heap.size w2 (w5.setCell ⟨Z,1,none⟩ (.slice (some ⟨xb,xf,none⟩) TX.length xc)):=by
      rw [HZ.out];exact(HBV.out.drew.trans (HB5.out.mono (zzb hz))).setCell (p:=⟨Z,1,none⟩) (zzL _) _
     refine⟨Z,rfl,zzH ⟨?_,HB2.out.trans (hbl.mono HB2.out.size)⟩⟩;rw [HC2.out];refine⟨some ⟨xb,xf,none⟩,xc,yo,yc,to',tc,zzS _ Z 1 _ _ _ HR5.out,?_⟩;exact⟨(HI5.out.below HB5.out).setFar HR5.out (by decide),HL.out.y.below hbl,HL.out.t.below hbl,HT2.out,HL.out.yl,HL.out.tl⟩
   |false=>
    have hcv:zX s x=s:=by
     rw [HCV.out,if_neg (fun g=>by
      have h:=HBVV.out;rw [g.1,decide_eq_true g.2]at h
      cases h)]
    clear c0 c1 c2 c3 c4 c5 c6 i6;go_wp2_with fail;go_meet
    case rel=>exact⟨p,rfl,zzH ⟨by rw [hcv];exact HS2.out,HB2.out⟩⟩
  case rest=>
   obtain⟨pc,rfl,HC⟩:=hcut;rename World=>w3
   have HI3:=zzH (HI.out.below HC.out.2);have j1:=HI3.out.c1;have j2:=HI3.out.c2;have hput:=zeF pc (zX s x) x.dst rv w3 HC.out.1 hvl HE.out.dstx (fun h=>by rw [HCY.out.1];exact HE.out.dsty h);have HPUT:=zzH hput;clear hput c0 c1 c2 c3 c4 c5 c6 i6 HS2 HI2 HL xo xc yo yc to' tc HBVV HB2;generalize hdk:x.dst.kind=dk at *;have HDK:=zzH hdk;clear hdk;go_upto_if 55 with fail;go_cut [6] (fun n' wx=> ∃pn,n'= .pointer (some ⟨pn,0,none⟩)/\Hid (StAt wx pn (ze3 u s x)/\StAt wx pc (zX s x)/\Below w.heap.size w wx))
   case first=>
    by_cases hd:dk=0
    ·have t0 : (dk != 0) = false := by rw [hd]; rfl
     have hnn:ze3 u s x=zX s x:=by rw [HNN.out,if_neg (by simp [hd])]
     clear hd;go_wp2_with fail;go_meet
     case rel=>exact⟨pc,rfl,zzH ⟨by rw [hnn];exact HC.out.1,HC.out⟩⟩
    ·have t0 : (dk != 0) = true := by simpa using hd
     have hnn:ze3 u s x=zch (zX s x) x.dst rv:=by rw [HNN.out,if_pos hd]
     have HN2:=zzH hnn;clear hd hnn;go_wp2_with fail;refine HPUT.out.mono ?_;rintro e w4 ⟨⟨pn,rfl,hpn,hst⟩,hb4⟩;have HST:=zzH hst;have HB4:=zzH hb4;clear hst hb4;go_wp2_with fail;go_meet
     case rel=>exact⟨pn,rfl,zzH ⟨by rw [HN2.out];exact HST.out,HC.out.1.below HB4.out,HC.out.2.trans (HB4.out.mono HC.out.2.size)⟩⟩
   case rest=>
    obtain⟨pn,rfl,HN⟩:=hcut;rename World=>w4
    clear HPUT HI3 j1 j2 HDK HNN HCV;obtain⟨xo,xc,yo,yc,to',tc,c0,c1,c2,c3,c4,c5,c6,hL⟩:=HN.out.1.cells;have HL:=zzH hL;have HC2:=zzH HN.out.2.1;generalize hNN:ze3 u s x=N at *;have HNN:=zzH hNN;clear hNN hL HC;have e1:=zzF w4 (.cells (zA N xo xc yo yc to' tc) 91);have hB:=(zzR w4.heap.size w4).alloc (zzL _) (.cells (zA N xo xc yo yc to' tc) 91);change (w4.alloc (.cells #[.int .i64 N.frame,.slice xo N.x.length xc,.slice yo N.y.length yc,.slice to' N.tries.length tc,.bool N.mt,.int .i64 N.recv,.int .i64 N.frm] 91)).heap[w4.heap.size]?=_ at e1
    change Below w4.heap.size w4 (w4.alloc (.cells #[.int .i64 N.frame,.slice xo N.x.length xc,.slice yo N.y.length yc,.slice to' N.tries.length tc,.bool N.mt,.int .i64 N.recv,.int .i64 N.frm] 91))at hB;go_upto_region 10 with fail;generalize w4.alloc (.cells (zzs N xo xc yo yc to' tc) 91)=V at *;have hz:=zb e1;have HBV:=zzH (HN.out.2.2.trans (hB.mono HN.out.2.2.size));refine zzK4 (HI.out.below HBV.out) (HX.out.below HBV.out) (HN.out.1.below hB) (HN.out.2.1.below hB) fun HIV HXV HNV HCV=>?_;have HLV:Hid (StLs V N xo xc yo yc to' tc):=zzH ⟨HL.out.x.below hB,HL.out.y.below hB,HL.out.t.below hB,HL.out.xl,HL.out.yl,HL.out.tl⟩;have hwz:w.heap.size<=w4.heap.size:=HN.out.2.2.size;have HBZ:=zzH hB;generalize hZ:w4.heap.size=Z at *;refine zzK3 hZ e1 HN.out.2.2 fun HZ HE1 HW4=>?_;have HPZ:Hid (pc<Z):=zzH (by rw [<-hZ];exact HN.out.2.1.lt);have i0:=HIV.out.c0;clear c0 c1 c2 c3 c4 c5 c6 hB HN e1 hZ
    have hfar: ∀V':World,Below Z w4 V'->Below w.heap.size w V'/\StAt V' pc (zX s x)/\StLs V' N xo xc yo yc to' tc:=fun V' h=>by
     have h':=h;rw [<-HZ.out]at h';exact⟨HW4.out.trans (h'.mono HW4.out.size),HC2.out.below h',⟨HL.out.x.below h',HL.out.y.below h',HL.out.t.below h',HL.out.xl,HL.out.yl,HL.out.tl⟩⟩
    have HFAR:=zzH hfar;clear hfar HC2 HL
    have HNX:Hid (RN=if x.op=9 then zch (zX s x) (zQ x) (3+x.n)else if x.op=10 then zch (zX s x) (zQ x) 2
     else if x.op=15\/x.op=16\/x.op=18\/x.op=20\/x.op=22 then zda (zX s x)
     else if x.op=37 then zdO (zX s x)
     else if x.op=24 then{N with frame:=x.n,y:=zbC x.n}
     else if x.op=25 then{N with frame:= -1,y:=[]}
     else if x.op=28 then{N with tries:=(zX s x).tries++ [x.to]}
     else if x.op=29 then{N with tries:=(zX s x).tries.take ((zX s x).tries.length-1)}
     else if x.op=30 then{N with mt:=true}
     else if x.op=36 then{N with recv:=1,frm:=i}
     else if x.op=38\/x.op=40 then{N with recv:=0,frm:=0}
     else N):=zzH (by rw [HRN.out,<-HNN.out];rfl)
    have HTX:Hid (RT=if x.op=37 then{zdO (zX s x)with x:=[],recv:=1}else if x.op=39 then{zX s x with recv:=1}else zX s x):=zzH (by rw [HRT.out];rfl);clear HRN HRT;have hcvl:=hvl;generalize zX s x=C at *;by_cases h9:x.op=9
    ·as_aux_lemma=>
     have HR1:Hid (RN=zch C (zQ x) (3+x.n)):=zzH (by rw [HNX.out,if_pos h9]);have HR2:Hid (RT=C):=zzH (by rw [HTX.out,if_neg (by omega),if_neg (by omega)]);obtain⟨hl0,p1,p2⟩:=HE.out.srcp (.inl h9);obtain⟨g1,g2⟩:=HE.out.tup h9;obtain⟨sb,off,hso,hsb,q0,q1,-,-⟩:=HIV.out.src.arg hl0;subst hso
     have hsrc0:zQ x=x.src[0]:=by
      exact zz84
     rw [<-hsrc0]at q0 q1;simp only [Nat.zero_mul,Nat.add_zero]at q0 q1;have hput:=zeF pc C (zQ x) (3+x.n) V.drew ((HCV.out.below (zzR _ _).drew)) hcvl p1 (fun h=>by rw [HCY.out.1];exact p2 h);have HPUT:=zzH hput;have i3:=HIV.out.c3;have i5:=HIV.out.c5;have hbV:=HIV.out.lt;have hI1:(0:Int)<(x.src.length:Int):=by omega
     have hw:IntKind.i64.wrap (3+x.n)=3+x.n:=by rw [zzq5];omega
     rw [h9]at i0;clear hput hsrc0 h9 p1 p2 HNX HTX HE;generalize zQ x=a at *;generalize x.n=xn at *;go_upto_region 13 with fail;have KS:Hid (V.drew.cell? ⟨b,o+3,none⟩=some (.slice (some ⟨sb,off,none⟩) x.src.length sc)/\V.drew.cell? ⟨b,o+5,none⟩=some (.int .i64 xn)/\V.drew.cell? ⟨sb,off,none⟩=some (.int .i64 a.kind)/\V.drew.cell? ⟨sb,off+1,none⟩=some (.int .i64 a.n)):=zzH ⟨i3,i5,q0,q1⟩
     first|go_region_held3 (fun w'=>w'.cell? ⟨b,o+3,none⟩=some (.slice (some ⟨sb,off,none⟩) x.src.length sc)/\w'.cell? ⟨b,o+5,none⟩=some (.int .i64 xn)/\w'.cell? ⟨sb,off,none⟩=some (.int .i64 a.kind)/\w'.cell? ⟨sb,off+1,none⟩=some (.int .i64 a.n)) (first|with_reducible exact KS.out|with_reducible exact KS5.out)
      ((go_at_call 137;refine HPUT.out.mono ?_;rintro e w5 ⟨⟨b5,rfl,hb5,hst5⟩,hbl5⟩;have HST5:=zzH hst5;have HBL5:=zzH hbl5;have KS5:Hid (w5.cell? ⟨b,o+3,none⟩=some (.slice (some ⟨sb,off,none⟩) x.src.length sc)/\w5.cell? ⟨b,o+5,none⟩=some (.int .i64 xn)/\w5.cell? ⟨sb,off,none⟩=some (.int .i64 a.kind)/\w5.cell? ⟨sb,off+1,none⟩=some (.int .i64 a.n)):=zzH ⟨(hbl5.cell (p:=⟨b,o+3,none⟩) hbV).trans i3,(hbl5.cell (p:=⟨b,o+5,none⟩) hbV).trans i5,(hbl5.cell (p:=⟨sb,off,none⟩) hsb).trans q0,(hbl5.cell (p:=⟨sb,off+1,none⟩) hsb).trans q1⟩;clear hst5 hbl5 hb5))|fail
     all_goals
      go_wp2;go_ret2;exact⟨⟨b5,pc,rfl,by rw [HR1.out];exact HST5.out,by rw [HR2.out];exact(HCV.out.below (zzR _ _).drew).below HBL5.out⟩,HBV.out.drew.trans (HBL5.out.mono HBV.out.size)⟩
    ·by_cases h10:x.op=10
     ·as_aux_lemma=>
      have HR1:Hid (RN=zch C (zQ x) 2):=zzH (by rw [HNX.out,if_neg h9,if_pos h10]);have HR2:Hid (RT=C):=zzH (by rw [HTX.out,if_neg (by omega),if_neg (by omega)]);obtain⟨hl0,p1,p2⟩:=HE.out.srcp (.inr h10);obtain⟨sb,off,hso,hsb,q0,q1,-,-⟩:=HIV.out.src.arg hl0;subst hso
      have hsrc0:zQ x=x.src[0]:=by
       exact zz84
      rw [<-hsrc0]at q0 q1;simp only [Nat.zero_mul,Nat.add_zero]at q0 q1;have hput:=zeF pc C (zQ x) 2 V HCV.out hcvl p1 (fun h=>by rw [HCY.out.1];exact p2 h);have HPUT:=zzH hput;have i3:=HIV.out.c3;have hI1:(0:Int)<(x.src.length:Int):=by omega
      rw [h10]at i0;clear hput hsrc0 h9 h10 p1 p2 HNX HTX HE;generalize zQ x=a at *;go_wp2_with fail;refine HPUT.out.mono ?_;rintro e w5 ⟨⟨b5,rfl,hb5,hst5⟩,hbl5⟩;go_wp2;go_ret2;exact⟨⟨b5,pc,rfl,by rw [HR1.out];exact hst5,by rw [HR2.out];exact HCV.out.below hbl5⟩,HBV.out.trans (hbl5.mono HBV.out.size)⟩
     ·by_cases ha:x.op=15\/x.op=16\/x.op=18\/x.op=20\/x.op=22
      ·as_aux_lemma=>
       have HR1:Hid (RN=zda C):=zzH (by rw [HNX.out,if_neg h9,if_neg h10,if_pos ha]);have HR2:Hid (RT=C):=zzH (by rw [HTX.out,if_neg (by omega),if_neg (by omega)]);have HAL:=zzH (zeW pc C V HCV.out);clear HNX HTX HE h9 h10;rcases ha with ha|ha|ha|ha|ha
       all_goals
        rw [ha]at i0;clear ha;go_wp2_with fail;refine HAL.out.mono ?_;rintro e w5 ⟨⟨b5,rfl,hb5,hst5⟩,hbl5⟩;go_wp2;go_ret2;exact⟨⟨b5,pc,rfl,by rw [HR1.out];exact hst5,by rw [HR2.out];exact HCV.out.below hbl5⟩,HBV.out.trans (hbl5.mono HBV.out.size)⟩
      ·by_cases hp:x.op=37
       ·as_aux_lemma=>
        have HR1:Hid (RN=zdO C):=zzH (by rw [HNX.out,if_neg h9,if_neg h10,if_neg ha,if_pos hp]);have HR2:Hid (RT=⟨C.frame,[],List.replicate C.y.length 1,C.tries,false,1,C.frm⟩):=zzH (by rw [HTX.out,if_pos hp];rfl);obtain⟨xo',xc',yo',yc',to2,tc2,c0,c1,c2,c3,c4,c5,c6,hLC⟩:=HCV.out.cells;have HAL:=zzH (zeW pc C V HCV.out);have hyl:=hcvl.y;rw [hp]at i0;clear HNX HTX HE h9 h10 ha hp hLC c0 c1 c3 c4 c5 c6;go_wp2_with fail;refine HAL.out.mono ?_;rintro e w5 ⟨⟨b5,rfl,hb5,hst5⟩,hbl5⟩;have HBL5:=zzH hbl5;have HB5:=zzH hb5;have d2:=(hbl5.cell (p:=⟨pc,2,none⟩) HCV.out.lt).trans c2;have hany:=zcS (C.y.length:Int) w5 ⟨by omega,by omega⟩;have HANY:=zzH hany;have HST5:=zzH hst5;clear hany hst5 hbl5 hb5 c2;go_wp2_with fail;refine HANY.out.mono ?_;rintro e w6 ⟨⟨ya,yk,rfl,hyi,hyk⟩,hb6⟩;rw [zdp]at hyk ⊢;obtain⟨ao6,ac6,bo6,bc6,to6,tc6,hr6,hL6⟩:=HST5.out.below hb6;refine zzK5 hr6 hL6 hyi hyk hb6 fun HR6 HL6 HYI HYK HB6=>?_;have z2:=zm hr6 (k:=2) (by simp [zA]);have y2:w6.frozen? ⟨b5,2,none⟩=false:=zzq2 _ _ _ _ _ hr6;have z5:=zm hr6 (k:=5) (by simp [zA]);have y5:w6.frozen? ⟨b5,5,none⟩=false:=zzq2 _ _ _ _ _ hr6;clear hr6 hL6 hyi hyk hb6 d2;go_upto_region 25 with fail;have hr7:=zzS _ b5 5 _ _ (.int .i64 2) (zzS _ b5 2 _ _ (.slice ya C.y.length yk) HR6.out);have hX1:Below w5.heap.size w5 ((w6.setCell ⟨b5,2,none⟩ (.slice ya C.y.length yk)).setCell ⟨b5,5,none⟩ (.int .i64 2))->True:=fun _=>trivial
        have hVV:Below V.heap.size V ((w6.setCell ⟨b5,2,none⟩ (.slice ya C.y.length yk)).setCell ⟨b5,5,none⟩ (.int .i64 2)):=((HBL5.out.trans (HB6.out.mono HBL5.out.size)).setCell (p:=⟨b5,2,none⟩) HB5.out _).setCell (p:=⟨b5,5,none⟩) HB5.out _;have hyi7:=(HYI.out.setFar (i:=2) (v:=.slice ya C.y.length yk) HR6.out (by decide)).setFar (i:=5) (v:=.int .i64 2) (zzS _ b5 2 _ _ (.slice ya C.y.length yk) HR6.out) (by decide);have hxi7:=(HL6.out.x.setFar (i:=2) (v:=.slice ya C.y.length yk) HR6.out (by decide)).setFar (i:=5) (v:=.int .i64 2) (zzS _ b5 2 _ _ (.slice ya C.y.length yk) HR6.out) (by decide);have hti7:=(HL6.out.t.setFar (i:=2) (v:=.slice ya C.y.length yk) HR6.out (by decide)).setFar (i:=5) (v:=.int .i64 2) (zzS _ b5 2 _ _ (.slice ya C.y.length yk) HR6.out) (by decide);generalize(w6.setCell ⟨b5,2,none⟩ (.slice ya C.y.length yk)).setCell ⟨b5,5,none⟩ (.int .i64 2)=X at *;clear hX1 z2 y2 z5 y5;refine zzK5 hr7 hVV hyi7 hxi7 hti7 fun HR7 HVV HYI7 HXI7 HTI7=>?_;have c0:=zm hr7 (k:=0) (by simp [zA]);have c1:=zm hr7 (k:=1) (by simp [zA]);have c2:=zm hr7 (k:=2) (by simp [zA]);have c3:=zm hr7 (k:=3) (by simp [zA]);have c4:=zm hr7 (k:=4) (by simp [zA]);have c5:=zm hr7 (k:=5) (by simp [zA]);have c6:=zm hr7 (k:=6) (by simp [zA]);change X.cell? ⟨b5,0,none⟩=some (.int .i64 C.frame)at c0;change X.cell? ⟨b5,1,none⟩=some (.slice ao6 1 ac6)at c1;change X.cell? ⟨b5,2,none⟩=some (.slice ya C.y.length yk)at c2;change X.cell? ⟨b5,3,none⟩=some (.slice to6 C.tries.length tc6)at c3;change X.cell? ⟨b5,4,none⟩=some (.bool false)at c4;change X.cell? ⟨b5,5,none⟩=some (.int .i64 2)at c5;change X.cell? ⟨b5,6,none⟩=some (.int .i64 C.frm)at c6;clear hr7 hVV hyi7 hxi7 hti7;have e8:=zzF X (.cells #[.int .i64 C.frame,.slice ao6 1 ac6,.slice ya C.y.length yk,.slice to6 C.tries.length tc6,.bool false,.int .i64 2,.int .i64 C.frm] 91);have hB8:=(zzR X.heap.size X).alloc (zzL _) (.cells #[.int .i64 C.frame,.slice ao6 1 ac6,.slice ya C.y.length yk,.slice to6 C.tries.length tc6,.bool false,.int .i64 2,.int .i64 C.frm] 91);go_upto_region 26 with fail;generalize X.alloc (.cells #[.int .i64 C.frame,.slice ao6 1 ac6,.slice ya C.y.length yk,.slice to6 C.tries.length tc6,.bool false,.int .i64 2,.int .i64 C.frm] 91)=Y at *;have v1:=zm e8 (k:=1) (by simp);have v2:Y.frozen? ⟨X.heap.size,1,none⟩=false:=zzq2 _ _ _ _ _ e8;have v3:=zm e8 (k:=5) (by simp);have v4:Y.frozen? ⟨X.heap.size,5,none⟩=false:=zzq2 _ _ _ _ _ e8;have HE8:=zzH e8;have hbl:Below X.heap.size X ((Y.setCell ⟨X.heap.size,1,none⟩ (.slice none 0 0)).setCell ⟨X.heap.size,5,none⟩ (.int .i64 1)):=(hB8.setCell (p:=⟨X.heap.size,1,none⟩) (zzL _) _).setCell (p:=⟨X.heap.size,5,none⟩) (zzL _) _;have HBL:=zzH hbl;clear hbl hB8 e8 c0 c1 c2 c3 c4 c5 c6;go_wp2;go_ret2;refine⟨⟨b5,X.heap.size,rfl,?_,?_⟩,HBV.out.trans ((HVV.out.trans (HBL.out.mono HVV.out.size)).mono HBV.out.size)⟩
        ·rw [HR1.out]
         refine StAt.below ⟨ao6,ac6,ya,yk,to6,tc6,?_,⟨HXI7.out,?_,HTI7.out,HL6.out.xl,?_,HL6.out.tl⟩⟩ HBL.out
         ·rw [HR7.out];unfold zA zdO zda;simp only [List.length_replicate];rfl
         ·have h:=HYI7.out;unfold zbC at h;rw [zzq13]at h;exact h
         ·show(List.replicate C.y.length 1).length<=yk;rw [List.length_replicate];exact HYK.out
        ·rw [HR2.out]
         refine⟨none,0,ya,yk,to6,tc6,(zzS _ _ 5 _ _ _ (zzS _ _ 1 _ _ _ HE8.out)).trans ?_,⟨.inl rfl,?_,HTI7.out.below HBL.out,zzL _,?_,HL6.out.tl⟩⟩
         ·unfold zA;simp only [List.length_replicate];rfl
         ·have h:=HYI7.out.below HBL.out;unfold zbC at h;rw [zzq13]at h;exact h
         ·show(List.replicate C.y.length 1).length<=yk;rw [List.length_replicate];exact HYK.out
       ·by_cases h24:x.op=24
        ·as_aux_lemma=>
         have HR1:Hid (RN= {N with frame:=x.n,y:=zbC x.n}):=zzH (by rw [HNX.out,if_neg h9,if_neg h10,if_neg ha,if_neg hp,if_pos h24]);have HR2:Hid (RT=C):=zzH (by rw [HTX.out,if_neg (by omega),if_neg (by omega)]);obtain⟨g1,g2⟩:=HE.out.frm h24;have hany:=zcS x.n V.drew ⟨by omega,by omega⟩;have HANY:=zzH hany;have i5:=HIV.out.c5;have hbV:=HIV.out.lt;have hbZ:b<Z:=by rw [<-HZ.out];exact zzW (zzW HI.out.lt (zzL _)) HW4.out.size
         have hbz:b≠Z:=Nat.ne_of_lt hbZ;rw [h24]at i0;clear HNX HTX HE h9 h10 ha hp h24 hany;generalize x.n=fn at *;go_upto_region 29 with fail;have KS:Hid (V.drew.cell? ⟨b,o+5,none⟩=some (.int .i64 fn)):=zzH i5
         first|go_region_held3 (fun w'=>w'.cell? ⟨b,o+5,none⟩=some (.int .i64 fn)) (first|with_reducible exact KS.out|with_reducible exact KS5.out|with_reducible exact(zcf hbz).trans KS5.out|with_reducible exact(zcf hbz).trans ((zcf hbz).trans KS5.out))
          ((go_at_call 88;refine HANY.out.mono ?_;rintro e w5 ⟨⟨ya,yk,rfl,hyi,hyk⟩,hb5⟩;have hr5:=(hb5.block Z hz).trans HE1.out;refine zzK4 hr5 hb5 hyi hyk fun HR5 HB5 HYI HYK=>?_;have v0:=zm hr5 (k:=0) (by simp [zA]);have v1:w5.frozen? ⟨Z,0,none⟩=false:=zzq2 _ _ _ _ _ hr5;have v2:=zm hr5 (k:=2) (by simp [zA]);have v3:w5.frozen? ⟨Z,2,none⟩=false:=zzq2 _ _ _ _ _ hr5;have KS5:Hid (w5.cell? ⟨b,o+5,none⟩=some (.int .i64 fn)):=zzH ((hb5.cell (p:=⟨b,o+5,none⟩) hbV).trans i5);clear hr5 hb5 hyi hyk))|fail
         all_goals
          go_wp2_with fail;have hV:Below Z w4 ((w5.setCell ⟨Z,0,none⟩ (.int .i64 fn)).setCell ⟨Z,2,none⟩ (.slice ya (zbC fn).length yk)):=((HBZ.out.drew.trans (HB5.out.mono (zzb hz))).setCell (p:=⟨Z,0,none⟩) (zzL _) _).setCell (p:=⟨Z,2,none⟩) (zzL _) _;obtain⟨k1,k2,k3⟩:=HFAR.out _ hV;refine zzK3 k1 k2 k3 fun K1 K2 K3=>?_;clear hV k1 k2 k3;go_ret2;refine⟨⟨Z,pc,rfl,?_,by rw [HR2.out];exact K2.out⟩,K1.out⟩;rw [HR1.out];refine⟨xo,xc,ya,yk,to',tc,zzS _ Z 2 _ _ _ (zzS _ Z 0 _ _ _ HR5.out),⟨K3.out.x,?_,K3.out.t,K3.out.xl,HYK.out,K3.out.tl⟩⟩;exact(HYI.out.setFar HR5.out (by decide)).setFar (zzS _ Z 0 _ _ _ HR5.out) (by decide)
        ·by_cases h25:x.op=25
         ·as_aux_lemma=>
          have HR1:Hid (RN= {N with frame:= -1,y:=[]}):=zzH (by rw [HNX.out,if_neg h9,if_neg h10,if_neg ha,if_neg hp,if_neg h24,if_pos h25]);have HR2:Hid (RT=C):=zzH (by rw [HTX.out,if_neg (by omega),if_neg (by omega)]);have z0:=zm HE1.out (k:=0) (by simp [zA]);have y0:V.frozen? ⟨Z,0,none⟩=false:=zzq2 _ _ _ _ _ HE1.out;have z2:=zm HE1.out (k:=2) (by simp [zA]);have y2:V.frozen? ⟨Z,2,none⟩=false:=zzq2 _ _ _ _ _ HE1.out;have hV:Below Z w4 ((V.setCell ⟨Z,0,none⟩ (.int .i64 (-1))).setCell ⟨Z,2,none⟩ (.slice none 0 0)):=((HBZ.out.setCell (p:=⟨Z,0,none⟩) (zzL _) (.int .i64 (-1))).setCell (p:=⟨Z,2,none⟩) (zzL _) (.slice none 0 0));obtain⟨k1,k2,k3⟩:=HFAR.out _ hV;have hr:=(zzS _ Z 2 _ _ (.slice none 0 0) (zzS _ Z 0 _ _ (.int .i64 (-1)) HE1.out));refine zzK4 k1 k2 k3 hr fun K1 K2 K3 HRR=>?_;clear hV k1 k2 k3 hr HNX HTX HE;rw [h25]at i0;clear h9 h10 ha hp h24 h25;go_wp2;go_ret2;refine⟨⟨Z,pc,rfl,?_,by rw [HR2.out];exact K2.out⟩,K1.out⟩;rw [HR1.out];exact⟨xo,xc,none,0,to',tc,HRR.out,⟨K3.out.x,.inl rfl,K3.out.t,K3.out.xl,zzL _,K3.out.tl⟩⟩
         ·by_cases h28:x.op=28
          ·as_aux_lemma=>
           have HR1:Hid (RN= {N with tries:=C.tries++ [x.to]}):=zzH (by rw [HNX.out,if_neg h9,if_neg h10,if_neg ha,if_neg hp,if_neg h24,if_neg h25,if_pos h28]);have HR2:Hid (RT=C):=zzH (by rw [HTX.out,if_neg (by omega),if_neg (by omega)]);obtain⟨xo',xc',yo',yc',to2,tc2,c0,c1,c2,c3,c4,c5,c6,hLC⟩:=HCV.out.cells;have HLC:=zzH hLC;have hl1:=hcvl.t;obtain⟨i0',hi0,hzz0,hzz1,hzz2⟩:=info_parts zeq;have hpV:=HCV.out.lt;have hbV:=HIV.out.lt;have i4:=HIV.out.c4;have hbz:b≠Z:=Nat.ne_of_lt (by rw [<-HZ.out];exact zzW (zzW HI.out.lt (zzL _)) HW4.out.size)
           have hpcZ:pc≠Z:=by
            intro e;obtain⟨_,hpc,_⟩:=HFAR.out V HBZ.out;exact absurd (HPZ.out) (by omega)
           rw [h28]at i0;clear HNX HTX HE h9 h10 ha hp h24 h25 h28 hLC c0 c1 c2 c4 c5 c6;generalize hH:V.heap.size=H at *;have HH:=zzH hH;generalize x.to=xt at *;generalize htn:C.tries.length=tn at *;have HTN:=zzH htn;have HTA:Hid (IntsAt V.drew to2 C.tries):=zzH (HLC.out.t.below (zzR _ _).drew);have HTB:Hid (IntsAt (V.alloc (.cells #[.int .i64 xt] 3)).drew to2 C.tries):=zzH (HLC.out.t.below ((zzE _ _).drew));have KS:Hid (V.drew.cell? ⟨pc,3,none⟩=some (.slice to2 tn tc2)/\V.drew.cell? ⟨b,o+4,none⟩=some (.int .i64 xt)):=zzH ⟨c3,i4⟩;have hba:Below H V (V.alloc (.cells #[.int .i64 xt] 3)).drew:=by rw [<-hH];exact(zzE _ _).drew
           have HBA:=zzH hba;have KA:Hid ((V.alloc (.cells #[.int .i64 xt] 3)).drew.cell? ⟨pc,3,none⟩=some (.slice to2 tn tc2)/\(V.alloc (.cells #[.int .i64 xt] 3)).drew.cell? ⟨b,o+4,none⟩=some (.int .i64 xt)):=zzH ⟨(hba.cell (p:=⟨pc,3,none⟩) hpV).trans c3,(hba.cell (p:=⟨b,o+4,none⟩) hbV).trans i4⟩;have HNA:Hid (∀(j:Nat) (u:Value),([Value.int .i64 xt]:List Value)[j]?=some u->(V.alloc (.cells #[.int .i64 xt] 3)).drew.cell? ((⟨H,0,none⟩:Addr).add j)=some u):=zzH (by rw [<-hH];exact zdF _ _ _)
           have HBX:Hid (H<(V.alloc (.cells #[.int .i64 xt] 3)).drew.heap.size):=zzH (by rw [<-hH];exact zb (zzF V (.cells #[.int .i64 xt] 3)));clear hba hH htn;go_upto_region 33 with fail;have hB5: ∀w5,Below V.drew.heap.size V.drew w5->Below H V w5:=fun w5 h=>by rw [<-HH.out];exact(zzR V.heap.size V).drew.trans h
           have hCA:=zc4 C.tries to2 tc2 V.drew HTA.out (by rw [HTN.out];exact hl1);have hCB:=zc4 C.tries to2 tc2 (V.alloc (.cells #[.int .i64 xt] 3)).drew HTB.out (by rw [HTN.out];exact hl1);rw [HTN.out]at hCA hCB
           have HCA:Hid (Calls Tryz.prog 36 #[.slice to2 tn tc2] V.drew fun e w5=> ∃ao5 ac5,e= .returned (.slice ao5 tn ac5)/\Hid (w5.cell? ⟨pc,3,none⟩=some (.slice to2 tn tc2)/\w5.cell? ⟨b,o+4,none⟩=some (.int .i64 xt))/\Hid ((w5.alloc (.cells #[.int .i64 xt] 3)).cell? ⟨pc,3,none⟩=some (.slice to2 tn tc2)/\(w5.alloc (.cells #[.int .i64 xt] 3)).cell? ⟨b,o+4,none⟩=some (.int .i64 xt)) /\
             Hid (Below H V (w5.alloc (.cells #[.int .i64 xt] 3)))/\Hid (World.ownsRow (w5.alloc (.cells #[.int .i64 xt] 3)) H 3 1 (.slice ao5 tn ac5) C.tries.length (C.tries.map (Value.int .i64)))/\Hid (∀(j:Nat) (u:Value),([Value.int .i64 xt]:List Value)[j]?=some u->(w5.alloc (.cells #[.int .i64 xt] 3)).cell? ((⟨w5.heap.size,0,none⟩:Addr).add j)=some u)):=zzH (by
            refine hCA.mono ?_;rintro e w5 ⟨⟨v5,rfl,ho5⟩,hb5⟩;obtain⟨ao5,ac5,rfl,-,-⟩:=ho5.ints;have h1:=hB5 w5 hb5;have h2:Below H V (w5.alloc (.cells #[.int .i64 xt] 3)):=h1.alloc (by rw [<-HH.out];exact h1.size) _;refine⟨ao5,ac5,by rw [HTN.out],zzH ⟨(h1.cell (p:=⟨pc,3,none⟩) hpV).trans c3,(h1.cell (p:=⟨b,o+4,none⟩) hbV).trans i4⟩,zzH ⟨(h2.cell (p:=⟨pc,3,none⟩) hpV).trans c3,(h2.cell (p:=⟨b,o+4,none⟩) hbV).trans i4⟩,zzH h2,zzH ?_,zzH (zdF _ _ _)⟩;have h3:OwnI w5 V.heap.size (.slice ao5 C.tries.length ac5) C.tries:=ho5;rw [HH.out,HTN.out]at h3;unfold OwnI at h3;rw [HTN.out]at h3 ⊢;exact World.ownsRow.alloc h3 _)
           have HCB:Hid (Calls Tryz.prog 36 #[.slice to2 tn tc2] (V.alloc (.cells #[.int .i64 xt] 3)).drew fun e w5=> ∃ao5 ac5,e= .returned (.slice ao5 tn ac5)/\Hid (w5.cell? ⟨pc,3,none⟩=some (.slice to2 tn tc2)/\w5.cell? ⟨b,o+4,none⟩=some (.int .i64 xt)) /\
             Hid (Below H V w5)/\Hid (World.ownsRow w5 H 3 1 (.slice ao5 tn ac5) C.tries.length (C.tries.map (Value.int .i64)))/\Hid (∀(j:Nat) (u:Value),([Value.int .i64 xt]:List Value)[j]?=some u->w5.cell? ((⟨V.heap.size,0,none⟩:Addr).add j)=some u)):=zzH (by
            refine hCB.mono ?_;rintro e w5 ⟨⟨v5,rfl,ho5⟩,hb5⟩;obtain⟨ao5,ac5,rfl,-,-⟩:=ho5.ints;have hHs:H<=(V.alloc (.cells #[.int .i64 xt] 3)).drew.heap.size:=by rw [<-HH.out];exact HBA.out.size
            have h2:Below H V w5:=HBA.out.trans (hb5.mono hHs);refine⟨ao5,ac5,by rw [HTN.out],zzH ⟨(h2.cell (p:=⟨pc,3,none⟩) hpV).trans c3,(h2.cell (p:=⟨b,o+4,none⟩) hbV).trans i4⟩,zzH h2,zzH (by rw [<-HTN.out];exact ho5.mono hHs),zzH (by rw [HH.out];exact zh1 HNA.out hb5 HBX.out)⟩)
           clear hCA hCB hB5;have w63:tn+1<=maxLen:=by unfold maxLen;omega
           have wby:(tn+1)*8<=140737488355328:=by omega
           have wn1: ∀u∈ [Value.int .i64 xt],u.oneCell'=true:=by simp [Value.oneCell']
           have wd:(0:Nat)<1:=by decide
           go_region_held3 (fun w'=>w'.cell? ⟨pc,3,none⟩=some (.slice to2 tn tc2)/\w'.cell? ⟨b,o+4,none⟩=some (.int .i64 xt)) (first|with_reducible exact KS.out|with_reducible exact KA.out|with_reducible exact KB.out|with_reducible exact KC.out|with_reducible exact KD.out|with_reducible exact⟨(zcf hpcZ).trans KD.out.1,(zcf hbz).trans KD.out.2⟩)
            (first
             |(go_at_call 36;(with_reducible refine HCA.out.mono ?_);rintro e w5 ⟨ao5,ac5,rfl,KB,KC,HBL,HO,HNW⟩)
             |(go_at_call 36;(with_reducible refine HCB.out.mono ?_);rintro e w5 ⟨ao5,ac5,rfl,KC,HBL,HO,HNW⟩)
             |(refine step_append_lies _ (by rfl) (.tmp 153) (.tmp 158) 38 (by rfl) H 3 i0' (.int .i64 0) 1 8 Tryz.underlying38 hi0 hzz0 hzz1 hzz2 (by rfl) wd _ _ _ (by rfl) HO.out _ 1 1 [.int .i64 xt] (by rfl) (by rfl) HNW.out wn1 wd (by rw [HTN.out];exact w63) (by rw [HTN.out];exact wby) (by rw [<-HH.out];exact HBL.out.size) _ rfl ?_;intro g7 cap7 w7 hown7 hgrow7 hat7 hlt7;have hbl7:Below H V w7:=HBL.out.grown hgrow7 (by rw [<-HH.out];exact HBL.out.size) (fun k e=>(World.ownsRow.lt HO.out k e).1);have KD:Hid (w7.cell? ⟨pc,3,none⟩=some (.slice to2 tn tc2)/\w7.cell? ⟨b,o+4,none⟩=some (.int .i64 xt)):=zzH ⟨(hbl7.cell (p:=⟨pc,3,none⟩) hpV).trans c3,(hbl7.cell (p:=⟨b,o+4,none⟩) hbV).trans i4⟩;have hr7:=(hbl7.block Z hz).trans HE1.out;refine zzK3 hr7 hbl7 hown7 fun HR7 HBL7 HOW7=>?_;have v0:=zm hr7 (k:=3) (by simp [zA]);have v1:w7.frozen? ⟨Z,3,none⟩=false:=zzq2 _ _ _ _ _ hr7;rw [HTN.out];clear hr7 hbl7 hown7 hgrow7 hat7 hlt7))
           all_goals
            have hown8:=zkK HOW7.out;have HOW8:=zzH hown8;have hV:Below Z w4 (w7.setCell ⟨Z,3,none⟩ (.slice (some ⟨g7,0,none⟩) (tn+1) cap7)):=(HBZ.out.trans (HBL7.out.mono (zzb hz))).setCell (p:=⟨Z,3,none⟩) (zzL _) _;obtain⟨k1,k2,k3⟩:=HFAR.out _ hV;refine zzK3 k1 k2 k3 fun K1 K2 K3=>?_;clear hV k1 k2 k3 hown8;go_wp2;go_ret2;refine⟨⟨Z,pc,rfl,?_,by rw [HR2.out];exact K2.out⟩,K1.out⟩;rw [HR1.out];have hlt:(C.tries++ [xt]).length=tn+1:=by rw [zzq16,HTN.out];rfl
            refine⟨xo,xc,yo,yc,some ⟨g7,0,none⟩,cap7,(zzS _ Z 3 _ _ _ HR7.out).trans ?_,⟨K3.out.x,K3.out.y,?_,K3.out.xl,K3.out.yl,?_⟩⟩
            ·unfold zA;simp only [hlt];rfl
            ·exact HOW8.out.1.setFar HR7.out (by decide)
            ·exact HOW8.out.2
          ·by_cases h29:x.op=29
           ·as_aux_lemma=>
            have HR1:Hid (RN= {N with tries:=C.tries.take (C.tries.length-1)}):=zzH (by rw [HNX.out,if_neg h9,if_neg h10,if_neg ha,if_neg hp,if_neg h24,if_neg h25,if_neg h28,if_pos h29]);have HR2:Hid (RT=C):=zzH (by rw [HTX.out,if_neg (by omega),if_neg (by omega)]);have hne:C.tries≠ []:=by rw [HCY.out.2.1];exact HE.out.tri h29
            obtain⟨xo',xc',yo',yc',to2,tc2,c0,c1,c2,c3,c4,c5,c6,hLC⟩:=HCV.out.cells;have HLC:=zzH hLC
            have hpcZ:pc≠Z:=by
             intro e;obtain⟨_,hpc,_⟩:=HFAR.out V HBZ.out;exact absurd (HPZ.out) (by omega)
            obtain⟨n,hn⟩: ∃n,C.tries.length=n+1:=⟨C.tries.length-1,by have:=List.length_pos_iff.2 hne;omega⟩;obtain⟨tb,tf,hto,-,-⟩:=hLC.t.cell (k:=n) (by omega);subst hto;have htl:=hLC.tl;have hl1:=hcvl.t;have hw:IntKind.i64.wrap (((n+1:Nat):Int)-1)=(n:Int):=by rw [zzq5];omega
            have hw2:IntKind.i64.wrap (n:Int)=(n:Int):=by rw [zzq5];omega
            rw [hn]at c3 htl;have z3:=zm HE1.out (k:=3) (by simp [zA]);have y3:V.frozen? ⟨Z,3,none⟩=false:=zzq2 _ _ _ _ _ HE1.out;rw [h29]at i0;clear HNX HTX HE h9 h10 ha hp h24 h25 h28 h29 hLC c0 c1 c2 c4 c5 c6;have hI0:(0:Int)<=(n:Int):=by omega
            have hI1:(n:Int)<=((n+1:Nat):Int):=by omega
            have hI2:(n:Int)<=(tc2:Int):=by omega
            go_upto_region 35 with fail;have KS:Hid (V.drew.cell? ⟨pc,3,none⟩=some (.slice (some ⟨tb,tf,none⟩) (n+1) tc2)):=zzH c3;have KT:Hid ((V.setCell ⟨Z,3,none⟩ (.slice (some ⟨tb,tf,none⟩) n tc2)).drew.cell? ⟨pc,3,none⟩=some (.slice (some ⟨tb,tf,none⟩) (n+1) tc2)):=zzH ((zbT hpcZ).trans c3)
            first|go_region_held3 (fun w'=>w'.cell? ⟨pc,3,none⟩=some (.slice (some ⟨tb,tf,none⟩) (n+1) tc2)) (first|with_reducible exact KS.out|with_reducible exact KT.out) (fail)|fail
            go_wp2_with fail;have hV:Below Z w4 ((V.setCell ⟨Z,3,none⟩ (.slice (some ⟨tb,tf,none⟩) n tc2)).drew):=(HBZ.out.setCell (p:=⟨Z,3,none⟩) (zzL _) _).drew;obtain⟨k1,k2,k3⟩:=HFAR.out _ hV;refine zzK3 k1 k2 k3 fun K1 K2 K3=>?_;clear hV k1 k2 k3;go_ret2;refine⟨⟨Z,pc,rfl,?_,by rw [HR2.out];exact K2.out⟩,K1.out⟩;rw [HR1.out];have hlt:(C.tries.take (C.tries.length-1)).length=n:=by rw [List.length_take,hn];omega
            refine⟨xo,xc,yo,yc,some ⟨tb,tf,none⟩,tc2,(zzS V Z 3 _ _ _ HE1.out).trans ?_,⟨K3.out.x,K3.out.y,?_,K3.out.xl,K3.out.yl,?_⟩⟩
            ·unfold zA;simp only [hlt];rfl
            ·exact((HLC.out.t.take (C.tries.length-1)).setFar HE1.out (by decide)).heap rfl
            ·show(C.tries.take (C.tries.length-1)).length<=tc2;rw [hlt];omega
           ·by_cases h30:x.op=30
            ·as_aux_lemma=>
             have HR1:Hid (RN= {N with mt:=true}):=zzH (by rw [HNX.out,if_neg h9,if_neg h10,if_neg ha,if_neg hp,if_neg h24,if_neg h25,if_neg h28,if_neg h29,if_pos h30]);have HR2:Hid (RT=C):=zzH (by rw [HTX.out,if_neg (by omega),if_neg (by omega)]);have z4:=zm HE1.out (k:=4) (by simp [zA]);have y4:V.frozen? ⟨Z,4,none⟩=false:=zzq2 _ _ _ _ _ HE1.out;have hV:Below Z w4 (V.setCell ⟨Z,4,none⟩ (.bool true)):=(HBZ.out.setCell (p:=⟨Z,4,none⟩) (zzL _) (.bool true));obtain⟨k1,k2,k3⟩:=HFAR.out _ hV;have hr:=(zzS _ Z 4 _ _ (.bool true) HE1.out);refine zzK4 k1 k2 k3 hr fun K1 K2 K3 HRR=>?_;clear hV k1 k2 k3 hr HNX HTX HE;rw [h30]at i0;clear h9 h10 ha hp h24 h25 h28 h29 h30;exact zz103
            ·by_cases h36:x.op=36
             ·as_aux_lemma=>
              have HR1:Hid (RN= {N with recv:=1,frm:=i}):=zzH (by rw [HNX.out,if_neg h9,if_neg h10,if_neg ha,if_neg hp,if_neg h24,if_neg h25,if_neg h28,if_neg h29,if_neg h30,if_pos h36]);have HR2:Hid (RT=C):=zzH (by rw [HTX.out,if_neg (by omega),if_neg (by omega)]);have z5:=zm HE1.out (k:=5) (by simp [zA]);have y5:V.frozen? ⟨Z,5,none⟩=false:=zzq2 _ _ _ _ _ HE1.out;have z6:=zm HE1.out (k:=6) (by simp [zA]);have y6:V.frozen? ⟨Z,6,none⟩=false:=zzq2 _ _ _ _ _ HE1.out;have hV:Below Z w4 ((V.setCell ⟨Z,5,none⟩ (.int .i64 1)).setCell ⟨Z,6,none⟩ (.int .i64 (i:Int))):=((HBZ.out.setCell (p:=⟨Z,5,none⟩) (zzL _) (.int .i64 1)).setCell (p:=⟨Z,6,none⟩) (zzL _) (.int .i64 (i:Int)));obtain⟨k1,k2,k3⟩:=HFAR.out _ hV;have hr:=(zzS _ Z 6 _ _ (.int .i64 (i:Int)) (zzS _ Z 5 _ _ (.int .i64 1) HE1.out));refine zzK4 k1 k2 k3 hr fun K1 K2 K3 HRR=>?_;clear hV k1 k2 k3 hr HNX HTX HE;rw [h36]at i0;have x2:=HXV.out.e2;clear h9 h10 ha hp h24 h25 h28 h29 h30 h36;exact zz103
             ·by_cases h38:x.op=38\/x.op=40
              ·as_aux_lemma=>
               have HR1:Hid (RN= {N with recv:=0,frm:=0}):=zzH (by rw [HNX.out,if_neg h9,if_neg h10,if_neg ha,if_neg hp,if_neg h24,if_neg h25,if_neg h28,if_neg h29,if_neg h30,if_neg h36,if_pos h38]);have HR2:Hid (RT=C):=zzH (by rw [HTX.out,if_neg (by omega),if_neg (by omega)]);have z5:=zm HE1.out (k:=5) (by simp [zA]);have y5:V.frozen? ⟨Z,5,none⟩=false:=zzq2 _ _ _ _ _ HE1.out;have z6:=zm HE1.out (k:=6) (by simp [zA]);have y6:V.frozen? ⟨Z,6,none⟩=false:=zzq2 _ _ _ _ _ HE1.out;have hV:Below Z w4 ((V.setCell ⟨Z,5,none⟩ (.int .i64 0)).setCell ⟨Z,6,none⟩ (.int .i64 0)):=((HBZ.out.setCell (p:=⟨Z,5,none⟩) (zzL _) (.int .i64 0)).setCell (p:=⟨Z,6,none⟩) (zzL _) (.int .i64 0));obtain⟨k1,k2,k3⟩:=HFAR.out _ hV;have hr:=(zzS _ Z 6 _ _ (.int .i64 0) (zzS _ Z 5 _ _ (.int .i64 0) HE1.out));refine zzK4 k1 k2 k3 hr fun K1 K2 K3 HRR=>?_;clear hV k1 k2 k3 hr HNX HTX HE;clear h9 h10 ha hp h24 h25 h28 h29 h30 h36;rcases h38 with h38|h38
               all_goals
                rw [h38]at i0;clear h38;go_wp2;go_ret2;refine⟨⟨Z,pc,rfl,?_,by rw [HR2.out];exact K2.out⟩,K1.out⟩;rw [HR1.out];exact⟨xo,xc,yo,yc,to',tc,HRR.out,⟨K3.out.x,K3.out.y,K3.out.t,K3.out.xl,K3.out.yl,K3.out.tl⟩⟩
              ·by_cases h39:x.op=39
               ·as_aux_lemma=>
                have HR1:Hid (RN=N):=zzH (by rw [HNX.out,if_neg h9,if_neg h10,if_neg ha,if_neg hp,if_neg h24,if_neg h25,if_neg h28,if_neg h29,if_neg h30,if_neg h36,if_neg h38]);have HR2:Hid (RT=⟨C.frame,C.x,C.y,C.tries,C.mt,1,C.frm⟩):=zzH (by rw [HTX.out,if_neg (by omega),if_pos h39]);obtain⟨xo',xc',yo',yc',to2,tc2,c0,c1,c2,c3,c4,c5,c6,hLC⟩:=HCV.out.cells;have HLC:=zzH hLC;have e1:=zzF V (.cells (zA C xo' xc' yo' yc' to2 tc2) 91);have hB:=(zzR V.heap.size V).alloc (zzL _) (.cells (zA C xo' xc' yo' yc' to2 tc2) 91);change (V.alloc (.cells #[.int .i64 C.frame,.slice xo' C.x.length xc',.slice yo' C.y.length yc',.slice to2 C.tries.length tc2,.bool C.mt,.int .i64 C.recv,.int .i64 C.frm] 91)).heap[V.heap.size]?=_ at e1
                change Below V.heap.size V (V.alloc (.cells #[.int .i64 C.frame,.slice xo' C.x.length xc',.slice yo' C.y.length yc',.slice to2 C.tries.length tc2,.bool C.mt,.int .i64 C.recv,.int .i64 C.frm] 91))at hB;rw [h39]at i0;clear HNX HTX HE h9 h10 ha hp h24 h25 h28 h29 h30 h36 h38 h39 hLC;go_upto_region 45 with fail;generalize V.alloc (.cells (zzs C xo' xc' yo' yc' to2 tc2) 91)=X at *;have z5:=zm e1 (k:=5) (by simp [zA]);have y5:X.frozen? ⟨V.heap.size,5,none⟩=false:=zzq2 _ _ _ _ _ e1;have hr:=zzS _ V.heap.size 5 _ _ (.int .i64 1) e1;have hbl:Below V.heap.size V (X.setCell ⟨V.heap.size,5,none⟩ (.int .i64 1)):=hB.setCell (p:=⟨V.heap.size,5,none⟩) (zzL _) _;have HRR:=zzH hr;have HBL:=zzH hbl;clear hr hbl e1 hB c0 c1 c2 c3 c4 c5 c6;go_wp2;go_ret2;refine⟨⟨pn,V.heap.size,rfl,by rw [HR1.out];exact HNV.out.below HBL.out,?_⟩,HBV.out.trans (HBL.out.mono HBV.out.size)⟩;rw [HR2.out];exact⟨xo',xc',yo',yc',to2,tc2,HRR.out,⟨HLC.out.x.below HBL.out,HLC.out.y.below HBL.out,HLC.out.t.below HBL.out,HLC.out.xl,HLC.out.yl,HLC.out.tl⟩⟩
               ·as_aux_lemma=>
                have HR1:Hid (RN=N):=zzH (by rw [HNX.out,if_neg h9,if_neg h10,if_neg ha,if_neg hp,if_neg h24,if_neg h25,if_neg h28,if_neg h29,if_neg h30,if_neg h36,if_neg h38]);have HR2:Hid (RT=C):=zzH (by rw [HTX.out,if_neg hp,if_neg h39]);have u9:(x.op==9)=false:=by rw [zzq1];omega
                have u10:(x.op==10)=false:=by rw [zzq1];omega
                have u15:(x.op==15)=false:=by rw [zzq1];omega
                have u16:(x.op==16)=false:=by rw [zzq1];omega
                have u18:(x.op==18)=false:=by rw [zzq1];omega
                have u20:(x.op==20)=false:=by rw [zzq1];omega
                have u22:(x.op==22)=false:=by rw [zzq1];omega
                have u37:(x.op==37)=false:=by rw [zzq1];omega
                have u24:(x.op==24)=false:=by rw [zzq1];omega
                have u25:(x.op==25)=false:=by rw [zzq1];omega
                have u28:(x.op==28)=false:=by rw [zzq1];omega
                have u29:(x.op==29)=false:=by rw [zzq1];omega
                have u30:(x.op==30)=false:=by rw [zzq1];omega
                have u36:(x.op==36)=false:=by rw [zzq1];omega
                have u38:(x.op==38)=false:=by rw [zzq1];omega
                have u40:(x.op==40)=false:=by rw [zzq1];omega
                have u39:(x.op==39)=false:=by rw [zzq1];omega
                clear HNX HTX HE h9 h10 ha hp h24 h25 h28 h29 h30 h36 h38 h39;generalize x.op=op at *;go_wp2;go_ret2;exact⟨⟨pn,pc,rfl,by rw [HR1.out];exact HNV.out,by rw [HR2.out];exact HCV.out⟩,HBV.out⟩
end Go.Proofs.YtepjanajflkakaaGreatDoor
