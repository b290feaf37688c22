import Derived.Test.YtponljdhfoipjaaGreatDoorW06
namespace Go.Proofs.YtponljdhfoipjaaGreatDoor
open Go.RowKit
set_option linter.unusedVariables false
set_option linter.unusedSimpArgs false
set_option maxRecDepth 100000
set_option maxHeartbeats 0
theorem cell_far0 {w:World} {X k b o:Nat} {v:Value} (h:b≠X):(w.setCell ⟨X,k,none⟩ v).cell? ⟨b,o,none⟩=w.cell? ⟨b,o,none⟩:=by
 unfold World.cell?
 rw [heap_setCell_other _ _ _ _ h]
theorem news_below {w w':World} {H:Nat} {x:Value} (h: ∀(j:Nat) (u:Value),([x]:List Value)[j]?=some u->w.cell? ((⟨H,0,none⟩:Addr).add j)=some u) (hb:Below w.heap.size w w') (hH:H<w.heap.size):
  ∀(j:Nat) (u:Value),([x]:List Value)[j]?=some u->w'.cell? ((⟨H,0,none⟩:Addr).add j)=some u:=fun j u hj=>by
 have e:(⟨H,0,none⟩:Addr).add j=⟨H,j,none⟩:=by unfold Addr.add;split<;>simp_all
 have h1:=h j u hj
 rw [e]at h1 ⊢
 exact(hb.cell (p:=⟨H,j,none⟩) hH).trans h1
theorem own_ints {w:World} {B g c n:Nat} {l:List Int} {x:Int} (h:w.ownsRow B 3 1 (.slice (some ⟨g,0,none⟩) n c) (l.length+1) (l.map (Value.int .i64)++ [.int .i64 x])):IntsAt w (some ⟨g,0,none⟩) (l++ [x])/\(l++ [x]).length<=c:=by
 have h':OwnI w B (.slice (some ⟨g,0,none⟩) n c) (l++ [x]):=by
  unfold OwnI
  rw [List.length_append,List.map_append];exact h
 obtain⟨ao,c',e,h1,h2⟩:=h'.ints
 injection e with e1 e2 e3
 rw [e1,e3]
 exact⟨h1,h2⟩
def nextN (u:RUnit) (s:VSt) (x:RIns):VSt:=if x.dst.kind≠0 then putV (cutV s x) x.dst (resultV u s x)else cutV s x
theorem cut_y (s:VSt) (x:RIns):(cutV s x).y=s.y/\(cutV s x).tries=s.tries/\(cutV s x).x.length<=s.x.length/\(cutV s x).frame=s.frame:=by
 unfold cutV
 split
 ·refine⟨rfl,rfl,?_,rfl⟩
  show(trimT (s.x.take x.live.toNat)).length<=_
  unfold trimT
  rw [List.length_take,List.length_take]
  omega
 ·exact⟨rfl,rfl,Nat.le_refl _,rfl⟩
theorem VLen.cut {s:VSt} (h:VLen s) (x:RIns):VLen (cutV s x):=by
 obtain⟨h1,h2,h3,h4⟩:=cut_y s x
 exact⟨Nat.le_trans h3 h.x,by rw [h1];exact h.y,by rw [h2];exact h.t⟩
theorem veffect_any (E U mb p b o i:Nat) (u:RUnit) (lo fo go co:zzA) (lc fc gc cc mc:Nat) (x:RIns) (s:VSt) (so co' go':zzA) (sc cc' gc':Nat) (w:World) (hx:VCx w E U mb i u lo fo go co lc fc gc cc mc) (hi:IBox w b o x so co' go' sc cc' gc') (hs:StAt w p s) (ho:StOk s) (hl:LitsLen u) (he:EffOk u s x):
  Calls Tryz.prog 134 #[.pointer (some ⟨E,0,none⟩),.pointer (some ⟨p,0,none⟩),.pointer (some ⟨b,o,none⟩)] w fun e w'=>(∃bn bt,e= .returned (.tuple #[.pointer (some ⟨bn,0,none⟩),.pointer (some ⟨bt,0,none⟩)])/\StAt w' bn (nextV u i s x)/\StAt w' bt (toV s x))/\Below w.heap.size w w':=by
 refine zzK4 hi hx hs he fun HI HX HS HE=>?_
 have hres:=vresult_any E U mb p b o i u lo fo go co lc fc gc cc mc x s so co' go' sc cc' gc' w hx hi hs ho hl he.src1 he.srcl
 have HRES:=Lib.hid hres
 have HCV:Hid (cutV s x=if limitedV x.op=true/\x.live<s.x.length then{s with x:=trimT (s.x.take x.live.toNat)}else s):=Lib.hid rfl
 have HNN:Hid (nextN u s x=if x.dst.kind≠0 then putV (cutV s x) x.dst (resultV u s x)else cutV s x):=Lib.hid rfl
 have hvl:=ho.len.cut x
 have hlv:=he.live
 have hcy:=cut_y s x
 have HCY:=Lib.hid hcy
 clear hres hx hi hs he hcy
 generalize hrv:resultV u s x=rv at *
 have HRV:=Lib.hid hrv
 clear hrv
 have HRN0:Hid (nextV u i s x=nextV u i s x):=Lib.hid rfl
 obtain⟨RN,hrn⟩: ∃RN,RN=nextV u i s x:=⟨_,rfl⟩
 obtain⟨RT,hrt⟩: ∃RT,RT=toV s x:=⟨_,rfl⟩
 rw [<-hrn,<-hrt]
 have HRN:=Lib.hid hrn;have HRT:=Lib.hid hrt
 clear hrn hrt HRN0
 go_in
 go_wp2_with fail
 refine HRES.out.mono ?_
 rintro e w1 ⟨rfl,hb1⟩
 have HB1:=Lib.hid hb1
 have HI1:=Lib.hid (HI.out.below hb1);have HS1:=Lib.hid (HS.out.below hb1)
 clear hb1 HRES
 go_upto_region 2 with fail
 have i0:=HI1.out.c0;have i6:=HI1.out.c6
 obtain⟨xo,xc,yo,yc,to',tc,c0,c1,c2,c3,c4,c5,c6,hL⟩:=HS1.out.cells
 have HL:=Lib.hid hL
 have hlim:=fun wx=>limited_any x.op wx
 generalize hlm:limitedV x.op=lm at *
 have HLM:=Lib.hid hlim
 clear hlim hL hlm
 go_cut [33] (fun bv wx=> ∃q,wx=w1.drewN q/\bv= .bool (lm&&decide (x.live<(s.x.length:Int))))
 case first=>
  cases lm with
  |false=>
   go_quiet (exact Calls.quiet_of_same (HLM.out _))
   go_wp2_with fail
   go_meet
   case rel=>exact⟨_,rfl,rfl⟩
  |true=>
   by_cases hd:x.live<(s.x.length:Int)
   ·have t0:decide (x.live<(s.x.length:Int))=true:=decide_eq_true hd
    clear hd
    go_quiet (exact Calls.quiet_of_same (HLM.out _))
    go_wp2_with fail
    go_meet
    case rel=>exact⟨_,rfl,by rw [t0];rfl⟩
   ·have t0:decide (x.live<(s.x.length:Int))=false:=decide_eq_false hd
    clear hd
    go_quiet (exact Calls.quiet_of_same (HLM.out _))
    go_wp2_with fail
    go_meet
    case rel=>exact⟨_,rfl,by rw [t0];rfl⟩
 case rest=>
  obtain⟨q,rfl,rfl⟩:=hcut
  have HB2:Hid (Below w.heap.size w (w1.drewN q)):=Lib.hid (below_drewN HB1.out q)
  clear c0 c1 c2 c3 c4 c5 c6 i0 i6 HL xo xc yo yc to' tc
  generalize w1.drewN q=w2 at *
  have HI2:=Lib.hid (HI.out.below HB2.out);have HS2:=Lib.hid (HS.out.below HB2.out)
  obtain⟨xo,xc,yo,yc,to',tc,c0,c1,c2,c3,c4,c5,c6,hL⟩:=HS2.out.cells
  have HL:=Lib.hid hL
  have i6:=HI2.out.c6
  clear hL HI1 HS1 HB1 HLM
  generalize hbv:(lm&&decide (x.live<(s.x.length:Int)))=bv at *
  have HBVV:=Lib.hid hbv
  clear hbv
  go_upto_if 33 with fail
  go_cut [1] (fun p' wx=> ∃pc,p'= .pointer (some ⟨pc,0,none⟩)/\Hid (StAt wx pc (cutV s x)/\Below w.heap.size w wx))
  case first=>
   cases bv with
   |true=>
    obtain⟨rfl,hd⟩:lm=true/\x.live<(s.x.length:Int):=by have h:=HBVV.out;simpa using h
    obtain⟨lv,hlv2⟩:=Int.eq_ofNat_of_zero_le hlv.1
    rw [hlv2]at i6 hd hlv
    have hcv:cutV s x= {s with x:=trimT (s.x.take lv)}:=by rw [HCV.out,if_pos ⟨rfl,by rw [hlv2];exact hd⟩,hlv2,Int.toNat_natCast]
    have HC2:=Lib.hid hcv
    have hlen:(s.x.take lv).length=lv:=by rw [List.length_take];omega
    obtain⟨xb,xf,hxo,-,-⟩:=HL.out.x.cell (k:=lv) (by omega)
    subst hxo
    have e1:=heap_alloc_new w2 (.cells (stRow s (some ⟨xb,xf,none⟩) xc yo yc to' tc) 236)
    have hB:=(Below.refl w2.heap.size w2).alloc (Nat.le_refl _) (.cells (stRow s (some ⟨xb,xf,none⟩) xc yo yc to' tc) 236)
    change (w2.alloc (.cells #[.int .i64 s.frame,.slice (some ⟨xb,xf,none⟩) s.x.length xc,.slice yo s.y.length yc,.slice to' s.tries.length tc,.bool s.mt,.int .i64 s.recv,.int .i64 s.frm] 236)).heap[w2.heap.size]?=_ at e1
    change Below w2.heap.size w2 (w2.alloc (.cells #[.int .i64 s.frame,.slice (some ⟨xb,xf,none⟩) s.x.length xc,.slice yo s.y.length yc,.slice to' s.tries.length tc,.bool s.mt,.int .i64 s.recv,.int .i64 s.frm] 236))at hB
    have hp:=HS2.out.lt
    have hbb:=HI2.out.lt
    have i0:=HI2.out.c6
    go_upto_region 4 with fail
    clear i0
    have y1:=(hB.cell (p:=⟨p,1,none⟩) hp).trans c1
    have y2:=(hB.cell (p:=⟨b,o+6,none⟩) hbb).trans i6
    have hpn:p≠w2.heap.size:=Nat.ne_of_lt hp
    have hbn:b≠w2.heap.size:=Nat.ne_of_lt hbb
    generalize w2.alloc (.cells #[.int .i64 s.frame,.slice (some ⟨xb,xf,none⟩) s.x.length xc,.slice yo s.y.length yc,.slice to' s.tries.length tc,.bool s.mt,.int .i64 s.recv,.int .i64 s.frm] 236)=V at *
    have hz:=lt_of_row e1
    have HBW:Hid (w2.heap.size<=w2.heap.size):=Lib.hid (Nat.le_refl _)
    generalize hZ:w2.heap.size=Z at *
    have HZ:=Lib.hid hZ
    have hIx:IntsAt V.drew (some ⟨xb,xf,none⟩) (s.x.take lv):=(IntsAt.take (IntsAt.below HL.out.x (w':=V) (by rw [hZ];exact hB)) lv).heap rfl
    have htr:=vtrim_any (s.x.take lv) (some ⟨xb,xf,none⟩) xc V.drew hIx (by unfold maxLen;omega) (by have:=HL.out.xl;omega)
    have hI2:=hIx.take (trimN (s.x.take lv) (s.x.take lv).length)
    change IntsAt _ _ (trimT (s.x.take lv))at hI2
    have hT2:(trimT (s.x.take lv)).length<=xc:=by have:=HL.out.xl;unfold trimT;rw [List.length_take];omega
    rw [hlen]at htr
    refine zzK3 htr hI2 hT2 fun HTR HI5 HT2=>?_
    have HBV:=Lib.hid hB;have HE1:=Lib.hid e1
    generalize trimT (s.x.take lv)=TX at *
    have KS:Hid (V.drew.cell? ⟨p,1,none⟩=some (.slice (some ⟨xb,xf,none⟩) s.x.length xc)/\V.drew.cell? ⟨b,o+6,none⟩=some (.int .i64 (lv:Int))):=Lib.hid ⟨y1,y2⟩
    have hI0:(0:Int)<=(lv:Int):=by omega
    have hI1:(lv:Int)<=(xc:Int):=by have:=HL.out.xl;omega
    have hI3:(lv:Int)<=(s.x.length:Int):=by omega
    clear c0 c1 c2 c3 c4 c5 c6 htr hI2 hIx hT2 hcv hlen hZ hB hlv2
    have hpV:p<V.heap.size:=by omega
    have hbV:b<V.heap.size:=by omega
    have hzc:=cellOf e1 (k:=1) (by simp [stRow])
    clear e1
    first|go_region_held3 (fun w'=>w'.cell? ⟨p,1,none⟩=some (.slice (some ⟨xb,xf,none⟩) s.x.length xc)/\w'.cell? ⟨b,o+6,none⟩=some (.int .i64 (lv:Int))) (first|with_reducible exact KS.out|with_reducible exact KS5.out|with_reducible exact KT5.out)
     ((go_at_call 170;refine HTR.out.mono ?_;rintro e w5 ⟨rfl,hb5⟩;have hr5:=(hb5.block Z hz).trans HE1.out;have HR5:=Lib.hid hr5;have HB5:=Lib.hid hb5;have v1:=cellOf hr5 (k:=1) (by simp [stRow]);have v2:w5.frozen? ⟨Z,1,none⟩=false:=frozen_of_row _ _ _ _ _ hr5;have KS5:Hid (w5.cell? ⟨p,1,none⟩=some (.slice (some ⟨xb,xf,none⟩) s.x.length xc)/\w5.cell? ⟨b,o+6,none⟩=some (.int .i64 (lv:Int))):=Lib.hid ⟨(hb5.cell (p:=⟨p,1,none⟩) hpV).trans y1,(hb5.cell (p:=⟨b,o+6,none⟩) hbV).trans y2⟩;have KT5:Hid ((w5.setCell ⟨Z,1,none⟩ (.slice (some ⟨xb,xf,none⟩) TX.length xc)).cell? ⟨p,1,none⟩=some (.slice (some ⟨xb,xf,none⟩) s.x.length xc)/\(w5.setCell ⟨Z,1,none⟩ (.slice (some ⟨xb,xf,none⟩) TX.length xc)).cell? ⟨b,o+6,none⟩=some (.int .i64 (lv:Int))):=Lib.hid ⟨(cell_far0 hpn).trans KS5.out.1,(cell_far0 hbn).trans KS5.out.2⟩;clear hr5 hb5))|fail
    go_wp2_with fail
    go_meet
    case rel=>
     have hbl:Below w2.heap.size w2 (w5.setCell ⟨Z,1,none⟩ (.slice (some ⟨xb,xf,none⟩) TX.length xc)):=by
      rw [HZ.out]
      exact(HBV.out.drew.trans (HB5.out.mono (Nat.le_of_lt hz))).setCell (p:=⟨Z,1,none⟩) (Nat.le_refl _) _
     refine⟨Z,rfl,Lib.hid ⟨?_,HB2.out.trans (hbl.mono HB2.out.size)⟩⟩
     rw [HC2.out]
     refine⟨some ⟨xb,xf,none⟩,xc,yo,yc,to',tc,heap_setCell_same _ Z 1 _ _ _ HR5.out,?_⟩
     exact⟨(HI5.out.below HB5.out).setFar HR5.out (by decide),HL.out.y.below hbl,HL.out.t.below hbl,HT2.out,HL.out.yl,HL.out.tl⟩
   |false=>
    have hcv:cutV s x=s:=by
     rw [HCV.out,if_neg (fun g=>by
      have h:=HBVV.out
      rw [g.1,decide_eq_true g.2]at h
      cases h)]
    clear c0 c1 c2 c3 c4 c5 c6 i6
    go_wp2_with fail
    go_meet
    case rel=>exact⟨p,rfl,Lib.hid ⟨by rw [hcv];exact HS2.out,HB2.out⟩⟩
  case rest=>
   obtain⟨pc,rfl,HC⟩:=hcut
   rename World=>w3
   have HI3:=Lib.hid (HI.out.below HC.out.2)
   have j1:=HI3.out.c1;have j2:=HI3.out.c2
   have hput:=vput_any pc (cutV s x) x.dst rv w3 HC.out.1 hvl HE.out.dstx (fun h=>by rw [HCY.out.1];exact HE.out.dsty h)
   have HPUT:=Lib.hid hput
   clear hput c0 c1 c2 c3 c4 c5 c6 i6 HS2 HI2 HL xo xc yo yc to' tc HBVV HB2
   generalize hdk:x.dst.kind=dk at *
   have HDK:=Lib.hid hdk
   clear hdk
   go_upto_if 55 with fail
   go_cut [6] (fun n' wx=> ∃pn,n'= .pointer (some ⟨pn,0,none⟩)/\Hid (StAt wx pn (nextN u s x)/\StAt wx pc (cutV s x)/\Below w.heap.size w wx))
   case first=>
    by_cases hd:dk=0
    ·have t0 : (dk != 0) = false := by rw [hd]; rfl
     have hnn:nextN u s x=cutV s x:=by rw [HNN.out,if_neg (by simp [hd])]
     clear hd
     go_wp2_with fail
     go_meet
     case rel=>exact⟨pc,rfl,Lib.hid ⟨by rw [hnn];exact HC.out.1,HC.out⟩⟩
    ·have t0 : (dk != 0) = true := by simpa using hd
     have hnn:nextN u s x=putV (cutV s x) x.dst rv:=by rw [HNN.out,if_pos hd]
     have HN2:=Lib.hid hnn
     clear hd hnn
     go_wp2_with fail
     refine HPUT.out.mono ?_
     rintro e w4 ⟨⟨pn,rfl,hpn,hst⟩,hb4⟩
     have HST:=Lib.hid hst;have HB4:=Lib.hid hb4
     clear hst hb4
     go_wp2_with fail
     go_meet
     case rel=>exact⟨pn,rfl,Lib.hid ⟨by rw [HN2.out];exact HST.out,HC.out.1.below HB4.out,HC.out.2.trans (HB4.out.mono HC.out.2.size)⟩⟩
   case rest=>
    obtain⟨pn,rfl,HN⟩:=hcut
    rename World=>w4
    clear HPUT HI3 j1 j2 HDK HNN HCV
    obtain⟨xo,xc,yo,yc,to',tc,c0,c1,c2,c3,c4,c5,c6,hL⟩:=HN.out.1.cells
    have HL:=Lib.hid hL
    have HC2:=Lib.hid HN.out.2.1
    generalize hNN:nextN u s x=N at *
    have HNN:=Lib.hid hNN
    clear hNN hL HC
    have e1:=heap_alloc_new w4 (.cells (stRow N xo xc yo yc to' tc) 236)
    have hB:=(Below.refl w4.heap.size w4).alloc (Nat.le_refl _) (.cells (stRow N xo xc yo yc to' tc) 236)
    change (w4.alloc (.cells #[.int .i64 N.frame,.slice xo N.x.length xc,.slice yo N.y.length yc,.slice to' N.tries.length tc,.bool N.mt,.int .i64 N.recv,.int .i64 N.frm] 236)).heap[w4.heap.size]?=_ at e1
    change Below w4.heap.size w4 (w4.alloc (.cells #[.int .i64 N.frame,.slice xo N.x.length xc,.slice yo N.y.length yc,.slice to' N.tries.length tc,.bool N.mt,.int .i64 N.recv,.int .i64 N.frm] 236))at hB
    go_upto_region 10 with fail
    generalize w4.alloc (.cells #[.int .i64 N.frame,.slice xo N.x.length xc,.slice yo N.y.length yc,.slice to' N.tries.length tc,.bool N.mt,.int .i64 N.recv,.int .i64 N.frm] 236)=V at *
    have hz:=lt_of_row e1
    have HBV:=Lib.hid (HN.out.2.2.trans (hB.mono HN.out.2.2.size))
    have HIV:=Lib.hid (HI.out.below HBV.out)
    have HXV:=Lib.hid (HX.out.below HBV.out)
    have HNV:=Lib.hid (HN.out.1.below hB)
    have HCV:=Lib.hid (HN.out.2.1.below hB)
    have HLV:Hid (StLs V N xo xc yo yc to' tc):=Lib.hid ⟨HL.out.x.below hB,HL.out.y.below hB,HL.out.t.below hB,HL.out.xl,HL.out.yl,HL.out.tl⟩
    have hwz:w.heap.size<=w4.heap.size:=HN.out.2.2.size
    have HBZ:=Lib.hid hB
    generalize hZ:w4.heap.size=Z at *
    have HZ:=Lib.hid hZ
    have HE1:=Lib.hid e1
    have HW4:=Lib.hid HN.out.2.2
    have HPZ:Hid (pc<Z):=Lib.hid (by rw [<-hZ];exact HN.out.2.1.lt)
    have i0:=HIV.out.c0
    clear c0 c1 c2 c3 c4 c5 c6 hB HN e1 hZ
    have hfar: ∀V':World,Below Z w4 V'->Below w.heap.size w V'/\StAt V' pc (cutV s x)/\StLs V' N xo xc yo yc to' tc:=fun V' h=>by
     have h':=h
     rw [<-HZ.out]at h'
     exact⟨HW4.out.trans (h'.mono HW4.out.size),HC2.out.below h',⟨HL.out.x.below h',HL.out.y.below h',HL.out.t.below h',HL.out.xl,HL.out.yl,HL.out.tl⟩⟩
    have HFAR:=Lib.hid hfar
    clear hfar HC2 HL
    have HNX:Hid (RN=if x.op=9 then putV (cutV s x) (src0 x) (3+x.n)else if x.op=10 then putV (cutV s x) (src0 x) 2
     else if x.op=15\/x.op=16\/x.op=18\/x.op=20\/x.op=22 then aloneV (cutV s x)
     else if x.op=37 then peekV (cutV s x)
     else if x.op=24 then{N with frame:=x.n,y:=anysV x.n}
     else if x.op=25 then{N with frame:= -1,y:=[]}
     else if x.op=28 then{N with tries:=(cutV s x).tries++ [x.to]}
     else if x.op=29 then{N with tries:=(cutV s x).tries.take ((cutV s x).tries.length-1)}
     else if x.op=30 then{N with mt:=true}
     else if x.op=36 then{N with recv:=1,frm:=i}
     else if x.op=38\/x.op=40 then{N with recv:=0,frm:=0}
     else N):=Lib.hid (by rw [HRN.out,<-HNN.out];rfl)
    have HTX:Hid (RT=if x.op=37 then{peekV (cutV s x)with x:=[],recv:=1}else if x.op=39 then{cutV s x with recv:=1}else cutV s x):=Lib.hid (by rw [HRT.out];rfl)
    clear HRN HRT
    have hcvl:=hvl
    generalize cutV s x=C at *
    by_cases h9:x.op=9
    ·as_aux_lemma=>
     have HR1:Hid (RN=putV C (src0 x) (3+x.n)):=Lib.hid (by rw [HNX.out,if_pos h9])
     have HR2:Hid (RT=C):=Lib.hid (by rw [HTX.out,if_neg (by omega),if_neg (by omega)])
     obtain⟨hl0,p1,p2⟩:=HE.out.srcp (.inl h9)
     obtain⟨g1,g2⟩:=HE.out.tup h9
     obtain⟨sb,off,hso,hsb,q0,q1,-,-⟩:=HIV.out.src.arg hl0
     subst hso
     have hsrc0:src0 x=x.src[0]:=by
      unfold src0
      rw [List.headD_eq_head?_getD,List.head?_eq_getElem?,List.getElem?_eq_getElem hl0];rfl
     rw [<-hsrc0]at q0 q1
     simp only [Nat.zero_mul,Nat.add_zero]at q0 q1
     have hput:=vput_any pc C (src0 x) (3+x.n) V.drew ((HCV.out.below (Below.refl _ _).drew)) hcvl p1 (fun h=>by rw [HCY.out.1];exact p2 h)
     have HPUT:=Lib.hid hput
     have i3:=HIV.out.c3;have i5:=HIV.out.c5
     have hbV:=HIV.out.lt
     have hI1:(0:Int)<(x.src.length:Int):=by omega
     have hw:IntKind.i64.wrap (3+x.n)=3+x.n:=by rw [IntKind.wrap_i64];omega
     rw [h9]at i0
     clear hput hsrc0 h9 p1 p2 HNX HTX HE
     generalize src0 x=a at *
     generalize x.n=xn at *
     go_upto_region 13 with fail
     have KS:Hid (V.drew.cell? ⟨b,o+3,none⟩=some (.slice (some ⟨sb,off,none⟩) x.src.length sc)/\V.drew.cell? ⟨b,o+5,none⟩=some (.int .i64 xn)/\V.drew.cell? ⟨sb,off,none⟩=some (.int .i64 a.kind)/\V.drew.cell? ⟨sb,off+1,none⟩=some (.int .i64 a.n)):=Lib.hid ⟨i3,i5,q0,q1⟩
     first|go_region_held3 (fun w'=>w'.cell? ⟨b,o+3,none⟩=some (.slice (some ⟨sb,off,none⟩) x.src.length sc)/\w'.cell? ⟨b,o+5,none⟩=some (.int .i64 xn)/\w'.cell? ⟨sb,off,none⟩=some (.int .i64 a.kind)/\w'.cell? ⟨sb,off+1,none⟩=some (.int .i64 a.n)) (first|with_reducible exact KS.out|with_reducible exact KS5.out)
      ((go_at_call 176;refine HPUT.out.mono ?_;rintro e w5 ⟨⟨b5,rfl,hb5,hst5⟩,hbl5⟩;have HST5:=Lib.hid hst5;have HBL5:=Lib.hid hbl5;have KS5:Hid (w5.cell? ⟨b,o+3,none⟩=some (.slice (some ⟨sb,off,none⟩) x.src.length sc)/\w5.cell? ⟨b,o+5,none⟩=some (.int .i64 xn)/\w5.cell? ⟨sb,off,none⟩=some (.int .i64 a.kind)/\w5.cell? ⟨sb,off+1,none⟩=some (.int .i64 a.n)):=Lib.hid ⟨(hbl5.cell (p:=⟨b,o+3,none⟩) hbV).trans i3,(hbl5.cell (p:=⟨b,o+5,none⟩) hbV).trans i5,(hbl5.cell (p:=⟨sb,off,none⟩) hsb).trans q0,(hbl5.cell (p:=⟨sb,off+1,none⟩) hsb).trans q1⟩;clear hst5 hbl5 hb5))|fail
     all_goals
      go_wp2_with fail
      go_ret2
      exact⟨⟨b5,pc,rfl,by rw [HR1.out];exact HST5.out,by rw [HR2.out];exact(HCV.out.below (Below.refl _ _).drew).below HBL5.out⟩,HBV.out.drew.trans (HBL5.out.mono HBV.out.size)⟩
    ·by_cases h10:x.op=10
     ·as_aux_lemma=>
      have HR1:Hid (RN=putV C (src0 x) 2):=Lib.hid (by rw [HNX.out,if_neg h9,if_pos h10])
      have HR2:Hid (RT=C):=Lib.hid (by rw [HTX.out,if_neg (by omega),if_neg (by omega)])
      obtain⟨hl0,p1,p2⟩:=HE.out.srcp (.inr h10)
      obtain⟨sb,off,hso,hsb,q0,q1,-,-⟩:=HIV.out.src.arg hl0
      subst hso
      have hsrc0:src0 x=x.src[0]:=by
       unfold src0
       rw [List.headD_eq_head?_getD,List.head?_eq_getElem?,List.getElem?_eq_getElem hl0];rfl
      rw [<-hsrc0]at q0 q1
      simp only [Nat.zero_mul,Nat.add_zero]at q0 q1
      have hput:=vput_any pc C (src0 x) 2 V HCV.out hcvl p1 (fun h=>by rw [HCY.out.1];exact p2 h)
      have HPUT:=Lib.hid hput
      have i3:=HIV.out.c3
      have hI1:(0:Int)<(x.src.length:Int):=by omega
      rw [h10]at i0
      clear hput hsrc0 h9 h10 p1 p2 HNX HTX HE
      generalize src0 x=a at *
      go_wp2_with fail
      refine HPUT.out.mono ?_
      rintro e w5 ⟨⟨b5,rfl,hb5,hst5⟩,hbl5⟩
      go_wp2_with fail
      go_ret2
      exact⟨⟨b5,pc,rfl,by rw [HR1.out];exact hst5,by rw [HR2.out];exact HCV.out.below hbl5⟩,HBV.out.trans (hbl5.mono HBV.out.size)⟩
     ·by_cases ha:x.op=15\/x.op=16\/x.op=18\/x.op=20\/x.op=22
      ·as_aux_lemma=>
       have HR1:Hid (RN=aloneV C):=Lib.hid (by rw [HNX.out,if_neg h9,if_neg h10,if_pos ha])
       have HR2:Hid (RT=C):=Lib.hid (by rw [HTX.out,if_neg (by omega),if_neg (by omega)])
       have HAL:=Lib.hid (valone_any pc C V HCV.out)
       clear HNX HTX HE h9 h10
       rcases ha with ha|ha|ha|ha|ha
       all_goals
        rw [ha]at i0
        clear ha
        go_wp2_with fail
        refine HAL.out.mono ?_
        rintro e w5 ⟨⟨b5,rfl,hb5,hst5⟩,hbl5⟩
        go_wp2_with fail
        go_ret2
        exact⟨⟨b5,pc,rfl,by rw [HR1.out];exact hst5,by rw [HR2.out];exact HCV.out.below hbl5⟩,HBV.out.trans (hbl5.mono HBV.out.size)⟩
      ·by_cases hp:x.op=37
       ·as_aux_lemma=>
        have HR1:Hid (RN=peekV C):=Lib.hid (by rw [HNX.out,if_neg h9,if_neg h10,if_neg ha,if_pos hp])
        have HR2:Hid (RT=⟨C.frame,[],List.replicate C.y.length 1,C.tries,false,1,C.frm⟩):=Lib.hid (by rw [HTX.out,if_pos hp];rfl)
        obtain⟨xo',xc',yo',yc',to2,tc2,c0,c1,c2,c3,c4,c5,c6,hLC⟩:=HCV.out.cells
        have HAL:=Lib.hid (valone_any pc C V HCV.out)
        have hyl:=hcvl.y
        rw [hp]at i0
        clear HNX HTX HE h9 h10 ha hp hLC c0 c1 c3 c4 c5 c6
        go_wp2_with fail
        refine HAL.out.mono ?_
        rintro e w5 ⟨⟨b5,rfl,hb5,hst5⟩,hbl5⟩
        have HBL5:=Lib.hid hbl5;have HB5:=Lib.hid hb5
        have d2:=(hbl5.cell (p:=⟨pc,2,none⟩) HCV.out.lt).trans c2
        have hany:=vanys_any (C.y.length:Int) w5 ⟨by omega,by omega⟩
        have HANY:=Lib.hid hany;have HST5:=Lib.hid hst5
        clear hany hst5 hbl5 hb5 c2
        go_wp2_with fail
        refine HANY.out.mono ?_
        rintro e w6 ⟨⟨ya,yk,rfl,hyi,hyk⟩,hb6⟩
        rw [anysV_len]at hyk ⊢
        obtain⟨ao6,ac6,bo6,bc6,to6,tc6,hr6,hL6⟩:=HST5.out.below hb6
        refine zzK5 hr6 hL6 hyi hyk hb6 fun HR6 HL6 HYI HYK HB6=>?_
        have z2:=cellOf hr6 (k:=2) (by simp [stRow])
        have y2:w6.frozen? ⟨b5,2,none⟩=false:=frozen_of_row _ _ _ _ _ hr6
        have z5:=cellOf hr6 (k:=5) (by simp [stRow])
        have y5:w6.frozen? ⟨b5,5,none⟩=false:=frozen_of_row _ _ _ _ _ hr6
        clear hr6 hL6 hyi hyk hb6 d2
        go_upto_region 25 with fail
        have hr7:=heap_setCell_same _ b5 5 _ _ (.int .i64 2) (heap_setCell_same _ b5 2 _ _ (.slice ya C.y.length yk) HR6.out)
        have hX1:Below w5.heap.size w5 ((w6.setCell ⟨b5,2,none⟩ (.slice ya C.y.length yk)).setCell ⟨b5,5,none⟩ (.int .i64 2))->True:=fun _=>trivial
        have hVV:Below V.heap.size V ((w6.setCell ⟨b5,2,none⟩ (.slice ya C.y.length yk)).setCell ⟨b5,5,none⟩ (.int .i64 2)):=((HBL5.out.trans (HB6.out.mono HBL5.out.size)).setCell (p:=⟨b5,2,none⟩) HB5.out _).setCell (p:=⟨b5,5,none⟩) HB5.out _
        have hyi7:=(HYI.out.setFar (i:=2) (v:=.slice ya C.y.length yk) HR6.out (by decide)).setFar (i:=5) (v:=.int .i64 2) (heap_setCell_same _ b5 2 _ _ (.slice ya C.y.length yk) HR6.out) (by decide)
        have hxi7:=(HL6.out.x.setFar (i:=2) (v:=.slice ya C.y.length yk) HR6.out (by decide)).setFar (i:=5) (v:=.int .i64 2) (heap_setCell_same _ b5 2 _ _ (.slice ya C.y.length yk) HR6.out) (by decide)
        have hti7:=(HL6.out.t.setFar (i:=2) (v:=.slice ya C.y.length yk) HR6.out (by decide)).setFar (i:=5) (v:=.int .i64 2) (heap_setCell_same _ b5 2 _ _ (.slice ya C.y.length yk) HR6.out) (by decide)
        generalize(w6.setCell ⟨b5,2,none⟩ (.slice ya C.y.length yk)).setCell ⟨b5,5,none⟩ (.int .i64 2)=X at *
        clear hX1 z2 y2 z5 y5
        refine zzK5 hr7 hVV hyi7 hxi7 hti7 fun HR7 HVV HYI7 HXI7 HTI7=>?_
        have c0:=cellOf hr7 (k:=0) (by simp [stRow]);have c1:=cellOf hr7 (k:=1) (by simp [stRow]);have c2:=cellOf hr7 (k:=2) (by simp [stRow]);have c3:=cellOf hr7 (k:=3) (by simp [stRow])
        have c4:=cellOf hr7 (k:=4) (by simp [stRow]);have c5:=cellOf hr7 (k:=5) (by simp [stRow]);have c6:=cellOf hr7 (k:=6) (by simp [stRow])
        change X.cell? ⟨b5,0,none⟩=some (.int .i64 C.frame)at c0
        change X.cell? ⟨b5,1,none⟩=some (.slice ao6 1 ac6)at c1
        change X.cell? ⟨b5,2,none⟩=some (.slice ya C.y.length yk)at c2
        change X.cell? ⟨b5,3,none⟩=some (.slice to6 C.tries.length tc6)at c3
        change X.cell? ⟨b5,4,none⟩=some (.bool false)at c4
        change X.cell? ⟨b5,5,none⟩=some (.int .i64 2)at c5
        change X.cell? ⟨b5,6,none⟩=some (.int .i64 C.frm)at c6
        clear hr7 hVV hyi7 hxi7 hti7
        have e8:=heap_alloc_new X (.cells #[.int .i64 C.frame,.slice ao6 1 ac6,.slice ya C.y.length yk,.slice to6 C.tries.length tc6,.bool false,.int .i64 2,.int .i64 C.frm] 236)
        have hB8:=(Below.refl X.heap.size X).alloc (Nat.le_refl _) (.cells #[.int .i64 C.frame,.slice ao6 1 ac6,.slice ya C.y.length yk,.slice to6 C.tries.length tc6,.bool false,.int .i64 2,.int .i64 C.frm] 236)
        go_upto_region 26 with fail
        generalize X.alloc (.cells #[.int .i64 C.frame,.slice ao6 1 ac6,.slice ya C.y.length yk,.slice to6 C.tries.length tc6,.bool false,.int .i64 2,.int .i64 C.frm] 236)=Y at *
        have v1:=cellOf e8 (k:=1) (by simp);have v2:Y.frozen? ⟨X.heap.size,1,none⟩=false:=frozen_of_row _ _ _ _ _ e8
        have v3:=cellOf e8 (k:=5) (by simp);have v4:Y.frozen? ⟨X.heap.size,5,none⟩=false:=frozen_of_row _ _ _ _ _ e8
        have HE8:=Lib.hid e8
        have hbl:Below X.heap.size X ((Y.setCell ⟨X.heap.size,1,none⟩ (.slice none 0 0)).setCell ⟨X.heap.size,5,none⟩ (.int .i64 1)):=(hB8.setCell (p:=⟨X.heap.size,1,none⟩) (Nat.le_refl _) _).setCell (p:=⟨X.heap.size,5,none⟩) (Nat.le_refl _) _
        have HBL:=Lib.hid hbl
        clear hbl hB8 e8 c0 c1 c2 c3 c4 c5 c6
        go_wp2_with fail
        go_ret2
        refine⟨⟨b5,X.heap.size,rfl,?_,?_⟩,HBV.out.trans ((HVV.out.trans (HBL.out.mono HVV.out.size)).mono HBV.out.size)⟩
        ·rw [HR1.out]
         refine StAt.below ⟨ao6,ac6,ya,yk,to6,tc6,?_,⟨HXI7.out,?_,HTI7.out,HL6.out.xl,?_,HL6.out.tl⟩⟩ HBL.out
         ·rw [HR7.out];unfold stRow peekV aloneV;simp only [List.length_replicate];rfl
         ·have h:=HYI7.out;unfold anysV at h;rw [Int.toNat_natCast]at h;exact h
         ·show(List.replicate C.y.length 1).length<=yk;rw [List.length_replicate];exact HYK.out
        ·rw [HR2.out]
         refine⟨none,0,ya,yk,to6,tc6,(heap_setCell_same _ _ 5 _ _ _ (heap_setCell_same _ _ 1 _ _ _ HE8.out)).trans ?_,⟨.inl rfl,?_,HTI7.out.below HBL.out,Nat.le_refl _,?_,HL6.out.tl⟩⟩
         ·unfold stRow;simp only [List.length_replicate];rfl
         ·have h:=HYI7.out.below HBL.out;unfold anysV at h;rw [Int.toNat_natCast]at h;exact h
         ·show(List.replicate C.y.length 1).length<=yk;rw [List.length_replicate];exact HYK.out
       ·by_cases h24:x.op=24
        ·as_aux_lemma=>
         have HR1:Hid (RN= {N with frame:=x.n,y:=anysV x.n}):=Lib.hid (by rw [HNX.out,if_neg h9,if_neg h10,if_neg ha,if_neg hp,if_pos h24])
         have HR2:Hid (RT=C):=Lib.hid (by rw [HTX.out,if_neg (by omega),if_neg (by omega)])
         obtain⟨g1,g2⟩:=HE.out.frm h24
         have hany:=vanys_any x.n V.drew ⟨by omega,by omega⟩
         have HANY:=Lib.hid hany
         have i5:=HIV.out.c5
         have hbV:=HIV.out.lt
         have hbZ:b<Z:=by rw [<-HZ.out];exact Nat.lt_of_lt_of_le (Nat.lt_of_lt_of_le HI.out.lt (Nat.le_refl _)) HW4.out.size
         have hbz:b≠Z:=Nat.ne_of_lt hbZ
         rw [h24]at i0
         clear HNX HTX HE h9 h10 ha hp h24 hany
         generalize x.n=fn at *
         go_upto_region 29 with fail
         have KS:Hid (V.drew.cell? ⟨b,o+5,none⟩=some (.int .i64 fn)):=Lib.hid i5
         first|go_region_held3 (fun w'=>w'.cell? ⟨b,o+5,none⟩=some (.int .i64 fn)) (first|with_reducible exact KS.out|with_reducible exact KS5.out|with_reducible exact(cell_far0 hbz).trans KS5.out|with_reducible exact(cell_far0 hbz).trans ((cell_far0 hbz).trans KS5.out))
          ((go_at_call 124;refine HANY.out.mono ?_;rintro e w5 ⟨⟨ya,yk,rfl,hyi,hyk⟩,hb5⟩;have hr5:=(hb5.block Z hz).trans HE1.out;refine zzK4 hr5 hb5 hyi hyk fun HR5 HB5 HYI HYK=>?_;have v0:=cellOf hr5 (k:=0) (by simp [stRow]);have v1:w5.frozen? ⟨Z,0,none⟩=false:=frozen_of_row _ _ _ _ _ hr5;have v2:=cellOf hr5 (k:=2) (by simp [stRow]);have v3:w5.frozen? ⟨Z,2,none⟩=false:=frozen_of_row _ _ _ _ _ hr5;have KS5:Hid (w5.cell? ⟨b,o+5,none⟩=some (.int .i64 fn)):=Lib.hid ((hb5.cell (p:=⟨b,o+5,none⟩) hbV).trans i5);clear hr5 hb5 hyi hyk))|fail
         all_goals
          go_wp2_with fail
          have hV:Below Z w4 ((w5.setCell ⟨Z,0,none⟩ (.int .i64 fn)).setCell ⟨Z,2,none⟩ (.slice ya (anysV fn).length yk)):=((HBZ.out.drew.trans (HB5.out.mono (Nat.le_of_lt hz))).setCell (p:=⟨Z,0,none⟩) (Nat.le_refl _) _).setCell (p:=⟨Z,2,none⟩) (Nat.le_refl _) _
          obtain⟨k1,k2,k3⟩:=HFAR.out _ hV
          refine zzK3 k1 k2 k3 fun K1 K2 K3=>?_
          clear hV k1 k2 k3
          go_ret2
          refine⟨⟨Z,pc,rfl,?_,by rw [HR2.out];exact K2.out⟩,K1.out⟩
          rw [HR1.out]
          refine⟨xo,xc,ya,yk,to',tc,heap_setCell_same _ Z 2 _ _ _ (heap_setCell_same _ Z 0 _ _ _ HR5.out),⟨K3.out.x,?_,K3.out.t,K3.out.xl,HYK.out,K3.out.tl⟩⟩
          exact(HYI.out.setFar HR5.out (by decide)).setFar (heap_setCell_same _ Z 0 _ _ _ HR5.out) (by decide)
        ·by_cases h25:x.op=25
         ·as_aux_lemma=>
          have HR1:Hid (RN= {N with frame:= -1,y:=[]}):=Lib.hid (by rw [HNX.out,if_neg h9,if_neg h10,if_neg ha,if_neg hp,if_neg h24,if_pos h25])
          have HR2:Hid (RT=C):=Lib.hid (by rw [HTX.out,if_neg (by omega),if_neg (by omega)])
          have z0:=cellOf HE1.out (k:=0) (by simp [stRow])
          have y0:V.frozen? ⟨Z,0,none⟩=false:=frozen_of_row _ _ _ _ _ HE1.out
          have z2:=cellOf HE1.out (k:=2) (by simp [stRow])
          have y2:V.frozen? ⟨Z,2,none⟩=false:=frozen_of_row _ _ _ _ _ HE1.out
          have hV:Below Z w4 ((V.setCell ⟨Z,0,none⟩ (.int .i64 (-1))).setCell ⟨Z,2,none⟩ (.slice none 0 0)):=((HBZ.out.setCell (p:=⟨Z,0,none⟩) (Nat.le_refl _) (.int .i64 (-1))).setCell (p:=⟨Z,2,none⟩) (Nat.le_refl _) (.slice none 0 0))
          obtain⟨k1,k2,k3⟩:=HFAR.out _ hV
          have hr:=(heap_setCell_same _ Z 2 _ _ (.slice none 0 0) (heap_setCell_same _ Z 0 _ _ (.int .i64 (-1)) HE1.out))
          refine zzK4 k1 k2 k3 hr fun K1 K2 K3 HRR=>?_
          clear hV k1 k2 k3 hr HNX HTX HE
          rw [h25]at i0
          clear h9 h10 ha hp h24 h25
          go_wp2_with fail
          go_ret2
          refine⟨⟨Z,pc,rfl,?_,by rw [HR2.out];exact K2.out⟩,K1.out⟩
          rw [HR1.out]
          exact⟨xo,xc,none,0,to',tc,HRR.out,⟨K3.out.x,.inl rfl,K3.out.t,K3.out.xl,Nat.le_refl _,K3.out.tl⟩⟩
         ·by_cases h28:x.op=28
          ·as_aux_lemma=>
           have HR1:Hid (RN= {N with tries:=C.tries++ [x.to]}):=Lib.hid (by rw [HNX.out,if_neg h9,if_neg h10,if_neg ha,if_neg hp,if_neg h24,if_neg h25,if_pos h28])
           have HR2:Hid (RT=C):=Lib.hid (by rw [HTX.out,if_neg (by omega),if_neg (by omega)])
           obtain⟨xo',xc',yo',yc',to2,tc2,c0,c1,c2,c3,c4,c5,c6,hLC⟩:=HCV.out.cells
           have HLC:=Lib.hid hLC
           have hl1:=hcvl.t
           obtain⟨i0',hi0,hzz0,hzz1,hzz2⟩:=info_parts infoInt
           have hpV:=HCV.out.lt
           have hbV:=HIV.out.lt
           have i4:=HIV.out.c4
           have hbz:b≠Z:=Nat.ne_of_lt (by rw [<-HZ.out];exact Nat.lt_of_lt_of_le (Nat.lt_of_lt_of_le HI.out.lt (Nat.le_refl _)) HW4.out.size)
           have hpcZ:pc≠Z:=by
            intro e
            obtain⟨_,hpc,_⟩:=HFAR.out V HBZ.out
            exact absurd (HPZ.out) (by omega)
           rw [h28]at i0
           clear HNX HTX HE h9 h10 ha hp h24 h25 h28 hLC c0 c1 c2 c4 c5 c6
           generalize hH:V.heap.size=H at *
           have HH:=Lib.hid hH
           generalize x.to=xt at *
           generalize htn:C.tries.length=tn at *
           have HTN:=Lib.hid htn
           have HTA:Hid (IntsAt V.drew to2 C.tries):=Lib.hid (HLC.out.t.below (Below.refl _ _).drew)
           have HTB:Hid (IntsAt (V.alloc (.cells #[.int .i64 xt] 3)).drew to2 C.tries):=Lib.hid (HLC.out.t.below ((zzE _ _).drew))
           have KS:Hid (V.drew.cell? ⟨pc,3,none⟩=some (.slice to2 tn tc2)/\V.drew.cell? ⟨b,o+4,none⟩=some (.int .i64 xt)):=Lib.hid ⟨c3,i4⟩
           have hba:Below H V (V.alloc (.cells #[.int .i64 xt] 3)).drew:=by rw [<-hH];exact(zzE _ _).drew
           have HBA:=Lib.hid hba
           have KA:Hid ((V.alloc (.cells #[.int .i64 xt] 3)).drew.cell? ⟨pc,3,none⟩=some (.slice to2 tn tc2)/\(V.alloc (.cells #[.int .i64 xt] 3)).drew.cell? ⟨b,o+4,none⟩=some (.int .i64 xt)):=Lib.hid ⟨(hba.cell (p:=⟨pc,3,none⟩) hpV).trans c3,(hba.cell (p:=⟨b,o+4,none⟩) hbV).trans i4⟩
           have HNA:Hid (∀(j:Nat) (u:Value),([Value.int .i64 xt]:List Value)[j]?=some u->(V.alloc (.cells #[.int .i64 xt] 3)).drew.cell? ((⟨H,0,none⟩:Addr).add j)=some u):=Lib.hid (by rw [<-hH];exact one_news _ _ _)
           have HBX:Hid (H<(V.alloc (.cells #[.int .i64 xt] 3)).drew.heap.size):=Lib.hid (by rw [<-hH];exact lt_of_row (heap_alloc_new V (.cells #[.int .i64 xt] 3)))
           clear hba hH htn
           go_upto_region 33 with fail
           have hB5: ∀w5,Below V.drew.heap.size V.drew w5->Below H V w5:=fun w5 h=>by rw [<-HH.out];exact(Below.refl V.heap.size V).drew.trans h
           have hCA:=vclone_any C.tries to2 tc2 V.drew HTA.out (by rw [HTN.out];exact hl1)
           have hCB:=vclone_any C.tries to2 tc2 (V.alloc (.cells #[.int .i64 xt] 3)).drew HTB.out (by rw [HTN.out];exact hl1)
           rw [HTN.out]at hCA hCB
           have HCA:Hid (Calls Tryz.prog 178 #[.slice to2 tn tc2] V.drew fun e w5=> ∃ao5 ac5,e= .returned (.slice ao5 tn ac5)/\Hid (w5.cell? ⟨pc,3,none⟩=some (.slice to2 tn tc2)/\w5.cell? ⟨b,o+4,none⟩=some (.int .i64 xt))/\Hid ((w5.alloc (.cells #[.int .i64 xt] 3)).cell? ⟨pc,3,none⟩=some (.slice to2 tn tc2)/\(w5.alloc (.cells #[.int .i64 xt] 3)).cell? ⟨b,o+4,none⟩=some (.int .i64 xt)) /\
             Hid (Below H V (w5.alloc (.cells #[.int .i64 xt] 3)))/\Hid (World.ownsRow (w5.alloc (.cells #[.int .i64 xt] 3)) H 3 1 (.slice ao5 tn ac5) C.tries.length (C.tries.map (Value.int .i64)))/\Hid (∀(j:Nat) (u:Value),([Value.int .i64 xt]:List Value)[j]?=some u->(w5.alloc (.cells #[.int .i64 xt] 3)).cell? ((⟨w5.heap.size,0,none⟩:Addr).add j)=some u)):=Lib.hid (by
            refine hCA.mono ?_
            rintro e w5 ⟨⟨v5,rfl,ho5⟩,hb5⟩
            obtain⟨ao5,ac5,rfl,-,-⟩:=ho5.ints
            have h1:=hB5 w5 hb5
            have h2:Below H V (w5.alloc (.cells #[.int .i64 xt] 3)):=h1.alloc (by rw [<-HH.out];exact h1.size) _
            refine⟨ao5,ac5,by rw [HTN.out],Lib.hid ⟨(h1.cell (p:=⟨pc,3,none⟩) hpV).trans c3,(h1.cell (p:=⟨b,o+4,none⟩) hbV).trans i4⟩,Lib.hid ⟨(h2.cell (p:=⟨pc,3,none⟩) hpV).trans c3,(h2.cell (p:=⟨b,o+4,none⟩) hbV).trans i4⟩,Lib.hid h2,Lib.hid ?_,Lib.hid (one_news _ _ _)⟩
            have h3:OwnI w5 V.heap.size (.slice ao5 C.tries.length ac5) C.tries:=ho5
            rw [HH.out,HTN.out]at h3
            unfold OwnI at h3
            rw [HTN.out]at h3 ⊢
            exact World.ownsRow.alloc h3 _)
           have HCB:Hid (Calls Tryz.prog 178 #[.slice to2 tn tc2] (V.alloc (.cells #[.int .i64 xt] 3)).drew fun e w5=> ∃ao5 ac5,e= .returned (.slice ao5 tn ac5)/\Hid (w5.cell? ⟨pc,3,none⟩=some (.slice to2 tn tc2)/\w5.cell? ⟨b,o+4,none⟩=some (.int .i64 xt)) /\
             Hid (Below H V w5)/\Hid (World.ownsRow w5 H 3 1 (.slice ao5 tn ac5) C.tries.length (C.tries.map (Value.int .i64)))/\Hid (∀(j:Nat) (u:Value),([Value.int .i64 xt]:List Value)[j]?=some u->w5.cell? ((⟨V.heap.size,0,none⟩:Addr).add j)=some u)):=Lib.hid (by
            refine hCB.mono ?_
            rintro e w5 ⟨⟨v5,rfl,ho5⟩,hb5⟩
            obtain⟨ao5,ac5,rfl,-,-⟩:=ho5.ints
            have hHs:H<=(V.alloc (.cells #[.int .i64 xt] 3)).drew.heap.size:=by rw [<-HH.out];exact HBA.out.size
            have h2:Below H V w5:=HBA.out.trans (hb5.mono hHs)
            refine⟨ao5,ac5,by rw [HTN.out],Lib.hid ⟨(h2.cell (p:=⟨pc,3,none⟩) hpV).trans c3,(h2.cell (p:=⟨b,o+4,none⟩) hbV).trans i4⟩,Lib.hid h2,Lib.hid (by rw [<-HTN.out];exact ho5.mono hHs),Lib.hid (by rw [HH.out];exact news_below HNA.out hb5 HBX.out)⟩)
           clear hCA hCB hB5
           have w63:tn+1<=maxLen:=by unfold maxLen;omega
           have wby:(tn+1)*8<=140737488355328:=by omega
           have wn1: ∀u∈ [Value.int .i64 xt],u.oneCell'=true:=by simp [Value.oneCell']
           have wd:(0:Nat)<1:=by decide
           go_region_held3 (fun w'=>w'.cell? ⟨pc,3,none⟩=some (.slice to2 tn tc2)/\w'.cell? ⟨b,o+4,none⟩=some (.int .i64 xt)) (first|with_reducible exact KS.out|with_reducible exact KA.out|with_reducible exact KB.out|with_reducible exact KC.out|with_reducible exact KD.out|with_reducible exact⟨(cell_far0 hpcZ).trans KD.out.1,(cell_far0 hbz).trans KD.out.2⟩)
            (first
             |(go_at_call 178;(with_reducible refine HCA.out.mono ?_);rintro e w5 ⟨ao5,ac5,rfl,KB,KC,HBL,HO,HNW⟩)
             |(go_at_call 178;(with_reducible refine HCB.out.mono ?_);rintro e w5 ⟨ao5,ac5,rfl,KC,HBL,HO,HNW⟩)
             |(refine step_append_lies _ (by rfl) (.tmp 153) (.tmp 158) 233 (by rfl) H 3 i0' (.int .i64 0) 1 8 Tryz.underlying233 hi0 hzz0 hzz1 hzz2 (by rfl) wd _ _ _ (by rfl) HO.out _ 1 1 [.int .i64 xt] (by rfl) (by rfl) HNW.out wn1 wd (by rw [HTN.out];exact w63) (by rw [HTN.out];exact wby) (by rw [<-HH.out];exact HBL.out.size) _ rfl ?_;intro g7 cap7 w7 hown7 hgrow7 hat7 hlt7;have hbl7:Below H V w7:=HBL.out.grown hgrow7 (by rw [<-HH.out];exact HBL.out.size) (fun k e=>(World.ownsRow.lt HO.out k e).1);have KD:Hid (w7.cell? ⟨pc,3,none⟩=some (.slice to2 tn tc2)/\w7.cell? ⟨b,o+4,none⟩=some (.int .i64 xt)):=Lib.hid ⟨(hbl7.cell (p:=⟨pc,3,none⟩) hpV).trans c3,(hbl7.cell (p:=⟨b,o+4,none⟩) hbV).trans i4⟩;have hr7:=(hbl7.block Z hz).trans HE1.out;refine zzK3 hr7 hbl7 hown7 fun HR7 HBL7 HOW7=>?_;have v0:=cellOf hr7 (k:=3) (by simp [stRow]);have v1:w7.frozen? ⟨Z,3,none⟩=false:=frozen_of_row _ _ _ _ _ hr7;rw [HTN.out];clear hr7 hbl7 hown7 hgrow7 hat7 hlt7))
           all_goals
            have hown8:=own_ints HOW7.out
            have HOW8:=Lib.hid hown8
            have hV:Below Z w4 (w7.setCell ⟨Z,3,none⟩ (.slice (some ⟨g7,0,none⟩) (tn+1) cap7)):=(HBZ.out.trans (HBL7.out.mono (Nat.le_of_lt hz))).setCell (p:=⟨Z,3,none⟩) (Nat.le_refl _) _
            obtain⟨k1,k2,k3⟩:=HFAR.out _ hV
            refine zzK3 k1 k2 k3 fun K1 K2 K3=>?_
            clear hV k1 k2 k3 hown8
            go_wp2_with fail
            go_ret2
            refine⟨⟨Z,pc,rfl,?_,by rw [HR2.out];exact K2.out⟩,K1.out⟩
            rw [HR1.out]
            have hlt:(C.tries++ [xt]).length=tn+1:=by rw [List.length_append,HTN.out];rfl
            refine⟨xo,xc,yo,yc,some ⟨g7,0,none⟩,cap7,(heap_setCell_same _ Z 3 _ _ _ HR7.out).trans ?_,⟨K3.out.x,K3.out.y,?_,K3.out.xl,K3.out.yl,?_⟩⟩
            ·unfold stRow;simp only [hlt];rfl
            ·exact HOW8.out.1.setFar HR7.out (by decide)
            ·exact HOW8.out.2
          ·by_cases h29:x.op=29
           ·as_aux_lemma=>
            have HR1:Hid (RN= {N with tries:=C.tries.take (C.tries.length-1)}):=Lib.hid (by rw [HNX.out,if_neg h9,if_neg h10,if_neg ha,if_neg hp,if_neg h24,if_neg h25,if_neg h28,if_pos h29])
            have HR2:Hid (RT=C):=Lib.hid (by rw [HTX.out,if_neg (by omega),if_neg (by omega)])
            have hne:C.tries≠ []:=by rw [HCY.out.2.1];exact HE.out.tri h29
            obtain⟨xo',xc',yo',yc',to2,tc2,c0,c1,c2,c3,c4,c5,c6,hLC⟩:=HCV.out.cells
            have HLC:=Lib.hid hLC
            have hpcZ:pc≠Z:=by
             intro e
             obtain⟨_,hpc,_⟩:=HFAR.out V HBZ.out
             exact absurd (HPZ.out) (by omega)
            obtain⟨n,hn⟩: ∃n,C.tries.length=n+1:=⟨C.tries.length-1,by have:=List.length_pos_iff.2 hne;omega⟩
            obtain⟨tb,tf,hto,-,-⟩:=hLC.t.cell (k:=n) (by omega)
            subst hto
            have htl:=hLC.tl
            have hl1:=hcvl.t
            have hw:IntKind.i64.wrap (((n+1:Nat):Int)-1)=(n:Int):=by rw [IntKind.wrap_i64];omega
            have hw2:IntKind.i64.wrap (n:Int)=(n:Int):=by rw [IntKind.wrap_i64];omega
            rw [hn]at c3 htl
            have z3:=cellOf HE1.out (k:=3) (by simp [stRow])
            have y3:V.frozen? ⟨Z,3,none⟩=false:=frozen_of_row _ _ _ _ _ HE1.out
            rw [h29]at i0
            clear HNX HTX HE h9 h10 ha hp h24 h25 h28 h29 hLC c0 c1 c2 c4 c5 c6
            have hI0:(0:Int)<=(n:Int):=by omega
            have hI1:(n:Int)<=((n+1:Nat):Int):=by omega
            have hI2:(n:Int)<=(tc2:Int):=by omega
            go_upto_region 35 with fail
            have KS:Hid (V.drew.cell? ⟨pc,3,none⟩=some (.slice (some ⟨tb,tf,none⟩) (n+1) tc2)):=Lib.hid c3
            have KT:Hid ((V.setCell ⟨Z,3,none⟩ (.slice (some ⟨tb,tf,none⟩) n tc2)).drew.cell? ⟨pc,3,none⟩=some (.slice (some ⟨tb,tf,none⟩) (n+1) tc2)):=Lib.hid ((cell_far hpcZ).trans c3)
            first|go_region_held3 (fun w'=>w'.cell? ⟨pc,3,none⟩=some (.slice (some ⟨tb,tf,none⟩) (n+1) tc2)) (first|with_reducible exact KS.out|with_reducible exact KT.out) (fail)|fail
            go_wp2_with fail
            have hV:Below Z w4 ((V.setCell ⟨Z,3,none⟩ (.slice (some ⟨tb,tf,none⟩) n tc2)).drew):=(HBZ.out.setCell (p:=⟨Z,3,none⟩) (Nat.le_refl _) _).drew
            obtain⟨k1,k2,k3⟩:=HFAR.out _ hV
            refine zzK3 k1 k2 k3 fun K1 K2 K3=>?_
            clear hV k1 k2 k3
            go_ret2
            refine⟨⟨Z,pc,rfl,?_,by rw [HR2.out];exact K2.out⟩,K1.out⟩
            rw [HR1.out]
            have hlt:(C.tries.take (C.tries.length-1)).length=n:=by rw [List.length_take,hn];omega
            refine⟨xo,xc,yo,yc,some ⟨tb,tf,none⟩,tc2,(heap_setCell_same V Z 3 _ _ _ HE1.out).trans ?_,⟨K3.out.x,K3.out.y,?_,K3.out.xl,K3.out.yl,?_⟩⟩
            ·unfold stRow;simp only [hlt];rfl
            ·exact((HLC.out.t.take (C.tries.length-1)).setFar HE1.out (by decide)).heap rfl
            ·show(C.tries.take (C.tries.length-1)).length<=tc2;rw [hlt];omega
           ·by_cases h30:x.op=30
            ·as_aux_lemma=>
             have HR1:Hid (RN= {N with mt:=true}):=Lib.hid (by rw [HNX.out,if_neg h9,if_neg h10,if_neg ha,if_neg hp,if_neg h24,if_neg h25,if_neg h28,if_neg h29,if_pos h30])
             have HR2:Hid (RT=C):=Lib.hid (by rw [HTX.out,if_neg (by omega),if_neg (by omega)])
             have z4:=cellOf HE1.out (k:=4) (by simp [stRow])
             have y4:V.frozen? ⟨Z,4,none⟩=false:=frozen_of_row _ _ _ _ _ HE1.out
             have hV:Below Z w4 (V.setCell ⟨Z,4,none⟩ (.bool true)):=(HBZ.out.setCell (p:=⟨Z,4,none⟩) (Nat.le_refl _) (.bool true))
             obtain⟨k1,k2,k3⟩:=HFAR.out _ hV
             have hr:=(heap_setCell_same _ Z 4 _ _ (.bool true) HE1.out)
             refine zzK4 k1 k2 k3 hr fun K1 K2 K3 HRR=>?_
             clear hV k1 k2 k3 hr HNX HTX HE
             rw [h30]at i0
             clear h9 h10 ha hp h24 h25 h28 h29 h30
             go_wp2_with fail
             go_ret2
             refine⟨⟨Z,pc,rfl,?_,by rw [HR2.out];exact K2.out⟩,K1.out⟩
             rw [HR1.out]
             exact⟨xo,xc,yo,yc,to',tc,HRR.out,⟨K3.out.x,K3.out.y,K3.out.t,K3.out.xl,K3.out.yl,K3.out.tl⟩⟩
            ·by_cases h36:x.op=36
             ·as_aux_lemma=>
              have HR1:Hid (RN= {N with recv:=1,frm:=i}):=Lib.hid (by rw [HNX.out,if_neg h9,if_neg h10,if_neg ha,if_neg hp,if_neg h24,if_neg h25,if_neg h28,if_neg h29,if_neg h30,if_pos h36])
              have HR2:Hid (RT=C):=Lib.hid (by rw [HTX.out,if_neg (by omega),if_neg (by omega)])
              have z5:=cellOf HE1.out (k:=5) (by simp [stRow])
              have y5:V.frozen? ⟨Z,5,none⟩=false:=frozen_of_row _ _ _ _ _ HE1.out
              have z6:=cellOf HE1.out (k:=6) (by simp [stRow])
              have y6:V.frozen? ⟨Z,6,none⟩=false:=frozen_of_row _ _ _ _ _ HE1.out
              have hV:Below Z w4 ((V.setCell ⟨Z,5,none⟩ (.int .i64 1)).setCell ⟨Z,6,none⟩ (.int .i64 (i:Int))):=((HBZ.out.setCell (p:=⟨Z,5,none⟩) (Nat.le_refl _) (.int .i64 1)).setCell (p:=⟨Z,6,none⟩) (Nat.le_refl _) (.int .i64 (i:Int)))
              obtain⟨k1,k2,k3⟩:=HFAR.out _ hV
              have hr:=(heap_setCell_same _ Z 6 _ _ (.int .i64 (i:Int)) (heap_setCell_same _ Z 5 _ _ (.int .i64 1) HE1.out))
              refine zzK4 k1 k2 k3 hr fun K1 K2 K3 HRR=>?_
              clear hV k1 k2 k3 hr HNX HTX HE
              rw [h36]at i0
              have x2:=HXV.out.e2
              clear h9 h10 ha hp h24 h25 h28 h29 h30 h36
              go_wp2_with fail
              go_ret2
              refine⟨⟨Z,pc,rfl,?_,by rw [HR2.out];exact K2.out⟩,K1.out⟩
              rw [HR1.out]
              exact⟨xo,xc,yo,yc,to',tc,HRR.out,⟨K3.out.x,K3.out.y,K3.out.t,K3.out.xl,K3.out.yl,K3.out.tl⟩⟩
             ·by_cases h38:x.op=38\/x.op=40
              ·as_aux_lemma=>
               have HR1:Hid (RN= {N with recv:=0,frm:=0}):=Lib.hid (by rw [HNX.out,if_neg h9,if_neg h10,if_neg ha,if_neg hp,if_neg h24,if_neg h25,if_neg h28,if_neg h29,if_neg h30,if_neg h36,if_pos h38])
               have HR2:Hid (RT=C):=Lib.hid (by rw [HTX.out,if_neg (by omega),if_neg (by omega)])
               have z5:=cellOf HE1.out (k:=5) (by simp [stRow])
               have y5:V.frozen? ⟨Z,5,none⟩=false:=frozen_of_row _ _ _ _ _ HE1.out
               have z6:=cellOf HE1.out (k:=6) (by simp [stRow])
               have y6:V.frozen? ⟨Z,6,none⟩=false:=frozen_of_row _ _ _ _ _ HE1.out
               have hV:Below Z w4 ((V.setCell ⟨Z,5,none⟩ (.int .i64 0)).setCell ⟨Z,6,none⟩ (.int .i64 0)):=((HBZ.out.setCell (p:=⟨Z,5,none⟩) (Nat.le_refl _) (.int .i64 0)).setCell (p:=⟨Z,6,none⟩) (Nat.le_refl _) (.int .i64 0))
               obtain⟨k1,k2,k3⟩:=HFAR.out _ hV
               have hr:=(heap_setCell_same _ Z 6 _ _ (.int .i64 0) (heap_setCell_same _ Z 5 _ _ (.int .i64 0) HE1.out))
               refine zzK4 k1 k2 k3 hr fun K1 K2 K3 HRR=>?_
               clear hV k1 k2 k3 hr HNX HTX HE
               clear h9 h10 ha hp h24 h25 h28 h29 h30 h36
               rcases h38 with h38|h38
               all_goals
                rw [h38]at i0
                clear h38
                go_wp2_with fail
                go_ret2
                refine⟨⟨Z,pc,rfl,?_,by rw [HR2.out];exact K2.out⟩,K1.out⟩
                rw [HR1.out]
                exact⟨xo,xc,yo,yc,to',tc,HRR.out,⟨K3.out.x,K3.out.y,K3.out.t,K3.out.xl,K3.out.yl,K3.out.tl⟩⟩
              ·by_cases h39:x.op=39
               ·as_aux_lemma=>
                have HR1:Hid (RN=N):=Lib.hid (by rw [HNX.out,if_neg h9,if_neg h10,if_neg ha,if_neg hp,if_neg h24,if_neg h25,if_neg h28,if_neg h29,if_neg h30,if_neg h36,if_neg h38])
                have HR2:Hid (RT=⟨C.frame,C.x,C.y,C.tries,C.mt,1,C.frm⟩):=Lib.hid (by rw [HTX.out,if_neg (by omega),if_pos h39])
                obtain⟨xo',xc',yo',yc',to2,tc2,c0,c1,c2,c3,c4,c5,c6,hLC⟩:=HCV.out.cells
                have HLC:=Lib.hid hLC
                have e1:=heap_alloc_new V (.cells (stRow C xo' xc' yo' yc' to2 tc2) 236)
                have hB:=(Below.refl V.heap.size V).alloc (Nat.le_refl _) (.cells (stRow C xo' xc' yo' yc' to2 tc2) 236)
                change (V.alloc (.cells #[.int .i64 C.frame,.slice xo' C.x.length xc',.slice yo' C.y.length yc',.slice to2 C.tries.length tc2,.bool C.mt,.int .i64 C.recv,.int .i64 C.frm] 236)).heap[V.heap.size]?=_ at e1
                change Below V.heap.size V (V.alloc (.cells #[.int .i64 C.frame,.slice xo' C.x.length xc',.slice yo' C.y.length yc',.slice to2 C.tries.length tc2,.bool C.mt,.int .i64 C.recv,.int .i64 C.frm] 236))at hB
                rw [h39]at i0
                clear HNX HTX HE h9 h10 ha hp h24 h25 h28 h29 h30 h36 h38 h39 hLC
                go_upto_region 45 with fail
                generalize V.alloc (.cells #[.int .i64 C.frame,.slice xo' C.x.length xc',.slice yo' C.y.length yc',.slice to2 C.tries.length tc2,.bool C.mt,.int .i64 C.recv,.int .i64 C.frm] 236)=X at *
                have z5:=cellOf e1 (k:=5) (by simp [stRow])
                have y5:X.frozen? ⟨V.heap.size,5,none⟩=false:=frozen_of_row _ _ _ _ _ e1
                have hr:=heap_setCell_same _ V.heap.size 5 _ _ (.int .i64 1) e1
                have hbl:Below V.heap.size V (X.setCell ⟨V.heap.size,5,none⟩ (.int .i64 1)):=hB.setCell (p:=⟨V.heap.size,5,none⟩) (Nat.le_refl _) _
                have HRR:=Lib.hid hr;have HBL:=Lib.hid hbl
                clear hr hbl e1 hB c0 c1 c2 c3 c4 c5 c6
                go_wp2_with fail
                go_ret2
                refine⟨⟨pn,V.heap.size,rfl,by rw [HR1.out];exact HNV.out.below HBL.out,?_⟩,HBV.out.trans (HBL.out.mono HBV.out.size)⟩
                rw [HR2.out]
                exact⟨xo',xc',yo',yc',to2,tc2,HRR.out,⟨HLC.out.x.below HBL.out,HLC.out.y.below HBL.out,HLC.out.t.below HBL.out,HLC.out.xl,HLC.out.yl,HLC.out.tl⟩⟩
               ·as_aux_lemma=>
                have HR1:Hid (RN=N):=Lib.hid (by rw [HNX.out,if_neg h9,if_neg h10,if_neg ha,if_neg hp,if_neg h24,if_neg h25,if_neg h28,if_neg h29,if_neg h30,if_neg h36,if_neg h38])
                have HR2:Hid (RT=C):=Lib.hid (by rw [HTX.out,if_neg hp,if_neg h39])
                have u9:(x.op==9)=false:=by rw [beq_eq_false_iff_ne];omega
                have u10:(x.op==10)=false:=by rw [beq_eq_false_iff_ne];omega
                have u15:(x.op==15)=false:=by rw [beq_eq_false_iff_ne];omega
                have u16:(x.op==16)=false:=by rw [beq_eq_false_iff_ne];omega
                have u18:(x.op==18)=false:=by rw [beq_eq_false_iff_ne];omega
                have u20:(x.op==20)=false:=by rw [beq_eq_false_iff_ne];omega
                have u22:(x.op==22)=false:=by rw [beq_eq_false_iff_ne];omega
                have u37:(x.op==37)=false:=by rw [beq_eq_false_iff_ne];omega
                have u24:(x.op==24)=false:=by rw [beq_eq_false_iff_ne];omega
                have u25:(x.op==25)=false:=by rw [beq_eq_false_iff_ne];omega
                have u28:(x.op==28)=false:=by rw [beq_eq_false_iff_ne];omega
                have u29:(x.op==29)=false:=by rw [beq_eq_false_iff_ne];omega
                have u30:(x.op==30)=false:=by rw [beq_eq_false_iff_ne];omega
                have u36:(x.op==36)=false:=by rw [beq_eq_false_iff_ne];omega
                have u38:(x.op==38)=false:=by rw [beq_eq_false_iff_ne];omega
                have u40:(x.op==40)=false:=by rw [beq_eq_false_iff_ne];omega
                have u39:(x.op==39)=false:=by rw [beq_eq_false_iff_ne];omega
                clear HNX HTX HE h9 h10 ha hp h24 h25 h28 h29 h30 h36 h38 h39
                generalize x.op=op at *
                go_wp2_with fail
                go_ret2
                exact⟨⟨pn,pc,rfl,by rw [HR1.out];exact HNV.out,by rw [HR2.out];exact HCV.out⟩,HBV.out⟩
end Go.Proofs.YtponljdhfoipjaaGreatDoor
