import Derived.Test.YthajedcbgnloeaaGreatDoorW12
import Derived.Test.YthajedcbgnloeaaGreatDoorW14
import Derived.Test.YthajedcbgnloeaaGreatDoorW15
namespace Go.Proofs.YthajedcbgnloeaaGreatDoor
open Go.RowKit
set_option linter.unusedVariables false
set_option linter.unusedSimpArgs false
set_option maxRecDepth 100000
set_option maxHeartbeats 0
def zlY (u:RUnit) (mb i N:Nat) (s:VSt) (x:RIns) (M:Nat->Option VM) (w:World) (e:Ending) (w':World):Prop:=
 e= .returned (.int .i64 (zbN u i s x (stM M)))/\AddK mb w w'/\(zbN u i s x (stM M)=0->MeetI w' mb u.code.length (i+1) (N+1200) ((zbL u i s x).foldl zX M))
theorem zqG {i k : Nat} {x : RIns} : goB i x (k : Int) = (decide ((i : Int) + 1 < (k : Int)) || (((k : Int) == (i : Int) + 1) && ((x.to == (k : Int) && (x.op != 28)) || x.cases.any (zcO k)))) := by
 unfold goB zcO;have e1:decide ((k:Int)=(i:Int)+1)=((k:Int)==(i:Int)+1):=by rw [Bool.eq_iff_iff];simp
 have e2:decide (x.to=(k:Int))=(x.to==(k:Int)):=by rw [Bool.eq_iff_iff];simp
 have e3 : (!decide (x.op = 28)) = (x.op != 28) := by rw [Bool.eq_iff_iff]; simp
 have e4:(fun c:RCase=>decide (c.to=(k:Int)))=fun c=>c.to==(k:Int):=by funext c;rw [Bool.eq_iff_iff];simp
 rw [e1,e2,e3,e4]
structure PsAt (wx:World) (B cb o i k:Nat) (x:RIns) (co':Option Addr) (cc':Nat):Prop where
 kb:wx.cell? ⟨B,0,none⟩=some (.int .i64 k)
 lt:B<wx.heap.size
 c0:wx.cell? ⟨cb,o,none⟩=some (.int .i64 x.op)
 c4:wx.cell? ⟨cb,o+4,none⟩=some (.int .i64 x.to)
 c8:wx.cell? ⟨cb,o+8,none⟩=some (.slice co' x.cases.length cc')
 cs:SlAt wx 2 zed co' x.cases
abbrev HandS (w:World) (E p tb to' h:Nat) (ev:Value) (f:Int) (yv tv:Value):Prop:=w.cell? ⟨E,1,none⟩=some ev/\w.cell? ⟨p,0,none⟩=some (.int .i64 f)/\w.cell? ⟨p,2,none⟩=some yv/\w.cell? ⟨p,3,none⟩=some tv/\w.cell? ⟨tb,to',none⟩=some (.int .i64 h)
theorem znB (w0:World) (E U mb p i N:Nat) (u:RUnit) (lo fo go:zzA) (cb cf:Nat) (lc fc gc cc mc:Nat) (s:VSt) (x:RIns) (M:Nat->Option VM) (w:World)
  (hx:VEnv w0 w E U mb i u lo fo go (some ⟨cb,cf,none⟩) lc fc gc cc mc) (hm:MeetI w mb u.code.length i N M) (hs:StAt w p s) (hS:SInv u.code.length i s) (hi:i<u.code.length) (hxe:zcE u i=x) (hV:VIns u i x) (hc:zb1 u i s x=0) (hl:zcU u) (hn:u.code.length<=600000) (hN:N<=100000000000):
  Calls Tryz.prog 32 #[.pointer (some ⟨E,0,none⟩),.int .i64 i,.pointer (some ⟨p,0,none⟩)] w (zlY u mb i N s x M w):=by
 refine zzK7 hx hm hs hS hV hl (zmP hS hV hc) fun HX HM HS HSI HV HLL heff=>?_
 have hib: ∃so co' go' sc cc' gc',IBox w0 cb (cf+i*10) x so co' go' sc cc' gc':=by
  obtain⟨b,off,so,co',go',sc,cc',gc',e,h⟩:=zdl hx.up.code hi;injection e with e;injection e with e1 e2;subst e1;subst e2;have:u.code[i]=x:=by rw [<-hxe];unfold zcE;rw [zzq3 hi];rfl
  rw [this]at h;exact⟨so,co',go',sc,cc',gc',h⟩
 obtain⟨so,co',go',sc,cc',gc',hib⟩:=hib;have HIB:=zzH hib;have hmb:=hm.mb;obtain⟨PE,hPE⟩: ∃PE,PE=zbN u i s x (stM M):=⟨_,rfl⟩;have HPE:=zzH hPE;have HGOAL:Hid (∀e w',e= .returned (.int .i64 PE)/\AddK mb w w'/\(PE=0->MeetI w' mb u.code.length (i+1) (N+1200) ((zbL u i s x).foldl zX M))->zlY u mb i N s x M w e w'):=zzH (fun e w' h=>by rw [hPE]at h;exact h);have x0:=hx.cx.e0;have x5:=(hx.bx.below hx.bl).c5;have hI0:(0:Int)<=(i:Int):=by omega
 have hI1:(i:Int)<(u.code.length:Int):=by omega
 have HEF:=zzH (zj2 E U mb p cb (cf+i*10) i u lo fo go (some ⟨cb,cf,none⟩) lc fc gc cc mc x s so co' go' sc cc' gc' w hx.cx (hib.below hx.bl) hs (hS.ok (by omega)) hl heff.out);clear hPE hx hm hs hS hV hl hc hib heff;go_in;go_wp2_with fail;refine HEF.out.mono ?_;rintro e w1 ⟨⟨bn,bt,rfl,hsn,hst⟩,hb1⟩;have hx1:=HX.out.below hb1;refine zzK4 hx1 hb1 hsn hst fun HX1 HB1 HSN HST=>?_;have y0:=hx1.cx.e0;have y5:=(hx1.bx.below hx1.bl).c5;have HNX:=zzH (zny cb cf u.code.length cc i x so co' go' sc cc' gc' w1 (HIB.out.below hx1.bl) hi (by omega) HV.out.casesLen);clear hx1 hb1 hsn hst x0 x5 HEF;go_wp2_with fail;refine HNX.out.mono ?_;rintro e w2 ⟨⟨ks,ao,c,rfl,hki,hsu,hkl⟩,hb2⟩;refine zzK7 (HB1.out.trans (hb2.mono HB1.out.size)) (HX1.out.below hb2) (HSN.out.below hb2) (HST.out.below hb2) hki hsu hkl fun HB2 HX2 HSN2 HST2 HKI HSU HKL=>?_;have HM2:Hid (MeetI w2 mb u.code.length (i+1) N M):=zzH ((HM.out.below HB2.out).mono (Nat.le_succ i) (zzL N));have HS2:=zzH (HS.out.below HB2.out);have HADD:Hid (∀wx,AddK mb w2 wx->AddK mb w wx):=zzH (fun wx h=>(AddK.below (zzb hmb) HB2.out).trans h);obtain⟨t,ht⟩: ∃t,t=toV s x:=⟨_,rfl⟩;rw [<-ht]at HST2;have HTI:Hid (SInv u.code.length (i+1) t/\zA t.x=t.x):=zzH (by rw [ht];exact⟨(ziX HSI.out x).mono (Nat.le_succ i),(ziX HSI.out x).tx⟩);have HTT:=zzH ht;obtain⟨nx,hnx⟩: ∃nx,nx=zdj u i s x:=⟨_,rfl⟩;rw [<-hnx]at HSN2;have HNN:=zzH hnx;have HPS:=zzH (zpc (s:=s) (t:=t) hsu HV.out.jump HTI.out.2 hi M);clear y0 y5 hb2 hki hsu HNX HX1 HB1 HSN HST ht hnx;obtain⟨R,hR⟩: ∃R,R=zb3 i s t x ks M:=⟨_,rfl⟩;rw [<-hR]at HPS;have HR:=zzH hR;clear hR;go_wp2_with fail;go_loopw [40] (fun iv wr=> ∃(j:Nat) (Mj:Nat->Option VM),j<=ks.length/\iv= .int .i64 j/\Hid (R=zb3 i s t x (ks.drop j) Mj)/\Hid (MeetI wr mb u.code.length (i+1) (N+j) Mj)/\Hid (AddK mb w2 wr)) (fun iv _=>ks.length-(intOf iv).toNat)
 case atStart=>exact⟨0,M,zzZ _,rfl,zzH (by rw [List.drop_zero];exact HR.out),HM2,zzH (AddK.refl _ _)⟩
 case round=>
  obtain⟨j,Mj,hj,rfl,HRj,HMj,HAj⟩:=hrel;rename World=>wr
  by_cases hlt:j<ks.length
  ·as_aux_lemma=>
   obtain⟨kb,kf,hao,hkb,q0⟩:=(HKI.out.keep HAj.out.1).cell hlt;subst hao;have hkd:ks.getD j 0=ks[j]:=by rw [List.getD_eq_getElem?_getD,zzq3 hlt];rfl
   obtain⟨hkt,hk0,hk1⟩:=(HSU.out ks[j]).1 (zzM hlt);have hdr:ks.drop j=ks[j]::ks.drop (j+1):=List.drop_eq_getElem_cons hlt;rw [hkd]at q0;obtain⟨k,hk⟩:=zzJ hk0;rw [hk]at q0 hk1 hdr;have HDR:=zzH hdr;have hkn:k<u.code.length:=by omega
   have hK0:(0:Int)<=(k:Int):=by omega
   have hK1:(k:Int)<(u.code.length:Int):=by omega
   have hJ0:(0:Int)<=(j:Int):=by omega
   have hJ1:(j:Int)<(ks.length:Int):=by omega
   clear hkd hkt hk0 hk1 hdr hk;have hal:=(zzR wr.heap.size wr).alloc (zzL _) (.cells #[.int .i64 k] 3);have hbox:=zzF wr (.cells #[.int .i64 k] 3);go_upto_region 6 with fail;generalize wr.alloc (.cells #[.int .i64 k] 3)=W at *;generalize hBe:wr.heap.size=B at *;have HBE:=zzH hBe;clear hBe;have HW:=zzH hal;have HBX:=zzH hbox;have hMj:MeetI W mb u.code.length (i+1) (N+j) Mj:=HMj.out.below (by rw [HBE.out];exact hal);have hAj:AddK mb w2 W:=HAj.out.trans (AddK.below (zzb HMj.out.mb) (by rw [HBE.out];exact hal));have HMW:=zzH hMj;have HAW:=zzH hAj;have hxW:=HX2.out.add hAj.1 hAj.2;have HXW:=zzH hxW;have hibW:=HIB.out.below hxW.bl;have HPA:Hid (PsAt W B cb (cf+i*10) i k x co' cc'):=zzH ⟨by rw [zzq0 _ _ _ _ _ _ hbox];rfl,zd hbox,hibW.c0,hibW.c4,hibW.c8,hibW.cases⟩;have hz0:=HPA.out.kb;have HGE:=zzH (zqG (i:=i) (k:=k) (x:=x));have hcon:=ziq x.cases co' cc' k B;have hcl:=HV.out.casesLen;generalize hgo:goB i x (k:Int)=gb at *;have HGO:=zzH hgo;have hw1:IntKind.i64.wrap ((i:Int)+1)=(i:Int)+1:=by rw [zzq2];omega
   clear hal hbox hMj hAj hxW hibW q0 hgo hkb;go_cut [44] (fun v wx=>v= .bool gb/\Hid (Below W.heap.size W wx))
   case first=>
    as_aux_lemma=>
    have p0:=HPA.out.c0;have p4:=HPA.out.c4;have p8:=HPA.out.c8;by_cases c1:(i:Int)+1<(k:Int)
    ·have u1:decide ((i:Int)+1<(k:Int))=true:=zzT c1
     have u2:decide (i+1<k)=true:=zzT (by omega);have E:Hid (gb=true):=zzH (by rw [HGE.out,u1];rfl);clear c1 hcon;exact zz105
    ·have u1:decide ((i:Int)+1<(k:Int))=false:=zzD c1
     have u2:decide (i+1<k)=false:=zzD (by omega);by_cases c2:(k:Int)=(i:Int)+1
     ·have u3:((k:Int)==(i:Int)+1)=true:=zzl.2 c2
      have u3':(k==i+1)=true:=zzl.2 (by omega);generalize hb1:(x.to==(k:Int))=b1 at *;generalize hb2 : (x.op != 28) = b2 at *;have HGE2:Hid (gb=(b1&&b2||x.cases.any (zcO k))):=zzH (by rw [HGE.out,u1,u3];rfl);clear HGE c1 c2
      cases hb12:(b1&&b2)with
      |true=>
       obtain⟨rfl,rfl⟩:b1=true/\b2=true:=by simpa using hb12
       have E:Hid (gb=true):=zzH (by rw [HGE2.out];rfl);clear hcon hb12 HGE2;exact zz105
      |false=>
       have hcon2:=hcon W.drew HPA.out.lt HPA.out.kb (HPA.out.cs.mono (zzR _ _).drew (fun _ _ h=>h)) hcl;have E:Hid (gb=x.cases.any (zcO k)):=zzH (by rw [HGE2.out,hb12];rfl);have hmf: ∀(fn:Fn) (first cap:Array Value) (w:World),(Instr.makeFunc fn first cap).run Tryz.prog w= .ok (.func fn first cap) w:=fun _ _ _ _=>rfl
       have HCON:=zzH hcon2;have hlB:=HPA.out.lt;have hlC:cb<W.heap.size:=zzW HIB.out.lt HXW.out.bl.size;have KS:Hid (W.drew.cell? ⟨B,0,none⟩=some (.int .i64 k)/\W.drew.cell? ⟨cb,cf+i*10,none⟩=some (.int .i64 x.op)/\W.drew.cell? ⟨cb,cf+i*10+4,none⟩=some (.int .i64 x.to)/\W.drew.cell? ⟨cb,cf+i*10+8,none⟩=some (.slice co' x.cases.length cc')):=zzH ⟨hz0,p0,p4,p8⟩;generalize x.cases.any (zcO k)=bq at *;clear hcon hcon2 HGE2
       have hbb:b1=false\/b1=true/\b2=false:=by
        revert hb12
        cases b1<;>cases b2<;>decide
       clear hb12;rcases hbb with rfl|⟨rfl,rfl⟩
       all_goals
        go_still_tail 29,(by kernel_rfl);change wpList _ _ _ _ _ W.drew;go_wp2_with fail;refine HCON.out.mono ?_;rintro e w5 ⟨rfl,hb5⟩;have HB5:=zzH hb5;clear hb5;go_wp2_with fail;go_meet
        case rel=>exact⟨by rw [E.out],zzH ((zzR _ _).drew.trans HB5.out)⟩
     ·have u3:((k:Int)==(i:Int)+1)=false:=zzB.2 c2
      have u3':(k==i+1)=false:=zzB.2 (by omega);have E:Hid (gb=false):=zzH (by rw [HGE.out,u1,u3];rfl);clear c1 c2 hcon;exact zz105
   case rest=>
    obtain⟨rfl,HWX⟩:=hcut;rename World=>wx
    have hxx:=HXW.out.below HWX.out;have HXX:=zzH hxx;have HMX:=zzH (HMW.out.below HWX.out);have HAX:Hid (AddK mb w2 wx):=zzH (HAW.out.trans (AddK.below (zzb HMW.out.mb) HWX.out));have hk1:wx.cell? ⟨B,0,none⟩=some (.int .i64 k):=(HWX.out.cell (p:=⟨B,0,none⟩) HPA.out.lt).trans hz0;have e1:=hxx.cx.e1;clear hcon hz0 hxx HGE
    cases gb with
    |true=>
     as_aux_lemma=>
     have HRJ:Hid (R=zb3 i s t x (ks.drop (j+1)) (zX Mj (k,t))):=zzH (by rw [HRj.out,HDR.out,zb3,if_pos HGO.out,zzq11]);have hadd:=zeC mb u.code.length (i+1) (N+j) k bt Mj t wx.drew (HMX.out.below (zzR _ _).drew) hkn ((HST2.out.keep HAX.out.1).below (zzR _ _).drew) HTI.out.1 (by omega) (by omega);have HADD2:=zzH hadd;clear hadd HRj HGO;go_wp2_with fail;go_still_tail 7,(by kernel_rfl);change wpList _ _ _ _ _ wx.drew;go_wp2_with fail;refine HADD2.out.mono ?_;rintro e w5 ⟨rfl,hm5,ha5⟩;have HM5:Hid (MeetI w5 mb u.code.length (i+1) (N+(j+1)) (zX Mj (k,t))):=zzH hm5;have HA5:Hid (AddK mb w2 w5):=zzH ((HAX.out.trans (AddK.below (zzb HMX.out.mb) (zzR _ _).drew)).trans ha5);clear hm5 ha5 HADD2;go_wp2_with fail;refine⟨⟨j+1,zX Mj (k,t),hlt,by go_num,HRJ,HM5,HA5⟩,by simp [intOf];omega⟩
    |false=>
     as_aux_lemma=>
     by_cases c1:(k:Int)<=(i:Int)
     ·have u1:decide ((k:Int)<=(i:Int))=true:=zzT c1
      have u2:decide (k<=i)=true:=zzT (by omega);obtain⟨⟨csx,gx,hmx⟩,hax⟩:=HMX.out;have hbk:=zmW E U mb p k i u lo fo go (some ⟨cb,cf,none⟩) lc fc gc cc mc s Mj csx gx wx HXX.out.cx hmx (HS2.out.keep HAX.out.1) (HSI.out.ok (by omega)).len hkn (fun m hm=>((hax k m hm).st.ok (by omega)).len);have HBK:=zzH hbk;clear hbk hmx hax;by_cases c2:zce (stM Mj k) s=true
      ·have ER:Hid (R=(184,Mj)):=zzH (by rw [HRj.out,HDR.out,zb3,if_neg (by rw [HGO.out];decide),if_pos ⟨c1,by rw [zzq11];exact c2⟩])
       have EPE:Hid (PE=184):=zzH (by
        have h:=HPS.out.1;rw [ER.out]at h;rw [HPE.out];unfold zbN;by_cases c:toB x.op=true/\x.to<=i/\zce (stM M x.to.toNat) s=true
        ·rw [if_pos c]
        ·rw [if_neg c]at h;exact absurd (show(184:Int)=0 from h) (by decide))
       rw [if_pos c2]at HBK;clear c1 c2 HRj HDR HPS HPE;go_wp2_with fail;refine HBK.out.mono ?_;rintro e w5 ⟨rfl,n5,rfl⟩;go_wp2;go_ret;exact HGOAL.out _ _ ⟨zY EPE.out.symm,HADD.out _ (HAX.out.trans (AddK.below (zzb HMX.out.mb) (zm (zzR _ _) _))),fun h=>absurd h (by rw [EPE.out];decide)⟩
      ·have HRJ:Hid (R=zb3 i s t x (ks.drop (j+1)) Mj):=zzH (by rw [HRj.out,HDR.out,zb3,if_neg (by rw [HGO.out];decide),if_neg (fun h=>c2 (by rw [<-zzq11 k];exact h.2))])
       rw [if_neg c2]at HBK;clear c1 c2 HRj HDR;go_wp2_with fail;refine HBK.out.mono ?_;rintro e w5 ⟨rfl,n5,rfl⟩;go_wp2_with fail;refine⟨⟨j+1,Mj,hlt,by go_num,HRJ,zzH ((HMX.out.below (zm (zzR _ _) _)).mono (zzL _) (by omega)),zzH (HAX.out.trans (AddK.below (zzb HMX.out.mb) (zm (zzR _ _) _)))⟩,by simp [intOf];omega⟩
     ·have u1:decide ((k:Int)<=(i:Int))=false:=zzD c1
      have u2:decide (k<=i)=false:=zzD (by omega);have HRJ:Hid (R=zb3 i s t x (ks.drop (j+1)) Mj):=zzH (by rw [HRj.out,HDR.out,zb3,if_neg (by rw [HGO.out];decide),if_neg (fun h=>c1 h.1)]);clear c1 HRj HDR;go_wp2_with fail;refine⟨⟨j+1,Mj,hlt,by go_num,HRJ,zzH (HMX.out.mono (zzL _) (by omega)),HAX⟩,by simp [intOf];omega⟩
  ·obtain rfl:j=ks.length:=by omega
   have hRj:=HRj.out;rw [List.drop_length]at hRj;have hR1:R.1=0:=by rw [hRj];rfl
   have hR2:R.2=Mj:=by rw [hRj];rfl
   have hM1:Mj=((zgP i x).map (fun k=>(k,t))).foldl zX M:=hR2.symm.trans (HPS.out.2 hR1)
   have hno: ¬(toB x.op=true/\x.to<=i/\zce (stM M x.to.toNat) s=true):=fun h=>by
    have:=HPS.out.1;rw [hR1,if_pos h]at this;exact absurd this (by decide)
   have EPE:Hid (PE=if z7 x.op=true/\i+1=u.code.length then 185 else 0):=zzH (by rw [HPE.out];unfold zbN;rw [if_neg hno]);have HM1:=zzH hM1;have hjl:=HKL.out;clear hRj hR1 hR2 hM1 hno HRj HPS HPE HR;have hpp:=HS2.out.keep HAj.out.1;obtain⟨xo,xc,yo,yc,to',tc,c0,c1,c2,c3,c4,c5,c6,hL⟩:=hpp.cells;have hxr:=HX2.out.add HAj.out.1 HAj.out.2;have HXR:=zzH hxr;have HLS:=zzH hL;have hib:=HIB.out.below hxr.bl;have p0:=hib.c0;have e1:=hxr.cx.e1;have hra: ∀wx,Calls Tryz.prog 64 #[.int .i64 x.op] wx fun e w'=>e= .returned (.bool (zbu x.op))/\w'=wx:=fun wx=>(zg4 x.op wx).mono fun _ _ ⟨a,b⟩=>⟨a,b.symm⟩
   have HRA:=zzH hra;have hst:=HSI.out.t;clear hra hpp hxr hib c1 c4 c5 c6 hL;obtain⟨M2,hM2⟩: ∃M2,M2=(if zbu x.op=true/\s.tries≠ []then zX Mj ((zcn s.tries).toNat,zcD s)else Mj):=⟨_,rfl⟩;have HM2':=zzH hM2;clear hM2;obtain⟨tb,htb⟩: ∃tb,tb=(decide (s.tries≠ [])&&zbu x.op):=⟨_,rfl⟩;have HTB:=zzH htb;obtain⟨tn,htn⟩: ∃tn,tn=s.tries.length:=⟨_,rfl⟩;rw [<-htn]at c3 hst;have HTN:=zzH htn;clear htb htn;go_upto_region 14 with fail;go_cut [111] (fun v wx=>v= .bool tb/\wr=wx)
   case first=>
    as_aux_lemma=>
    cases tn with
    |zero=>
     have EH:Hid (tb=false):=zzH (by rw [HTB.out,List.eq_nil_of_length_eq_zero HTN.out.symm];rfl);go_wp2_with fail;go_meet
     case rel=>exact⟨by rw [EH.out],rfl⟩
    |succ m=>
     have EH:Hid (tb=zbu x.op):=zzH (by
      have:s.tries≠ []:=fun h=>by have:=HTN.out;rw [h]at this;cases this
      rw [HTB.out,decide_eq_true this];rfl)
     have u1:decide (((m+1:Nat):Int)>0)=true:=zzT (by omega);have u2:decide (0<m+1)=true:=zzT (by omega);generalize zbu x.op=rr at *;go_wp2_with fail;refine(HRA.out _).mono ?_;rintro e w' ⟨rfl,rfl⟩;go_wp2_with fail;go_meet
     case rel=>exact⟨by rw [EH.out],rfl⟩
   case rest=>
    obtain⟨rfl,rfl⟩:=hcut;go_upto_if 111 with fail;go_cut [] (fun wx=>Hid (MeetI wx mb u.code.length (i+1) (N+1110) M2)/\Hid (AddK mb w2 wx))
    case first=>
     as_aux_lemma=>
     cases tb with
     |false=>
      have EH:Hid (M2=Mj):=zzH (by
       rw [HM2'.out,if_neg];rintro⟨h1,h2⟩;have:=HTB.out;rw [h1,decide_eq_true h2]at this;cases this)
      go_wp2_with fail;go_meet
      case rel=>exact⟨zzH (by rw [EH.out];exact HMj.out.mono (zzL _) (by omega)),HAj⟩
     |true=>
      have hb2:s.tries≠ []/\zbu x.op=true:=by
       have:=HTB.out;rw [eq_comm,zzq4,zzq8]at this;exact this
      have EH:Hid (M2=zX Mj ((zcn s.tries).toNat,zcD s)):=zzH (by rw [HM2'.out,if_pos ⟨hb2.2,hb2.1⟩])
      obtain⟨m,hmt⟩: ∃m,tn=m+1:=by
       cases tn with
       |zero=>exact absurd (zzQ HTN.out.symm) hb2.1
       |succ m=>exact⟨m,rfl⟩
      have HMT:=zzH hmt;have hml:m<s.tries.length:=by have:=HTN.out;omega
      have hlast:zcn s.tries=s.tries.getD m 0:=by unfold zcn;rw [<-HTN.out,hmt];rfl
      obtain⟨tb',tf',htt,htlt,z⟩:=HLS.out.t.cell hml;rw [<-hlast]at z
      have hmem:zcn s.tries∈s.tries:=by
       rw [hlast,List.getD_eq_getElem?_getD,zzq3 hml];exact zzM hml
      obtain⟨hr0,hr1⟩:=HSI.out.tr _ hmem;obtain⟨h,hh⟩:=zzJ hr0;rw [hh]at z hr1;have EH2:Hid (M2=zX Mj (h,zcD s)):=zzH (by rw [EH.out,hh,zzq11]);have hhn:h<u.code.length:=by omega
      have hH0:(0:Int)<=(h:Int):=by omega
      have hH1:(h:Int)<(u.code.length:Int):=by omega
      have hm0:(0:Int)<=(m:Int):=by omega
      have hm1:(m:Int)<(tn:Int):=by omega
      have hw:IntKind.i64.wrap ((tn:Int)-1)=(m:Int):=by rw [zzq2];omega
      have hw2:IntKind.i64.wrap (m:Int)=(m:Int):=by rw [zzq2];omega
      have htake:s.tries.take (s.tries.length-1)=s.tries.take m:=by rw [<-HTN.out,hmt];rfl
      have hmle:(m:Int)<=(tn:Int):=by omega
      have hmc:(m:Int)<=(tc:Int):=by have:=HLS.out.tl;omega
      subst htt;clear hmt;have hEl:=zd HXR.out.ex;have hpl:=(HS2.out.keep HAj.out.1).lt
      have HANY:Hid (Calls Tryz.prog 55 #[.int .i64 2] wr.drew fun e w5=> ∃xa xk,e= .returned (.slice xa 2 xk) /\
        Hid (Calls Tryz.prog 29 #[.pointer (some ⟨mb,h*3,none⟩),.pointer (some ⟨w5.heap.size,0,none⟩)] (w5.alloc (.cells #[.int .i64 s.frame,.slice xa 2 xk,.slice yo s.y.length yc,.slice (some ⟨tb',tf',none⟩) m tc,.bool false,.int .i64 0,.int .i64 0] 65)) fun e w7=>e= .returned (.tuple #[])/\Hid (HandS w7 E p tb' (tf'+m) h (.slice (some ⟨mb,0,none⟩) u.code.length mc) s.frame (.slice yo s.y.length yc) (.slice (some ⟨tb',tf',none⟩) tn tc))/\Hid (MeetI w7 mb u.code.length (i+1) (N+1110) M2)/\Hid (AddK mb w2 w7)) /\
        Hid (HandS w5 E p tb' (tf'+m) h (.slice (some ⟨mb,0,none⟩) u.code.length mc) s.frame (.slice yo s.y.length yc) (.slice (some ⟨tb',tf',none⟩) tn tc)) /\
        Hid (HandS (w5.alloc (.cells #[.int .i64 s.frame,.slice xa 2 xk,.slice yo s.y.length yc,.slice (some ⟨tb',tf',none⟩) m tc,.bool false,.int .i64 0,.int .i64 0] 65)) E p tb' (tf'+m) h (.slice (some ⟨mb,0,none⟩) u.code.length mc) s.frame (.slice yo s.y.length yc) (.slice (some ⟨tb',tf',none⟩) tn tc))):=zzH (by
       refine(zew 2 wr.drew ⟨by decide,by decide⟩).mono ?_;rintro e w5 ⟨⟨xa,xk,rfl,hxi,hxk⟩,hb5⟩;have hb5':Below wr.heap.size wr w5:=(zzR _ _).drew.trans hb5;have hb6:Below wr.heap.size wr (w5.alloc (.cells #[.int .i64 s.frame,.slice xa 2 xk,.slice yo s.y.length yc,.slice (some ⟨tb',tf',none⟩) m tc,.bool false,.int .i64 0,.int .i64 0] 65)):=hb5'.alloc hb5'.size _;have hrow:=zzF w5 (.cells #[.int .i64 s.frame,.slice xa 2 xk,.slice yo s.y.length yc,.slice (some ⟨tb',tf',none⟩) m tc,.bool false,.int .i64 0,.int .i64 0] 65);have hal:=(zzR w5.heap.size w5).alloc (zzL _) (.cells #[.int .i64 s.frame,.slice xa 2 xk,.slice yo s.y.length yc,.slice (some ⟨tb',tf',none⟩) m tc,.bool false,.int .i64 0,.int .i64 0] 65);have hs0:HandS wr E p tb' (tf'+m) h (.slice (some ⟨mb,0,none⟩) u.code.length mc) s.frame (.slice yo s.y.length yc) (.slice (some ⟨tb',tf',none⟩) tn tc):=⟨e1,c0,c2,c3,z⟩
       have hbh: ∀wx,Below wr.heap.size wr wx->HandS wx E p tb' (tf'+m) h (.slice (some ⟨mb,0,none⟩) u.code.length mc) s.frame (.slice yo s.y.length yc) (.slice (some ⟨tb',tf',none⟩) tn tc):=fun wx hb=>
        ⟨(hb.cell (p:=⟨E,1,none⟩) hEl).trans e1,(hb.cell (p:=⟨p,0,none⟩) hpl).trans c0,(hb.cell (p:=⟨p,2,none⟩) hpl).trans c2,(hb.cell (p:=⟨p,3,none⟩) hpl).trans c3,(hb.cell (p:=⟨tb',tf'+m,none⟩) htlt).trans z⟩
       refine⟨xa,xk,rfl,zzH ?_,zzH (hbh _ hb5'),zzH (hbh _ hb6)⟩
       have hsth:StAt (w5.alloc (.cells #[.int .i64 s.frame,.slice xa 2 xk,.slice yo s.y.length yc,.slice (some ⟨tb',tf',none⟩) m tc,.bool false,.int .i64 0,.int .i64 0] 65)) w5.heap.size (zcD s):=by
        have hlm:(s.tries.take m).length=m:=by rw [List.length_take];omega
        refine⟨xa,xk,yo,yc,some ⟨tb',tf',none⟩,tc,hrow.trans ?_,⟨hxi.below hal,HLS.out.y.below hb6,?_,hxk,HLS.out.yl,?_⟩⟩
        ·unfold zj zcD;simp only [htake,hlm];rfl
        ·show IntsAt _ _ (s.tries.take (s.tries.length-1))
         rw [htake];exact(HLS.out.t.below hb6).take m
        ·show(s.tries.take (s.tries.length-1)).length<=tc
         have:=HLS.out.tl;rw [htake,hlm];omega
       refine(zeC mb u.code.length (i+1) (N+ks.length) h w5.heap.size Mj (zcD s) _ (HMj.out.below hb6) hhn hsth ((ziZ HSI.out).mono (Nat.le_succ i)) (by omega) (by omega)).mono ?_;rintro e w7 ⟨rfl,hm7,ha7⟩;have hx7:=(HXR.out.below hb6).add ha7.1 ha7.2;have hs7:=((HS2.out.keep HAj.out.1).below hb6).keep ha7.1
       have hk7: ∀(q o:Nat) (v:Value) (cs:Array Value) (T:TypeId) (fr:Nat × Nat),wr.heap[q]?=some (.cells cs T fr)->T≠60->T≠57->wr.cell? ⟨q,o,none⟩=some v->w7.cell? ⟨q,o,none⟩=some v:=fun q o v cs T fr hq h1 h2 hv=>by
        have:=((KeepT.below hb6).trans ha7.1).2 q cs T fr hq h1 h2;rw [zzq0 _ _ _ _ _ _ this,<-zzq0 _ _ _ _ _ _ hq];exact hv
       obtain⟨_,_,_,_,_,_,hprow,hpls⟩:=HS2.out.keep HAj.out.1;obtain hnil|⟨tbx,tfx,tcs,tfr,hte,htrow,-⟩:=HLS.out.t
       ·exact absurd hnil hb2.1
       ·injection hte with hte;injection hte with hte1 hte2
        subst hte1
        exact⟨rfl,zzH ⟨hk7 _ _ _ _ _ _ HXR.out.ex (by decide) (by decide) e1,hk7 _ _ _ _ _ _ hprow (by decide) (by decide) c0,hk7 _ _ _ _ _ _ hprow (by decide) (by decide) c2,hk7 _ _ _ _ _ _ hprow (by decide) (by decide) c3,hk7 _ _ _ _ _ _ htrow (by decide) (by decide) z⟩,
         zzH (by rw [EH2.out];exact hm7.mono (zzL _) (by omega)),zzH ((HAj.out.trans (AddK.below (zzb HMj.out.mb) hb6)).trans ha7)⟩)
      have KS:Hid (HandS wr.drew E p tb' (tf'+m) h (.slice (some ⟨mb,0,none⟩) u.code.length mc) s.frame (.slice yo s.y.length yc) (.slice (some ⟨tb',tf',none⟩) tn tc)):=zzH ⟨e1,c0,c2,c3,z⟩;clear hr0 hr1 hmem hh hlast hml hb2 hEl hpl htlt htake EH EH2;go_upto_region 15 with fail
      first|go_region_held3 (fun w'=>w'.cell? ⟨E,1,none⟩=some (.slice (some ⟨mb,0,none⟩) u.code.length mc)/\w'.cell? ⟨p,0,none⟩=some (.int .i64 s.frame)/\w'.cell? ⟨p,2,none⟩=some (.slice yo s.y.length yc)/\w'.cell? ⟨p,3,none⟩=some (.slice (some ⟨tb',tf',none⟩) tn tc)/\w'.cell? ⟨tb',tf'+m,none⟩=some (.int .i64 h)) (first|with_reducible exact KS.out|with_reducible exact KS5.out|with_reducible exact KS6.out|with_reducible exact KS7.out)
       ((first|(go_at_call 55;(with_reducible refine HANY.out.mono ?_);rintro e w5 ⟨xa,xk,rfl,HQ5,KS5,KS6⟩)|(go_at_call 29;(with_reducible refine HQ5.out.mono ?_);rintro e w7 ⟨rfl,KS7,HM7,HA7⟩)))|fail
      go_wp2_with fail;go_meet
      case rel=>exact⟨HM7,HA7⟩
    case rest=>
     obtain⟨HM3,HA3⟩:=hcut;rename World=>wz
     have hxz:=HX2.out.add HA3.out.1 HA3.out.2;have HXZ:=zzH hxz;have q0:=(HIB.out.below hxz.bl).c0;have z0:=hxz.cx.e0;have z1:=hxz.cx.e1;have z5:=(hxz.bx.below hxz.bl).c5
     have hadds:(zbL u i s x).foldl zX M=if z7 x.op=true then zX M2 (i+1,nx)else M2:=by
      rw [zo0,List.foldl_append,List.foldl_append,<-HTT.out,<-HM1.out,<-HNN.out,HM2'.out];by_cases h1:zbu x.op=true/\s.tries≠ []<;>by_cases h2:z7 x.op=true<;>simp [h1,h2]
     have HADDS:=zzH hadds;have hfo: ∀wx,Calls Tryz.prog 70 #[.int .i64 x.op] wx fun e w'=>e= .returned (.bool (z7 x.op))/\w'=wx:=fun wx=>zjC x.op wx
     clear hxz hadds e1 c0 c2 c3 p0 HTB;generalize z7 x.op=fo at *;have HFO:=zzH hfo;clear hfo
     cases fo with
     |false=>
      as_aux_lemma=>
      have EH:Hid (PE=0):=zzH (by rw [EPE.out,if_neg (by simp)]);have EM:Hid ((zbL u i s x).foldl zX M=M2):=zzH (by rw [HADDS.out,if_neg (by simp)]);clear EPE HADDS;go_wp2_with fail;refine(HFO.out _).mono ?_;rintro e w' ⟨rfl,rfl⟩;go_wp2;go_ret;exact HGOAL.out _ _ ⟨zY EH.out.symm,HADD.out _ HA3.out,fun _=>by rw [EM.out];exact HM3.out.mono (zzL _) (by omega)⟩
     |true=>
      by_cases hil:i+1=u.code.length
      ·as_aux_lemma=>
       have EH:Hid (PE=185):=zzH (by rw [EPE.out,if_pos ⟨rfl,hil⟩]);have u1:((i:Int)+1==(u.code.length:Int))=true:=by rw [beq_iff_eq];omega
       have u2:(i+1==u.code.length)=true:=by rw [beq_iff_eq];omega
       clear EPE HADDS hil;go_wp2_with fail;refine(HFO.out _).mono ?_;rintro e w' ⟨rfl,rfl⟩;go_wp2;go_ret;exact HGOAL.out _ _ ⟨zY EH.out.symm,HADD.out _ HA3.out,fun h=>absurd h (by rw [EH.out];decide)⟩
      ·as_aux_lemma=>
       have EH:Hid (PE=0):=zzH (by rw [EPE.out,if_neg (fun h=>hil h.2)]);have EM:Hid ((zbL u i s x).foldl zX M=zX M2 (i+1,nx)):=zzH (by rw [HADDS.out,if_pos rfl]);have u1:((i:Int)+1==(u.code.length:Int))=false:=by rw [zzq1];omega
       have u2:(i+1==u.code.length)=false:=by rw [zzq1];omega
       have hI2:(0:Int)<=(i:Int)+1:=by omega
       have hI3:(i:Int)+1<(u.code.length:Int):=by omega
       have hni:=ziC HSI.out HV.out hi;rw [<-HNN.out]at hni;have HAD:=zzH (zeC mb u.code.length (i+1) (N+1110) (i+1) bn M2 nx wz HM3.out (by omega) (HSN2.out.keep HA3.out.1) hni (by omega) (by omega));clear EPE HADDS hil hni;go_wp2_with fail;refine(HFO.out _).mono ?_;rintro e w' ⟨rfl,rfl⟩;go_wp2_with fail;refine HAD.out.mono ?_;rintro e w7 ⟨rfl,hm7,ha7⟩;have HM7:=zzH hm7;have HA7:=zzH ha7;clear hm7 ha7;go_wp2;go_ret;exact HGOAL.out _ _ ⟨zY EH.out.symm,HADD.out _ (HA3.out.trans HA7.out),fun _=>by rw [EM.out];exact HM7.out.mono (zzL _) (by omega)⟩
theorem zpC (n:Int) (w:World):Calls Tryz.prog 169 #[.slice none 0 0,.int .i64 n] w fun e w'=>e= .returned (.bool false)/\w'=w:=by
 go_in;go_wp2_with fail;go_loopw [5] (fun iv wr=>iv= .int .i64 0/\wr=w) (fun _ _=>0)
 case atStart=>exact⟨rfl,rfl⟩
 case round=>
  obtain⟨rfl,rfl⟩:=hrel;exact zz48
theorem zju (n:Int) (w:World):Calls Tryz.prog 139 #[.slice none 0 0,.int .i64 n] w fun e w'=>(∃v,e= .returned v/\OwnI w' w.heap.size v [n])/\Below w.heap.size w w':=by
 obtain⟨i0,hi,hz0,hz1,hz2⟩:=info_parts zdo;go_in;go_wp2_with fail;refine(zpC n w).mono ?_;rintro e w1 ⟨rfl,rfl⟩;go_wp2_with fail;go_loopw [5] (fun iv wr=>iv= .int .i64 0/\wr=w1) (fun _ _=>0)
 case atStart=>exact⟨rfl,rfl⟩
 case round=>
  obtain⟨rfl,rfl⟩:=hrel;rename World=>w
  go_upto_region 8 with(at_builtin;refine zeA rfl (.tmp 25) (.tmp 28) 38 3 rfl i0 Tryz.underlying38 hi none 0 0 (zzL _) rfl none 0 rfl ?_);have hgr:=zzF w (.cells #[.int .i64 n] 3);have hba:Below w.heap.size w (w.alloc (.cells #[.int .i64 n] 3)):=zzE _ _;have HG:=zzH hgr;have HBA:=zzH hba;clear hgr hba;go_upto_region 9 with(at_builtin;refine zc9 rfl (.tmp 30) (.tmp 32) rfl w.heap.size (.slice none 0 0) [] rfl (World.ownsRow_nil _ _ _ _) (some ⟨w.heap.size,0,none⟩) 1 [n] 1 rfl rfl (zdf HG.out) HBA.out.size (by simp) (fun v2 w2 ho2 hg2 hat2=>?_));have hb2:Below w.heap.size w w2:=HBA.out.grown hg2 HBA.out.size (fun k e=>by cases e);have ho3:OwnI w2 w.heap.size v2 [n]:=ho2;obtain⟨ao,c,rfl,-,hc⟩:=ho3.ints;refine zzK3 hb2 ho3 hc fun HB2 HO3 HC=>?_;clear ho2 hg2 hat2 hb2 ho3 hc;go_wp2_with (at_builtin;refine zeA rfl (.tmp 34) (.tmp 37) 38 3 rfl i0 Tryz.underlying38 hi ao _ c HC.out rfl none 0 rfl ?_);go_ret;exact⟨⟨_,rfl,HO3.out⟩,HB2.out⟩
theorem zmh {w:World} {g:Nat} {u v:Int} {fr:Nat × Nat} (h:w.heap[g]?=some (.cells #[.int .i64 u,.int .i64 v] 3 fr)):IntsAt w (some ⟨g,0,none⟩) [u,v]:=
 .inr ⟨g,0,_,_,rfl,h,fun j hj=>by
  have:j=0\/j=1:=by simp at hj;omega
  rcases this with rfl|rfl<;>rfl⟩
def toX (op:Int):List Int:=if op=17\/op=19\/op=21\/op=23\/op=26\/op=27 then []else if op=8\/op=39\/op=12 then [-1]else
 if op=9\/op=10\/op=11\/op=13\/op=30\/op=31\/op=32\/op=33\/op=34\/op=37\/op=40 then [1,-1]else [1]
theorem zj4 (op:Int):(z7 op=true↔toX op= [1,-1]\/toX op= [1])/\(z7 op=false↔toX op= []\/toX op= [-1]):=by
 have hf:z7 op=true↔ ¬(op=8\/op=39\/op=12\/op=27\/op=26\/op=17\/op=19\/op=21\/op=23):=by
  unfold z7 zbi;simp only [Bool.not_eq_true',Bool.or_eq_false_iff,decide_eq_false_iff_not];omega
 have hf2:z7 op=false↔(op=8\/op=39\/op=12\/op=27\/op=26\/op=17\/op=19\/op=21\/op=23):=by
  rw [<-Bool.not_eq_true,hf];exact Classical.not_not
 rw [hf,hf2];unfold toX;split
 ·exact⟨⟨fun h=>absurd (by omega) h,by rintro(h|h)<;>cases h⟩,⟨fun _=>.inl rfl,fun _=>by omega⟩⟩
 ·split
  ·exact⟨⟨fun h=>absurd (by omega) h,by rintro(h|h)<;>cases h⟩,⟨fun _=>.inr rfl,fun _=>by omega⟩⟩
  ·split
   ·exact⟨⟨fun _=>.inl rfl,fun _=>by omega⟩,⟨fun _=>by omega,by rintro(h|h)<;>cases h⟩⟩
   ·exact⟨⟨fun _=>.inr rfl,fun _=>by omega⟩,⟨fun _=>by omega,by rintro(h|h)<;>cases h⟩⟩
abbrev folRow (x:RIns) (so:Option Addr) (sc:Nat) (zs:Option Addr) (zsc:Nat):Array Value:=#[.int .i64 x.op,.int .i64 x.dst.kind,.int .i64 x.dst.n,.slice so x.src.length sc,.int .i64 (-1),.int .i64 x.n,.int .i64 x.live,.string x.name,.slice none 0 0,.slice zs x.segs.length zsc]
theorem zmQ (x:RIns) (so zs:zzA) (sc zsc b c:Nat) (w:World) (hc: ∀j,j<10->w.cell? ⟨b,j,none⟩=(folRow x so sc zs zsc)[j]?):
  Calls Tryz.prog 121 #[.slice (some ⟨b,0,none⟩) 2 c,.int .i64 0] w fun e w'=>(∃v,e= .returned v/\OwnI w' w.heap.size v (if z7 x.op=true then [1]else []))/\Below w.heap.size w w':=by
 obtain⟨F,hF⟩: ∃F,F=z7 x.op:=⟨_,rfl⟩;rw [<-hF];have HF:=zzH hF;clear hF;obtain⟨LR,hLR⟩: ∃LR:List Int,LR=if F=true then [1]else []:=⟨_,rfl⟩
 rw [<-hLR];have HLR:=zzH hLR;clear hLR;have q0:w.cell? ⟨b,0,none⟩=some (.int .i64 x.op):=hc 0 (by decide);have q1:w.cell? ⟨b,1,none⟩=some (.int .i64 x.dst.kind):=hc 1 (by decide);have q2:w.cell? ⟨b,2,none⟩=some (.int .i64 x.dst.n):=hc 2 (by decide);have q3:w.cell? ⟨b,3,none⟩=some (.slice so x.src.length sc):=hc 3 (by decide);have q4:w.cell? ⟨b,4,none⟩=some (.int .i64 (-1)):=hc 4 (by decide);have q5:w.cell? ⟨b,5,none⟩=some (.int .i64 x.n):=hc 5 (by decide);have q6:w.cell? ⟨b,6,none⟩=some (.int .i64 x.live):=hc 6 (by decide);have q7:w.cell? ⟨b,7,none⟩=some (.string x.name):=hc 7 (by decide);have q8:w.cell? ⟨b,8,none⟩=some (.slice none 0 0):=hc 8 (by decide);have q9:w.cell? ⟨b,9,none⟩=some (.slice zs x.segs.length zsc):=hc 9 (by decide);clear hc;go_in;go_upto_region 5 with(refine zzm rfl 47 _ _ rfl _ _ rfl rfl 47 _ (zzF _ _) (by kernel_rfl) rfl (by simp [Value.oneCell']) ?_);generalize hw1:World.setRow _ _ _=w1;have hb1:Below w.heap.size w w1:=by rw [<-hw1];exact below_setRow (zzE _ _) (zzL _) _
 have hr1:w1.heap[w.heap.size]?=some (.cells (folRow x so sc zs zsc) 47 (0,0)):=by rw [<-hw1];exact setRow_heap _ _ _ _ _ _ (zzF w _)
 have HB1:=zzH hb1;have HR1:=zzH hr1;clear hw1 hb1 hr1 q0 q1 q2 q3 q4 q5 q6 q7 q8 q9;obtain⟨i0,-,-,-,i4,-,-,-,i8,-⟩:=zC HR1.out;have HS1:Hid (w.heap.size<w1.heap.size):=zzH (zd HR1.out);obtain⟨T,hT⟩: ∃T,T=toX x.op:=⟨_,rfl⟩;have HT:=zzH hT;clear hT;go_upto_block 0 with fail;go_cut [7] (fun v wx=>Hid (OwnI wx w.heap.size v T)/\Hid (Below w.heap.size w wx))
 case first=>
  have hx:Hid (T=toX x.op):=HT;clear HF HT i0;generalize x.op=op at *;by_cases h17:op=17
  ·as_aux_lemma=>
   subst h17;exact zz131
  have t17:(op==17)=false:=zzB.2 h17;by_cases h19:op=19
  ·as_aux_lemma=>
   subst h19;exact zz131
  have t19:(op==19)=false:=zzB.2 h19;by_cases h21:op=21
  ·as_aux_lemma=>
   subst h21;exact zz131
  have t21:(op==21)=false:=zzB.2 h21;by_cases h23:op=23
  ·as_aux_lemma=>
   subst h23;exact zz131
  have t23:(op==23)=false:=zzB.2 h23;by_cases h26:op=26
  ·as_aux_lemma=>
   subst h26;exact zz131
  have t26:(op==26)=false:=zzB.2 h26;by_cases h27:op=27
  ·as_aux_lemma=>
   subst h27;exact zz131
  have t27:(op==27)=false:=zzB.2 h27;by_cases h8:op=8
  ·as_aux_lemma=>
   subst h8;exact zz130
  have t8:(op==8)=false:=zzB.2 h8;by_cases h39:op=39
  ·as_aux_lemma=>
   subst h39;exact zz130
  have t39:(op==39)=false:=zzB.2 h39;by_cases h12:op=12
  ·as_aux_lemma=>
   subst h12;have hT:T= [-1]:=by rw [hx.out];simp [toX]
   have HT:=zzH hT;clear hT hx;have hgr:=zzF w1 (.cells #[.int .i64 (-1)] 3);have hba:Below w1.heap.size w1 (w1.alloc (.cells #[.int .i64 (-1)] 3)):=zzE _ _;have HG:=zzH hgr;have HBA:=zzH hba;clear hgr hba;go_upto_region 19 with(at_builtin;refine zc9 rfl (.tmp 47) (.tmp 50) rfl w.heap.size (.slice none 0 0) [] rfl (World.ownsRow_nil _ _ _ _) (some ⟨w1.heap.size,0,none⟩) 1 [-1] 1 rfl rfl (zdf HG.out) (by have:=HBA.out.size;have:=HS1.out;omega) (by simp) (fun v2 w2 ho2 hg2 hat2=>?_));have HB2:Hid (Below w.heap.size w w2):=zzH ((HB1.out.trans (HBA.out.mono (by have:=HS1.out;omega))).grown hg2 (by have:=HBA.out.size;have:=HS1.out;omega) (fun k e=>by cases e));have HO2:Hid (OwnI w2 w.heap.size v2 T):=zzH (by rw [HT.out];exact ho2);have hr2:w2.heap[w.heap.size]?=_:=(hg2.block _ (by have:=HBA.out.size;have:=HS1.out;omega) (fun e=>by cases e)).trans ((HBA.out.block _ HS1.out).trans HR1.out)
   have j8:=(zC hr2).2.2.2.2.2.2.2.2.1;clear ho2 hg2 hat2 hr2;go_wp2_with fail;go_loopw [7,8] (fun tv iv wr=>tv=v2/\iv= .int .i64 0/\wr=w2) (fun _ _ _=>0)
   case atStart=>exact⟨rfl,rfl,rfl⟩
   case round=>
    obtain⟨rfl,rfl,rfl⟩:=hrel;go_wp2_with fail;go_meet;exact⟨HO2,HB2⟩
  have t12:(op==12)=false:=zzB.2 h12;by_cases h9:op=9
  ·as_aux_lemma=>
   subst h9;exact zz129
  have t9:(op==9)=false:=zzB.2 h9;by_cases h10:op=10
  ·as_aux_lemma=>
   subst h10;exact zz129
  have t10:(op==10)=false:=zzB.2 h10;by_cases h11:op=11
  ·as_aux_lemma=>
   subst h11;exact zz129
  have t11:(op==11)=false:=zzB.2 h11;by_cases h13:op=13
  ·as_aux_lemma=>
   subst h13;exact zz129
  have t13:(op==13)=false:=zzB.2 h13;by_cases h30:op=30
  ·as_aux_lemma=>
   subst h30;exact zz129
  have t30:(op==30)=false:=zzB.2 h30;by_cases h31:op=31
  ·as_aux_lemma=>
   subst h31;exact zz129
  have t31:(op==31)=false:=zzB.2 h31;by_cases h32:op=32
  ·as_aux_lemma=>
   subst h32;exact zz129
  have t32:(op==32)=false:=zzB.2 h32;by_cases h33:op=33
  ·as_aux_lemma=>
   subst h33;exact zz129
  have t33:(op==33)=false:=zzB.2 h33;by_cases h34:op=34
  ·as_aux_lemma=>
   subst h34;exact zz129
  have t34:(op==34)=false:=zzB.2 h34;by_cases h37:op=37
  ·as_aux_lemma=>
   subst h37;exact zz129
  have t37:(op==37)=false:=zzB.2 h37;by_cases h40:op=40
  ·as_aux_lemma=>
   subst h40;exact zz129
  have t40:(op==40)=false:=zzB.2 h40;have hT:T= [1]:=by rw [hx.out];simp [toX,h17,h19,h21,h23,h26,h27,h8,h39,h12,h9,h10,h11,h13,h30,h31,h32,h33,h34,h37,h40]
  have HT:=zzH hT;clear hT hx h17 h19 h21 h23 h26 h27 h8 h39 h12 h9 h10 h11 h13 h30 h31 h32 h33 h34 h37 h40;have hgr:=zzF w1 (.cells #[.int .i64 1] 3);have hba:Below w1.heap.size w1 (w1.alloc (.cells #[.int .i64 1] 3)):=zzE _ _;have HG:=zzH hgr;have HBA:=zzH hba;clear hgr hba;go_wp2_with (at_builtin;refine zc9 rfl (.tmp 25) (.tmp 28) rfl w.heap.size (.slice none 0 0) [] rfl (World.ownsRow_nil _ _ _ _) (some ⟨w1.heap.size,0,none⟩) 1 [1] 1 rfl rfl (zdf HG.out) (by have:=HBA.out.size;have:=HS1.out;omega) (by simp) (fun v2 w2 ho2 hg2 hat2=>?_));go_meet;exact⟨zzH (by rw [HT.out];exact ho2),zzH ((HB1.out.trans (HBA.out.mono (by have:=HS1.out;omega))).grown hg2 (by have:=HBA.out.size;have:=HS1.out;omega) (fun k e=>by cases e))⟩
 case rest=>
  rename World=>w3
  obtain⟨HO,HB⟩:=hcut;clear HB1 HR1 HS1 i0 i4 i8;have hfol:=zj4 x.op;rw [<-HT.out,<-HF.out]at hfol;have HFO:=zzH hfol;clear hfol HT HF;obtain⟨ao,tc,rfl,hiT,hcT⟩:=HO.out.ints;have HI:=zzH hiT;clear hiT hcT HO
  have hTl:T.length<=2:=by
   cases F with
   |true=>rcases HFO.out.1.1 rfl with h|h<;>rw [h]<;>decide
   |false=>rcases HFO.out.2.1 rfl with h|h<;>rw [h]<;>decide
  have hT1: ∀k (h:k<T.length),T.getD k 0= -1\/(T.getD k 0=1/\k=0/\F=true):=by
   intro k hk
   cases F with
   |true=>
    rcases HFO.out.1.1 rfl with h|h<;>subst h
    ·have:k=0\/k=1:=by simp at hk;omega
     rcases this with rfl|rfl
     ·exact .inr ⟨rfl,rfl,rfl⟩
     ·exact .inl rfl
    ·have:k=0:=by simp at hk;omega
     subst this;exact .inr ⟨rfl,rfl,rfl⟩
   |false=>
    rcases HFO.out.2.1 rfl with h|h<;>subst h
    ·simp at hk
    ·have:k=0:=by simp at hk;omega
     subst this;exact .inl rfl
  have hT2:F=true->0<T.length:=by
   rintro rfl;rcases HFO.out.1.1 rfl with h|h<;>rw [h]<;>decide
  have HT0:Hid (F=false-> ∀k,k<T.length->T.getD k 0= -1):=zzH (fun hf k hk=>(hT1 k hk).elim id fun h=>by rw [hf]at h;cases h.2.2);have HT1:=zzH hT1;have HT2:=zzH hT2;have HTL:Hid (T.length<=2):=zzH hTl
  have HTF:Hid (F=true->T.getD 0 0=1):=zzH (by
   rintro rfl;rcases HFO.out.1.1 rfl with h|h<;>rw [h]<;>rfl)
  clear hTl hT1 hT2 HFO;go_wp2_with fail;go_loopw [5,9] (fun ov iv wr=> ∃(k m c:Nat) (ao:zzA),k<=T.length/\ov= .slice ao m c/\iv= .int .i64 k/\(k=0\/F=false->ao=none/\m=0/\c=0)/\Hid (OwnI wr w.heap.size (.slice ao m c) (if F=true/\0<k then [1]else []))/\Hid (Below w.heap.size w wr)/\Hid (Below w3.heap.size w3 wr)) (fun _ iv _=>T.length-(intOf iv).toNat)
  case atStart=>exact⟨0,0,0,none,zzZ _,rfl,rfl,fun _=>⟨rfl,rfl,rfl⟩,zzH (by simp;exact World.ownsRow_nil _ _ _ _),HB,zzH (zzR _ _)⟩
  case round=>
   obtain⟨k,m,c',ov,hk,rfl,rfl,hov,HOV,HBW,HBR⟩:=hrel;rename World=>wr
   by_cases hlt:k<T.length
   ·as_aux_lemma=>
    obtain⟨tb,tf,rfl,-,e0⟩:=(HI.out.below HBR.out).cell hlt;have htl:=HTL.out;have htI:(T.length:Int)<=2:=by omega
    have hk0:(0:Int)<=(k:Int):=by omega
    have hk1:(k:Int)<(T.length:Int):=by omega
    rcases HT1.out k hlt with h|⟨h,rfl,rfl⟩
    ·rw [h]at e0
     have hov2:k+1=0\/F=false->ov=none/\m=0/\c'=0:=fun h=>hov (by rcases h with h|h;omega;exact .inr h)
     have hF0:F=true->0<k:=fun hf=>by
      rcases Nat.eq_zero_or_pos k with h0|h0
      ·subst h0;have:=HTF.out hf;omega
      ·exact h0
     have HOV2:Hid (OwnI wr w.heap.size (.slice ov m c') (if F=true/\0<k+1 then [1]else [])):=zzH (by
      have h1:=HOV.out;by_cases hf:F=true
      ·rw [if_pos ⟨hf,hF0 hf⟩]at h1;rw [if_pos ⟨hf,by omega⟩];exact h1
      ·rw [if_neg (fun h=>hf h.1)]at h1;rw [if_neg (fun h=>hf h.1)];exact h1)
     have HOO:=zzH hov2;have HLT:=zzH (zzI hlt htl);clear h hov hov2 hF0 HOV;go_wp2_with fail;exact⟨⟨k+1,m,c',ov,HLT.out.1,rfl,by go_num,HOO.out,HOV2,HBW,HBR⟩,by have:=HLT.out;simp [intOf];omega⟩
    ·rw [h]at e0
     rw [Nat.add_zero]at e0;obtain⟨rfl,rfl,rfl⟩:=hov (.inl rfl);have HLT:=zzH (zzI hlt htl);have hk2:(0:Int)<(T.length:Int):=by omega
     clear h hov HOV;go_wp2_with fail;refine(zju 1 wr).mono ?_;rintro e w5 ⟨⟨v5,rfl,ho5⟩,hb5⟩;obtain⟨a5,c5,rfl,-,-⟩:=ho5.ints
     have HO5:Hid (OwnI w5 w.heap.size (.slice a5 [(1:Int)].length c5) (if True/\0<0+1 then [1]else [])):=zzH (by
      rw [if_pos ⟨trivial,by decide⟩];exact⟨ho5.1,ho5.2.imp id fun⟨g,cap,cur,a,b,c⟩=>⟨g,cap,cur,a,zzY HBW.out.size b,c⟩⟩)
     have HB5:=zzH (HBW.out.trans (hb5.mono HBW.out.size));have HR5:=zzH (HBR.out.trans (hb5.mono HBR.out.size));clear ho5 hb5;go_wp2_with fail;exact⟨⟨0+1,_,c5,a5,HLT.out.1,rfl,by go_num,fun h=>(by rcases h with h|h;omega;cases h),zzH (by simpa using HO5.out),HB5,HR5⟩,by have:=HLT.out;simp [intOf];omega⟩
   ·as_aux_lemma=>
    obtain rfl:k=T.length:=by omega
    have HFI:Hid (OwnI wr w.heap.size (.slice ov m c') LR):=zzH (by
     have h1:=HOV.out;rw [HLR.out];by_cases hf:F=true
     ·rw [if_pos ⟨hf,HT2.out hf⟩]at h1;rw [if_pos hf];exact h1
     ·rw [if_neg (fun h=>hf h.1)]at h1;rw [if_neg hf];exact h1)
    clear hov HOV;go_wp2;go_ret;exact⟨⟨_,rfl,HFI.out⟩,HBW.out⟩
theorem zjg (x:RIns) (so zo zs:zzA) (sc zc zsc:Nat) (w:World):
  Calls Tryz.prog 90 #[.agg (zzi x so sc zo zc zs zsc)] w fun e w'=>e= .returned (.bool (z7 x.op))/\Below w.heap.size w w':=by
 unfold zzi;obtain⟨e1,e2,eb⟩:=zdV w (.cells #[.int .i64 x.op,.int .i64 x.dst.kind,.int .i64 x.dst.n,.slice so x.src.length sc,.int .i64 x.to,.int .i64 x.n,.int .i64 x.live,.string x.name,.slice zo x.cases.length zc,.slice zs x.segs.length zsc] 47) (.cells #[.int .i64 x.op,.int .i64 x.dst.kind,.int .i64 x.dst.n,.slice so x.src.length sc,.int .i64 x.to,.int .i64 x.n,.int .i64 x.live,.string x.name,.slice zo x.cases.length zc,.slice zs x.segs.length zsc,.int .i64 26,.int .i64 0,.int .i64 0,.slice none 0 0,.int .i64 0,.int .i64 0,.int .i64 0,.string ⟨#[]⟩,.slice none 0 0,.slice none 0 0] 47);refine zzK3 e1 e2 eb fun HI HL HB=>?_;clear e1 e2 eb;obtain⟨F,hF⟩: ∃F,F=z7 x.op:=⟨_,rfl⟩;rw [<-hF];have HF:=zzH hF;clear hF;go_in;go_upto_region 1 with fail;have gA:=zzF w (.cells #[.int .i64 x.op,.int .i64 x.dst.kind,.int .i64 x.dst.n,.slice so x.src.length sc,.int .i64 x.to,.int .i64 x.n,.int .i64 x.live,.string x.name,.slice zo x.cases.length zc,.slice zs x.segs.length zsc] 47);obtain⟨i0,i1,i2,i3,i4,i5,i6,i7,i8,i9⟩:=zC gA;clear gA;go_upto_region 2 with fail;clear i0 i1 i2 i3 i4 i5 i6 i7 i8 i9;generalize hw1:World.alloc _ _=w1;have HL1:Hid (w1.heap[w.heap.size+1]?=some (.cells #[.int .i64 x.op,.int .i64 x.dst.kind,.int .i64 x.dst.n,.slice so x.src.length sc,.int .i64 x.to,.int .i64 x.n,.int .i64 x.live,.string x.name,.slice zo x.cases.length zc,.slice zs x.segs.length zsc,.int .i64 26,.int .i64 0,.int .i64 0,.slice none 0 0,.int .i64 0,.int .i64 0,.int .i64 0,.string ⟨#[]⟩,.slice none 0 0,.slice none 0 0] 47 (0,0))):=zzH (by rw [<-hw1];exact HL.out)
 have HB1:Hid (Below w.heap.size w w1):=zzH (by rw [<-hw1];exact HB.out);clear hw1 HI HL HB;have l4:=zw HL1.out (k:=4) (by simp);have f4:=zzq5 _ _ 4 _ _ HL1.out;have l8:=zw HL1.out (k:=8) (by simp);have f8:=zzq5 _ _ 8 _ _ HL1.out;go_upto_region 4 with fail;have hr1:=zzS _ (w.heap.size+1) 8 _ _ (.slice none 0 0) (zzS w1 (w.heap.size+1) 4 _ _ (.int .i64 (-1)) HL1.out);have hb2:=(HB1.out.setCell (p:=⟨w.heap.size+1,4,none⟩) (by show w.heap.size<=w.heap.size+1;omega) (.int .i64 (-1))).setCell (p:=⟨w.heap.size+1,8,none⟩) (by show w.heap.size<=w.heap.size+1;omega) (.slice none 0 0);generalize hw2:World.setCell (World.setCell _ _ _) _ _=w2 at *
 have HN:=zzH (zmQ x so zs sc zsc (w.heap.size+1) 2 w2 (fun j hj=>by
  rw [zzq0 _ _ _ _ _ _ hr1];have hc:j=0\/j=1\/j=2\/j=3\/j=4\/j=5\/j=6\/j=7\/j=8\/j=9:=by omega
  rcases hc with rfl|rfl|rfl|rfl|rfl|rfl|rfl|rfl|rfl|rfl<;>rfl))
 have HB2:=zzH hb2;clear hr1 hb2 hw2 l4 l8 f4 f8 HL1;rw [<-HF.out]at HN;go_wp2_with fail;refine HN.out.mono ?_;rintro e w3 ⟨⟨v,rfl,ho⟩,hb3⟩;obtain⟨ao,c,rfl,-,-⟩:=ho.ints;have HB3:=zzH (HB2.out.trans (hb3.mono HB2.out.size));clear ho hb3 HN
 cases F with
 |true=>
  simp only [if_true,zzq18,List.length_nil,Nat.zero_add];go_wp2;go_ret;exact⟨rfl,HB3.out⟩
 |false=>
  simp only [Bool.false_eq_true,if_false,List.length_nil];go_wp2;go_ret;exact⟨rfl,HB3.out⟩
end Go.Proofs.YthajedcbgnloeaaGreatDoor
