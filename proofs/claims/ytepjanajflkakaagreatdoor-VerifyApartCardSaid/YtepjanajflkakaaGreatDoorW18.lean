import Derived.Test.YtepjanajflkakaaGreatDoorW10
import Derived.Test.YtepjanajflkakaaGreatDoorW13
import Derived.Test.YtepjanajflkakaaGreatDoorW14
namespace Go.Proofs.YtepjanajflkakaaGreatDoor
open Go.RowKit
set_option linter.unusedVariables false
set_option linter.unusedSimpArgs false
set_option maxRecDepth 100000
set_option maxHeartbeats 0
def zh8 (u:RUnit) (mb i N:Nat) (s:VSt) (x:RIns) (M:Nat->Option VM) (w:World) (e:Ending) (w':World):Prop:=
 e= .returned (.int .i64 (zdn u i s x (stM M)))/\AddK mb w w'/\(zdn u i s x (stM M)=0->MeetI w' mb u.code.length (i+1) (N+1200) ((zcG u i s x).foldl zC M))
theorem zlQ {i k : Nat} {x : RIns} : goB i x (k : Int) = (decide ((i : Int) + 1 < (k : Int)) || (((k : Int) == (i : Int) + 1) && ((x.to == (k : Int) && (x.op != 28)) || x.cases.any (zbJ k)))) := by
 unfold goB zbJ;have e1:decide ((k:Int)=(i:Int)+1)=((k:Int)==(i:Int)+1):=by rw [Bool.eq_iff_iff];simp
 have e2:decide (x.to=(k:Int))=(x.to==(k:Int)):=by rw [Bool.eq_iff_iff];simp
 have e3 : (!decide (x.op = 28)) = (x.op != 28) := by rw [Bool.eq_iff_iff]; simp
 have e4:(fun c:RCase=>decide (c.to=(k:Int)))=fun c=>c.to==(k:Int):=by funext c;rw [Bool.eq_iff_iff];simp
 rw [e1,e2,e3,e4]
structure PsAt (wx:World) (B cb o i k:Nat) (x:RIns) (co':Option Addr) (cc':Nat):Prop where
 kb:wx.cell? ⟨B,0,none⟩=some (.int .i64 k)
 lt:B<wx.heap.size
 c0:wx.cell? ⟨cb,o,none⟩=some (.int .i64 x.op)
 c4:wx.cell? ⟨cb,o+4,none⟩=some (.int .i64 x.to)
 c8:wx.cell? ⟨cb,o+8,none⟩=some (.slice co' x.cases.length cc')
 cs:SlAt wx 2 zbP co' x.cases
abbrev HandS (w:World) (E p tb to' h:Nat) (ev:Value) (f:Int) (yv tv:Value):Prop:=w.cell? ⟨E,1,none⟩=some ev/\w.cell? ⟨p,0,none⟩=some (.int .i64 f)/\w.cell? ⟨p,2,none⟩=some yv/\w.cell? ⟨p,3,none⟩=some tv/\w.cell? ⟨tb,to',none⟩=some (.int .i64 h)
theorem zjt (w0:World) (E U mb p i N:Nat) (u:RUnit) (lo fo go:zzA) (cb cf:Nat) (lc fc gc cc mc:Nat) (s:VSt) (x:RIns) (M:Nat->Option VM) (w:World)
  (hx:VEnv w0 w E U mb i u lo fo go (some ⟨cb,cf,none⟩) lc fc gc cc mc) (hm:MeetI w mb u.code.length i N M) (hs:StAt w p s) (hS:SInv u.code.length i s) (hi:i<u.code.length) (hxe:zdu u i=x) (hV:VIns u i x) (hc:zcw u i s x=0) (hl:zcv u) (hn:u.code.length<=600000) (hN:N<=100000000000):
  Calls Tryz.prog 56 #[.pointer (some ⟨E,0,none⟩),.int .i64 i,.pointer (some ⟨p,0,none⟩)] w (zh8 u mb i N s x M w):=by
 refine zzK7 hx hm hs hS hV hl (zlV hS hV hc) fun HX HM HS HSI HV HLL heff=>?_
 have hib: ∃so co' go' sc cc' gc',IBox w0 cb (cf+i*10) x so co' go' sc cc' gc':=by
  obtain⟨b,off,so,co',go',sc,cc',gc',e,h⟩:=zdz hx.up.code hi;injection e with e;injection e with e1 e2;subst e1;subst e2;have:u.code[i]=x:=by rw [<-hxe];unfold zdu;rw [zzq4 hi];rfl
  rw [this]at h;exact⟨so,co',go',sc,cc',gc',h⟩
 obtain⟨so,co',go',sc,cc',gc',hib⟩:=hib;have HIB:=zzH hib;have hmb:=hm.mb;obtain⟨PE,hPE⟩: ∃PE,PE=zdn u i s x (stM M):=⟨_,rfl⟩;have HPE:=zzH hPE;have HGOAL:Hid (∀e w',e= .returned (.int .i64 PE)/\AddK mb w w'/\(PE=0->MeetI w' mb u.code.length (i+1) (N+1200) ((zcG u i s x).foldl zC M))->zh8 u mb i N s x M w e w'):=zzH (fun e w' h=>by rw [hPE]at h;exact h);have x0:=hx.cx.e0;have x5:=(hx.bx.below hx.bl).c5;have hI0:(0:Int)<=(i:Int):=by omega
 have hI1:(i:Int)<(u.code.length:Int):=by omega
 have HEF:=zzH (zhv E U mb p cb (cf+i*10) i u lo fo go (some ⟨cb,cf,none⟩) lc fc gc cc mc x s so co' go' sc cc' gc' w hx.cx (hib.below hx.bl) hs (hS.ok (by omega)) hl heff.out);clear hPE hx hm hs hS hV hl hc hib heff;go_in;go_wp2_with fail;refine HEF.out.mono ?_;rintro e w1 ⟨⟨bn,bt,rfl,hsn,hst⟩,hb1⟩;have hx1:=HX.out.below hb1;refine zzK4 hx1 hb1 hsn hst fun HX1 HB1 HSN HST=>?_;have y0:=hx1.cx.e0;have y5:=(hx1.bx.below hx1.bl).c5;have HNX:=zzH (zjN cb cf u.code.length cc i x so co' go' sc cc' gc' w1 (HIB.out.below hx1.bl) hi (by omega) HV.out.casesLen);clear hx1 hb1 hsn hst x0 x5 HEF;go_wp2_with fail;refine HNX.out.mono ?_;rintro e w2 ⟨⟨ks,ao,c,rfl,hki,hsu,hkl⟩,hb2⟩;refine zzK7 (HB1.out.trans (hb2.mono HB1.out.size)) (HX1.out.below hb2) (HSN.out.below hb2) (HST.out.below hb2) hki hsu hkl fun HB2 HX2 HSN2 HST2 HKI HSU HKL=>?_;have HM2:Hid (MeetI w2 mb u.code.length (i+1) N M):=zzH ((HM.out.below HB2.out).mono (Nat.le_succ i) (zzL N));have HS2:=zzH (HS.out.below HB2.out);have HADD:Hid (∀wx,AddK mb w2 wx->AddK mb w wx):=zzH (fun wx h=>(AddK.below (zzb hmb) HB2.out).trans h);obtain⟨t,ht⟩: ∃t,t=toV s x:=⟨_,rfl⟩;rw [<-ht]at HST2;have HTI:Hid (SInv u.code.length (i+1) t/\zt t.x=t.x):=zzH (by rw [ht];exact⟨(zjq HSI.out x).mono (Nat.le_succ i),(zjq HSI.out x).tx⟩);have HTT:=zzH ht;obtain⟨nx,hnx⟩: ∃nx,nx=zc5 u i s x:=⟨_,rfl⟩;rw [<-hnx]at HSN2;have HNN:=zzH hnx;have HPS:=zzH (zle (s:=s) (t:=t) hsu HV.out.jump HTI.out.2 hi M);clear y0 y5 hb2 hki hsu HNX HX1 HB1 HSN HST ht hnx;obtain⟨R,hR⟩: ∃R,R=zbm i s t x ks M:=⟨_,rfl⟩;rw [<-hR]at HPS;have HR:=zzH hR;clear hR;go_wp2_with fail;go_loopw [40] (fun iv wr=> ∃(j:Nat) (Mj:Nat->Option VM),j<=ks.length/\iv= .int .i64 j/\Hid (R=zbm i s t x (ks.drop j) Mj)/\Hid (MeetI wr mb u.code.length (i+1) (N+j) Mj)/\Hid (AddK mb w2 wr)) (fun iv _=>ks.length-(intOf iv).toNat)
 case atStart=>exact⟨0,M,zzZ _,rfl,zzH (by rw [List.drop_zero];exact HR.out),HM2,zzH (AddK.refl _ _)⟩
 case round=>
  obtain⟨j,Mj,hj,rfl,HRj,HMj,HAj⟩:=hrel;rename World=>wr
  by_cases hlt:j<ks.length
  ·as_aux_lemma=>
   obtain⟨kb,kf,hao,hkb,q0⟩:=(HKI.out.keep HAj.out.1).cell hlt;subst hao;have hkd:ks.getD j 0=ks[j]:=by rw [List.getD_eq_getElem?_getD,zzq4 hlt];rfl
   obtain⟨hkt,hk0,hk1⟩:=(HSU.out ks[j]).1 (zzM hlt);have hdr:ks.drop j=ks[j]::ks.drop (j+1):=List.drop_eq_getElem_cons hlt;rw [hkd]at q0;obtain⟨k,hk⟩:=zzJ hk0;rw [hk]at q0 hk1 hdr;have HDR:=zzH hdr;have hkn:k<u.code.length:=by omega
   have hK0:(0:Int)<=(k:Int):=by omega
   have hK1:(k:Int)<(u.code.length:Int):=by omega
   have hJ0:(0:Int)<=(j:Int):=by omega
   have hJ1:(j:Int)<(ks.length:Int):=by omega
   clear hkd hkt hk0 hk1 hdr hk;have hal:=(zzR wr.heap.size wr).alloc (zzL _) (.cells #[.int .i64 k] 3);have hbox:=zzF wr (.cells #[.int .i64 k] 3);go_upto_region 6 with fail;generalize wr.alloc (.cells #[.int .i64 k] 3)=W at *;generalize hBe:wr.heap.size=B at *;have HBE:=zzH hBe;clear hBe;have HW:=zzH hal;have HBX:=zzH hbox;have hMj:MeetI W mb u.code.length (i+1) (N+j) Mj:=HMj.out.below (by rw [HBE.out];exact hal);have hAj:AddK mb w2 W:=HAj.out.trans (AddK.below (zzb HMj.out.mb) (by rw [HBE.out];exact hal));have HMW:=zzH hMj;have HAW:=zzH hAj;have hxW:=HX2.out.add hAj.1 hAj.2;have HXW:=zzH hxW;have hibW:=HIB.out.below hxW.bl;have HPA:Hid (PsAt W B cb (cf+i*10) i k x co' cc'):=zzH ⟨by rw [zzq0 _ _ _ _ _ _ hbox];rfl,zb hbox,hibW.c0,hibW.c4,hibW.c8,hibW.cases⟩;have hz0:=HPA.out.kb;have HGE:=zzH (zlQ (i:=i) (k:=k) (x:=x));have hcon:=zf7 x.cases co' cc' k B;have hcl:=HV.out.casesLen;generalize hgo:goB i x (k:Int)=gb at *;have HGO:=zzH hgo;have hw1:IntKind.i64.wrap ((i:Int)+1)=(i:Int)+1:=by rw [zzq5];omega
   clear hal hbox hMj hAj hxW hibW q0 hgo hkb;go_cut [44] (fun v wx=>v= .bool gb/\Hid (Below W.heap.size W wx))
   case first=>
    as_aux_lemma=>
    have p0:=HPA.out.c0;have p4:=HPA.out.c4;have p8:=HPA.out.c8;by_cases c1:(i:Int)+1<(k:Int)
    ·have u1:decide ((i:Int)+1<(k:Int))=true:=zzT c1
     have u2:decide (i+1<k)=true:=zzT (by omega);have E:Hid (gb=true):=zzH (by rw [HGE.out,u1];rfl);clear c1 hcon;exact zz105
    ·have u1:decide ((i:Int)+1<(k:Int))=false:=zzD c1
     have u2:decide (i+1<k)=false:=zzD (by omega);by_cases c2:(k:Int)=(i:Int)+1
     ·have u3:((k:Int)==(i:Int)+1)=true:=zzl.2 c2
      have u3':(k==i+1)=true:=zzl.2 (by omega);generalize hb1:(x.to==(k:Int))=b1 at *;generalize hb2 : (x.op != 28) = b2 at *;have HGE2:Hid (gb=(b1&&b2||x.cases.any (zbJ k))):=zzH (by rw [HGE.out,u1,u3];rfl);clear HGE c1 c2
      cases hb12:(b1&&b2)with
      |true=>
       obtain⟨rfl,rfl⟩:b1=true/\b2=true:=by simpa using hb12
       have E:Hid (gb=true):=zzH (by rw [HGE2.out];rfl);clear hcon hb12 HGE2;exact zz105
      |false=>
       have hcon2:=hcon W.drew HPA.out.lt HPA.out.kb (HPA.out.cs.mono (zzR _ _).drew (fun _ _ h=>h)) hcl;have E:Hid (gb=x.cases.any (zbJ k)):=zzH (by rw [HGE2.out,hb12];rfl);have hmf: ∀(fn:Fn) (first cap:Array Value) (w:World),(Instr.makeFunc fn first cap).run Tryz.prog w= .ok (.func fn first cap) w:=fun _ _ _ _=>rfl
       have HCON:=zzH hcon2;have hlB:=HPA.out.lt;have hlC:cb<W.heap.size:=zzW HIB.out.lt HXW.out.bl.size;have KS:Hid (W.drew.cell? ⟨B,0,none⟩=some (.int .i64 k)/\W.drew.cell? ⟨cb,cf+i*10,none⟩=some (.int .i64 x.op)/\W.drew.cell? ⟨cb,cf+i*10+4,none⟩=some (.int .i64 x.to)/\W.drew.cell? ⟨cb,cf+i*10+8,none⟩=some (.slice co' x.cases.length cc')):=zzH ⟨hz0,p0,p4,p8⟩;generalize x.cases.any (zbJ k)=bq at *;clear hcon hcon2 HGE2
       have hbb:b1=false\/b1=true/\b2=false:=by
        revert hb12
        cases b1<;>cases b2<;>decide
       clear hb12;rcases hbb with rfl|⟨rfl,rfl⟩
       all_goals
        go_still_tail 29,(by kernel_rfl);change wpList _ _ _ _ _ W.drew;go_wp2_with fail;refine HCON.out.mono ?_;rintro e w5 ⟨rfl,hb5⟩;have HB5:=zzH hb5;clear hb5;go_wp2_with fail;go_meet
        case rel=>exact⟨by rw [E.out],zzH ((zzR _ _).drew.trans HB5.out)⟩
     ·have u3:((k:Int)==(i:Int)+1)=false:=zzB.2 c2
      have u3':(k==i+1)=false:=zzB.2 (by omega);have E:Hid (gb=false):=zzH (by rw [HGE.out,u1,u3];rfl);clear c1 c2 hcon;exact zz105
   case rest=>
    obtain⟨rfl,HWX⟩:=hcut;rename World=>wx
    have hxx:=HXW.out.below HWX.out;have HXX:=zzH hxx;have HMX:=zzH (HMW.out.below HWX.out);have HAX:Hid (AddK mb w2 wx):=zzH (HAW.out.trans (AddK.below (zzb HMW.out.mb) HWX.out));have hk1:wx.cell? ⟨B,0,none⟩=some (.int .i64 k):=(HWX.out.cell (p:=⟨B,0,none⟩) HPA.out.lt).trans hz0;have e1:=hxx.cx.e1;clear hcon hz0 hxx HGE
    cases gb with
    |true=>
     as_aux_lemma=>
     have HRJ:Hid (R=zbm i s t x (ks.drop (j+1)) (zC Mj (k,t))):=zzH (by rw [HRj.out,HDR.out,zbm,if_pos HGO.out,zzq13]);have hadd:=zcR mb u.code.length (i+1) (N+j) k bt Mj t wx.drew (HMX.out.below (zzR _ _).drew) hkn ((HST2.out.keep HAX.out.1).below (zzR _ _).drew) HTI.out.1 (by omega) (by omega);have HADD2:=zzH hadd;clear hadd HRj HGO;go_wp2_with fail;go_still_tail 7,(by kernel_rfl);change wpList _ _ _ _ _ wx.drew;go_wp2_with fail;refine HADD2.out.mono ?_;rintro e w5 ⟨rfl,hm5,ha5⟩;have HM5:Hid (MeetI w5 mb u.code.length (i+1) (N+(j+1)) (zC Mj (k,t))):=zzH hm5;have HA5:Hid (AddK mb w2 w5):=zzH ((HAX.out.trans (AddK.below (zzb HMX.out.mb) (zzR _ _).drew)).trans ha5);clear hm5 ha5 HADD2;go_wp2_with fail;refine⟨⟨j+1,zC Mj (k,t),hlt,by go_num,HRJ,HM5,HA5⟩,by simp [intOf];omega⟩
    |false=>
     as_aux_lemma=>
     by_cases c1:(k:Int)<=(i:Int)
     ·have u1:decide ((k:Int)<=(i:Int))=true:=zzT c1
      have u2:decide (k<=i)=true:=zzT (by omega);obtain⟨⟨csx,gx,hmx⟩,hax⟩:=HMX.out;have hbk:=zi6 E U mb p k i u lo fo go (some ⟨cb,cf,none⟩) lc fc gc cc mc s Mj csx gx wx HXX.out.cx hmx (HS2.out.keep HAX.out.1) (HSI.out.ok (by omega)).len hkn (fun m hm=>((hax k m hm).st.ok (by omega)).len);have HBK:=zzH hbk;clear hbk hmx hax;by_cases c2:zb9 (stM Mj k) s=true
      ·have ER:Hid (R=(184,Mj)):=zzH (by rw [HRj.out,HDR.out,zbm,if_neg (by rw [HGO.out];decide),if_pos ⟨c1,by rw [zzq13];exact c2⟩])
       have EPE:Hid (PE=184):=zzH (by
        have h:=HPS.out.1;rw [ER.out]at h;rw [HPE.out];unfold zdn;by_cases c:toB x.op=true/\x.to<=i/\zb9 (stM M x.to.toNat) s=true
        ·rw [if_pos c]
        ·rw [if_neg c]at h;exact absurd (show(184:Int)=0 from h) (by decide))
       rw [if_pos c2]at HBK;clear c1 c2 HRj HDR HPS HPE;go_wp2_with fail;refine HBK.out.mono ?_;rintro e w5 ⟨rfl,n5,rfl⟩;go_wp2;go_ret;exact HGOAL.out _ _ ⟨zO EPE.out.symm,HADD.out _ (HAX.out.trans (AddK.below (zzb HMX.out.mb) (zg (zzR _ _) _))),fun h=>absurd h (by rw [EPE.out];decide)⟩
      ·have HRJ:Hid (R=zbm i s t x (ks.drop (j+1)) Mj):=zzH (by rw [HRj.out,HDR.out,zbm,if_neg (by rw [HGO.out];decide),if_neg (fun h=>c2 (by rw [<-zzq13 k];exact h.2))])
       rw [if_neg c2]at HBK;clear c1 c2 HRj HDR;go_wp2_with fail;refine HBK.out.mono ?_;rintro e w5 ⟨rfl,n5,rfl⟩;go_wp2_with fail;refine⟨⟨j+1,Mj,hlt,by go_num,HRJ,zzH ((HMX.out.below (zg (zzR _ _) _)).mono (zzL _) (by omega)),zzH (HAX.out.trans (AddK.below (zzb HMX.out.mb) (zg (zzR _ _) _)))⟩,by simp [intOf];omega⟩
     ·have u1:decide ((k:Int)<=(i:Int))=false:=zzD c1
      have u2:decide (k<=i)=false:=zzD (by omega);have HRJ:Hid (R=zbm i s t x (ks.drop (j+1)) Mj):=zzH (by rw [HRj.out,HDR.out,zbm,if_neg (by rw [HGO.out];decide),if_neg (fun h=>c1 h.1)]);clear c1 HRj HDR;go_wp2_with fail;refine⟨⟨j+1,Mj,hlt,by go_num,HRJ,zzH (HMX.out.mono (zzL _) (by omega)),HAX⟩,by simp [intOf];omega⟩
  ·obtain rfl:j=ks.length:=by omega
   have hRj:=HRj.out;rw [List.drop_length]at hRj;have hR1:R.1=0:=by rw [hRj];rfl
   have hR2:R.2=Mj:=by rw [hRj];rfl
   have hM1:Mj=((zeK i x).map (fun k=>(k,t))).foldl zC M:=hR2.symm.trans (HPS.out.2 hR1)
   have hno: ¬(toB x.op=true/\x.to<=i/\zb9 (stM M x.to.toNat) s=true):=fun h=>by
    have:=HPS.out.1;rw [hR1,if_pos h]at this;exact absurd this (by decide)
   have EPE:Hid (PE=if zbi x.op=true/\i+1=u.code.length then 185 else 0):=zzH (by rw [HPE.out];unfold zdn;rw [if_neg hno]);have HM1:=zzH hM1;have hjl:=HKL.out;clear hRj hR1 hR2 hM1 hno HRj HPS HPE HR;have hpp:=HS2.out.keep HAj.out.1;obtain⟨xo,xc,yo,yc,to',tc,c0,c1,c2,c3,c4,c5,c6,hL⟩:=hpp.cells;have hxr:=HX2.out.add HAj.out.1 HAj.out.2;have HXR:=zzH hxr;have HLS:=zzH hL;have hib:=HIB.out.below hxr.bl;have p0:=hib.c0;have e1:=hxr.cx.e1;have hra: ∀wx,Calls Tryz.prog 97 #[.int .i64 x.op] wx fun e w'=>e= .returned (.bool (zbI x.op))/\w'=wx:=fun wx=>(zfc x.op wx).mono fun _ _ ⟨a,b⟩=>⟨a,b.symm⟩
   have HRA:=zzH hra;have hst:=HSI.out.t;clear hra hpp hxr hib c1 c4 c5 c6 hL;obtain⟨M2,hM2⟩: ∃M2,M2=(if zbI x.op=true/\s.tries≠ []then zC Mj ((zct s.tries).toNat,zc7 s)else Mj):=⟨_,rfl⟩;have HM2':=zzH hM2;clear hM2;obtain⟨tb,htb⟩: ∃tb,tb=(decide (s.tries≠ [])&&zbI x.op):=⟨_,rfl⟩;have HTB:=zzH htb;obtain⟨tn,htn⟩: ∃tn,tn=s.tries.length:=⟨_,rfl⟩;rw [<-htn]at c3 hst;have HTN:=zzH htn;clear htb htn;go_upto_region 14 with fail;go_cut [111] (fun v wx=>v= .bool tb/\wr=wx)
   case first=>
    as_aux_lemma=>
    cases tn with
    |zero=>
     have EH:Hid (tb=false):=zzH (by rw [HTB.out,List.eq_nil_of_length_eq_zero HTN.out.symm];rfl);go_wp2_with fail;go_meet
     case rel=>exact⟨by rw [EH.out],rfl⟩
    |succ m=>
     have EH:Hid (tb=zbI x.op):=zzH (by
      have:s.tries≠ []:=fun h=>by have:=HTN.out;rw [h]at this;cases this
      rw [HTB.out,decide_eq_true this];rfl)
     have u1:decide (((m+1:Nat):Int)>0)=true:=zzT (by omega);have u2:decide (0<m+1)=true:=zzT (by omega);generalize zbI x.op=rr at *;go_wp2_with fail;refine(HRA.out _).mono ?_;rintro e w' ⟨rfl,rfl⟩;go_wp2_with fail;go_meet
     case rel=>exact⟨by rw [EH.out],rfl⟩
   case rest=>
    obtain⟨rfl,rfl⟩:=hcut;go_upto_if 111 with fail;go_cut [] (fun wx=>Hid (MeetI wx mb u.code.length (i+1) (N+1110) M2)/\Hid (AddK mb w2 wx))
    case first=>
     as_aux_lemma=>
     cases tb with
     |false=>
      have EH:Hid (M2=Mj):=zzH (by
       rw [HM2'.out,if_neg];rintro⟨h1,h2⟩;have:=HTB.out;rw [h1,decide_eq_true h2]at this;cases this)
      go_wp2_with fail;go_meet
      case rel=>exact⟨zzH (by rw [EH.out];exact HMj.out.mono (zzL _) (by omega)),HAj⟩
     |true=>
      have hb2:s.tries≠ []/\zbI x.op=true:=by
       have:=HTB.out;rw [eq_comm,zzq6,zzq9]at this;exact this
      have EH:Hid (M2=zC Mj ((zct s.tries).toNat,zc7 s)):=zzH (by rw [HM2'.out,if_pos ⟨hb2.2,hb2.1⟩])
      obtain⟨m,hmt⟩: ∃m,tn=m+1:=by
       cases tn with
       |zero=>exact absurd (zzQ HTN.out.symm) hb2.1
       |succ m=>exact⟨m,rfl⟩
      have HMT:=zzH hmt;have hml:m<s.tries.length:=by have:=HTN.out;omega
      have hlast:zct s.tries=s.tries.getD m 0:=by unfold zct;rw [<-HTN.out,hmt];rfl
      obtain⟨tb',tf',htt,htlt,z⟩:=HLS.out.t.cell hml;rw [<-hlast]at z
      have hmem:zct s.tries∈s.tries:=by
       rw [hlast,List.getD_eq_getElem?_getD,zzq4 hml];exact zzM hml
      obtain⟨hr0,hr1⟩:=HSI.out.tr _ hmem;obtain⟨h,hh⟩:=zzJ hr0;rw [hh]at z hr1;have EH2:Hid (M2=zC Mj (h,zc7 s)):=zzH (by rw [EH.out,hh,zzq13]);have hhn:h<u.code.length:=by omega
      have hH0:(0:Int)<=(h:Int):=by omega
      have hH1:(h:Int)<(u.code.length:Int):=by omega
      have hm0:(0:Int)<=(m:Int):=by omega
      have hm1:(m:Int)<(tn:Int):=by omega
      have hw:IntKind.i64.wrap ((tn:Int)-1)=(m:Int):=by rw [zzq5];omega
      have hw2:IntKind.i64.wrap (m:Int)=(m:Int):=by rw [zzq5];omega
      have htake:s.tries.take (s.tries.length-1)=s.tries.take m:=by rw [<-HTN.out,hmt];rfl
      have hmle:(m:Int)<=(tn:Int):=by omega
      have hmc:(m:Int)<=(tc:Int):=by have:=HLS.out.tl;omega
      subst htt;clear hmt;have hEl:=zb HXR.out.ex;have hpl:=(HS2.out.keep HAj.out.1).lt
      have HANY:Hid (Calls Tryz.prog 88 #[.int .i64 2] wr.drew fun e w5=> ∃xa xk,e= .returned (.slice xa 2 xk) /\
        Hid (Calls Tryz.prog 53 #[.pointer (some ⟨mb,h*3,none⟩),.pointer (some ⟨w5.heap.size,0,none⟩)] (w5.alloc (.cells #[.int .i64 s.frame,.slice xa 2 xk,.slice yo s.y.length yc,.slice (some ⟨tb',tf',none⟩) m tc,.bool false,.int .i64 0,.int .i64 0] 91)) fun e w7=>e= .returned (.tuple #[])/\Hid (HandS w7 E p tb' (tf'+m) h (.slice (some ⟨mb,0,none⟩) u.code.length mc) s.frame (.slice yo s.y.length yc) (.slice (some ⟨tb',tf',none⟩) tn tc))/\Hid (MeetI w7 mb u.code.length (i+1) (N+1110) M2)/\Hid (AddK mb w2 w7)) /\
        Hid (HandS w5 E p tb' (tf'+m) h (.slice (some ⟨mb,0,none⟩) u.code.length mc) s.frame (.slice yo s.y.length yc) (.slice (some ⟨tb',tf',none⟩) tn tc)) /\
        Hid (HandS (w5.alloc (.cells #[.int .i64 s.frame,.slice xa 2 xk,.slice yo s.y.length yc,.slice (some ⟨tb',tf',none⟩) m tc,.bool false,.int .i64 0,.int .i64 0] 91)) E p tb' (tf'+m) h (.slice (some ⟨mb,0,none⟩) u.code.length mc) s.frame (.slice yo s.y.length yc) (.slice (some ⟨tb',tf',none⟩) tn tc))):=zzH (by
       refine(zcS 2 wr.drew ⟨by decide,by decide⟩).mono ?_;rintro e w5 ⟨⟨xa,xk,rfl,hxi,hxk⟩,hb5⟩;have hb5':Below wr.heap.size wr w5:=(zzR _ _).drew.trans hb5;have hb6:Below wr.heap.size wr (w5.alloc (.cells #[.int .i64 s.frame,.slice xa 2 xk,.slice yo s.y.length yc,.slice (some ⟨tb',tf',none⟩) m tc,.bool false,.int .i64 0,.int .i64 0] 91)):=hb5'.alloc hb5'.size _;have hrow:=zzF w5 (.cells #[.int .i64 s.frame,.slice xa 2 xk,.slice yo s.y.length yc,.slice (some ⟨tb',tf',none⟩) m tc,.bool false,.int .i64 0,.int .i64 0] 91);have hal:=(zzR w5.heap.size w5).alloc (zzL _) (.cells #[.int .i64 s.frame,.slice xa 2 xk,.slice yo s.y.length yc,.slice (some ⟨tb',tf',none⟩) m tc,.bool false,.int .i64 0,.int .i64 0] 91);have hs0:HandS wr E p tb' (tf'+m) h (.slice (some ⟨mb,0,none⟩) u.code.length mc) s.frame (.slice yo s.y.length yc) (.slice (some ⟨tb',tf',none⟩) tn tc):=⟨e1,c0,c2,c3,z⟩
       have hbh: ∀wx,Below wr.heap.size wr wx->HandS wx E p tb' (tf'+m) h (.slice (some ⟨mb,0,none⟩) u.code.length mc) s.frame (.slice yo s.y.length yc) (.slice (some ⟨tb',tf',none⟩) tn tc):=fun wx hb=>
        ⟨(hb.cell (p:=⟨E,1,none⟩) hEl).trans e1,(hb.cell (p:=⟨p,0,none⟩) hpl).trans c0,(hb.cell (p:=⟨p,2,none⟩) hpl).trans c2,(hb.cell (p:=⟨p,3,none⟩) hpl).trans c3,(hb.cell (p:=⟨tb',tf'+m,none⟩) htlt).trans z⟩
       refine⟨xa,xk,rfl,zzH ?_,zzH (hbh _ hb5'),zzH (hbh _ hb6)⟩
       have hsth:StAt (w5.alloc (.cells #[.int .i64 s.frame,.slice xa 2 xk,.slice yo s.y.length yc,.slice (some ⟨tb',tf',none⟩) m tc,.bool false,.int .i64 0,.int .i64 0] 91)) w5.heap.size (zc7 s):=by
        have hlm:(s.tries.take m).length=m:=by rw [List.length_take];omega
        refine⟨xa,xk,yo,yc,some ⟨tb',tf',none⟩,tc,hrow.trans ?_,⟨hxi.below hal,HLS.out.y.below hb6,?_,hxk,HLS.out.yl,?_⟩⟩
        ·unfold zA zc7;simp only [htake,hlm];rfl
        ·show IntsAt _ _ (s.tries.take (s.tries.length-1))
         rw [htake];exact(HLS.out.t.below hb6).take m
        ·show(s.tries.take (s.tries.length-1)).length<=tc
         have:=HLS.out.tl;rw [htake,hlm];omega
       refine(zcR mb u.code.length (i+1) (N+ks.length) h w5.heap.size Mj (zc7 s) _ (HMj.out.below hb6) hhn hsth ((zkb HSI.out).mono (Nat.le_succ i)) (by omega) (by omega)).mono ?_;rintro e w7 ⟨rfl,hm7,ha7⟩;have hx7:=(HXR.out.below hb6).add ha7.1 ha7.2;have hs7:=((HS2.out.keep HAj.out.1).below hb6).keep ha7.1
       have hk7: ∀(q o:Nat) (v:Value) (cs:Array Value) (T:TypeId) (fr:Nat × Nat),wr.heap[q]?=some (.cells cs T fr)->T≠86->T≠83->wr.cell? ⟨q,o,none⟩=some v->w7.cell? ⟨q,o,none⟩=some v:=fun q o v cs T fr hq h1 h2 hv=>by
        have:=((KeepT.below hb6).trans ha7.1).2 q cs T fr hq h1 h2;rw [zzq0 _ _ _ _ _ _ this,<-zzq0 _ _ _ _ _ _ hq];exact hv
       obtain⟨_,_,_,_,_,_,hprow,hpls⟩:=HS2.out.keep HAj.out.1;obtain hnil|⟨tbx,tfx,tcs,tfr,hte,htrow,-⟩:=HLS.out.t
       ·exact absurd hnil hb2.1
       ·injection hte with hte;injection hte with hte1 hte2
        subst hte1
        exact⟨rfl,zzH ⟨hk7 _ _ _ _ _ _ HXR.out.ex (by decide) (by decide) e1,hk7 _ _ _ _ _ _ hprow (by decide) (by decide) c0,hk7 _ _ _ _ _ _ hprow (by decide) (by decide) c2,hk7 _ _ _ _ _ _ hprow (by decide) (by decide) c3,hk7 _ _ _ _ _ _ htrow (by decide) (by decide) z⟩,
         zzH (by rw [EH2.out];exact hm7.mono (zzL _) (by omega)),zzH ((HAj.out.trans (AddK.below (zzb HMj.out.mb) hb6)).trans ha7)⟩)
      have KS:Hid (HandS wr.drew E p tb' (tf'+m) h (.slice (some ⟨mb,0,none⟩) u.code.length mc) s.frame (.slice yo s.y.length yc) (.slice (some ⟨tb',tf',none⟩) tn tc)):=zzH ⟨e1,c0,c2,c3,z⟩;clear hr0 hr1 hmem hh hlast hml hb2 hEl hpl htlt htake EH EH2;go_upto_region 15 with fail
      first|go_region_held3 (fun w'=>w'.cell? ⟨E,1,none⟩=some (.slice (some ⟨mb,0,none⟩) u.code.length mc)/\w'.cell? ⟨p,0,none⟩=some (.int .i64 s.frame)/\w'.cell? ⟨p,2,none⟩=some (.slice yo s.y.length yc)/\w'.cell? ⟨p,3,none⟩=some (.slice (some ⟨tb',tf',none⟩) tn tc)/\w'.cell? ⟨tb',tf'+m,none⟩=some (.int .i64 h)) (first|with_reducible exact KS.out|with_reducible exact KS5.out|with_reducible exact KS6.out|with_reducible exact KS7.out)
       ((first|(go_at_call 88;(with_reducible refine HANY.out.mono ?_);rintro e w5 ⟨xa,xk,rfl,HQ5,KS5,KS6⟩)|(go_at_call 53;(with_reducible refine HQ5.out.mono ?_);rintro e w7 ⟨rfl,KS7,HM7,HA7⟩)))|fail
      go_wp2_with fail;go_meet
      case rel=>exact⟨HM7,HA7⟩
    case rest=>
     obtain⟨HM3,HA3⟩:=hcut;rename World=>wz
     have hxz:=HX2.out.add HA3.out.1 HA3.out.2;have HXZ:=zzH hxz;have q0:=(HIB.out.below hxz.bl).c0;have z0:=hxz.cx.e0;have z1:=hxz.cx.e1;have z5:=(hxz.bx.below hxz.bl).c5
     have hadds:(zcG u i s x).foldl zC M=if zbi x.op=true then zC M2 (i+1,nx)else M2:=by
      rw [zkC,List.foldl_append,List.foldl_append,<-HTT.out,<-HM1.out,<-HNN.out,HM2'.out];by_cases h1:zbI x.op=true/\s.tries≠ []<;>by_cases h2:zbi x.op=true<;>simp [h1,h2]
     have HADDS:=zzH hadds;have hfo: ∀wx,Calls Tryz.prog 103 #[.int .i64 x.op] wx fun e w'=>e= .returned (.bool (zbi x.op))/\w'=wx:=fun wx=>zg3 x.op wx
     clear hxz hadds e1 c0 c2 c3 p0 HTB;generalize zbi x.op=fo at *;have HFO:=zzH hfo;clear hfo
     cases fo with
     |false=>
      as_aux_lemma=>
      have EH:Hid (PE=0):=zzH (by rw [EPE.out,if_neg (by simp)]);have EM:Hid ((zcG u i s x).foldl zC M=M2):=zzH (by rw [HADDS.out,if_neg (by simp)]);clear EPE HADDS;go_wp2_with fail;refine(HFO.out _).mono ?_;rintro e w' ⟨rfl,rfl⟩;go_wp2;go_ret;exact HGOAL.out _ _ ⟨zO EH.out.symm,HADD.out _ HA3.out,fun _=>by rw [EM.out];exact HM3.out.mono (zzL _) (by omega)⟩
     |true=>
      by_cases hil:i+1=u.code.length
      ·as_aux_lemma=>
       have EH:Hid (PE=185):=zzH (by rw [EPE.out,if_pos ⟨rfl,hil⟩]);have u1:((i:Int)+1==(u.code.length:Int))=true:=by rw [beq_iff_eq];omega
       have u2:(i+1==u.code.length)=true:=by rw [beq_iff_eq];omega
       clear EPE HADDS hil;go_wp2_with fail;refine(HFO.out _).mono ?_;rintro e w' ⟨rfl,rfl⟩;go_wp2;go_ret;exact HGOAL.out _ _ ⟨zO EH.out.symm,HADD.out _ HA3.out,fun h=>absurd h (by rw [EH.out];decide)⟩
      ·as_aux_lemma=>
       have EH:Hid (PE=0):=zzH (by rw [EPE.out,if_neg (fun h=>hil h.2)]);have EM:Hid ((zcG u i s x).foldl zC M=zC M2 (i+1,nx)):=zzH (by rw [HADDS.out,if_pos rfl]);have u1:((i:Int)+1==(u.code.length:Int))=false:=by rw [zzq1];omega
       have u2:(i+1==u.code.length)=false:=by rw [zzq1];omega
       have hI2:(0:Int)<=(i:Int)+1:=by omega
       have hI3:(i:Int)+1<(u.code.length:Int):=by omega
       have hni:=zkl HSI.out HV.out hi;rw [<-HNN.out]at hni;have HAD:=zzH (zcR mb u.code.length (i+1) (N+1110) (i+1) bn M2 nx wz HM3.out (by omega) (HSN2.out.keep HA3.out.1) hni (by omega) (by omega));clear EPE HADDS hil hni;go_wp2_with fail;refine(HFO.out _).mono ?_;rintro e w' ⟨rfl,rfl⟩;go_wp2_with fail;refine HAD.out.mono ?_;rintro e w7 ⟨rfl,hm7,ha7⟩;have HM7:=zzH hm7;have HA7:=zzH ha7;clear hm7 ha7;go_wp2;go_ret;exact HGOAL.out _ _ ⟨zO EH.out.symm,HADD.out _ (HA3.out.trans HA7.out),fun _=>by rw [EM.out];exact HM7.out.mono (zzL _) (by omega)⟩
def ziW (u:RUnit) (i:Nat) (s:VSt) (x:RIns):List Int:=[zcj u s x,zej u s x,zdf s x,zdZ s x,zd8 s x,zcT i s x]
theorem zhs {l:List Int} {j:Nat} (h:j<l.length):zbX (l.drop j)=if l[j]≠0 then l[j]else zbX (l.drop (j+1)):=by
 rw [List.drop_eq_getElem_cons h,zbX]
theorem zly (E U mb p b o i:Nat) (u:RUnit) (lo fo go co:zzA) (lc fc gc cc mc:Nat) (x:RIns) (s:VSt) (so co' go':zzA) (sc cc' gc':Nat) (W:World) (hx:VCx W E U mb i u lo fo go co lc fc gc cc mc) (hi:IBox W b o x so co' go' sc cc' gc') (hs:StAt W p s) (ho:StOk s) (hl:zcv u) (hv:VIns u i x) (j:Nat) (hj:j<6):
  ∃f:FuncId,zdb[j]?=some (.func (.func f) #[] #[])/\(∀(args:Array Value) (w:World),(callFunc f args).run Tryz.prog w= .ok (.enter f args) w) /\
   ∀wx,Below W.heap.size W wx->Calls Tryz.prog f #[.pointer (some ⟨E,0,none⟩),.pointer (some ⟨p,0,none⟩),.pointer (some ⟨b,o,none⟩)] wx fun e w'=>e= .returned (.int .i64 ((ziW u i s x).getD j 0))/\Below wx.heap.size wx w':=by
 have hj':j=0\/j=1\/j=2\/j=3\/j=4\/j=5:=by omega
 rcases hj' with rfl|rfl|rfl|rfl|rfl|rfl
 ·refine⟨89,rfl,enters_of Tryz.func89 (by kernel_rfl) rfl,fun wx hb=>?_⟩
  exact zf6 E U mb p b o i u lo fo go co lc fc gc cc mc x s so co' go' sc cc' gc' wx (hx.below hb) (hi.below hb) (hs.below hb) ho hl (hv.opd s)
 ·refine⟨90,rfl,enters_of Tryz.func90 (by kernel_rfl) rfl,fun wx hb=>?_⟩
  exact zhU E U mb p b o i u lo fo go co lc fc gc cc mc x s so co' go' sc cc' gc' wx (hx.below hb) (hi.below hb) (hs.below hb) ho hl hv.n5 (fun h=>hv.srcs s (by omega))
 ·refine⟨91,rfl,enters_of Tryz.func91 (by kernel_rfl) rfl,fun wx hb=>?_⟩
  refine(zgp E p b o x s so co' go' sc cc' gc' wx (hi.below hb) (hs.below hb)).mono ?_;exact zz106
 ·refine⟨92,rfl,enters_of Tryz.func92 (by kernel_rfl) rfl,fun wx hb=>?_⟩
  refine(zhp E p b o x s so co' go' sc cc' gc' wx (hi.below hb) (hs.below hb)).mono ?_;exact zz106
 ·refine⟨94,rfl,enters_of Tryz.func94 (by kernel_rfl) rfl,fun wx hb=>?_⟩
  refine(zhg E p b o x s so co' go' sc cc' gc' wx (hi.below hb) (hs.below hb)).mono ?_;exact zz106
 ·refine⟨96,rfl,enters_of Tryz.func96 (by kernel_rfl) rfl,fun wx hb=>?_⟩
  refine(zhh E U mb p b o i u lo fo go co lc fc gc cc mc x s so co' go' sc cc' gc' wx (hx.below hb) (hi.below hb) (hs.below hb) ho.len).mono ?_;exact zz106
structure UnitV (u:RUnit):Prop where
 n1:1<=u.code.length
 n2:u.code.length<=600000
 ins: ∀i (h:i<u.code.length),VIns u i u.code[i]
 funcs:u.funcs.length<=200/\ ∀f∈u.funcs,0<=f.arity/\f.arity<=16/\0<=f.entry/\f.entry<u.code.length
 funs:u.funs.length<=1000/\ ∀f∈u.funs,0<=f.arity/\f.arity<=16/\0<=f.free/\f.free<=200/\0<=f.entry/\f.entry<u.code.length
 lits:zcv u
def zdd (f:RFunc):Nat × VSt:=(f.entry.toNat,zcr f.arity)
def zfz (f:RFun):Nat × VSt:=(f.entry.toNat,zcr (f.arity+f.free))
theorem zfL {α:Type} (g:α->Nat × VSt) (l:List α) {k:Nat} (h:k<l.length) (M:Nat->Option VM):((l.take (k+1)).map g).foldl zC M=zC (((l.take k).map g).foldl zC M) (g l[k]):=by
 rw [List.take_succ_eq_append_getElem h,List.map_append,List.foldl_append];rfl
def zkV (u:RUnit) (U:Nat) (w:World) (e:Ending) (w':World):Prop:=
 (∃pv,e= .returned (.tuple #[pv,.int .i64 (zcX u).1.1,.int .i64 (zcX u).1.2])/\((zcX u).1.2≠0->pv= .pointer none) /\
  ((zcX u).1.2=0-> ∃E mb mc a,pv= .pointer (some ⟨E,0,none⟩)/\w'.heap[E]?=some (.cells #[.pointer (some ⟨U,0,none⟩),.slice (some ⟨mb,0,none⟩) u.code.length mc,.int .i64 a] 89 (0,0))/\MeetI w' mb u.code.length u.code.length 2000000000 (zcX u).2))/\Below w.heap.size w w'
theorem zgG (U:Nat) (u:RUnit) (lo fo go co:zzA) (lc fc gc cc:Nat) (w:World) (hbx:UBox w U u lo fo go co lc fc gc cc) (hup:UP w u lo fo go co) (hV:UnitV u):
  Calls Tryz.prog 33 #[.pointer (some ⟨U,0,none⟩)] w (zkV u U w):=by
 obtain⟨cb,cf,rfl⟩: ∃cb cf,co=some ⟨cb,cf,none⟩:=by
  obtain⟨b,off,_,_,_,_,_,_,e,_⟩:=zdz hup.code (k:=0) hV.n1;exact⟨b,off,e⟩
 refine zzK3 hbx hup hV fun HBX HUP HV=>?_;have hn1:=hV.n1;have hn2:=hV.n2;obtain⟨n,hn⟩: ∃n,n=u.code.length:=⟨_,rfl⟩;have b5:=hbx.c5;have b3:=hbx.c3;have b4:=hbx.c4;rw [<-hn]at hn1 hn2 b5;have HN:=zzH hn;obtain⟨arr,hs,hz,hmk⟩:=zlp n (by omega);have hmkw:=hmk w;have HS:=zzH hs;have HZ:=zzH hz;obtain⟨R,hR⟩: ∃R,R=zcX u:=⟨_,rfl⟩;have HR:=zzH hR
 have HGOAL:Hid (∀e w',(∃pv,e= .returned (.tuple #[pv,.int .i64 R.1.1,.int .i64 R.1.2])/\(R.1.2≠0->pv= .pointer none) /\
  (R.1.2=0-> ∃E mb mc a,pv= .pointer (some ⟨E,0,none⟩)/\w'.heap[E]?=some (.cells #[.pointer (some ⟨U,0,none⟩),.slice (some ⟨mb,0,none⟩) u.code.length mc,.int .i64 a] 89 (0,0))/\MeetI w' mb u.code.length u.code.length 2000000000 R.2))/\Below w.heap.size w w'->zkV u U w e w'):=zzH (fun e w' h=>by rw [hR]at h;exact h)
 clear hbx hup hV hn hs hz hmk hR;go_in;have hmr:=zzF w (.cells arr 86);have hmb:=(zzR w.heap.size w).alloc (zzL _) (.cells arr 86);have hbl:=zb hmr;have her:=zzF (w.alloc (.cells arr 86)) (.cells #[.pointer (some ⟨U,0,none⟩),.slice (some ⟨w.heap.size,0,none⟩) n n,.int .i64 0] 89);have heb:=(zzR (w.alloc (.cells arr 86)).heap.size (w.alloc (.cells arr 86))).alloc (zzL _) (.cells #[.pointer (some ⟨U,0,none⟩),.slice (some ⟨w.heap.size,0,none⟩) n n,.int .i64 0] 89);have hmr2:=(heb.block _ hbl).trans hmr;have hbb:=hmb.trans (heb.mono hmb.size);have hse:(w.alloc (.cells arr 86)).heap.size=w.heap.size+1:=by simp
 rw [hse]at her;go_upto_region 2 with fail;generalize(w.alloc (.cells arr 86)).alloc (.cells #[.pointer (some ⟨U,0,none⟩),.slice (some ⟨w.heap.size,0,none⟩) n n,.int .i64 0] 89)=W at *;have HM0:Hid (MeetI W w.heap.size n 0 0 (fun _=>none)):=zzH (zhV hmr2 HS.out HZ.out 0 0);have HE0:Hid (VEnv w W (w.heap.size+1) U w.heap.size 0 u lo fo go (some ⟨cb,cf,none⟩) lc fc gc cc n):=zzH ⟨by rw [<-HN.out];exact her,HBX.out,HUP.out,hbb,zzL _⟩;clear hmr hmb hbl her heb hmr2 hbb hse hmkw b3 b4 b5;have hbW:=HBX.out.below HE0.out.bl;have b3:=hbW.c3;clear hbW;obtain⟨E,hE⟩: ∃E,E=w.heap.size+1:=⟨_,rfl⟩;rw [<-hE]at HE0 ⊢;obtain⟨mb,hmb⟩: ∃mb,mb=w.heap.size:=⟨_,rfl⟩;rw [<-hmb]at HE0 HM0;have HMB:=zzH hmb;have HEE:=zzH hE;clear hE hmb;have hfn:=HV.out.funcs.1;obtain⟨nf,hnf⟩: ∃nf,nf=u.funcs.length:=⟨_,rfl⟩;rw [<-hnf]at b3 hfn;have HNF:=zzH hnf;clear hnf;go_wp2_with fail;go_loopw [31] (fun iv wr=> ∃k:Nat,k<=nf/\iv= .int .i64 k/\Hid (MeetI wr mb n 0 k (((u.funcs.take k).map zdd).foldl zC (fun _=>none)))/\Hid (VEnv w wr E U mb 0 u lo fo go (some ⟨cb,cf,none⟩) lc fc gc cc n)) (fun iv _=>nf-(intOf iv).toNat)
 case atStart=>exact⟨0,zzZ _,rfl,HM0,HE0⟩
 case round=>
  obtain⟨k,hk,rfl,HMk,HEk⟩:=hrel;rename World=>wr
  by_cases hlt:k<nf
  ·as_aux_lemma=>
   have hkx:k<u.funcs.length:=by rw [<-HNF.out];exact hlt
   obtain⟨fb,off,hfo,hfb,q0,q1,q2,q3,r1,r2,r3⟩:=(HUP.out.funcs.mono HEk.out.bl (fun _ _ h=>h)).func hkx;subst hfo;have hst:=zfL zdd u.funcs hkx (fun _=>none);obtain⟨h1,h2,h3,h4⟩:=HV.out.funcs.2 _ (zzM hkx);rw [show zdd u.funcs[k]=(u.funcs[k].entry.toNat,zcr u.funcs[k].arity)from rfl]at hst;generalize u.funcs[k]=f at *;obtain⟨nm,ar,pb,en⟩:=f;simp only at q0 q1 q2 q3 h1 h2 h3 h4 hst;obtain⟨e,rfl⟩:=zzJ h3;rw [<-HN.out]at h4;rw [zzq13]at hst;have HST:=zzH hst;have hk0:(0:Int)<=(k:Int):=by omega
   have hk1:(k:Int)<(nf:Int):=by omega
   have he0:(0:Int)<=(e:Int):=by omega
   have he1:(e:Int)<(n:Int):=by omega
   have heN:e<n:=by omega
   have hbox:=zzF wr (.cells #[.string nm,.int .i64 ar,.bool pb,.int .i64 e] 106);have hal:=(zzR wr.heap.size wr).alloc (zzL _) (.cells #[.string nm,.int .i64 ar,.bool pb,.int .i64 e] 106);clear hst r1 r2 r3 hfb h3 h4;go_upto_region 5 with fail;generalize wr.alloc (.cells #[.string nm,.int .i64 ar,.bool pb,.int .i64 e] 106)=W5 at *;have HME:Hid (MeetI W5 mb n 0 k (((u.funcs.take k).map zdd).foldl zC (fun _=>none))):=zzH (HMk.out.below hal);have hx5:=HEk.out.below hal;have HX5:=zzH hx5;have e1:=hx5.cx.e1;rw [<-HN.out]at e1;have z1:=zm hbox (k:=1) (by simp);have z3:=zm hbox (k:=3) (by simp);simp only [zzX2]at z1 z3;generalize wr.heap.size=B5 at *;have hB5:=zb hbox;have hE5:=zb HX5.out.ex
   have HEN:Hid (Calls Tryz.prog 54 #[.int .i64 ar] W5.drew fun e' w6=> ∃sb,e'= .returned (.pointer (some ⟨sb,0,none⟩))/\Hid (Calls Tryz.prog 53 #[.pointer (some ⟨mb,e*3,none⟩),.pointer (some ⟨sb,0,none⟩)] w6 fun e' w7=>e'= .returned (.tuple #[])/\Hid (w7.cell? ⟨E,1,none⟩=some (.slice (some ⟨mb,0,none⟩) n n)/\w7.cell? ⟨B5,1,none⟩=some (.int .i64 ar)/\w7.cell? ⟨B5,3,none⟩=some (.int .i64 e))/\Hid (MeetI w7 mb n 0 (k+1) (((u.funcs.take (k+1)).map zdd).foldl zC (fun _=>none)))/\Hid (VEnv w w7 E U mb 0 u lo (some ⟨fb,off,none⟩) go (some ⟨cb,cf,none⟩) lc fc gc cc n))/\Hid (w6.cell? ⟨E,1,none⟩=some (.slice (some ⟨mb,0,none⟩) n n)/\w6.cell? ⟨B5,1,none⟩=some (.int .i64 ar)/\w6.cell? ⟨B5,3,none⟩=some (.int .i64 e))):=zzH (by
    refine(zfb ar W5.drew ⟨h1,by omega⟩).mono ?_;rintro e' w6 ⟨⟨sb,rfl,-,hsb⟩,hb6⟩;have hb6':=(zzR W5.heap.size W5).drew.trans hb6;have hx6:=HX5.out.below hb6';refine⟨sb,rfl,zzH ?_,zzH ⟨(hb6'.cell (p:=⟨E,1,none⟩) hE5).trans e1,(hb6'.cell (p:=⟨B5,1,none⟩) hB5).trans z1,(hb6'.cell (p:=⟨B5,3,none⟩) hB5).trans z3⟩⟩;refine(zcR mb n 0 _ e sb _ (zcr ar) w6 (HME.out.below hb6') heN hsb (zfI (by omega)) (by omega) (by omega)).mono ?_;rintro e' w7 ⟨rfl,hm7,ha7⟩;rw [<-HST.out]at hm7;have hx7:=hx6.add ha7.1 ha7.2;have hb7:=((KeepT.below hb6').trans ha7.1).2 B5 _ _ _ hbox (by decide) (by decide);have e7:=hx7.cx.e1;rw [<-HN.out]at e7;exact⟨rfl,zzH ⟨e7,by rw [zzq0 _ _ _ _ _ _ hb7];rfl,by rw [zzq0 _ _ _ _ _ _ hb7];rfl⟩,zzH hm7,zzH hx7⟩)
   have KS:Hid (W5.drew.cell? ⟨E,1,none⟩=some (.slice (some ⟨mb,0,none⟩) n n)/\W5.drew.cell? ⟨B5,1,none⟩=some (.int .i64 ar)/\W5.drew.cell? ⟨B5,3,none⟩=some (.int .i64 e)):=zzH ⟨e1,z1,z3⟩;clear hbox hal hx5 q0 q1 q2 q3 h1
   first|go_region_held3 (fun w'=>w'.cell? ⟨E,1,none⟩=some (.slice (some ⟨mb,0,none⟩) n n)/\w'.cell? ⟨B5,1,none⟩=some (.int .i64 ar)/\w'.cell? ⟨B5,3,none⟩=some (.int .i64 e)) (first|with_reducible exact KS.out|with_reducible exact KS6.out|with_reducible exact KS7.out)
    ((first|(go_at_call 54;(with_reducible refine HEN.out.mono ?_);rintro e' w6 ⟨sb,rfl,HAD,KS6⟩)|(go_at_call 53;(with_reducible refine HAD.out.mono ?_);rintro e' w7 ⟨rfl,KS7,HM7,HX7⟩)))|fail
   go_wp2_with fail;refine⟨⟨k+1,hlt,by go_num,HM7,HX7⟩,by simp [intOf];omega⟩
  ·obtain rfl:k=nf:=by omega
   have HM1:Hid (MeetI wr mb n 0 200 ((u.funcs.map zdd).foldl zC (fun _=>none))):=zzH (by
    have:=HMk.out;rw [HNF.out,List.take_length]at this;exact this.mono (zzL _) (by rw [<-HNF.out];exact hfn))
   have b4:=(HBX.out.below HEk.out.bl).c4;clear HMk;have hgn:=HV.out.funs.1;obtain⟨ng,hng⟩: ∃ng,ng=u.funs.length:=⟨_,rfl⟩;rw [<-hng]at b4 hgn;have HNG:=zzH hng;clear hng b3;obtain⟨wo,rfl⟩: ∃wo:World,wo=wr:=⟨_,rfl⟩;go_wp2_with fail;go_loopw [52] (fun iv wr=> ∃k:Nat,k<=ng/\iv= .int .i64 k/\Hid (MeetI wr mb n 0 (200+k) (((u.funs.take k).map zfz).foldl zC ((u.funcs.map zdd).foldl zC (fun _=>none))))/\Hid (VEnv w wr E U mb 0 u lo fo go (some ⟨cb,cf,none⟩) lc fc gc cc n)) (fun iv _=>ng-(intOf iv).toNat)
   case atStart=>exact⟨0,zzZ _,rfl,HM1,HEk⟩
   case round=>
    obtain⟨k,hk,rfl,HMk,HEk⟩:=hrel;rename World=>wr
    by_cases hlt:k<ng
    ·as_aux_lemma=>
     have hkx:k<u.funs.length:=by rw [<-HNG.out];exact hlt
     obtain⟨fb,off,hfo,hfb,q0,q1,q2,r1⟩:=(HUP.out.funs.mono HEk.out.bl (fun _ _ h=>h)).fn hkx;subst hfo;have hst:=zfL zfz u.funs hkx ((u.funcs.map zdd).foldl zC (fun _=>none));obtain⟨h1,h2,h3,h4,h5,h6⟩:=HV.out.funs.2 _ (zzM hkx);rw [show zfz u.funs[k]=(u.funs[k].entry.toNat,zcr (u.funs[k].arity+u.funs[k].free))from rfl]at hst;generalize u.funs[k]=f at *;obtain⟨ar,fr,en⟩:=f;simp only at q0 q1 q2 h1 h2 h3 h4 h5 h6 hst;obtain⟨e,rfl⟩:=zzJ h5;rw [<-HN.out]at h6;rw [zzq13]at hst;have HST:=zzH hst;have hk0:(0:Int)<=(k:Int):=by omega
     have hk1:(k:Int)<(ng:Int):=by omega
     have he0:(0:Int)<=(e:Int):=by omega
     have he1:(e:Int)<(n:Int):=by omega
     have heN:e<n:=by omega
     have hbox:=zzF wr (.cells #[.int .i64 ar,.int .i64 fr,.int .i64 e] 70);have hal:=(zzR wr.heap.size wr).alloc (zzL _) (.cells #[.int .i64 ar,.int .i64 fr,.int .i64 e] 70);clear hst r1 hfb h5 h6;go_upto_region 10 with fail;generalize wr.alloc (.cells #[.int .i64 ar,.int .i64 fr,.int .i64 e] 70)=W5 at *;have HME:Hid (MeetI W5 mb n 0 (200+k) (((u.funs.take k).map zfz).foldl zC ((u.funcs.map zdd).foldl zC (fun _=>none)))):=zzH (HMk.out.below hal);have hx5:=HEk.out.below hal;have HX5:=zzH hx5;have e1:=hx5.cx.e1;rw [<-HN.out]at e1;have z0:=zm hbox (k:=0) (by simp);have z1:=zm hbox (k:=1) (by simp);have z2:=zm hbox (k:=2) (by simp);simp only [zzX2]at z0 z1 z2;generalize wr.heap.size=B5 at *;obtain⟨af,haf⟩: ∃af,af=ar+fr:=⟨_,rfl⟩;have hwr:IntKind.i64.wrap (ar+fr)=af:=by rw [haf,zzq5];omega
     have haf0:0<=af/\af<=256:=by omega
     rw [<-haf]at HST;have hB5:=zb hbox;have hE5:=zb HX5.out.ex
     have HEN:Hid (Calls Tryz.prog 54 #[.int .i64 af] W5.drew fun e' w6=> ∃sb,e'= .returned (.pointer (some ⟨sb,0,none⟩))/\Hid (Calls Tryz.prog 53 #[.pointer (some ⟨mb,e*3,none⟩),.pointer (some ⟨sb,0,none⟩)] w6 fun e' w7=>e'= .returned (.tuple #[])/\Hid (w7.cell? ⟨E,1,none⟩=some (.slice (some ⟨mb,0,none⟩) n n)/\w7.cell? ⟨B5,0,none⟩=some (.int .i64 ar)/\w7.cell? ⟨B5,1,none⟩=some (.int .i64 fr)/\w7.cell? ⟨B5,2,none⟩=some (.int .i64 e))/\Hid (MeetI w7 mb n 0 (200+(k+1)) (((u.funs.take (k+1)).map zfz).foldl zC ((u.funcs.map zdd).foldl zC (fun _=>none))))/\Hid (VEnv w w7 E U mb 0 u lo fo (some ⟨fb,off,none⟩) (some ⟨cb,cf,none⟩) lc fc gc cc n))/\Hid (w6.cell? ⟨E,1,none⟩=some (.slice (some ⟨mb,0,none⟩) n n)/\w6.cell? ⟨B5,0,none⟩=some (.int .i64 ar)/\w6.cell? ⟨B5,1,none⟩=some (.int .i64 fr)/\w6.cell? ⟨B5,2,none⟩=some (.int .i64 e))):=zzH (by
      refine(zfb af W5.drew ⟨haf0.1,by omega⟩).mono ?_;rintro e' w6 ⟨⟨sb,rfl,-,hsb⟩,hb6⟩;have hb6':=(zzR W5.heap.size W5).drew.trans hb6;have hx6:=HX5.out.below hb6';refine⟨sb,rfl,zzH ?_,zzH ⟨(hb6'.cell (p:=⟨E,1,none⟩) hE5).trans e1,(hb6'.cell (p:=⟨B5,0,none⟩) hB5).trans z0,(hb6'.cell (p:=⟨B5,1,none⟩) hB5).trans z1,(hb6'.cell (p:=⟨B5,2,none⟩) hB5).trans z2⟩⟩;refine(zcR mb n 0 _ e sb _ (zcr af) w6 (HME.out.below hb6') heN hsb (zfI (by omega)) (by omega) (by omega)).mono ?_;rintro e' w7 ⟨rfl,hm7,ha7⟩;rw [<-HST.out]at hm7;have hx7:=hx6.add ha7.1 ha7.2;have hb7:=((KeepT.below hb6').trans ha7.1).2 B5 _ _ _ hbox (by decide) (by decide);have e7:=hx7.cx.e1;rw [<-HN.out]at e7;exact⟨rfl,zzH ⟨e7,by rw [zzq0 _ _ _ _ _ _ hb7];rfl,by rw [zzq0 _ _ _ _ _ _ hb7];rfl,by rw [zzq0 _ _ _ _ _ _ hb7];rfl⟩,zzH hm7,zzH hx7⟩)
     have KS:Hid (W5.drew.cell? ⟨E,1,none⟩=some (.slice (some ⟨mb,0,none⟩) n n)/\W5.drew.cell? ⟨B5,0,none⟩=some (.int .i64 ar)/\W5.drew.cell? ⟨B5,1,none⟩=some (.int .i64 fr)/\W5.drew.cell? ⟨B5,2,none⟩=some (.int .i64 e)):=zzH ⟨e1,z0,z1,z2⟩;clear hbox hal hx5 q0 q1 q2 h1 h2 h3 h4 haf
     first|go_region_held3 (fun w'=>w'.cell? ⟨E,1,none⟩=some (.slice (some ⟨mb,0,none⟩) n n)/\w'.cell? ⟨B5,0,none⟩=some (.int .i64 ar)/\w'.cell? ⟨B5,1,none⟩=some (.int .i64 fr)/\w'.cell? ⟨B5,2,none⟩=some (.int .i64 e)) (first|with_reducible exact KS.out|with_reducible exact KS6.out|with_reducible exact KS7.out)
      ((first|(go_at_call 54;(with_reducible refine HEN.out.mono ?_);rintro e' w6 ⟨sb,rfl,HAD,KS6⟩)|(go_at_call 53;(with_reducible refine HAD.out.mono ?_);rintro e' w7 ⟨rfl,KS7,HM7,HX7⟩)))|fail
     go_wp2_with fail;refine⟨⟨k+1,hlt,by go_num,HM7,HX7⟩,by simp [intOf];omega⟩
    ·obtain rfl:k=ng:=by omega
     have HM2:Hid (MeetI wr mb n 0 1200 ((zcK u).foldl zC (fun _=>none))):=zzH (by
      have:=HMk.out;rw [HNG.out,List.take_length]at this
      have e:(zcK u).foldl zC (fun _=>none)=(u.funs.map zfz).foldl zC ((u.funcs.map zdd).foldl zC (fun _=>none)):=by
       unfold zcK;rw [List.foldl_append];rfl
      rw [e];exact this.mono (zzL _) (by rw [<-HNG.out];omega))
     clear HMk HM1;have HRE:Hid (R=zco u n 0 ((zcK u).foldl zC (fun _=>none))):=zzH (by rw [HR.out,HN.out];rfl);generalize(zcK u).foldl zC (fun _=>none)=M0 at *;clear b4 hgn HNG HNF hfn;go_wp2_with fail;refine(zhk wr).mono ?_;rintro e w1 ⟨rfl,hck,hb1⟩;have hM1:=HM2.out.below hb1;have hE1:=HEk.out.below hb1;refine zzK3 hM1 hE1 hck fun HMS HES HCK=>?_;have b5:=(HBX.out.below hE1.bl).c5;rw [<-HN.out]at b5;generalize wr.heap.size=CK at *;clear hb1 hM1 hE1 hck HM2 HEk;go_wp2_with fail;go_loopw [77] (fun iv wr=> ∃(i:Nat) (Mi:Nat->Option VM) (a:Int),i<=n/\iv= .int .i64 i/\Hid (R=zco u (n-i) i Mi)/\Hid (MeetI wr mb n i (1200+1200*i) Mi)/\Hid (VEnv w wr E U mb a u lo fo go (some ⟨cb,cf,none⟩) lc fc gc cc n)/\Hid (wr.heap[CK]?=some (.cells zdb 126 (0,0)))) (fun iv _=>n-(intOf iv).toNat)
     case atStart=>exact⟨0,M0,0,zzZ _,rfl,HRE,HMS,HES,HCK⟩
     case round=>
      obtain⟨i,Mi,a,hi,rfl,HRi,HMi,HEi,HCi⟩:=hrel;clear HMS HES HCK b5;rename World=>wr
      by_cases hlt:i<n
      ·as_aux_lemma=>
       have hEE:w.heap.size<=E:=by have:=HEE.out;omega
       have hex:=HEi.out.ex;have q2:=HEi.out.cx.e2;have qf:wr.frozen? ⟨E,2,none⟩=false:=zzq2 _ _ _ _ _ hex;have hI0:(0:Int)<=(i:Int):=by omega
       have hI1:(i:Int)<(n:Int):=by omega
       go_upto_region 17 with fail;have hMx:=HMi.out.setFar (i:=2) (v:=.int .i64 i) hex;have hEx:=HEi.out.setAt hEE (i:Int);have hCx:=zc6 (i:=2) (v:=.int .i64 i) HCi.out hex (by decide);generalize wr.setCell ⟨E,2,none⟩ (.int .i64 i)=W at *;refine zzK3 hMx hEx hCx fun HMW HEW HCW=>?_;have e1:=hEx.cx.e1;rw [<-HN.out]at e1;clear hex q2 qf hMx hEx hCx HMi HEi HCi;obtain⟨⟨csi,gi,hmi⟩,hai⟩:=HMW.out;obtain⟨pv,av,wv,f0,f1,f2,h1⟩:=hmi.one i hlt;have c0:W.cell? ⟨mb,i*3,none⟩=some pv:=by rw [zzq0 _ _ _ _ _ _ hmi.row];exact f0
       have c2:W.cell? ⟨mb,i*3+2,none⟩=some wv:=by rw [zzq0 _ _ _ _ _ _ hmi.row];exact f2
       obtain⟨f,hf⟩: ∃f,n-i=f+1:=⟨n-i-1,by omega⟩;have hf2:n-(i+1)=f:=by omega
       have HRI:Hid (R=zco u (f+1) i Mi):=zzH (by rw [HRi.out,hf]);have HF2:=zzH hf2;clear hf hf2 HRi hmi f0 f1 f2
       cases hMi:Mi i with
       |none=>
        rw [hMi]at h1;obtain⟨rfl,rfl,rfl⟩:=h1;have HRJ:Hid (R=zco u (n-(i+1)) (i+1) Mi):=zzH (by rw [HRI.out,HF2.out,zco,hMi]);clear hMi hai;go_wp2_with fail;refine⟨⟨i+1,Mi,i,hlt,by go_num,HRJ,zzH (HMW.out.mono (Nat.le_succ i) (by omega)),HEW,HCW⟩,by simp [intOf];omega⟩
       |some m=>
        rw [hMi]at h1;obtain⟨⟨b,rfl,hsb⟩,rfl,-⟩:=h1;have him:=hai i m hMi;unfold zce at c0;refine zzK3 hsb him hMi fun HSB HIM HMI=>?_;clear hsb him hMi hai;by_cases hwr:m.wrong=0
        ·rw [hwr]at c2
         have HWR:=zzH hwr;clear hwr;have hix:i<u.code.length:=by rw [<-HN.out];exact hlt
         obtain⟨x,hx⟩: ∃x,x=u.code[i]:=⟨_,rfl⟩;have hxi:zdu u i=x:=by rw [hx];unfold zdu;rw [zzq4 hix];rfl
         have hvi:VIns u i x:=by rw [hx];exact HV.out.ins i hix
         obtain⟨sb',sf',so,co',go',sc,cc',gc',hce,hib⟩:=zdz HUP.out.code hix;injection hce with hce;injection hce with hce1 hce2;subst hce1;subst hce2;rw [<-hx]at hib;refine zzK3 hxi hvi hib fun HXI HVI HIB=>?_;clear hx hxi hvi hib hix;obtain⟨L,hL⟩: ∃L,L=ziW u i m.st x:=⟨_,rfl⟩;have hL6:L.length=6:=by rw [hL];rfl
         have HL:=zzH hL;have HL6:=zzH hL6
         have HCHK:Hid (∀j,j<6-> ∃f:FuncId,zdb[j]?=some (.func (.func f) #[] #[])/\(∀(args:Array Value) (w:World),(callFunc f args).run Tryz.prog w= .ok (.enter f args) w) /\
           ∀wx,Below W.heap.size W wx->Calls Tryz.prog f #[.pointer (some ⟨E,0,none⟩),.pointer (some ⟨b,0,none⟩),.pointer (some ⟨cb,cf+i*10,none⟩)] wx fun e w'=>e= .returned (.int .i64 (L.getD j 0))/\Below wx.heap.size wx w'):=zzH (fun j hj=>by
          rw [hL];exact zly E U mb b cb (cf+i*10) i u lo fo go (some ⟨cb,cf,none⟩) lc fc gc cc n x m.st so co' go' sc cc' gc' W HEW.out.cx (HIB.out.below HEW.out.bl) HSB.out (HIM.out.st.ok (by omega)) HV.out.lits HVI.out j hj)
         have HC0:=zzH c0;clear hL hL6;go_wp2_with fail;go_loopw [107] (fun jv wr=> ∃j:Nat,j<=6/\jv= .int .i64 j/\Hid (zbX L=zbX (L.drop j))/\Hid (Below W.heap.size W wr)) (fun jv _=>6-(intOf jv).toNat)
         case atStart=>exact⟨0,zzZ _,rfl,zzH (by rw [List.drop_zero]),zzH (zzR _ _)⟩
         case round=>
          obtain⟨j,hj,rfl,HLj,HBj⟩:=hrel;rename World=>wr
          by_cases hjt:j<6
          ·as_aux_lemma=>
           obtain⟨f6,hf6,hent,hcon⟩:=HCHK.out j hjt;have hd:=zhs (l:=L) (j:=j) (by rw [HL6.out];exact hjt);have hgd:L.getD j 0=L[j]'(by rw [HL6.out];exact hjt):=by rw [List.getD_eq_getElem?_getD,zzq4];rfl
           rw [<-hgd]at hd;have HD:=zzH hd;generalize L.getD j 0=ej at *
           have hck:wr.cell? ⟨CK,j,none⟩=some (.func (.func f6) #[] #[]):=by
            rw [zzq0 _ _ _ _ _ _ ((HBj.out.block CK (zb HCW.out)).trans HCW.out)];exact hf6
           have hJ0:(0:Int)<=(j:Int):=by omega
           have hJ1:(j:Int)<6:=by omega
           have hbox:=zzF wr (.cells #[.func (.func f6) #[] #[]] 126);have hal:=HBj.out.alloc HBj.out.size (.cells #[.func (.func f6) #[] #[]] 126);clear hd hgd hf6 c0 c2 e1;go_upto_region 24 with fail;generalize wr.alloc (.cells #[.func (.func f6) #[] #[]] 126)=W5 at *;have z0:=zm hbox (k:=0) (by simp);simp only [List.getElem_toArray,List.getElem_cons_zero]at z0;have c5:W5.cell? ⟨mb,i*3,none⟩=some (.pointer (some ⟨b,0,none⟩)):=(hal.cell (p:=⟨mb,i*3,none⟩) HMW.out.mb).trans HC0.out;have b5:=(HBX.out.below (HEW.out.bl.trans (hal.mono HEW.out.bl.size))).c5;rw [<-HN.out]at b5;have HAL:=zzH hal;have HCO:=zzH (hcon W5.drew (hal.trans ((zzR _ _).drew)));generalize wr.heap.size=B5 at *;clear hbox hal hck hcon;by_cases hej:ej=0
           ·have HLJ:Hid (zbX L=zbX (L.drop (j+1))):=zzH (by rw [HLj.out,HD.out,if_neg (fun h=>h hej)])
            subst hej;clear HLj HD;go_still_tail 13,(by kernel_rfl);change wpList _ _ _ _ _ W5.drew;go_wp2_with fail;refine HCO.out.mono ?_;rintro e w6 ⟨rfl,hb6⟩;have HB6:Hid (Below W.heap.size W w6):=zzH ((HAL.out.trans (zzR _ _).drew).trans (hb6.mono HAL.out.size));clear hb6 HCO;go_wp2_with fail;refine⟨⟨j+1,hjt,by go_num,HLJ,HB6⟩,by simp [intOf];omega⟩
           ·have HFN:Hid (zbX L=ej):=zzH (by rw [HLj.out,HD.out,if_pos hej])
            have HEJ:=zzH hej;have u1 : (ej != 0) = true := by simpa using hej
            have HRR:Hid (R=(((i:Int),ej),Mi)):=zzH (by
             have hc:zcw u i m.st (zdu u i)=ej:=by rw [HXI.out,<-HFN.out,HL.out];rfl
             rw [HRI.out,zco,HMI.out];simp only;rw [if_neg (fun h=>h HWR.out),hc,if_pos hej])
            clear hej HLj HD;go_still_tail 13,(by kernel_rfl);change wpList _ _ _ _ _ W5.drew;go_wp2_with fail;refine HCO.out.mono ?_;rintro e w6 ⟨rfl,hb6⟩;have HB6:Hid (Below W.heap.size W w6):=zzH ((HAL.out.trans (zzR _ _).drew).trans (hb6.mono HAL.out.size));clear hb6 HCO;go_wp2;go_ret3;exact HGOAL.out _ _ ⟨⟨.pointer none,by(have h:=HRR.out;subst h;rfl),fun _=>rfl,fun h=>absurd (by rw [HRR.out]at h;exact h) HEJ.out⟩,HEW.out.bl.trans (HB6.out.mono HEW.out.bl.size)⟩
          ·obtain rfl:j=6:=by omega
           as_aux_lemma=>
           have HC:Hid (zcw u i m.st x=0):=zzH (by
            have h1:zcw u i m.st x=zbX L:=by rw [HL.out];rfl
            rw [h1,HLj.out,zzq10 (by rw [HL6.out];exact Nat.le_refl 6)];rfl)
           have hxx:=HEW.out.below HBj.out;have c5:wr.cell? ⟨mb,i*3,none⟩=some (.pointer (some ⟨b,0,none⟩)):=(HBj.out.cell (p:=⟨mb,i*3,none⟩) HMW.out.mb).trans HC0.out;obtain⟨PE,hPE⟩: ∃PE,PE=zdn u i m.st x (stM Mi):=⟨_,rfl⟩;have hps:=zjt w E U mb b i (1200+1200*i) u lo fo go cb cf lc fc gc cc n m.st x Mi wr hxx (by rw [<-HN.out];exact HMW.out.below HBj.out) (HSB.out.below HBj.out) (by rw [<-HN.out];exact HIM.out.st) (by rw [<-HN.out];exact hlt) HXI.out HVI.out HC.out HV.out.lits (by rw [<-HN.out];exact hn2) (by omega)
           have hps2:Calls Tryz.prog 56 #[.pointer (some ⟨E,0,none⟩),.int .i64 i,.pointer (some ⟨b,0,none⟩)] wr fun e w'=>e= .returned (.int .i64 PE)/\Hid (AddK mb wr w')/\Hid (PE=0->MeetI w' mb n (i+1) (1200+1200*i+1200) ((zcG u i m.st x).foldl zC Mi)):=
            hps.mono fun e w' h=>by
             unfold zh8 at h;rw [<-hPE,<-HN.out]at h;exact⟨h.1,zzH h.2.1,zzH h.2.2⟩
           refine zzK3 hps2 hPE hxx fun HPS HPE HXX=>?_;clear hps hps2 hPE hxx c0 c2 e1 HLj;by_cases hpe:PE=0
           ·have HRJ:Hid (R=zco u (n-(i+1)) (i+1) ((zcG u i m.st x).foldl zC Mi)):=zzH (by
             rw [HRI.out,HF2.out,zco,HMI.out];simp only;rw [if_neg (fun h=>h HWR.out),HXI.out,if_neg (fun h=>h HC.out),<-HPE.out,if_neg (fun h=>h hpe)])
            subst hpe;go_wp2_with fail;refine HPS.out.mono ?_;rintro e w6 ⟨rfl,HAK,HM6⟩;have HM7:Hid (MeetI w6 mb n (i+1) (1200+1200*(i+1)) ((zcG u i m.st x).foldl zC Mi)):=zzH ((HM6.out (by first|trivial|rfl)).mono (zzL _) (by omega));have HX6:=zzH (HXX.out.add HAK.out.1 HAK.out.2);have HC6:Hid (w6.heap[CK]?=some (.cells zdb 126 (0,0))):=zzH (HAK.out.1.2 CK _ _ _ ((HBj.out.block CK (zb HCW.out)).trans HCW.out) (by decide) (by decide))
            clear HPS HAK HM6 HXX HPE;go_wp2_with fail;refine⟨⟨i+1,_,i,hlt,by go_num,HRJ,HM7,HX6,HC6⟩,by simp [intOf];omega⟩
           ·have HRR:Hid (R=(((i:Int),PE),Mi)):=zzH (by
             rw [HRI.out,zco,HMI.out];simp only;rw [if_neg (fun h=>h HWR.out),HXI.out,if_neg (fun h=>h HC.out),<-HPE.out,if_pos hpe])
            have HEJ:=zzH hpe;have u1 : (PE != 0) = true := by simpa using hpe
            clear hpe;go_wp2_with fail;refine HPS.out.mono ?_;rintro e w6 ⟨rfl,HAK,-⟩;have HX6:=zzH (HXX.out.add HAK.out.1 HAK.out.2);clear HPS HAK HXX;go_wp2;go_ret3;exact HGOAL.out _ _ ⟨⟨.pointer none,by(have h:=HRR.out;subst h;rfl),fun _=>rfl,fun h=>absurd (by rw [HRR.out]at h;exact h) HEJ.out⟩,HX6.out.bl⟩
        ·have HRR:Hid (R=(((i:Int),m.wrong),Mi)):=zzH (by rw [HRI.out,zco,HMI.out];simp only;rw [if_pos hwr])
         have u1 : (m.wrong != 0) = true := by simpa using hwr
         have HWR:=zzH hwr;clear hwr;generalize hmw:m.wrong=mw at *;have HMW2:=zzH hmw;clear hmw;go_wp2_with fail;go_quiet (fail);go_wp2;go_ret3;refine HGOAL.out _ _ ⟨⟨.pointer none,by(have h:=HRR.out;subst h;rfl),fun _=>rfl,fun h=>absurd (by rw [HRR.out]at h;exact h) HWR.out⟩,zg HEW.out.bl _⟩
      ·obtain rfl:i=n:=by omega
       have HRR:Hid (R=((0,0),Mi)):=zzH (by rw [HRi.out,Nat.sub_self];rfl);go_wp2;go_ret3;refine HGOAL.out _ _ ⟨⟨.pointer (some ⟨E,0,none⟩),by(have h:=HRR.out;subst h;rfl),fun h=>absurd (by(have h:=HRR.out;subst h;rfl)) h,fun _=>⟨E,mb,i,a,rfl,HEi.out.ex,?_⟩⟩,HEi.out.bl⟩;rw [HRR.out,<-HN.out];exact HMi.out.mono (zzL _) (by omega)
theorem zdw: ∀{l:List Int},(∀x∈l,0<=x)->0<=zbA l
 |[],_=>Int.le_refl _
 |x::l,h=>by
  have h1:=h x (List.mem_cons_self ..);have h2:=zdw (l:=l) (fun y hy=>h y (zzh _ hy));show 0<=x+zbA l;omega
theorem zim {t:Tm} (h:zcc t=true):0<=zcm t:=by
 unfold zcc at h;rw [zzq6]at h;have h:=h.1;unfold zcm;split
 ·rename_i k9
  unfold okK at h;simp only [k9]at h;simp at h;omega
 ·split
  ·rename_i k10
   unfold okK at h;simp only [k10]at h;simp at h;unfold zgb zcN wi at h;simp at h;omega
  ·decide
theorem zeb: ∀(f:Nat) (t:Tm),zr f t=true->0<=zD f t
 |0,_,h=>Int.le_refl _
 |f+1,t,h=>by
  unfold zr at h;rw [zzq6]at h;have h1:=zim h.1
  have h2:0<=zbA (t.items.map (zD f)):=zdw (fun x hx=>by
   obtain⟨y,hy,rfl⟩:=List.mem_map.1 hx;exact zeb f y (zzp.1 h.2 y hy))
  show 0<=zcm t+zbA (t.items.map (zD f));omega
theorem zkz {f:Nat} {t:Tm} (h:zbc f t=true):t.items.length<=1000000:=by
 unfold zbc at h;rw [zzq6,zzq9]at h;obtain⟨h1,h2⟩:=h
 cases f with
 |zero=>cases h1
 |succ f=>
  have h3:0<=zbA (t.items.map (zD f)):=by
   unfold zr at h1;rw [zzq6]at h1
   exact zdw (fun x hx=>by
    obtain⟨y,hy,rfl⟩:=List.mem_map.1 hx;exact zeb f y (zzp.1 h1.2 y hy))
  unfold zr zcc at h1;rw [zzq6,zzq6]at h1;have h4:zcm t+zbA (t.items.map (zD f))<=2000:=h2;obtain⟨⟨hk,hz⟩,-⟩:=h1;unfold zf9 at hz;simp only [zzq6,Bool.or_eq_true,zzq9]at hz;rcases hz.1.1.2 with hk2|hz0
  ·rcases hk2 with h|h|h
   ·unfold okK at hk
    simp only [h]at hk;simp at hk;omega
   ·unfold okK at hk
    simp only [h]at hk;simp at hk;omega
   ·unfold zcm at h4
    rw [if_pos h]at h4;omega
  ·have:t.items.length=0:=zza hz0
   omega
theorem zkq {f:Nat} {u:RUnit} (h:zbN f u=0):UnitV u:=by
 obtain⟨ht,htab,hins⟩:=zkr h;have hlv:=ze2 htab;unfold zF at htab;simp only [zzq6]at htab;obtain⟨ha,-,hf,hg⟩:=htab;refine⟨ht.code0,zzY ht.code1 (by decide),fun i hi=>zla ht (hins i hi),⟨ht.funcs,fun g hm=>?_⟩,⟨ht.funs,fun g hm=>?_⟩,fun t hm=>zkz (hlv t hm)⟩
 ·obtain⟨k,hk,rfl⟩:=List.getElem_of_mem hm
  have:=(zza hf k hk).1;unfold zdv at this;rw [zzq6,zzq6]at this;have a:=zbn this.2.1;have b:=zbn this.2.2;omega
 ·exact zz70
def zcq (f:Nat) (u:RUnit):Int × Int:=if zbN f u≠0 then(zci f u,zbN f u)else(zcX u).1
structure ChkAt (w:World) (f:Nat) (u:RUnit) (lo fo go co:Option Addr):Prop where
 rows:RowsAt w
 sp:SpaceAt w
 up:UP w u lo fo go co
 lits:SlAt w 9 (TmAt w (f+1)) lo u.lits
 cap: ∀t∈u.lits,(zv (f+1) t:Int)<=1152921504606846976
 nm: ∀x∈u.code,x.name.size<=140737488355328
theorem ChkAt.below {w w':World} {f:Nat} {u:RUnit} {lo fo go co:zzA} (h:ChkAt w f u lo fo go co) (hb:Below w.heap.size w w'):ChkAt w' f u lo fo go co:=
 ⟨h.rows.below hb,h.sp.below hb,h.up.below hb,h.lits.tms hb,h.cap,h.nm⟩
theorem zeP (f:Nat) (u:RUnit) (lo fo go co:zzA) (lc fc gc cc:Nat) (w:World) (h:ChkAt w f u lo fo go co):
  Calls Tryz.prog 11 #[.agg (zzu u lo lc fo fc go gc co cc)] w fun e w'=>e= .returned (.tuple #[.int .i64 (zcq (f+1) u).1,.int .i64 (zcq (f+1) u).2])/\Below w.heap.size w w':=by
 unfold zzu;have hbx:=zeJ w u lo fo go co lc fc gc cc;have hba:Below w.heap.size w (w.alloc (.cells (zzu u lo lc fo fc go gc co cc) 27)):=zzE _ _;have hc:=h.below hba;obtain⟨V,hV⟩: ∃V,V=zcq (f+1) u:=⟨_,rfl⟩;rw [<-hV];have HV:=zzH hV;clear hV h;go_in;go_upto_region 1 with fail;generalize w.alloc (.cells (zzu u lo lc fo fc go gc co cc) 27)=W at *;generalize hB:w.heap.size=B at *;refine zzK3 hba hbx hc fun HBA HBX HC=>?_;have c0:=hbx.c0;have c1:=hbx.c1;have c2:=hbx.c2;have c3:=hbx.c3;have c4:=hbx.c4;have c5:=hbx.c5;have HCK:=zzH (zjy f u lo fo go co lc fc gc cc W hc.rows hc.sp hc.up hc.lits hc.cap hc.nm);clear hba hbx hc;obtain⟨ce,hce⟩: ∃ce,ce=zbN (f+1) u:=⟨_,rfl⟩;obtain⟨ci,hci⟩: ∃ci,ci=zci (f+1) u:=⟨_,rfl⟩;rw [<-hce,<-hci]at HCK;have HCE:=zzH hce;have HCI:=zzH hci;clear hce hci;go_wp2_with fail;refine HCK.out.mono ?_;rintro e w1 ⟨rfl,hb1⟩;have HB1:=zzH hb1;clear hb1 HCK c0 c1 c2 c3 c4 c5;have HFIN:Hid (∀wx,Below w1.heap.size w1 wx->Below B w wx):=zzH (fun wx h=>(HBA.out.trans (HB1.out.mono (by rw [<-hB];rw [hB];exact HBA.out.size |> fun h=>by omega))).trans (h.mono (by have:=HB1.out.size;have:=HBA.out.size;omega)));by_cases h0:ce=0
 ·have HEX:=zzH (zgG B u lo fo go co lc fc gc cc w1 (HBX.out.below HB1.out) (HC.out.up.below HB1.out) (zkq (by rw [<-HCE.out];exact h0)))
  have E:Hid (V=(zcX u).1):=zzH (by rw [HV.out];unfold zcq;rw [<-HCE.out,if_neg (fun h=>h h0)]);subst h0;go_wp2_with fail;refine HEX.out.mono ?_;rintro e w2 ⟨⟨pv,rfl,-,-⟩,hb2⟩;rw [<-E.out];have HB2:=zzH hb2;clear hb2 HEX;go_wp2;go_ret2;exact⟨rfl,by rw [hB];exact HFIN.out _ HB2.out⟩
 ·have E:Hid (V=(ci,ce)):=zzH (by rw [HV.out];unfold zcq;rw [<-HCE.out,<-HCI.out,if_pos h0])
  have u1 : (ce != 0) = true := by simpa using h0
  clear h0;go_wp2;go_ret2;exact⟨by(have h:=E.out;subst h;rfl),by rw [hB];exact HFIN.out _ (zzR _ _)⟩
theorem zeD (l:List RIns) (n:Nat) (hn:n=l.length) (fo co:zzA) (fc cc:Nat) (i e:Int) (w:World) (hrows:RowsAt w) (hsp:SpaceAt w) (hup:UP w (exU l) none fo none co) (hs:l.all (fun x=>x.name.size==0)=true) (hw:zcq 1 (exU l)=(i,e)):
  Calls Tryz.prog 11 #[.agg #[.string zit,.int .i64 1,.slice none 0 0,.slice fo 1 fc,.slice none 0 0,.slice co n cc]] w fun en w'=>en= .returned (.tuple #[.int .i64 i,.int .i64 e])/\Below w.heap.size w w':=by
 subst hn
 have hnm: ∀x∈(exU l).code,x.name.size<=140737488355328:=fun x hx=>by
  have h1:=zzp.1 hs x hx;have h2:x.name.size=0:=by simpa using h1
  omega
 have h:=zeP 0 (exU l) none fo none co 0 fc 0 cc w ⟨hrows,hsp,hup,.inl rfl,(fun t ht=>by cases ht),hnm⟩;rw [hw]at h;exact h
theorem zmm:zcq 1 (exU zg0)=(0,0):=by kernel_rfl
theorem zmh:zcq 1 (exU zgq)=(0,0):=by kernel_rfl
theorem zmf:zcq 1 (exU zgs)=(0,186):=by kernel_rfl
end Go.Proofs.YtepjanajflkakaaGreatDoor
