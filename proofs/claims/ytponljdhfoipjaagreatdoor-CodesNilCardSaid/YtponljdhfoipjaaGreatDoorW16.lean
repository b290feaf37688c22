import Derived.Test.YtponljdhfoipjaaGreatDoorW10
import Derived.Test.YtponljdhfoipjaaGreatDoorW14
import Derived.Test.YtponljdhfoipjaaGreatDoorW15
namespace Go.Proofs.YtponljdhfoipjaaGreatDoor
open Go.RowKit
set_option linter.unusedVariables false
set_option linter.unusedSimpArgs false
set_option maxRecDepth 100000
set_option maxHeartbeats 0
def PassQ (u:RUnit) (mb i N:Nat) (s:VSt) (x:RIns) (M:Nat->Option VM) (w:World) (e:Ending) (w':World):Prop:=
 e= .returned (.int .i64 (passE u i s x (stM M)))/\AddK mb w w'/\(passE u i s x (stM M)=0->MeetI w' mb u.code.length (i+1) (N+1200) ((addsV u i s x).foldl putM M))
theorem goB_eq {i k : Nat} {x : RIns} : goB i x (k : Int) = (decide ((i : Int) + 1 < (k : Int)) || (((k : Int) == (i : Int) + 1) && ((x.to == (k : Int) && (x.op != 28)) || x.cases.any (caseTo k)))) := by
 unfold goB caseTo
 have e1:decide ((k:Int)=(i:Int)+1)=((k:Int)==(i:Int)+1):=by rw [Bool.eq_iff_iff];simp
 have e2:decide (x.to=(k:Int))=(x.to==(k:Int)):=by rw [Bool.eq_iff_iff];simp
 have e3 : (!decide (x.op = 28)) = (x.op != 28) := by rw [Bool.eq_iff_iff]; simp
 have e4:(fun c:RCase=>decide (c.to=(k:Int)))=fun c=>c.to==(k:Int):=by funext c;rw [Bool.eq_iff_iff];simp
 rw [e1,e2,e3,e4]
structure PsAt (wx:World) (B cb o i k:Nat) (x:RIns) (co':Option Addr) (cc':Nat):Prop where
 kb:wx.cell? ⟨B,0,none⟩=some (.int .i64 k)
 lt:B<wx.heap.size
 c0:wx.cell? ⟨cb,o,none⟩=some (.int .i64 x.op)
 c4:wx.cell? ⟨cb,o+4,none⟩=some (.int .i64 x.to)
 c8:wx.cell? ⟨cb,o+8,none⟩=some (.slice co' x.cases.length cc')
 cs:SlAt wx 2 CaseR co' x.cases
abbrev HandS (w:World) (E p tb to' h:Nat) (ev:Value) (f:Int) (yv tv:Value):Prop:=w.cell? ⟨E,1,none⟩=some ev/\w.cell? ⟨p,0,none⟩=some (.int .i64 f)/\w.cell? ⟨p,2,none⟩=some yv/\w.cell? ⟨p,3,none⟩=some tv/\w.cell? ⟨tb,to',none⟩=some (.int .i64 h)
theorem vpass_any (w0:World) (E U mb p i N:Nat) (u:RUnit) (lo fo go:zzA) (cb cf:Nat) (lc fc gc cc mc:Nat) (s:VSt) (x:RIns) (M:Nat->Option VM) (w:World)
  (hx:VEnv w0 w E U mb i u lo fo go (some ⟨cb,cf,none⟩) lc fc gc cc mc) (hm:MeetI w mb u.code.length i N M) (hs:StAt w p s) (hS:SInv u.code.length i s) (hi:i<u.code.length) (hxe:insV u i=x) (hV:VIns u i x) (hc:checksV u i s x=0) (hl:LitsLen u) (hn:u.code.length<=600000) (hN:N<=100000000000):
  Calls Tryz.prog 91 #[.pointer (some ⟨E,0,none⟩),.int .i64 i,.pointer (some ⟨p,0,none⟩)] w (PassQ u mb i N s x M w):=by
 refine zzK6 hx hm hs hS hV hl fun HX HM HS HSI HV HLL=>?_
 have heff:=Lib.hid (eff_ok hS hV hc)
 have hib: ∃so co' go' sc cc' gc',IBox w0 cb (cf+i*10) x so co' go' sc cc' gc':=by
  obtain⟨b,off,so,co',go',sc,cc',gc',e,h⟩:=ibox_of hx.up.code hi
  injection e with e;injection e with e1 e2
  subst e1;subst e2
  have:u.code[i]=x:=by rw [<-hxe];unfold insV;rw [List.getElem?_eq_getElem hi];rfl
  rw [this]at h
  exact⟨so,co',go',sc,cc',gc',h⟩
 obtain⟨so,co',go',sc,cc',gc',hib⟩:=hib
 have HIB:=Lib.hid hib
 have hmb:=hm.mb
 obtain⟨PE,hPE⟩: ∃PE,PE=passE u i s x (stM M):=⟨_,rfl⟩
 have HPE:=Lib.hid hPE
 have HGOAL:Hid (∀e w',e= .returned (.int .i64 PE)/\AddK mb w w'/\(PE=0->MeetI w' mb u.code.length (i+1) (N+1200) ((addsV u i s x).foldl putM M))->PassQ u mb i N s x M w e w'):=Lib.hid (fun e w' h=>by rw [hPE]at h;exact h)
 have x0:=hx.cx.e0
 have x5:=(hx.bx.below hx.bl).c5
 have hI0:(0:Int)<=(i:Int):=by omega
 have hI1:(i:Int)<(u.code.length:Int):=by omega
 have HEF:=Lib.hid (veffect_any E U mb p cb (cf+i*10) i u lo fo go (some ⟨cb,cf,none⟩) lc fc gc cc mc x s so co' go' sc cc' gc' w hx.cx (hib.below hx.bl) hs (hS.ok (by omega)) hl heff.out)
 clear hPE hx hm hs hS hV hl hc hib heff
 go_in
 go_wp2_with fail
 refine HEF.out.mono ?_
 rintro e w1 ⟨⟨bn,bt,rfl,hsn,hst⟩,hb1⟩
 have hx1:=HX.out.below hb1
 refine zzK4 hx1 hb1 hsn hst fun HX1 HB1 HSN HST=>?_
 have y0:=hx1.cx.e0
 have y5:=(hx1.bx.below hx1.bl).c5
 have HNX:=Lib.hid (vnext_any cb cf u.code.length cc i x so co' go' sc cc' gc' w1 (HIB.out.below hx1.bl) hi (by omega) HV.out.casesLen)
 clear hx1 hb1 hsn hst x0 x5 HEF
 go_wp2_with fail
 refine HNX.out.mono ?_
 rintro e w2 ⟨⟨ks,ao,c,rfl,hki,hsu,hkl⟩,hb2⟩
 have HB2:=Lib.hid (HB1.out.trans (hb2.mono HB1.out.size))
 refine zzK3 (HX1.out.below hb2) (HSN.out.below hb2) (HST.out.below hb2) fun HX2 HSN2 HST2=>?_
 refine zzK3 hki hsu hkl fun HKI HSU HKL=>?_
 have HM2:Hid (MeetI w2 mb u.code.length (i+1) N M):=Lib.hid ((HM.out.below HB2.out).mono (Nat.le_succ i) (Nat.le_refl N))
 have HS2:=Lib.hid (HS.out.below HB2.out)
 have HADD:Hid (∀wx,AddK mb w2 wx->AddK mb w wx):=Lib.hid (fun wx h=>(AddK.below (Nat.le_of_lt hmb) HB2.out).trans h)
 obtain⟨t,ht⟩: ∃t,t=toV s x:=⟨_,rfl⟩
 rw [<-ht]at HST2
 have HTI:Hid (SInv u.code.length (i+1) t/\trimT t.x=t.x):=Lib.hid (by rw [ht];exact⟨(to_inv HSI.out x).mono (Nat.le_succ i),(to_inv HSI.out x).tx⟩)
 have HTT:=Lib.hid ht
 obtain⟨nx,hnx⟩: ∃nx,nx=nextV u i s x:=⟨_,rfl⟩
 rw [<-hnx]at HSN2
 have HNN:=Lib.hid hnx
 have HPS:=Lib.hid (pass_is (s:=s) (t:=t) hsu HV.out.jump HTI.out.2 hi M)
 clear y0 y5 hb2 hki hsu HNX HX1 HB1 HSN HST ht hnx
 obtain⟨R,hR⟩: ∃R,R=passL i s t x ks M:=⟨_,rfl⟩
 rw [<-hR]at HPS
 have HR:=Lib.hid hR
 clear hR
 go_wp2_with fail
 go_loopw [40] (fun iv wr=> ∃(j:Nat) (Mj:Nat->Option VM),j<=ks.length/\iv= .int .i64 j/\Hid (R=passL i s t x (ks.drop j) Mj)/\Hid (MeetI wr mb u.code.length (i+1) (N+j) Mj)/\Hid (AddK mb w2 wr)) (fun iv _=>ks.length-(intOf iv).toNat)
 case atStart=>exact⟨0,M,Nat.zero_le _,rfl,Lib.hid (by rw [List.drop_zero];exact HR.out),HM2,Lib.hid (AddK.refl _ _)⟩
 case round=>
  obtain⟨j,Mj,hj,rfl,HRj,HMj,HAj⟩:=hrel
  rename World=>wr
  by_cases hlt:j<ks.length
  ·as_aux_lemma=>
   obtain⟨kb,kf,hao,hkb,q0⟩:=(HKI.out.keep HAj.out.1).cell hlt
   subst hao
   have hkd:ks.getD j 0=ks[j]:=by rw [List.getD_eq_getElem?_getD,List.getElem?_eq_getElem hlt];rfl
   obtain⟨hkt,hk0,hk1⟩:=(HSU.out ks[j]).1 (List.getElem_mem hlt)
   have hdr:ks.drop j=ks[j]::ks.drop (j+1):=List.drop_eq_getElem_cons hlt
   rw [hkd]at q0
   obtain⟨k,hk⟩:=Int.eq_ofNat_of_zero_le hk0
   rw [hk]at q0 hk1 hdr
   have HDR:=Lib.hid hdr
   have hkn:k<u.code.length:=by omega
   have hK0:(0:Int)<=(k:Int):=by omega
   have hK1:(k:Int)<(u.code.length:Int):=by omega
   have hJ0:(0:Int)<=(j:Int):=by omega
   have hJ1:(j:Int)<(ks.length:Int):=by omega
   clear hkd hkt hk0 hk1 hdr hk
   have hal:=(Below.refl wr.heap.size wr).alloc (Nat.le_refl _) (.cells #[.int .i64 k] 3)
   have hbox:=heap_alloc_new wr (.cells #[.int .i64 k] 3)
   go_upto_region 6 with fail
   generalize wr.alloc (.cells #[.int .i64 k] 3)=W at *
   generalize hBe:wr.heap.size=B at *
   have HBE:=Lib.hid hBe
   clear hBe
   have HW:=Lib.hid hal;have HBX:=Lib.hid hbox
   have hMj:MeetI W mb u.code.length (i+1) (N+j) Mj:=HMj.out.below (by rw [HBE.out];exact hal)
   have hAj:AddK mb w2 W:=HAj.out.trans (AddK.below (Nat.le_of_lt HMj.out.mb) (by rw [HBE.out];exact hal))
   have HMW:=Lib.hid hMj;have HAW:=Lib.hid hAj
   have hxW:=HX2.out.add hAj.1 hAj.2
   have HXW:=Lib.hid hxW
   have hibW:=HIB.out.below hxW.bl
   have HPA:Hid (PsAt W B cb (cf+i*10) i k x co' cc'):=Lib.hid ⟨by rw [cell_of_row _ _ _ _ _ _ hbox];rfl,lt_of_row hbox,hibW.c0,hibW.c4,hibW.c8,hibW.cases⟩
   have hz0:=HPA.out.kb
   have HGE:=Lib.hid (goB_eq (i:=i) (k:=k) (x:=x))
   have hcon:=vcontains_any x.cases co' cc' k B
   have hcl:=HV.out.casesLen
   generalize hgo:goB i x (k:Int)=gb at *
   have HGO:=Lib.hid hgo
   have hw1:IntKind.i64.wrap ((i:Int)+1)=(i:Int)+1:=by rw [IntKind.wrap_i64];omega
   clear hal hbox hMj hAj hxW hibW q0 hgo hkb
   go_cut [44] (fun v wx=>v= .bool gb/\Hid (Below W.heap.size W wx))
   case first=>
    as_aux_lemma=>
    have p0:=HPA.out.c0;have p4:=HPA.out.c4;have p8:=HPA.out.c8
    by_cases c1:(i:Int)+1<(k:Int)
    ·have u1:decide ((i:Int)+1<(k:Int))=true:=decide_eq_true c1
     have u2:decide (i+1<k)=true:=decide_eq_true (by omega)
     have E:Hid (gb=true):=Lib.hid (by rw [HGE.out,u1];rfl)
     clear c1 hcon
     go_quiet (fail)
     go_wp2_with fail
     go_meet
     case rel=>exact⟨by rw [E.out],Lib.hid (below_drewN (Below.refl _ _) _)⟩
    ·have u1:decide ((i:Int)+1<(k:Int))=false:=decide_eq_false c1
     have u2:decide (i+1<k)=false:=decide_eq_false (by omega)
     by_cases c2:(k:Int)=(i:Int)+1
     ·have u3:((k:Int)==(i:Int)+1)=true:=beq_iff_eq.2 c2
      have u3':(k==i+1)=true:=beq_iff_eq.2 (by omega)
      generalize hb1:(x.to==(k:Int))=b1 at *
      generalize hb2 : (x.op != 28) = b2 at *
      have HGE2:Hid (gb=(b1&&b2||x.cases.any (caseTo k))):=Lib.hid (by rw [HGE.out,u1,u3];rfl)
      clear HGE c1 c2
      cases hb12:(b1&&b2)with
      |true=>
       obtain⟨rfl,rfl⟩:b1=true/\b2=true:=by simpa using hb12
       have E:Hid (gb=true):=Lib.hid (by rw [HGE2.out];rfl)
       clear hcon hb12 HGE2
       go_quiet (fail)
       go_wp2_with fail
       go_meet
       case rel=>exact⟨by rw [E.out],Lib.hid (below_drewN (Below.refl _ _) _)⟩
      |false=>
       have hcon2:=hcon W.drew HPA.out.lt HPA.out.kb (HPA.out.cs.mono (Below.refl _ _).drew (fun _ _ h=>h)) hcl
       have E:Hid (gb=x.cases.any (caseTo k)):=Lib.hid (by rw [HGE2.out,hb12];rfl)
       have hmf: ∀(fn:Fn) (first cap:Array Value) (w:World),(Instr.makeFunc fn first cap).run Tryz.prog w= .ok (.func fn first cap) w:=fun _ _ _ _=>rfl
       have HCON:=Lib.hid hcon2
       have hlB:=HPA.out.lt
       have hlC:cb<W.heap.size:=Nat.lt_of_lt_of_le HIB.out.lt HXW.out.bl.size
       have KS:Hid (W.drew.cell? ⟨B,0,none⟩=some (.int .i64 k)/\W.drew.cell? ⟨cb,cf+i*10,none⟩=some (.int .i64 x.op)/\W.drew.cell? ⟨cb,cf+i*10+4,none⟩=some (.int .i64 x.to)/\W.drew.cell? ⟨cb,cf+i*10+8,none⟩=some (.slice co' x.cases.length cc')):=Lib.hid ⟨hz0,p0,p4,p8⟩
       generalize x.cases.any (caseTo k)=bq at *
       clear hcon hcon2 HGE2
       have hbb:b1=false\/b1=true/\b2=false:=by
        revert hb12
        cases b1<;>cases b2<;>decide
       clear hb12
       rcases hbb with rfl|⟨rfl,rfl⟩
       all_goals
        go_still_tail 29,(by kernel_rfl)
        change wpList _ _ _ _ _ W.drew
        go_wp2_with fail
        refine HCON.out.mono ?_
        rintro e w5 ⟨rfl,hb5⟩
        have HB5:=Lib.hid hb5
        clear hb5
        go_wp2_with fail
        go_meet
        case rel=>exact⟨by rw [E.out],Lib.hid ((Below.refl _ _).drew.trans HB5.out)⟩
     ·have u3:((k:Int)==(i:Int)+1)=false:=beq_eq_false_iff_ne.2 c2
      have u3':(k==i+1)=false:=beq_eq_false_iff_ne.2 (by omega)
      have E:Hid (gb=false):=Lib.hid (by rw [HGE.out,u1,u3];rfl)
      clear c1 c2 hcon
      go_quiet (fail)
      go_wp2_with fail
      go_meet
      case rel=>exact⟨by rw [E.out],Lib.hid (below_drewN (Below.refl _ _) _)⟩
   case rest=>
    obtain⟨rfl,HWX⟩:=hcut
    rename World=>wx
    have hxx:=HXW.out.below HWX.out
    have HXX:=Lib.hid hxx
    have HMX:=Lib.hid (HMW.out.below HWX.out)
    have HAX:Hid (AddK mb w2 wx):=Lib.hid (HAW.out.trans (AddK.below (Nat.le_of_lt HMW.out.mb) HWX.out))
    have hk1:wx.cell? ⟨B,0,none⟩=some (.int .i64 k):=(HWX.out.cell (p:=⟨B,0,none⟩) HPA.out.lt).trans hz0
    have e1:=hxx.cx.e1
    clear hcon hz0 hxx HGE
    cases gb with
    |true=>
     as_aux_lemma=>
     have HRJ:Hid (R=passL i s t x (ks.drop (j+1)) (putM Mj (k,t))):=Lib.hid (by rw [HRj.out,HDR.out,passL,if_pos HGO.out,Int.toNat_natCast])
     have hadd:=vaddI_any mb u.code.length (i+1) (N+j) k bt Mj t wx.drew (HMX.out.below (Below.refl _ _).drew) hkn ((HST2.out.keep HAX.out.1).below (Below.refl _ _).drew) HTI.out.1 (by omega) (by omega)
     have HADD2:=Lib.hid hadd
     clear hadd HRj HGO
     go_wp2_with fail
     go_still_tail 7,(by kernel_rfl)
     change wpList _ _ _ _ _ wx.drew
     go_wp2_with fail
     refine HADD2.out.mono ?_
     rintro e w5 ⟨rfl,hm5,ha5⟩
     have HM5:Hid (MeetI w5 mb u.code.length (i+1) (N+(j+1)) (putM Mj (k,t))):=Lib.hid hm5
     have HA5:Hid (AddK mb w2 w5):=Lib.hid ((HAX.out.trans (AddK.below (Nat.le_of_lt HMX.out.mb) (Below.refl _ _).drew)).trans ha5)
     clear hm5 ha5 HADD2
     go_wp2_with fail
     refine⟨⟨j+1,putM Mj (k,t),hlt,by go_num,HRJ,HM5,HA5⟩,by simp [intOf];omega⟩
    |false=>
     as_aux_lemma=>
     by_cases c1:(k:Int)<=(i:Int)
     ·have u1:decide ((k:Int)<=(i:Int))=true:=decide_eq_true c1
      have u2:decide (k<=i)=true:=decide_eq_true (by omega)
      obtain⟨⟨csx,gx,hmx⟩,hax⟩:=HMX.out
      have hbk:=vback_any E U mb p k i u lo fo go (some ⟨cb,cf,none⟩) lc fc gc cc mc s Mj csx gx wx HXX.out.cx hmx (HS2.out.keep HAX.out.1) (HSI.out.ok (by omega)).len hkn (fun m hm=>((hax k m hm).st.ok (by omega)).len)
      have HBK:=Lib.hid hbk
      clear hbk hmx hax
      by_cases c2:backB (stM Mj k) s=true
      ·have ER:Hid (R=(184,Mj)):=Lib.hid (by rw [HRj.out,HDR.out,passL,if_neg (by rw [HGO.out];decide),if_pos ⟨c1,by rw [Int.toNat_natCast];exact c2⟩])
       have EPE:Hid (PE=184):=Lib.hid (by
        have h:=HPS.out.1
        rw [ER.out]at h
        rw [HPE.out]
        unfold passE
        by_cases c:toB x.op=true/\x.to<=i/\backB (stM M x.to.toNat) s=true
        ·rw [if_pos c]
        ·rw [if_neg c]at h;exact absurd (show(184:Int)=0 from h) (by decide))
       rw [if_pos c2]at HBK
       clear c1 c2 HRj HDR HPS HPE
       go_wp2_with fail
       refine HBK.out.mono ?_
       rintro e w5 ⟨rfl,n5,rfl⟩
       go_wp2_with fail
       go_ret
       exact HGOAL.out _ _ ⟨ret_i EPE.out.symm,HADD.out _ (HAX.out.trans (AddK.below (Nat.le_of_lt HMX.out.mb) (below_drewN (Below.refl _ _) _))),fun h=>absurd h (by rw [EPE.out];decide)⟩
      ·have HRJ:Hid (R=passL i s t x (ks.drop (j+1)) Mj):=Lib.hid (by rw [HRj.out,HDR.out,passL,if_neg (by rw [HGO.out];decide),if_neg (fun h=>c2 (by rw [<-Int.toNat_natCast k];exact h.2))])
       rw [if_neg c2]at HBK
       clear c1 c2 HRj HDR
       go_wp2_with fail
       refine HBK.out.mono ?_
       rintro e w5 ⟨rfl,n5,rfl⟩
       go_wp2_with fail
       refine⟨⟨j+1,Mj,hlt,by go_num,HRJ,Lib.hid ((HMX.out.below (below_drewN (Below.refl _ _) _)).mono (Nat.le_refl _) (by omega)),Lib.hid (HAX.out.trans (AddK.below (Nat.le_of_lt HMX.out.mb) (below_drewN (Below.refl _ _) _)))⟩,by simp [intOf];omega⟩
     ·have u1:decide ((k:Int)<=(i:Int))=false:=decide_eq_false c1
      have u2:decide (k<=i)=false:=decide_eq_false (by omega)
      have HRJ:Hid (R=passL i s t x (ks.drop (j+1)) Mj):=Lib.hid (by rw [HRj.out,HDR.out,passL,if_neg (by rw [HGO.out];decide),if_neg (fun h=>c1 h.1)])
      clear c1 HRj HDR
      go_wp2_with fail
      refine⟨⟨j+1,Mj,hlt,by go_num,HRJ,Lib.hid (HMX.out.mono (Nat.le_refl _) (by omega)),HAX⟩,by simp [intOf];omega⟩
  ·obtain rfl:j=ks.length:=by omega
   have hRj:=HRj.out
   rw [List.drop_length]at hRj
   have hR1:R.1=0:=by rw [hRj];rfl
   have hR2:R.2=Mj:=by rw [hRj];rfl
   have hM1:Mj=((tosV i x).map (fun k=>(k,t))).foldl putM M:=hR2.symm.trans (HPS.out.2 hR1)
   have hno: ¬(toB x.op=true/\x.to<=i/\backB (stM M x.to.toNat) s=true):=fun h=>by
    have:=HPS.out.1
    rw [hR1,if_pos h]at this
    exact absurd this (by decide)
   have EPE:Hid (PE=if followsV x.op=true/\i+1=u.code.length then 185 else 0):=Lib.hid (by rw [HPE.out];unfold passE;rw [if_neg hno])
   have HM1:=Lib.hid hM1
   have hjl:=HKL.out
   clear hRj hR1 hR2 hM1 hno HRj HPS HPE HR
   have hpp:=HS2.out.keep HAj.out.1
   obtain⟨xo,xc,yo,yc,to',tc,c0,c1,c2,c3,c4,c5,c6,hL⟩:=hpp.cells
   have hxr:=HX2.out.add HAj.out.1 HAj.out.2
   have HXR:=Lib.hid hxr;have HLS:=Lib.hid hL
   have hib:=HIB.out.below hxr.bl
   have p0:=hib.c0
   have e1:=hxr.cx.e1
   have hra: ∀wx,Calls Tryz.prog 133 #[.int .i64 x.op] wx fun e w'=>e= .returned (.bool (raises x.op))/\w'=wx:=fun wx=>(raises_any x.op wx).mono fun _ _ ⟨a,b⟩=>⟨a,b.symm⟩
   have HRA:=Lib.hid hra
   have hst:=HSI.out.t
   clear hra hpp hxr hib c1 c4 c5 c6 hL
   obtain⟨M2,hM2⟩: ∃M2,M2=(if raises x.op=true/\s.tries≠ []then putM Mj ((lastT s.tries).toNat,handV s)else Mj):=⟨_,rfl⟩
   have HM2':=Lib.hid hM2
   clear hM2
   obtain⟨tb,htb⟩: ∃tb,tb=(decide (s.tries≠ [])&&raises x.op):=⟨_,rfl⟩
   have HTB:=Lib.hid htb
   obtain⟨tn,htn⟩: ∃tn,tn=s.tries.length:=⟨_,rfl⟩
   rw [<-htn]at c3 hst
   have HTN:=Lib.hid htn
   clear htb htn
   go_upto_region 14 with fail
   go_cut [111] (fun v wx=>v= .bool tb/\wr=wx)
   case first=>
    as_aux_lemma=>
    cases tn with
    |zero=>
     have EH:Hid (tb=false):=Lib.hid (by rw [HTB.out,List.eq_nil_of_length_eq_zero HTN.out.symm];rfl)
     go_wp2_with fail
     go_meet
     case rel=>exact⟨by rw [EH.out],rfl⟩
    |succ m=>
     have EH:Hid (tb=raises x.op):=Lib.hid (by
      have:s.tries≠ []:=fun h=>by have:=HTN.out;rw [h]at this;cases this
      rw [HTB.out,decide_eq_true this];rfl)
     have u1:decide (((m+1:Nat):Int)>0)=true:=decide_eq_true (by omega)
     have u2:decide (0<m+1)=true:=decide_eq_true (by omega)
     generalize raises x.op=rr at *
     go_wp2_with fail
     refine(HRA.out _).mono ?_
     rintro e w' ⟨rfl,rfl⟩
     go_wp2_with fail
     go_meet
     case rel=>exact⟨by rw [EH.out],rfl⟩
   case rest=>
    obtain⟨rfl,rfl⟩:=hcut
    go_upto_if 111 with fail
    go_cut [] (fun wx=>Hid (MeetI wx mb u.code.length (i+1) (N+1110) M2)/\Hid (AddK mb w2 wx))
    case first=>
     as_aux_lemma=>
     cases tb with
     |false=>
      have EH:Hid (M2=Mj):=Lib.hid (by
       rw [HM2'.out,if_neg]
       rintro⟨h1,h2⟩
       have:=HTB.out
       rw [h1,decide_eq_true h2]at this;cases this)
      go_wp2_with fail
      go_meet
      case rel=>exact⟨Lib.hid (by rw [EH.out];exact HMj.out.mono (Nat.le_refl _) (by omega)),HAj⟩
     |true=>
      have hb2:s.tries≠ []/\raises x.op=true:=by
       have:=HTB.out
       rw [eq_comm,Bool.and_eq_true,decide_eq_true_eq]at this;exact this
      have EH:Hid (M2=putM Mj ((lastT s.tries).toNat,handV s)):=Lib.hid (by rw [HM2'.out,if_pos ⟨hb2.2,hb2.1⟩])
      obtain⟨m,hmt⟩: ∃m,tn=m+1:=by
       cases tn with
       |zero=>exact absurd (List.eq_nil_of_length_eq_zero HTN.out.symm) hb2.1
       |succ m=>exact⟨m,rfl⟩
      have HMT:=Lib.hid hmt
      have hml:m<s.tries.length:=by have:=HTN.out;omega
      have hlast:lastT s.tries=s.tries.getD m 0:=by unfold lastT;rw [<-HTN.out,hmt];rfl
      obtain⟨tb',tf',htt,htlt,z⟩:=HLS.out.t.cell hml
      rw [<-hlast]at z
      have hmem:lastT s.tries∈s.tries:=by
       rw [hlast,List.getD_eq_getElem?_getD,List.getElem?_eq_getElem hml];exact List.getElem_mem hml
      obtain⟨hr0,hr1⟩:=HSI.out.tr _ hmem
      obtain⟨h,hh⟩:=Int.eq_ofNat_of_zero_le hr0
      rw [hh]at z hr1
      have EH2:Hid (M2=putM Mj (h,handV s)):=Lib.hid (by rw [EH.out,hh,Int.toNat_natCast])
      have hhn:h<u.code.length:=by omega
      have hH0:(0:Int)<=(h:Int):=by omega
      have hH1:(h:Int)<(u.code.length:Int):=by omega
      have hm0:(0:Int)<=(m:Int):=by omega
      have hm1:(m:Int)<(tn:Int):=by omega
      have hw:IntKind.i64.wrap ((tn:Int)-1)=(m:Int):=by rw [IntKind.wrap_i64];omega
      have hw2:IntKind.i64.wrap (m:Int)=(m:Int):=by rw [IntKind.wrap_i64];omega
      have htake:s.tries.take (s.tries.length-1)=s.tries.take m:=by rw [<-HTN.out,hmt];rfl
      have hmle:(m:Int)<=(tn:Int):=by omega
      have hmc:(m:Int)<=(tc:Int):=by have:=HLS.out.tl;omega
      subst htt
      clear hmt
      have hEl:=lt_of_row HXR.out.ex
      have hpl:=(HS2.out.keep HAj.out.1).lt
      have HANY:Hid (Calls Tryz.prog 124 #[.int .i64 2] wr.drew fun e w5=> ∃xa xk,e= .returned (.slice xa 2 xk) /\
        Hid (Calls Tryz.prog 88 #[.pointer (some ⟨mb,h*3,none⟩),.pointer (some ⟨w5.heap.size,0,none⟩)] (w5.alloc (.cells #[.int .i64 s.frame,.slice xa 2 xk,.slice yo s.y.length yc,.slice (some ⟨tb',tf',none⟩) m tc,.bool false,.int .i64 0,.int .i64 0] 236)) fun e w7=>e= .returned (.tuple #[])/\Hid (HandS w7 E p tb' (tf'+m) h (.slice (some ⟨mb,0,none⟩) u.code.length mc) s.frame (.slice yo s.y.length yc) (.slice (some ⟨tb',tf',none⟩) tn tc))/\Hid (MeetI w7 mb u.code.length (i+1) (N+1110) M2)/\Hid (AddK mb w2 w7)) /\
        Hid (HandS w5 E p tb' (tf'+m) h (.slice (some ⟨mb,0,none⟩) u.code.length mc) s.frame (.slice yo s.y.length yc) (.slice (some ⟨tb',tf',none⟩) tn tc)) /\
        Hid (HandS (w5.alloc (.cells #[.int .i64 s.frame,.slice xa 2 xk,.slice yo s.y.length yc,.slice (some ⟨tb',tf',none⟩) m tc,.bool false,.int .i64 0,.int .i64 0] 236)) E p tb' (tf'+m) h (.slice (some ⟨mb,0,none⟩) u.code.length mc) s.frame (.slice yo s.y.length yc) (.slice (some ⟨tb',tf',none⟩) tn tc))):=Lib.hid (by
       refine(vanys_any 2 wr.drew ⟨by decide,by decide⟩).mono ?_
       rintro e w5 ⟨⟨xa,xk,rfl,hxi,hxk⟩,hb5⟩
       have hb5':Below wr.heap.size wr w5:=(Below.refl _ _).drew.trans hb5
       have hb6:Below wr.heap.size wr (w5.alloc (.cells #[.int .i64 s.frame,.slice xa 2 xk,.slice yo s.y.length yc,.slice (some ⟨tb',tf',none⟩) m tc,.bool false,.int .i64 0,.int .i64 0] 236)):=hb5'.alloc hb5'.size _
       have hrow:=heap_alloc_new w5 (.cells #[.int .i64 s.frame,.slice xa 2 xk,.slice yo s.y.length yc,.slice (some ⟨tb',tf',none⟩) m tc,.bool false,.int .i64 0,.int .i64 0] 236)
       have hal:=(Below.refl w5.heap.size w5).alloc (Nat.le_refl _) (.cells #[.int .i64 s.frame,.slice xa 2 xk,.slice yo s.y.length yc,.slice (some ⟨tb',tf',none⟩) m tc,.bool false,.int .i64 0,.int .i64 0] 236)
       have hs0:HandS wr E p tb' (tf'+m) h (.slice (some ⟨mb,0,none⟩) u.code.length mc) s.frame (.slice yo s.y.length yc) (.slice (some ⟨tb',tf',none⟩) tn tc):=⟨e1,c0,c2,c3,z⟩
       have hbh: ∀wx,Below wr.heap.size wr wx->HandS wx E p tb' (tf'+m) h (.slice (some ⟨mb,0,none⟩) u.code.length mc) s.frame (.slice yo s.y.length yc) (.slice (some ⟨tb',tf',none⟩) tn tc):=fun wx hb=>
        ⟨(hb.cell (p:=⟨E,1,none⟩) hEl).trans e1,(hb.cell (p:=⟨p,0,none⟩) hpl).trans c0,(hb.cell (p:=⟨p,2,none⟩) hpl).trans c2,(hb.cell (p:=⟨p,3,none⟩) hpl).trans c3,(hb.cell (p:=⟨tb',tf'+m,none⟩) htlt).trans z⟩
       refine⟨xa,xk,rfl,Lib.hid ?_,Lib.hid (hbh _ hb5'),Lib.hid (hbh _ hb6)⟩
       have hsth:StAt (w5.alloc (.cells #[.int .i64 s.frame,.slice xa 2 xk,.slice yo s.y.length yc,.slice (some ⟨tb',tf',none⟩) m tc,.bool false,.int .i64 0,.int .i64 0] 236)) w5.heap.size (handV s):=by
        have hlm:(s.tries.take m).length=m:=by rw [List.length_take];omega
        refine⟨xa,xk,yo,yc,some ⟨tb',tf',none⟩,tc,hrow.trans ?_,⟨hxi.below hal,HLS.out.y.below hb6,?_,hxk,HLS.out.yl,?_⟩⟩
        ·unfold stRow handV;simp only [htake,hlm];rfl
        ·show IntsAt _ _ (s.tries.take (s.tries.length-1))
         rw [htake];exact(HLS.out.t.below hb6).take m
        ·show(s.tries.take (s.tries.length-1)).length<=tc
         have:=HLS.out.tl
         rw [htake,hlm];omega
       refine(vaddI_any mb u.code.length (i+1) (N+ks.length) h w5.heap.size Mj (handV s) _ (HMj.out.below hb6) hhn hsth ((hand_inv HSI.out).mono (Nat.le_succ i)) (by omega) (by omega)).mono ?_
       rintro e w7 ⟨rfl,hm7,ha7⟩
       have hx7:=(HXR.out.below hb6).add ha7.1 ha7.2
       have hs7:=((HS2.out.keep HAj.out.1).below hb6).keep ha7.1
       have hk7: ∀(q o:Nat) (v:Value) (cs:Array Value) (T:TypeId) (fr:Nat × Nat),wr.heap[q]?=some (.cells cs T fr)->T≠183->T≠180->wr.cell? ⟨q,o,none⟩=some v->w7.cell? ⟨q,o,none⟩=some v:=fun q o v cs T fr hq h1 h2 hv=>by
        have:=((KeepT.below hb6).trans ha7.1).2 q cs T fr hq h1 h2
        rw [cell_of_row _ _ _ _ _ _ this,<-cell_of_row _ _ _ _ _ _ hq];exact hv
       obtain⟨_,_,_,_,_,_,hprow,hpls⟩:=HS2.out.keep HAj.out.1
       obtain hnil|⟨tbx,tfx,tcs,tfr,hte,htrow,-⟩:=HLS.out.t
       ·exact absurd hnil hb2.1
       ·injection hte with hte;injection hte with hte1 hte2
        subst hte1
        exact⟨rfl,Lib.hid ⟨hk7 _ _ _ _ _ _ HXR.out.ex (by decide) (by decide) e1,hk7 _ _ _ _ _ _ hprow (by decide) (by decide) c0,hk7 _ _ _ _ _ _ hprow (by decide) (by decide) c2,hk7 _ _ _ _ _ _ hprow (by decide) (by decide) c3,hk7 _ _ _ _ _ _ htrow (by decide) (by decide) z⟩,
         Lib.hid (by rw [EH2.out];exact hm7.mono (Nat.le_refl _) (by omega)),Lib.hid ((HAj.out.trans (AddK.below (Nat.le_of_lt HMj.out.mb) hb6)).trans ha7)⟩)
      have KS:Hid (HandS wr.drew E p tb' (tf'+m) h (.slice (some ⟨mb,0,none⟩) u.code.length mc) s.frame (.slice yo s.y.length yc) (.slice (some ⟨tb',tf',none⟩) tn tc)):=Lib.hid ⟨e1,c0,c2,c3,z⟩
      clear hr0 hr1 hmem hh hlast hml hb2 hEl hpl htlt htake EH EH2
      go_upto_region 15 with fail
      first|go_region_held3 (fun w'=>w'.cell? ⟨E,1,none⟩=some (.slice (some ⟨mb,0,none⟩) u.code.length mc)/\w'.cell? ⟨p,0,none⟩=some (.int .i64 s.frame)/\w'.cell? ⟨p,2,none⟩=some (.slice yo s.y.length yc)/\w'.cell? ⟨p,3,none⟩=some (.slice (some ⟨tb',tf',none⟩) tn tc)/\w'.cell? ⟨tb',tf'+m,none⟩=some (.int .i64 h)) (first|with_reducible exact KS.out|with_reducible exact KS5.out|with_reducible exact KS6.out|with_reducible exact KS7.out)
       ((first|(go_at_call 124;(with_reducible refine HANY.out.mono ?_);rintro e w5 ⟨xa,xk,rfl,HQ5,KS5,KS6⟩)|(go_at_call 88;(with_reducible refine HQ5.out.mono ?_);rintro e w7 ⟨rfl,KS7,HM7,HA7⟩)))|fail
      go_wp2_with fail
      go_meet
      case rel=>exact⟨HM7,HA7⟩
    case rest=>
     obtain⟨HM3,HA3⟩:=hcut
     rename World=>wz
     have hxz:=HX2.out.add HA3.out.1 HA3.out.2
     have HXZ:=Lib.hid hxz
     have q0:=(HIB.out.below hxz.bl).c0
     have z0:=hxz.cx.e0
     have z1:=hxz.cx.e1
     have z5:=(hxz.bx.below hxz.bl).c5
     have hadds:(addsV u i s x).foldl putM M=if followsV x.op=true then putM M2 (i+1,nx)else M2:=by
      rw [adds_tos,List.foldl_append,List.foldl_append,<-HTT.out,<-HM1.out,<-HNN.out,HM2'.out]
      by_cases h1:raises x.op=true/\s.tries≠ []<;>by_cases h2:followsV x.op=true<;>simp [h1,h2]
     have HADDS:=Lib.hid hadds
     have hfo: ∀wx,Calls Tryz.prog 139 #[.int .i64 x.op] wx fun e w'=>e= .returned (.bool (followsV x.op))/\w'=wx:=fun wx=>follows_any x.op wx
     clear hxz hadds e1 c0 c2 c3 p0 HTB
     generalize followsV x.op=fo at *
     have HFO:=Lib.hid hfo
     clear hfo
     cases fo with
     |false=>
      as_aux_lemma=>
      have EH:Hid (PE=0):=Lib.hid (by rw [EPE.out,if_neg (by simp)])
      have EM:Hid ((addsV u i s x).foldl putM M=M2):=Lib.hid (by rw [HADDS.out,if_neg (by simp)])
      clear EPE HADDS
      go_wp2_with fail
      refine(HFO.out _).mono ?_
      rintro e w' ⟨rfl,rfl⟩
      go_wp2_with fail
      go_ret
      exact HGOAL.out _ _ ⟨ret_i EH.out.symm,HADD.out _ HA3.out,fun _=>by rw [EM.out];exact HM3.out.mono (Nat.le_refl _) (by omega)⟩
     |true=>
      by_cases hil:i+1=u.code.length
      ·as_aux_lemma=>
       have EH:Hid (PE=185):=Lib.hid (by rw [EPE.out,if_pos ⟨rfl,hil⟩])
       have u1:((i:Int)+1==(u.code.length:Int))=true:=by rw [beq_iff_eq];omega
       have u2:(i+1==u.code.length)=true:=by rw [beq_iff_eq];omega
       clear EPE HADDS hil
       go_wp2_with fail
       refine(HFO.out _).mono ?_
       rintro e w' ⟨rfl,rfl⟩
       go_wp2_with fail
       go_ret
       exact HGOAL.out _ _ ⟨ret_i EH.out.symm,HADD.out _ HA3.out,fun h=>absurd h (by rw [EH.out];decide)⟩
      ·as_aux_lemma=>
       have EH:Hid (PE=0):=Lib.hid (by rw [EPE.out,if_neg (fun h=>hil h.2)])
       have EM:Hid ((addsV u i s x).foldl putM M=putM M2 (i+1,nx)):=Lib.hid (by rw [HADDS.out,if_pos rfl])
       have u1:((i:Int)+1==(u.code.length:Int))=false:=by rw [beq_eq_false_iff_ne];omega
       have u2:(i+1==u.code.length)=false:=by rw [beq_eq_false_iff_ne];omega
       have hI2:(0:Int)<=(i:Int)+1:=by omega
       have hI3:(i:Int)+1<(u.code.length:Int):=by omega
       have hni:=next_inv HSI.out HV.out hi
       rw [<-HNN.out]at hni
       have HAD:=Lib.hid (vaddI_any mb u.code.length (i+1) (N+1110) (i+1) bn M2 nx wz HM3.out (by omega) (HSN2.out.keep HA3.out.1) hni (by omega) (by omega))
       clear EPE HADDS hil hni
       go_wp2_with fail
       refine(HFO.out _).mono ?_
       rintro e w' ⟨rfl,rfl⟩
       go_wp2_with fail
       refine HAD.out.mono ?_
       rintro e w7 ⟨rfl,hm7,ha7⟩
       have HM7:=Lib.hid hm7;have HA7:=Lib.hid ha7
       clear hm7 ha7
       go_wp2_with fail
       go_ret
       exact HGOAL.out _ _ ⟨ret_i EH.out.symm,HADD.out _ (HA3.out.trans HA7.out),fun _=>by rw [EM.out];exact HM7.out.mono (Nat.le_refl _) (by omega)⟩
def checkL (u:RUnit) (i:Nat) (s:VSt) (x:RIns):List Int:=[operandsV u s x,typesV u s x,receiveV s x,matchV s x,frameV s x,triesV i s x]
theorem firstN_drop {l:List Int} {j:Nat} (h:j<l.length):firstN (l.drop j)=if l[j]≠0 then l[j]else firstN (l.drop (j+1)):=by
 rw [List.drop_eq_getElem_cons h,firstN]
theorem chk_at (E U mb p b o i:Nat) (u:RUnit) (lo fo go co:zzA) (lc fc gc cc mc:Nat) (x:RIns) (s:VSt) (so co' go':zzA) (sc cc' gc':Nat) (W:World) (hx:VCx W E U mb i u lo fo go co lc fc gc cc mc) (hi:IBox W b o x so co' go' sc cc' gc') (hs:StAt W p s) (ho:StOk s) (hl:LitsLen u) (hv:VIns u i x) (j:Nat) (hj:j<6):
  ∃f:FuncId,chkRow[j]?=some (.func (.func f) #[] #[])/\(∀(args:Array Value) (w:World),(callFunc f args).run Tryz.prog w= .ok (.enter f args) w) /\
   ∀wx,Below W.heap.size W wx->Calls Tryz.prog f #[.pointer (some ⟨E,0,none⟩),.pointer (some ⟨p,0,none⟩),.pointer (some ⟨b,o,none⟩)] wx fun e w'=>e= .returned (.int .i64 ((checkL u i s x).getD j 0))/\Below wx.heap.size wx w':=by
 have hj':j=0\/j=1\/j=2\/j=3\/j=4\/j=5:=by omega
 rcases hj' with rfl|rfl|rfl|rfl|rfl|rfl
 ·refine⟨125,rfl,enters_of Tryz.func125 (by kernel_rfl) rfl,fun wx hb=>?_⟩
  exact voperands_any E U mb p b o i u lo fo go co lc fc gc cc mc x s so co' go' sc cc' gc' wx (hx.below hb) (hi.below hb) (hs.below hb) ho hl (hv.opd s)
 ·refine⟨126,rfl,enters_of Tryz.func126 (by kernel_rfl) rfl,fun wx hb=>?_⟩
  exact vtypes_any E U mb p b o i u lo fo go co lc fc gc cc mc x s so co' go' sc cc' gc' wx (hx.below hb) (hi.below hb) (hs.below hb) ho hl hv.n5 (fun h=>hv.srcs s (by omega))
 ·refine⟨127,rfl,enters_of Tryz.func127 (by kernel_rfl) rfl,fun wx hb=>?_⟩
  refine(vreceive_any E p b o x s so co' go' sc cc' gc' wx (hi.below hb) (hs.below hb)).mono ?_
  rintro e w' ⟨he,hw⟩
  exact⟨he,by first|(obtain⟨q,rfl⟩:=hw;exact below_drewN (Below.refl _ _) _)|(subst hw;exact Below.refl _ _)⟩
 ·refine⟨128,rfl,enters_of Tryz.func128 (by kernel_rfl) rfl,fun wx hb=>?_⟩
  refine(vcheck1_any E p b o x s so co' go' sc cc' gc' wx (hi.below hb) (hs.below hb)).mono ?_
  rintro e w' ⟨he,hw⟩
  exact⟨he,by first|(obtain⟨q,rfl⟩:=hw;exact below_drewN (Below.refl _ _) _)|(subst hw;exact Below.refl _ _)⟩
 ·refine⟨130,rfl,enters_of Tryz.func130 (by kernel_rfl) rfl,fun wx hb=>?_⟩
  refine(vcheck2_any E p b o x s so co' go' sc cc' gc' wx (hi.below hb) (hs.below hb)).mono ?_
  rintro e w' ⟨he,hw⟩
  exact⟨he,by first|(obtain⟨q,rfl⟩:=hw;exact below_drewN (Below.refl _ _) _)|(subst hw;exact Below.refl _ _)⟩
 ·refine⟨132,rfl,enters_of Tryz.func132 (by kernel_rfl) rfl,fun wx hb=>?_⟩
  refine(vcheck3_any E U mb p b o i u lo fo go co lc fc gc cc mc x s so co' go' sc cc' gc' wx (hx.below hb) (hi.below hb) (hs.below hb) ho.len).mono ?_
  rintro e w' ⟨he,hw⟩
  exact⟨he,by first|(obtain⟨q,rfl⟩:=hw;exact below_drewN (Below.refl _ _) _)|(subst hw;exact Below.refl _ _)⟩
structure UnitV (u:RUnit):Prop where
 n1:1<=u.code.length
 n2:u.code.length<=600000
 ins: ∀i (h:i<u.code.length),VIns u i u.code[i]
 funcs:u.funcs.length<=200/\ ∀f∈u.funcs,0<=f.arity/\f.arity<=16/\0<=f.entry/\f.entry<u.code.length
 funs:u.funs.length<=1000/\ ∀f∈u.funs,0<=f.arity/\f.arity<=16/\0<=f.free/\f.free<=200/\0<=f.entry/\f.entry<u.code.length
 lits:LitsLen u
def entF (f:RFunc):Nat × VSt:=(f.entry.toNat,entryV f.arity)
def entG (f:RFun):Nat × VSt:=(f.entry.toNat,entryV (f.arity+f.free))
theorem take_puts {α:Type} (g:α->Nat × VSt) (l:List α) {k:Nat} (h:k<l.length) (M:Nat->Option VM):((l.take (k+1)).map g).foldl putM M=putM (((l.take k).map g).foldl putM M) (g l[k]):=by
 rw [List.take_succ_eq_append_getElem h,List.map_append,List.foldl_append];rfl
def ExamQ (u:RUnit) (U:Nat) (w:World) (e:Ending) (w':World):Prop:=
 (∃pv,e= .returned (.tuple #[pv,.int .i64 (examMV u).1.1,.int .i64 (examMV u).1.2])/\((examMV u).1.2≠0->pv= .pointer none) /\
  ((examMV u).1.2=0-> ∃E mb mc a,pv= .pointer (some ⟨E,0,none⟩)/\w'.heap[E]?=some (.cells #[.pointer (some ⟨U,0,none⟩),.slice (some ⟨mb,0,none⟩) u.code.length mc,.int .i64 a] 179 (0,0))/\MeetI w' mb u.code.length u.code.length 2000000000 (examMV u).2))/\Below w.heap.size w w'
theorem vexamine_any (U:Nat) (u:RUnit) (lo fo go co:zzA) (lc fc gc cc:Nat) (w:World) (hbx:UBox w U u lo fo go co lc fc gc cc) (hup:UP w u lo fo go co) (hV:UnitV u):
  Calls Tryz.prog 41 #[.pointer (some ⟨U,0,none⟩)] w (ExamQ u U w):=by
 obtain⟨cb,cf,rfl⟩: ∃cb cf,co=some ⟨cb,cf,none⟩:=by
  obtain⟨b,off,_,_,_,_,_,_,e,_⟩:=ibox_of hup.code (k:=0) hV.n1
  exact⟨b,off,e⟩
 refine zzK3 hbx hup hV fun HBX HUP HV=>?_
 have hn1:=hV.n1;have hn2:=hV.n2
 obtain⟨n,hn⟩: ∃n,n=u.code.length:=⟨_,rfl⟩
 have b5:=hbx.c5;have b3:=hbx.c3;have b4:=hbx.c4
 rw [<-hn]at hn1 hn2 b5
 have HN:=Lib.hid hn
 obtain⟨arr,hs,hz,hmk⟩:=mkMeets n (by omega)
 have hmkw:=hmk w
 have HS:=Lib.hid hs;have HZ:=Lib.hid hz
 obtain⟨R,hR⟩: ∃R,R=examMV u:=⟨_,rfl⟩
 have HR:=Lib.hid hR
 have HGOAL:Hid (∀e w',(∃pv,e= .returned (.tuple #[pv,.int .i64 R.1.1,.int .i64 R.1.2])/\(R.1.2≠0->pv= .pointer none) /\
  (R.1.2=0-> ∃E mb mc a,pv= .pointer (some ⟨E,0,none⟩)/\w'.heap[E]?=some (.cells #[.pointer (some ⟨U,0,none⟩),.slice (some ⟨mb,0,none⟩) u.code.length mc,.int .i64 a] 179 (0,0))/\MeetI w' mb u.code.length u.code.length 2000000000 R.2))/\Below w.heap.size w w'->ExamQ u U w e w'):=Lib.hid (fun e w' h=>by rw [hR]at h;exact h)
 clear hbx hup hV hn hs hz hmk hR
 go_in
 have hmr:=heap_alloc_new w (.cells arr 183)
 have hmb:=(Below.refl w.heap.size w).alloc (Nat.le_refl _) (.cells arr 183)
 have hbl:=lt_of_row hmr
 have her:=heap_alloc_new (w.alloc (.cells arr 183)) (.cells #[.pointer (some ⟨U,0,none⟩),.slice (some ⟨w.heap.size,0,none⟩) n n,.int .i64 0] 179)
 have heb:=(Below.refl (w.alloc (.cells arr 183)).heap.size (w.alloc (.cells arr 183))).alloc (Nat.le_refl _) (.cells #[.pointer (some ⟨U,0,none⟩),.slice (some ⟨w.heap.size,0,none⟩) n n,.int .i64 0] 179)
 have hmr2:=(heb.block _ hbl).trans hmr
 have hbb:=hmb.trans (heb.mono hmb.size)
 have hse:(w.alloc (.cells arr 183)).heap.size=w.heap.size+1:=by simp
 rw [hse]at her
 go_upto_region 2 with fail
 generalize(w.alloc (.cells arr 183)).alloc (.cells #[.pointer (some ⟨U,0,none⟩),.slice (some ⟨w.heap.size,0,none⟩) n n,.int .i64 0] 179)=W at *
 have HM0:Hid (MeetI W w.heap.size n 0 0 (fun _=>none)):=Lib.hid (meet_start hmr2 HS.out HZ.out 0 0)
 have HE0:Hid (VEnv w W (w.heap.size+1) U w.heap.size 0 u lo fo go (some ⟨cb,cf,none⟩) lc fc gc cc n):=Lib.hid ⟨by rw [<-HN.out];exact her,HBX.out,HUP.out,hbb,Nat.le_refl _⟩
 clear hmr hmb hbl her heb hmr2 hbb hse hmkw b3 b4 b5
 have hbW:=HBX.out.below HE0.out.bl
 have b3:=hbW.c3
 clear hbW
 obtain⟨E,hE⟩: ∃E,E=w.heap.size+1:=⟨_,rfl⟩
 rw [<-hE]at HE0 ⊢
 obtain⟨mb,hmb⟩: ∃mb,mb=w.heap.size:=⟨_,rfl⟩
 rw [<-hmb]at HE0 HM0
 have HMB:=Lib.hid hmb;have HEE:=Lib.hid hE
 clear hE hmb
 have hfn:=HV.out.funcs.1
 obtain⟨nf,hnf⟩: ∃nf,nf=u.funcs.length:=⟨_,rfl⟩
 rw [<-hnf]at b3 hfn
 have HNF:=Lib.hid hnf
 clear hnf
 go_wp2_with fail
 go_loopw [31] (fun iv wr=> ∃k:Nat,k<=nf/\iv= .int .i64 k/\Hid (MeetI wr mb n 0 k (((u.funcs.take k).map entF).foldl putM (fun _=>none)))/\Hid (VEnv w wr E U mb 0 u lo fo go (some ⟨cb,cf,none⟩) lc fc gc cc n)) (fun iv _=>nf-(intOf iv).toNat)
 case atStart=>exact⟨0,Nat.zero_le _,rfl,HM0,HE0⟩
 case round=>
  obtain⟨k,hk,rfl,HMk,HEk⟩:=hrel
  rename World=>wr
  by_cases hlt:k<nf
  ·as_aux_lemma=>
   have hkx:k<u.funcs.length:=by rw [<-HNF.out];exact hlt
   obtain⟨fb,off,hfo,hfb,q0,q1,q2,q3,r1,r2,r3⟩:=(HUP.out.funcs.mono HEk.out.bl (fun _ _ h=>h)).func hkx
   subst hfo
   have hst:=take_puts entF u.funcs hkx (fun _=>none)
   obtain⟨h1,h2,h3,h4⟩:=HV.out.funcs.2 _ (List.getElem_mem hkx)
   rw [show entF u.funcs[k]=(u.funcs[k].entry.toNat,entryV u.funcs[k].arity)from rfl]at hst
   generalize u.funcs[k]=f at *
   obtain⟨nm,ar,pb,en⟩:=f
   simp only at q0 q1 q2 q3 h1 h2 h3 h4 hst
   obtain⟨e,rfl⟩:=Int.eq_ofNat_of_zero_le h3
   rw [<-HN.out]at h4
   rw [Int.toNat_natCast]at hst
   have HST:=Lib.hid hst
   have hk0:(0:Int)<=(k:Int):=by omega
   have hk1:(k:Int)<(nf:Int):=by omega
   have he0:(0:Int)<=(e:Int):=by omega
   have he1:(e:Int)<(n:Int):=by omega
   have heN:e<n:=by omega
   have hbox:=heap_alloc_new wr (.cells #[.string nm,.int .i64 ar,.bool pb,.int .i64 e] 75)
   have hal:=(Below.refl wr.heap.size wr).alloc (Nat.le_refl _) (.cells #[.string nm,.int .i64 ar,.bool pb,.int .i64 e] 75)
   clear hst r1 r2 r3 hfb h3 h4
   go_upto_region 5 with fail
   generalize wr.alloc (.cells #[.string nm,.int .i64 ar,.bool pb,.int .i64 e] 75)=W5 at *
   have HME:Hid (MeetI W5 mb n 0 k (((u.funcs.take k).map entF).foldl putM (fun _=>none))):=Lib.hid (HMk.out.below hal)
   have hx5:=HEk.out.below hal
   have HX5:=Lib.hid hx5
   have e1:=hx5.cx.e1
   rw [<-HN.out]at e1
   have z1:=cellOf hbox (k:=1) (by simp)
   have z3:=cellOf hbox (k:=3) (by simp)
   simp only [List.getElem_toArray,List.getElem_cons_zero,List.getElem_cons_succ]at z1 z3
   generalize wr.heap.size=B5 at *
   have hB5:=lt_of_row hbox
   have hE5:=lt_of_row HX5.out.ex
   have HEN:Hid (Calls Tryz.prog 89 #[.int .i64 ar] W5.drew fun e' w6=> ∃sb,e'= .returned (.pointer (some ⟨sb,0,none⟩))/\Hid (Calls Tryz.prog 88 #[.pointer (some ⟨mb,e*3,none⟩),.pointer (some ⟨sb,0,none⟩)] w6 fun e' w7=>e'= .returned (.tuple #[])/\Hid (w7.cell? ⟨E,1,none⟩=some (.slice (some ⟨mb,0,none⟩) n n)/\w7.cell? ⟨B5,1,none⟩=some (.int .i64 ar)/\w7.cell? ⟨B5,3,none⟩=some (.int .i64 e))/\Hid (MeetI w7 mb n 0 (k+1) (((u.funcs.take (k+1)).map entF).foldl putM (fun _=>none)))/\Hid (VEnv w w7 E U mb 0 u lo (some ⟨fb,off,none⟩) go (some ⟨cb,cf,none⟩) lc fc gc cc n))/\Hid (w6.cell? ⟨E,1,none⟩=some (.slice (some ⟨mb,0,none⟩) n n)/\w6.cell? ⟨B5,1,none⟩=some (.int .i64 ar)/\w6.cell? ⟨B5,3,none⟩=some (.int .i64 e))):=Lib.hid (by
    refine(ventry_any ar W5.drew ⟨h1,by omega⟩).mono ?_
    rintro e' w6 ⟨⟨sb,rfl,-,hsb⟩,hb6⟩
    have hb6':=(Below.refl W5.heap.size W5).drew.trans hb6
    have hx6:=HX5.out.below hb6'
    refine⟨sb,rfl,Lib.hid ?_,Lib.hid ⟨(hb6'.cell (p:=⟨E,1,none⟩) hE5).trans e1,(hb6'.cell (p:=⟨B5,1,none⟩) hB5).trans z1,(hb6'.cell (p:=⟨B5,3,none⟩) hB5).trans z3⟩⟩
    refine(vaddI_any mb n 0 _ e sb _ (entryV ar) w6 (HME.out.below hb6') heN hsb (entry_inv (by omega)) (by omega) (by omega)).mono ?_
    rintro e' w7 ⟨rfl,hm7,ha7⟩
    rw [<-HST.out]at hm7
    have hx7:=hx6.add ha7.1 ha7.2
    have hb7:=((KeepT.below hb6').trans ha7.1).2 B5 _ _ _ hbox (by decide) (by decide)
    have e7:=hx7.cx.e1
    rw [<-HN.out]at e7
    exact⟨rfl,Lib.hid ⟨e7,by rw [cell_of_row _ _ _ _ _ _ hb7];rfl,by rw [cell_of_row _ _ _ _ _ _ hb7];rfl⟩,Lib.hid hm7,Lib.hid hx7⟩)
   have KS:Hid (W5.drew.cell? ⟨E,1,none⟩=some (.slice (some ⟨mb,0,none⟩) n n)/\W5.drew.cell? ⟨B5,1,none⟩=some (.int .i64 ar)/\W5.drew.cell? ⟨B5,3,none⟩=some (.int .i64 e)):=Lib.hid ⟨e1,z1,z3⟩
   clear hbox hal hx5 q0 q1 q2 q3 h1
   first|go_region_held3 (fun w'=>w'.cell? ⟨E,1,none⟩=some (.slice (some ⟨mb,0,none⟩) n n)/\w'.cell? ⟨B5,1,none⟩=some (.int .i64 ar)/\w'.cell? ⟨B5,3,none⟩=some (.int .i64 e)) (first|with_reducible exact KS.out|with_reducible exact KS6.out|with_reducible exact KS7.out)
    ((first|(go_at_call 89;(with_reducible refine HEN.out.mono ?_);rintro e' w6 ⟨sb,rfl,HAD,KS6⟩)|(go_at_call 88;(with_reducible refine HAD.out.mono ?_);rintro e' w7 ⟨rfl,KS7,HM7,HX7⟩)))|fail
   go_wp2_with fail
   refine⟨⟨k+1,hlt,by go_num,HM7,HX7⟩,by simp [intOf];omega⟩
  ·obtain rfl:k=nf:=by omega
   have HM1:Hid (MeetI wr mb n 0 200 ((u.funcs.map entF).foldl putM (fun _=>none))):=Lib.hid (by
    have:=HMk.out
    rw [HNF.out,List.take_length]at this
    exact this.mono (Nat.le_refl _) (by rw [<-HNF.out];exact hfn))
   have b4:=(HBX.out.below HEk.out.bl).c4
   clear HMk
   have hgn:=HV.out.funs.1
   obtain⟨ng,hng⟩: ∃ng,ng=u.funs.length:=⟨_,rfl⟩
   rw [<-hng]at b4 hgn
   have HNG:=Lib.hid hng
   clear hng b3
   obtain⟨wo,rfl⟩: ∃wo:World,wo=wr:=⟨_,rfl⟩
   go_wp2_with fail
   go_loopw [52] (fun iv wr=> ∃k:Nat,k<=ng/\iv= .int .i64 k/\Hid (MeetI wr mb n 0 (200+k) (((u.funs.take k).map entG).foldl putM ((u.funcs.map entF).foldl putM (fun _=>none))))/\Hid (VEnv w wr E U mb 0 u lo fo go (some ⟨cb,cf,none⟩) lc fc gc cc n)) (fun iv _=>ng-(intOf iv).toNat)
   case atStart=>exact⟨0,Nat.zero_le _,rfl,HM1,HEk⟩
   case round=>
    obtain⟨k,hk,rfl,HMk,HEk⟩:=hrel
    rename World=>wr
    by_cases hlt:k<ng
    ·as_aux_lemma=>
     have hkx:k<u.funs.length:=by rw [<-HNG.out];exact hlt
     obtain⟨fb,off,hfo,hfb,q0,q1,q2,r1⟩:=(HUP.out.funs.mono HEk.out.bl (fun _ _ h=>h)).fn hkx
     subst hfo
     have hst:=take_puts entG u.funs hkx ((u.funcs.map entF).foldl putM (fun _=>none))
     obtain⟨h1,h2,h3,h4,h5,h6⟩:=HV.out.funs.2 _ (List.getElem_mem hkx)
     rw [show entG u.funs[k]=(u.funs[k].entry.toNat,entryV (u.funs[k].arity+u.funs[k].free))from rfl]at hst
     generalize u.funs[k]=f at *
     obtain⟨ar,fr,en⟩:=f
     simp only at q0 q1 q2 h1 h2 h3 h4 h5 h6 hst
     obtain⟨e,rfl⟩:=Int.eq_ofNat_of_zero_le h5
     rw [<-HN.out]at h6
     rw [Int.toNat_natCast]at hst
     have HST:=Lib.hid hst
     have hk0:(0:Int)<=(k:Int):=by omega
     have hk1:(k:Int)<(ng:Int):=by omega
     have he0:(0:Int)<=(e:Int):=by omega
     have he1:(e:Int)<(n:Int):=by omega
     have heN:e<n:=by omega
     have hbox:=heap_alloc_new wr (.cells #[.int .i64 ar,.int .i64 fr,.int .i64 e] 87)
     have hal:=(Below.refl wr.heap.size wr).alloc (Nat.le_refl _) (.cells #[.int .i64 ar,.int .i64 fr,.int .i64 e] 87)
     clear hst r1 hfb h5 h6
     go_upto_region 10 with fail
     generalize wr.alloc (.cells #[.int .i64 ar,.int .i64 fr,.int .i64 e] 87)=W5 at *
     have HME:Hid (MeetI W5 mb n 0 (200+k) (((u.funs.take k).map entG).foldl putM ((u.funcs.map entF).foldl putM (fun _=>none)))):=Lib.hid (HMk.out.below hal)
     have hx5:=HEk.out.below hal
     have HX5:=Lib.hid hx5
     have e1:=hx5.cx.e1
     rw [<-HN.out]at e1
     have z0:=cellOf hbox (k:=0) (by simp)
     have z1:=cellOf hbox (k:=1) (by simp)
     have z2:=cellOf hbox (k:=2) (by simp)
     simp only [List.getElem_toArray,List.getElem_cons_zero,List.getElem_cons_succ]at z0 z1 z2
     generalize wr.heap.size=B5 at *
     obtain⟨af,haf⟩: ∃af,af=ar+fr:=⟨_,rfl⟩
     have hwr:IntKind.i64.wrap (ar+fr)=af:=by rw [haf,IntKind.wrap_i64];omega
     have haf0:0<=af/\af<=256:=by omega
     rw [<-haf]at HST
     have hB5:=lt_of_row hbox
     have hE5:=lt_of_row HX5.out.ex
     have HEN:Hid (Calls Tryz.prog 89 #[.int .i64 af] W5.drew fun e' w6=> ∃sb,e'= .returned (.pointer (some ⟨sb,0,none⟩))/\Hid (Calls Tryz.prog 88 #[.pointer (some ⟨mb,e*3,none⟩),.pointer (some ⟨sb,0,none⟩)] w6 fun e' w7=>e'= .returned (.tuple #[])/\Hid (w7.cell? ⟨E,1,none⟩=some (.slice (some ⟨mb,0,none⟩) n n)/\w7.cell? ⟨B5,0,none⟩=some (.int .i64 ar)/\w7.cell? ⟨B5,1,none⟩=some (.int .i64 fr)/\w7.cell? ⟨B5,2,none⟩=some (.int .i64 e))/\Hid (MeetI w7 mb n 0 (200+(k+1)) (((u.funs.take (k+1)).map entG).foldl putM ((u.funcs.map entF).foldl putM (fun _=>none))))/\Hid (VEnv w w7 E U mb 0 u lo fo (some ⟨fb,off,none⟩) (some ⟨cb,cf,none⟩) lc fc gc cc n))/\Hid (w6.cell? ⟨E,1,none⟩=some (.slice (some ⟨mb,0,none⟩) n n)/\w6.cell? ⟨B5,0,none⟩=some (.int .i64 ar)/\w6.cell? ⟨B5,1,none⟩=some (.int .i64 fr)/\w6.cell? ⟨B5,2,none⟩=some (.int .i64 e))):=Lib.hid (by
      refine(ventry_any af W5.drew ⟨haf0.1,by omega⟩).mono ?_
      rintro e' w6 ⟨⟨sb,rfl,-,hsb⟩,hb6⟩
      have hb6':=(Below.refl W5.heap.size W5).drew.trans hb6
      have hx6:=HX5.out.below hb6'
      refine⟨sb,rfl,Lib.hid ?_,Lib.hid ⟨(hb6'.cell (p:=⟨E,1,none⟩) hE5).trans e1,(hb6'.cell (p:=⟨B5,0,none⟩) hB5).trans z0,(hb6'.cell (p:=⟨B5,1,none⟩) hB5).trans z1,(hb6'.cell (p:=⟨B5,2,none⟩) hB5).trans z2⟩⟩
      refine(vaddI_any mb n 0 _ e sb _ (entryV af) w6 (HME.out.below hb6') heN hsb (entry_inv (by omega)) (by omega) (by omega)).mono ?_
      rintro e' w7 ⟨rfl,hm7,ha7⟩
      rw [<-HST.out]at hm7
      have hx7:=hx6.add ha7.1 ha7.2
      have hb7:=((KeepT.below hb6').trans ha7.1).2 B5 _ _ _ hbox (by decide) (by decide)
      have e7:=hx7.cx.e1
      rw [<-HN.out]at e7
      exact⟨rfl,Lib.hid ⟨e7,by rw [cell_of_row _ _ _ _ _ _ hb7];rfl,by rw [cell_of_row _ _ _ _ _ _ hb7];rfl,by rw [cell_of_row _ _ _ _ _ _ hb7];rfl⟩,Lib.hid hm7,Lib.hid hx7⟩)
     have KS:Hid (W5.drew.cell? ⟨E,1,none⟩=some (.slice (some ⟨mb,0,none⟩) n n)/\W5.drew.cell? ⟨B5,0,none⟩=some (.int .i64 ar)/\W5.drew.cell? ⟨B5,1,none⟩=some (.int .i64 fr)/\W5.drew.cell? ⟨B5,2,none⟩=some (.int .i64 e)):=Lib.hid ⟨e1,z0,z1,z2⟩
     clear hbox hal hx5 q0 q1 q2 h1 h2 h3 h4 haf
     first|go_region_held3 (fun w'=>w'.cell? ⟨E,1,none⟩=some (.slice (some ⟨mb,0,none⟩) n n)/\w'.cell? ⟨B5,0,none⟩=some (.int .i64 ar)/\w'.cell? ⟨B5,1,none⟩=some (.int .i64 fr)/\w'.cell? ⟨B5,2,none⟩=some (.int .i64 e)) (first|with_reducible exact KS.out|with_reducible exact KS6.out|with_reducible exact KS7.out)
      ((first|(go_at_call 89;(with_reducible refine HEN.out.mono ?_);rintro e' w6 ⟨sb,rfl,HAD,KS6⟩)|(go_at_call 88;(with_reducible refine HAD.out.mono ?_);rintro e' w7 ⟨rfl,KS7,HM7,HX7⟩)))|fail
     go_wp2_with fail
     refine⟨⟨k+1,hlt,by go_num,HM7,HX7⟩,by simp [intOf];omega⟩
    ·obtain rfl:k=ng:=by omega
     have HM2:Hid (MeetI wr mb n 0 1200 ((entriesV u).foldl putM (fun _=>none))):=Lib.hid (by
      have:=HMk.out
      rw [HNG.out,List.take_length]at this
      have e:(entriesV u).foldl putM (fun _=>none)=(u.funs.map entG).foldl putM ((u.funcs.map entF).foldl putM (fun _=>none)):=by
       unfold entriesV;rw [List.foldl_append];rfl
      rw [e]
      exact this.mono (Nat.le_refl _) (by rw [<-HNG.out];omega))
     clear HMk HM1
     have HRE:Hid (R=examM u n 0 ((entriesV u).foldl putM (fun _=>none))):=Lib.hid (by rw [HR.out,HN.out];rfl)
     generalize(entriesV u).foldl putM (fun _=>none)=M0 at *
     clear b4 hgn HNG HNF hfn
     go_wp2_with fail
     refine(vchecks_any wr).mono ?_
     rintro e w1 ⟨rfl,hck,hb1⟩
     have hM1:=HM2.out.below hb1
     have hE1:=HEk.out.below hb1
     refine zzK3 hM1 hE1 hck fun HMS HES HCK=>?_
     have b5:=(HBX.out.below hE1.bl).c5
     rw [<-HN.out]at b5
     generalize wr.heap.size=CK at *
     clear hb1 hM1 hE1 hck HM2 HEk
     go_wp2_with fail
     go_loopw [77] (fun iv wr=> ∃(i:Nat) (Mi:Nat->Option VM) (a:Int),i<=n/\iv= .int .i64 i/\Hid (R=examM u (n-i) i Mi)/\Hid (MeetI wr mb n i (1200+1200*i) Mi)/\Hid (VEnv w wr E U mb a u lo fo go (some ⟨cb,cf,none⟩) lc fc gc cc n)/\Hid (wr.heap[CK]?=some (.cells chkRow 191 (0,0)))) (fun iv _=>n-(intOf iv).toNat)
     case atStart=>exact⟨0,M0,0,Nat.zero_le _,rfl,HRE,HMS,HES,HCK⟩
     case round=>
      obtain⟨i,Mi,a,hi,rfl,HRi,HMi,HEi,HCi⟩:=hrel
      clear HMS HES HCK b5
      rename World=>wr
      by_cases hlt:i<n
      ·as_aux_lemma=>
       have hEE:w.heap.size<=E:=by have:=HEE.out;omega
       have hex:=HEi.out.ex
       have q2:=HEi.out.cx.e2
       have qf:wr.frozen? ⟨E,2,none⟩=false:=frozen_of_row _ _ _ _ _ hex
       have hI0:(0:Int)<=(i:Int):=by omega
       have hI1:(i:Int)<(n:Int):=by omega
       go_upto_region 17 with fail
       have hMx:=HMi.out.setFar (i:=2) (v:=.int .i64 i) hex
       have hEx:=HEi.out.setAt hEE (i:Int)
       have hCx:=row_setFar (i:=2) (v:=.int .i64 i) HCi.out hex (by decide)
       generalize wr.setCell ⟨E,2,none⟩ (.int .i64 i)=W at *
       refine zzK3 hMx hEx hCx fun HMW HEW HCW=>?_
       have e1:=hEx.cx.e1
       rw [<-HN.out]at e1
       clear hex q2 qf hMx hEx hCx HMi HEi HCi
       obtain⟨⟨csi,gi,hmi⟩,hai⟩:=HMW.out
       obtain⟨pv,av,wv,f0,f1,f2,h1⟩:=hmi.one i hlt
       have c0:W.cell? ⟨mb,i*3,none⟩=some pv:=by rw [cell_of_row _ _ _ _ _ _ hmi.row];exact f0
       have c2:W.cell? ⟨mb,i*3+2,none⟩=some wv:=by rw [cell_of_row _ _ _ _ _ _ hmi.row];exact f2
       obtain⟨f,hf⟩: ∃f,n-i=f+1:=⟨n-i-1,by omega⟩
       have hf2:n-(i+1)=f:=by omega
       have HRI:Hid (R=examM u (f+1) i Mi):=Lib.hid (by rw [HRi.out,hf])
       have HF2:=Lib.hid hf2
       clear hf hf2 HRi hmi f0 f1 f2
       cases hMi:Mi i with
       |none=>
        rw [hMi]at h1
        obtain⟨rfl,rfl,rfl⟩:=h1
        have HRJ:Hid (R=examM u (n-(i+1)) (i+1) Mi):=Lib.hid (by rw [HRI.out,HF2.out,examM,hMi])
        clear hMi hai
        go_wp2_with fail
        refine⟨⟨i+1,Mi,i,hlt,by go_num,HRJ,Lib.hid (HMW.out.mono (Nat.le_succ i) (by omega)),HEW,HCW⟩,by simp [intOf];omega⟩
       |some m=>
        rw [hMi]at h1
        obtain⟨⟨b,rfl,hsb⟩,rfl,-⟩:=h1
        have him:=hai i m hMi
        unfold ptrV at c0
        refine zzK3 hsb him hMi fun HSB HIM HMI=>?_
        clear hsb him hMi hai
        by_cases hwr:m.wrong=0
        ·rw [hwr]at c2
         have HWR:=Lib.hid hwr
         clear hwr
         have hix:i<u.code.length:=by rw [<-HN.out];exact hlt
         obtain⟨x,hx⟩: ∃x,x=u.code[i]:=⟨_,rfl⟩
         have hxi:insV u i=x:=by rw [hx];unfold insV;rw [List.getElem?_eq_getElem hix];rfl
         have hvi:VIns u i x:=by rw [hx];exact HV.out.ins i hix
         obtain⟨sb',sf',so,co',go',sc,cc',gc',hce,hib⟩:=ibox_of HUP.out.code hix
         injection hce with hce
         injection hce with hce1 hce2
         subst hce1;subst hce2
         rw [<-hx]at hib
         refine zzK3 hxi hvi hib fun HXI HVI HIB=>?_
         clear hx hxi hvi hib hix
         obtain⟨L,hL⟩: ∃L,L=checkL u i m.st x:=⟨_,rfl⟩
         have hL6:L.length=6:=by rw [hL];rfl
         have HL:=Lib.hid hL;have HL6:=Lib.hid hL6
         have HCHK:Hid (∀j,j<6-> ∃f:FuncId,chkRow[j]?=some (.func (.func f) #[] #[])/\(∀(args:Array Value) (w:World),(callFunc f args).run Tryz.prog w= .ok (.enter f args) w) /\
           ∀wx,Below W.heap.size W wx->Calls Tryz.prog f #[.pointer (some ⟨E,0,none⟩),.pointer (some ⟨b,0,none⟩),.pointer (some ⟨cb,cf+i*10,none⟩)] wx fun e w'=>e= .returned (.int .i64 (L.getD j 0))/\Below wx.heap.size wx w'):=Lib.hid (fun j hj=>by
          rw [hL]
          exact chk_at E U mb b cb (cf+i*10) i u lo fo go (some ⟨cb,cf,none⟩) lc fc gc cc n x m.st so co' go' sc cc' gc' W HEW.out.cx (HIB.out.below HEW.out.bl) HSB.out (HIM.out.st.ok (by omega)) HV.out.lits HVI.out j hj)
         have HC0:=Lib.hid c0
         clear hL hL6
         go_wp2_with fail
         go_loopw [107] (fun jv wr=> ∃j:Nat,j<=6/\jv= .int .i64 j/\Hid (firstN L=firstN (L.drop j))/\Hid (Below W.heap.size W wr)) (fun jv _=>6-(intOf jv).toNat)
         case atStart=>exact⟨0,Nat.zero_le _,rfl,Lib.hid (by rw [List.drop_zero]),Lib.hid (Below.refl _ _)⟩
         case round=>
          obtain⟨j,hj,rfl,HLj,HBj⟩:=hrel
          rename World=>wr
          by_cases hjt:j<6
          ·as_aux_lemma=>
           obtain⟨f6,hf6,hent,hcon⟩:=HCHK.out j hjt
           have hd:=firstN_drop (l:=L) (j:=j) (by rw [HL6.out];exact hjt)
           have hgd:L.getD j 0=L[j]'(by rw [HL6.out];exact hjt):=by rw [List.getD_eq_getElem?_getD,List.getElem?_eq_getElem];rfl
           rw [<-hgd]at hd
           have HD:=Lib.hid hd
           generalize L.getD j 0=ej at *
           have hck:wr.cell? ⟨CK,j,none⟩=some (.func (.func f6) #[] #[]):=by
            rw [cell_of_row _ _ _ _ _ _ ((HBj.out.block CK (lt_of_row HCW.out)).trans HCW.out)];exact hf6
           have hJ0:(0:Int)<=(j:Int):=by omega
           have hJ1:(j:Int)<6:=by omega
           have hbox:=heap_alloc_new wr (.cells #[.func (.func f6) #[] #[]] 191)
           have hal:=HBj.out.alloc HBj.out.size (.cells #[.func (.func f6) #[] #[]] 191)
           clear hd hgd hf6 c0 c2 e1
           go_upto_region 24 with fail
           generalize wr.alloc (.cells #[.func (.func f6) #[] #[]] 191)=W5 at *
           have z0:=cellOf hbox (k:=0) (by simp)
           simp only [List.getElem_toArray,List.getElem_cons_zero]at z0
           have c5:W5.cell? ⟨mb,i*3,none⟩=some (.pointer (some ⟨b,0,none⟩)):=(hal.cell (p:=⟨mb,i*3,none⟩) HMW.out.mb).trans HC0.out
           have b5:=(HBX.out.below (HEW.out.bl.trans (hal.mono HEW.out.bl.size))).c5
           rw [<-HN.out]at b5
           have HAL:=Lib.hid hal
           have HCO:=Lib.hid (hcon W5.drew (hal.trans ((Below.refl _ _).drew)))
           generalize wr.heap.size=B5 at *
           clear hbox hal hck hcon
           by_cases hej:ej=0
           ·have HLJ:Hid (firstN L=firstN (L.drop (j+1))):=Lib.hid (by rw [HLj.out,HD.out,if_neg (fun h=>h hej)])
            subst hej
            clear HLj HD
            go_still_tail 13,(by kernel_rfl)
            change wpList _ _ _ _ _ W5.drew
            go_wp2_with fail
            refine HCO.out.mono ?_
            rintro e w6 ⟨rfl,hb6⟩
            have HB6:Hid (Below W.heap.size W w6):=Lib.hid ((HAL.out.trans (Below.refl _ _).drew).trans (hb6.mono HAL.out.size))
            clear hb6 HCO
            go_wp2_with fail
            refine⟨⟨j+1,hjt,by go_num,HLJ,HB6⟩,by simp [intOf];omega⟩
           ·have HFN:Hid (firstN L=ej):=Lib.hid (by rw [HLj.out,HD.out,if_pos hej])
            have HEJ:=Lib.hid hej
            have u1 : (ej != 0) = true := by simpa using hej
            have HRR:Hid (R=(((i:Int),ej),Mi)):=Lib.hid (by
             have hc:checksV u i m.st (insV u i)=ej:=by rw [HXI.out,<-HFN.out,HL.out];rfl
             rw [HRI.out,examM,HMI.out];simp only;rw [if_neg (fun h=>h HWR.out),hc,if_pos hej])
            clear hej HLj HD
            go_still_tail 13,(by kernel_rfl)
            change wpList _ _ _ _ _ W5.drew
            go_wp2_with fail
            refine HCO.out.mono ?_
            rintro e w6 ⟨rfl,hb6⟩
            have HB6:Hid (Below W.heap.size W w6):=Lib.hid ((HAL.out.trans (Below.refl _ _).drew).trans (hb6.mono HAL.out.size))
            clear hb6 HCO
            go_wp2_with fail
            go_ret3
            exact HGOAL.out _ _ ⟨⟨.pointer none,by(have h:=HRR.out;subst h;rfl),fun _=>rfl,fun h=>absurd (by rw [HRR.out]at h;exact h) HEJ.out⟩,HEW.out.bl.trans (HB6.out.mono HEW.out.bl.size)⟩
          ·obtain rfl:j=6:=by omega
           as_aux_lemma=>
           have HC:Hid (checksV u i m.st x=0):=Lib.hid (by
            have h1:checksV u i m.st x=firstN L:=by rw [HL.out];rfl
            rw [h1,HLj.out,List.drop_eq_nil_of_le (by rw [HL6.out];exact Nat.le_refl 6)];rfl)
           have hxx:=HEW.out.below HBj.out
           have c5:wr.cell? ⟨mb,i*3,none⟩=some (.pointer (some ⟨b,0,none⟩)):=(HBj.out.cell (p:=⟨mb,i*3,none⟩) HMW.out.mb).trans HC0.out
           obtain⟨PE,hPE⟩: ∃PE,PE=passE u i m.st x (stM Mi):=⟨_,rfl⟩
           have hps:=vpass_any w E U mb b i (1200+1200*i) u lo fo go cb cf lc fc gc cc n m.st x Mi wr hxx (by rw [<-HN.out];exact HMW.out.below HBj.out) (HSB.out.below HBj.out) (by rw [<-HN.out];exact HIM.out.st) (by rw [<-HN.out];exact hlt) HXI.out HVI.out HC.out HV.out.lits (by rw [<-HN.out];exact hn2) (by omega)
           have hps2:Calls Tryz.prog 91 #[.pointer (some ⟨E,0,none⟩),.int .i64 i,.pointer (some ⟨b,0,none⟩)] wr fun e w'=>e= .returned (.int .i64 PE)/\Hid (AddK mb wr w')/\Hid (PE=0->MeetI w' mb n (i+1) (1200+1200*i+1200) ((addsV u i m.st x).foldl putM Mi)):=
            hps.mono fun e w' h=>by
             unfold PassQ at h
             rw [<-hPE,<-HN.out]at h
             exact⟨h.1,Lib.hid h.2.1,Lib.hid h.2.2⟩
           refine zzK3 hps2 hPE hxx fun HPS HPE HXX=>?_
           clear hps hps2 hPE hxx c0 c2 e1 HLj
           by_cases hpe:PE=0
           ·have HRJ:Hid (R=examM u (n-(i+1)) (i+1) ((addsV u i m.st x).foldl putM Mi)):=Lib.hid (by
             rw [HRI.out,HF2.out,examM,HMI.out];simp only
             rw [if_neg (fun h=>h HWR.out),HXI.out,if_neg (fun h=>h HC.out),<-HPE.out,if_neg (fun h=>h hpe)])
            subst hpe
            go_wp2_with fail
            refine HPS.out.mono ?_
            rintro e w6 ⟨rfl,HAK,HM6⟩
            have HM7:Hid (MeetI w6 mb n (i+1) (1200+1200*(i+1)) ((addsV u i m.st x).foldl putM Mi)):=Lib.hid ((HM6.out (by first|trivial|rfl)).mono (Nat.le_refl _) (by omega))
            have HX6:=Lib.hid (HXX.out.add HAK.out.1 HAK.out.2)
            have HC6:Hid (w6.heap[CK]?=some (.cells chkRow 191 (0,0))):=Lib.hid (HAK.out.1.2 CK _ _ _ ((HBj.out.block CK (lt_of_row HCW.out)).trans HCW.out) (by decide) (by decide))
            clear HPS HAK HM6 HXX HPE
            go_wp2_with fail
            refine⟨⟨i+1,_,i,hlt,by go_num,HRJ,HM7,HX6,HC6⟩,by simp [intOf];omega⟩
           ·have HRR:Hid (R=(((i:Int),PE),Mi)):=Lib.hid (by
             rw [HRI.out,examM,HMI.out];simp only
             rw [if_neg (fun h=>h HWR.out),HXI.out,if_neg (fun h=>h HC.out),<-HPE.out,if_pos hpe])
            have HEJ:=Lib.hid hpe
            have u1 : (PE != 0) = true := by simpa using hpe
            clear hpe
            go_wp2_with fail
            refine HPS.out.mono ?_
            rintro e w6 ⟨rfl,HAK,-⟩
            have HX6:=Lib.hid (HXX.out.add HAK.out.1 HAK.out.2)
            clear HPS HAK HXX
            go_wp2_with fail
            go_ret3
            exact HGOAL.out _ _ ⟨⟨.pointer none,by(have h:=HRR.out;subst h;rfl),fun _=>rfl,fun h=>absurd (by rw [HRR.out]at h;exact h) HEJ.out⟩,HX6.out.bl⟩
        ·have HRR:Hid (R=(((i:Int),m.wrong),Mi)):=Lib.hid (by rw [HRI.out,examM,HMI.out];simp only;rw [if_pos hwr])
         have u1 : (m.wrong != 0) = true := by simpa using hwr
         have HWR:=Lib.hid hwr
         clear hwr
         generalize hmw:m.wrong=mw at *
         have HMW2:=Lib.hid hmw
         clear hmw
         go_wp2_with fail
         go_quiet (fail)
         go_wp2_with fail
         go_ret3
         refine HGOAL.out _ _ ⟨⟨.pointer none,by(have h:=HRR.out;subst h;rfl),fun _=>rfl,fun h=>absurd (by rw [HRR.out]at h;exact h) HWR.out⟩,below_drewN HEW.out.bl _⟩
      ·obtain rfl:i=n:=by omega
       have HRR:Hid (R=((0,0),Mi)):=Lib.hid (by rw [HRi.out,Nat.sub_self];rfl)
       go_wp2_with fail
       go_ret3
       refine HGOAL.out _ _ ⟨⟨.pointer (some ⟨E,0,none⟩),by(have h:=HRR.out;subst h;rfl),fun h=>absurd (by(have h:=HRR.out;subst h;rfl)) h,fun _=>⟨E,mb,i,a,rfl,HEi.out.ex,?_⟩⟩,HEi.out.bl⟩
       rw [HRR.out,<-HN.out]
       exact HMi.out.mono (Nat.le_refl _) (by omega)
theorem sumI_nonneg: ∀{l:List Int},(∀x∈l,0<=x)->0<=sumI l
 |[],_=>Int.le_refl _
 |x::l,h=>by
  have h1:=h x (List.mem_cons_self ..)
  have h2:=sumI_nonneg (l:=l) (fun y hy=>h y (List.mem_cons_of_mem _ hy))
  show 0<=x+sumI l
  omega
theorem own_nonneg {t:Tm} (h:locB t=true):0<=ownSize t:=by
 unfold locB at h
 rw [Bool.and_eq_true]at h
 have h:=h.1
 unfold ownSize
 split
 ·rename_i k9
  unfold okK at h
  simp only [k9]at h
  simp at h
  omega
 ·split
  ·rename_i k10
   unfold okK at h
   simp only [k10]at h
   simp at h
   unfold bitsB bitsV wi at h
   simp at h
   omega
  ·decide
theorem whole_nonneg: ∀(f:Nat) (t:Tm),formF f t=true->0<=wholeF f t
 |0,_,h=>Int.le_refl _
 |f+1,t,h=>by
  unfold formF at h
  rw [Bool.and_eq_true]at h
  have h1:=own_nonneg h.1
  have h2:0<=sumI (t.items.map (wholeF f)):=sumI_nonneg (fun x hx=>by
   obtain⟨y,hy,rfl⟩:=List.mem_map.1 hx
   exact whole_nonneg f y (List.all_eq_true.1 h.2 y hy))
  show 0<=ownSize t+sumI (t.items.map (wholeF f))
  omega
theorem items_le {f:Nat} {t:Tm} (h:validF f t=true):t.items.length<=1000000:=by
 unfold validF at h
 rw [Bool.and_eq_true,decide_eq_true_eq]at h
 obtain⟨h1,h2⟩:=h
 cases f with
 |zero=>cases h1
 |succ f=>
  have h3:0<=sumI (t.items.map (wholeF f)):=by
   unfold formF at h1
   rw [Bool.and_eq_true]at h1
   exact sumI_nonneg (fun x hx=>by
    obtain⟨y,hy,rfl⟩:=List.mem_map.1 hx
    exact whole_nonneg f y (List.all_eq_true.1 h1.2 y hy))
  unfold formF locB at h1
  rw [Bool.and_eq_true,Bool.and_eq_true]at h1
  have h4:ownSize t+sumI (t.items.map (wholeF f))<=2000:=h2
  obtain⟨⟨hk,hz⟩,-⟩:=h1
  unfold zeroK at hz
  simp only [Bool.and_eq_true,Bool.or_eq_true,decide_eq_true_eq]at hz
  rcases hz.1.1.2 with hk2|hz0
  ·rcases hk2 with h|h|h
   ·unfold okK at hk
    simp only [h]at hk
    simp at hk
    omega
   ·unfold okK at hk
    simp only [h]at hk
    simp at hk
    omega
   ·unfold ownSize at h4
    rw [if_pos h]at h4
    omega
  ·have:t.items.length=0:=of_decide_eq_true hz0
   omega
theorem unitV_of {f:Nat} {u:RUnit} (h:checkE f u=0):UnitV u:=by
 obtain⟨ht,htab,hins⟩:=check_ok h
 have hlv:=lits_valid htab
 unfold tablesB at htab
 simp only [Bool.and_eq_true]at htab
 obtain⟨ha,-,hf,hg⟩:=htab
 refine⟨ht.code0,Nat.le_trans ht.code1 (by decide),fun i hi=>vins_ok ht (hins i hi),⟨ht.funcs,fun g hm=>?_⟩,⟨ht.funs,fun g hm=>?_⟩,fun t hm=>items_le (hlv t hm)⟩
 ·obtain⟨k,hk,rfl⟩:=List.getElem_of_mem hm
  have:=(of_decide_eq_true hf k hk).1
  unfold fnOk at this
  rw [Bool.and_eq_true,Bool.and_eq_true]at this
  have a:=wi_iff this.2.1;have b:=wi_iff this.2.2
  omega
 ·have:=List.all_eq_true.1 hg g hm
  unfold funB at this
  rw [Bool.and_eq_true,Bool.and_eq_true]at this
  have a:=wi_iff this.1;have b:=wi_iff this.2.1;have c:=wi_iff this.2.2
  omega
def whereV (f:Nat) (u:RUnit):Int × Int:=if checkE f u≠0 then(checkI f u,checkE f u)else(examMV u).1
structure ChkAt (w:World) (f:Nat) (u:RUnit) (lo fo go co:Option Addr):Prop where
 rows:RowsAt w
 sp:SpaceAt w
 up:UP w u lo fo go co
 lits:SlAt w 9 (TmAt w (f+1)) lo u.lits
 cap: ∀t∈u.lits,(capF (f+1) t:Int)<=1152921504606846976
 nm: ∀x∈u.code,x.name.size<=140737488355328
theorem ChkAt.below {w w':World} {f:Nat} {u:RUnit} {lo fo go co:zzA} (h:ChkAt w f u lo fo go co) (hb:Below w.heap.size w w'):ChkAt w' f u lo fo go co:=
 ⟨h.rows.below hb,h.sp.below hb,h.up.below hb,h.lits.tms hb,h.cap,h.nm⟩
theorem vwhere_any (f:Nat) (u:RUnit) (lo fo go co:zzA) (lc fc gc cc:Nat) (w:World) (h:ChkAt w f u lo fo go co):
  Calls Tryz.prog 31 #[.agg #[.string u.mdl,.int .i64 u.vsn,.slice lo u.lits.length lc,.slice fo u.funcs.length fc,.slice go u.funs.length gc,.slice co u.code.length cc]] w fun e w'=>e= .returned (.tuple #[.int .i64 (whereV (f+1) u).1,.int .i64 (whereV (f+1) u).2])/\Below w.heap.size w w':=by
 have hbx:=ubox_new w u lo fo go co lc fc gc cc
 have hba:Below w.heap.size w (w.alloc (.cells #[.string u.mdl,.int .i64 u.vsn,.slice lo u.lits.length lc,.slice fo u.funcs.length fc,.slice go u.funs.length gc,.slice co u.code.length cc] 31)):=zzE _ _
 have hc:=h.below hba
 obtain⟨V,hV⟩: ∃V,V=whereV (f+1) u:=⟨_,rfl⟩
 rw [<-hV]
 have HV:=Lib.hid hV
 clear hV h
 go_in
 go_upto_region 1 with fail
 generalize w.alloc (.cells #[.string u.mdl,.int .i64 u.vsn,.slice lo u.lits.length lc,.slice fo u.funcs.length fc,.slice go u.funs.length gc,.slice co u.code.length cc] 31)=W at *
 generalize hB:w.heap.size=B at *
 refine zzK3 hba hbx hc fun HBA HBX HC=>?_
 have c0:=hbx.c0;have c1:=hbx.c1;have c2:=hbx.c2;have c3:=hbx.c3;have c4:=hbx.c4;have c5:=hbx.c5
 have HCK:=Lib.hid (check_any f u lo fo go co lc fc gc cc W hc.rows hc.sp hc.up hc.lits hc.cap hc.nm)
 clear hba hbx hc
 obtain⟨ce,hce⟩: ∃ce,ce=checkE (f+1) u:=⟨_,rfl⟩
 obtain⟨ci,hci⟩: ∃ci,ci=checkI (f+1) u:=⟨_,rfl⟩
 rw [<-hce,<-hci]at HCK
 have HCE:=Lib.hid hce;have HCI:=Lib.hid hci
 clear hce hci
 go_wp2_with fail
 refine HCK.out.mono ?_
 rintro e w1 ⟨rfl,hb1⟩
 have HB1:=Lib.hid hb1
 clear hb1 HCK c0 c1 c2 c3 c4 c5
 have HFIN:Hid (∀wx,Below w1.heap.size w1 wx->Below B w wx):=Lib.hid (fun wx h=>(HBA.out.trans (HB1.out.mono (by rw [<-hB];rw [hB];exact HBA.out.size |> fun h=>by omega))).trans (h.mono (by have:=HB1.out.size;have:=HBA.out.size;omega)))
 by_cases h0:ce=0
 ·have HEX:=Lib.hid (vexamine_any B u lo fo go co lc fc gc cc w1 (HBX.out.below HB1.out) (HC.out.up.below HB1.out) (unitV_of (by rw [<-HCE.out];exact h0)))
  have E:Hid (V=(examMV u).1):=Lib.hid (by rw [HV.out];unfold whereV;rw [<-HCE.out,if_neg (fun h=>h h0)])
  subst h0
  go_wp2_with fail
  refine HEX.out.mono ?_
  rintro e w2 ⟨⟨pv,rfl,-,-⟩,hb2⟩
  rw [<-E.out]
  have HB2:=Lib.hid hb2
  clear hb2 HEX
  go_wp2_with fail
  go_ret2
  exact⟨rfl,by rw [hB];exact HFIN.out _ HB2.out⟩
 ·have E:Hid (V=(ci,ce)):=Lib.hid (by rw [HV.out];unfold whereV;rw [<-HCE.out,<-HCI.out,if_pos h0])
  have u1 : (ce != 0) = true := by simpa using h0
  clear h0
  go_wp2_with fail
  go_ret2
  exact⟨by(have h:=E.out;subst h;rfl),by rw [hB];exact HFIN.out _ (Below.refl _ _)⟩
def svM:ByteArray:=⟨#[109]⟩
def svF:ByteArray:=⟨#[102]⟩
def svG:ByteArray:=⟨#[103]⟩
theorem svw1:whereV 1 (svU svM 1 svF)=(0,0):=by kernel_rfl
theorem svw2:whereV 1 (svU svM 2 svG)=(0,0):=by kernel_rfl
theorem svw3:whereV 1 (svU svM 3 svF)=(0,0):=by kernel_rfl
theorem svw4:whereV 1 (svU svM 4 svF)=(0,0):=by kernel_rfl
theorem svlen (m:ByteArray) (v:Int) (f:ByteArray):LenB (svU m v f):=by
 unfold LenB svU
 refine⟨by show 1*40<=_;decide,by show 0*24<=_;decide,by show 2*136<=_;decide,fun x hx=>?_⟩
 have hx:x∈ [mvI,rtI]:=hx
 simp only [List.mem_cons,List.not_mem_nil,or_false]at hx
 rcases hx with rfl|rfl
 ·exact⟨by show 1*16<=_;decide,by show 0*16<=_;decide,by show 0*48<=_;decide⟩
 ·exact⟨by show 0*16<=_;decide,by show 0*16<=_;decide,by show 0*48<=_;decide⟩
theorem svcap (m:ByteArray) (v:Int) (f:ByteArray):sumN ((svU m v f).lits.map (capF 1))+(svU m v f).lits.length<=1000000:=by show 300+0+0+0+1<=_;decide
theorem svloads {m:ByteArray} {v:Int} {f:ByteArray} (hw:whereV 1 (svU m v f)=(0,0)) {w:World} {lo fo co:zzA} {lc fc cc:Nat} (hr:RowsAt w) (hs:SpaceAt w) (hup:UP w (svU m v f) lo fo none co) (hl:SlAt w 9 (TmAt w 1) lo [okT]):
  LoadsS #[.string m,.int .i64 v,.slice lo 1 lc,.slice fo 1 fc,.slice none 0 0,.slice co 2 cc] (svU m v f) w:=by
 intro wx hx
 have h:=vload_any 1 (svU m v f) (0,0) lo fo none co lc fc 0 cc wx (hup.below hx) (hl.tms hx) (svcap m v f) (fun _=>svlen m v f) fun w1 hb=>by
  have h:=vwhere_any 0 (svU m v f) lo fo none co lc fc 0 cc w1 ⟨(hr.below hx).below hb,(hs.below hx).below hb,(hup.below hx).below hb,(hl.tms hx).tms hb,(fun t ht=>by
   have ht:t∈ [okT]:=ht
   rw [List.mem_singleton]at ht
   subst ht
   show((300+0+0:Nat):Int)<=_
   decide),(fun x hx=>by
   have hx:x∈ [mvI,rtI]:=hx
   simp only [List.mem_cons,List.not_mem_nil,or_false]at hx
   rcases hx with rfl|rfl
   ·exact Nat.zero_le _
   ·exact Nat.zero_le _)⟩
  rw [hw]at h
  exact h
 refine h.mono ?_
 rintro e w' ⟨hb,-,hok⟩
 obtain⟨m',M',l0,h0,rfl,hlo,himg⟩:=hok rfl
 obtain⟨i1,i2,i3⟩:=himg.img
 exact⟨hb,m',M',rfl,Nat.le_trans hlo i2,i3,i1⟩
abbrev Im:=Nat × Nat × RUnit
def ptrI (c:Option Im):Option Addr:=c.map fun x=>⟨x.1,0,none⟩
def ImOk (w:World) (M:Nat) (c:Option Im):Prop:= ∀x,c=some x->ImgS w x.1 x.2.1 x.2.2/\M<x.2.1/\M<x.1
theorem ImOk.grown {w w':World} {M:Nat} {c:Option Im} (h:ImOk w M c) (hg:w.grownBy w' (some M)):ImOk w' M c:=fun x hx=>by
 obtain⟨h1,h2,h3⟩:=h x hx
 exact⟨h1.grown hg (fun e=>by have:=Option.some.inj e;omega) (fun e=>by have:=Option.some.inj e;omega),h2,h3⟩
theorem ImOk.below {w w':World} {M:Nat} {c:Option Im} (h:ImOk w M c) (hb:Below w.heap.size w w'):ImOk w' M c:=h.grown (grownBy_below hb _)
structure Sv (w0 w:World) (s M n:Nat) (c o:Option Im) (g:Int) (b:Bool):Prop where
 low:Below w0.heap.size w0 w
 base:w0.heap.size<=M
 few:n<=1000
 srv: ∃T,SrvAt w s M n T/\(T svM.data.toList).getD (modV none none 0)=modV (ptrI c) (ptrI o) g/\(T svM.data.toList).isSome=b
 cur:ImOk w M c
 old:ImOk w M o
section
variable {w0 w:World} {s M n:Nat} {c o:Option Im} {g:Int} {b:Bool}
theorem Sv.below (h:Sv w0 w s M n c o g b) {w':World} (hb:Below w.heap.size w w'):Sv w0 w' s M n c o g b:=
 ⟨h.low.trans (hb.mono h.low.size),h.base,h.few,let⟨T,h1,h2⟩:=h.srv;⟨T,h1.below hb,h2⟩,h.cur.below hb,h.old.below hb⟩
theorem svM_len:svM.size<=maxLen:=by show(1:Nat)<=_;unfold maxLen;decide
theorem Sv.finds (h:Sv w0 w s M n c o g b):Finds (some ⟨s,0,none⟩) svM (ptrI c) (ptrI o) g w:=let⟨_,h1,h2⟩:=h.srv;h1.finds svM_len h2.1
def SvLoadS (w0:World) (s M n:Nat) (c o:Option Im) (g:Int) (b:Bool) (u:RUnit) (e:Ending) (w':World):Prop:=
 if(b&&decide (u.vsn<=g))=true then e= .returned (.int .i64 271)/\Sv w0 w' s M n c o g b else if o.isSome=true then e= .returned (.int .i64 270)/\Sv w0 w' s M n c o g b else
  e= .returned (.int .i64 0)/\ ∃m Mi,Sv w0 w' s M (n+1) (some (m,Mi,u)) c u.vsn true
theorem putO_same (t:List UInt8->Option Value) (k:List UInt8) (v:Value):putO t k v k=some v:=by unfold putO;rw [if_pos rfl]
theorem Sv.load (h:Sv w0 w s M n c o g b) (hn:n<1000) {v:Int} {f:ByteArray} {lo fo co:zzA} {lc fc cc:Nat} (hw:whereV 1 (svU svM v f)=(0,0)) (hr:RowsAt w0) (hs:SpaceAt w0) (hup:UP w (svU svM v f) lo fo none co) (hl:SlAt w 9 (TmAt w 1) lo [okT]):
  Calls Tryz.prog 6 #[.pointer (some ⟨s,0,none⟩),.agg #[.string svM,.int .i64 v,.slice lo 1 lc,.slice fo 1 fc,.slice none 0 0,.slice co 2 cc]] w (SvLoadS w0 s M n c o g b (svU svM v f)):=by
 obtain⟨T,h1,h2,h3⟩:=h.srv
 refine(svload_any s M n T (svU svM v f) (ptrI c) (ptrI o) g b lo fo none co lc fc 0 cc w h1 h.few svM_len h2 h3 (svloads hw (hr.below h.low) (hs.below h.low) hup hl)).mono ?_
 intro e w' hq
 unfold SvLoadQ at hq
 unfold SvLoadS
 split
 ·rename_i hc
  rw [if_pos hc]at hq
  exact⟨hq.1,h.below hq.2⟩
 ·rename_i hc
  rw [if_neg hc]at hq
  have ho:(ptrI o).isSome=o.isSome:=by cases o<;>rfl
  rw [ho]at hq
  split
  ·rename_i hc2
   rw [if_pos hc2]at hq
   exact⟨hq.1,h.below hq.2⟩
  ·rename_i hc2
   rw [if_neg hc2]at hq
   obtain⟨rfl,m,Mi,q1,q2,q3,q4,q5⟩:=hq
   have hM:=h1.2.1.lt
   refine⟨rfl,m,Mi,?_,h.base,by omega,⟨_,q4,?_,?_⟩,?_,h.cur.grown q5⟩
   ·exact h.low.grown q5 h.low.size (fun q e=>by have:=Option.some.inj e;have:=h.base;omega)
   ·show(putO T svM.data.toList _ svM.data.toList).getD _=_
    rw [putO_same]
    have hc2':o=none:=by cases o<;>simp_all
    rfl
   ·show(putO T svM.data.toList _ svM.data.toList).isSome=_
    rw [putO_same];rfl
   ·rintro x hx
    obtain rfl:=Option.some.inj hx
    exact⟨q3,by show M<Mi;omega,by show M<m;omega⟩
theorem Sv.loadOk (h:Sv w0 w s M n c o g b) (hn:n<1000) {v:Int} {f:ByteArray} {lo fo co:zzA} {lc fc cc:Nat} (hw:whereV 1 (svU svM v f)=(0,0)) (hr:RowsAt w0) (hs:SpaceAt w0) (hup:UP w (svU svM v f) lo fo none co) (hl:SlAt w 9 (TmAt w 1) lo [okT]) (hg:(b&&decide (v<=g))=false) (ho:o=none):
  Calls Tryz.prog 6 #[.pointer (some ⟨s,0,none⟩),.agg #[.string svM,.int .i64 v,.slice lo 1 lc,.slice fo 1 fc,.slice none 0 0,.slice co 2 cc]] w fun e w'=>e= .returned (.int .i64 0)/\ ∃m Mi,Sv w0 w' s M (n+1) (some (m,Mi,svU svM v f)) c v true:=by
 refine(h.load hn hw hr hs hup hl).mono fun e w' hq=>?_
 unfold SvLoadS at hq
 rw [if_neg (by show¬(b&&decide (v<=g))=true;rw [hg];decide),if_neg (by rw [ho];decide)]at hq
 exact hq
theorem Sv.loadVsn (h:Sv w0 w s M n c o g b) (hn:n<1000) {v:Int} {f:ByteArray} {lo fo co:zzA} {lc fc cc:Nat} (hw:whereV 1 (svU svM v f)=(0,0)) (hr:RowsAt w0) (hs:SpaceAt w0) (hup:UP w (svU svM v f) lo fo none co) (hl:SlAt w 9 (TmAt w 1) lo [okT]) (hg:(b&&decide (v<=g))=true):
  Calls Tryz.prog 6 #[.pointer (some ⟨s,0,none⟩),.agg #[.string svM,.int .i64 v,.slice lo 1 lc,.slice fo 1 fc,.slice none 0 0,.slice co 2 cc]] w fun e w'=>e= .returned (.int .i64 271)/\Sv w0 w' s M n c o g b:=by
 refine(h.load hn hw hr hs hup hl).mono fun e w' hq=>?_
 unfold SvLoadS at hq
 rw [if_pos (show(b&&decide ((svU svM v f).vsn<=g))=true from hg)]at hq
 exact hq
theorem Sv.loadOld (h:Sv w0 w s M n c o g b) (hn:n<1000) {v:Int} {f:ByteArray} {lo fo co:zzA} {lc fc cc:Nat} (hw:whereV 1 (svU svM v f)=(0,0)) (hr:RowsAt w0) (hs:SpaceAt w0) (hup:UP w (svU svM v f) lo fo none co) (hl:SlAt w 9 (TmAt w 1) lo [okT]) (hg:(b&&decide (v<=g))=false) (ho:o.isSome=true):
  Calls Tryz.prog 6 #[.pointer (some ⟨s,0,none⟩),.agg #[.string svM,.int .i64 v,.slice lo 1 lc,.slice fo 1 fc,.slice none 0 0,.slice co 2 cc]] w fun e w'=>e= .returned (.int .i64 270)/\Sv w0 w' s M n c o g b:=by
 refine(h.load hn hw hr hs hup hl).mono fun e w' hq=>?_
 unfold SvLoadS at hq
 rw [if_neg (by show¬(b&&decide (v<=g))=true;rw [hg];decide),if_pos ho]at hq
 exact hq
theorem Sv.find (h:Sv w0 w s M n c o g b) {m Mi:Nat} {u:RUnit} (hc:c=some (m,Mi,u)) (f:ByteArray) (hf:f.size<=maxLen) (r:Option Nat) (hr:expK u.funcs u.funcs.length f 0=r):
  Calls Tryz.prog 8 #[.pointer (some ⟨s,0,none⟩),.string svM,.string f,.int .i64 0] w (FindfQ m r w):=by
 subst hc
 obtain⟨T,h1,h2,h3⟩:=h.srv
 exact svfindf_any s M n m Mi u T svM f 0 (ptrI o) g r w h1 svM_len h2 (h.cur _ rfl).1 hf (by unfold I64;omega) hr
theorem Sv.vsn (h:Sv w0 w s M n c o g b) {m Mi:Nat} {u:RUnit} (hc:c=some (m,Mi,u)):Calls Tryz.prog 9 #[.pointer (some ⟨m,0,none⟩)] w fun e w'=>e= .returned (.int .i64 u.vsn)/\w'=w:=(h.cur _ hc).1.vsn
theorem Sv.oldIs (h:Sv w0 w s M n c o g b) {m Mi:Nat} {u:RUnit} (hc:o=some (m,Mi,u)):Calls Tryz.prog 10 #[.pointer (some ⟨s,0,none⟩),.string svM] w fun e w'=>e= .returned (.tuple #[.int .i64 u.vsn,.bool true])/\Below w.heap.size w w':=by
 subst hc
 exact svold_some _ svM (ptrI c) ⟨m,0,none⟩ u.vsn g w h.finds (h.old _ rfl).1.vsns
theorem Sv.purge (h:Sv w0 w s M n c o g b) (hn:n<1000) {m Mi:Nat} {u:RUnit} (hc:o=some (m,Mi,u)):Calls Tryz.prog 11 #[.pointer (some ⟨s,0,none⟩),.string svM] w fun e w'=>e= .returned (.int .i64 0)/\Sv w0 w' s M (n+1) c none g true:=by
 subst hc
 obtain⟨T,h1,h2,h3⟩:=h.srv
 refine(svpurge_some s M n T svM (ptrI c) ⟨m,0,none⟩ g w h1 h.few svM_len h2).mono ?_
 rintro e w' ⟨rfl,q1,q2⟩
 refine⟨rfl,h.low.grown q2 h.low.size (fun q e=>by have:=Option.some.inj e;have:=h.base;omega),h.base,by omega,⟨_,q1,?_,?_⟩,h.cur.grown q2,fun x hx=>by cases hx⟩
 ·rw [putO_same];rfl
 ·rw [putO_same];rfl
theorem Sv.purgeNo (h:Sv w0 w s M n c o g b) (hc:o=none):Calls Tryz.prog 11 #[.pointer (some ⟨s,0,none⟩),.string svM] w fun e w'=>e= .returned (.int .i64 4)/\Below w.heap.size w w':=by
 subst hc
 obtain⟨T,h1,h2,h3⟩:=h.srv
 exact svpurge_none s M n T svM (ptrI c) g w h1 svM_len h2
theorem Sv.notV (h:Sv w0 w s M n c o g b) {v:Int} (hc: ∀x,c=some x->x.2.2.vsn≠v) (ho: ∀x,o=some x->x.2.2.vsn≠v):NotV (ptrI c) v w/\NotV (ptrI o) v w:=by
 constructor
 ·intro a ha
  cases c with
  |none=>cases ha
  |some x=>obtain rfl:⟨x.1,0,none⟩=a:=Option.some.inj ha;exact⟨_,(h.cur _ rfl).1.vsns,hc _ rfl⟩
 ·intro a ha
  cases o with
  |none=>cases ha
  |some x=>obtain rfl:⟨x.1,0,none⟩=a:=Option.some.inj ha;exact⟨_,(h.old _ rfl).1.vsns,ho _ rfl⟩
theorem Sv.version (h:Sv w0 w s M n c o g b) {v:Int} (hc: ∀x,c=some x->x.2.2.vsn≠v) (ho: ∀x,o=some x->x.2.2.vsn≠v):
  Calls Tryz.prog 12 #[.pointer (some ⟨s,0,none⟩),.string svM,.int .i64 v] w fun e w'=>e= .returned (.tuple #[.pointer none,.bool false])/\Below w.heap.size w w':=
 svversion_no _ svM (ptrI c) (ptrI o) g v w h.finds (h.notV hc ho).1 (h.notV hc ho).2
theorem Sv.funArg (h:Sv w0 w s M n c o g b) (k i gn ar bt:Int) (nm fn by':ByteArray) (so:zzA) (sn sc:Nat) (hk:k≠4):
  Calls Tryz.prog 13 #[.pointer (some ⟨s,0,none⟩),.agg #[.int .i64 k,.int .i64 i,.int .i64 gn,.string nm,.string fn,.int .i64 ar,.slice so sn sc,.string by',.int .i64 bt]] w fun e w'=>e= .returned (.tuple #[.pointer none,.int .i64 0,.int .i64 2])/\Below w.heap.size w w':=by
 obtain⟨T,h1,h2,h3⟩:=h.srv
 exact svfun_kind s M n T k i gn ar bt nm fn by' so sn sc w h1 hk
def closT:Tm:=.mk 4 0 2 svM ⟨#[]⟩ 0 [] ⟨#[]⟩ 0
theorem Sv.funNo (h:Sv w0 w s M n c o g b) {x y:Im} (hc:c=some x) (ho:o=some y) (h1:x.2.2.vsn≠2) (h2:y.2.2.vsn≠2):
  Calls Tryz.prog 13 #[.pointer (some ⟨s,0,none⟩),.agg #[.int .i64 4,.int .i64 0,.int .i64 2,.string svM,.string ⟨#[]⟩,.int .i64 0,.slice none 0 0,.string ⟨#[]⟩,.int .i64 0]] w fun e w'=>e= .returned (.tuple #[.pointer none,.int .i64 0,.int .i64 4])/\Below w.heap.size w w':=by
 obtain⟨T,q1,q2,q3⟩:=h.srv
 have hv:=h.notV (v:=2) (fun z hz=>by rw [hc]at hz;obtain rfl:=Option.some.inj hz;exact h1) (fun z hz=>by rw [ho]at hz;obtain rfl:=Option.some.inj hz;exact h2)
 exact svfun_none s M n T 1 closT none 0 (ptrI c) (ptrI o) g w q1 rfl (by kernel_rfl) (.inl rfl) ⟨small64 rfl,small64 rfl,small64 rfl,by show(1:Nat)<=_;decide,Nat.zero_le _,small64 rfl,Nat.zero_le _,Nat.zero_le _,small64 rfl⟩ (by show((300+0+0:Nat):Int)<=_;decide) h.finds hv.1 hv.2
theorem Sv.new (w:World):Calls Tryz.prog 5 #[] w fun e w'=>e= .returned (.pointer (some ⟨w.heap.size+1,0,none⟩))/\Sv w w' (w.heap.size+1) w.heap.size 0 none none 0 false:=by
 refine(svnew_any w).mono ?_
 rintro e w' ⟨rfl,h1,h2⟩
 exact⟨rfl,h2,Nat.le_refl _,by omega,⟨_,h1,rfl,rfl⟩,fun x hx=>(by cases hx),fun x hx=>by cases hx⟩
end
theorem svawake_any (w:World) (hrows:RowsAt w) (hsp:SpaceAt w):Calls Tryz.prog 14 #[] w fun e w'=>e= .returned (.bool true)/\Below w.heap.size w w':=by
 have HR:=Lib.hid hrows;have HP:=Lib.hid hsp
 clear hrows hsp
 go_in
 go_upto_region 2 with(first|(go_at_call 5;refine(Sv.new w).mono ?_;rintro e w1 ⟨rfl,hs1⟩)|fail)
 have H1:=Lib.hid hs1;clear hs1
 generalize hM:w.heap.size=M at *
 generalize hS:M+1=S at *
 clear hS
 go_upto_region 3 with(first|(go_at_call 7;refine(svunit_any svM svF 1 _ svM_len (by unfold maxLen;decide) (by unfold I64;omega)).mono ?_;rintro e wu ⟨⟨lo,lc,fo,fc,co,cc,rfl,hup,hsl⟩,hb⟩)|(go_at_call 6;refine((H1.out.below hb).loadOk (by decide) svw1 HR.out HP.out hup hsl (by decide) rfl).mono ?_;rintro e w2 ⟨rfl,m2,Mi2,hs2⟩)|fail)
 have H2:=Lib.hid hs2
 clear hs2 hup hsl hb H1
 go_upto_region 4 with(first|(go_at_call 7;refine(svunit_any svM svG 2 _ svM_len (by unfold maxLen;decide) (by unfold I64;omega)).mono ?_;rintro e wu ⟨⟨lo,lc,fo,fc,co,cc,rfl,hup,hsl⟩,hb⟩)|(go_at_call 6;refine((H2.out.below hb).loadOk (by decide) svw2 HR.out HP.out hup hsl (by decide) rfl).mono ?_;rintro e w3 ⟨rfl,m3,Mi3,hs3⟩)|fail)
 have H3:=Lib.hid hs3
 clear hs3 hup hsl hb H2
 go_upto_region 5 with(first|(go_at_call 8;refine(H3.out.find rfl svG (by unfold maxLen;decide) (some 0) (by kernel_rfl)).mono ?_;rintro e w4 ⟨rfl,hb⟩)|fail)
 have H4:=Lib.hid (H3.out.below hb)
 clear hb H3
 go_upto_region 6 with(first|(go_at_call 10;refine(H4.out.oldIs rfl).mono ?_;rintro e w5 ⟨rfl,hb⟩)|fail)
 have H5:=Lib.hid (H4.out.below hb)
 clear hb H4
 have hv:=H5.out.vsn rfl
 have hp:=H5.out.purge (by decide) rfl
 have HV:=Lib.hid hv;have HPU:=Lib.hid hp
 clear hv hp
 go_wp2_with (first|(go_at_call 9;refine HV.out.mono ?_;rintro e w8 ⟨rfl,e8⟩;subst e8)|(go_at_call 11;refine HPU.out.mono ?_;rintro e w9 ⟨rfl,hs9⟩)|fail)
 go_ret
 exact⟨rfl,hs9.low⟩
end Go.Proofs.YtponljdhfoipjaaGreatDoor
