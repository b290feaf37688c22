import Derived.Test.YtepjanajflkakaaGreatDoorW06
namespace Go.Proofs.YtepjanajflkakaaGreatDoor
open Go.RowKit
set_option linter.unusedVariables false
set_option linter.unusedSimpArgs false
set_option maxRecDepth 100000
set_option maxHeartbeats 0
theorem zcz {w:World} {B:Nat} {v0 v1 v2 v3 v4 v5:Value} (h:w.heap[B]?=some (.cells #[v0,v1,v2,v3,v4,v5] 113 (0,0))):
  w.cell? ⟨B,0,none⟩=some v0/\w.cell? ⟨B,1,none⟩=some v1/\w.cell? ⟨B,2,none⟩=some v2/\w.cell? ⟨B,3,none⟩=some v3/\w.cell? ⟨B,4,none⟩=some v4/\w.cell? ⟨B,5,none⟩=some v5:=by
 have hc:=fun j=>zzq0 w B j _ _ _ h
 exact⟨hc 0,hc 1,hc 2,hc 3,hc 4,hc 5⟩
theorem zjb (B:Nat) (u:RUnit) (lo fo go co:zzA) (lc fc gc cc:Nat) (b o:Nat) (x:RIns) (so co' go':zzA) (sc cc' gc':Nat) (f:Nat) (w:World) (hu:UBox w B u lo fo go co lc fc gc cc) (hl:u.lits.length<=9223372036854775807) (hlit:LitsOk w f lo u.lits) (hx:IBox w b o x so co' go' sc cc' gc'):
  Calls Tryz.prog 43 #[.pointer (some ⟨B,0,none⟩),.pointer (some ⟨b,o,none⟩)] w fun e w'=>e= .returned (.bool (zbF u.lits x))/\Below w.heap.size w w':=by
 refine zzK3 hu hx hlit fun HU HX HLI=>?_;have c0:=hx.c0;have c8:=hx.c8;have c9:=hx.c9;have rc:=hx.rcases;have rs:=hx.rsegs;have hwi:=fun wx=>zl (x.cases.length:Int) 1 1000 wx
 have HE:Hid (zbF u.lits x=(((!(x.op==12)||wi x.cases.length 1 1000)&&decide ((x.segs.length:Int)<=60))&&(zdi u.lits x.cases&&x.segs.all (zbU u.lits.length)))):=zzH rfl;clear hu hx hlit;go_in;go_upto_region 1 with fail;generalize hr1:((!(x.op==12)||wi x.cases.length 1 1000)&&decide ((x.segs.length:Int)<=60))=r1 at HE;have HR1:=zzH hr1;clear hr1;go_cut [31] (fun s wx=> ∃n1:Bool,s= .bool n1/\Hid (n1= !r1)/\w=wx)
 case first=>
  generalize wi x.cases.length 1 1000=w1 at *
  cases t12:(x.op==12)with
  |true=>
   cases w1 with
   |false=>
    have hv:=zzH (HR1.out.symm.trans (by rw [t12];rfl:_=false));exact zz68
   |true=>
    by_cases s60:(x.segs.length:Int)<=60
    ·have hv:=zzH (HR1.out.symm.trans (by rw [t12,decide_eq_true s60];rfl:_=true))
     have sd:decide ((60:Int)<(x.segs.length:Int))=false:=zzD (by omega);exact zz68
    ·have hv:=zzH (HR1.out.symm.trans (by rw [t12,decide_eq_false s60];rfl:_=false))
     have s60':60<(x.segs.length:Int):=by omega
     clear s60;exact zz68
  |false=>
   by_cases s60:(x.segs.length:Int)<=60
   ·have hv:=zzH (HR1.out.symm.trans (by rw [t12,decide_eq_true s60];rfl:_=true))
    have sd:decide ((60:Int)<(x.segs.length:Int))=false:=zzD (by omega);exact zz69
   ·have hv:=zzH (HR1.out.symm.trans (by rw [t12,decide_eq_false s60];rfl:_=false))
    have s60':60<(x.segs.length:Int):=by omega
    clear s60;exact zz69
 case rest=>
  obtain⟨n1,rfl,hn1,rfl⟩:=hcut;clear HR1
  cases r1 with
  |false=>
   obtain rfl:n1=true:=hn1.out;go_wp2;go_ret;exact⟨zi (by rw [HE.out];rfl),zzR _ _⟩
  |true=>
   obtain rfl:n1=false:=hn1.out;have HE1:Hid (zbF u.lits x=(zdi u.lits x.cases&&x.segs.all (zbU u.lits.length))):=zzH (by rw [HE.out,zzq11]);clear HE hwi;go_wp2_with fail;go_loopw [37] (fun i wr=> ∃k:Nat,k<=x.cases.length/\i= .int .i64 k/\Hid (∀j,j<k->zb3 u.lits x.cases j=true)/\Below w.heap.size w wr) (fun i _=>x.cases.length-(intOf i).toNat)
   case atStart=>exact⟨0,zzZ _,rfl,zzH (fun j h=>absurd h (zzC _)),zzR _ _⟩
   case round=>
    obtain⟨k,hk,rfl,HK,hBw⟩:=hrel;rename World=>wr
    by_cases hlt:k<x.cases.length
    ·have hxr:=HX.out.below hBw
     obtain⟨b1,off1,hco,hb1,q0,q1,rl,rt⟩:=hxr.cases.case hlt;subst hco;have hcl:=zhB hlt;have HBW:=zzH hBw;have u2:=(HU.out.below hBw).c2;have d8:=hxr.c8;have hBlt:=(HU.out.below hBw).lt;have hblt:=hxr.lt;generalize x.cases[k].to=ct at *;generalize x.cases[k].lit=cl at *;by_cases hin:0<=cl/\cl<=(u.lits.length:Int)-1
     ·obtain⟨m,rfl⟩: ∃m:Nat,cl=(m:Int):=⟨cl.toNat,by omega⟩
      have hm:m<u.lits.length:=by omega
      have hw1:=zeR hin.1 hin.2;have hwr1:=zzV u.lits.length (by omega)
      have hwc:=fun wx=>zl (m:Int) 0 ((u.lits.length:Int)-1) wx
      have HW1:=zzH hw1;rw [hw1]at hwc;have HLW:=zzH (HLI.out.below hBw);obtain⟨b2,off2,ai,ci,hlo,hb2,p0,p1,p2,p3,p4,p5,p6,p7,p8,hit,hok⟩:=(HLI.out.below hBw).at'.tm hm;have hla:=zeG hm;refine zzK3 hcl hit hok fun HCL HIT HOK=>?_;clear hcl hw1 hin rl rt hxr hit hok;have hcx:Below wr.heap.size wr (wr.alloc (.cells #[.int .i64 (m:Int),.int .i64 ct] 111)):=zzE _ _;have v2:=(hcx.cell (p:=⟨B,2,none⟩) hBlt).trans u2;have HCX:=zzH hcx;clear hcx;go_wp2_with fail;go_quiet ((go_at_call 71;exact zze ((hwc _).mono fun _ _ ⟨a,b⟩=>⟨a,b.symm⟩)));have hbW:Below wr.heap.size wr ((wr.alloc (.cells #[.int .i64 (m:Int),.int .i64 ct] 111)).drewN nq):=zg HCX.out nq;have hbox:((wr.alloc (.cells #[.int .i64 (m:Int),.int .i64 ct] 111)).drewN nq).heap[wr.heap.size]?=some (.cells #[.int .i64 (m:Int),.int .i64 ct] 111 (0,0)):=zzF _ _
      clear v2 HCX;generalize(wr.alloc (.cells #[.int .i64 (m:Int),.int .i64 ct] 111)).drewN nq=W1 at *;have hCW:wr.heap.size<W1.heap.size:=zb hbox;have hlo2:lo=some ⟨b2,off2,none⟩:=hlo;subst hlo2;have v2:=(hbW.cell (p:=⟨B,2,none⟩) hBlt).trans u2;have n0:W1.cell? ⟨wr.heap.size,0,none⟩=some (.int .i64 (m:Int)):=by rw [zzq0 _ _ _ _ _ _ hbox];rfl
      have p0':=(hbW.cell (p:=⟨b2,off2+m*9,none⟩) hb2).trans p0;have HBW1:=zzH hbW;have HBOX:=zzH hbox;clear hbW hbox hwc;generalize hkk:(u.lits[m]).kind=kk at p0';have HKK:=zzH hkk;clear hkk;go_wp2_with fail;go_quiet (fail);have hbW:Below wr.heap.size wr (W1.drewN nq):=zg HBW1.out nq;have hbox:(W1.drewN nq).heap[wr.heap.size]?=some (.cells #[.int .i64 (m:Int),.int .i64 ct] 111 (0,0)):=HBOX.out
      clear v2 n0 p0' hCW HBW1 HBOX;generalize W1.drewN nq=W2 at *;have HBW2:=zzH hbW;by_cases hko:kk=1\/kk=2\/kk=8
      ·have HKO:Hid (zcV u.lits[m]=true):=zzH (by unfold zcV;rw [HKK.out];exact zzT hko)
       by_cases k0:k=0
       ·have HK2:Hid (∀j,j<k+1->zb3 u.lits x.cases j=true):=zzH (fun j hj=>by
         obtain rfl:j=k:=by omega
         unfold zb3;rw [HCL.out,HW1.out,hla,HKO.out,decide_eq_true k0];rfl)
        have hd0:decide ((0:Int)<(k:Int))=false:=zzD (by omega);have hd1:decide (0<k)=false:=zzD (by omega);clear k0 hbW hbox;rcases hko with rfl|rfl|rfl
        all_goals
         go_wp2_with fail;go_quiet (fail);go_wp2_with fail;go_roundw
         case rel=>exact⟨k+1,by omega,by go_num,HK2,zg (HBW.out.trans (HBW2.out.mono HBW.out.size)) _⟩
         case measure=>simp [intOf];omega
       ·obtain⟨k',hk'⟩: ∃k',k=k'+1:=⟨k-1,by omega⟩
        have hlt':k'<x.cases.length:=by omega
        have hprev:=HK.out k' (by omega);obtain⟨b1',off1',hco',hb1',q0',q1',rl',rt'⟩:=(HX.out.below HBW.out).cases.case hlt';obtain⟨rfl,rfl⟩:b1=b1'/\off1=off1':=by injection hco' with h;injection h with h1 h2;exact⟨h1,h2⟩
        have hcl':=zhB hlt';generalize x.cases[k'].lit=cl' at *;generalize x.cases[k'].to=ct' at *;unfold zb3 at hprev;rw [hcl']at hprev
        have hpin:0<=cl'/\cl'<=(u.lits.length:Int)-1:=by
         by_cases h:0<=cl'/\cl'<=(u.lits.length:Int)-1
         ·exact h
         ·rw [zdJ h]at hprev;cases hprev
        obtain⟨m',rfl⟩: ∃m':Nat,cl'=(m':Int):=⟨cl'.toNat,by omega⟩;have hm':m'<u.lits.length:=by omega
        rw [zeG hm']at hprev
        have hko':zcV u.lits[m']=true:=by
         cases h:zcV u.lits[m']with
         |true=>rfl
         |false=>rw [h]at hprev;simp at hprev
        obtain⟨b2',off2',ai',ci',hlo',hb2',r0,r1,r2,r3,r4,r5,r6,r7,r8,hit',hok'⟩:=HLW.out.at'.tm hm';obtain⟨rfl,rfl⟩:b2=b2'/\off2=off2':=by injection hlo' with h;injection h with h1 h2;exact⟨h1,h2⟩
        have hLess:=zi9 (ci:=ci') (cj:=ci) HLW.out hm' hm hko' HKO.out hit' HIT.out hok' HOK.out
        have HOKK:Hid (zb3 u.lits x.cases k=decide (zdc u.lits[m'] u.lits[m]<0)):=zzH (by
         unfold zb3;rw [HCL.out,HW1.out,hla,HKO.out,decide_eq_false k0,hk',Nat.add_sub_cancel,hcl',zeG hm'];simp)
        have hd0:decide ((0:Int)<(k:Int))=true:=zzT (by omega);have hd1:decide (0<k)=true:=zzT (by omega);have hwk:IntKind.i64.wrap ((k:Int)-1)=(k':Int):=by rw [zzq5];omega
        rw [HKK.out]at hLess p0;have v2:=(hbW.cell (p:=⟨B,2,none⟩) hBlt).trans u2;have v8:=(hbW.cell (p:=⟨b,o+8,none⟩) hblt).trans d8;have n0:W2.cell? ⟨wr.heap.size,0,none⟩=some (.int .i64 (m:Int)):=by rw [zzq0 _ _ _ _ _ _ hbox];rfl
        have q0'':=(hbW.cell (p:=⟨b1,off1+k'*2,none⟩) hb1).trans q0';have p0':=(hbW.cell (p:=⟨b2,off2+m*9,none⟩) hb2).trans p0;have p1':=(hbW.cell (p:=⟨b2,off2+m*9+1,none⟩) hb2).trans p1;have p2':=(hbW.cell (p:=⟨b2,off2+m*9+2,none⟩) hb2).trans p2;have p3':=(hbW.cell (p:=⟨b2,off2+m*9+3,none⟩) hb2).trans p3;have p4':=(hbW.cell (p:=⟨b2,off2+m*9+4,none⟩) hb2).trans p4;have p5':=(hbW.cell (p:=⟨b2,off2+m*9+5,none⟩) hb2).trans p5;have p6':=(hbW.cell (p:=⟨b2,off2+m*9+6,none⟩) hb2).trans p6;have p7':=(hbW.cell (p:=⟨b2,off2+m*9+7,none⟩) hb2).trans p7;have p8':=(hbW.cell (p:=⟨b2,off2+m*9+8,none⟩) hb2).trans p8;have r0':=(hbW.cell (p:=⟨b2,off2+m'*9,none⟩) hb2).trans r0;have r1':=(hbW.cell (p:=⟨b2,off2+m'*9+1,none⟩) hb2).trans r1;have r2':=(hbW.cell (p:=⟨b2,off2+m'*9+2,none⟩) hb2).trans r2;have r3':=(hbW.cell (p:=⟨b2,off2+m'*9+3,none⟩) hb2).trans r3;have r4':=(hbW.cell (p:=⟨b2,off2+m'*9+4,none⟩) hb2).trans r4;have r5':=(hbW.cell (p:=⟨b2,off2+m'*9+5,none⟩) hb2).trans r5;have r6':=(hbW.cell (p:=⟨b2,off2+m'*9+6,none⟩) hb2).trans r6;have r7':=(hbW.cell (p:=⟨b2,off2+m'*9+7,none⟩) hb2).trans r7;have r8':=(hbW.cell (p:=⟨b2,off2+m'*9+8,none⟩) hb2).trans r8;have hCW:wr.heap.size<W2.heap.size:=zb hbox;have hBW:B<W2.heap.size:=zzW hBlt HBW2.out.size;have hbW2:b<W2.heap.size:=zzW hblt HBW2.out.size;have hb1W:b1<W2.heap.size:=zzW hb1 HBW2.out.size;have hb2W:b2<W2.heap.size:=zzW hb2 HBW2.out.size;have HDW:Hid (Below wr.heap.size wr W2.drew):=zzH HBW2.out.drew;have SK0:=zzH (zbf ((zzR W2.heap.size W2).drew));have SD:=zzH ((zzR W2.heap.size W2).drew);clear hbW hbox q0 q1 q0' q1' p0 p1 p2 p3 p4 p5 p6 p7 p8 r0 r1 r2 r3 r4 r5 r6 r7 r8 hprev hpin hcl' hla u2 d8 hit' hok' hlo' hco' rl' rt' k0 hk';generalize decide (zdc u.lits[m'] u.lits[m]<0)=q at *;generalize u.lits[m']=t' at *;generalize u.lits[m]=t at *;rcases hko with rfl|rfl|rfl
        all_goals
         cases q with
         |true=>
          have HK2:Hid (∀j,j<k+1->zb3 u.lits x.cases j=true):=zzH (fun j hj=>by
           rcases Nat.eq_or_lt_of_le (Nat.le_of_lt_succ hj)with h|h
           ·rw [h];exact HOKK.out
           ·exact HK.out j h)
          go_wp2_with fail
          first|go_region_held3 (fun w'=>W2.heap.size<=w'.heap.size/\ ∀b o,b<W2.heap.size->w'.cell? ⟨b,o,none⟩=W2.cell? ⟨b,o,none⟩) (first|with_reducible exact SK0.out|with_reducible exact HK5.out)
           ((go_at_call 76;refine(hLess _ HDW.out).mono ?_;rintro e w5 ⟨rfl,hb5⟩;have HK5:=zzH (zbf (zd SD.out hb5));have HB5:=zzH (zd HDW.out hb5)))|fail
          go_wp2_with fail;go_roundw
          case rel=>exact⟨k+1,by omega,by go_num,HK2,HBW.out.trans (HB5.out.mono HBW.out.size)⟩
          case measure=>simp [intOf];omega
         |false=>
          have E:Hid (zbF u.lits x=false):=zzH (by rw [HE1.out,zd3 hlt HOKK.out];rfl);go_wp2_with fail
          first|go_region_held3 (fun w'=>W2.heap.size<=w'.heap.size/\ ∀b o,b<W2.heap.size->w'.cell? ⟨b,o,none⟩=W2.cell? ⟨b,o,none⟩) (first|with_reducible exact SK0.out|with_reducible exact HK5.out)
           ((go_at_call 76;refine(hLess _ HDW.out).mono ?_;rintro e w5 ⟨rfl,hb5⟩;have HK5:=zzH (zbf (zd SD.out hb5));have HB5:=zzH (zd HDW.out hb5)))|fail
          go_wp2;go_ret;exact⟨zi E.out.symm,HBW.out.trans (HB5.out.mono HBW.out.size)⟩
      ·have E:Hid (zbF u.lits x=false):=zzH (by
        rw [HE1.out,zd3 hlt (by
         unfold zb3 zcV;rw [HCL.out,HW1.out,hla,HKK.out,decide_eq_false hko];rfl)];rfl)
       have t1:(kk==1)=false:=zzB.2 (fun h=>hko (.inl h));have t2:(kk==2)=false:=zzB.2 (fun h=>hko (.inr (.inl h)));have t8:(kk==8)=false:=zzB.2 (fun h=>hko (.inr (.inr h)));clear hko hbW hbox;go_wp2;go_ret;exact⟨zi E.out.symm,HBW.out.trans (HBW2.out.mono HBW.out.size)⟩
     ·have E:Hid (zbF u.lits x=false):=zzH (by rw [HE1.out,zd3 hlt (by unfold zb3;rw [hcl,zdJ hin];rfl)];rfl)
      have hw0:=zdJ hin;have hwr1:=zzV u.lits.length (by omega)
      have hwc:=fun wx=>zl cl 0 ((u.lits.length:Int)-1) wx
      rw [hw0]at hwc;clear hcl hw0 hin rl rt hxr;have hcx:Below wr.heap.size wr (wr.alloc (.cells #[.int .i64 cl,.int .i64 ct] 111)):=zzE _ _;have v2:=(hcx.cell (p:=⟨B,2,none⟩) hBlt).trans u2;have HCX:=zzH (hBw.trans (hcx.mono hBw.size));clear hcx;go_wp2_with fail;go_quiet ((go_at_call 71;exact zze ((hwc _).mono fun _ _ ⟨a,b⟩=>⟨a,b.symm⟩)));go_wp2;go_ret;exact⟨zi E.out.symm,zg HCX.out _⟩
    ·have HC1:Hid (zdi u.lits x.cases=true):=zzH (zh6 (fun j hj=>HK.out j (by omega)))
     have HE2:Hid (zbF u.lits x=x.segs.all (zbU u.lits.length)):=zzH (by rw [HE1.out,HC1.out,zzq11]);have hxr:=HX.out.below hBw;have d9:=hxr.c9;have HBW:=zzH hBw;have HI:Hid (x.segs.all (zbU u.lits.length)=(x.segs.drop 0).all (zbU u.lits.length)):=zzH rfl;clear hxr HK;obtain⟨wo,rfl⟩: ∃wo:World,wo=wr:=⟨_,rfl⟩;go_wp2_with fail;go_loopw [100] (fun i wq=> ∃k:Nat,k<=x.segs.length/\i= .int .i64 k/\Hid (x.segs.all (zbU u.lits.length)=(x.segs.drop k).all (zbU u.lits.length))/\Below w.heap.size w wq) (fun i _=>x.segs.length-(intOf i).toNat)
     case atStart=>exact⟨0,zzZ _,rfl,HI,HBW.out⟩
     case round=>
      obtain⟨k,hk,rfl,HK,hBq⟩:=hrel;rename World=>wr
      by_cases hlt:k<x.segs.length
      ·have hxr:=HX.out.below hBq
       obtain⟨b1,off1,hgo,hb1,s0,s1,s2,s3,s4,s5,t0,t1,t2,t3,t4⟩:=hxr.segs.seg hlt;subst hgo;have HST:Hid ((x.segs.drop k).all (zbU u.lits.length)=(zbU u.lits.length x.segs[k]&&(x.segs.drop (k+1)).all (zbU u.lits.length))):=zzH (by rw [List.drop_eq_getElem_cons hlt,List.all_cons]);have HUW:=HU.out.below hBq;have hu0:=HUW;have HBQ:=zzH hBq;have hop1:=fun wx (hx:Below wr.heap.size wr wx)=>zcM B u lo fo go co lc fc gc cc x.segs[k].val wx (hu0.below hx) hl ⟨t1,t2⟩
       have hop2:=fun wx (hx:Below wr.heap.size wr wx)=>zcM B u lo fo go co lc fc gc cc x.segs[k].size wx (hu0.below hx) hl ⟨t3,t4⟩
       have HSB:Hid (zbU u.lits.length x.segs[k]=(wi x.segs[k].type 1 3&&(zbH u.lits.length x.segs[k].val&&(((decide (x.segs[k].size.kind=0)&&decide (x.segs[k].size.n=0))||zbH u.lits.length x.segs[k].size)&&(!x.segs[k].little||x.segs[k].type==1))))):=zzH rfl;have hwt:=fun wx=>zl x.segs[k].type 1 3 wx
       generalize zbU u.lits.length x.segs[k]=sb at *;generalize zbH u.lits.length x.segs[k].val=ov at *;generalize zbH u.lits.length x.segs[k].size=os at *;generalize wi x.segs[k].type 1 3=wt at *;generalize x.segs[k]=g at *;obtain⟨ty,⟨vk,vn⟩,⟨sk,sn⟩,lit⟩:=g;simp only at *;have hbx:Below wr.heap.size wr (wr.alloc (.cells #[.int .i64 ty,.int .i64 vk,.int .i64 vn,.int .i64 sk,.int .i64 sn,.bool lit] 113)):=zzE _ _;have hbr:=zzF wr (.cells #[.int .i64 ty,.int .i64 vk,.int .i64 vn,.int .i64 sk,.int .i64 sn,.bool lit] 113);have HBX:=zzH hbx;have HBR:=zzH hbr;clear hbx hbr t0 t1 t2 t3 t4 hxr HUW hu0 hBq
       cases wt with
       |false=>
        cases sk0:(sk==0)with
        |false=>
         have hz:(decide (sk=0)&&decide (sn=0))=false:=by rw [decide_eq_false (by simpa using sk0)];rfl
         exact zz66
        |true=>
         cases sn0:(sn==0)with
         |false=>
          have hz:(decide (sk=0)&&decide (sn=0))=false:=by rw [decide_eq_false (p:=sn=0) (by simpa using sn0)];exact Bool.and_false _
          exact zz66
         |true=>
          have hz:(decide (sk=0)&&decide (sn=0))=true:=by rw [decide_eq_true (by simpa using sk0),decide_eq_true (by simpa using sn0)];rfl
          exact zz66
       |true=>
        cases ov with
        |false=>
         cases sk0:(sk==0)with
         |false=>
          have hz:(decide (sk=0)&&decide (sn=0))=false:=by rw [decide_eq_false (by simpa using sk0)];rfl
          exact zz65
         |true=>
          cases sn0:(sn==0)with
          |false=>
           have hz:(decide (sk=0)&&decide (sn=0))=false:=by rw [decide_eq_false (p:=sn=0) (by simpa using sn0)];exact Bool.and_false _
           exact zz65
          |true=>
           have hz:(decide (sk=0)&&decide (sn=0))=true:=by rw [decide_eq_true (by simpa using sk0),decide_eq_true (by simpa using sn0)];rfl
           exact zz65
        |true=>
         cases sk0:(sk==0)with
         |false=>
          have hz:(decide (sk=0)&&decide (sn=0))=false:=by rw [decide_eq_false (by simpa using sk0)];rfl
          exact zz64
         |true=>
          cases sn0:(sn==0)with
          |false=>
           have hz:(decide (sk=0)&&decide (sn=0))=false:=by rw [decide_eq_false (p:=sn=0) (by simpa using sn0)];exact Bool.and_false _
           exact zz64
          |true=>
           have hz:(decide (sk=0)&&decide (sn=0))=true:=by rw [decide_eq_true (by simpa using sk0),decide_eq_true (by simpa using sn0)];rfl
           rw [hz]at HSB;clear hz;go_wp2_with (go_at_call 71;refine(hwt _).mono ?_;rintro e w1 ⟨rfl,rfl⟩);refine(hop1 _ HBX.out).mono ?_;rintro e w5 ⟨rfl,hb5⟩;have HB5:=zzH (zd HBX.out hb5);have hbra:=(hb5.block wr.heap.size (zb HBR.out)).trans HBR.out;obtain⟨g0,g1,g2,g3,g4,g5⟩:=zcz hbra;clear hb5
           cases lit with
           |false=>
            have hsv0:sb=true:=by rw [HSB.out];simp []
            exact zz67
           |true=>
            cases ty1:(ty==1)with
            |true=>
             have ty2 : (ty != 1) = false := by unfold bne; rw [ty1]; rfl
             have hsv0:sb=true:=by rw [HSB.out];simp [ty1]
             exact zz67
            |false=>
             have ty2 : (ty != 1) = true := by unfold bne; rw [ty1]; rfl
             have hsv0:sb=false:=by rw [HSB.out];simp [ty1]
             have HSV:=zzH hsv0;clear hsv0;have HE3:Hid (zbF u.lits x=false):=zzH (by rw [HE2.out,HK.out,HST.out,HSV.out];rfl);go_wp2;go_ret;exact⟨zi HE3.out.symm,HBQ.out.trans (HB5.out.mono HBQ.out.size)⟩
      ·have HE3:Hid (zbF u.lits x=true):=zzH (by rw [HE2.out,HK.out,zzq10 (by omega)];rfl)
       go_wp2;go_ret;exact⟨zi HE3.out.symm,hBq⟩
end Go.Proofs.YtepjanajflkakaaGreatDoor
