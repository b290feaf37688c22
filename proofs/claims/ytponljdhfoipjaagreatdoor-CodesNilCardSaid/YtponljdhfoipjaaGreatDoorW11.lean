import Derived.Test.YtponljdhfoipjaaGreatDoorW06
import Derived.Test.YtponljdhfoipjaaGreatDoorW07
namespace Go.Proofs.YtponljdhfoipjaaGreatDoor
open Go.RowKit
set_option linter.unusedVariables false
set_option linter.unusedSimpArgs false
set_option maxRecDepth 100000
set_option maxHeartbeats 0
theorem vback_any (E U mb p k:Nat) (at':Int) (u:RUnit) (lo fo go co:zzA) (lc fc gc cc mc:Nat) (s:VSt) (M:Nat->Option VM) (cs:Array Value) (g:Nat->Nat) (w:World) (hx:VCx w E U mb at' u lo fo go co lc fc gc cc mc) (hm:MeetAt w mb u.code.length M cs g) (hs:StAt w p s) (ls:VLen s) (hk:k<u.code.length) (hv: ∀m,M k=some m->VLen m.st):
  Calls Tryz.prog 138 #[.pointer (some ⟨E,0,none⟩),.pointer (some ⟨p,0,none⟩),.int .i64 k] w fun e w'=>e= .returned (.int .i64 (if backB (stM M k) s=true then 184 else 0))/\ ∃n,w'=w.drewN n:=by
 obtain⟨pv,av,wv,f0,f1,f2,h1⟩:=hm.one k hk
 have e1:=hx.e1
 have q0:w.cell? ⟨mb,k*3,none⟩=some pv:=by rw [cell_of_row _ _ _ _ _ _ hm.row];exact f0
 obtain⟨xo,xc,yo,yc,to',tc,c0,c1,c2,c3,c4,c5,c6,hL⟩:=hs.cells
 have hT:=Lib.hid hL.t
 have l1:=ls.t
 have hkz:(0:Int)<=(k:Int):=by omega
 have hkl:(k:Int)<(u.code.length:Int):=by omega
 have hmk:M k=M k:=rfl
 revert hmk
 generalize hMk:M k=mo at h1
 intro _
 have hv':=fun m h=>hv m (hMk.trans h)
 have hR:backB (stM M k) s=backB (mo.map VM.st) s:=by unfold stM;rw [hMk]
 rw [hR]
 obtain⟨V,hV⟩: ∃V:Int,V=(if backB (mo.map VM.st) s=true then 184 else 0):=⟨_,rfl⟩
 rw [<-hV]
 have HV:=Lib.hid hV
 clear hV
 clear c1 c2 c4 c5 hm hx hs ls f0 f1 f2 hL hv hMk hR
 cases mo with
 |none=>
  obtain⟨rfl,-,-⟩:=h1
  have HR:Hid (V=184):=Lib.hid (by rw [HV.out];rfl)
  clear HV
  clear c0 c3 c6
  go_in
  go_wp2_with fail
  go_quiet ((first|(exact Calls.quiet_of_same (when_any _ _ _))))
  go_wp2_with fail
  go_ret
  exact⟨ret_i HR.out.symm,by first|exact⟨_,rfl⟩|(simp only [World.drewN_drewN];exact⟨_,rfl⟩)⟩
 |some m=>
  obtain⟨⟨b,rfl,hb⟩,-,-⟩:=h1
  obtain⟨xo2,xc2,yo2,yc2,to2,tc2,d0,d1,d2,d3,d4,d5,d6,hL2⟩:=hb.cells
  have hT2:=Lib.hid hL2.t
  have l2:=(hv' m rfl).t
  have E:Hid (V=if m.st.frame≠s.frame\/m.st.frm≠s.frm\/m.st.tries≠s.tries then 184 else 0):=Lib.hid (by rw [HV.out];unfold backB;simp)
  unfold ptrV at q0
  clear d1 d2 d4 d5 hL2 hb hv'
  clear HV
  generalize s.frame=a1 at *;generalize m.st.frame=a2 at *
  generalize s.frm=g1 at *;generalize m.st.frm=g2 at *
  generalize s.tries=t1 at *;generalize m.st.tries=t2 at *
  by_cases h1:a2=a1
  ·have b1:=stEq h1
   by_cases h2:g2=g1
   ·have b2:=stEq h2
    have hE: ∀wx:World,wx.heap=w.heap->Calls Tryz.prog 168 #[.slice to2 t2.length tc2,.slice to' t1.length tc] wx fun e w'=>e= .returned (.bool (decide (t2=t1)))/\ ∃q,w'=wx.drewN q:=fun wx hx=>equal_any t2 t1 to2 to' tc2 tc wx (hT2.out.heap hx) (hT.out.heap hx) l2 l1
    have HR:Hid (V=if(!decide (t2=t1))=true then 184 else 0):=Lib.hid (by rw [E.out];simp [h1,h2])
    generalize decide (t2=t1)=bb at *
    have HE:=Lib.hid hE
    clear hE h1 h2 E
    cases bb
    all_goals
     go_in
     go_wp2_with fail
     go_quiet ((first|(exact Calls.quiet_of_same (when_any _ _ _))|(refine Calls.quiet_of (HE.out _ ?_);rfl)))
     go_wp2_with fail
     all_goals
      go_ret
      exact⟨ret_i HR.out.symm,by first|exact⟨_,rfl⟩|(simp only [World.drewN_drewN];exact⟨_,rfl⟩)⟩
   ·have b2:=stNe h2
    have HR:Hid (V=184):=Lib.hid (by rw [E.out];simp [h2])
    clear h1 h2 E
    go_in
    go_wp2_with fail
    go_quiet ((first|(exact Calls.quiet_of_same (when_any _ _ _))))
    go_wp2_with fail
    go_ret
    exact⟨ret_i HR.out.symm,by first|exact⟨_,rfl⟩|(simp only [World.drewN_drewN];exact⟨_,rfl⟩)⟩
  ·have b1:=stNe h1
   have HR:Hid (V=184):=Lib.hid (by rw [E.out];simp [h1])
   clear h1 E
   go_in
   go_wp2_with fail
   go_quiet ((first|(exact Calls.quiet_of_same (when_any _ _ _))))
   go_wp2_with fail
   go_ret
   exact⟨ret_i HR.out.symm,by first|exact⟨_,rfl⟩|(simp only [World.drewN_drewN];exact⟨_,rfl⟩)⟩
theorem seg_cells {w:World} {B:Nat} {v0 v1 v2 v3 v4 v5:Value} (h:w.heap[B]?=some (.cells #[v0,v1,v2,v3,v4,v5] 127 (0,0))):
  w.cell? ⟨B,0,none⟩=some v0/\w.cell? ⟨B,1,none⟩=some v1/\w.cell? ⟨B,2,none⟩=some v2/\w.cell? ⟨B,3,none⟩=some v3/\w.cell? ⟨B,4,none⟩=some v4/\w.cell? ⟨B,5,none⟩=some v5:=by
 have hc:=fun j=>cell_of_row w B j _ _ _ h
 exact⟨hc 0,hc 1,hc 2,hc 3,hc 4,hc 5⟩
theorem lists_any (B:Nat) (u:RUnit) (lo fo go co:zzA) (lc fc gc cc:Nat) (b o:Nat) (x:RIns) (so co' go':zzA) (sc cc' gc':Nat) (f:Nat) (w:World) (hu:UBox w B u lo fo go co lc fc gc cc) (hl:u.lits.length<=9223372036854775807) (hlit:LitsOk w f lo u.lits) (hx:IBox w b o x so co' go' sc cc' gc'):
  Calls Tryz.prog 86 #[.pointer (some ⟨B,0,none⟩),.pointer (some ⟨b,o,none⟩)] w fun e w'=>e= .returned (.bool (listsB u.lits x))/\Below w.heap.size w w':=by
 refine zzK3 hu hx hlit fun HU HX HLI=>?_
 have c0:=hx.c0;have c8:=hx.c8;have c9:=hx.c9
 have rc:=hx.rcases;have rs:=hx.rsegs
 have hwi:=fun wx=>within_any (x.cases.length:Int) 1 1000 wx
 have HE:Hid (listsB u.lits x=(((!(x.op==12)||wi x.cases.length 1 1000)&&decide ((x.segs.length:Int)<=60))&&(casesB u.lits x.cases&&x.segs.all (segB u.lits.length)))):=Lib.hid rfl
 clear hu hx hlit
 go_enter Tryz.func86,Tryz.ntmps86
 go_upto_region 1 with fail
 generalize hr1:((!(x.op==12)||wi x.cases.length 1 1000)&&decide ((x.segs.length:Int)<=60))=r1 at HE
 have HR1:=Lib.hid hr1
 clear hr1
 go_cut [31] (fun s wx=> ∃n1:Bool,s= .bool n1/\Hid (n1= !r1)/\w=wx)
 case first=>
  generalize wi x.cases.length 1 1000=w1 at *
  cases t12:(x.op==12)with
  |true=>
   cases w1 with
   |false=>
    have hv:=Lib.hid (HR1.out.symm.trans (by rw [t12];rfl:_=false))
    go_wp2_with (go_at_call 116;refine(hwi _).mono ?_;rintro e w1 ⟨rfl,rfl⟩)
    go_meet
    case rel=>exact⟨_,rfl,Lib.hid (by rw [hv.out];(first|rfl|(rw [sd];rfl)|(rw [decide_eq_true s60'];rfl))),rfl⟩
   |true=>
    by_cases s60:(x.segs.length:Int)<=60
    ·have hv:=Lib.hid (HR1.out.symm.trans (by rw [t12,decide_eq_true s60];rfl:_=true))
     have sd:decide ((60:Int)<(x.segs.length:Int))=false:=decide_eq_false (by omega)
     go_wp2_with (go_at_call 116;refine(hwi _).mono ?_;rintro e w1 ⟨rfl,rfl⟩)
     go_meet
     case rel=>exact⟨_,rfl,Lib.hid (by rw [hv.out];(first|rfl|(rw [sd];rfl)|(rw [decide_eq_true s60'];rfl))),rfl⟩
    ·have hv:=Lib.hid (HR1.out.symm.trans (by rw [t12,decide_eq_false s60];rfl:_=false))
     have s60':60<(x.segs.length:Int):=by omega
     clear s60
     go_wp2_with (go_at_call 116;refine(hwi _).mono ?_;rintro e w1 ⟨rfl,rfl⟩)
     go_meet
     case rel=>exact⟨_,rfl,Lib.hid (by rw [hv.out];(first|rfl|(rw [sd];rfl)|(rw [decide_eq_true s60'];rfl))),rfl⟩
  |false=>
   by_cases s60:(x.segs.length:Int)<=60
   ·have hv:=Lib.hid (HR1.out.symm.trans (by rw [t12,decide_eq_true s60];rfl:_=true))
    have sd:decide ((60:Int)<(x.segs.length:Int))=false:=decide_eq_false (by omega)
    go_wp2_with fail
    go_meet
    case rel=>exact⟨_,rfl,Lib.hid (by rw [hv.out];(first|rfl|(rw [sd];rfl)|(rw [decide_eq_true s60'];rfl))),rfl⟩
   ·have hv:=Lib.hid (HR1.out.symm.trans (by rw [t12,decide_eq_false s60];rfl:_=false))
    have s60':60<(x.segs.length:Int):=by omega
    clear s60
    go_wp2_with fail
    go_meet
    case rel=>exact⟨_,rfl,Lib.hid (by rw [hv.out];(first|rfl|(rw [sd];rfl)|(rw [decide_eq_true s60'];rfl))),rfl⟩
 case rest=>
  obtain⟨n1,rfl,hn1,rfl⟩:=hcut
  clear HR1
  cases r1 with
  |false=>
   obtain rfl:n1=true:=hn1.out
   go_wp2_with fail
   go_ret
   exact⟨retb (by rw [HE.out];rfl),Below.refl _ _⟩
  |true=>
   obtain rfl:n1=false:=hn1.out
   have HE1:Hid (listsB u.lits x=(casesB u.lits x.cases&&x.segs.all (segB u.lits.length))):=Lib.hid (by rw [HE.out,Bool.true_and])
   clear HE hwi
   go_wp2_with fail
   go_loopw [37] (fun i wr=> ∃k:Nat,k<=x.cases.length/\i= .int .i64 k/\Hid (∀j,j<k->caseOk u.lits x.cases j=true)/\Below w.heap.size w wr) (fun i _=>x.cases.length-(intOf i).toNat)
   case atStart=>exact⟨0,Nat.zero_le _,rfl,Lib.hid (fun j h=>absurd h (Nat.not_lt_zero _)),Below.refl _ _⟩
   case round=>
    obtain⟨k,hk,rfl,HK,hBw⟩:=hrel
    rename World=>wr
    by_cases hlt:k<x.cases.length
    ·have hxr:=HX.out.below hBw
     obtain⟨b1,off1,hco,hb1,q0,q1,rl,rt⟩:=hxr.cases.case hlt
     subst hco
     have hcl:=clit_at hlt
     have HBW:=Lib.hid hBw
     have u2:=(HU.out.below hBw).c2
     have d8:=hxr.c8
     have hBlt:=(HU.out.below hBw).lt
     have hblt:=hxr.lt
     generalize x.cases[k].to=ct at *
     generalize x.cases[k].lit=cl at *
     by_cases hin:0<=cl/\cl<=(u.lits.length:Int)-1
     ·obtain⟨m,rfl⟩: ∃m:Nat,cl=(m:Int):=⟨cl.toNat,by omega⟩
      have hm:m<u.lits.length:=by omega
      have hw1:=wi_yes hin.1 hin.2
      have hwr1:=zzV u.lits.length (by omega)
      have hwc:=fun wx=>within_any (m:Int) 0 ((u.lits.length:Int)-1) wx
      have HW1:=Lib.hid hw1
      rw [hw1]at hwc
      have HLW:=Lib.hid (HLI.out.below hBw)
      obtain⟨b2,off2,ai,ci,hlo,hb2,p0,p1,p2,p3,p4,p5,p6,p7,p8,hit,hok⟩:=(HLI.out.below hBw).at'.tm hm
      have hla:=litAt_at hm
      have HCL:=Lib.hid hcl
      have HIT:=Lib.hid hit;have HOK:=Lib.hid hok
      clear hcl hw1 hin rl rt hxr hit hok
      have hcx:Below wr.heap.size wr (wr.alloc (.cells #[.int .i64 (m:Int),.int .i64 ct] 124)):=zzE _ _
      have v2:=(hcx.cell (p:=⟨B,2,none⟩) hBlt).trans u2
      have HCX:=Lib.hid hcx
      clear hcx
      go_wp2_with fail
      go_quiet ((go_at_call 116;exact Calls.quiet_of_same ((hwc _).mono fun _ _ ⟨a,b⟩=>⟨a,b.symm⟩)))
      have hbW:Below wr.heap.size wr ((wr.alloc (.cells #[.int .i64 (m:Int),.int .i64 ct] 124)).drewN nq):=below_drewN HCX.out nq
      have hbox:((wr.alloc (.cells #[.int .i64 (m:Int),.int .i64 ct] 124)).drewN nq).heap[wr.heap.size]?=some (.cells #[.int .i64 (m:Int),.int .i64 ct] 124 (0,0)):=heap_alloc_new _ _
      clear v2 HCX
      generalize(wr.alloc (.cells #[.int .i64 (m:Int),.int .i64 ct] 124)).drewN nq=W1 at *
      have hCW:wr.heap.size<W1.heap.size:=lt_of_row hbox
      have hlo2:lo=some ⟨b2,off2,none⟩:=hlo
      subst hlo2
      have v2:=(hbW.cell (p:=⟨B,2,none⟩) hBlt).trans u2
      have n0:W1.cell? ⟨wr.heap.size,0,none⟩=some (.int .i64 (m:Int)):=by rw [cell_of_row _ _ _ _ _ _ hbox];rfl
      have p0':=(hbW.cell (p:=⟨b2,off2+m*9,none⟩) hb2).trans p0
      have HBW1:=Lib.hid hbW;have HBOX:=Lib.hid hbox
      clear hbW hbox hwc
      generalize hkk:(u.lits[m]).kind=kk at p0'
      have HKK:=Lib.hid hkk
      clear hkk
      go_wp2_with fail
      go_quiet (fail)
      have hbW:Below wr.heap.size wr (W1.drewN nq):=below_drewN HBW1.out nq
      have hbox:(W1.drewN nq).heap[wr.heap.size]?=some (.cells #[.int .i64 (m:Int),.int .i64 ct] 124 (0,0)):=HBOX.out
      clear v2 n0 p0' hCW HBW1 HBOX
      generalize W1.drewN nq=W2 at *
      have HBW2:=Lib.hid hbW
      by_cases hko:kk=1\/kk=2\/kk=8
      ·have HKO:Hid (kindOk u.lits[m]=true):=Lib.hid (by unfold kindOk;rw [HKK.out];exact decide_eq_true hko)
       by_cases k0:k=0
       ·have HK2:Hid (∀j,j<k+1->caseOk u.lits x.cases j=true):=Lib.hid (fun j hj=>by
         obtain rfl:j=k:=by omega
         unfold caseOk
         rw [HCL.out,HW1.out,hla,HKO.out,decide_eq_true k0];rfl)
        have hd0:decide ((0:Int)<(k:Int))=false:=decide_eq_false (by omega)
        have hd1:decide (0<k)=false:=decide_eq_false (by omega)
        clear k0 hbW hbox
        rcases hko with rfl|rfl|rfl
        all_goals
         go_wp2_with fail
         go_quiet (fail)
         go_wp2_with fail
         go_roundw
         case rel=>exact⟨k+1,by omega,by go_num,HK2,below_drewN (HBW.out.trans (HBW2.out.mono HBW.out.size)) _⟩
         case measure=>simp [intOf];omega
       ·obtain⟨k',hk'⟩: ∃k',k=k'+1:=⟨k-1,by omega⟩
        have hlt':k'<x.cases.length:=by omega
        have hprev:=HK.out k' (by omega)
        obtain⟨b1',off1',hco',hb1',q0',q1',rl',rt'⟩:=(HX.out.below HBW.out).cases.case hlt'
        obtain⟨rfl,rfl⟩:b1=b1'/\off1=off1':=by injection hco' with h;injection h with h1 h2;exact⟨h1,h2⟩
        have hcl':=clit_at hlt'
        generalize x.cases[k'].lit=cl' at *
        generalize x.cases[k'].to=ct' at *
        unfold caseOk at hprev
        rw [hcl']at hprev
        have hpin:0<=cl'/\cl'<=(u.lits.length:Int)-1:=by
         by_cases h:0<=cl'/\cl'<=(u.lits.length:Int)-1
         ·exact h
         ·rw [wi_no h]at hprev;cases hprev
        obtain⟨m',rfl⟩: ∃m':Nat,cl'=(m':Int):=⟨cl'.toNat,by omega⟩
        have hm':m'<u.lits.length:=by omega
        rw [litAt_at hm']at hprev
        have hko':kindOk u.lits[m']=true:=by
         cases h:kindOk u.lits[m']with
         |true=>rfl
         |false=>rw [h]at hprev;simp at hprev
        obtain⟨b2',off2',ai',ci',hlo',hb2',r0,r1,r2,r3,r4,r5,r6,r7,r8,hit',hok'⟩:=HLW.out.at'.tm hm'
        obtain⟨rfl,rfl⟩:b2=b2'/\off2=off2':=by injection hlo' with h;injection h with h1 h2;exact⟨h1,h2⟩
        have hLess:=less_lits (ci:=ci') (cj:=ci) HLW.out hm' hm hko' HKO.out hit' HIT.out hok' HOK.out
        have HOKK:Hid (caseOk u.lits x.cases k=decide (cmpS u.lits[m'] u.lits[m]<0)):=Lib.hid (by
         unfold caseOk
         rw [HCL.out,HW1.out,hla,HKO.out,decide_eq_false k0,hk',Nat.add_sub_cancel,hcl',litAt_at hm']
         simp)
        have hd0:decide ((0:Int)<(k:Int))=true:=decide_eq_true (by omega)
        have hd1:decide (0<k)=true:=decide_eq_true (by omega)
        have hwk:IntKind.i64.wrap ((k:Int)-1)=(k':Int):=by rw [IntKind.wrap_i64];omega
        rw [HKK.out]at hLess p0
        have v2:=(hbW.cell (p:=⟨B,2,none⟩) hBlt).trans u2
        have v8:=(hbW.cell (p:=⟨b,o+8,none⟩) hblt).trans d8
        have n0:W2.cell? ⟨wr.heap.size,0,none⟩=some (.int .i64 (m:Int)):=by rw [cell_of_row _ _ _ _ _ _ hbox];rfl
        have q0'':=(hbW.cell (p:=⟨b1,off1+k'*2,none⟩) hb1).trans q0'
        have p0':=(hbW.cell (p:=⟨b2,off2+m*9,none⟩) hb2).trans p0
        have p1':=(hbW.cell (p:=⟨b2,off2+m*9+1,none⟩) hb2).trans p1
        have p2':=(hbW.cell (p:=⟨b2,off2+m*9+2,none⟩) hb2).trans p2
        have p3':=(hbW.cell (p:=⟨b2,off2+m*9+3,none⟩) hb2).trans p3
        have p4':=(hbW.cell (p:=⟨b2,off2+m*9+4,none⟩) hb2).trans p4
        have p5':=(hbW.cell (p:=⟨b2,off2+m*9+5,none⟩) hb2).trans p5
        have p6':=(hbW.cell (p:=⟨b2,off2+m*9+6,none⟩) hb2).trans p6
        have p7':=(hbW.cell (p:=⟨b2,off2+m*9+7,none⟩) hb2).trans p7
        have p8':=(hbW.cell (p:=⟨b2,off2+m*9+8,none⟩) hb2).trans p8
        have r0':=(hbW.cell (p:=⟨b2,off2+m'*9,none⟩) hb2).trans r0
        have r1':=(hbW.cell (p:=⟨b2,off2+m'*9+1,none⟩) hb2).trans r1
        have r2':=(hbW.cell (p:=⟨b2,off2+m'*9+2,none⟩) hb2).trans r2
        have r3':=(hbW.cell (p:=⟨b2,off2+m'*9+3,none⟩) hb2).trans r3
        have r4':=(hbW.cell (p:=⟨b2,off2+m'*9+4,none⟩) hb2).trans r4
        have r5':=(hbW.cell (p:=⟨b2,off2+m'*9+5,none⟩) hb2).trans r5
        have r6':=(hbW.cell (p:=⟨b2,off2+m'*9+6,none⟩) hb2).trans r6
        have r7':=(hbW.cell (p:=⟨b2,off2+m'*9+7,none⟩) hb2).trans r7
        have r8':=(hbW.cell (p:=⟨b2,off2+m'*9+8,none⟩) hb2).trans r8
        have hCW:wr.heap.size<W2.heap.size:=lt_of_row hbox
        have hBW:B<W2.heap.size:=Nat.lt_of_lt_of_le hBlt HBW2.out.size
        have hbW2:b<W2.heap.size:=Nat.lt_of_lt_of_le hblt HBW2.out.size
        have hb1W:b1<W2.heap.size:=Nat.lt_of_lt_of_le hb1 HBW2.out.size
        have hb2W:b2<W2.heap.size:=Nat.lt_of_lt_of_le hb2 HBW2.out.size
        have HDW:Hid (Below wr.heap.size wr W2.drew):=Lib.hid HBW2.out.drew
        have SK0:=Lib.hid (sk_of ((Below.refl W2.heap.size W2).drew))
        have SD:=Lib.hid ((Below.refl W2.heap.size W2).drew)
        clear hbW hbox q0 q1 q0' q1' p0 p1 p2 p3 p4 p5 p6 p7 p8 r0 r1 r2 r3 r4 r5 r6 r7 r8 hprev hpin hcl' hla u2 d8 hit' hok' hlo' hco' rl' rt' k0 hk'
        generalize decide (cmpS u.lits[m'] u.lits[m]<0)=q at *
        generalize u.lits[m']=t' at *
        generalize u.lits[m]=t at *
        rcases hko with rfl|rfl|rfl
        all_goals
         cases q with
         |true=>
          have HK2:Hid (∀j,j<k+1->caseOk u.lits x.cases j=true):=Lib.hid (fun j hj=>by
           rcases Nat.eq_or_lt_of_le (Nat.le_of_lt_succ hj)with h|h
           ·rw [h];exact HOKK.out
           ·exact HK.out j h)
          go_wp2_with fail
          first|go_region_held3 (fun w'=>W2.heap.size<=w'.heap.size/\ ∀b o,b<W2.heap.size->w'.cell? ⟨b,o,none⟩=W2.cell? ⟨b,o,none⟩) (first|with_reducible exact SK0.out|with_reducible exact HK5.out)
           ((go_at_call 121;refine(hLess _ HDW.out).mono ?_;rintro e w5 ⟨rfl,hb5⟩;have HK5:=Lib.hid (sk_of (below_next SD.out hb5));have HB5:=Lib.hid (below_next HDW.out hb5)))|fail
          go_wp2_with fail
          go_roundw
          case rel=>exact⟨k+1,by omega,by go_num,HK2,HBW.out.trans (HB5.out.mono HBW.out.size)⟩
          case measure=>simp [intOf];omega
         |false=>
          have E:Hid (listsB u.lits x=false):=Lib.hid (by rw [HE1.out,casesB_no hlt HOKK.out];rfl)
          go_wp2_with fail
          first|go_region_held3 (fun w'=>W2.heap.size<=w'.heap.size/\ ∀b o,b<W2.heap.size->w'.cell? ⟨b,o,none⟩=W2.cell? ⟨b,o,none⟩) (first|with_reducible exact SK0.out|with_reducible exact HK5.out)
           ((go_at_call 121;refine(hLess _ HDW.out).mono ?_;rintro e w5 ⟨rfl,hb5⟩;have HK5:=Lib.hid (sk_of (below_next SD.out hb5));have HB5:=Lib.hid (below_next HDW.out hb5)))|fail
          go_wp2_with fail
          go_ret
          exact⟨retb E.out.symm,HBW.out.trans (HB5.out.mono HBW.out.size)⟩
      ·have E:Hid (listsB u.lits x=false):=Lib.hid (by
        rw [HE1.out,casesB_no hlt (by
         unfold caseOk kindOk
         rw [HCL.out,HW1.out,hla,HKK.out,decide_eq_false hko];rfl)];rfl)
       have t1:(kk==1)=false:=beq_eq_false_iff_ne.2 (fun h=>hko (.inl h))
       have t2:(kk==2)=false:=beq_eq_false_iff_ne.2 (fun h=>hko (.inr (.inl h)))
       have t8:(kk==8)=false:=beq_eq_false_iff_ne.2 (fun h=>hko (.inr (.inr h)))
       clear hko hbW hbox
       go_wp2_with fail
       go_ret
       exact⟨retb E.out.symm,HBW.out.trans (HBW2.out.mono HBW.out.size)⟩
     ·have E:Hid (listsB u.lits x=false):=Lib.hid (by rw [HE1.out,casesB_no hlt (by unfold caseOk;rw [hcl,wi_no hin];rfl)];rfl)
      have hw0:=wi_no hin
      have hwr1:=zzV u.lits.length (by omega)
      have hwc:=fun wx=>within_any cl 0 ((u.lits.length:Int)-1) wx
      rw [hw0]at hwc
      clear hcl hw0 hin rl rt hxr
      have hcx:Below wr.heap.size wr (wr.alloc (.cells #[.int .i64 cl,.int .i64 ct] 124)):=zzE _ _
      have v2:=(hcx.cell (p:=⟨B,2,none⟩) hBlt).trans u2
      have HCX:=Lib.hid (hBw.trans (hcx.mono hBw.size))
      clear hcx
      go_wp2_with fail
      go_quiet ((go_at_call 116;exact Calls.quiet_of_same ((hwc _).mono fun _ _ ⟨a,b⟩=>⟨a,b.symm⟩)))
      go_wp2_with fail
      go_ret
      exact⟨retb E.out.symm,below_drewN HCX.out _⟩
    ·have HC1:Hid (casesB u.lits x.cases=true):=Lib.hid (casesB_yes (fun j hj=>HK.out j (by omega)))
     have HE2:Hid (listsB u.lits x=x.segs.all (segB u.lits.length)):=Lib.hid (by rw [HE1.out,HC1.out,Bool.true_and])
     have hxr:=HX.out.below hBw
     have d9:=hxr.c9
     have HBW:=Lib.hid hBw
     have HI:Hid (x.segs.all (segB u.lits.length)=(x.segs.drop 0).all (segB u.lits.length)):=Lib.hid rfl
     clear hxr HK
     obtain⟨wo,rfl⟩: ∃wo:World,wo=wr:=⟨_,rfl⟩
     go_wp2_with fail
     go_loopw [100] (fun i wq=> ∃k:Nat,k<=x.segs.length/\i= .int .i64 k/\Hid (x.segs.all (segB u.lits.length)=(x.segs.drop k).all (segB u.lits.length))/\Below w.heap.size w wq) (fun i _=>x.segs.length-(intOf i).toNat)
     case atStart=>exact⟨0,Nat.zero_le _,rfl,HI,HBW.out⟩
     case round=>
      obtain⟨k,hk,rfl,HK,hBq⟩:=hrel
      rename World=>wr
      by_cases hlt:k<x.segs.length
      ·have hxr:=HX.out.below hBq
       obtain⟨b1,off1,hgo,hb1,s0,s1,s2,s3,s4,s5,t0,t1,t2,t3,t4⟩:=hxr.segs.seg hlt
       subst hgo
       have HST:Hid ((x.segs.drop k).all (segB u.lits.length)=(segB u.lits.length x.segs[k]&&(x.segs.drop (k+1)).all (segB u.lits.length))):=Lib.hid (by rw [List.drop_eq_getElem_cons hlt,List.all_cons])
       have HUW:=HU.out.below hBq
       have hu0:=HUW
       have HBQ:=Lib.hid hBq
       have hop1:=fun wx (hx:Below wr.heap.size wr wx)=>operand_any B u lo fo go co lc fc gc cc x.segs[k].val wx (hu0.below hx) hl ⟨t1,t2⟩
       have hop2:=fun wx (hx:Below wr.heap.size wr wx)=>operand_any B u lo fo go co lc fc gc cc x.segs[k].size wx (hu0.below hx) hl ⟨t3,t4⟩
       have HSB:Hid (segB u.lits.length x.segs[k]=(wi x.segs[k].type 1 3&&(opdB u.lits.length x.segs[k].val&&(((decide (x.segs[k].size.kind=0)&&decide (x.segs[k].size.n=0))||opdB u.lits.length x.segs[k].size)&&(!x.segs[k].little||x.segs[k].type==1))))):=Lib.hid rfl
       have hwt:=fun wx=>within_any x.segs[k].type 1 3 wx
       generalize segB u.lits.length x.segs[k]=sb at *
       generalize opdB u.lits.length x.segs[k].val=ov at *
       generalize opdB u.lits.length x.segs[k].size=os at *
       generalize wi x.segs[k].type 1 3=wt at *
       generalize x.segs[k]=g at *
       obtain⟨ty,⟨vk,vn⟩,⟨sk,sn⟩,lit⟩:=g
       simp only at *
       have hbx:Below wr.heap.size wr (wr.alloc (.cells #[.int .i64 ty,.int .i64 vk,.int .i64 vn,.int .i64 sk,.int .i64 sn,.bool lit] 127)):=zzE _ _
       have hbr:=heap_alloc_new wr (.cells #[.int .i64 ty,.int .i64 vk,.int .i64 vn,.int .i64 sk,.int .i64 sn,.bool lit] 127)
       have HBX:=Lib.hid hbx;have HBR:=Lib.hid hbr
       clear hbx hbr t0 t1 t2 t3 t4 hxr HUW hu0 hBq
       cases wt with
       |false=>
        cases sk0:(sk==0)with
        |false=>
         have hz:(decide (sk=0)&&decide (sn=0))=false:=by rw [decide_eq_false (by simpa using sk0)];rfl
         rw [hz]at HSB
         clear hz
         have hsv0:sb=false:=by rw [HSB.out];simp []
         have HSV:=Lib.hid hsv0
         clear hsv0
         go_wp2_with (go_at_call 116;refine(hwt _).mono ?_;rintro e w1 ⟨rfl,rfl⟩)
         have HE3:Hid (listsB u.lits x=false):=Lib.hid (by rw [HE2.out,HK.out,HST.out,HSV.out];rfl)
         go_ret
         exact⟨retb HE3.out.symm,HBQ.out.trans (HBX.out.mono HBQ.out.size)⟩
        |true=>
         cases sn0:(sn==0)with
         |false=>
          have hz:(decide (sk=0)&&decide (sn=0))=false:=by rw [decide_eq_false (p:=sn=0) (by simpa using sn0)];exact Bool.and_false _
          rw [hz]at HSB
          clear hz
          have hsv0:sb=false:=by rw [HSB.out];simp []
          have HSV:=Lib.hid hsv0
          clear hsv0
          go_wp2_with (go_at_call 116;refine(hwt _).mono ?_;rintro e w1 ⟨rfl,rfl⟩)
          have HE3:Hid (listsB u.lits x=false):=Lib.hid (by rw [HE2.out,HK.out,HST.out,HSV.out];rfl)
          go_ret
          exact⟨retb HE3.out.symm,HBQ.out.trans (HBX.out.mono HBQ.out.size)⟩
         |true=>
          have hz:(decide (sk=0)&&decide (sn=0))=true:=by rw [decide_eq_true (by simpa using sk0),decide_eq_true (by simpa using sn0)];rfl
          rw [hz]at HSB
          clear hz
          have hsv0:sb=false:=by rw [HSB.out];simp []
          have HSV:=Lib.hid hsv0
          clear hsv0
          go_wp2_with (go_at_call 116;refine(hwt _).mono ?_;rintro e w1 ⟨rfl,rfl⟩)
          have HE3:Hid (listsB u.lits x=false):=Lib.hid (by rw [HE2.out,HK.out,HST.out,HSV.out];rfl)
          go_ret
          exact⟨retb HE3.out.symm,HBQ.out.trans (HBX.out.mono HBQ.out.size)⟩
       |true=>
        cases ov with
        |false=>
         cases sk0:(sk==0)with
         |false=>
          have hz:(decide (sk=0)&&decide (sn=0))=false:=by rw [decide_eq_false (by simpa using sk0)];rfl
          rw [hz]at HSB
          clear hz
          have hsv0:sb=false:=by rw [HSB.out];simp []
          have HSV:=Lib.hid hsv0
          clear hsv0
          go_wp2_with (go_at_call 116;refine(hwt _).mono ?_;rintro e w1 ⟨rfl,rfl⟩)
          refine(hop1 _ HBX.out).mono ?_
          rintro e w5 ⟨rfl,hb5⟩
          have HB5:=Lib.hid (below_next HBX.out hb5)
          have hbra:=(hb5.block wr.heap.size (lt_of_row HBR.out)).trans HBR.out
          obtain⟨g0,g1,g2,g3,g4,g5⟩:=seg_cells hbra
          clear hb5
          have HE3:Hid (listsB u.lits x=false):=Lib.hid (by rw [HE2.out,HK.out,HST.out,HSV.out];rfl)
          go_wp2_with fail
          go_ret
          exact⟨retb HE3.out.symm,HBQ.out.trans (HB5.out.mono HBQ.out.size)⟩
         |true=>
          cases sn0:(sn==0)with
          |false=>
           have hz:(decide (sk=0)&&decide (sn=0))=false:=by rw [decide_eq_false (p:=sn=0) (by simpa using sn0)];exact Bool.and_false _
           rw [hz]at HSB
           clear hz
           have hsv0:sb=false:=by rw [HSB.out];simp []
           have HSV:=Lib.hid hsv0
           clear hsv0
           go_wp2_with (go_at_call 116;refine(hwt _).mono ?_;rintro e w1 ⟨rfl,rfl⟩)
           refine(hop1 _ HBX.out).mono ?_
           rintro e w5 ⟨rfl,hb5⟩
           have HB5:=Lib.hid (below_next HBX.out hb5)
           have hbra:=(hb5.block wr.heap.size (lt_of_row HBR.out)).trans HBR.out
           obtain⟨g0,g1,g2,g3,g4,g5⟩:=seg_cells hbra
           clear hb5
           have HE3:Hid (listsB u.lits x=false):=Lib.hid (by rw [HE2.out,HK.out,HST.out,HSV.out];rfl)
           go_wp2_with fail
           go_ret
           exact⟨retb HE3.out.symm,HBQ.out.trans (HB5.out.mono HBQ.out.size)⟩
          |true=>
           have hz:(decide (sk=0)&&decide (sn=0))=true:=by rw [decide_eq_true (by simpa using sk0),decide_eq_true (by simpa using sn0)];rfl
           rw [hz]at HSB
           clear hz
           have hsv0:sb=false:=by rw [HSB.out];simp []
           have HSV:=Lib.hid hsv0
           clear hsv0
           go_wp2_with (go_at_call 116;refine(hwt _).mono ?_;rintro e w1 ⟨rfl,rfl⟩)
           refine(hop1 _ HBX.out).mono ?_
           rintro e w5 ⟨rfl,hb5⟩
           have HB5:=Lib.hid (below_next HBX.out hb5)
           have hbra:=(hb5.block wr.heap.size (lt_of_row HBR.out)).trans HBR.out
           obtain⟨g0,g1,g2,g3,g4,g5⟩:=seg_cells hbra
           clear hb5
           have HE3:Hid (listsB u.lits x=false):=Lib.hid (by rw [HE2.out,HK.out,HST.out,HSV.out];rfl)
           go_wp2_with fail
           go_ret
           exact⟨retb HE3.out.symm,HBQ.out.trans (HB5.out.mono HBQ.out.size)⟩
        |true=>
         cases sk0:(sk==0)with
         |false=>
          have hz:(decide (sk=0)&&decide (sn=0))=false:=by rw [decide_eq_false (by simpa using sk0)];rfl
          rw [hz]at HSB
          clear hz
          cases os with
          |false=>
           have hsv0:sb=false:=by rw [HSB.out];simp []
           have HSV:=Lib.hid hsv0
           clear hsv0
           go_wp2_with (go_at_call 116;refine(hwt _).mono ?_;rintro e w1 ⟨rfl,rfl⟩)
           refine(hop1 _ HBX.out).mono ?_
           rintro e w5 ⟨rfl,hb5⟩
           have HB5:=Lib.hid (below_next HBX.out hb5)
           have hbra:=(hb5.block wr.heap.size (lt_of_row HBR.out)).trans HBR.out
           obtain⟨g0,g1,g2,g3,g4,g5⟩:=seg_cells hbra
           clear hb5
           go_wp2_with fail
           refine(hop2 _ HB5.out).mono ?_
           rintro e w6 ⟨rfl,hb6⟩
           have HB6:=Lib.hid (below_next HB5.out hb6)
           clear g0 g1 g2 g3 g4 g5
           have hbrb:=(hb6.block wr.heap.size (lt_of_row hbra)).trans hbra
           obtain⟨g0,g1,g2,g3,g4,g5⟩:=seg_cells hbrb
           clear hb6
           have HE3:Hid (listsB u.lits x=false):=Lib.hid (by rw [HE2.out,HK.out,HST.out,HSV.out];rfl)
           go_wp2_with fail
           go_ret
           exact⟨retb HE3.out.symm,HBQ.out.trans (HB6.out.mono HBQ.out.size)⟩
          |true=>
           go_wp2_with (go_at_call 116;refine(hwt _).mono ?_;rintro e w1 ⟨rfl,rfl⟩)
           refine(hop1 _ HBX.out).mono ?_
           rintro e w5 ⟨rfl,hb5⟩
           have HB5:=Lib.hid (below_next HBX.out hb5)
           have hbra:=(hb5.block wr.heap.size (lt_of_row HBR.out)).trans HBR.out
           obtain⟨g0,g1,g2,g3,g4,g5⟩:=seg_cells hbra
           clear hb5
           go_wp2_with fail
           refine(hop2 _ HB5.out).mono ?_
           rintro e w6 ⟨rfl,hb6⟩
           have HB6:=Lib.hid (below_next HB5.out hb6)
           clear g0 g1 g2 g3 g4 g5
           have hbrb:=(hb6.block wr.heap.size (lt_of_row hbra)).trans hbra
           obtain⟨g0,g1,g2,g3,g4,g5⟩:=seg_cells hbrb
           clear hb6
           cases lit with
           |false=>
            have hsv0:sb=true:=by rw [HSB.out];simp []
            have HSV:=Lib.hid hsv0
            clear hsv0
            have HK2:Hid (x.segs.all (segB u.lits.length)=(x.segs.drop (k+1)).all (segB u.lits.length)):=Lib.hid (by rw [HK.out,HST.out,HSV.out];rfl)
            go_wp2_with fail
            go_roundw
            case rel=>exact⟨k+1,by omega,by go_num,HK2,HBQ.out.trans (HB6.out.mono HBQ.out.size)⟩
            case measure=>simp [intOf];omega
           |true=>
            cases ty1:(ty==1)with
            |true=>
             have ty2 : (ty != 1) = false := by unfold bne; rw [ty1]; rfl
             have hsv0:sb=true:=by rw [HSB.out];simp [ty1]
             have HSV:=Lib.hid hsv0
             clear hsv0
             have HK2:Hid (x.segs.all (segB u.lits.length)=(x.segs.drop (k+1)).all (segB u.lits.length)):=Lib.hid (by rw [HK.out,HST.out,HSV.out];rfl)
             go_wp2_with fail
             go_roundw
             case rel=>exact⟨k+1,by omega,by go_num,HK2,HBQ.out.trans (HB6.out.mono HBQ.out.size)⟩
             case measure=>simp [intOf];omega
            |false=>
             have ty2 : (ty != 1) = true := by unfold bne; rw [ty1]; rfl
             have hsv0:sb=false:=by rw [HSB.out];simp [ty1]
             have HSV:=Lib.hid hsv0
             clear hsv0
             have HE3:Hid (listsB u.lits x=false):=Lib.hid (by rw [HE2.out,HK.out,HST.out,HSV.out];rfl)
             go_wp2_with fail
             go_ret
             exact⟨retb HE3.out.symm,HBQ.out.trans (HB6.out.mono HBQ.out.size)⟩
         |true=>
          cases sn0:(sn==0)with
          |false=>
           have hz:(decide (sk=0)&&decide (sn=0))=false:=by rw [decide_eq_false (p:=sn=0) (by simpa using sn0)];exact Bool.and_false _
           rw [hz]at HSB
           clear hz
           cases os with
           |false=>
            have hsv0:sb=false:=by rw [HSB.out];simp []
            have HSV:=Lib.hid hsv0
            clear hsv0
            go_wp2_with (go_at_call 116;refine(hwt _).mono ?_;rintro e w1 ⟨rfl,rfl⟩)
            refine(hop1 _ HBX.out).mono ?_
            rintro e w5 ⟨rfl,hb5⟩
            have HB5:=Lib.hid (below_next HBX.out hb5)
            have hbra:=(hb5.block wr.heap.size (lt_of_row HBR.out)).trans HBR.out
            obtain⟨g0,g1,g2,g3,g4,g5⟩:=seg_cells hbra
            clear hb5
            go_wp2_with fail
            refine(hop2 _ HB5.out).mono ?_
            rintro e w6 ⟨rfl,hb6⟩
            have HB6:=Lib.hid (below_next HB5.out hb6)
            clear g0 g1 g2 g3 g4 g5
            have hbrb:=(hb6.block wr.heap.size (lt_of_row hbra)).trans hbra
            obtain⟨g0,g1,g2,g3,g4,g5⟩:=seg_cells hbrb
            clear hb6
            have HE3:Hid (listsB u.lits x=false):=Lib.hid (by rw [HE2.out,HK.out,HST.out,HSV.out];rfl)
            go_wp2_with fail
            go_ret
            exact⟨retb HE3.out.symm,HBQ.out.trans (HB6.out.mono HBQ.out.size)⟩
           |true=>
            go_wp2_with (go_at_call 116;refine(hwt _).mono ?_;rintro e w1 ⟨rfl,rfl⟩)
            refine(hop1 _ HBX.out).mono ?_
            rintro e w5 ⟨rfl,hb5⟩
            have HB5:=Lib.hid (below_next HBX.out hb5)
            have hbra:=(hb5.block wr.heap.size (lt_of_row HBR.out)).trans HBR.out
            obtain⟨g0,g1,g2,g3,g4,g5⟩:=seg_cells hbra
            clear hb5
            go_wp2_with fail
            refine(hop2 _ HB5.out).mono ?_
            rintro e w6 ⟨rfl,hb6⟩
            have HB6:=Lib.hid (below_next HB5.out hb6)
            clear g0 g1 g2 g3 g4 g5
            have hbrb:=(hb6.block wr.heap.size (lt_of_row hbra)).trans hbra
            obtain⟨g0,g1,g2,g3,g4,g5⟩:=seg_cells hbrb
            clear hb6
            cases lit with
            |false=>
             have hsv0:sb=true:=by rw [HSB.out];simp []
             have HSV:=Lib.hid hsv0
             clear hsv0
             have HK2:Hid (x.segs.all (segB u.lits.length)=(x.segs.drop (k+1)).all (segB u.lits.length)):=Lib.hid (by rw [HK.out,HST.out,HSV.out];rfl)
             go_wp2_with fail
             go_roundw
             case rel=>exact⟨k+1,by omega,by go_num,HK2,HBQ.out.trans (HB6.out.mono HBQ.out.size)⟩
             case measure=>simp [intOf];omega
            |true=>
             cases ty1:(ty==1)with
             |true=>
              have ty2 : (ty != 1) = false := by unfold bne; rw [ty1]; rfl
              have hsv0:sb=true:=by rw [HSB.out];simp [ty1]
              have HSV:=Lib.hid hsv0
              clear hsv0
              have HK2:Hid (x.segs.all (segB u.lits.length)=(x.segs.drop (k+1)).all (segB u.lits.length)):=Lib.hid (by rw [HK.out,HST.out,HSV.out];rfl)
              go_wp2_with fail
              go_roundw
              case rel=>exact⟨k+1,by omega,by go_num,HK2,HBQ.out.trans (HB6.out.mono HBQ.out.size)⟩
              case measure=>simp [intOf];omega
             |false=>
              have ty2 : (ty != 1) = true := by unfold bne; rw [ty1]; rfl
              have hsv0:sb=false:=by rw [HSB.out];simp [ty1]
              have HSV:=Lib.hid hsv0
              clear hsv0
              have HE3:Hid (listsB u.lits x=false):=Lib.hid (by rw [HE2.out,HK.out,HST.out,HSV.out];rfl)
              go_wp2_with fail
              go_ret
              exact⟨retb HE3.out.symm,HBQ.out.trans (HB6.out.mono HBQ.out.size)⟩
          |true=>
           have hz:(decide (sk=0)&&decide (sn=0))=true:=by rw [decide_eq_true (by simpa using sk0),decide_eq_true (by simpa using sn0)];rfl
           rw [hz]at HSB
           clear hz
           go_wp2_with (go_at_call 116;refine(hwt _).mono ?_;rintro e w1 ⟨rfl,rfl⟩)
           refine(hop1 _ HBX.out).mono ?_
           rintro e w5 ⟨rfl,hb5⟩
           have HB5:=Lib.hid (below_next HBX.out hb5)
           have hbra:=(hb5.block wr.heap.size (lt_of_row HBR.out)).trans HBR.out
           obtain⟨g0,g1,g2,g3,g4,g5⟩:=seg_cells hbra
           clear hb5
           cases lit with
           |false=>
            have hsv0:sb=true:=by rw [HSB.out];simp []
            have HSV:=Lib.hid hsv0
            clear hsv0
            have HK2:Hid (x.segs.all (segB u.lits.length)=(x.segs.drop (k+1)).all (segB u.lits.length)):=Lib.hid (by rw [HK.out,HST.out,HSV.out];rfl)
            go_wp2_with fail
            go_roundw
            case rel=>exact⟨k+1,by omega,by go_num,HK2,HBQ.out.trans (HB5.out.mono HBQ.out.size)⟩
            case measure=>simp [intOf];omega
           |true=>
            cases ty1:(ty==1)with
            |true=>
             have ty2 : (ty != 1) = false := by unfold bne; rw [ty1]; rfl
             have hsv0:sb=true:=by rw [HSB.out];simp [ty1]
             have HSV:=Lib.hid hsv0
             clear hsv0
             have HK2:Hid (x.segs.all (segB u.lits.length)=(x.segs.drop (k+1)).all (segB u.lits.length)):=Lib.hid (by rw [HK.out,HST.out,HSV.out];rfl)
             go_wp2_with fail
             go_roundw
             case rel=>exact⟨k+1,by omega,by go_num,HK2,HBQ.out.trans (HB5.out.mono HBQ.out.size)⟩
             case measure=>simp [intOf];omega
            |false=>
             have ty2 : (ty != 1) = true := by unfold bne; rw [ty1]; rfl
             have hsv0:sb=false:=by rw [HSB.out];simp [ty1]
             have HSV:=Lib.hid hsv0
             clear hsv0
             have HE3:Hid (listsB u.lits x=false):=Lib.hid (by rw [HE2.out,HK.out,HST.out,HSV.out];rfl)
             go_wp2_with fail
             go_ret
             exact⟨retb HE3.out.symm,HBQ.out.trans (HB5.out.mono HBQ.out.size)⟩
      ·have HE3:Hid (listsB u.lits x=true):=Lib.hid (by rw [HE2.out,HK.out,List.drop_eq_nil_of_le (by omega)];rfl)
       go_wp2_with fail
       go_ret
       exact⟨retb HE3.out.symm,hBq⟩
theorem vhits_any (a t k:Int) (B:Nat) (w:World) (hB:B<w.heap.size) (hk:w.cell? ⟨B,0,none⟩=some (.int .i64 k)):
  Calls Tryz.prog 137 #[.agg #[.int .i64 a,.int .i64 t],.pointer (some ⟨B,0,none⟩)] w fun e w'=>e= .returned (.bool (t==k))/\Below w.heap.size w w':=by
 have hb0:=(Below.refl w.heap.size w).alloc (Nat.le_refl _) (.cells #[.int .i64 a,.int .i64 t] 124)
 have k1:=(hb0.cell (p:=⟨B,0,none⟩) hB).trans hk
 have HB:=Lib.hid hb0
 clear hb0
 go_in
 go_wp2_with fail
 go_ret
 exact⟨rfl,HB.out⟩
def caseTo (k:Int) (c:RCase):Bool:=c.to==k
theorem vindex_any (cs:List RCase) (co:zzA) (cc:Nat) (k:Int) (B:Nat) (w:World) (hB:B<w.heap.size) (hk:w.cell? ⟨B,0,none⟩=some (.int .i64 k)) (hc:SlAt w 2 CaseR co cs) (hl:cs.length<=1000):
  Calls Tryz.prog 182 #[.slice co cs.length cc,.func (.func 137) #[] #[.pointer (some ⟨B,0,none⟩)]] w fun e w'=>(∃r:Int,e= .returned (.int .i64 r)/\Hid (decide (0<=r)=cs.any (caseTo k)))/\Below w.heap.size w w':=by
 have HC:=Lib.hid hc;have HK:=Lib.hid hk
 clear hc hk
 obtain⟨m,hm⟩: ∃m,m=cs.length:=⟨_,rfl⟩
 rw [<-hm]at hl ⊢
 have HM:=Lib.hid hm
 clear hm
 go_in
 go_wp2_with fail
 go_loopw [8] (fun iv wr=> ∃j:Nat,j<=m/\iv= .int .i64 j/\Hid (cs.any (caseTo k)=(cs.drop j).any (caseTo k))/\Hid (Below w.heap.size w wr)) (fun iv _=>m-(intOf iv).toNat)
 case atStart=>exact⟨0,Nat.zero_le _,rfl,Lib.hid (by rw [List.drop_zero]),Lib.hid (Below.refl _ _)⟩
 case round=>
  obtain⟨j,hj,rfl,HA,HF⟩:=hrel
  rename World=>wr
  by_cases hlt:j<m
  ·have hjx:j<cs.length:=by rw [<-HM.out];exact hlt
   obtain⟨cb,cf,hco,hcb,q0,q1,-,-⟩:=(HC.out.mono HF.out (fun _ _ h=>h)).case hjx
   subst hco
   have hd:(cs.drop j).any (caseTo k)=((cs[j].to==k)||(cs.drop (j+1)).any (caseTo k)):=by rw [List.drop_eq_getElem_cons hjx,List.any_cons];rfl
   have HD:=Lib.hid hd
   clear hd
   have hcal:=vhits_any cs[j].lit cs[j].to k B wr (Nat.lt_of_lt_of_le hB HF.out.size) ((HF.out.cell (p:=⟨B,0,none⟩) hB).trans HK.out)
   generalize cs[j].lit=a at *
   generalize cs[j].to=t at *
   have HCA:=Lib.hid hcal
   have hI0:(0:Int)<=(j:Int):=by omega
   have hI1:(j:Int)<(m:Int):=by omega
   clear hcal
   generalize(t==k)=b at *
   cases b with
   |true=>
    have E:Hid (decide ((0:Int)<=(j:Int))=cs.any (caseTo k)):=Lib.hid (by rw [HA.out,HD.out,decide_eq_true hI0];rfl)
    clear HA HD
    go_wp2_with fail
    refine HCA.out.mono ?_
    rintro e w1 ⟨rfl,hb1⟩
    have HB1:=Lib.hid (HF.out.trans (hb1.mono HF.out.size))
    clear hb1
    go_wp2_with fail
    go_ret
    exact⟨⟨_,rfl,E⟩,HB1.out⟩
   |false=>
    have E:Hid (cs.any (caseTo k)=(cs.drop (j+1)).any (caseTo k)):=Lib.hid (by rw [HA.out,HD.out];rfl)
    clear HA HD
    go_wp2_with fail
    refine HCA.out.mono ?_
    rintro e w1 ⟨rfl,hb1⟩
    have HB1:=Lib.hid (HF.out.trans (hb1.mono HF.out.size))
    clear hb1
    go_wp2_with fail
    go_roundw
    case rel=>exact⟨j+1,by omega,by go_num,E,HB1⟩
    case measure=>simp [intOf];omega
  ·obtain rfl:j=m:=by omega
   have E:Hid (decide ((0:Int)<= -1)=cs.any (caseTo k)):=Lib.hid (by rw [HA.out,List.drop_eq_nil_of_le (Nat.le_of_eq HM.out.symm)];rfl)
   clear HA
   go_wp2_with fail
   go_ret
   exact⟨⟨_,rfl,E⟩,HF.out⟩
theorem vcontains_any (cs:List RCase) (co:zzA) (cc:Nat) (k:Int) (B:Nat) (w:World) (hB:B<w.heap.size) (hk:w.cell? ⟨B,0,none⟩=some (.int .i64 k)) (hc:SlAt w 2 CaseR co cs) (hl:cs.length<=1000):
  Calls Tryz.prog 136 #[.slice co cs.length cc,.func (.func 137) #[] #[.pointer (some ⟨B,0,none⟩)]] w fun e w'=>e= .returned (.bool (cs.any (caseTo k)))/\Below w.heap.size w w':=by
 have H:=Lib.hid (vindex_any cs co cc k B w hB hk hc hl)
 clear hc hk hl
 generalize cs.any (caseTo k)=R at *
 go_in
 go_wp2_with fail
 refine H.out.mono ?_
 rintro e w1 ⟨⟨r,rfl,HR⟩,hb1⟩
 have HB:=Lib.hid hb1
 clear hb1 H
 go_wp2_with fail
 go_ret
 exact⟨retb HR.out,HB.out⟩
end Go.Proofs.YtponljdhfoipjaaGreatDoor
