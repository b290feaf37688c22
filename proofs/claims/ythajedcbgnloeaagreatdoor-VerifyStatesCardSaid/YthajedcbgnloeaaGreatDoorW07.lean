import Derived.Test.YthajedcbgnloeaaGreatDoorW02
import Derived.Test.YthajedcbgnloeaaGreatDoorW03
import Derived.Test.YthajedcbgnloeaaGreatDoorW04
namespace Go.Proofs.YthajedcbgnloeaaGreatDoor
open Go.RowKit
set_option linter.unusedVariables false
set_option linter.unusedSimpArgs false
set_option maxRecDepth 100000
set_option maxHeartbeats 0
open Go.RowKit Go.Maps Go.WideMaps
def zdN (last:Int) (f:RFunc):Bool:=zy f.name&&(wi f.arity 0 16&&wi f.entry 0 last)
def zck (l:List RFunc) (s:ByteArray) (a:Int):Bool:=l.any (fun f=>f.name.data.toList==s.data.toList&&f.arity==a)
def zdB (last:Int) (funcs:List RFunc):Bool:=decide (∀k,(h:k<funcs.length)->zdN last funcs[k]=true/\zck (funcs.take k) funcs[k].name funcs[k].arity=false)
def zcs (last:Int) (f:RFun):Bool:=wi f.arity 0 16&&(wi f.free 0 200&&wi f.entry 0 last)
def zfw (u:RUnit):Bool:=zy u.mdl&&(decide (1<=u.vsn)&&(decide (u.vsn<=2147483647)&&(decide (0<=(u.code.length:Int)-1)&&(decide ((u.code.length:Int)-1<524288)&&(decide (u.lits.length<=65535)&&(decide (u.funcs.length<=200)&&decide (u.funs.length<=1000)))))))
def zP (f:Nat) (u:RUnit):Bool:=zfw u&&(u.lits.all (zM f)&&(zdB ((u.code.length:Int)-1) u.funcs&&u.funs.all (zcs ((u.code.length:Int)-1))))
theorem zh5 {last:Int} {funcs:List RFunc} {k:Nat} (h:k<funcs.length) (e:zdN last funcs[k]=false\/zck (funcs.take k) funcs[k].name funcs[k].arity=true):zdB last funcs=false:=by
 unfold zdB
 exact zzD (fun hh=>by
  obtain⟨h1,h2⟩:=hh k h;rcases e with e|e
  ·rw [h1]at e;cases e
  ·rw [h2]at e;cases e)
theorem zlm {funcs:List RFunc} {k:Nat} (h:k<funcs.length) (s:ByteArray) (a:Int):zck (funcs.take (k+1)) s a=((funcs[k].name.data.toList==s.data.toList&&funcs[k].arity==a)||zck (funcs.take k) s a):=by
 unfold zck;rw [List.take_add_one,zzq3 h,List.any_append,Bool.or_comm];simp
theorem zlH (f B:Nat) (u:RUnit) (lo fo go co:zzA) (lc fc gc cc:Nat) (w:World) (hu:UBox w B u lo fo go co lc fc gc cc) (hp:UP w u lo fo go co) (hlits:SlAt w 9 (TmAt w (f+1)) lo u.lits) (hcap: ∀t∈u.lits,(zR (f+1) t:Int)<=1152921504606846976):
  Calls Tryz.prog 22 #[.pointer (some ⟨B,0,none⟩)] w fun e w'=>e= .returned (.bool (zP (f+1) u))/\Below w.heap.size w w':=by
 refine zzK4 hu hp hlits hcap fun HU HP HL HCAP=>?_;have c0:=hu.c0;have c5:=hu.c5;have hnm:=fun wx=>zdR u.mdl wx
 have HE:Hid (zP (f+1) u=(zfw u&&(u.lits.all (zM (f+1))&&(zdB ((u.code.length:Int)-1) u.funcs&&u.funs.all (zcs ((u.code.length:Int)-1)))))):=zzH rfl;have HA:Hid (zfw u=(zy u.mdl&&(decide (1<=u.vsn)&&(decide (u.vsn<=2147483647)&&(decide (0<=(u.code.length:Int)-1)&&(decide ((u.code.length:Int)-1<524288)&&(decide (u.lits.length<=65535)&&(decide (u.funcs.length<=200)&&decide (u.funs.length<=1000))))))))):=zzH rfl;have hla:IntKind.i64.wrap ((u.code.length:Int)-1)=(u.code.length:Int)-1:=by have:=hp.codeLen;rw [zzq2];omega
 have hmm:= @run_makeMap Tryz.prog;have HMM:=zzH hmm;clear hmm;have hla64:wrap64 ((u.code.length:Int)-1)=(u.code.length:Int)-1:=by have:=hp.codeLen;first|exact hla|(unfold wrap64;omega)
 have hrng: -1<=(u.code.length:Int)-1/\(u.code.length:Int)-1<=9223372036854775807:=by have:=hp.codeLen;omega
 clear hu hp hlits hcap hla;generalize hlast:(u.code.length:Int)-1=last at *;obtain⟨hrng1,hrng2⟩:=hrng;have hlw:wrap64 ((u.code.length:Int)-1)=last:=by rw [hlast];exact hla64
 clear hla64;have HLAST:=zzH hlast;clear hlast;by_cases hn:zy u.mdl=true
 rotate_left
 ·skip
  have hnf:zy u.mdl=false:=by cases h:zy u.mdl with
   |false=>rfl
   |true=>exact absurd h hn
  rw [hnf]at hnm;have E:Hid (zP (f+1) u=false):=zzH (by rw [HE.out,HA.out,hnf];rfl);clear hn hnf;exact zz36
 rw [hn]at hnm;by_cases hv1:1<=u.vsn
 rotate_left
 ·skip
  have hv1f:u.vsn<1:=by omega
  have E:Hid (zP (f+1) u=false):=zzH (by rw [HE.out,HA.out,decide_eq_false (p:=1<=u.vsn) (by omega)];simp);clear hv1;exact zz36
 by_cases hv2:u.vsn<=2147483647
 rotate_left
 ·skip
  have hv2f:2147483647<u.vsn:=by omega
  have E:Hid (zP (f+1) u=false):=zzH (by rw [HE.out,HA.out,decide_eq_false (p:=u.vsn<=2147483647) (by omega)];simp);clear hv2;exact zz36
 by_cases hl0:0<=last
 rotate_left
 ·skip
  have hl0f:last<0:=by omega
  have E:Hid (zP (f+1) u=false):=zzH (by rw [HE.out,HA.out,decide_eq_false (p:=0<=last) (by omega)];simp);clear hl0;exact zz36
 by_cases hl1:last<524288
 rotate_left
 ·skip
  have hl1f:524288<=last:=by omega
  have E:Hid (zP (f+1) u=false):=zzH (by rw [HE.out,HA.out,decide_eq_false (p:=last<524288) (by omega)];simp);clear hl1;exact zz36
 by_cases hq1:(u.lits.length:Int)<=65535
 rotate_left
 ·skip
  have hq1f:65535<(u.lits.length:Int):=by omega
  have E:Hid (zP (f+1) u=false):=zzH (by rw [HE.out,HA.out,decide_eq_false (p:=u.lits.length<=65535) (by omega)];simp);clear hq1;exact zz36
 by_cases hq2:(u.funcs.length:Int)<=200
 rotate_left
 ·skip
  have hq2f:200<(u.funcs.length:Int):=by omega
  have E:Hid (zP (f+1) u=false):=zzH (by rw [HE.out,HA.out,decide_eq_false (p:=u.funcs.length<=200) (by omega)];simp);clear hq2;exact zz36
 by_cases hq3:(u.funs.length:Int)<=1000
 rotate_left
 ·skip
  have hq3f:1000<(u.funs.length:Int):=by omega
  have E:Hid (zP (f+1) u=false):=zzH (by rw [HE.out,HA.out,decide_eq_false (p:=u.funs.length<=1000) (by omega)];simp);clear hq3;exact zz36
 have HA1:Hid (zfw u=true):=zzH (by rw [HA.out,hn,decide_eq_true hv1,decide_eq_true hv2,decide_eq_true hl0,decide_eq_true hl1,decide_eq_true (p:=u.lits.length<=65535) (by omega),decide_eq_true (p:=u.funcs.length<=200) (by omega),decide_eq_true (p:=u.funs.length<=1000) (by omega)];rfl);have HE1:Hid (zP (f+1) u=(u.lits.all (zM (f+1))&&(zdB last u.funcs&&u.funs.all (zcs last)))):=zzH (by rw [HE.out,HA1.out,zzq15]);clear HE HA hn;go_in;go_wp2_with fail;refine(hnm _).mono ?_;rintro e w5 ⟨rfl,hb5⟩;have HU5:=zzH (HU.out.below hb5);have d1:=HU5.out.c1;have d2:=HU5.out.c2;have d3:=HU5.out.c3;have d4:=HU5.out.c4;have HB5:=zzH hb5;have HI:Hid (u.lits.all (zM (f+1))=(u.lits.drop 0).all (zM (f+1))):=zzH rfl;clear hb5;go_wp2_with fail;go_loopw [73] (fun i wr=> ∃k:Nat,k<=u.lits.length/\i= .int .i64 k/\Hid (u.lits.all (zM (f+1))=(u.lits.drop k).all (zM (f+1)))/\Below w.heap.size w wr) (fun i _=>u.lits.length-(intOf i).toNat)
 case atStart=>exact⟨0,zzZ _,rfl,HI,HB5.out⟩
 case round=>
  obtain⟨k,hk,rfl,HK,hBw⟩:=hrel;rename World=>wr
  by_cases hlt:k<u.lits.length
  ·obtain⟨b1,off1,ai,ci,hao,hb1,q0,q1,q2,q3,q4,q5,q6,q7,q8,hit,hok⟩:=(HL.out.tms hBw).tm hlt
   subst hao;have HST:Hid ((u.lits.drop k).all (zM (f+1))=(zM (f+1) u.lits[k]&&(u.lits.drop (k+1)).all (zM (f+1)))):=zzH (by rw [List.drop_eq_getElem_cons hlt,List.all_cons]);have hbx:Below wr.heap.size wr (wr.alloc (.cells (zzt u.lits[k] ai ci) 110)):=zzE _ _;have hV:=zfO f u.lits[k] ai ci (wr.alloc (.cells (zzt u.lits[k] ai ci) 110)) (hit.tms hbx) hok (HCAP.out _ (zzM hlt));have HBX:=zzH (hBw.trans (hbx.mono hBw.size));clear hit hok hbx hBw;generalize zM (f+1) u.lits[k]=v at *;generalize u.lits[k]=x at *
   cases v with
   |true=>
    have HK2:Hid (u.lits.all (zM (f+1))=(u.lits.drop (k+1)).all (zM (f+1))):=zzH (by rw [HK.out,HST.out,zzq15]);go_wp2_with fail;refine hV.mono ?_;rintro e w6 ⟨rfl,hb6⟩;have HB6:=zzH (HBX.out.trans (hb6.mono HBX.out.size));go_wp2_with fail;go_roundw
    case rel=>exact⟨k+1,by omega,by go_num,HK2,HB6.out⟩
    case measure=>simp [intOf];omega
   |false=>
    have E:Hid (zP (f+1) u=false):=zzH (by rw [HE1.out,HK.out,HST.out];rfl);go_wp2_with fail;refine hV.mono ?_;rintro e w6 ⟨rfl,hb6⟩;have HB6:=zzH (HBX.out.trans (hb6.mono HBX.out.size));go_wp2;go_ret;exact⟨zl E.out.symm,HB6.out⟩
  ·have HE2:Hid (zP (f+1) u=(zdB last u.funcs&&u.funs.all (zcs last))):=zzH (by rw [HE1.out,HK.out,zzq10 (by omega)];rfl)
   have e3:=(HU.out.below hBw).c3;have hBl:=(HU.out.below hBw).lt;have hma:Below wr.heap.size wr (wr.alloc (.map #[] 0)):=zzE _ _;have HSG:=zzH (znR wr);have HBM:=zzH (hBw.trans (hma.mono hBw.size));have hMge:w.heap.size<=wr.heap.size:=hBw.size;have f3:=(hma.cell (p:=⟨B,3,none⟩) hBl).trans e3;have hmm:=HMM.out;clear hma;go_wp2_with fail;clear hmm;generalize wr.alloc (.map #[] 0)=W at *;generalize wr.heap.size=M at *;clear e3 HMM;have HFN:Hid (∀j,j<0-> ∀h:j<u.funcs.length,zdN last u.funcs[j]=true/\zck (u.funcs.take j) u.funcs[j].name u.funcs[j].arity=false):=zzH (fun j h=>absurd h (zzC _));have hW:M<W.heap.size:=HSG.out.lt;have HS0:Hid (SigIs W M 0 (fun s a=>zck (u.funcs.take 0) s a)):=zzH HSG.out;clear HSG;obtain⟨wo,rfl⟩: ∃wo:World,wo=W:=⟨_,rfl⟩;go_loopw [87] (fun i wr=> ∃k:Nat,k<=u.funcs.length/\i= .int .i64 k/\Hid (SigIs wr M k (fun s a=>zck (u.funcs.take k) s a))/\Hid (∀j,j<k-> ∀h:j<u.funcs.length,zdN last u.funcs[j]=true/\zck (u.funcs.take j) u.funcs[j].name u.funcs[j].arity=false)/\Below w.heap.size w wr) (fun i _=>u.funcs.length-(intOf i).toNat)
   case atStart=>exact⟨0,zzZ _,rfl,HS0,HFN,HBM.out⟩
   case round=>
    obtain⟨k,hk,rfl,HSK,HFK,hBw⟩:=hrel;rename World=>wr
    by_cases hlt:k<u.funcs.length
    ·obtain⟨b1,off1,hfo,hb1,q0,q1,q2,q3,n1,n2,n3⟩:=(HP.out.below hBw).funcs.func hlt
     subst hfo;have hstep:=zlm hlt;have HSTEP:=zzH hstep;have hno:=zh5 (last:=last) hlt;have HNO:=zzH hno
     have HYES:Hid (zdN last u.funcs[k]=true->zck (u.funcs.take k) u.funcs[k].name u.funcs[k].arity=false-> ∀j,j<k+1-> ∀h:j<u.funcs.length,zdN last u.funcs[j]=true/\zck (u.funcs.take j) u.funcs[j].name u.funcs[j].arity=false):=zzH (fun h1 h2 j hj h=>by
      rcases Nat.eq_or_lt_of_le (Nat.le_of_lt_succ hj)with e|e
      ·subst e;exact⟨h1,h2⟩
      ·exact HFK.out j e h)
     have hFO:zdN last u.funcs[k]=(zy u.funcs[k].name&&(wi u.funcs[k].arity 0 16&&wi u.funcs[k].entry 0 last)):=rfl;have HFO:=zzH hFO;clear hstep hno hFO;have HBW:=zzH hBw;have hnf:=fun wx=>zdR u.funcs[k].name wx
     have hwa:=fun wx=>zK u.funcs[k].arity 0 16 wx
     have hwe:=fun wx=>zK u.funcs[k].entry 0 last wx
     have hpl:w.heap.size<=wr.heap.size:=hBw.size;unfold maxLen at n1;generalize zdN last u.funcs[k]=fk at *;generalize hsn:zck (u.funcs.take k) u.funcs[k].name u.funcs[k].arity=sn at *;have HSN:=zzH hsn;clear hsn;generalize zy u.funcs[k].name=vn at *;generalize wi u.funcs[k].arity 0 16=va at *;generalize wi u.funcs[k].entry 0 last=ve at *;generalize u.funcs[k]=g at *;have hbx:=zZ wr (.cells #[.string g.name,.int .i64 g.arity,.bool g.pub,.int .i64 g.entry] 70) (.cells #[.string g.name,.int .i64 g.arity] 115);have hr0:=zfy wr (.cells #[.string g.name,.int .i64 g.arity,.bool g.pub,.int .i64 g.entry] 70) (.cells #[.string g.name,.int .i64 g.arity] 115);have hr1:=zeP wr (.cells #[.string g.name,.int .i64 g.arity,.bool g.pub,.int .i64 g.entry] 70) (.cells #[.string g.name,.int .i64 g.arity] 115);refine zzK3 hbx hr0 hr1 fun HBX HR0 HR1=>?_;clear hbx hr0 hr1 hBw
     cases vn with
     |false=>
      have E:Hid (zP (f+1) u=false):=zzH (by rw [HE2.out,HNO.out (.inl (by rw [HFO.out];rfl))];rfl);go_wp2_with fail;refine(hnf _).mono ?_;rintro e w6 ⟨rfl,hb6⟩;have HB6:=zzH (HBW.out.trans ((ze HBX.out hb6).mono HBW.out.size));clear hb6;go_wp2;go_ret;exact⟨zl E.out.symm,HB6.out⟩
     |true=>
      go_wp2_with fail;refine(hnf _).mono ?_;rintro e w6 ⟨rfl,hb6⟩;have HB6w:=zzH (ze HBX.out hb6);have HB6:=zzH (HBW.out.trans (HB6w.out.mono HBW.out.size));have hs0:=(hb6.block wr.heap.size (zd HR0.out)).trans HR0.out;have hs1:=(hb6.block (wr.heap.size+1) (zd HR1.out)).trans HR1.out;have y0:w6.cell? ⟨wr.heap.size,0,none⟩=some (.string g.name):=by rw [zzq0 _ _ _ _ _ _ hs0];rfl
      have y1:w6.cell? ⟨wr.heap.size,1,none⟩=some (.int .i64 g.arity):=by rw [zzq0 _ _ _ _ _ _ hs0];rfl
      have y3:w6.cell? ⟨wr.heap.size,3,none⟩=some (.int .i64 g.entry):=by rw [zzq0 _ _ _ _ _ _ hs0];rfl
      have z0:w6.cell? ⟨wr.heap.size+1,0,none⟩=some (.string g.name):=by rw [zzq0 _ _ _ _ _ _ hs1];rfl
      have z1:w6.cell? ⟨wr.heap.size+1,1,none⟩=some (.int .i64 g.arity):=by rw [zzq0 _ _ _ _ _ _ hs1];rfl
      have hsig:=HSK.out.kept HB6w.out;have hlook:=zoa hsig n1 n2;rw [HSN.out]at hlook;have HSIG:=zzH hsig;clear hb6 hs0 hs1 hsig
      cases va with
      |false=>
       exact zz35
      |true=>
       cases ve with
       |false=>
        exact zz35
       |true=>
        cases sn with
        |true=>
         have E:Hid (zP (f+1) u=false):=zzH (by rw [HE2.out,HNO.out (.inr rfl)];rfl);go_wp2_with (go_at_call 47;first|((with_reducible refine(hwa _).mono ?_);rintro e w1 ⟨rfl,rfl⟩)|((with_reducible refine(hwe _).mono ?_);rintro e w1 ⟨rfl,rfl⟩));go_ret;exact⟨zl E.out.symm,HB6.out⟩
        |false=>
         obtain⟨D,hown,hD⟩:=HSIG.out;have hput:=fun(w7:World) h=>zpr (w':=w7) hown hD n1 n2 h
         have HPUT:=zzH hput;have HDD:=zzH hD;clear hput hD;go_wp2_with (first|(go_at_call 47;first|((with_reducible refine(hwa _).mono ?_);rintro e w1 ⟨rfl,rfl⟩)|((with_reducible refine(hwe _).mono ?_);rintro e w1 ⟨rfl,rfl⟩))|(at_mapUpdate;refine wpList_mapUpdate_own _ rfl _ _ _ 113 rfl 115 4 sigLaw Tryz.underlying113 _ M k D rfl hown (by unfold maxLen;omega) _ _ _ rfl rfl (zez n1 n2) _ [] (plainElem_bool Tryz.underlying4 true) ?_));intro w7 hown7 hgrow7
         have HSK2:Hid (SigIs w7 M (k+1) (fun s a=>zck (u.funcs.take (k+1)) s a)):=zzH (by
          obtain⟨D',a1,a2⟩:=HPUT.out w7 hown7;exact⟨D',a1,fun s a hs ha=>(a2 s a hs ha).trans (congrArg (fun b=>DataW.lit (Lit.bool b)) (HSTEP.out s a).symm)⟩)
         have HY2:=zzH (HYES.out (by rw [HFO.out];rfl) (by trivial));have HB7:=zzH (HB6.out.grown hgrow7 HB6.out.size (fun j hj=>by cases hj;exact hMge));clear hown hown7 hgrow7;go_wp2_with fail;go_roundw
         case rel=>exact⟨k+1,by omega,by go_num,HSK2,HY2,HB7.out⟩
         case measure=>simp [intOf];omega
    ·have HFB:Hid (zdB last u.funcs=true):=zzH (by unfold zdB;exact zzT (fun j hj=>HFK.out j (by omega) hj))
     have HE3:Hid (zP (f+1) u=u.funs.all (zcs last)):=zzH (by rw [HE2.out,HFB.out,zzq15]);have e4:=(HU.out.below hBw).c4;have HBW:=zzH hBw;have HI3:Hid (u.funs.all (zcs last)=(u.funs.drop 0).all (zcs last)):=zzH rfl;clear hBw HSK HFK;obtain⟨wp,rfl⟩: ∃wp:World,wp=wr:=⟨_,rfl⟩;go_wp2_with fail;go_loopw [126] (fun i wr=> ∃k:Nat,k<=u.funs.length/\i= .int .i64 k/\Hid (u.funs.all (zcs last)=(u.funs.drop k).all (zcs last))/\Below w.heap.size w wr) (fun i _=>u.funs.length-(intOf i).toNat)
     case atStart=>exact⟨0,zzZ _,rfl,HI3,HBW.out⟩
     case round=>
      obtain⟨k,hk,rfl,HK,hBw⟩:=hrel;rename World=>wr
      by_cases hlt:k<u.funs.length
      ·obtain⟨b1,off1,hgo,hb1,q0,q1,q2,n1,n2,n3⟩:=(HP.out.below hBw).funs.fn hlt
       subst hgo;have HST:Hid ((u.funs.drop k).all (zcs last)=(zcs last u.funs[k]&&(u.funs.drop (k+1)).all (zcs last))):=zzH (by rw [List.drop_eq_getElem_cons hlt,List.all_cons]);have HFB2:Hid (zcs last u.funs[k]=(wi u.funs[k].arity 0 16&&(wi u.funs[k].free 0 200&&wi u.funs[k].entry 0 last))):=zzH rfl;have hwa:=fun wx=>zK u.funs[k].arity 0 16 wx
       have hwf:=fun wx=>zK u.funs[k].free 0 200 wx
       have hwe:=fun wx=>zK u.funs[k].entry 0 last wx
       generalize zcs last u.funs[k]=fk at *;generalize wi u.funs[k].arity 0 16=va at *;generalize wi u.funs[k].free 0 200=vf at *;generalize wi u.funs[k].entry 0 last=ve at *;generalize u.funs[k]=g at *;have HBX:=zzH (hBw.alloc hBw.size (.cells #[.int .i64 g.arity,.int .i64 g.free,.int .i64 g.entry] 84));have hyes:fk=true->u.funs.all (zcs last)=(u.funs.drop (k+1)).all (zcs last):=fun h=>by rw [HK.out,HST.out,h,zzq15]
       have hno:fk=false->zP (f+1) u=false:=fun h=>by rw [HE3.out,HK.out,HST.out,h];rfl
       have HYES:=zzH hyes;have HNO:=zzH hno;clear hyes hno hBw
       cases va with
       |false=>
        exact zz34
       |true=>
        cases vf with
        |false=>
         exact zz34
        |true=>
         cases ve with
         |false=>
          exact zz34
         |true=>
          have E:=zzH (HYES.out (by rw [HFB2.out];rfl));go_wp2_with (go_at_call 47;first|((with_reducible refine(hwa _).mono ?_);rintro e w1 ⟨rfl,rfl⟩)|((with_reducible refine(hwf _).mono ?_);rintro e w1 ⟨rfl,rfl⟩)|((with_reducible refine(hwe _).mono ?_);rintro e w1 ⟨rfl,rfl⟩));go_roundw
          case rel=>exact⟨k+1,by omega,by go_num,E,HBX.out⟩
          case measure=>simp [intOf];omega
      ·have E:Hid (zP (f+1) u=true):=zzH (by rw [HE3.out,HK.out,zzq10 (by omega)];rfl)
       go_wp2;go_ret;exact⟨zl E.out.symm,hBw⟩
theorem zoq (B:Nat) (u:RUnit) (lo' fo go' co':zzA) (lc fc gc' cc':Nat) (b o:Nat) (x:RIns) (so co go:zzA) (sc cc gc:Nat) (w:World) (hu:UBox w B u lo' fo go' co' lc fc gc' cc') (hl:u.funcs.length<=9223372036854775807) (hl2:u.funs.length<=9223372036854775807) (hf:SlAt w 3 zbX go' u.funs) (hx:IBox w b o x so co go sc cc gc) (hop:x.op=4):
  Calls Tryz.prog 25 #[.pointer (some ⟨B,0,none⟩),.pointer (some ⟨b,o,none⟩)] w fun e w'=>e= .returned (.bool (zi u.funcs.length u.funs x))/\Below w.heap.size w w':=by
 have c0:=hx.c0;have c3:=hx.c3;have c5:=hx.c5;have b3:=hu.c3;have b4:=hu.c4;have r1:=hx.rn;have r2:=hx.rsrc;obtain⟨r1a,r1b⟩:=r1;have HF:=zzH hf;clear hu hx hf;have hw1:=zzV u.funcs.length (by omega)
 have hw2:=zzV u.funs.length (by omega)
 have E:Hid (zi u.funcs.length u.funs x=(wi x.n 0 ((u.funs.length:Int)-1)&&(match u.funs[x.n.toNat]? with
   |some f=>decide ((x.src.length:Int)=f.free)
   |none=>false))):=zzH (by unfold zi;rw [hop];rfl)
 rw [hop]at c0;clear hop
 cases hw:wi x.n 0 ((u.funs.length:Int)-1)with
 |false=>
  have E2:Hid (zi u.funcs.length u.funs x=false):=zzH (by rw [E.out,hw];rfl)
  have hwr: ∀wx,Calls Tryz.prog 47 #[.int .i64 x.n,.int .i64 0,.int .i64 ((u.funs.length:Int)-1)] wx fun e w'=>e= .returned (.bool false)/\w'=wx:=fun wx=>by
   have:=zK x.n 0 ((u.funs.length:Int)-1) wx;rw [hw]at this;exact zz40
  clear hw E;go_in;go_wp2_with fail;go_quiet ((go_at_call 47;exact zze (hwr _)));go_wp2;go_ret;exact⟨zl E2.out.symm,zm (zzR _ _) _⟩
 |true=>
  have hr:0<=x.n/\x.n<=(u.funs.length:Int)-1:=by
   unfold wi at hw;rw [zzq4,zzq8,zzq8]at hw;exact hw
  obtain⟨m,hm⟩:=zzJ hr.1;have hml:m<u.funs.length:=by omega
  obtain⟨b2,off,hao,hb2,q0,q1,q2,_,_,_⟩:=HF.out.fn hml;subst hao
  have E2:Hid (zi u.funcs.length u.funs x=decide ((x.src.length:Int)=u.funs[m].free)):=zzH (by
   rw [E.out,hw,hm];have:u.funs[(((m:Nat):Int)).toNat]?=some u.funs[m]:=by rw [zzq11];exact zzq3 hml
   rw [this];rfl)
  have hwr: ∀wx,Calls Tryz.prog 47 #[.int .i64 (m:Int),.int .i64 0,.int .i64 ((u.funs.length:Int)-1)] wx fun e w'=>e= .returned (.bool true)/\w'=wx:=fun wx=>by
   have:=zK (m:Int) 0 ((u.funs.length:Int)-1) wx;rw [<-hm,hw]at this;rw [<-hm];exact zz40
  rw [hm]at c5;clear hw hr E r1a r1b;generalize u.funs[m].free=z at *;generalize x.n=xn at *;by_cases hz:(x.src.length:Int)=z
  ·have E3:Hid (zi u.funcs.length u.funs x=true):=zzH (by rw [E2.out,decide_eq_true hz])
   have t:((x.src.length:Int)==z)=true:=by rw [hz];exact beq_self_eq_true _
   exact zz39
  ·have E3:Hid (zi u.funcs.length u.funs x=false):=zzH (by rw [E2.out,decide_eq_false hz])
   have t:((x.src.length:Int)==z)=false:=zzB.2 hz;exact zz39
theorem zlW (B:Nat) (u:RUnit) (lo' fo go' co':zzA) (lc fc gc' cc':Nat) (b o:Nat) (x:RIns) (so co go:zzA) (sc cc gc:Nat) (w:World) (hu:UBox w B u lo' fo go' co' lc fc gc' cc') (hl:u.funcs.length<=9223372036854775807) (hl2:u.funs.length<=9223372036854775807) (hf:SlAt w 3 zbX go' u.funs) (hx:IBox w b o x so co go sc cc gc):
  Calls Tryz.prog 25 #[.pointer (some ⟨B,0,none⟩),.pointer (some ⟨b,o,none⟩)] w fun e w'=>e= .returned (.bool (zi u.funcs.length u.funs x))/\Below w.heap.size w w':=by
 by_cases h5:x.op=5
 ·exact zoO B u lo' fo go' co' lc fc gc' cc' b o x so co go sc cc gc w hu hl hl2 hf hx h5
 by_cases h9:x.op=9
 ·exact zog B u lo' fo go' co' lc fc gc' cc' b o x so co go sc cc gc w hu hl hl2 hf hx h9
 by_cases h15:x.op=15
 ·exact zmY B u lo' fo go' co' lc fc gc' cc' b o x so co go sc cc gc w hu hl hl2 hf hx h15
 by_cases h18:x.op=18
 ·exact zmy B u lo' fo go' co' lc fc gc' cc' b o x so co go sc cc gc w hu hl hl2 hf hx h18
 by_cases h19:x.op=19
 ·exact zmA B u lo' fo go' co' lc fc gc' cc' b o x so co go sc cc gc w hu hl hl2 hf hx h19
 by_cases h20:x.op=20
 ·exact zmD B u lo' fo go' co' lc fc gc' cc' b o x so co go sc cc gc w hu hl hl2 hf hx h20
 by_cases h21:x.op=21
 ·exact zni B u lo' fo go' co' lc fc gc' cc' b o x so co go sc cc gc w hu hl hl2 hf hx h21
 by_cases h24:x.op=24
 ·exact znd B u lo' fo go' co' lc fc gc' cc' b o x so co go sc cc gc w hu hl hl2 hf hx h24
 by_cases h31:x.op=31
 ·exact zmU B u lo' fo go' co' lc fc gc' cc' b o x so co go sc cc gc w hu hl hl2 hf hx h31
 by_cases h16:x.op=16
 ·exact zmE B u lo' fo go' co' lc fc gc' cc' b o x so co go sc cc gc w hu hl hl2 hf hx h16
 by_cases h17:x.op=17
 ·exact zmB B u lo' fo go' co' lc fc gc' cc' b o x so co go sc cc gc w hu hl hl2 hf hx h17
 by_cases h32:x.op=32
 ·exact zmn B u lo' fo go' co' lc fc gc' cc' b o x so co go sc cc gc w hu hl hl2 hf hx h32
 by_cases h33:x.op=33
 ·exact znu B u lo' fo go' co' lc fc gc' cc' b o x so co go sc cc gc w hu hl hl2 hf hx h33
 by_cases h4:x.op=4
 ·exact zoq B u lo' fo go' co' lc fc gc' cc' b o x so co go sc cc gc w hu hl hl2 hf hx h4
 exact zj9 B u lo' fo go' co' lc fc gc' cc' b o x so co go sc cc gc w hu hl hl2 hf hx h5 h9 h15 h18 h19 h20 h21 h24 h31 h16 h17 h32 h33 h4
def zbp (x:RIns):Bool:=
 if x.op=13 then((x.name.toList== [123,125])||((x.name.toList== [124])&&((x.src.length:Int)==2)))||((!(x.name.toList== [43,43])&&zQ x.name x.src.length)||(zbx x.name x.src.length==1))
 else if x.op=14 then(zQ x.name x.src.length||(zbx x.name x.src.length==1))||(zbx x.name x.src.length==2)
 else if x.op=15 then((x.name.toList== [33])&&(x.n==2))||(zbx x.name x.n==3)
 else true
theorem zn5 (b o:Nat) (x:RIns) (so co go:zzA) (sc cc gc:Nat) (w:World) (hsp:SpaceAt w) (hx:IBox w b o x so co go sc cc gc) (hs:x.name.size<=140737488355328) (hop:x.op=13):
  Calls Tryz.prog 26 #[.pointer (some ⟨b,o,none⟩)] w fun e w'=>e= .returned (.bool (zbp x))/\Below w.heap.size w w':=by
 have c0:=hx.c0;have c3:=hx.c3;have c5:=hx.c5;have c7:=hx.c7;have r2:=hx.rsrc;have hlt:=hx.lt;have hrn:=hx.rn;have hn1:I64 (x.src.length:Int):=by unfold I64;omega
 have E0:Hid (zbp x=(((x.name.toList== [123,125])||((x.name.toList== [124])&&((x.src.length:Int)==2)))||((!(x.name.toList== [43,43])&&zQ x.name x.src.length)||(zbx x.name x.src.length==1)))):=zzH (by unfold zbp;rw [if_pos hop]);rw [hop]at c0;have hO:=fun wx=>zfV x.name x.src.length wx
 have hCl:=zf2 x.name x.src.length w hsp hs hn1;clear hop hx hsp;generalize zbp x=r at *;generalize zQ x.name x.src.length=ob at *;generalize zbx x.name x.src.length=cl at *;generalize x.name=nm at *;generalize x.src.length=ln at *
 cases t1:(nm.toList== [123,125])with
 |true=>
  simp only [t1]at E0;exact zz43
 |false=>
  simp only [t1]at E0
  cases t2:(nm.toList== [124])with
  |true=>
   simp only [t2]at E0
   cases q2:((ln:Int)==2)with
   |true=>
    simp only [q2]at E0;exact zz43
   |false=>
    simp only [q2]at E0;exact zz42
  |false=>
   simp only [t2]at E0;exact zz42
theorem znL (b o:Nat) (x:RIns) (so co go:zzA) (sc cc gc:Nat) (w:World) (hsp:SpaceAt w) (hx:IBox w b o x so co go sc cc gc) (hs:x.name.size<=140737488355328) (hop:x.op=14):
  Calls Tryz.prog 26 #[.pointer (some ⟨b,o,none⟩)] w fun e w'=>e= .returned (.bool (zbp x))/\Below w.heap.size w w':=by
 have c0:=hx.c0;have c3:=hx.c3;have c5:=hx.c5;have c7:=hx.c7;have r2:=hx.rsrc;have hlt:=hx.lt;have hrn:=hx.rn;have hn1:I64 (x.src.length:Int):=by unfold I64;omega
 have E0:Hid (zbp x=((zQ x.name x.src.length||(zbx x.name x.src.length==1))||(zbx x.name x.src.length==2))):=zzH (by unfold zbp;rw [if_neg (by omega),if_pos hop]);rw [hop]at c0;have hO:=fun wx=>zfV x.name x.src.length wx
 have hCl:=zf2 x.name x.src.length w hsp hs hn1;clear hop hsp;have HX:=zzH hx;clear hx;generalize zbp x=r at *;generalize zQ x.name x.src.length=ob at *;generalize zbx x.name x.src.length=cl at *;generalize x.src.length=ln at *
 cases ob with
 |true=>
  exact zz45
 |false=>
  cases q1:(cl==1)with
  |true=>
   simp only [q1]at E0;exact zz45
  |false=>
   simp only [q1]at E0
   cases q2:(cl==2)with
   |true=>
    exact zz44
   |false=>
    exact zz44
theorem znN (b o:Nat) (x:RIns) (so co go:zzA) (sc cc gc:Nat) (w:World) (hsp:SpaceAt w) (hx:IBox w b o x so co go sc cc gc) (hs:x.name.size<=140737488355328) (hop:x.op=15):
  Calls Tryz.prog 26 #[.pointer (some ⟨b,o,none⟩)] w fun e w'=>e= .returned (.bool (zbp x))/\Below w.heap.size w w':=by
 have c0:=hx.c0;have c3:=hx.c3;have c5:=hx.c5;have c7:=hx.c7;have r2:=hx.rsrc;have hlt:=hx.lt;have hrn:=hx.rn;have hn1:I64 (x.src.length:Int):=by unfold I64;omega
 have E0:Hid (zbp x=(((x.name.toList== [33])&&(x.n==2))||(zbx x.name x.n==3))):=zzH (by unfold zbp;rw [if_neg (by omega),if_neg (by omega),if_pos hop]);rw [hop]at c0;have hCl: ∀wx,Below w.heap.size w wx->Calls Tryz.prog 51 #[.string x.name,.int .i64 x.n] wx fun e w'=>e= .returned (.int .i64 (zbx x.name x.n))/\Below w.heap.size w w':=fun wx hb=>(zf2 x.name x.n wx (hsp.below hb) hs hrn).mono fun _ _ ⟨h1,h2⟩=>⟨h1,ze hb h2⟩
 have hdr:Below w.heap.size w w.drew:=(zzR _ _).drew;have HDR:=zzH hdr;clear hdr;clear hop hsp hx;generalize zbp x=r at *;generalize zbx x.name x.n=cl at *;generalize x.name=nm at *;generalize x.n=ln at *
 cases t1:(nm.toList== [33])with
 |true=>
  simp only [t1]at E0
  cases q2:(ln==2)with
  |true=>
   simp only [q2]at E0;simp only [zzq14,zzq13,zzq9,zzq16,Bool.and_true,Bool.and_false,zzq15,Bool.false_and]at E0;go_in;go_wp2_with fail;go_quiet (fail);go_wp2;go_ret;exact⟨zl E0.out.symm,zm (zzR _ _) _⟩
  |false=>
   simp only [q2]at E0
   cases q3:(cl==3)with
   |true=>
    exact zz46
   |false=>
    exact zz46
 |false=>
  simp only [t1]at E0;simp only [zzq14,zzq13,zzq9,zzq16,Bool.and_true,Bool.and_false,zzq15,Bool.false_and]at E0;go_in;go_wp2_with fail;have HCL:=zzH hCl;clear hCl c0 c3 r2 hrn hn1;refine wp_region_held_drew (S:=fun w'=>w'.cell? ⟨b,o+7,none⟩=some (.string nm)/\w'.cell? ⟨b,o+5,none⟩=some (.int .i64 ln)) (by kernel_rfl) ⟨by simpa using c7,by simpa using c5⟩ (fun hHeld=>?_);refine wpAnyH_take (i:=0) (v:=?v0) rfl (by kernel_rfl) (by kernel_rfl) (by kernel_rfl) (fun _ _ _ h=>h) (Or.inl ⟨by rfl,?y0⟩) hHeld ?_
  case y0=>(intro w hSw;(try dsimp only at hSw);go_simp;try with_reducible rfl)
  simp only [zzX0];refine wpAnyH_take (i:=1) (v:=?v1) rfl (by kernel_rfl) (by kernel_rfl) (by kernel_rfl) (fun _ _ _ h=>h) (Or.inl ⟨by rfl,?y1⟩) hHeld ?_
  case y1=>(intro w hSw;(try dsimp only at hSw);go_simp;try with_reducible rfl)
  simp only [zzX0];refine wpAnyH_take (i:=2) (v:=?v2) rfl (by kernel_rfl) (by kernel_rfl) (by kernel_rfl) (fun _ _ _ h=>h) (Or.inl ⟨by rfl,?y2⟩) hHeld ?_
  case y2=>(intro w hSw;(try dsimp only at hSw);go_simp;try with_reducible rfl)
  simp only [zzX0];refine wpAnyH_take (i:=3) (v:=?v3) rfl (by kernel_rfl) (by kernel_rfl) (by kernel_rfl) (fun _ _ _ h=>h) (Or.inl ⟨by rfl,?y3⟩) hHeld ?_
  case y3=>(intro w hSw;(try dsimp only at hSw);go_simp;try with_reducible rfl)
  simp only [zzX0];refine wpAnyH_take (i:=4) (v:=?v4) rfl (by kernel_rfl) (by kernel_rfl) (by kernel_rfl) (fun _ _ _ h=>h) (Or.inl ⟨by rfl,?y4⟩) hHeld ?_
  case y4=>(intro w hSw;(try dsimp only at hSw);go_simp;try with_reducible rfl)
  simp only [zzX0];refine wpAnyH_take (i:=5) (v:=?v5) rfl (by kernel_rfl) (by kernel_rfl) (by kernel_rfl) (fun _ _ _ h=>h) (Or.inl ⟨by rfl,?y5⟩) hHeld ?_
  case y5=>(intro w hSw;(try dsimp only at hSw);go_simp;try with_reducible rfl)
  simp only [zzX0];refine wpAnyH_take (i:=6) (v:=undef) rfl (by kernel_rfl) (by kernel_rfl) (by kernel_rfl) (fun _ _ _ h=>h) (Or.inr ⟨by kernel_rfl,rfl⟩) hHeld ?_;simp only [zzX0];refine wpAnyH_take (i:=7) (v:=undef) rfl (by kernel_rfl) (by kernel_rfl) (by kernel_rfl) (fun _ _ _ h=>h) (Or.inr ⟨by kernel_rfl,rfl⟩) hHeld ?_;simp only [zzX0];refine wpAnyH_take (i:=8) (v:=undef) rfl (by kernel_rfl) (by kernel_rfl) (by kernel_rfl) (fun _ _ _ h=>h) (Or.inr ⟨by kernel_rfl,rfl⟩) hHeld ?_;simp only [zzX0];refine wpAnyH_take (i:=9) (v:=undef) rfl (by kernel_rfl) (by kernel_rfl) (by kernel_rfl) (fun _ _ _ h=>h) (Or.inr ⟨by kernel_rfl,rfl⟩) hHeld ?_;simp only [zzX0];refine wpAnyH_take (i:=10) (v:=undef) rfl (by kernel_rfl) (by kernel_rfl) (by kernel_rfl) (fun _ _ _ h=>h) (Or.inr ⟨by kernel_rfl,rfl⟩) hHeld ?_;simp only [zzX0];refine wpAnyH_take (i:=11) (v:=?v11) rfl (by kernel_rfl) (by kernel_rfl) (by kernel_rfl) (fun _ _ _ h=>h) (Or.inl ⟨by rfl,?y11⟩) hHeld ?_
  case y11=>(intro w hSw;(try dsimp only at hSw);go_simp;try with_reducible rfl)
  simp only [zzX0];refine wpAnyH_take (i:=12) (v:=?v12) rfl (by kernel_rfl) (by kernel_rfl) (by kernel_rfl) (fun _ _ _ h=>h) (Or.inl ⟨by rfl,?y12⟩) hHeld ?_
  case y12=>(intro w hSw;(try dsimp only at hSw);go_simp;try with_reducible rfl)
  simp only [zzX0];refine wpAnyH_take (i:=13) (v:=?v13) rfl (by kernel_rfl) (by kernel_rfl) (by kernel_rfl) (fun _ _ _ h=>h) (Or.inl ⟨by rfl,?y13⟩) hHeld ?_
  case y13=>(intro w hSw;(try dsimp only at hSw);go_simp;try with_reducible rfl)
  simp only [zzX0];refine wpAnyH_take (i:=14) (v:=?v14) rfl (by kernel_rfl) (by kernel_rfl) (by kernel_rfl) (fun _ _ _ h=>h) (Or.inl ⟨by rfl,?y14⟩) hHeld ?_
  case y14=>(intro w hSw;(try dsimp only at hSw);go_simp;try with_reducible rfl)
  simp only [zzX0];refine wpAnyH_take (i:=15) (v:=?v15) rfl (by kernel_rfl) (by kernel_rfl) (by kernel_rfl) (fun _ _ _ h=>h) (Or.inl ⟨by rfl,?y15⟩) hHeld ?_
  case y15=>(intro w hSw;(try dsimp only at hSw);go_simp;try with_reducible rfl)
  simp only [zzX0];refine wpAnyH_take (i:=16) (v:=?v16) rfl (by kernel_rfl) (by kernel_rfl) (by kernel_rfl) (fun _ _ _ h=>h) (Or.inl ⟨by rfl,?y16⟩) hHeld ?_
  case y16=>(intro w hSw;(try dsimp only at hSw);go_simp;try with_reducible rfl)
  simp only [zzX0];refine wpAnyH_take (i:=17) (v:=?v17) rfl (by kernel_rfl) (by kernel_rfl) (by kernel_rfl) (fun _ _ _ h=>h) (Or.inl ⟨by rfl,?y17⟩) hHeld ?_
  case y17=>(intro w hSw;(try dsimp only at hSw);go_simp;try with_reducible rfl)
  simp only [zzX0];refine wpAnyH_take (i:=18) (v:=?v18) rfl (by kernel_rfl) (by kernel_rfl) (by kernel_rfl) (fun _ _ _ h=>h) (Or.inl ⟨by rfl,?y18⟩) hHeld ?_
  case y18=>(intro w hSw;(try dsimp only at hSw);go_simp;try with_reducible rfl)
  simp only [zzX0];refine wpAnyH_take (i:=19) (v:=?v19) rfl (by kernel_rfl) (by kernel_rfl) (by kernel_rfl) (fun _ _ _ h=>h) (Or.inl ⟨by rfl,?y19⟩) hHeld ?_
  case y19=>(intro w hSw;(try dsimp only at hSw);go_simp;try with_reducible rfl)
  simp only [zzX0];refine wpAnyH_take (i:=20) (v:=?v20) rfl (by kernel_rfl) (by kernel_rfl) (by kernel_rfl) (fun _ _ _ h=>h) (Or.inl ⟨by rfl,?y20⟩) hHeld ?_
  case y20=>(intro w hSw;(try dsimp only at hSw);go_simp;try with_reducible rfl)
  simp only [zzX0];refine wpAnyH_ready (rs:=[21]) (by kernel_rfl) (by simp) ?_;refine AllReadyH.cons rfl (fun K hK=>?_) AllReadyH.nil;simp only [zzX4];go_simp;refine(HCL.out _ HDR.out).mono ?_;rintro e w5 ⟨rfl,hb5⟩;go_wp2_with fail;refine hK.out _ _ ⟨(hb5.cell (p:=⟨b,o+7,none⟩) hlt).trans c7,(hb5.cell (p:=⟨b,o+5,none⟩) hlt).trans c5⟩ (fun hHeld2=>?_);clear hK K hHeld
  try simp only [zzX0]
  refine wpAnyH_take (i:=22) (v:=?v22) rfl (by kernel_rfl) (by kernel_rfl) (by kernel_rfl) (fun _ _ _ h=>h) (Or.inl ⟨by rfl,?y22⟩) hHeld2 ?_
  case y22=>(intro w hSw;(try dsimp only at hSw);go_simp;try with_reducible rfl)
  simp only [zzX0];refine wpAnyH_take (i:=23) (v:=?v23) rfl (by kernel_rfl) (by kernel_rfl) (by kernel_rfl) (fun _ _ _ h=>h) (Or.inl ⟨by rfl,?y23⟩) hHeld2 ?_
  case y23=>(intro w hSw;(try dsimp only at hSw);go_simp;try with_reducible rfl)
  simp only [zzX0];refine wpAnyH_take (i:=24) (v:=?v24) rfl (by kernel_rfl) (by kernel_rfl) (by kernel_rfl) (fun _ _ _ h=>h) (Or.inl ⟨by rfl,?y24⟩) hHeld2 ?_
  case y24=>(intro w hSw;(try dsimp only at hSw);go_simp;try with_reducible rfl)
  simp only [zzX0];refine wpAnyH_done (by kernel_rfl) ?_ _;go_wp2;go_ret;exact⟨zl E0.out.symm,hb5⟩
theorem zlP (b o:Nat) (x:RIns) (so co go:zzA) (sc cc gc:Nat) (w:World) (hsp:SpaceAt w) (hx:IBox w b o x so co go sc cc gc) (hs:x.name.size<=140737488355328) (h13: ¬x.op=13) (h14: ¬x.op=14) (h15: ¬x.op=15):
  Calls Tryz.prog 26 #[.pointer (some ⟨b,o,none⟩)] w fun e w'=>e= .returned (.bool (zbp x))/\Below w.heap.size w w':=by
 have c0:=hx.c0;have c3:=hx.c3;have c5:=hx.c5;have c7:=hx.c7;have r2:=hx.rsrc;have hlt:=hx.lt;have hrn:=hx.rn;have hn1:I64 (x.src.length:Int):=by unfold I64;omega
 have E0:Hid (zbp x=true):=zzH (by unfold zbp;rw [if_neg h13,if_neg h14,if_neg h15]);have t13:(x.op==13)=false:=zzB.2 h13;have t14:(x.op==14)=false:=zzB.2 h14;have t15:(x.op==15)=false:=zzB.2 h15;clear h13 h14 h15 hx hsp;go_in;go_wp2;go_ret;exact⟨zl E0.out.symm,zzR _ _⟩
theorem znb (b o:Nat) (x:RIns) (so co go:zzA) (sc cc gc:Nat) (w:World) (hsp:SpaceAt w) (hx:IBox w b o x so co go sc cc gc) (hs:x.name.size<=140737488355328):
  Calls Tryz.prog 26 #[.pointer (some ⟨b,o,none⟩)] w fun e w'=>e= .returned (.bool (zbp x))/\Below w.heap.size w w':=by
 by_cases h13:x.op=13
 ·exact zn5 b o x so co go sc cc gc w hsp hx hs h13
 by_cases h14:x.op=14
 ·exact znL b o x so co go sc cc gc w hsp hx hs h14
 by_cases h15:x.op=15
 ·exact znN b o x so co go sc cc gc w hsp hx hs h15
 exact zlP b o x so co go sc cc gc w hsp hx hs h13 h14 h15
def zfW (code:List RIns) (i:Int):Int:=((code[i.toNat]?).map RIns.op).getD 0
def zbK (code:List RIns) (i:Nat) (x:RIns) (h:Nat):Bool:=
 if x.op=39\/x.op=40 then wi x.to 0 ((code.length:Int)-1)&&(zfW code x.to==37)
 else x.cases.all (fun c=>wi c.to ((i:Int)+1) ((code.length:Int)-1))&&(!zx h 64||wi x.to ((i:Int)+1) ((code.length:Int)-1))
theorem ziU (B:Nat) (u:RUnit) (lo fo go:zzA) (lc fc gc cc:Nat) (bc oc:Nat) (i:Nat) (h l' h':Int) (so co' go':zzA) (sc cc' gc':Nat) (w:World) (hu:UBox w B u lo fo go (some ⟨bc,oc,none⟩) lc fc gc cc) (hcode:SlAt w 10 (InsR w) (some ⟨bc,oc,none⟩) u.code) (hl:u.code.length<=9223372036854775807) (hi:i<u.code.length)
  (x:RIns) (hx:IBox w bc (oc+i*10) x so co' go' sc cc' gc') (hop:x.op=39\/x.op=40) (hn:Nat):
  Calls Tryz.prog 28 #[.pointer (some ⟨B,0,none⟩),.int .i64 i,.agg #[.int .i64 h,.int .i64 l',.int .i64 h']] w fun e w'=>e= .returned (.bool (zbK u.code i x hn))/\Below w.heap.size w w':=by
 have hbe:Below w.heap.size w (w.alloc (.cells #[.int .i64 h,.int .i64 l',.int .i64 h'] 74)):=zzE _ _;have b5:=(hu.below hbe).c5;have hxb:=hx.below hbe;have c0:=hxb.c0;have c4:=hxb.c4;have hBl:=(hu.below hbe).lt;have hbl:=hxb.lt;have hw1:=zzV u.code.length (by omega)
 have hwc:=fun wx=>zK x.to 0 ((u.code.length:Int)-1) wx
 have HBE:=zzH hbe;have E0:Hid (zbK u.code i x hn=(wi x.to 0 ((u.code.length:Int)-1)&&(zfW u.code x.to==37))):=zzH (by unfold zbK;rw [if_pos hop]);have HCO:=zzH hcode;clear hu hx hxb hcode;generalize hxo:x.op=xo at *;have hE: ∀j,j<u.code.length->True:=fun _ _=>trivial
 clear hE hxo;by_cases hin:0<=x.to/\x.to<=(u.code.length:Int)-1
 ·have hwi:=zd0 hin.1 hin.2
  rw [hwi]at hwc;obtain⟨m,hm⟩: ∃m:Nat,x.to=(m:Int):=⟨x.to.toNat,by omega⟩;have hml:m<u.code.length:=by omega
  obtain⟨b2,o2,so2,co2,go2,sc2,cc2,gc2,hao,hmx⟩:=zdl HCO.out hml;obtain⟨rfl,rfl⟩:bc=b2/\oc=o2:=by injection hao with h;injection h with h1 h2;exact⟨h1,h2⟩
  have d0:=(hmx.below HBE.out).c0;have hop2:zfW u.code x.to=(u.code[m]).op:=by unfold zfW;rw [hm,zzq11,zzq3 hml];rfl
  rw [hwi,hop2,zzq15]at E0;rw [hm]at hwc c4;generalize(u.code[m]).op=oo at *;have E1:=zzH E0.out;clear hmx hao hin hwi hop2 hm HCO E0;generalize zbK u.code i x hn=r at *
  cases hq:(oo==37)
  all_goals
   rw [hq]at E1;rcases hop with rfl|rfl
   all_goals
    go_in;go_wp2_with fail;go_quiet (fail);have HQ:=zzH (zm HBE.out nq);have b5':((w.alloc (.cells #[.int .i64 h,.int .i64 l',.int .i64 h'] 74)).drewN nq).cell? ⟨B,5,none⟩=some (.slice (some ⟨bc,oc,none⟩) u.code.length cc):=b5;have c0':((w.alloc (.cells #[.int .i64 h,.int .i64 l',.int .i64 h'] 74)).drewN nq).cell? ⟨bc,oc+i*10,none⟩=_:=c0;have c4':((w.alloc (.cells #[.int .i64 h,.int .i64 l',.int .i64 h'] 74)).drewN nq).cell? ⟨bc,oc+i*10+4,none⟩=_:=c4;have d0':((w.alloc (.cells #[.int .i64 h,.int .i64 l',.int .i64 h'] 74)).drewN nq).cell? ⟨bc,oc+m*10,none⟩=_:=d0;clear b5 c0 c4 d0 HBE;generalize(w.alloc (.cells #[.int .i64 h,.int .i64 l',.int .i64 h'] 74)).drewN nq=W1 at *;go_wp2_with fail;go_quiet ((go_at_call 47;exact zze ((hwc _).mono fun _ _ ⟨a,b⟩=>⟨a,b.symm⟩)));go_wp2;go_ret;exact⟨zl E1.out.symm,zm HQ.out _⟩
 ·have hwi:=zdx hin
  rw [hwi]at hwc;rw [hwi,Bool.false_and]at E0;have E1:=zzH E0.out;clear hin hwi HCO E0;generalize zbK u.code i x hn=r at *;rcases hop with rfl|rfl
  all_goals
   go_in;go_wp2_with fail;go_quiet (fail);have HQ:=zzH (zm HBE.out nq);have b5':((w.alloc (.cells #[.int .i64 h,.int .i64 l',.int .i64 h'] 74)).drewN nq).cell? ⟨B,5,none⟩=some (.slice (some ⟨bc,oc,none⟩) u.code.length cc):=b5;have c0':((w.alloc (.cells #[.int .i64 h,.int .i64 l',.int .i64 h'] 74)).drewN nq).cell? ⟨bc,oc+i*10,none⟩=_:=c0;have c4':((w.alloc (.cells #[.int .i64 h,.int .i64 l',.int .i64 h'] 74)).drewN nq).cell? ⟨bc,oc+i*10+4,none⟩=_:=c4;clear b5 c0 c4 HBE;generalize(w.alloc (.cells #[.int .i64 h,.int .i64 l',.int .i64 h'] 74)).drewN nq=W1 at *;go_wp2_with fail;go_quiet ((go_at_call 47;exact zze ((hwc _).mono fun _ _ ⟨a,b⟩=>⟨a,b.symm⟩)));go_wp2;go_ret;exact⟨zl E1.out.symm,zm HQ.out _⟩
theorem ziy (B:Nat) (u:RUnit) (lo fo go:zzA) (lc fc gc cc:Nat) (bc oc:Nat) (i:Nat) (hn:Nat) (l' h':Int) (so co' go':zzA) (sc cc' gc':Nat) (w:World) (hu:UBox w B u lo fo go (some ⟨bc,oc,none⟩) lc fc gc cc) (hl:u.code.length<=9223372036854775807) (hi:i<u.code.length)
  (x:RIns) (hx:IBox w bc (oc+i*10) x so co' go' sc cc' gc') (hop: ¬(x.op=39\/x.op=40)) (hh:hn<1000):
  Calls Tryz.prog 28 #[.pointer (some ⟨B,0,none⟩),.int .i64 i,.agg #[.int .i64 hn,.int .i64 l',.int .i64 h']] w fun e w'=>e= .returned (.bool (zbK u.code i x hn))/\Below w.heap.size w w':=by
 have hbe:Below w.heap.size w (w.alloc (.cells #[.int .i64 hn,.int .i64 l',.int .i64 h'] 74)):=zzE _ _;have hbr:=zzF w (.cells #[.int .i64 hn,.int .i64 l',.int .i64 h'] 74);have b5:=(hu.below hbe).c5;have hxb:=hx.below hbe;have c0:=hxb.c0;have hBl:=(hu.below hbe).lt;have hbl:=hxb.lt;have rc:=hxb.rcases;have t39:(x.op==39)=false:=zzB.2 (fun h=>hop (.inl h));have t40:(x.op==40)=false:=zzB.2 (fun h=>hop (.inr h));have hw1:=zzV u.code.length (by omega)
 have hwc:=fun n wx=>zK n ((i:Int)+1) ((u.code.length:Int)-1) wx
 refine zzK3 hbe hbr hxb fun HBE HBR HX=>?_;have ha:bits .and .i64 (hn:Int) 64=((hn&&&64:Nat):Int):=zkC hn 64 (by omega) (by omega)
 have hab:((((hn&&&64:Nat):Int))==0)= !zx hn 64:=by
  unfold zx;by_cases c:hn&&&64=0
  ·rw [c];rfl
  ·rw [decide_eq_true c];show _=false;rw [zzq1];omega
 have E0:Hid (zbK u.code i x hn=(x.cases.all (fun c=>wi c.to ((i:Int)+1) ((u.code.length:Int)-1))&&(!zx hn 64||wi x.to ((i:Int)+1) ((u.code.length:Int)-1)))):=zzH (by unfold zbK;rw [if_neg hop]);have HAB:=zzH hab;have HI:Hid (x.cases.all (fun c=>wi c.to ((i:Int)+1) ((u.code.length:Int)-1))=(x.cases.drop 0).all (fun c=>wi c.to ((i:Int)+1) ((u.code.length:Int)-1))):=zzH rfl;clear hu hx hxb hop hab hbr hbe;generalize zbK u.code i x hn=r at *;go_in;go_wp2_with fail;go_quiet (fail);have HQ:=zzH (zm HBE.out nq);have HQ2:Hid (Below (w.alloc (.cells #[.int .i64 hn,.int .i64 l',.int .i64 h'] 74)).heap.size (w.alloc (.cells #[.int .i64 hn,.int .i64 l',.int .i64 h'] 74)) ((w.alloc (.cells #[.int .i64 hn,.int .i64 l',.int .i64 h'] 74)).drewN nq)):=zzH (zm (zzR _ _) nq);have HX1:=zzH (HX.out.below HQ2.out);have HR1:Hid (((w.alloc (.cells #[.int .i64 hn,.int .i64 l',.int .i64 h'] 74)).drewN nq).heap[w.heap.size]?=some (.cells #[.int .i64 hn,.int .i64 l',.int .i64 h'] 74 (0,0))):=zzH HBR.out
 clear b5 c0 HBE HQ2 HX HBR hBl hbl;generalize(w.alloc (.cells #[.int .i64 hn,.int .i64 l',.int .i64 h'] 74)).drewN nq=W1 at *;have c0:=HX1.out.c0;have c8:=HX1.out.c8;have hwi2:IntKind.i64.wrap ((i:Int)+1)=(i:Int)+1:=by rw [zzq2];omega
 go_wp2_with fail;go_loopw [55] (fun j wr=> ∃k:Nat,k<=x.cases.length/\j= .int .i64 k/\Hid (x.cases.all (fun c=>wi c.to ((i:Int)+1) ((u.code.length:Int)-1))=(x.cases.drop k).all (fun c=>wi c.to ((i:Int)+1) ((u.code.length:Int)-1)))/\Below W1.heap.size W1 wr) (fun j _=>x.cases.length-(intOf j).toNat)
 case atStart=>exact⟨0,zzZ _,rfl,HI,zzR _ _⟩
 case round=>
  obtain⟨k,hk,rfl,HK,hBw⟩:=hrel;rename World=>wr
  by_cases hlt:k<x.cases.length
  ·obtain⟨b1,off1,hco,hb1,q0,q1,rl,rt⟩:=(HX1.out.below hBw).cases.case hlt
   subst hco;have HST:Hid ((x.cases.drop k).all (fun c=>wi c.to ((i:Int)+1) ((u.code.length:Int)-1))=(wi x.cases[k].to ((i:Int)+1) ((u.code.length:Int)-1)&&(x.cases.drop (k+1)).all (fun c=>wi c.to ((i:Int)+1) ((u.code.length:Int)-1)))):=zzH (by rw [List.drop_eq_getElem_cons hlt,List.all_cons]);have hwc1:=fun wx=>hwc x.cases[k].to wx
   generalize wi x.cases[k].to ((i:Int)+1) ((u.code.length:Int)-1)=q at *;generalize x.cases[k].to=ct at *;generalize x.cases[k].lit=cl at *;have HBA:Hid (Below W1.heap.size W1 (wr.alloc (.cells #[.int .i64 cl,.int .i64 ct] 123))):=zzH (hBw.alloc hBw.size _)
   cases q with
   |true=>
    have HK2:Hid (x.cases.all (fun c=>wi c.to ((i:Int)+1) ((u.code.length:Int)-1))=(x.cases.drop (k+1)).all (fun c=>wi c.to ((i:Int)+1) ((u.code.length:Int)-1))):=zzH (by rw [HK.out,HST.out,zzq15]);go_wp2_with (go_at_call 47;refine(hwc1 _).mono ?_;rintro e w1 ⟨rfl,rfl⟩);go_roundw
    case rel=>exact⟨k+1,by omega,by go_num,HK2,HBA.out⟩
    case measure=>simp [intOf];omega
   |false=>
    have E:Hid (r=false):=zzH (by rw [E0.out,HK.out,HST.out];rfl);go_wp2_with (go_at_call 47;refine(hwc1 _).mono ?_;rintro e w1 ⟨rfl,rfl⟩);go_ret;exact⟨zl E.out.symm,HQ.out.trans (HBA.out.mono HQ.out.size)⟩
  ·have EK:Hid (r=(!zx hn 64||wi x.to ((i:Int)+1) ((u.code.length:Int)-1))):=zzH (by rw [E0.out,HK.out,zzq10 (by omega)];rfl)
   have hr:=(hBw.block w.heap.size (zd HR1.out)).trans HR1.out;have n0:wr.cell? ⟨w.heap.size,0,none⟩=some (.int .i64 hn):=by rw [zzq0 _ _ _ _ _ _ hr];rfl
   have c4:=(HX1.out.below hBw).c4;have hwc1:=fun wx=>hwc x.to wx
   have hab:=HAB.out;generalize wi x.to ((i:Int)+1) ((u.code.length:Int)-1)=q at *;generalize zx hn 64=hb at *;clear hr;generalize hn&&&64=z at *
   cases hb with
   |false=>
    have E:Hid (r=true):=zzH (by rw [EK.out];rfl);go_wp2;go_ret;exact⟨zl E.out.symm,HQ.out.trans (hBw.mono HQ.out.size)⟩
   |true=>
    have E:Hid (r=q):=zzH (by rw [EK.out];rfl);go_wp2_with (go_at_call 47;refine(hwc1 _).mono ?_;rintro e w1 ⟨rfl,rfl⟩);go_ret;exact⟨zl E.out.symm,HQ.out.trans (hBw.mono HQ.out.size)⟩
theorem zke (B:Nat) (u:RUnit) (lo fo go:zzA) (lc fc gc cc:Nat) (bc oc:Nat) (i:Nat) (hn:Nat) (l' h':Int) (so co' go':zzA) (sc cc' gc':Nat) (w:World) (hu:UBox w B u lo fo go (some ⟨bc,oc,none⟩) lc fc gc cc) (hcode:SlAt w 10 (InsR w) (some ⟨bc,oc,none⟩) u.code) (hl:u.code.length<=9223372036854775807) (hi:i<u.code.length)
  (x:RIns) (hx:IBox w bc (oc+i*10) x so co' go' sc cc' gc') (hh:hn<1000):
  Calls Tryz.prog 28 #[.pointer (some ⟨B,0,none⟩),.int .i64 i,.agg #[.int .i64 hn,.int .i64 l',.int .i64 h']] w fun e w'=>e= .returned (.bool (zbK u.code i x hn))/\Below w.heap.size w w':=by
 by_cases hop:x.op=39\/x.op=40
 ·exact ziU B u lo fo go lc fc gc cc bc oc i hn l' h' so co' go' sc cc' gc' w hu hcode hl hi x hx hop hn
 ·exact ziy B u lo fo go lc fc gc cc bc oc i hn l' h' so co' go' sc cc' gc' w hu hl hi x hx hop hh
def Tw (ws:List (List UInt8)):List UInt8:=32::ws.flatMap fun w=>w++ [32]
theorem zp2 (w:List UInt8) (ws:List (List UInt8)):Tw (w::ws)=32::(w++Tw ws):=by
 unfold Tw;rw [List.flatMap_cons,zzq20];rfl
theorem zkm: ∀{x w b c:List UInt8},32∉x->32∉w->x++32::b=w++32::c->x=w
 |[],[],_,_,_,_,_=>rfl
 |[],y::w,_,_,_,hw,h=>by
  injection h with h1 _;subst h1;exact absurd zzg hw
 |y::x,[],_,_,hx,_,h=>by
  injection h with h1 _;subst h1;exact absurd zzg hx
 |y::x,z::w,b,c,hx,hw,h=>by
  injection h with h1 h2;subst h1;rw [zkm (fun h=>hx (List.mem_cons_of_mem _ h)) (fun h=>hw (List.mem_cons_of_mem _ h)) h2]
theorem zha {x:List UInt8} (hx:32∉x): ∀(ws:List (List UInt8)),(∀w∈ws,32∉w)->((32::(x++ [32])) <:+:Tw ws↔x∈ws)
 |[],_=>by
  constructor
  ·rintro⟨a,b,h⟩
   have:=congrArg List.length h;simp [Tw]at this;omega
  ·intro h;cases h
 |w::ws,hws=>by
  have ih:=zha hx ws (fun v hv=>hws v (zzh _ hv));have hw:=hws w zzg;rw [zp2];constructor
  ·rintro⟨a,b,h⟩
   cases a with
   |nil=>
    have h2:x++32::b=w++32::ws.flatMap (fun w=>w++ [32]):=by
     simp only [List.nil_append,List.cons_append,zzq20,List.cons.injEq,true_and]at h;exact h
    rw [zkm hx hw h2];exact zzg
   |cons y a=>
    have h2:a++(32::(x++ [32])++b)=w++Tw ws:=by
     rw [List.cons_append,List.cons_append]at h;injection h with _ h;rw [<-h,zzq20]
    rcases List.append_eq_append_iff.1 h2 with⟨c,h3,h4⟩|⟨c,h3,h4⟩
    ·cases c with
     |nil=>
      rw [List.append_nil]at h3;refine zzh _ (ih.1 ⟨[],b,?_⟩);rw [List.nil_append,h4];rfl
     |cons z c=>
      rw [List.cons_append,List.cons_append]at h4;injection h4 with h5 _;subst h5;exact absurd (by rw [h3];exact List.mem_append_right _ zzg) hw
    ·exact zzh _ (ih.1 ⟨c,b,by rw [h4,zzq20]⟩)
  ·intro h
   rcases List.mem_cons.1 h with rfl|h
   ·exact⟨[],ws.flatMap (fun w=>w++ [32]),by simp [Tw]⟩
   ·obtain⟨a,b,e⟩:=ih.2 h
    exact⟨32::(w++a),b,by rw [<-e];simp⟩
def zdT (s p:List UInt8):Bool:=decide (∃i,i<s.length+1/\i+p.length<=s.length/\(s.drop i).take p.length=p)
theorem zje (s p:List UInt8):zdT s p=decide (p <:+:s):=by
 unfold zdT;rw [decide_eq_decide];constructor
 ·rintro⟨i,_,_,h⟩
  exact⟨s.take i,(s.drop i).drop p.length,by
    rw [<-h,List.length_take];rw [zzq20];conv=>rhs;rw [<-List.take_append_drop i s]
    congr 1
    have:min p.length (s.drop i).length=p.length:=by
     have:=congrArg List.length h;rw [List.length_take]at this;exact this
    rw [this];exact List.take_append_drop _ _⟩
 ·rintro⟨a,b,rfl⟩
  refine⟨a.length,by simp only [zzq12];omega,by simp only [zzq12];omega,?_⟩;rw [zzq20,List.drop_left,List.take_left]
def zdE (c:Nat):List (List UInt8):=if c=1 then words1 else if c=2 then words2 else if c=3 then words3 else if c=4 then words4 else []
def zhi (c:Nat):List UInt8:=Tw (zdE c)
def zb4 (s:ByteArray) (n:Nat):List UInt8:=s.data.toList++ [47,UInt8.ofNat (48+n)]
def zcX (s:ByteArray) (n:Int):Int:=
 if zy s=true/\0<=n/\n<=9 then
  if zb4 s n.toNat∈words1 then 1 else if zb4 s n.toNat∈words2 then 2 else if zb4 s n.toNat∈words3 then 3 else if zb4 s n.toNat∈words4 then 4 else 0
 else 0
theorem zey {c:Int}: ∀(ws:List (List UInt8)) (t:List UInt8->Int) (k:List UInt8),zcH c ws t k=if k∈ws then c else t k
 |[],t,k=>by rw [if_neg (by simp)];rfl
 |x::ws,t,k=>by
  show zcH c ws (zfj t x c) k=_;rw [zey ws _ k];by_cases h:k∈ws
  ·rw [if_pos h,if_pos (List.mem_cons_of_mem _ h)]
  ·rw [if_neg h]
   unfold zfj;by_cases e:k=x
   ·rw [if_pos e,if_pos (by rw [e];exact List.mem_cons_self)]
   ·rw [if_neg e,if_neg (fun hm=>(List.mem_cons.1 hm).elim e h)]
theorem zjr:((words1.all fun x=>!(words2.elem x)&& !(words3.elem x)&& !(words4.elem x))&&(words2.all fun x=>!(words3.elem x)&& !(words4.elem x))&&(words3.all fun x=>!(words4.elem x)))=true:=by decide +kernel
def zit (w:List UInt8):Bool:=
 match w.reverse with
 |d::47::r=>decide (48<=d.toNat/\d.toNat<=57)&&(decide (47∉r)&&zy ⟨r.reverse.toArray⟩)
 |_=>false
theorem zlB:(words1++(words2++(words3++words4))).all zit=true:=by decide +kernel
theorem zio:(words1++(words2++(words3++words4))).all (fun w=>decide (32∉w))=true:=by decide +kernel
theorem zov {w:List UInt8} (h:zit w=true): ∃(r:List UInt8) (d:UInt8),w=r++ [47,d]/\48<=d.toNat/\d.toNat<=57/\47∉r/\zy ⟨r.toArray⟩=true:=by
 unfold zit at h;split at h
 ·rename_i d r e
  rw [zzq4,zzq4,zzq8,zzq8]at h;have e2:=congrArg List.reverse e;rw [List.reverse_reverse]at e2;refine⟨r.reverse,d,by rw [e2];simp,h.1.1,h.1.2,by simpa using h.2.1,h.2.2⟩
 ·cases h
theorem zjb: ∀{x w b c:List UInt8},47∉x->47∉w->x++47::b=w++47::c->x=w/\b=c
 |[],[],_,_,_,_,h=>by injection h with _ h;exact⟨rfl,h⟩
 |[],y::w,_,_,_,hw,h=>by
  injection h with h1 _;subst h1;exact absurd zzg hw
 |y::x,[],_,_,hx,_,h=>by
  injection h with h1 _;subst h1;exact absurd zzg hx
 |y::x,z::w,b,c,hx,hw,h=>by
  injection h with h1 h2;subst h1;obtain⟨e1,e2⟩:=zjb (fun h=>hx (zzh _ h)) (fun h=>hw (zzh _ h)) h2;exact⟨by rw [e1],e2⟩
theorem zeF: ∀(l:List UInt8) (c:UInt8),(0<=Lib.indexByte l c)↔c∈l
 |[],c=>by simp [Lib.indexByte]
 |b::l,c=>by
  have ih:=zeF l c;have hg:=Lib.indexByte_ge l c;unfold Lib.indexByte;by_cases e:(b==c)=true
  ·rw [if_pos e]
   simp [eq_of_beq e]
  ·rw [if_neg e]
   have hne:b≠c:=fun h=>e (by rw [h];exact beq_self_eq_true c)
   rw [List.mem_cons,<-ih];by_cases z:(Lib.indexByte l c== -1)=true
   ·rw [if_pos z]
    have:=eq_of_beq z;constructor
    ·intro h;omega
    ·rintro(h|h)
     ·exact absurd h.symm hne
     ·omega
   ·rw [if_neg z]
    have:Lib.indexByte l c≠ -1:=fun h=>z (by rw [h];rfl)
    constructor
    ·intro h;exact .inr (by omega)
    ·intro _;omega
theorem zil {n:Int} (h0:0<=n) (h9:n<=9):txt n= [UInt8.ofNat (48+n.toNat)]:=by
 unfold txt;rw [if_neg (by omega),zeB (by omega)];unfold dgt;rw [show n.natAbs%10=n.toNat by omega]
theorem zp9 {m:Nat} (h: ¬m<10):2<=(dig m).length:=by
 rw [zgt h]
 have:1<=(dig (m/10)).length:=by
  by_cases h2:m/10<10
  ·rw [zeB h2];simp
  ·rw [zgt h2];simp
 simp;omega
theorem zqa {n:Int} (hn:0<=n) {d:UInt8} (h:txt n= [d]):n<=9/\d=UInt8.ofNat (48+n.toNat):=by
 by_cases h9:n<=9
 ·rw [zil hn h9]at h;injection h with h _;exact⟨h9,h.symm⟩
 ·have:=zp9 (m:=n.natAbs) (by omega)
  unfold txt at h;rw [if_neg (by omega)]at h;rw [h]at this;simp at this
theorem zgc {s:ByteArray} (h:zy s=true):47∉s.data.toList/\32∉s.data.toList:=by
 unfold zy at h;rw [zzq4,zzq8]at h
 have: ∀c∈s.data.toList,c≠47/\c≠32:=fun c hc=>by
  obtain⟨j,hj,rfl⟩:=List.getElem_of_mem hc;have hj2:j<s.size:=by simpa using hj
  have h1:=h.2 j hj2;have e:s[j].toNat=s.data.toList[j].toNat:=by rw [Array.getElem_toList];rfl
  rw [e]at h1;constructor
  ·intro h2;rw [h2]at h1;unfold zba at h1;revert h1;simp
  ·intro h2;rw [h2]at h1;unfold zba at h1;revert h1;simp
 exact⟨fun h=>(this _ h).1 rfl,fun h=>(this _ h).2 rfl⟩
theorem znZ {w:List UInt8} (h:w∈words1\/w∈words2\/w∈words3\/w∈words4):zit w=true:=by
 refine zzp.1 zlB w ?_;rw [List.mem_append,List.mem_append,List.mem_append];exact h
theorem zdC (s:ByteArray) (n:Int):zbx s n=zcX s n:=by
 have hap:=zjr;simp only [zzq4,List.all_eq_true,Bool.not_eq_true']at hap;obtain⟨⟨hap1,hap2⟩,hap3⟩:=hap;have el: ∀{x:List UInt8} {l:List (List UInt8)},l.elem x=false->x∉l:=fun h hm=>by rw [List.elem_eq_true_of_mem hm]at h;cases h
 unfold zbx;by_cases hneg:n<0\/0<=Lib.indexByte s.data.toList 47
 ·rw [if_pos hneg]
  unfold zcX;rw [if_neg];rintro⟨h1,h2,h3⟩;rcases hneg with h|h
  ·omega
  ·exact(zgc h1).1 ((zeF _ _).1 h)
 ·rw [if_neg hneg]
  have hn0:0<=n:=by omega
  have hns:47∉s.data.toList:=fun h=>hneg (.inr ((zeF _ _).2 h))
  unfold zfk;rw [zey,zey,zey,zey];by_cases hm:(s.data.toList++ [47]++txt n)∈words1\/(s.data.toList++ [47]++txt n)∈words2\/(s.data.toList++ [47]++txt n)∈words3\/(s.data.toList++ [47]++txt n)∈words4
  ·obtain⟨r,d,e,hd1,hd2,hr,hname⟩:=zov (znZ hm)
   have e2:s.data.toList++47::txt n=r++47:: [d]:=by rw [<-e];simp
   obtain⟨e3,e4⟩:=zjb hns hr e2;obtain⟨h9,hd⟩:=zqa hn0 e4
   have hv:zy s=true:=by
    have:s=⟨r.toArray⟩:=by rw [<-e3]
    rw [this];exact hname
   have ew:s.data.toList++ [47]++txt n=zb4 s n.toNat:=by unfold zb4;rw [e4,hd];simp
   rw [ew]at hm ⊢
   have ecl:zcX s n=if zb4 s n.toNat∈words1 then 1 else if zb4 s n.toNat∈words2 then 2 else if zb4 s n.toNat∈words3 then 3 else if zb4 s n.toNat∈words4 then 4 else 0:=by
    unfold zcX;rw [if_pos ⟨hv,hn0,h9⟩]
   rw [ecl];clear ecl;generalize zb4 s n.toNat=x at *;by_cases m1:x∈words1
   ·obtain⟨⟨a,b⟩,c⟩:=hap1 x m1
    have a':=el a;have b':=el b;have c':=el c;simp only [m1,a',b',c',if_true,if_false]
   ·by_cases m2:x∈words2
    ·obtain⟨a,b⟩:=hap2 x m2
     have a':=el a;have b':=el b;simp only [m1,m2,a',b',if_true,if_false]
    ·by_cases m3:x∈words3
     ·have a':=el (hap3 x m3)
      simp only [m1,m2,m3,a',if_true,if_false]
     ·by_cases m4:x∈words4
      ·simp only [m1,m2,m3,m4,if_true,if_false]
      ·rcases hm with h|h|h|h<;>contradiction
  ·have h1: ∀{c:Prop} [Decidable c] {a b:Int},¬c->(if c then a else b)=b:=fun h=>if_neg h
   rw [if_neg (fun h=>hm (.inr (.inr (.inr h)))),if_neg (fun h=>hm (.inr (.inr (.inl h)))),if_neg (fun h=>hm (.inr (.inl h))),if_neg (fun h=>hm (.inl h))];unfold zcX;by_cases hc:zy s=true/\0<=n/\n<=9
   ·rw [if_pos hc]
    have ew:s.data.toList++ [47]++txt n=zb4 s n.toNat:=by unfold zb4;rw [zil hc.2.1 hc.2.2];simp
    rw [ew]at hm;rw [if_neg (fun h=>hm (.inl h)),if_neg (fun h=>hm (.inr (.inl h))),if_neg (fun h=>hm (.inr (.inr (.inl h)))),if_neg (fun h=>hm (.inr (.inr (.inr h))))]
   ·rw [if_neg hc]
theorem zlI {s:ByteArray} (hs:zy s=true) {n:Nat} (hn:n<=9) {c:Nat} (hc:1<=c/\c<=4):zdT (zhi c) (32::(zb4 s n++ [32]))=decide (zb4 s n∈zdE c):=by
 rw [zje,decide_eq_decide];refine zha ?_ _ (fun w hw=>?_)
 ·unfold zb4
  intro h;rw [List.mem_append]at h;rcases h with h|h
  ·exact(zgc hs).2 h
  ·have: ∀k,k<=9->(32:UInt8)∉ [47,UInt8.ofNat (48+k)]:=by decide
   exact this n hn h
 ·refine zza (zzp.1 zio w ?_)
  rw [List.mem_append,List.mem_append,List.mem_append];unfold zdE at hw;rcases(show c=1\/c=2\/c=3\/c=4 by omega)with rfl|rfl|rfl|rfl
  ·exact .inl hw
  ·exact .inr (.inl hw)
  ·exact .inr (.inr (.inl hw))
  ·exact .inr (.inr (.inr hw))
theorem zoG {k b:Nat} (hk:0<k):zba k b=decide (97<=b/\b<=122\/65<=b/\b<=90\/48<=b/\b<=57\/b=95\/b=64):=by
 unfold zba;rw [decide_eq_decide];constructor
 ·rintro(h|⟨_,h⟩)
  ·exact .inl h
  ·exact .inr h
 ·rintro(h|h)
  ·exact .inl h
  ·exact .inr ⟨hk,h⟩
theorem zm4 (b:Nat):zba 0 b=decide (97<=b/\b<=122):=by
 unfold zba;rw [decide_eq_decide];constructor
 ·rintro(h|⟨h,_⟩)
  ·exact h
  ·omega
 ·exact .inl
theorem zdv (s:ByteArray) (w:World) (hs:s.size<=maxLen):Calls Tryz.prog 71 #[.string s] w fun e w'=>e= .returned (.bool (zy s))/\w=w':=by
 unfold maxLen at hs;by_cases h0:s.size<1
 ·exact zz120
 ·by_cases h1:32<s.size
  ·exact zz120
  ·have hpos:0<s.size:=by omega
   have HB:=zzH (@zfT s 0 hpos);have HZ:=zzH (zm4 (s[0]'hpos).toNat);by_cases c0:(s[0]'hpos).toNat<97
   ·exact zz119
   ·by_cases c1:122<(s[0]'hpos).toNat
    ·exact zz119
    ·have HK0:Hid (∀j (h:j<s.size),j<1->zba j s[j].toNat=true):=zzH (fun j h hj=>by
      obtain rfl:j=0:=by omega
      rw [HZ.out];exact zzT (by omega))
     go_in;go_wp2_with fail;go_loop [3] (fun iv=> ∃k:Nat,1<=k/\k<=s.size/\iv= .int .i64 k/\Hid (∀j (h:j<s.size),j<k->zba j s[j].toNat=true)) (fun iv=>s.size-(intOf iv).toNat)
     case atStart=>exact⟨1,zzL _,by omega,by go_num,HK0⟩
     case round=>
      obtain⟨k,hk1,hk,rfl,HK⟩:=hrel;clear c0 c1;by_cases hlt:k<s.size
      ·have HP:=zzH (zoG (b:=s[k].toNat) hk1)
       have HBK:=zzH (@zfT s k hlt)
       have HN:Hid (zba k s[k].toNat=true-> ∀j (h:j<s.size),j<k+1->zba j s[j].toNat=true):=zzH (fun hne j h hj=>by
        rcases Nat.eq_or_lt_of_le (Nat.le_of_lt_succ hj)with e|e
        ·subst e;exact hne
        ·exact HK.out j h e)
       go_upto_region 7 with fail;generalize s[k].toNat=b at *;have hcl:(97<=b/\b<=122)\/(65<=b/\b<=90)\/(48<=b/\b<=57)\/(b=95)\/(b=64)\/(123<=b)\/(91<=b/\b<=96/\b≠95)\/(58<=b/\b<=63)\/(b<48):=by omega
       rcases hcl with hc|hc|hc|hc|hc|hc|hc|hc|hc
       ·have e0:decide ((97:Int)<=(b:Int))=true:=zzT (by omega)
        have e1:decide ((b:Int)<=122)=true:=zzT (by omega);have e2:decide ((65:Int)<=(b:Int))=true:=zzT (by omega);have e3:decide ((b:Int)<=90)=false:=zzD (by omega);exact zz118
       ·have e0:decide ((97:Int)<=(b:Int))=false:=zzD (by omega)
        have e1:decide ((b:Int)<=122)=true:=zzT (by omega);have e2:decide ((65:Int)<=(b:Int))=true:=zzT (by omega);have e3:decide ((b:Int)<=90)=true:=zzT (by omega);exact zz118
       ·have e0:decide ((97:Int)<=(b:Int))=false:=zzD (by omega)
        have e1:decide ((b:Int)<=122)=true:=zzT (by omega);have e2:decide ((65:Int)<=(b:Int))=false:=zzD (by omega);have e3:decide ((b:Int)<=90)=true:=zzT (by omega);have e4:decide ((48:Int)<=(b:Int))=true:=zzT (by omega);have e5:decide ((b:Int)<=57)=true:=zzT (by omega);have e6:((b:Int)!=95)=true:=by rw [bne_iff_ne];omega
        exact zz200
       ·have e0:decide ((97:Int)<=(b:Int))=false:=zzD (by omega)
        have e1:decide ((b:Int)<=122)=true:=zzT (by omega);have e2:decide ((65:Int)<=(b:Int))=true:=zzT (by omega);have e3:decide ((b:Int)<=90)=false:=zzD (by omega);have e4:decide ((48:Int)<=(b:Int))=true:=zzT (by omega);have e5:decide ((b:Int)<=57)=false:=zzD (by omega);have e6:((b:Int)!=95)=false:=by rw [bne_eq_false_iff_eq];omega
        exact zz200
       ·have e0:decide ((97:Int)<=(b:Int))=false:=zzD (by omega)
        have e1:decide ((b:Int)<=122)=true:=zzT (by omega);have e2:decide ((65:Int)<=(b:Int))=false:=zzD (by omega);have e3:decide ((b:Int)<=90)=true:=zzT (by omega);have e4:decide ((48:Int)<=(b:Int))=true:=zzT (by omega);have e5:decide ((b:Int)<=57)=false:=zzD (by omega);have e6:((b:Int)!=95)=true:=by rw [bne_iff_ne];omega
        have e7:((b:Int)!=64)=false:=by rw [bne_eq_false_iff_eq];omega
        have HN2:=zzH (HN.out (by rw [HP.out];exact zzT (by omega)));clear hc HP HBK HN;go_wp2_with fail;go_round
        case rel=>exact⟨k+1,by omega,by omega,by go_num,HN2⟩
        case measure=>simp [intOf];omega
       ·have e0:decide ((97:Int)<=(b:Int))=true:=zzT (by omega)
        have e1:decide ((b:Int)<=122)=false:=zzD (by omega);exact zz117
       ·have e0:decide ((97:Int)<=(b:Int))=false:=zzD (by omega)
        have e1:decide ((b:Int)<=122)=true:=zzT (by omega);exact zz117
       ·have e0:decide ((97:Int)<=(b:Int))=false:=zzD (by omega)
        have e1:decide ((b:Int)<=122)=true:=zzT (by omega);have e2:decide ((65:Int)<=(b:Int))=false:=zzD (by omega);have e3:decide ((b:Int)<=90)=true:=zzT (by omega);have e4:decide ((48:Int)<=(b:Int))=true:=zzT (by omega);have e5:decide ((b:Int)<=57)=false:=zzD (by omega);exact zz199
       ·have e0:decide ((97:Int)<=(b:Int))=false:=zzD (by omega)
        have e1:decide ((b:Int)<=122)=true:=zzT (by omega);have e2:decide ((65:Int)<=(b:Int))=false:=zzD (by omega);have e3:decide ((b:Int)<=90)=true:=zzT (by omega);have e4:decide ((48:Int)<=(b:Int))=false:=zzD (by omega);have e5:decide ((b:Int)<=57)=true:=zzT (by omega);exact zz199
      ·have E:Hid (zy s=true):=zzH (zhp hpos (by omega) (fun j h=>HK.out j h (by omega)))
       exact zz121
theorem zl9 (s p:ByteArray) (w:World) (hs:s.size<=100000) (hp:p.size<=100000):
  Calls Tryz.prog 111 #[.string s,.string p] w fun e w'=>e= .returned (.bool (zdT s.data.toList p.data.toList))/\w=w':=by
 have hsl:s.data.toList.length=s.size:=by simp
 have hpl:p.data.toList.length=p.size:=by simp
 have HY:Hid (∀k,k+p.size<=s.size->(s.data.toList.drop k).take p.size=p.data.toList->zdT s.data.toList p.data.toList=true):=zzH (fun k hk h=>by
  unfold zdT;exact zzT ⟨k,by omega,by omega,by rw [hpl];exact h⟩)
 have HN:Hid ((∀j,j+p.size<=s.size->(s.data.toList.drop j).take p.size≠p.data.toList)->zdT s.data.toList p.data.toList=false):=zzH (fun h=>by
  unfold zdT;refine zzD ?_;rintro⟨i,_,h2,h3⟩;rw [hpl]at h2 h3;exact h i (by omega) h3)
 clear hsl hpl;generalize zdT s.data.toList p.data.toList=r at *;go_in;go_wp2_with fail;go_loop [5] (fun iv=> ∃k:Nat,k<=s.size+1/\iv= .int .i64 k/\Hid (∀j,j<k->j+p.size<=s.size->(s.data.toList.drop j).take p.size≠p.data.toList)) (fun iv=>s.size+1-(intOf iv).toNat)
 case atStart=>exact⟨0,zzZ _,rfl,zzH (fun j h=>absurd h (zzC _))⟩
 case round=>
  obtain⟨k,hk,rfl,HK⟩:=hrel;by_cases hlt:k+p.size<=s.size
  ·have hsub:(s.extract k (k+p.size)).toList=(s.data.toList.drop k).take p.size:=by
    rw [zzq19,Lib.extract_data];rw [show k+p.size-k=p.size by omega]
   have HSUB:=zzH hsub
   have HSN:Hid ((s.data.toList.drop k).take p.size≠p.data.toList-> ∀j,j<k+1->j+p.size<=s.size->(s.data.toList.drop j).take p.size≠p.data.toList):=zzH (fun hne j hj hjs=>by
    rcases Nat.eq_or_lt_of_le (Nat.le_of_lt_succ hj)with e|e
    ·subst e;exact hne
    ·exact HK.out j e hjs)
   clear hsub;by_cases he:(s.data.toList.drop k).take p.size=p.data.toList
   ·have E:Hid (r=true):=zzH (HY.out k hlt he)
    have ht:((s.extract k (k+p.size)).toList==p.toList)=true:=by rw [HSUB.out,he,zzq19];exact beq_self_eq_true _
    clear he;exact zz121
   ·have HN2:=zzH (HSN.out he)
    have ht:((s.extract k (k+p.size)).toList==p.toList)=false:=by rw [HSUB.out,zzq19,zzq1];exact he
    clear he;go_wp2_with fail;go_round
    case rel=>exact⟨k+1,by omega,by go_num,HN2⟩
    case measure=>simp [intOf];omega
  ·have E:Hid (r=false):=zzH (HN.out (fun j hj=>HK.out j (by omega) hj))
   exact zz121
def zfi (c:Nat):ByteArray:=⟨(zhi c).toArray⟩
theorem zk7 (c:Nat) (h:1<=c/\c<=4) (w:World):Calls Tryz.prog 112 #[.int .i64 c] w fun e w'=>e= .returned (.string (zfi c))/\w=w':=by
 rcases(show c=1\/c=2\/c=3\/c=4 by omega)with rfl|rfl|rfl|rfl
 all_goals
  go_in;go_wp2;go_ret;exact⟨by kernel_rfl,rfl⟩
theorem zjD: ∀c,c<=4->(zfi c).size<=1000:=by decide +kernel
theorem zn0 (s:ByteArray) (n:Int):zQ s n=(if n=1 then(s.toList== [45]||(s.toList== [98,110,111,116]||s.toList== [110,111,116]))else if n=2 then(s.toList== [45]||opTwo.any (fun x=>s.toList==x))else false):=by
 unfold zQ;by_cases a:(s.toList== [45])=true
 ·rw [if_pos a,a]
  by_cases h1:n=1
  ·subst h1;rfl
  ·rw [if_neg h1]
   by_cases h2:n=2
   ·subst h2;rfl
   ·rw [if_neg h2,zzq1.2 h1,zzq1.2 h2];rfl
 ·rw [if_neg a]
  have a':(s.toList== [45])=false:=by simpa using a
  rw [a',zzq9,zzq9];by_cases b:(s.toList== [98,110,111,116]||s.toList== [110,111,116])=true
  ·rw [if_pos b,b]
   by_cases h1:n=1
   ·subst h1;rfl
   ·rw [if_neg h1,zzq1.2 h1]
    by_cases h2:n=2
    ·rw [if_pos h2]
     symm;rw [Bool.or_eq_true]at b;rw [List.any_eq_false];intro x hx;rcases b with b|b
     ·rw [eq_of_beq b]
      have:opTwo.all (fun x=>!([98,110,111,116]==x))=true:=by decide
      have:=zzp.1 this x hx
      simpa using this
     ·rw [eq_of_beq b]
      have:opTwo.all (fun x=>!([110,111,116]==x))=true:=by decide
      have:=zzp.1 this x hx
      simpa using this
    ·rw [if_neg h2]
  ·rw [if_neg b]
   have b':(s.toList== [98,110,111,116]||s.toList== [110,111,116])=false:=by simpa using b
   rw [b'];by_cases h1:n=1
   ·subst h1
    rw [if_pos rfl];split<;>rfl
   ·rw [if_neg h1]
    by_cases h2:n=2
    ·subst h2
     rw [if_pos rfl];split
     ·rename_i h;rw [h];rfl
     ·rename_i h;rw [Bool.eq_false_iff.2 h]
    ·rw [if_neg h2]
     split
     ·exact zzB.2 h2
     ·rfl
theorem zdn (n a b:Int) (w:World):Calls Tryz.prog 165 #[.int .i64 n,.int .i64 a,.int .i64 b] w fun e w'=>e= .returned (.bool (wi n a b))/\w=w':=by
 exact zz151
def zbB (k i g:Int) (n f:ByteArray) (a:Int) (l:Nat) (y:ByteArray) (z:Int):Bool:=zI k&&(zI i&&(zI g&&(zS n&&(zS f&&(zI a&&(decide (l=0)&&(zS y&&zI z)))))))
theorem znj (t:Tm):zbB 0 (zf t).int (zf t).gen (zf t).name (zf t).func (zf t).arity (zf t).items.length (zf t).bytes (zf t).bits=zcd 1 (ze4 t) zeh:=by
 rw [zib];unfold zbB ze4 zL;simp only [Tm.kind,Tm.int,Tm.gen,Tm.name,Tm.func,Tm.arity,Tm.items,Tm.bytes,Tm.bits]
 ac_rfl
theorem zc2 (t:Tm):(okK t&&zbB 0 (zf t).int (zf t).gen (zf t).name (zf t).func (zf t).arity (zf t).items.length (zf t).bytes (zf t).bits)=zc0 t:=by rw [znj];exact zme 0 t
theorem zdY (s:ByteArray):(s.toList== [])=zS s:=by
 have:=zo4 s;rw [zzq19 (ByteArray.mk #[])]at this;exact this
theorem zct (k i g:Int) (n f:ByteArray) (a:Int) (so:zzA) (l c:Nat) (y:ByteArray) (z:Int) (w:World) (hl:l<=9223372036854775807):
  Calls Tryz.prog 163 #[.agg #[.int .i64 k,.int .i64 i,.int .i64 g,.string n,.string f,.int .i64 a,.slice so l c,.string y,.int .i64 z]] w fun e w'=>e= .returned (.bool (zbB k i g n f a l y z))/\Below w.heap.size w w':=by
 have HB:=zzH ((zzR w.heap.size w).alloc (zzL _) (.cells #[.int .i64 k,.int .i64 i,.int .i64 g,.string n,.string f,.int .i64 a,.slice so l c,.string y,.int .i64 z] 110));have HZ:Hid (zbB k i g n f a l y z=(zI k&&(zI i&&(zI g&&(zS n&&(zS f&&(zI a&&(decide (l=0)&&(zS y&&zI z))))))))):=zzH rfl;generalize zbB k i g n f a l y z=r at *
 cases h0:zI k with
 |false=>
  have t0:(k==0)=false:=(zee k).trans h0;have E:Hid (r=false):=zzH (by rw [HZ.out,h0];rfl);clear h0;exact zz152
 |true=>
  have t0:(k==0)=true:=(zee k).trans h0
  cases h1:zI i with
  |false=>
   have t1:(i==0)=false:=(zee i).trans h1;have E:Hid (r=false):=zzH (by rw [HZ.out,h0,h1];rfl);clear h0 h1;exact zz152
  |true=>
   have t1:(i==0)=true:=(zee i).trans h1
   cases h2:zI g with
   |false=>
    have t2:(g==0)=false:=(zee g).trans h2;have E:Hid (r=false):=zzH (by rw [HZ.out,h0,h1,h2];rfl);clear h0 h1 h2;exact zz152
   |true=>
    have t2:(g==0)=true:=(zee g).trans h2
    cases h3:zS n with
    |false=>
     have t3:(n.toList== [])=false:=(zdY n).trans h3;have u3:n.toList.isEmpty=false:=by rw [<-t3];cases n.toList<;>rfl
     have E:Hid (r=false):=zzH (by rw [HZ.out,h0,h1,h2,h3];rfl);clear h0 h1 h2 h3;exact zz152
    |true=>
     have t3:(n.toList== [])=true:=(zdY n).trans h3;have u3:n.toList.isEmpty=true:=by rw [<-t3];cases n.toList<;>rfl
     cases h4:zS f with
     |false=>
      have t4:(f.toList== [])=false:=(zdY f).trans h4;have u4:f.toList.isEmpty=false:=by rw [<-t4];cases f.toList<;>rfl
      have E:Hid (r=false):=zzH (by rw [HZ.out,h0,h1,h2,h3,h4];rfl);clear h0 h1 h2 h3 h4;exact zz152
     |true=>
      have t4:(f.toList== [])=true:=(zdY f).trans h4;have u4:f.toList.isEmpty=true:=by rw [<-t4];cases f.toList<;>rfl
      cases h5:zI a with
      |false=>
       have t5:(a==0)=false:=(zee a).trans h5;have E:Hid (r=false):=zzH (by rw [HZ.out,h0,h1,h2,h3,h4,h5];rfl);clear h0 h1 h2 h3 h4 h5;exact zz152
      |true=>
       have t5:(a==0)=true:=(zee a).trans h5
       cases h6:decide (l=0)with
       |false=>
        have t6:((l:Int)==0)=false:=by rw [<-h6,Bool.eq_iff_iff,beq_iff_eq,zzq8];omega
        have E:Hid (r=false):=zzH (by rw [HZ.out,h0,h1,h2,h3,h4,h5,h6];rfl);clear h0 h1 h2 h3 h4 h5 h6;exact zz152
       |true=>
        have t6:((l:Int)==0)=true:=by rw [<-h6,Bool.eq_iff_iff,beq_iff_eq,zzq8];omega
        cases h7:zS y with
        |false=>
         have t7:(y.toList== [])=false:=(zdY y).trans h7;have u7:y.toList.isEmpty=false:=by rw [<-t7];cases y.toList<;>rfl
         have E:Hid (r=false):=zzH (by rw [HZ.out,h0,h1,h2,h3,h4,h5,h6,h7];rfl);clear h0 h1 h2 h3 h4 h5 h6 h7;exact zz152
        |true=>
         have t7:(y.toList== [])=true:=(zdY y).trans h7;have u7:y.toList.isEmpty=true:=by rw [<-t7];cases y.toList<;>rfl
         cases h8:zI z with
         |false=>
          have t8:(z==0)=false:=(zee z).trans h8;have E:Hid (r=false):=zzH (by rw [HZ.out,h0,h1,h2,h3,h4,h5,h6,h7,h8];rfl);clear h0 h1 h2 h3 h4 h5 h6 h7 h8;exact zz152
         |true=>
          have t8:(z==0)=true:=(zee z).trans h8;have E:Hid (r=true):=zzH (by rw [HZ.out,h0,h1,h2,h3,h4,h5,h6,h7,h8];rfl);exact zz152
theorem zdd (w:World) (a b:Obj):((w.alloc a).alloc b).heap[w.heap.size+1]?=some b:=by
 have:=zzF (w.alloc a) b
 rwa [show(w.alloc a).heap.size=w.heap.size+1 by simp]at this
def zdW (w:World) (t:Tm) (e:Ending) (w':World):Prop:= ∃so' c',e= .returned (.agg #[.int .i64 0,.int .i64 (zf t).int,.int .i64 (zf t).gen,.string (zf t).name,.string (zf t).func,.int .i64 (zf t).arity,.slice so' (zf t).items.length c',.string (zf t).bytes,.int .i64 (zf t).bits])/\Below w.heap.size w w'
theorem zcu (t:Tm) (so:zzA) (c:Nat) (w:World):Calls Tryz.prog 164 #[.agg (zzt t so c)] w (zdW w t):=by
 unfold zzt;obtain⟨tk,ti,tg,tn,tf,ta,tl,ty,tz⟩:=t;simp only [Tm.kind,Tm.int,Tm.gen,Tm.name,Tm.func,Tm.arity,Tm.items,Tm.bytes,Tm.bits];by_cases h:tk=1\/tk=2\/tk=3\/tk=4\/tk=5\/tk=6\/tk=7\/tk=9\/tk=10
 ·rcases h with rfl|rfl|rfl|rfl|rfl|rfl|rfl|rfl|rfl
  ·have HN:=zzH (zdd w (.cells #[.int .i64 0,.int .i64 0,.int .i64 tg,.string tn,.string tf,.int .i64 ta,.slice so tl.length c,.string ty,.int .i64 tz] 110) (.cells #[.int .i64 0,.int .i64 0,.int .i64 tg,.string tn,.string tf,.int .i64 ta,.slice so tl.length c,.string ty,.int .i64 tz] 110))
   have HB:Hid (Below w.heap.size w ((w.alloc (.cells #[.int .i64 0,.int .i64 0,.int .i64 tg,.string tn,.string tf,.int .i64 ta,.slice so tl.length c,.string ty,.int .i64 tz] 110)).alloc (.cells #[.int .i64 0,.int .i64 0,.int .i64 tg,.string tn,.string tf,.int .i64 ta,.slice so tl.length c,.string ty,.int .i64 tz] 110))):=zzH ((zzE _ _).alloc (by simp) _);exact zz155
  ·have HN:=zzH (zdd w (.cells #[.int .i64 0,.int .i64 ti,.int .i64 tg,.string ⟨#[]⟩,.string tf,.int .i64 ta,.slice so tl.length c,.string ty,.int .i64 tz] 110) (.cells #[.int .i64 0,.int .i64 ti,.int .i64 tg,.string ⟨#[]⟩,.string tf,.int .i64 ta,.slice so tl.length c,.string ty,.int .i64 tz] 110))
   have HB:Hid (Below w.heap.size w ((w.alloc (.cells #[.int .i64 0,.int .i64 ti,.int .i64 tg,.string ⟨#[]⟩,.string tf,.int .i64 ta,.slice so tl.length c,.string ty,.int .i64 tz] 110)).alloc (.cells #[.int .i64 0,.int .i64 ti,.int .i64 tg,.string ⟨#[]⟩,.string tf,.int .i64 ta,.slice so tl.length c,.string ty,.int .i64 tz] 110))):=zzH ((zzE _ _).alloc (by simp) _);exact zz155
  ·exact zz153
  ·have HN:=zzH (zdd w (.cells #[.int .i64 0,.int .i64 0,.int .i64 0,.string ⟨#[]⟩,.string tf,.int .i64 0,.slice none 0 0,.string ty,.int .i64 tz] 110) (.cells #[.int .i64 0,.int .i64 0,.int .i64 0,.string ⟨#[]⟩,.string tf,.int .i64 0,.slice none 0 0,.string ty,.int .i64 tz] 110))
   have HB:Hid (Below w.heap.size w ((w.alloc (.cells #[.int .i64 0,.int .i64 0,.int .i64 0,.string ⟨#[]⟩,.string tf,.int .i64 0,.slice none 0 0,.string ty,.int .i64 tz] 110)).alloc (.cells #[.int .i64 0,.int .i64 0,.int .i64 0,.string ⟨#[]⟩,.string tf,.int .i64 0,.slice none 0 0,.string ty,.int .i64 tz] 110))):=zzH ((zzE _ _).alloc (by simp) _);go_in;go_wp2_with fail;refine zzj (results_cell_row rfl _ _ (w.heap.size+1) _ _ _ _ rfl HN.out Tryz.underlying110 rfl (by kernel_rfl)) rfl ?_;exact⟨none,0,rfl,HB.out⟩
  ·have HN:=zzH (zdd w (.cells #[.int .i64 0,.int .i64 ti,.int .i64 tg,.string ⟨#[]⟩,.string ⟨#[]⟩,.int .i64 0,.slice so tl.length c,.string ty,.int .i64 tz] 110) (.cells #[.int .i64 0,.int .i64 ti,.int .i64 tg,.string ⟨#[]⟩,.string ⟨#[]⟩,.int .i64 0,.slice so tl.length c,.string ty,.int .i64 tz] 110))
   have HB:Hid (Below w.heap.size w ((w.alloc (.cells #[.int .i64 0,.int .i64 ti,.int .i64 tg,.string ⟨#[]⟩,.string ⟨#[]⟩,.int .i64 0,.slice so tl.length c,.string ty,.int .i64 tz] 110)).alloc (.cells #[.int .i64 0,.int .i64 ti,.int .i64 tg,.string ⟨#[]⟩,.string ⟨#[]⟩,.int .i64 0,.slice so tl.length c,.string ty,.int .i64 tz] 110))):=zzH ((zzE _ _).alloc (by simp) _);exact zz155
  ·exact zz153
  ·exact zz154
  ·exact zz154
  ·have HN:=zzH (zdd w (.cells #[.int .i64 0,.int .i64 ti,.int .i64 tg,.string tn,.string tf,.int .i64 ta,.slice so tl.length c,.string ⟨#[]⟩,.int .i64 0] 110) (.cells #[.int .i64 0,.int .i64 ti,.int .i64 tg,.string tn,.string tf,.int .i64 ta,.slice so tl.length c,.string ⟨#[]⟩,.int .i64 0] 110))
   have HB:Hid (Below w.heap.size w ((w.alloc (.cells #[.int .i64 0,.int .i64 ti,.int .i64 tg,.string tn,.string tf,.int .i64 ta,.slice so tl.length c,.string ⟨#[]⟩,.int .i64 0] 110)).alloc (.cells #[.int .i64 0,.int .i64 ti,.int .i64 tg,.string tn,.string tf,.int .i64 ta,.slice so tl.length c,.string ⟨#[]⟩,.int .i64 0] 110))):=zzH ((zzE _ _).alloc (by simp) _);exact zz155
 ·have b1:(tk==1)=false:=zzB.2 (fun e=>h (by omega))
  have b2:(tk==2)=false:=zzB.2 (fun e=>h (by omega));have b3:(tk==3)=false:=zzB.2 (fun e=>h (by omega));have b4:(tk==4)=false:=zzB.2 (fun e=>h (by omega));have b5:(tk==5)=false:=zzB.2 (fun e=>h (by omega));have b6:(tk==6)=false:=zzB.2 (fun e=>h (by omega));have b7:(tk==7)=false:=zzB.2 (fun e=>h (by omega));have b9:(tk==9)=false:=zzB.2 (fun e=>h (by omega));have b10:(tk==10)=false:=zzB.2 (fun e=>h (by omega))
  have HQ:Hid (zf (Tm.mk tk ti tg tn tf ta tl ty tz)=Tm.mk tk ti tg tn tf ta tl ty tz):=zzH (by
   simp only [not_or]at h;obtain⟨h1,h2,h3,h4,h5,h6,h7,h9,h10⟩:=h;unfold zf;simp only [Tm.kind];simp only [h1,h2,h3,h4,h5,h6,h7,h9,h10,if_false,or_self]
   try(split<;>rfl))
  clear h;have HN:=zzH (zdd w (.cells #[.int .i64 0,.int .i64 ti,.int .i64 tg,.string tn,.string tf,.int .i64 ta,.slice so tl.length c,.string ty,.int .i64 tz] 110) (.cells #[.int .i64 0,.int .i64 ti,.int .i64 tg,.string tn,.string tf,.int .i64 ta,.slice so tl.length c,.string ty,.int .i64 tz] 110));have HB:Hid (Below w.heap.size w ((w.alloc (.cells #[.int .i64 0,.int .i64 ti,.int .i64 tg,.string tn,.string tf,.int .i64 ta,.slice so tl.length c,.string ty,.int .i64 tz] 110)).alloc (.cells #[.int .i64 0,.int .i64 ti,.int .i64 tg,.string tn,.string tf,.int .i64 ta,.slice so tl.length c,.string ty,.int .i64 tz] 110))):=zzH ((zzE _ _).alloc (by simp) _);go_in;go_wp2_with fail;refine zzj (results_cell_row rfl _ _ (w.heap.size+1) _ _ _ _ rfl HN.out Tryz.underlying110 rfl (by kernel_rfl)) rfl ?_;exact⟨so,c,by rw [HQ.out];rfl,HB.out⟩
theorem zop (j:Nat):(2:Nat)^(j+1)=2^j*2:=Nat.pow_succ ..
theorem zpD: ∀j,j<=7->(2:Nat)^j<=128/\1<=(2:Nat)^j:=by decide
theorem zm0 (k i g:Int) (n f:ByteArray) (a:Int) (so:zzA) (l c:Nat) (y:ByteArray) (z:Int) (w:World) (hy:y.size<=9223372036854775807) (hz:I64 z):
  Calls Tryz.prog 166 #[.agg #[.int .i64 k,.int .i64 i,.int .i64 g,.string n,.string f,.int .i64 a,.slice so l c,.string y,.int .i64 z]] w fun e w'=>e= .returned (.bool (zcz y z))/\Below w.heap.size w w':=by
 have HB:=zzH ((zzR w.heap.size w).alloc (zzL _) (.cells #[.int .i64 k,.int .i64 i,.int .i64 g,.string n,.string f,.int .i64 a,.slice so l c,.string y,.int .i64 z] 110));obtain⟨za,zb⟩:=hz;by_cases h0:z<0
 ·exact zz156
 ·by_cases h1:16384<z
  ·exact zz156
  ·have z0:0<=z:=by omega
   have z1:z<=16384:=by omega
   have E0:zcz y z=(decide ((y.size:Int)=(z+7)/8)&&(decide (z%8=0)||decide (zeV y%2^(8-z%8).toNat=0))):=by unfold zcz;rw [zd0 z0 z1];rfl
   clear h0 h1;by_cases hl:(y.size:Int)=(z+7)/8
   ·have hlb:((y.size:Int)!=(z+7)/8)=false:=by rw [bne_eq_false_iff_eq];exact hl
    by_cases hr:z%8=0
    ·have E:Hid (zcz y z=true):=zzH (by rw [E0,decide_eq_true hl,decide_eq_true hr];rfl)
     have hrb:(z%8==0)=true:=by rw [beq_iff_eq];exact hr
     clear hl hr E0;exact zz152
    ·obtain⟨m,hm⟩: ∃m,y.size=m+1:=⟨y.size-1,by omega⟩
     obtain⟨r,hrr⟩: ∃r:Nat,z%8=(r:Int):=⟨(z%8).toNat,by omega⟩;have hr1:1<=r:=by omega
     have hr7:r<=7:=by omega
     have hmi:m<y.size:=by omega
     have E:Hid (zcz y z=decide (y[m].toNat%2^(8-r)=0)):=zzH (by
      rw [E0,decide_eq_true hl,decide_eq_false hr,zgy hm,hrr,show(8-(r:Int)).toNat=8-r by omega]
      rfl)
     have hrb:(z%8==0)=false:=zzB.2 hr;have hw1:IntKind.i64.wrap ((y.size:Int)-1)=(m:Int):=by rw [zzq2];omega
     have hidx:(y.size:Int)-1=(m:Int):=by omega
     have HM:=zzH hm;clear hr E0 hl hm;go_in;go_wp2_with fail;generalize hbb:y[m].toNat=lb at *;have hlb2:lb<256:=by rw [<-hbb];exact UInt8.toNat_lt _
     have HRR:=zzH hrr;have hwl:wrap64 ((lb:Nat):Int)=(lb:Int):=by unfold wrap64;omega
     have HWL:=zzH hwl;clear hbb hrr hw1 hidx hrb hlb hwl;go_loop [4,5] (fun uv iv=> ∃(j p:Nat),r+j<=8/\iv= .int .i64 ((r+j:Nat):Int)/\uv= .int .i64 (p:Int)/\Hid (p=2^j)/\1<=p/\p<=256) (fun _ iv=>8-(intOf iv).toNat)
     case atStart=>exact⟨0,1,by omega,by(have h9:=HRR.out;go_num),by go_num,zzH rfl,by decide,by decide⟩
     case round=>
      obtain⟨j,p,hj,rfl,rfl,HP,hp1,hp2⟩:=hrel;by_cases hlt:r+j<8
      ·have hp7:p<=128:=by rw [HP.out];exact(zpD j (by omega)).1
       have HP2:Hid (p*2=2^(j+1)):=zzH (by rw [zop,HP.out]);go_wp2_with fail;go_round
       case rel=>exact⟨j+1,p*2,by omega,by go_num,by go_num,HP2,by omega,by omega⟩
       case measure=>simp [intOf];omega
      ·have hj8:j=8-r:=by omega
       have E2:Hid (zcz y z=(((lb:Int)%(p:Int))==0)):=zzH (by
        rw [E.out,HP.out,hj8,Bool.eq_iff_iff,zzq8,beq_iff_eq];constructor
        ·intro h;exact_mod_cast h
        ·intro h;exact_mod_cast h)
       have hp0:((p:Int)==0)=false:=by rw [zzq1];omega
       clear hj8;go_wp2_with fail
       all_goals go_ret
       all_goals exact⟨zl (by rw [HWL.out,Int.tmod_eq_emod_of_nonneg (by omega)];exact E2.out.symm),HB.out⟩
   ·have hlb:((y.size:Int)!=(z+7)/8)=true:=by rw [bne_iff_ne];exact hl
    have E:Hid (zcz y z=false):=zzH (by rw [E0,decide_eq_false hl];rfl);clear hl E0;exact zz152
end Go.Proofs.YthajedcbgnloeaaGreatDoor
