import Derived.Test.YtepjanajflkakaaGreatDoorW06
namespace Go.Proofs.YtepjanajflkakaaGreatDoor
open Go.RowKit
set_option linter.unusedVariables false
set_option linter.unusedSimpArgs false
set_option maxRecDepth 100000
set_option maxHeartbeats 0
open Go.RowKit Go.Maps Go.WideMaps
def zdv (last:Int) (f:RFunc):Bool:=zy f.name&&(wi f.arity 0 16&&wi f.entry 0 last)
def zcn (l:List RFunc) (s:ByteArray) (a:Int):Bool:=l.any (fun f=>f.name.data.toList==s.data.toList&&f.arity==a)
def zcU (last:Int) (funcs:List RFunc):Bool:=decide (∀k,(h:k<funcs.length)->zdv last funcs[k]=true/\zcn (funcs.take k) funcs[k].name funcs[k].arity=false)
def zcg (last:Int) (f:RFun):Bool:=wi f.arity 0 16&&(wi f.free 0 200&&wi f.entry 0 last)
def zgU (u:RUnit):Bool:=zy u.mdl&&(decide (1<=u.vsn)&&(decide (u.vsn<=2147483647)&&(decide (0<=(u.code.length:Int)-1)&&(decide ((u.code.length:Int)-1<524288)&&(decide (u.lits.length<=65535)&&(decide (u.funcs.length<=200)&&decide (u.funs.length<=1000)))))))
def zF (f:Nat) (u:RUnit):Bool:=zgU u&&(u.lits.all (zbc f)&&(zcU ((u.code.length:Int)-1) u.funcs&&u.funs.all (zcg ((u.code.length:Int)-1))))
theorem ziC {last:Int} {funcs:List RFunc} {k:Nat} (h:k<funcs.length) (e:zdv last funcs[k]=false\/zcn (funcs.take k) funcs[k].name funcs[k].arity=true):zcU last funcs=false:=by
 unfold zcU
 exact zzD (fun hh=>by
  obtain⟨h1,h2⟩:=hh k h;rcases e with e|e
  ·rw [h1]at e;cases e
  ·rw [h2]at e;cases e)
theorem ziv {funcs:List RFunc} {k:Nat} (h:k<funcs.length) (s:ByteArray) (a:Int):zcn (funcs.take (k+1)) s a=((funcs[k].name.data.toList==s.data.toList&&funcs[k].arity==a)||zcn (funcs.take k) s a):=by
 unfold zcn;rw [List.take_add_one,zzq4 h,List.any_append,Bool.or_comm];simp
theorem zhL (f B:Nat) (u:RUnit) (lo fo go co:zzA) (lc fc gc cc:Nat) (w:World) (hu:UBox w B u lo fo go co lc fc gc cc) (hp:UP w u lo fo go co) (hlits:SlAt w 9 (TmAt w (f+1)) lo u.lits) (hcap: ∀t∈u.lits,(zv (f+1) t:Int)<=1152921504606846976):
  Calls Tryz.prog 38 #[.pointer (some ⟨B,0,none⟩)] w fun e w'=>e= .returned (.bool (zF (f+1) u))/\Below w.heap.size w w':=by
 refine zzK4 hu hp hlits hcap fun HU HP HL HCAP=>?_;have c0:=hu.c0;have c5:=hu.c5;have hnm:=fun wx=>zcb u.mdl wx
 have HE:Hid (zF (f+1) u=(zgU u&&(u.lits.all (zbc (f+1))&&(zcU ((u.code.length:Int)-1) u.funcs&&u.funs.all (zcg ((u.code.length:Int)-1)))))):=zzH rfl;have HA:Hid (zgU u=(zy u.mdl&&(decide (1<=u.vsn)&&(decide (u.vsn<=2147483647)&&(decide (0<=(u.code.length:Int)-1)&&(decide ((u.code.length:Int)-1<524288)&&(decide (u.lits.length<=65535)&&(decide (u.funcs.length<=200)&&decide (u.funs.length<=1000))))))))):=zzH rfl;have hla:IntKind.i64.wrap ((u.code.length:Int)-1)=(u.code.length:Int)-1:=by have:=hp.codeLen;rw [zzq5];omega
 have hmm:= @run_makeMap Tryz.prog;have HMM:=zzH hmm;clear hmm;have hla64:wrap64 ((u.code.length:Int)-1)=(u.code.length:Int)-1:=by have:=hp.codeLen;first|exact hla|(unfold wrap64;omega)
 have hrng: -1<=(u.code.length:Int)-1/\(u.code.length:Int)-1<=9223372036854775807:=by have:=hp.codeLen;omega
 clear hu hp hlits hcap hla;generalize hlast:(u.code.length:Int)-1=last at *;obtain⟨hrng1,hrng2⟩:=hrng;have hlw:wrap64 ((u.code.length:Int)-1)=last:=by rw [hlast];exact hla64
 clear hla64;have HLAST:=zzH hlast;clear hlast;by_cases hn:zy u.mdl=true
 rotate_left
 ·skip
  have hnf:zy u.mdl=false:=by cases h:zy u.mdl with
   |false=>rfl
   |true=>exact absurd h hn
  rw [hnf]at hnm;have E:Hid (zF (f+1) u=false):=zzH (by rw [HE.out,HA.out,hnf];rfl);clear hn hnf;exact zz53
 rw [hn]at hnm;by_cases hv1:1<=u.vsn
 rotate_left
 ·skip
  have hv1f:u.vsn<1:=by omega
  have E:Hid (zF (f+1) u=false):=zzH (by rw [HE.out,HA.out,decide_eq_false (p:=1<=u.vsn) (by omega)];simp);clear hv1;exact zz53
 by_cases hv2:u.vsn<=2147483647
 rotate_left
 ·skip
  have hv2f:2147483647<u.vsn:=by omega
  have E:Hid (zF (f+1) u=false):=zzH (by rw [HE.out,HA.out,decide_eq_false (p:=u.vsn<=2147483647) (by omega)];simp);clear hv2;exact zz53
 by_cases hl0:0<=last
 rotate_left
 ·skip
  have hl0f:last<0:=by omega
  have E:Hid (zF (f+1) u=false):=zzH (by rw [HE.out,HA.out,decide_eq_false (p:=0<=last) (by omega)];simp);clear hl0;exact zz53
 by_cases hl1:last<524288
 rotate_left
 ·skip
  have hl1f:524288<=last:=by omega
  have E:Hid (zF (f+1) u=false):=zzH (by rw [HE.out,HA.out,decide_eq_false (p:=last<524288) (by omega)];simp);clear hl1;exact zz53
 by_cases hq1:(u.lits.length:Int)<=65535
 rotate_left
 ·skip
  have hq1f:65535<(u.lits.length:Int):=by omega
  have E:Hid (zF (f+1) u=false):=zzH (by rw [HE.out,HA.out,decide_eq_false (p:=u.lits.length<=65535) (by omega)];simp);clear hq1;exact zz53
 by_cases hq2:(u.funcs.length:Int)<=200
 rotate_left
 ·skip
  have hq2f:200<(u.funcs.length:Int):=by omega
  have E:Hid (zF (f+1) u=false):=zzH (by rw [HE.out,HA.out,decide_eq_false (p:=u.funcs.length<=200) (by omega)];simp);clear hq2;exact zz53
 by_cases hq3:(u.funs.length:Int)<=1000
 rotate_left
 ·skip
  have hq3f:1000<(u.funs.length:Int):=by omega
  have E:Hid (zF (f+1) u=false):=zzH (by rw [HE.out,HA.out,decide_eq_false (p:=u.funs.length<=1000) (by omega)];simp);clear hq3;exact zz53
 have HA1:Hid (zgU u=true):=zzH (by rw [HA.out,hn,decide_eq_true hv1,decide_eq_true hv2,decide_eq_true hl0,decide_eq_true hl1,decide_eq_true (p:=u.lits.length<=65535) (by omega),decide_eq_true (p:=u.funcs.length<=200) (by omega),decide_eq_true (p:=u.funs.length<=1000) (by omega)];rfl);have HE1:Hid (zF (f+1) u=(u.lits.all (zbc (f+1))&&(zcU last u.funcs&&u.funs.all (zcg last)))):=zzH (by rw [HE.out,HA1.out,zzq11]);clear HE HA hn;go_in;go_wp2_with fail;refine(hnm _).mono ?_;rintro e w5 ⟨rfl,hb5⟩;have HU5:=zzH (HU.out.below hb5);have d1:=HU5.out.c1;have d2:=HU5.out.c2;have d3:=HU5.out.c3;have d4:=HU5.out.c4;have HB5:=zzH hb5;have HI:Hid (u.lits.all (zbc (f+1))=(u.lits.drop 0).all (zbc (f+1))):=zzH rfl;clear hb5;go_wp2_with fail;go_loopw [73] (fun i wr=> ∃k:Nat,k<=u.lits.length/\i= .int .i64 k/\Hid (u.lits.all (zbc (f+1))=(u.lits.drop k).all (zbc (f+1)))/\Below w.heap.size w wr) (fun i _=>u.lits.length-(intOf i).toNat)
 case atStart=>exact⟨0,zzZ _,rfl,HI,HB5.out⟩
 case round=>
  obtain⟨k,hk,rfl,HK,hBw⟩:=hrel;rename World=>wr
  by_cases hlt:k<u.lits.length
  ·obtain⟨b1,off1,ai,ci,hao,hb1,q0,q1,q2,q3,q4,q5,q6,q7,q8,hit,hok⟩:=(HL.out.tms hBw).tm hlt
   subst hao;have HST:Hid ((u.lits.drop k).all (zbc (f+1))=(zbc (f+1) u.lits[k]&&(u.lits.drop (k+1)).all (zbc (f+1)))):=zzH (by rw [List.drop_eq_getElem_cons hlt,List.all_cons]);have hbx:Below wr.heap.size wr (wr.alloc (.cells (zzt u.lits[k] ai ci) 116)):=zzE _ _;have hV:=zdH f u.lits[k] ai ci (wr.alloc (.cells (zzt u.lits[k] ai ci) 116)) (hit.tms hbx) hok (HCAP.out _ (zzM hlt));have HBX:=zzH (hBw.trans (hbx.mono hBw.size));clear hit hok hbx hBw;generalize zbc (f+1) u.lits[k]=v at *;generalize u.lits[k]=x at *
   cases v with
   |true=>
    have HK2:Hid (u.lits.all (zbc (f+1))=(u.lits.drop (k+1)).all (zbc (f+1))):=zzH (by rw [HK.out,HST.out,zzq11]);go_wp2_with fail;refine hV.mono ?_;rintro e w6 ⟨rfl,hb6⟩;have HB6:=zzH (HBX.out.trans (hb6.mono HBX.out.size));go_wp2_with fail;go_roundw
    case rel=>exact⟨k+1,by omega,by go_num,HK2,HB6.out⟩
    case measure=>simp [intOf];omega
   |false=>
    have E:Hid (zF (f+1) u=false):=zzH (by rw [HE1.out,HK.out,HST.out];rfl);go_wp2_with fail;refine hV.mono ?_;rintro e w6 ⟨rfl,hb6⟩;have HB6:=zzH (HBX.out.trans (hb6.mono HBX.out.size));go_wp2;go_ret;exact⟨zi E.out.symm,HB6.out⟩
  ·have HE2:Hid (zF (f+1) u=(zcU last u.funcs&&u.funs.all (zcg last))):=zzH (by rw [HE1.out,HK.out,zzq10 (by omega)];rfl)
   have e3:=(HU.out.below hBw).c3;have hBl:=(HU.out.below hBw).lt;have hma:Below wr.heap.size wr (wr.alloc (.map #[] 0)):=zzE _ _;have HSG:=zzH (zkG wr);have HBM:=zzH (hBw.trans (hma.mono hBw.size));have hMge:w.heap.size<=wr.heap.size:=hBw.size;have f3:=(hma.cell (p:=⟨B,3,none⟩) hBl).trans e3;have hmm:=HMM.out;clear hma;go_wp2_with fail;clear hmm;generalize wr.alloc (.map #[] 0)=W at *;generalize wr.heap.size=M at *;clear e3 HMM;have HFN:Hid (∀j,j<0-> ∀h:j<u.funcs.length,zdv last u.funcs[j]=true/\zcn (u.funcs.take j) u.funcs[j].name u.funcs[j].arity=false):=zzH (fun j h=>absurd h (zzC _));have hW:M<W.heap.size:=HSG.out.lt;have HS0:Hid (SigIs W M 0 (fun s a=>zcn (u.funcs.take 0) s a)):=zzH HSG.out;clear HSG;obtain⟨wo,rfl⟩: ∃wo:World,wo=W:=⟨_,rfl⟩;go_loopw [87] (fun i wr=> ∃k:Nat,k<=u.funcs.length/\i= .int .i64 k/\Hid (SigIs wr M k (fun s a=>zcn (u.funcs.take k) s a))/\Hid (∀j,j<k-> ∀h:j<u.funcs.length,zdv last u.funcs[j]=true/\zcn (u.funcs.take j) u.funcs[j].name u.funcs[j].arity=false)/\Below w.heap.size w wr) (fun i _=>u.funcs.length-(intOf i).toNat)
   case atStart=>exact⟨0,zzZ _,rfl,HS0,HFN,HBM.out⟩
   case round=>
    obtain⟨k,hk,rfl,HSK,HFK,hBw⟩:=hrel;rename World=>wr
    by_cases hlt:k<u.funcs.length
    ·obtain⟨b1,off1,hfo,hb1,q0,q1,q2,q3,n1,n2,n3⟩:=(HP.out.below hBw).funcs.func hlt
     subst hfo;have hstep:=ziv hlt;have HSTEP:=zzH hstep;have hno:=ziC (last:=last) hlt;have HNO:=zzH hno
     have HYES:Hid (zdv last u.funcs[k]=true->zcn (u.funcs.take k) u.funcs[k].name u.funcs[k].arity=false-> ∀j,j<k+1-> ∀h:j<u.funcs.length,zdv last u.funcs[j]=true/\zcn (u.funcs.take j) u.funcs[j].name u.funcs[j].arity=false):=zzH (fun h1 h2 j hj h=>by
      rcases Nat.eq_or_lt_of_le (Nat.le_of_lt_succ hj)with e|e
      ·subst e;exact⟨h1,h2⟩
      ·exact HFK.out j e h)
     have hFO:zdv last u.funcs[k]=(zy u.funcs[k].name&&(wi u.funcs[k].arity 0 16&&wi u.funcs[k].entry 0 last)):=rfl;have HFO:=zzH hFO;clear hstep hno hFO;have HBW:=zzH hBw;have hnf:=fun wx=>zcb u.funcs[k].name wx
     have hwa:=fun wx=>zl u.funcs[k].arity 0 16 wx
     have hwe:=fun wx=>zl u.funcs[k].entry 0 last wx
     have hpl:w.heap.size<=wr.heap.size:=hBw.size;unfold maxLen at n1;generalize zdv last u.funcs[k]=fk at *;generalize hsn:zcn (u.funcs.take k) u.funcs[k].name u.funcs[k].arity=sn at *;have HSN:=zzH hsn;clear hsn;generalize zy u.funcs[k].name=vn at *;generalize wi u.funcs[k].arity 0 16=va at *;generalize wi u.funcs[k].entry 0 last=ve at *;generalize u.funcs[k]=g at *;have hbx:=zx wr (.cells #[.string g.name,.int .i64 g.arity,.bool g.pub,.int .i64 g.entry] 106) (.cells #[.string g.name,.int .i64 g.arity] 108);have hr0:=zdk wr (.cells #[.string g.name,.int .i64 g.arity,.bool g.pub,.int .i64 g.entry] 106) (.cells #[.string g.name,.int .i64 g.arity] 108);have hr1:=zcL wr (.cells #[.string g.name,.int .i64 g.arity,.bool g.pub,.int .i64 g.entry] 106) (.cells #[.string g.name,.int .i64 g.arity] 108);refine zzK3 hbx hr0 hr1 fun HBX HR0 HR1=>?_;clear hbx hr0 hr1 hBw
     cases vn with
     |false=>
      have E:Hid (zF (f+1) u=false):=zzH (by rw [HE2.out,HNO.out (.inl (by rw [HFO.out];rfl))];rfl);go_wp2_with fail;refine(hnf _).mono ?_;rintro e w6 ⟨rfl,hb6⟩;have HB6:=zzH (HBW.out.trans ((zd HBX.out hb6).mono HBW.out.size));clear hb6;go_wp2;go_ret;exact⟨zi E.out.symm,HB6.out⟩
     |true=>
      go_wp2_with fail;refine(hnf _).mono ?_;rintro e w6 ⟨rfl,hb6⟩;have HB6w:=zzH (zd HBX.out hb6);have HB6:=zzH (HBW.out.trans (HB6w.out.mono HBW.out.size));have hs0:=(hb6.block wr.heap.size (zb HR0.out)).trans HR0.out;have hs1:=(hb6.block (wr.heap.size+1) (zb HR1.out)).trans HR1.out;have y0:w6.cell? ⟨wr.heap.size,0,none⟩=some (.string g.name):=by rw [zzq0 _ _ _ _ _ _ hs0];rfl
      have y1:w6.cell? ⟨wr.heap.size,1,none⟩=some (.int .i64 g.arity):=by rw [zzq0 _ _ _ _ _ _ hs0];rfl
      have y3:w6.cell? ⟨wr.heap.size,3,none⟩=some (.int .i64 g.entry):=by rw [zzq0 _ _ _ _ _ _ hs0];rfl
      have z0:w6.cell? ⟨wr.heap.size+1,0,none⟩=some (.string g.name):=by rw [zzq0 _ _ _ _ _ _ hs1];rfl
      have z1:w6.cell? ⟨wr.heap.size+1,1,none⟩=some (.int .i64 g.arity):=by rw [zzq0 _ _ _ _ _ _ hs1];rfl
      have hsig:=HSK.out.kept HB6w.out;have hlook:=zjY hsig n1 n2;rw [HSN.out]at hlook;have HSIG:=zzH hsig;clear hb6 hs0 hs1 hsig
      cases va with
      |false=>
       exact zz52
      |true=>
       cases ve with
       |false=>
        exact zz52
       |true=>
        cases sn with
        |true=>
         have E:Hid (zF (f+1) u=false):=zzH (by rw [HE2.out,HNO.out (.inr rfl)];rfl);go_wp2_with (go_at_call 71;first|((with_reducible refine(hwa _).mono ?_);rintro e w1 ⟨rfl,rfl⟩)|((with_reducible refine(hwe _).mono ?_);rintro e w1 ⟨rfl,rfl⟩));go_ret;exact⟨zi E.out.symm,HB6.out⟩
        |false=>
         obtain⟨D,hown,hD⟩:=HSIG.out;have hput:=fun(w7:World) h=>zlw (w':=w7) hown hD n1 n2 h
         have HPUT:=zzH hput;have HDD:=zzH hD;clear hput hD;go_wp2_with (first|(go_at_call 71;first|((with_reducible refine(hwa _).mono ?_);rintro e w1 ⟨rfl,rfl⟩)|((with_reducible refine(hwe _).mono ?_);rintro e w1 ⟨rfl,rfl⟩))|(at_mapUpdate;refine wpList_mapUpdate_own _ rfl _ _ _ 147 rfl 108 4 sigLaw Tryz.underlying147 _ M k D rfl hown (by unfold maxLen;omega) _ _ _ rfl rfl (zbZ n1 n2) _ [] (plainElem_bool Tryz.underlying4 true) ?_));intro w7 hown7 hgrow7
         have HSK2:Hid (SigIs w7 M (k+1) (fun s a=>zcn (u.funcs.take (k+1)) s a)):=zzH (by
          obtain⟨D',a1,a2⟩:=HPUT.out w7 hown7;exact⟨D',a1,fun s a hs ha=>(a2 s a hs ha).trans (congrArg (fun b=>DataW.lit (Lit.bool b)) (HSTEP.out s a).symm)⟩)
         have HY2:=zzH (HYES.out (by rw [HFO.out];rfl) (by trivial));have HB7:=zzH (HB6.out.grown hgrow7 HB6.out.size (fun j hj=>by cases hj;exact hMge));clear hown hown7 hgrow7;go_wp2_with fail;go_roundw
         case rel=>exact⟨k+1,by omega,by go_num,HSK2,HY2,HB7.out⟩
         case measure=>simp [intOf];omega
    ·have HFB:Hid (zcU last u.funcs=true):=zzH (by unfold zcU;exact zzT (fun j hj=>HFK.out j (by omega) hj))
     have HE3:Hid (zF (f+1) u=u.funs.all (zcg last)):=zzH (by rw [HE2.out,HFB.out,zzq11]);have e4:=(HU.out.below hBw).c4;have HBW:=zzH hBw;have HI3:Hid (u.funs.all (zcg last)=(u.funs.drop 0).all (zcg last)):=zzH rfl;clear hBw HSK HFK;obtain⟨wp,rfl⟩: ∃wp:World,wp=wr:=⟨_,rfl⟩;go_wp2_with fail;go_loopw [126] (fun i wr=> ∃k:Nat,k<=u.funs.length/\i= .int .i64 k/\Hid (u.funs.all (zcg last)=(u.funs.drop k).all (zcg last))/\Below w.heap.size w wr) (fun i _=>u.funs.length-(intOf i).toNat)
     case atStart=>exact⟨0,zzZ _,rfl,HI3,HBW.out⟩
     case round=>
      obtain⟨k,hk,rfl,HK,hBw⟩:=hrel;rename World=>wr
      by_cases hlt:k<u.funs.length
      ·obtain⟨b1,off1,hgo,hb1,q0,q1,q2,n1,n2,n3⟩:=(HP.out.below hBw).funs.fn hlt
       subst hgo;have HST:Hid ((u.funs.drop k).all (zcg last)=(zcg last u.funs[k]&&(u.funs.drop (k+1)).all (zcg last))):=zzH (by rw [List.drop_eq_getElem_cons hlt,List.all_cons]);have HFB2:Hid (zcg last u.funs[k]=(wi u.funs[k].arity 0 16&&(wi u.funs[k].free 0 200&&wi u.funs[k].entry 0 last))):=zzH rfl;have hwa:=fun wx=>zl u.funs[k].arity 0 16 wx
       have hwf:=fun wx=>zl u.funs[k].free 0 200 wx
       have hwe:=fun wx=>zl u.funs[k].entry 0 last wx
       generalize zcg last u.funs[k]=fk at *;generalize wi u.funs[k].arity 0 16=va at *;generalize wi u.funs[k].free 0 200=vf at *;generalize wi u.funs[k].entry 0 last=ve at *;generalize u.funs[k]=g at *;have HBX:=zzH (hBw.alloc hBw.size (.cells #[.int .i64 g.arity,.int .i64 g.free,.int .i64 g.entry] 70));have hyes:fk=true->u.funs.all (zcg last)=(u.funs.drop (k+1)).all (zcg last):=fun h=>by rw [HK.out,HST.out,h,zzq11]
       have hno:fk=false->zF (f+1) u=false:=fun h=>by rw [HE3.out,HK.out,HST.out,h];rfl
       have HYES:=zzH hyes;have HNO:=zzH hno;clear hyes hno hBw
       cases va with
       |false=>
        exact zz51
       |true=>
        cases vf with
        |false=>
         exact zz51
        |true=>
         cases ve with
         |false=>
          exact zz51
         |true=>
          have E:=zzH (HYES.out (by rw [HFB2.out];rfl));go_wp2_with (go_at_call 71;first|((with_reducible refine(hwa _).mono ?_);rintro e w1 ⟨rfl,rfl⟩)|((with_reducible refine(hwf _).mono ?_);rintro e w1 ⟨rfl,rfl⟩)|((with_reducible refine(hwe _).mono ?_);rintro e w1 ⟨rfl,rfl⟩));go_roundw
          case rel=>exact⟨k+1,by omega,by go_num,E,HBX.out⟩
          case measure=>simp [intOf];omega
      ·have E:Hid (zF (f+1) u=true):=zzH (by rw [HE3.out,HK.out,zzq10 (by omega)];rfl)
       go_wp2;go_ret;exact⟨zi E.out.symm,hBw⟩
end Go.Proofs.YtepjanajflkakaaGreatDoor
