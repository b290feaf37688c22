/- part 4 -/
import Derived.Test.YtlaabicdhkebbaaGreatDoorGetsAll01
namespace Go.Proofs.YtlaabicdhkebbaaGreatDoor
open Go.RowKit
set_option linter.unusedVariables false
set_option linter.unusedSimpArgs false
set_option maxRecDepth 100000
set_option maxHeartbeats 80000000
open Go.RowKit Go.Maps Go.WideMaps
theorem zr1:laidOutB Tryz.prog=true:=by kernel_rfl
theorem sigLaw:Keyed Tryz.prog 126:=Keyed.of_law (deep_law_laid zr1 (m:=2) (by omega) (of_decide_eq_true (by kernel_rfl)) (by kernel_rfl) (by rw [Tryz.underlying126]))
theorem zp1 (w:World):(zeroValue 4).run Tryz.prog w= .ok (.bool false) w:=by kernel_rfl
def zfR (s:ByteArray) (a:Int):Lit:=.string (keyBytes [.string s.data.toList,.int .i64 a])
theorem zmz:Tryz.prog.keyType 126=true:=by kernel_rfl
theorem sigCells:Tryz.prog.cellsOf 126=2:=by kernel_rfl
theorem zni:Tryz.prog.cellsOf 9=1:=by kernel_rfl
theorem zm2:Tryz.prog.cellsOf 3=1:=by kernel_rfl
theorem zo6: ∃m,Tryz.prog.types.size+1=m+1+1:=⟨Tryz.prog.types.size-1,by have:0<Tryz.prog.types.size:=of_decide_eq_true (by kernel_rfl);omega⟩
theorem zfs {s:ByteArray} {a:Int} (hs:s.size<=maxLen) (ha:I64 a):keyOf Tryz.prog 126 (.agg #[.string s,.int .i64 a])=some (zfR s a):=by
 have hwf:(Lit.int .i64 a).wf=true:=by
  obtain⟨h1,h2⟩:=ha;simp [Lit.wf,IntKind.min,IntKind.max,IntKind.bits,IntKind.signed];omega
 unfold keyOf zfR;simp only [Tryz.underlying126];rw [if_pos (by simp [zmz,Value.formed,Tryz.underlying126,sigCells])];obtain⟨m,hm⟩:=zo6;rw [hm];unfold Program.keyLits;simp only [Tryz.underlying126,Value.cells];simp [Program.keyLits,Tryz.underlying9,Tryz.underlying3,zni,zm2,hs,hwf];exact sigCells.symm
theorem zmq {s s':ByteArray} {a a':Int} (hs:s.size<=maxLen) (hs':s'.size<=maxLen) (ha:I64 a) (ha':I64 a') (h:zfR s a=zfR s' a'):s=s'/\a=a':=by
 have h1:=zfs hs ha;have h2:=zfs hs' ha';rw [<-h]at h2;have h3:=sigLaw.inj h1 h2;injection h3 with h3;have h4:=congrArg Array.toList h3;simp at h4;exact h4
def SigIs (w:World) (M n:Nat) (S:ByteArray->Int->Bool):Prop:= ∃D:DataW Unit,w.ownsMap Tryz.prog 126 (plainElem Tryz.prog 4) M n D/\ ∀(s:ByteArray) (a:Int),s.size<=maxLen->I64 a->D.atKey (zfR s a) (.lit (.bool false))= .lit (.bool (S s a))
theorem SigIs.kept {w w':World} {M n:Nat} {S:ByteArray->Int->Bool} (h:SigIs w M n S) (hb:Below w.heap.size w w'):SigIs w' M n S:=by
 obtain⟨D,h1,h2⟩:=h;exact⟨D,h1.kept (row:=none) ⟨hb.os,hb.tape,hb.output,hb.size,fun k hk _=>hb.block k hk⟩ (by simp),h2⟩
theorem SigIs.lt {w:World} {M n:Nat} {S:ByteArray->Int->Bool} (h:SigIs w M n S):M<w.heap.size:=h.elim fun _ h=>h.1.lt
theorem zqj (w:World):SigIs (w.alloc (.map #[] 0)) w.heap.size 0 (fun _ _=>false):=⟨_,World.ownsMap_made w _ _ _,fun s a _ _=>rfl⟩
theorem zgZ {P:Program} {e:TypeId} (he:P.underlying e=some .bool) {v:Value} {z:DataW Unit × List MemPlace} (h:plainElem P e v=some z): ∃c,v= .bool c/\z=(.lit (.bool c),[]):=by
 unfold plainElem at h;rw [he]at h
 cases v<;>simp at h
 exact⟨_,rfl,h.symm⟩
theorem zoY {w:World} {M n:Nat} {S:ByteArray->Int->Bool} (h:SigIs w M n S) {s:ByteArray} {a:Int} (hs:s.size<=maxLen) (ha:I64 a):
  (Instr.lookup 124 (.map (some M)) (.agg #[.string s,.int .i64 a]) false).run Tryz.prog w= .ok (.bool (S s a)) w:=by
 obtain⟨D,h1,h2⟩:=h;obtain⟨v,ps,hrun,hv⟩:=h1.lookup sigLaw Tryz.underlying124 (zp1 w) (plainElem_bool Tryz.underlying4 false) (zfs hs ha);obtain⟨c,rfl,hc⟩:=zgZ Tryz.underlying4 hv;rw [h2 s a hs ha]at hc;have e1:(DataW.lit (.bool (S s a)):DataW Unit)= .lit (.bool c):=congrArg Prod.fst hc;have e2:S s a=c:=by injection e1 with e1;injection e1
 rw [hrun,e2]
theorem zrD {w w':World} {M n:Nat} {S:ByteArray->Int->Bool} {D:DataW Unit} (h1:w.ownsMap Tryz.prog 126 (plainElem Tryz.prog 4) M n D) (h2: ∀(s:ByteArray) (a:Int),s.size<=maxLen->I64 a->D.atKey (zfR s a) (.lit (.bool false))= .lit (.bool (S s a)))
  {s:ByteArray} {a:Int} (hs:s.size<=maxLen) (ha:I64 a) (h3:w'.ownsMap Tryz.prog 126 (plainElem Tryz.prog 4) M (n+1) (D.put (zfR s a) (.lit (.bool true)))):SigIs w' M (n+1) (fun s' a'=>(s.data.toList==s'.data.toList&&a==a')||S s' a'):=by
 refine⟨_,h3,fun s' a' hs' ha'=>?_⟩;by_cases e:s'=s/\a'=a
 ·obtain⟨rfl,rfl⟩:=e
  rw [atKey_put_same h1.isMap (sigLaw.key (zfs hs ha))];simp
 ·rw [atKey_put_other (fun h=>e (zmq hs' hs ha' ha h)),h2 s' a' hs' ha']
  have:(s.data.toList==s'.data.toList&&a==a')=false:=by
   cases h:(s.data.toList==s'.data.toList&&a==a')with
   |false=>rfl
   |true=>
    rw [Bool.and_eq_true,beq_iff_eq,beq_iff_eq]at h;exact absurd ⟨ByteArray.ext (Array.toList_inj.1 h.1.symm),h.2.symm⟩ e
  simp only [this,Bool.false_or]
open Go.RowKit Go.Maps Go.WideMaps
def zel (last:Int) (f:RFunc):Bool:=zB f.name&&(wi f.arity 0 16&&wi f.entry 0 last)
def zcy (l:List RFunc) (s:ByteArray) (a:Int):Bool:=l.any (fun f=>f.name.data.toList==s.data.toList&&f.arity==a)
def zdR (last:Int) (funcs:List RFunc):Bool:=decide (∀k,(h:k<funcs.length)->zel last funcs[k]=true/\zcy (funcs.take k) funcs[k].name funcs[k].arity=false)
def zcK (last:Int) (f:RFun):Bool:=wi f.arity 0 16&&(wi f.free 0 200&&wi f.entry 0 last)
def zgx (u:RUnit):Bool:=zB u.mdl&&(decide (1<=u.vsn)&&(decide (u.vsn<=2147483647)&&(decide (0<=(u.code.length:Int)-1)&&(decide ((u.code.length:Int)-1<524288)&&(decide (u.lits.length<=65535)&&(decide (u.funcs.length<=200)&&decide (u.funs.length<=1000)))))))
def zba (f:Nat) (u:RUnit):Bool:=zgx u&&(u.lits.all (zD f)&&(zdR ((u.code.length:Int)-1) u.funcs&&u.funs.all (zcK ((u.code.length:Int)-1))))
theorem ziX {last:Int} {funcs:List RFunc} {k:Nat} (h:k<funcs.length) (e:zel last funcs[k]=false∨zcy (funcs.take k) funcs[k].name funcs[k].arity=true):zdR last funcs=false:=by
 unfold zdR
 exact zzD (fun hh=>by
  obtain⟨h1,h2⟩:=hh k h;rcases e with e|e
  ·rw [h1]at e;cases e
  ·rw [h2]at e;cases e)
theorem zmZ {funcs:List RFunc} {k:Nat} (h:k<funcs.length) (s:ByteArray) (a:Int):zcy (funcs.take (k+1)) s a=((funcs[k].name.data.toList==s.data.toList&&funcs[k].arity==a)||zcy (funcs.take k) s a):=by
 unfold zcy;rw [List.take_add_one,zzq8 h,List.any_append,Bool.or_comm];simp
theorem zmf (f B:Nat) (u:RUnit) (lo fo go co:Option Addr) (lc fc gc cc:Nat) (w:World) (hu:UBox w B u lo fo go co lc fc gc cc) (hp:UP w u lo fo go co) (hlits:SlAt w 9 (TmAt w (f+1)) lo u.lits) (hcap: ∀t∈u.lits,(zR (f+1) t:Int)<=1152921504606846976):
  Calls Tryz.prog 40 #[.pointer (some ⟨B,0,none⟩)] w fun e w'=>e= .returned (.bool (zba (f+1) u))/\Below w.heap.size w w':=by
 have HU:=zzH hu;have HP:=zzH hp;have HL:=zzH hlits;have HCAP:=zzH hcap;have c0:=hu.c0;have c5:=hu.c5;have hnm:=fun wx=>zeb u.mdl wx
 have HE:Hid (zba (f+1) u=(zgx u&&(u.lits.all (zD (f+1))&&(zdR ((u.code.length:Int)-1) u.funcs&&u.funs.all (zcK ((u.code.length:Int)-1)))))):=zzH rfl;have HA:Hid (zgx u=(zB u.mdl&&(decide (1<=u.vsn)&&(decide (u.vsn<=2147483647)&&(decide (0<=(u.code.length:Int)-1)&&(decide ((u.code.length:Int)-1<524288)&&(decide (u.lits.length<=65535)&&(decide (u.funcs.length<=200)&&decide (u.funs.length<=1000))))))))):=zzH rfl;have hla:IntKind.i64.wrap ((u.code.length:Int)-1)=(u.code.length:Int)-1:=by have:=hp.codeLen;rw [zzq3];omega
 have hmm:= @run_makeMap Tryz.prog;have HMM:=zzH hmm;clear hmm;have hla64:wrap64 ((u.code.length:Int)-1)=(u.code.length:Int)-1:=by have:=hp.codeLen;first|exact hla|(unfold wrap64;omega)
 have hrng: -1<=(u.code.length:Int)-1/\(u.code.length:Int)-1<=9223372036854775807:=by have:=hp.codeLen;omega
 clear hu hp hlits hcap hla;generalize hlast:(u.code.length:Int)-1=last at *;obtain⟨hrng1,hrng2⟩:=hrng;have hlw:wrap64 ((u.code.length:Int)-1)=last:=by rw [hlast];exact hla64
 clear hla64;have HLAST:=zzH hlast;clear hlast;by_cases hn:zB u.mdl=true
 rotate_left
 ·skip
  have hnf:zB u.mdl=false:=by cases h:zB u.mdl with
   |false=>rfl
   |true=>exact absurd h hn
  rw [hnf]at hnm;have E:Hid (zba (f+1) u=false):=zzH (by rw [HE.out,HA.out,hnf];rfl);clear hn hnf;exact zz36
 rw [hn]at hnm;by_cases hv1:1<=u.vsn
 rotate_left
 ·skip
  have hv1f:u.vsn<1:=by omega
  have E:Hid (zba (f+1) u=false):=zzH (by rw [HE.out,HA.out,decide_eq_false (p:=1<=u.vsn) (by omega)];simp);clear hv1;exact zz36
 by_cases hv2:u.vsn<=2147483647
 rotate_left
 ·skip
  have hv2f:2147483647<u.vsn:=by omega
  have E:Hid (zba (f+1) u=false):=zzH (by rw [HE.out,HA.out,decide_eq_false (p:=u.vsn<=2147483647) (by omega)];simp);clear hv2;exact zz36
 by_cases hl0:0<=last
 rotate_left
 ·skip
  have hl0f:last<0:=by omega
  have E:Hid (zba (f+1) u=false):=zzH (by rw [HE.out,HA.out,decide_eq_false (p:=0<=last) (by omega)];simp);clear hl0;exact zz36
 by_cases hl1:last<524288
 rotate_left
 ·skip
  have hl1f:524288<=last:=by omega
  have E:Hid (zba (f+1) u=false):=zzH (by rw [HE.out,HA.out,decide_eq_false (p:=last<524288) (by omega)];simp);clear hl1;exact zz36
 by_cases hq1:(u.lits.length:Int)<=65535
 rotate_left
 ·skip
  have hq1f:65535<(u.lits.length:Int):=by omega
  have E:Hid (zba (f+1) u=false):=zzH (by rw [HE.out,HA.out,decide_eq_false (p:=u.lits.length<=65535) (by omega)];simp);clear hq1;exact zz36
 by_cases hq2:(u.funcs.length:Int)<=200
 rotate_left
 ·skip
  have hq2f:200<(u.funcs.length:Int):=by omega
  have E:Hid (zba (f+1) u=false):=zzH (by rw [HE.out,HA.out,decide_eq_false (p:=u.funcs.length<=200) (by omega)];simp);clear hq2;exact zz36
 by_cases hq3:(u.funs.length:Int)<=1000
 rotate_left
 ·skip
  have hq3f:1000<(u.funs.length:Int):=by omega
  have E:Hid (zba (f+1) u=false):=zzH (by rw [HE.out,HA.out,decide_eq_false (p:=u.funs.length<=1000) (by omega)];simp);clear hq3;exact zz36
 have HA1:Hid (zgx u=true):=zzH (by rw [HA.out,hn,decide_eq_true hv1,decide_eq_true hv2,decide_eq_true hl0,decide_eq_true hl1,decide_eq_true (p:=u.lits.length<=65535) (by omega),decide_eq_true (p:=u.funcs.length<=200) (by omega),decide_eq_true (p:=u.funs.length<=1000) (by omega)];rfl);have HE1:Hid (zba (f+1) u=(u.lits.all (zD (f+1))&&(zdR last u.funcs&&u.funs.all (zcK last)))):=zzH (by rw [HE.out,HA1.out,Bool.true_and]);clear HE HA hn;go_in;go_wp2_with fail;refine(hnm _).mono ?_;rintro e w5 ⟨rfl,hb5⟩;have HU5:=zzH (HU.out.below hb5);have d1:=HU5.out.c1;have d2:=HU5.out.c2;have d3:=HU5.out.c3;have d4:=HU5.out.c4;have HB5:=zzH hb5;have HI:Hid (u.lits.all (zD (f+1))=(u.lits.drop 0).all (zD (f+1))):=zzH rfl;clear hb5;go_wp2_with fail;go_loopw [73] (fun i wr=> ∃k:Nat,k<=u.lits.length/\i= .int .i64 k/\Hid (u.lits.all (zD (f+1))=(u.lits.drop k).all (zD (f+1)))/\Below w.heap.size w wr) (fun i _=>u.lits.length-(intOf i).toNat)
 case atStart=>exact⟨0,zzZ _,rfl,HI,HB5.out⟩
 case round=>
  obtain⟨k,hk,rfl,HK,hBw⟩:=hrel;rename World=>wr
  by_cases hlt:k<u.lits.length
  ·obtain⟨b1,off1,ai,ci,hao,hb1,q0,q1,q2,q3,q4,q5,q6,q7,q8,hit,hok⟩:=(HL.out.tms hBw).tm hlt
   subst hao;have HST:Hid ((u.lits.drop k).all (zD (f+1))=(zD (f+1) u.lits[k]&&(u.lits.drop (k+1)).all (zD (f+1)))):=zzH (by rw [List.drop_eq_getElem_cons hlt,List.all_cons]);have hbx:Below wr.heap.size wr (wr.alloc (.cells (zzt u.lits[k] ai ci) 47)):=(zzR _ _).alloc (zzL _) _;have hV:=zfB f u.lits[k] ai ci (wr.alloc (.cells (zzt u.lits[k] ai ci) 47)) (hit.tms hbx) hok (HCAP.out _ (List.getElem_mem hlt));have HBX:=zzH (hBw.trans (hbx.mono hBw.size));clear hit hok hbx hBw;generalize zD (f+1) u.lits[k]=v at *;generalize u.lits[k]=x at *
   cases v with
   |true=>
    have HK2:Hid (u.lits.all (zD (f+1))=(u.lits.drop (k+1)).all (zD (f+1))):=zzH (by rw [HK.out,HST.out,Bool.true_and]);go_wp2_with fail;refine hV.mono ?_;rintro e w6 ⟨rfl,hb6⟩;have HB6:=zzH (HBX.out.trans (hb6.mono HBX.out.size));go_wp2_with fail;go_roundw
    case rel=>exact⟨k+1,by omega,by go_num,HK2,HB6.out⟩
    case measure=>simp [intOf];omega
   |false=>
    have E:Hid (zba (f+1) u=false):=zzH (by rw [HE1.out,HK.out,HST.out];rfl);go_wp2_with fail;refine hV.mono ?_;rintro e w6 ⟨rfl,hb6⟩;have HB6:=zzH (HBX.out.trans (hb6.mono HBX.out.size));go_wp2_with fail;go_ret;exact⟨zr E.out.symm,HB6.out⟩
  ·have HE2:Hid (zba (f+1) u=(zdR last u.funcs&&u.funs.all (zcK last))):=zzH (by rw [HE1.out,HK.out,zzq6 (by omega)];rfl)
   have e3:=(HU.out.below hBw).c3;have hBl:=(HU.out.below hBw).lt;have hma:Below wr.heap.size wr (wr.alloc (.map #[] 0)):=(zzR _ _).alloc (zzL _) _;have HSG:=zzH (zqj wr);have HBM:=zzH (hBw.trans (hma.mono hBw.size));have hMge:w.heap.size<=wr.heap.size:=hBw.size;have f3:=(hma.cell (p:=⟨B,3,none⟩) hBl).trans e3;have hmm:=HMM.out;clear hma;go_wp2_with fail;clear hmm;generalize wr.alloc (.map #[] 0)=W at *;generalize wr.heap.size=M at *;clear e3 HMM;have HFN:Hid (∀j,j<0-> ∀h:j<u.funcs.length,zel last u.funcs[j]=true/\zcy (u.funcs.take j) u.funcs[j].name u.funcs[j].arity=false):=zzH (fun j h=>absurd h (Nat.not_lt_zero _));have hW:M<W.heap.size:=HSG.out.lt;have HS0:Hid (SigIs W M 0 (fun s a=>zcy (u.funcs.take 0) s a)):=zzH HSG.out;clear HSG;obtain⟨wo,rfl⟩: ∃wo:World,wo=W:=⟨_,rfl⟩;go_loopw [87] (fun i wr=> ∃k:Nat,k<=u.funcs.length/\i= .int .i64 k/\Hid (SigIs wr M k (fun s a=>zcy (u.funcs.take k) s a))/\Hid (∀j,j<k-> ∀h:j<u.funcs.length,zel last u.funcs[j]=true/\zcy (u.funcs.take j) u.funcs[j].name u.funcs[j].arity=false)/\Below w.heap.size w wr) (fun i _=>u.funcs.length-(intOf i).toNat)
   case atStart=>exact⟨0,zzZ _,rfl,HS0,HFN,HBM.out⟩
   case round=>
    obtain⟨k,hk,rfl,HSK,HFK,hBw⟩:=hrel;rename World=>wr
    by_cases hlt:k<u.funcs.length
    ·obtain⟨b1,off1,hfo,hb1,q0,q1,q2,q3,n1,n2,n3⟩:=(HP.out.below hBw).funcs.func hlt
     subst hfo;have hstep:=zmZ hlt;have HSTEP:=zzH hstep;have hno:=ziX (last:=last) hlt;have HNO:=zzH hno
     have HYES:Hid (zel last u.funcs[k]=true->zcy (u.funcs.take k) u.funcs[k].name u.funcs[k].arity=false-> ∀j,j<k+1-> ∀h:j<u.funcs.length,zel last u.funcs[j]=true/\zcy (u.funcs.take j) u.funcs[j].name u.funcs[j].arity=false):=zzH (fun h1 h2 j hj h=>by
      rcases Nat.eq_or_lt_of_le (Nat.le_of_lt_succ hj)with e|e
      ·subst e;exact⟨h1,h2⟩
      ·exact HFK.out j e h)
     have hFO:zel last u.funcs[k]=(zB u.funcs[k].name&&(wi u.funcs[k].arity 0 16&&wi u.funcs[k].entry 0 last)):=rfl;have HFO:=zzH hFO;clear hstep hno hFO;have HBW:=zzH hBw;have hnf:=fun wx=>zeb u.funcs[k].name wx
     have hwa:=fun wx=>zX u.funcs[k].arity 0 16 wx
     have hwe:=fun wx=>zX u.funcs[k].entry 0 last wx
     have hpl:w.heap.size<=wr.heap.size:=hBw.size;unfold maxLen at n1;generalize zel last u.funcs[k]=fk at *;generalize hsn:zcy (u.funcs.take k) u.funcs[k].name u.funcs[k].arity=sn at *;have HSN:=zzH hsn;clear hsn;generalize zB u.funcs[k].name=vn at *;generalize wi u.funcs[k].arity 0 16=va at *;generalize wi u.funcs[k].entry 0 last=ve at *;generalize u.funcs[k]=g at *;have hbx:=zU wr (.cells #[.string g.name,.int .i64 g.arity,.bool g.pub,.int .i64 g.entry] 51) (.cells #[.string g.name,.int .i64 g.arity] 126);have hr0:=zem wr (.cells #[.string g.name,.int .i64 g.arity,.bool g.pub,.int .i64 g.entry] 51) (.cells #[.string g.name,.int .i64 g.arity] 126);have hr1:=zd0 wr (.cells #[.string g.name,.int .i64 g.arity,.bool g.pub,.int .i64 g.entry] 51) (.cells #[.string g.name,.int .i64 g.arity] 126);have HBX:=zzH hbx;have HR0:=zzH hr0;have HR1:=zzH hr1;clear hbx hr0 hr1 hBw
     cases vn with
     |false=>
      have E:Hid (zba (f+1) u=false):=zzH (by rw [HE2.out,HNO.out (.inl (by rw [HFO.out];rfl))];rfl);go_wp2_with fail;refine(hnf _).mono ?_;rintro e w6 ⟨rfl,hb6⟩;have HB6:=zzH (HBW.out.trans ((ze HBX.out hb6).mono HBW.out.size));clear hb6;go_wp2_with fail;go_ret;exact⟨zr E.out.symm,HB6.out⟩
     |true=>
      go_wp2_with fail;refine(hnf _).mono ?_;rintro e w6 ⟨rfl,hb6⟩;have HB6w:=zzH (ze HBX.out hb6);have HB6:=zzH (HBW.out.trans (HB6w.out.mono HBW.out.size));have hs0:=(hb6.block wr.heap.size (zc HR0.out)).trans HR0.out;have hs1:=(hb6.block (wr.heap.size+1) (zc HR1.out)).trans HR1.out;have y0:w6.cell? ⟨wr.heap.size,0,none⟩=some (.string g.name):=by rw [zzq2 _ _ _ _ _ _ hs0];rfl
      have y1:w6.cell? ⟨wr.heap.size,1,none⟩=some (.int .i64 g.arity):=by rw [zzq2 _ _ _ _ _ _ hs0];rfl
      have y3:w6.cell? ⟨wr.heap.size,3,none⟩=some (.int .i64 g.entry):=by rw [zzq2 _ _ _ _ _ _ hs0];rfl
      have z0:w6.cell? ⟨wr.heap.size+1,0,none⟩=some (.string g.name):=by rw [zzq2 _ _ _ _ _ _ hs1];rfl
      have z1:w6.cell? ⟨wr.heap.size+1,1,none⟩=some (.int .i64 g.arity):=by rw [zzq2 _ _ _ _ _ _ hs1];rfl
      have hsig:=HSK.out.kept HB6w.out;have hlook:=zoY hsig n1 n2;rw [HSN.out]at hlook;have HSIG:=zzH hsig;clear hb6 hs0 hs1 hsig
      cases va with
      |false=>
       exact zz35
      |true=>
       cases ve with
       |false=>
        exact zz35
       |true=>
        cases sn with
        |true=>
         have E:Hid (zba (f+1) u=false):=zzH (by rw [HE2.out,HNO.out (.inr rfl)];rfl);go_wp2_with (go_at_call 64;first|((with_reducible refine(hwa _).mono ?_);rintro e w1 ⟨rfl,rfl⟩)|((with_reducible refine(hwe _).mono ?_);rintro e w1 ⟨rfl,rfl⟩));go_ret;exact⟨zr E.out.symm,HB6.out⟩
        |false=>
         obtain⟨D,hown,hD⟩:=HSIG.out;have hput:=fun(w7:World) h=>zrD (w':=w7) hown hD n1 n2 h
         have HPUT:=zzH hput;have HDD:=zzH hD;clear hput hD;go_wp2_with (first|(go_at_call 64;first|((with_reducible refine(hwa _).mono ?_);rintro e w1 ⟨rfl,rfl⟩)|((with_reducible refine(hwe _).mono ?_);rintro e w1 ⟨rfl,rfl⟩))|(at_mapUpdate;refine wpList_mapUpdate_own _ rfl _ _ _ 124 rfl 126 4 sigLaw Tryz.underlying124 _ M k D rfl hown (by unfold maxLen;omega) _ _ _ rfl rfl (zfs n1 n2) _ [] (plainElem_bool Tryz.underlying4 true) ?_));intro w7 hown7 hgrow7
         have HSK2:Hid (SigIs w7 M (k+1) (fun s a=>zcy (u.funcs.take (k+1)) s a)):=zzH (by
          obtain⟨D',a1,a2⟩:=HPUT.out w7 hown7;exact⟨D',a1,fun s a hs ha=>(a2 s a hs ha).trans (congrArg (fun b=>DataW.lit (Lit.bool b)) (HSTEP.out s a).symm)⟩)
         have HY2:=zzH (HYES.out (by rw [HFO.out];rfl) (by trivial));have HB7:=zzH (HB6.out.grown hgrow7 HB6.out.size (fun j hj=>by cases hj;exact hMge));clear hown hown7 hgrow7;go_wp2_with fail;go_roundw
         case rel=>exact⟨k+1,by omega,by go_num,HSK2,HY2,HB7.out⟩
         case measure=>simp [intOf];omega
    ·have HFB:Hid (zdR last u.funcs=true):=zzH (by unfold zdR;exact zzT (fun j hj=>HFK.out j (by omega) hj))
     have HE3:Hid (zba (f+1) u=u.funs.all (zcK last)):=zzH (by rw [HE2.out,HFB.out,Bool.true_and]);have e4:=(HU.out.below hBw).c4;have HBW:=zzH hBw;have HI3:Hid (u.funs.all (zcK last)=(u.funs.drop 0).all (zcK last)):=zzH rfl;clear hBw HSK HFK;obtain⟨wp,rfl⟩: ∃wp:World,wp=wr:=⟨_,rfl⟩;go_wp2_with fail;go_loopw [126] (fun i wr=> ∃k:Nat,k<=u.funs.length/\i= .int .i64 k/\Hid (u.funs.all (zcK last)=(u.funs.drop k).all (zcK last))/\Below w.heap.size w wr) (fun i _=>u.funs.length-(intOf i).toNat)
     case atStart=>exact⟨0,zzZ _,rfl,HI3,HBW.out⟩
     case round=>
      obtain⟨k,hk,rfl,HK,hBw⟩:=hrel;rename World=>wr
      by_cases hlt:k<u.funs.length
      ·obtain⟨b1,off1,hgo,hb1,q0,q1,q2,n1,n2,n3⟩:=(HP.out.below hBw).funs.fn hlt
       subst hgo;have HST:Hid ((u.funs.drop k).all (zcK last)=(zcK last u.funs[k]&&(u.funs.drop (k+1)).all (zcK last))):=zzH (by rw [List.drop_eq_getElem_cons hlt,List.all_cons]);have HFB2:Hid (zcK last u.funs[k]=(wi u.funs[k].arity 0 16&&(wi u.funs[k].free 0 200&&wi u.funs[k].entry 0 last))):=zzH rfl;have hwa:=fun wx=>zX u.funs[k].arity 0 16 wx
       have hwf:=fun wx=>zX u.funs[k].free 0 200 wx
       have hwe:=fun wx=>zX u.funs[k].entry 0 last wx
       generalize zcK last u.funs[k]=fk at *;generalize wi u.funs[k].arity 0 16=va at *;generalize wi u.funs[k].free 0 200=vf at *;generalize wi u.funs[k].entry 0 last=ve at *;generalize u.funs[k]=g at *;have HBX:=zzH (hBw.alloc hBw.size (.cells #[.int .i64 g.arity,.int .i64 g.free,.int .i64 g.entry] 55));have hyes:fk=true->u.funs.all (zcK last)=(u.funs.drop (k+1)).all (zcK last):=fun h=>by rw [HK.out,HST.out,h,Bool.true_and]
       have hno:fk=false->zba (f+1) u=false:=fun h=>by rw [HE3.out,HK.out,HST.out,h];rfl
       have HYES:=zzH hyes;have HNO:=zzH hno;clear hyes hno hBw
       cases va with
       |false=>
        exact zz34
       |true=>
        cases vf with
        |false=>
         exact zz34
        |true=>
         cases ve with
         |false=>
          exact zz34
         |true=>
          have E:=zzH (HYES.out (by rw [HFB2.out];rfl));go_wp2_with (go_at_call 64;first|((with_reducible refine(hwa _).mono ?_);rintro e w1 ⟨rfl,rfl⟩)|((with_reducible refine(hwf _).mono ?_);rintro e w1 ⟨rfl,rfl⟩)|((with_reducible refine(hwe _).mono ?_);rintro e w1 ⟨rfl,rfl⟩));go_roundw
          case rel=>exact⟨k+1,by omega,by go_num,E,HBX.out⟩
          case measure=>simp [intOf];omega
      ·have E:Hid (zba (f+1) u=true):=zzH (by rw [HE3.out,HK.out,zzq6 (by omega)];rfl)
       go_wp2_with fail;go_ret;exact⟨zr E.out.symm,hBw⟩
def zl (nf:Nat) (funs:List RFun) (x:RIns):Bool:=
 if x.op=4 then wi x.n 0 ((funs.length:Int)-1)&&(match funs[x.n.toNat]? with
  |some f=>decide ((x.src.length:Int)=f.free)
  |none=>false)
 else if x.op=5 then wi x.n 0 254 else if x.op=9 then wi x.n 0 255 else if x.op=16∨x.op=17 then wi x.n 0 ((nf:Int)-1)
 else if x.op=15∨x.op=18∨x.op=19∨x.op=20∨x.op=21 then wi x.n 0 16 else if x.op=24 then wi x.n 1 8192 else if x.op=31 then wi x.n 0 3
 else if x.op=32∨x.op=33 then decide (x.n=1)||decide (x.n=8)else true
theorem zqh (B:Nat) (u:RUnit) (lo' fo go' co':Option Addr) (lc fc gc' cc':Nat) (b o:Nat) (x:RIns) (so co go:Option Addr) (sc cc gc:Nat) (w:World) (hu:UBox w B u lo' fo go' co' lc fc gc' cc') (hl:u.funcs.length<=9223372036854775807) (hl2:u.funs.length<=9223372036854775807) (hf:SlAt w 3 zbB go' u.funs) (hx:IBox w b o x so co go sc cc gc) (hop:x.op=5):
  Calls Tryz.prog 42 #[.pointer (some ⟨B,0,none⟩),.pointer (some ⟨b,o,none⟩)] w fun e w'=>e= .returned (.bool (zl u.funcs.length u.funs x))/\Below w.heap.size w w':=by
 have c0:=hx.c0;have c3:=hx.c3;have c5:=hx.c5;have b3:=hu.c3;have b4:=hu.c4;have r1:=hx.rn;have r2:=hx.rsrc;obtain⟨r1a,r1b⟩:=r1;have HF:=zzH hf;clear hu hx hf;have hw1:IntKind.i64.wrap ((u.funcs.length:Int)-1)=(u.funcs.length:Int)-1:=by rw [zzq3];omega
 have hw2:IntKind.i64.wrap ((u.funs.length:Int)-1)=(u.funs.length:Int)-1:=by rw [zzq3];omega
 have E:Hid (zl u.funcs.length u.funs x=wi x.n 0 254):=zzH (by unfold zl;rw [hop];rfl);rw [hop]at c0;clear hop;go_in;go_wp2_with (go_at_call 64;refine(zX _ _ _ _).mono ?_;rintro e w1 ⟨rfl,rfl⟩);go_ret;exact⟨zr E.out.symm,zzR _ _⟩
theorem zqm (B:Nat) (u:RUnit) (lo' fo go' co':Option Addr) (lc fc gc' cc':Nat) (b o:Nat) (x:RIns) (so co go:Option Addr) (sc cc gc:Nat) (w:World) (hu:UBox w B u lo' fo go' co' lc fc gc' cc') (hl:u.funcs.length<=9223372036854775807) (hl2:u.funs.length<=9223372036854775807) (hf:SlAt w 3 zbB go' u.funs) (hx:IBox w b o x so co go sc cc gc) (hop:x.op=9):
  Calls Tryz.prog 42 #[.pointer (some ⟨B,0,none⟩),.pointer (some ⟨b,o,none⟩)] w fun e w'=>e= .returned (.bool (zl u.funcs.length u.funs x))/\Below w.heap.size w w':=by
 have c0:=hx.c0;have c3:=hx.c3;have c5:=hx.c5;have b3:=hu.c3;have b4:=hu.c4;have r1:=hx.rn;have r2:=hx.rsrc;obtain⟨r1a,r1b⟩:=r1;have HF:=zzH hf;clear hu hx hf;have hw1:IntKind.i64.wrap ((u.funcs.length:Int)-1)=(u.funcs.length:Int)-1:=by rw [zzq3];omega
 have hw2:IntKind.i64.wrap ((u.funs.length:Int)-1)=(u.funs.length:Int)-1:=by rw [zzq3];omega
 have E:Hid (zl u.funcs.length u.funs x=wi x.n 0 255):=zzH (by unfold zl;rw [hop];rfl);rw [hop]at c0;clear hop;go_in;go_wp2_with (go_at_call 64;refine(zX _ _ _ _).mono ?_;rintro e w1 ⟨rfl,rfl⟩);go_ret;exact⟨zr E.out.symm,zzR _ _⟩
theorem zok (B:Nat) (u:RUnit) (lo' fo go' co':Option Addr) (lc fc gc' cc':Nat) (b o:Nat) (x:RIns) (so co go:Option Addr) (sc cc gc:Nat) (w:World) (hu:UBox w B u lo' fo go' co' lc fc gc' cc') (hl:u.funcs.length<=9223372036854775807) (hl2:u.funs.length<=9223372036854775807) (hf:SlAt w 3 zbB go' u.funs) (hx:IBox w b o x so co go sc cc gc) (hop:x.op=15):
  Calls Tryz.prog 42 #[.pointer (some ⟨B,0,none⟩),.pointer (some ⟨b,o,none⟩)] w fun e w'=>e= .returned (.bool (zl u.funcs.length u.funs x))/\Below w.heap.size w w':=by
 have c0:=hx.c0;have c3:=hx.c3;have c5:=hx.c5;have b3:=hu.c3;have b4:=hu.c4;have r1:=hx.rn;have r2:=hx.rsrc;obtain⟨r1a,r1b⟩:=r1;have HF:=zzH hf;clear hu hx hf;have hw1:IntKind.i64.wrap ((u.funcs.length:Int)-1)=(u.funcs.length:Int)-1:=by rw [zzq3];omega
 have hw2:IntKind.i64.wrap ((u.funs.length:Int)-1)=(u.funs.length:Int)-1:=by rw [zzq3];omega
 have E:Hid (zl u.funcs.length u.funs x=wi x.n 0 16):=zzH (by unfold zl;rw [hop];rfl);rw [hop]at c0;clear hop;go_in;go_wp2_with (go_at_call 64;refine(zX _ _ _ _).mono ?_;rintro e w1 ⟨rfl,rfl⟩);go_ret;exact⟨zr E.out.symm,zzR _ _⟩
theorem zna (B:Nat) (u:RUnit) (lo' fo go' co':Option Addr) (lc fc gc' cc':Nat) (b o:Nat) (x:RIns) (so co go:Option Addr) (sc cc gc:Nat) (w:World) (hu:UBox w B u lo' fo go' co' lc fc gc' cc') (hl:u.funcs.length<=9223372036854775807) (hl2:u.funs.length<=9223372036854775807) (hf:SlAt w 3 zbB go' u.funs) (hx:IBox w b o x so co go sc cc gc) (hop:x.op=18):
  Calls Tryz.prog 42 #[.pointer (some ⟨B,0,none⟩),.pointer (some ⟨b,o,none⟩)] w fun e w'=>e= .returned (.bool (zl u.funcs.length u.funs x))/\Below w.heap.size w w':=by
 have c0:=hx.c0;have c3:=hx.c3;have c5:=hx.c5;have b3:=hu.c3;have b4:=hu.c4;have r1:=hx.rn;have r2:=hx.rsrc;obtain⟨r1a,r1b⟩:=r1;have HF:=zzH hf;clear hu hx hf;have hw1:IntKind.i64.wrap ((u.funcs.length:Int)-1)=(u.funcs.length:Int)-1:=by rw [zzq3];omega
 have hw2:IntKind.i64.wrap ((u.funs.length:Int)-1)=(u.funs.length:Int)-1:=by rw [zzq3];omega
 have E:Hid (zl u.funcs.length u.funs x=wi x.n 0 16):=zzH (by unfold zl;rw [hop];rfl);rw [hop]at c0;clear hop;go_in;go_wp2_with (go_at_call 64;refine(zX _ _ _ _).mono ?_;rintro e w1 ⟨rfl,rfl⟩);go_ret;exact⟨zr E.out.symm,zzR _ _⟩
theorem zm4 (B:Nat) (u:RUnit) (lo' fo go' co':Option Addr) (lc fc gc' cc':Nat) (b o:Nat) (x:RIns) (so co go:Option Addr) (sc cc gc:Nat) (w:World) (hu:UBox w B u lo' fo go' co' lc fc gc' cc') (hl:u.funcs.length<=9223372036854775807) (hl2:u.funs.length<=9223372036854775807) (hf:SlAt w 3 zbB go' u.funs) (hx:IBox w b o x so co go sc cc gc) (hop:x.op=19):
  Calls Tryz.prog 42 #[.pointer (some ⟨B,0,none⟩),.pointer (some ⟨b,o,none⟩)] w fun e w'=>e= .returned (.bool (zl u.funcs.length u.funs x))/\Below w.heap.size w w':=by
 have c0:=hx.c0;have c3:=hx.c3;have c5:=hx.c5;have b3:=hu.c3;have b4:=hu.c4;have r1:=hx.rn;have r2:=hx.rsrc;obtain⟨r1a,r1b⟩:=r1;have HF:=zzH hf;clear hu hx hf;have hw1:IntKind.i64.wrap ((u.funcs.length:Int)-1)=(u.funcs.length:Int)-1:=by rw [zzq3];omega
 have hw2:IntKind.i64.wrap ((u.funs.length:Int)-1)=(u.funs.length:Int)-1:=by rw [zzq3];omega
 have E:Hid (zl u.funcs.length u.funs x=wi x.n 0 16):=zzH (by unfold zl;rw [hop];rfl);rw [hop]at c0;clear hop;go_in;go_wp2_with (go_at_call 64;refine(zX _ _ _ _).mono ?_;rintro e w1 ⟨rfl,rfl⟩);go_ret;exact⟨zr E.out.symm,zzR _ _⟩
theorem znQ (B:Nat) (u:RUnit) (lo' fo go' co':Option Addr) (lc fc gc' cc':Nat) (b o:Nat) (x:RIns) (so co go:Option Addr) (sc cc gc:Nat) (w:World) (hu:UBox w B u lo' fo go' co' lc fc gc' cc') (hl:u.funcs.length<=9223372036854775807) (hl2:u.funs.length<=9223372036854775807) (hf:SlAt w 3 zbB go' u.funs) (hx:IBox w b o x so co go sc cc gc) (hop:x.op=20):
  Calls Tryz.prog 42 #[.pointer (some ⟨B,0,none⟩),.pointer (some ⟨b,o,none⟩)] w fun e w'=>e= .returned (.bool (zl u.funcs.length u.funs x))/\Below w.heap.size w w':=by
 have c0:=hx.c0;have c3:=hx.c3;have c5:=hx.c5;have b3:=hu.c3;have b4:=hu.c4;have r1:=hx.rn;have r2:=hx.rsrc;obtain⟨r1a,r1b⟩:=r1;have HF:=zzH hf;clear hu hx hf;have hw1:IntKind.i64.wrap ((u.funcs.length:Int)-1)=(u.funcs.length:Int)-1:=by rw [zzq3];omega
 have hw2:IntKind.i64.wrap ((u.funs.length:Int)-1)=(u.funs.length:Int)-1:=by rw [zzq3];omega
 have E:Hid (zl u.funcs.length u.funs x=wi x.n 0 16):=zzH (by unfold zl;rw [hop];rfl);rw [hop]at c0;clear hop;go_in;go_wp2_with (go_at_call 64;refine(zX _ _ _ _).mono ?_;rintro e w1 ⟨rfl,rfl⟩);go_ret;exact⟨zr E.out.symm,zzR _ _⟩
theorem zn9 (B:Nat) (u:RUnit) (lo' fo go' co':Option Addr) (lc fc gc' cc':Nat) (b o:Nat) (x:RIns) (so co go:Option Addr) (sc cc gc:Nat) (w:World) (hu:UBox w B u lo' fo go' co' lc fc gc' cc') (hl:u.funcs.length<=9223372036854775807) (hl2:u.funs.length<=9223372036854775807) (hf:SlAt w 3 zbB go' u.funs) (hx:IBox w b o x so co go sc cc gc) (hop:x.op=21):
  Calls Tryz.prog 42 #[.pointer (some ⟨B,0,none⟩),.pointer (some ⟨b,o,none⟩)] w fun e w'=>e= .returned (.bool (zl u.funcs.length u.funs x))/\Below w.heap.size w w':=by
 have c0:=hx.c0;have c3:=hx.c3;have c5:=hx.c5;have b3:=hu.c3;have b4:=hu.c4;have r1:=hx.rn;have r2:=hx.rsrc;obtain⟨r1a,r1b⟩:=r1;have HF:=zzH hf;clear hu hx hf;have hw1:IntKind.i64.wrap ((u.funcs.length:Int)-1)=(u.funcs.length:Int)-1:=by rw [zzq3];omega
 have hw2:IntKind.i64.wrap ((u.funs.length:Int)-1)=(u.funs.length:Int)-1:=by rw [zzq3];omega
 have E:Hid (zl u.funcs.length u.funs x=wi x.n 0 16):=zzH (by unfold zl;rw [hop];rfl);rw [hop]at c0;clear hop;go_in;go_wp2_with (go_at_call 64;refine(zX _ _ _ _).mono ?_;rintro e w1 ⟨rfl,rfl⟩);go_ret;exact⟨zr E.out.symm,zzR _ _⟩
theorem zop (B:Nat) (u:RUnit) (lo' fo go' co':Option Addr) (lc fc gc' cc':Nat) (b o:Nat) (x:RIns) (so co go:Option Addr) (sc cc gc:Nat) (w:World) (hu:UBox w B u lo' fo go' co' lc fc gc' cc') (hl:u.funcs.length<=9223372036854775807) (hl2:u.funs.length<=9223372036854775807) (hf:SlAt w 3 zbB go' u.funs) (hx:IBox w b o x so co go sc cc gc) (hop:x.op=24):
  Calls Tryz.prog 42 #[.pointer (some ⟨B,0,none⟩),.pointer (some ⟨b,o,none⟩)] w fun e w'=>e= .returned (.bool (zl u.funcs.length u.funs x))/\Below w.heap.size w w':=by
 have c0:=hx.c0;have c3:=hx.c3;have c5:=hx.c5;have b3:=hu.c3;have b4:=hu.c4;have r1:=hx.rn;have r2:=hx.rsrc;obtain⟨r1a,r1b⟩:=r1;have HF:=zzH hf;clear hu hx hf;have hw1:IntKind.i64.wrap ((u.funcs.length:Int)-1)=(u.funcs.length:Int)-1:=by rw [zzq3];omega
 have hw2:IntKind.i64.wrap ((u.funs.length:Int)-1)=(u.funs.length:Int)-1:=by rw [zzq3];omega
 have E:Hid (zl u.funcs.length u.funs x=wi x.n 1 8192):=zzH (by unfold zl;rw [hop];rfl);rw [hop]at c0;clear hop;go_in;go_wp2_with (go_at_call 64;refine(zX _ _ _ _).mono ?_;rintro e w1 ⟨rfl,rfl⟩);go_ret;exact⟨zr E.out.symm,zzR _ _⟩
theorem znB (B:Nat) (u:RUnit) (lo' fo go' co':Option Addr) (lc fc gc' cc':Nat) (b o:Nat) (x:RIns) (so co go:Option Addr) (sc cc gc:Nat) (w:World) (hu:UBox w B u lo' fo go' co' lc fc gc' cc') (hl:u.funcs.length<=9223372036854775807) (hl2:u.funs.length<=9223372036854775807) (hf:SlAt w 3 zbB go' u.funs) (hx:IBox w b o x so co go sc cc gc) (hop:x.op=31):
  Calls Tryz.prog 42 #[.pointer (some ⟨B,0,none⟩),.pointer (some ⟨b,o,none⟩)] w fun e w'=>e= .returned (.bool (zl u.funcs.length u.funs x))/\Below w.heap.size w w':=by
 have c0:=hx.c0;have c3:=hx.c3;have c5:=hx.c5;have b3:=hu.c3;have b4:=hu.c4;have r1:=hx.rn;have r2:=hx.rsrc;obtain⟨r1a,r1b⟩:=r1;have HF:=zzH hf;clear hu hx hf;have hw1:IntKind.i64.wrap ((u.funcs.length:Int)-1)=(u.funcs.length:Int)-1:=by rw [zzq3];omega
 have hw2:IntKind.i64.wrap ((u.funs.length:Int)-1)=(u.funs.length:Int)-1:=by rw [zzq3];omega
 have E:Hid (zl u.funcs.length u.funs x=wi x.n 0 3):=zzH (by unfold zl;rw [hop];rfl);rw [hop]at c0;clear hop;go_in;go_wp2_with (go_at_call 64;refine(zX _ _ _ _).mono ?_;rintro e w1 ⟨rfl,rfl⟩);go_ret;exact⟨zr E.out.symm,zzR _ _⟩
theorem znz (B:Nat) (u:RUnit) (lo' fo go' co':Option Addr) (lc fc gc' cc':Nat) (b o:Nat) (x:RIns) (so co go:Option Addr) (sc cc gc:Nat) (w:World) (hu:UBox w B u lo' fo go' co' lc fc gc' cc') (hl:u.funcs.length<=9223372036854775807) (hl2:u.funs.length<=9223372036854775807) (hf:SlAt w 3 zbB go' u.funs) (hx:IBox w b o x so co go sc cc gc) (hop:x.op=16):
  Calls Tryz.prog 42 #[.pointer (some ⟨B,0,none⟩),.pointer (some ⟨b,o,none⟩)] w fun e w'=>e= .returned (.bool (zl u.funcs.length u.funs x))/\Below w.heap.size w w':=by
 have c0:=hx.c0;have c3:=hx.c3;have c5:=hx.c5;have b3:=hu.c3;have b4:=hu.c4;have r1:=hx.rn;have r2:=hx.rsrc;obtain⟨r1a,r1b⟩:=r1;have HF:=zzH hf;clear hu hx hf;have hw1:IntKind.i64.wrap ((u.funcs.length:Int)-1)=(u.funcs.length:Int)-1:=by rw [zzq3];omega
 have hw2:IntKind.i64.wrap ((u.funs.length:Int)-1)=(u.funs.length:Int)-1:=by rw [zzq3];omega
 have E:Hid (zl u.funcs.length u.funs x=wi x.n 0 ((u.funcs.length:Int)-1)):=zzH (by unfold zl;rw [hop];rfl);rw [hop]at c0;clear hop;go_in;go_wp2_with fail;go_quiet ((go_at_call 64;exact Calls.quiet_of_same ((zX _ _ _ _).mono fun _ _ ⟨a,b⟩=>⟨a,b.symm⟩)));go_wp2_with fail;go_ret;exact⟨zr E.out.symm,zY (zzR _ _) _⟩
theorem zon (B:Nat) (u:RUnit) (lo' fo go' co':Option Addr) (lc fc gc' cc':Nat) (b o:Nat) (x:RIns) (so co go:Option Addr) (sc cc gc:Nat) (w:World) (hu:UBox w B u lo' fo go' co' lc fc gc' cc') (hl:u.funcs.length<=9223372036854775807) (hl2:u.funs.length<=9223372036854775807) (hf:SlAt w 3 zbB go' u.funs) (hx:IBox w b o x so co go sc cc gc) (hop:x.op=17):
  Calls Tryz.prog 42 #[.pointer (some ⟨B,0,none⟩),.pointer (some ⟨b,o,none⟩)] w fun e w'=>e= .returned (.bool (zl u.funcs.length u.funs x))/\Below w.heap.size w w':=by
 have c0:=hx.c0;have c3:=hx.c3;have c5:=hx.c5;have b3:=hu.c3;have b4:=hu.c4;have r1:=hx.rn;have r2:=hx.rsrc;obtain⟨r1a,r1b⟩:=r1;have HF:=zzH hf;clear hu hx hf;have hw1:IntKind.i64.wrap ((u.funcs.length:Int)-1)=(u.funcs.length:Int)-1:=by rw [zzq3];omega
 have hw2:IntKind.i64.wrap ((u.funs.length:Int)-1)=(u.funs.length:Int)-1:=by rw [zzq3];omega
 have E:Hid (zl u.funcs.length u.funs x=wi x.n 0 ((u.funcs.length:Int)-1)):=zzH (by unfold zl;rw [hop];rfl);rw [hop]at c0;clear hop;go_in;go_wp2_with fail;go_quiet ((go_at_call 64;exact Calls.quiet_of_same ((zX _ _ _ _).mono fun _ _ ⟨a,b⟩=>⟨a,b.symm⟩)));go_wp2_with fail;go_ret;exact⟨zr E.out.symm,zY (zzR _ _) _⟩
theorem zn0 (B:Nat) (u:RUnit) (lo' fo go' co':Option Addr) (lc fc gc' cc':Nat) (b o:Nat) (x:RIns) (so co go:Option Addr) (sc cc gc:Nat) (w:World) (hu:UBox w B u lo' fo go' co' lc fc gc' cc') (hl:u.funcs.length<=9223372036854775807) (hl2:u.funs.length<=9223372036854775807) (hf:SlAt w 3 zbB go' u.funs) (hx:IBox w b o x so co go sc cc gc) (hop:x.op=32):
  Calls Tryz.prog 42 #[.pointer (some ⟨B,0,none⟩),.pointer (some ⟨b,o,none⟩)] w fun e w'=>e= .returned (.bool (zl u.funcs.length u.funs x))/\Below w.heap.size w w':=by
 have c0:=hx.c0;have c3:=hx.c3;have c5:=hx.c5;have b3:=hu.c3;have b4:=hu.c4;have r1:=hx.rn;have r2:=hx.rsrc;obtain⟨r1a,r1b⟩:=r1;have HF:=zzH hf;clear hu hx hf;have hw1:IntKind.i64.wrap ((u.funcs.length:Int)-1)=(u.funcs.length:Int)-1:=by rw [zzq3];omega
 have hw2:IntKind.i64.wrap ((u.funs.length:Int)-1)=(u.funs.length:Int)-1:=by rw [zzq3];omega
 have E:Hid (zl u.funcs.length u.funs x=(decide (x.n=1)||decide (x.n=8))):=zzH (by unfold zl;rw [hop];rfl);rw [hop]at c0;clear hop;by_cases n1:x.n=1
 ·exact zz38
 ·exact zz37
theorem zne (B:Nat) (u:RUnit) (lo' fo go' co':Option Addr) (lc fc gc' cc':Nat) (b o:Nat) (x:RIns) (so co go:Option Addr) (sc cc gc:Nat) (w:World) (hu:UBox w B u lo' fo go' co' lc fc gc' cc') (hl:u.funcs.length<=9223372036854775807) (hl2:u.funs.length<=9223372036854775807) (hf:SlAt w 3 zbB go' u.funs) (hx:IBox w b o x so co go sc cc gc) (hop:x.op=33):
  Calls Tryz.prog 42 #[.pointer (some ⟨B,0,none⟩),.pointer (some ⟨b,o,none⟩)] w fun e w'=>e= .returned (.bool (zl u.funcs.length u.funs x))/\Below w.heap.size w w':=by
 have c0:=hx.c0;have c3:=hx.c3;have c5:=hx.c5;have b3:=hu.c3;have b4:=hu.c4;have r1:=hx.rn;have r2:=hx.rsrc;obtain⟨r1a,r1b⟩:=r1;have HF:=zzH hf;clear hu hx hf;have hw1:IntKind.i64.wrap ((u.funcs.length:Int)-1)=(u.funcs.length:Int)-1:=by rw [zzq3];omega
 have hw2:IntKind.i64.wrap ((u.funs.length:Int)-1)=(u.funs.length:Int)-1:=by rw [zzq3];omega
 have E:Hid (zl u.funcs.length u.funs x=(decide (x.n=1)||decide (x.n=8))):=zzH (by unfold zl;rw [hop];rfl);rw [hop]at c0;clear hop;by_cases n1:x.n=1
 ·exact zz38
 ·exact zz37
theorem zkP (B:Nat) (u:RUnit) (lo' fo go' co':Option Addr) (lc fc gc' cc':Nat) (b o:Nat) (x:RIns) (so co go:Option Addr) (sc cc gc:Nat) (w:World) (hu:UBox w B u lo' fo go' co' lc fc gc' cc') (hl:u.funcs.length<=9223372036854775807) (hl2:u.funs.length<=9223372036854775807) (hf:SlAt w 3 zbB go' u.funs) (hx:IBox w b o x so co go sc cc gc) (h5: ¬x.op=5) (h9: ¬x.op=9) (h15: ¬x.op=15) (h18: ¬x.op=18) (h19: ¬x.op=19) (h20: ¬x.op=20) (h21: ¬x.op=21) (h24: ¬x.op=24) (h31: ¬x.op=31) (h16: ¬x.op=16) (h17: ¬x.op=17) (h32: ¬x.op=32) (h33: ¬x.op=33) (h4: ¬x.op=4):
  Calls Tryz.prog 42 #[.pointer (some ⟨B,0,none⟩),.pointer (some ⟨b,o,none⟩)] w fun e w'=>e= .returned (.bool (zl u.funcs.length u.funs x))/\Below w.heap.size w w':=by
 have c0:=hx.c0;have c3:=hx.c3;have c5:=hx.c5;have b3:=hu.c3;have b4:=hu.c4;have r1:=hx.rn;have r2:=hx.rsrc;obtain⟨r1a,r1b⟩:=r1;have HF:=zzH hf;clear hu hx hf;have hw1:IntKind.i64.wrap ((u.funcs.length:Int)-1)=(u.funcs.length:Int)-1:=by rw [zzq3];omega
 have hw2:IntKind.i64.wrap ((u.funs.length:Int)-1)=(u.funs.length:Int)-1:=by rw [zzq3];omega
 have E:Hid (zl u.funcs.length u.funs x=true):=zzH (by unfold zl;rw [if_neg h4,if_neg h5,if_neg h9,if_neg (by omega),if_neg (by omega),if_neg h24,if_neg h31,if_neg (by omega)]);have t5:(x.op==5)=false:=zzB.2 h5;have t9:(x.op==9)=false:=zzB.2 h9;have t15:(x.op==15)=false:=zzB.2 h15;have t18:(x.op==18)=false:=zzB.2 h18;have t19:(x.op==19)=false:=zzB.2 h19;have t20:(x.op==20)=false:=zzB.2 h20;have t21:(x.op==21)=false:=zzB.2 h21;have t24:(x.op==24)=false:=zzB.2 h24;have t31:(x.op==31)=false:=zzB.2 h31;have t16:(x.op==16)=false:=zzB.2 h16;have t17:(x.op==17)=false:=zzB.2 h17;have t32:(x.op==32)=false:=zzB.2 h32;have t33:(x.op==33)=false:=zzB.2 h33;have t4:(x.op==4)=false:=zzB.2 h4;clear h5 h9 h15 h18 h19 h20 h21 h24 h31 h16 h17 h32 h33 h4;go_in;go_wp2_with fail;go_ret;exact⟨zr E.out.symm,zzR _ _⟩
theorem zp0 (B:Nat) (u:RUnit) (lo' fo go' co':Option Addr) (lc fc gc' cc':Nat) (b o:Nat) (x:RIns) (so co go:Option Addr) (sc cc gc:Nat) (w:World) (hu:UBox w B u lo' fo go' co' lc fc gc' cc') (hl:u.funcs.length<=9223372036854775807) (hl2:u.funs.length<=9223372036854775807) (hf:SlAt w 3 zbB go' u.funs) (hx:IBox w b o x so co go sc cc gc) (hop:x.op=4):
  Calls Tryz.prog 42 #[.pointer (some ⟨B,0,none⟩),.pointer (some ⟨b,o,none⟩)] w fun e w'=>e= .returned (.bool (zl u.funcs.length u.funs x))/\Below w.heap.size w w':=by
 have c0:=hx.c0;have c3:=hx.c3;have c5:=hx.c5;have b3:=hu.c3;have b4:=hu.c4;have r1:=hx.rn;have r2:=hx.rsrc;obtain⟨r1a,r1b⟩:=r1;have HF:=zzH hf;clear hu hx hf;have hw1:IntKind.i64.wrap ((u.funcs.length:Int)-1)=(u.funcs.length:Int)-1:=by rw [zzq3];omega
 have hw2:IntKind.i64.wrap ((u.funs.length:Int)-1)=(u.funs.length:Int)-1:=by rw [zzq3];omega
 have E:Hid (zl u.funcs.length u.funs x=(wi x.n 0 ((u.funs.length:Int)-1)&&(match u.funs[x.n.toNat]? with
   |some f=>decide ((x.src.length:Int)=f.free)
   |none=>false))):=zzH (by unfold zl;rw [hop];rfl)
 rw [hop]at c0;clear hop
 cases hw:wi x.n 0 ((u.funs.length:Int)-1)with
 |false=>
  have E2:Hid (zl u.funcs.length u.funs x=false):=zzH (by rw [E.out,hw];rfl)
  have hwr: ∀wx,Calls Tryz.prog 64 #[.int .i64 x.n,.int .i64 0,.int .i64 ((u.funs.length:Int)-1)] wx fun e w'=>e= .returned (.bool false)/\w'=wx:=fun wx=>by
   have:=zX x.n 0 ((u.funs.length:Int)-1) wx;rw [hw]at this;exact zz40
  clear hw E;go_in;go_wp2_with fail;go_quiet ((go_at_call 64;exact Calls.quiet_of_same (hwr _)));go_wp2_with fail;go_ret;exact⟨zr E2.out.symm,zY (zzR _ _) _⟩
 |true=>
  have hr:0<=x.n/\x.n<=(u.funs.length:Int)-1:=by
   unfold wi at hw;rw [Bool.and_eq_true,decide_eq_true_eq,decide_eq_true_eq]at hw;exact hw
  obtain⟨m,hm⟩:=Int.eq_ofNat_of_zero_le hr.1;have hml:m<u.funs.length:=by omega
  obtain⟨b2,off,hao,hb2,q0,q1,q2,_,_,_⟩:=HF.out.fn hml;subst hao
  have E2:Hid (zl u.funcs.length u.funs x=decide ((x.src.length:Int)=u.funs[m].free)):=zzH (by
   rw [E.out,hw,hm];have:u.funs[(((m:Nat):Int)).toNat]?=some u.funs[m]:=by rw [zzq11];exact zzq8 hml
   rw [this];rfl)
  have hwr: ∀wx,Calls Tryz.prog 64 #[.int .i64 (m:Int),.int .i64 0,.int .i64 ((u.funs.length:Int)-1)] wx fun e w'=>e= .returned (.bool true)/\w'=wx:=fun wx=>by
   have:=zX (m:Int) 0 ((u.funs.length:Int)-1) wx;rw [<-hm,hw]at this;rw [<-hm];exact zz40
  rw [hm]at c5;clear hw hr E r1a r1b;generalize u.funs[m].free=z at *;generalize x.n=xn at *;by_cases hz:(x.src.length:Int)=z
  ·have E3:Hid (zl u.funcs.length u.funs x=true):=zzH (by rw [E2.out,decide_eq_true hz])
   have t:((x.src.length:Int)==z)=true:=by rw [hz];exact beq_self_eq_true _
   exact zz39
  ·have E3:Hid (zl u.funcs.length u.funs x=false):=zzH (by rw [E2.out,decide_eq_false hz])
   have t:((x.src.length:Int)==z)=false:=zzB.2 hz;exact zz39
theorem zlW (B:Nat) (u:RUnit) (lo' fo go' co':Option Addr) (lc fc gc' cc':Nat) (b o:Nat) (x:RIns) (so co go:Option Addr) (sc cc gc:Nat) (w:World) (hu:UBox w B u lo' fo go' co' lc fc gc' cc') (hl:u.funcs.length<=9223372036854775807) (hl2:u.funs.length<=9223372036854775807) (hf:SlAt w 3 zbB go' u.funs) (hx:IBox w b o x so co go sc cc gc):
  Calls Tryz.prog 42 #[.pointer (some ⟨B,0,none⟩),.pointer (some ⟨b,o,none⟩)] w fun e w'=>e= .returned (.bool (zl u.funcs.length u.funs x))/\Below w.heap.size w w':=by
 by_cases h5:x.op=5
 ·exact zqh B u lo' fo go' co' lc fc gc' cc' b o x so co go sc cc gc w hu hl hl2 hf hx h5
 by_cases h9:x.op=9
 ·exact zqm B u lo' fo go' co' lc fc gc' cc' b o x so co go sc cc gc w hu hl hl2 hf hx h9
 by_cases h15:x.op=15
 ·exact zok B u lo' fo go' co' lc fc gc' cc' b o x so co go sc cc gc w hu hl hl2 hf hx h15
 by_cases h18:x.op=18
 ·exact zna B u lo' fo go' co' lc fc gc' cc' b o x so co go sc cc gc w hu hl hl2 hf hx h18
 by_cases h19:x.op=19
 ·exact zm4 B u lo' fo go' co' lc fc gc' cc' b o x so co go sc cc gc w hu hl hl2 hf hx h19
 by_cases h20:x.op=20
 ·exact znQ B u lo' fo go' co' lc fc gc' cc' b o x so co go sc cc gc w hu hl hl2 hf hx h20
 by_cases h21:x.op=21
 ·exact zn9 B u lo' fo go' co' lc fc gc' cc' b o x so co go sc cc gc w hu hl hl2 hf hx h21
 by_cases h24:x.op=24
 ·exact zop B u lo' fo go' co' lc fc gc' cc' b o x so co go sc cc gc w hu hl hl2 hf hx h24
 by_cases h31:x.op=31
 ·exact znB B u lo' fo go' co' lc fc gc' cc' b o x so co go sc cc gc w hu hl hl2 hf hx h31
 by_cases h16:x.op=16
 ·exact znz B u lo' fo go' co' lc fc gc' cc' b o x so co go sc cc gc w hu hl hl2 hf hx h16
 by_cases h17:x.op=17
 ·exact zon B u lo' fo go' co' lc fc gc' cc' b o x so co go sc cc gc w hu hl hl2 hf hx h17
 by_cases h32:x.op=32
 ·exact zn0 B u lo' fo go' co' lc fc gc' cc' b o x so co go sc cc gc w hu hl hl2 hf hx h32
 by_cases h33:x.op=33
 ·exact zne B u lo' fo go' co' lc fc gc' cc' b o x so co go sc cc gc w hu hl hl2 hf hx h33
 by_cases h4:x.op=4
 ·exact zp0 B u lo' fo go' co' lc fc gc' cc' b o x so co go sc cc gc w hu hl hl2 hf hx h4
 exact zkP B u lo' fo go' co' lc fc gc' cc' b o x so co go sc cc gc w hu hl hl2 hf hx h5 h9 h15 h18 h19 h20 h21 h24 h31 h16 h17 h32 h33 h4
def XBox (w:World) (X:Nat) (x:RIns) (so co' go':Option Addr) (sc cc' gc':Nat):Prop:=w.heap[X]?=some (.cells #[.int .i64 x.op,.int .i64 x.dst.kind,.int .i64 x.dst.n,.slice so x.src.length sc,.int .i64 x.to,.int .i64 x.n,.int .i64 x.live,.string x.name,.slice co' x.cases.length cc',.slice go' x.segs.length gc'] 64 (0,0))
section
variable {w:World} {X:Nat} {x:RIns} {so co' go':Option Addr} {sc cc' gc':Nat}
theorem XBox.lt (h:XBox w X x so co' go' sc cc' gc'):X<w.heap.size:=zc h
theorem XBox.below {w':World} (h:XBox w X x so co' go' sc cc' gc') (hb:Below w.heap.size w w'):XBox w' X x so co' go' sc cc' gc':=(hb.block X (zc h)).trans h
theorem XBox.c0 (h:XBox w X x so co' go' sc cc' gc'):w.cell? ⟨X,0,none⟩=some (.int .i64 x.op):=by rw [zzq2 _ _ _ _ _ _ h];rfl
theorem XBox.c1 (h:XBox w X x so co' go' sc cc' gc'):w.cell? ⟨X,1,none⟩=some (.int .i64 x.dst.kind):=by rw [zzq2 _ _ _ _ _ _ h];rfl
theorem XBox.c2 (h:XBox w X x so co' go' sc cc' gc'):w.cell? ⟨X,2,none⟩=some (.int .i64 x.dst.n):=by rw [zzq2 _ _ _ _ _ _ h];rfl
theorem XBox.c3 (h:XBox w X x so co' go' sc cc' gc'):w.cell? ⟨X,3,none⟩=some (.slice so x.src.length sc):=by rw [zzq2 _ _ _ _ _ _ h];rfl
theorem XBox.c4 (h:XBox w X x so co' go' sc cc' gc'):w.cell? ⟨X,4,none⟩=some (.int .i64 x.to):=by rw [zzq2 _ _ _ _ _ _ h];rfl
theorem XBox.c5 (h:XBox w X x so co' go' sc cc' gc'):w.cell? ⟨X,5,none⟩=some (.int .i64 x.n):=by rw [zzq2 _ _ _ _ _ _ h];rfl
theorem XBox.c6 (h:XBox w X x so co' go' sc cc' gc'):w.cell? ⟨X,6,none⟩=some (.int .i64 x.live):=by rw [zzq2 _ _ _ _ _ _ h];rfl
theorem XBox.c7 (h:XBox w X x so co' go' sc cc' gc'):w.cell? ⟨X,7,none⟩=some (.string x.name):=by rw [zzq2 _ _ _ _ _ _ h];rfl
theorem XBox.c8 (h:XBox w X x so co' go' sc cc' gc'):w.cell? ⟨X,8,none⟩=some (.slice co' x.cases.length cc'):=by rw [zzq2 _ _ _ _ _ _ h];rfl
theorem XBox.c9 (h:XBox w X x so co' go' sc cc' gc'):w.cell? ⟨X,9,none⟩=some (.slice go' x.segs.length gc'):=by rw [zzq2 _ _ _ _ _ _ h];rfl
end
theorem zbQ (w:World) (u:RUnit) (lo fo go co:Option Addr) (lc fc gc cc:Nat) (x:RIns) (so co' go':Option Addr) (sc cc' gc':Nat):UBox ((w.alloc (.cells #[.string u.mdl,.int .i64 u.vsn,.slice lo u.lits.length lc,.slice fo u.funcs.length fc,.slice go u.funs.length gc,.slice co u.code.length cc] 28)).alloc (.cells #[.int .i64 x.op,.int .i64 x.dst.kind,.int .i64 x.dst.n,.slice so x.src.length sc,.int .i64 x.to,.int .i64 x.n,.int .i64 x.live,.string x.name,.slice co' x.cases.length cc',.slice go' x.segs.length gc'] 64)) w.heap.size u lo fo go co lc fc gc cc/\XBox ((w.alloc (.cells #[.string u.mdl,.int .i64 u.vsn,.slice lo u.lits.length lc,.slice fo u.funcs.length fc,.slice go u.funs.length gc,.slice co u.code.length cc] 28)).alloc (.cells #[.int .i64 x.op,.int .i64 x.dst.kind,.int .i64 x.dst.n,.slice so x.src.length sc,.int .i64 x.to,.int .i64 x.n,.int .i64 x.live,.string x.name,.slice co' x.cases.length cc',.slice go' x.segs.length gc'] 64)) (w.heap.size+1) x so co' go' sc cc' gc'/\Below w.heap.size w ((w.alloc (.cells #[.string u.mdl,.int .i64 u.vsn,.slice lo u.lits.length lc,.slice fo u.funcs.length fc,.slice go u.funs.length gc,.slice co u.code.length cc] 28)).alloc (.cells #[.int .i64 x.op,.int .i64 x.dst.kind,.int .i64 x.dst.n,.slice so x.src.length sc,.int .i64 x.to,.int .i64 x.n,.int .i64 x.live,.string x.name,.slice co' x.cases.length cc',.slice go' x.segs.length gc'] 64)):=by
 have s:(w.alloc (.cells (zzu u lo lc fo fc go gc co cc) 28)).heap.size=w.heap.size+1:=by simp
 refine⟨⟨(Below.heap_alloc _ _ _ (by rw [s];omega)).trans (heap_alloc_new _ _)⟩,?_,((zzR _ _).alloc (zzL _) _).alloc (by rw [s];omega) _⟩;unfold XBox;rw [<-s];exact heap_alloc_new _ _
theorem zO (n a b:Int) (w:World):Calls Tryz.prog 99 #[.int .i64 n,.int .i64 a,.int .i64 b] w fun e w'=>e= .returned (.bool (wi n a b))/\w=w':=by
 exact zz80
def zdP (a:RArg):Bool:=decide (a.kind=0)&&decide (a.n=0)
theorem zgX (a:RArg) (w:World):Calls Tryz.prog 102 #[.agg #[.int .i64 a.kind,.int .i64 a.n]] w fun e w'=>e= .returned (.bool (zdP a))/\Below w.heap.size w w':=by
 obtain⟨k,n⟩:=a;have HB:=zzH ((zzR w.heap.size w).alloc (zzL _) (.cells #[.int .i64 k,.int .i64 n] 59));by_cases h:k=0
 ·by_cases h':n=0
  ·subst h;subst h'
   have E:Hid (zdP ⟨0,0⟩=true):=zzH rfl;exact zz81
  ·subst h
   have E:Hid (zdP ⟨0,n⟩=false):=zzH (by unfold zdP;simp [h']);have t:(n==0)=false:=zzB.2 h';clear h';exact zz81
 ·have E:Hid (zdP ⟨k,n⟩=false):=zzH (by unfold zdP;simp [h])
  have t:(k==0)=false:=zzB.2 h;clear h;exact zz81
theorem zeX (u:RUnit) (lo fo go co:Option Addr) (lc fc gc cc:Nat) (a:RArg) (w:World) (hl:u.lits.length<=9223372036854775807) (ha:I64 a.kind/\I64 a.n):
  Calls Tryz.prog 101 #[.agg (zzu u lo lc fo fc go gc co cc),.agg #[.int .i64 a.kind,.int .i64 a.n]] w fun e w'=>e= .returned (.bool (zbv u.lits.length a))/\Below w.heap.size w w':=by
 unfold zzu;obtain⟨⟨x1,x2⟩,⟨y1,y2⟩⟩:=ha;obtain⟨ak,an⟩:=a;simp only at x1 x2 y1 y2;have HB:Hid (Below w.heap.size w ((w.alloc (.cells (zzu u lo lc fo fc go gc co cc) 28)).alloc (.cells #[.int .i64 ak,.int .i64 an] 59))):=zzH (((zzR _ _).alloc (zzL _) _).alloc (by simp) _);by_cases k1:ak=1
 ·subst k1
  by_cases h0:0<=an
  ·by_cases h1:an<256
   ·have E:Hid (zbv u.lits.length ⟨1,an⟩=true):=zzH (zeq (n:=an) h0 (by omega))
    exact zz85
   ·exact zz82
  ·exact zz82
 ·by_cases k2:ak=2
  ·subst k2
   clear k1;by_cases h0:0<=an
   ·by_cases h1:an<8192
    ·have E:Hid (zbv u.lits.length ⟨2,an⟩=true):=zzH (zeq (n:=an) h0 (by omega))
     exact zz85
    ·exact zz83
   ·exact zz83
  ·by_cases k3:ak=3
   ·subst k3
    clear k1 k2;by_cases h0:0<=an
    ·by_cases h1:an<(u.lits.length:Int)
     ·have E:Hid (zbv u.lits.length ⟨3,an⟩=true):=zzH (zeq (n:=an) h0 (by omega))
      exact zz85
     ·exact zz84
    ·exact zz84
   ·have E:Hid (zbv u.lits.length ⟨ak,an⟩=false):=zzH (by unfold zbv;rw [if_neg k1,if_neg k2,if_neg k3])
    have t1:(ak==1)=false:=zzB.2 k1;have t2:(ak==2)=false:=zzB.2 k2;have t3:(ak==3)=false:=zzB.2 k3;clear k1 k2 k3;exact zz85
theorem zoC (u:RUnit) (lo fo go co:Option Addr) (lc fc gc cc:Nat) (x:RIns) (so co' go':Option Addr) (sc cc' gc':Nat) (w:World) (hl:u.funcs.length<=9223372036854775807) (hl2:u.funs.length<=9223372036854775807) (hf:SlAt w 3 zbB go u.funs) (r1:I64 x.n) (r2:x.src.length<=9223372036854775807) (hop:x.op=5):
  Calls Tryz.prog 75 #[.agg (zzu u lo lc fo fc go gc co cc),.agg (zzi x so sc co' cc' go' gc')] w fun e w'=>e= .returned (.bool (zl u.funcs.length u.funs x))/\Below w.heap.size w w':=by
 unfold zzi zzu;obtain⟨r1a,r1b⟩:=r1;have HF:=zzH hf;have hw1:IntKind.i64.wrap ((u.funcs.length:Int)-1)=(u.funcs.length:Int)-1:=by rw [zzq3];omega
 have hw2:IntKind.i64.wrap ((u.funs.length:Int)-1)=(u.funs.length:Int)-1:=by rw [zzq3];omega
 clear hf;have E:Hid (zl u.funcs.length u.funs x=wi x.n 0 254):=zzH (by unfold zl;rw [hop];rfl);have HOP:=zzH hop;clear hop;go_in;go_upto_region 1 with fail;obtain⟨hU,hX,hBW⟩:=zbQ w u lo fo go co lc fc gc cc x so co' go' sc cc' gc';generalize hWW:(w.alloc (.cells (zzu u lo lc fo fc go gc co cc) 28)).alloc (.cells (zzi x so sc co' cc' go' gc') 64)=W at *;have c0:=hX.c0;have c3:=hX.c3;have c5:=hX.c5;have b3:=hU.c3;have b4:=hU.c4;have hlu:=hU.lt;have hlx:=hX.lt;have HBW:=zzH hBW;clear hU hX hBW hWW;rw [HOP.out]at c0;go_wp2_with (go_at_call 99;refine(zO _ _ _ _).mono ?_;rintro e w1 ⟨rfl,rfl⟩);go_ret;exact⟨zr E.out.symm,HBW.out⟩
theorem zny (u:RUnit) (lo fo go co:Option Addr) (lc fc gc cc:Nat) (x:RIns) (so co' go':Option Addr) (sc cc' gc':Nat) (w:World) (hl:u.funcs.length<=9223372036854775807) (hl2:u.funs.length<=9223372036854775807) (hf:SlAt w 3 zbB go u.funs) (r1:I64 x.n) (r2:x.src.length<=9223372036854775807) (hop:x.op=9):
  Calls Tryz.prog 75 #[.agg (zzu u lo lc fo fc go gc co cc),.agg (zzi x so sc co' cc' go' gc')] w fun e w'=>e= .returned (.bool (zl u.funcs.length u.funs x))/\Below w.heap.size w w':=by
 unfold zzi zzu;obtain⟨r1a,r1b⟩:=r1;have HF:=zzH hf;have hw1:IntKind.i64.wrap ((u.funcs.length:Int)-1)=(u.funcs.length:Int)-1:=by rw [zzq3];omega
 have hw2:IntKind.i64.wrap ((u.funs.length:Int)-1)=(u.funs.length:Int)-1:=by rw [zzq3];omega
 clear hf;have E:Hid (zl u.funcs.length u.funs x=wi x.n 0 255):=zzH (by unfold zl;rw [hop];rfl);have HOP:=zzH hop;clear hop;go_in;go_upto_region 1 with fail;obtain⟨hU,hX,hBW⟩:=zbQ w u lo fo go co lc fc gc cc x so co' go' sc cc' gc';generalize hWW:(w.alloc (.cells (zzu u lo lc fo fc go gc co cc) 28)).alloc (.cells (zzi x so sc co' cc' go' gc') 64)=W at *;have c0:=hX.c0;have c3:=hX.c3;have c5:=hX.c5;have b3:=hU.c3;have b4:=hU.c4;have hlu:=hU.lt;have hlx:=hX.lt;have HBW:=zzH hBW;clear hU hX hBW hWW;rw [HOP.out]at c0;go_wp2_with (go_at_call 99;refine(zO _ _ _ _).mono ?_;rintro e w1 ⟨rfl,rfl⟩);go_ret;exact⟨zr E.out.symm,HBW.out⟩
theorem zmS (u:RUnit) (lo fo go co:Option Addr) (lc fc gc cc:Nat) (x:RIns) (so co' go':Option Addr) (sc cc' gc':Nat) (w:World) (hl:u.funcs.length<=9223372036854775807) (hl2:u.funs.length<=9223372036854775807) (hf:SlAt w 3 zbB go u.funs) (r1:I64 x.n) (r2:x.src.length<=9223372036854775807) (hop:x.op=15):
  Calls Tryz.prog 75 #[.agg (zzu u lo lc fo fc go gc co cc),.agg (zzi x so sc co' cc' go' gc')] w fun e w'=>e= .returned (.bool (zl u.funcs.length u.funs x))/\Below w.heap.size w w':=by
 unfold zzi zzu;obtain⟨r1a,r1b⟩:=r1;have HF:=zzH hf;have hw1:IntKind.i64.wrap ((u.funcs.length:Int)-1)=(u.funcs.length:Int)-1:=by rw [zzq3];omega
 have hw2:IntKind.i64.wrap ((u.funs.length:Int)-1)=(u.funs.length:Int)-1:=by rw [zzq3];omega
 clear hf;have E:Hid (zl u.funcs.length u.funs x=wi x.n 0 16):=zzH (by unfold zl;rw [hop];rfl);have HOP:=zzH hop;clear hop;go_in;go_upto_region 1 with fail;obtain⟨hU,hX,hBW⟩:=zbQ w u lo fo go co lc fc gc cc x so co' go' sc cc' gc';generalize hWW:(w.alloc (.cells (zzu u lo lc fo fc go gc co cc) 28)).alloc (.cells (zzi x so sc co' cc' go' gc') 64)=W at *;have c0:=hX.c0;have c3:=hX.c3;have c5:=hX.c5;have b3:=hU.c3;have b4:=hU.c4;have hlu:=hU.lt;have hlx:=hX.lt;have HBW:=zzH hBW;clear hU hX hBW hWW;rw [HOP.out]at c0;go_wp2_with (go_at_call 99;refine(zO _ _ _ _).mono ?_;rintro e w1 ⟨rfl,rfl⟩);go_ret;exact⟨zr E.out.symm,HBW.out⟩
theorem zl7 (u:RUnit) (lo fo go co:Option Addr) (lc fc gc cc:Nat) (x:RIns) (so co' go':Option Addr) (sc cc' gc':Nat) (w:World) (hl:u.funcs.length<=9223372036854775807) (hl2:u.funs.length<=9223372036854775807) (hf:SlAt w 3 zbB go u.funs) (r1:I64 x.n) (r2:x.src.length<=9223372036854775807) (hop:x.op=18):
  Calls Tryz.prog 75 #[.agg (zzu u lo lc fo fc go gc co cc),.agg (zzi x so sc co' cc' go' gc')] w fun e w'=>e= .returned (.bool (zl u.funcs.length u.funs x))/\Below w.heap.size w w':=by
 unfold zzi zzu;obtain⟨r1a,r1b⟩:=r1;have HF:=zzH hf;have hw1:IntKind.i64.wrap ((u.funcs.length:Int)-1)=(u.funcs.length:Int)-1:=by rw [zzq3];omega
 have hw2:IntKind.i64.wrap ((u.funs.length:Int)-1)=(u.funs.length:Int)-1:=by rw [zzq3];omega
 clear hf;have E:Hid (zl u.funcs.length u.funs x=wi x.n 0 16):=zzH (by unfold zl;rw [hop];rfl);have HOP:=zzH hop;clear hop;go_in;go_upto_region 1 with fail;obtain⟨hU,hX,hBW⟩:=zbQ w u lo fo go co lc fc gc cc x so co' go' sc cc' gc';generalize hWW:(w.alloc (.cells (zzu u lo lc fo fc go gc co cc) 28)).alloc (.cells (zzi x so sc co' cc' go' gc') 64)=W at *;have c0:=hX.c0;have c3:=hX.c3;have c5:=hX.c5;have b3:=hU.c3;have b4:=hU.c4;have hlu:=hU.lt;have hlx:=hX.lt;have HBW:=zzH hBW;clear hU hX hBW hWW;rw [HOP.out]at c0;go_wp2_with (go_at_call 99;refine(zO _ _ _ _).mono ?_;rintro e w1 ⟨rfl,rfl⟩);go_ret;exact⟨zr E.out.symm,HBW.out⟩
theorem zmm (u:RUnit) (lo fo go co:Option Addr) (lc fc gc cc:Nat) (x:RIns) (so co' go':Option Addr) (sc cc' gc':Nat) (w:World) (hl:u.funcs.length<=9223372036854775807) (hl2:u.funs.length<=9223372036854775807) (hf:SlAt w 3 zbB go u.funs) (r1:I64 x.n) (r2:x.src.length<=9223372036854775807) (hop:x.op=19):
  Calls Tryz.prog 75 #[.agg (zzu u lo lc fo fc go gc co cc),.agg (zzi x so sc co' cc' go' gc')] w fun e w'=>e= .returned (.bool (zl u.funcs.length u.funs x))/\Below w.heap.size w w':=by
 unfold zzi zzu;obtain⟨r1a,r1b⟩:=r1;have HF:=zzH hf;have hw1:IntKind.i64.wrap ((u.funcs.length:Int)-1)=(u.funcs.length:Int)-1:=by rw [zzq3];omega
 have hw2:IntKind.i64.wrap ((u.funs.length:Int)-1)=(u.funs.length:Int)-1:=by rw [zzq3];omega
 clear hf;have E:Hid (zl u.funcs.length u.funs x=wi x.n 0 16):=zzH (by unfold zl;rw [hop];rfl);have HOP:=zzH hop;clear hop;go_in;go_upto_region 1 with fail;obtain⟨hU,hX,hBW⟩:=zbQ w u lo fo go co lc fc gc cc x so co' go' sc cc' gc';generalize hWW:(w.alloc (.cells (zzu u lo lc fo fc go gc co cc) 28)).alloc (.cells (zzi x so sc co' cc' go' gc') 64)=W at *;have c0:=hX.c0;have c3:=hX.c3;have c5:=hX.c5;have b3:=hU.c3;have b4:=hU.c4;have hlu:=hU.lt;have hlx:=hX.lt;have HBW:=zzH hBW;clear hU hX hBW hWW;rw [HOP.out]at c0;go_wp2_with (go_at_call 99;refine(zO _ _ _ _).mono ?_;rintro e w1 ⟨rfl,rfl⟩);go_ret;exact⟨zr E.out.symm,HBW.out⟩
theorem zme (u:RUnit) (lo fo go co:Option Addr) (lc fc gc cc:Nat) (x:RIns) (so co' go':Option Addr) (sc cc' gc':Nat) (w:World) (hl:u.funcs.length<=9223372036854775807) (hl2:u.funs.length<=9223372036854775807) (hf:SlAt w 3 zbB go u.funs) (r1:I64 x.n) (r2:x.src.length<=9223372036854775807) (hop:x.op=20):
  Calls Tryz.prog 75 #[.agg (zzu u lo lc fo fc go gc co cc),.agg (zzi x so sc co' cc' go' gc')] w fun e w'=>e= .returned (.bool (zl u.funcs.length u.funs x))/\Below w.heap.size w w':=by
 unfold zzi zzu;obtain⟨r1a,r1b⟩:=r1;have HF:=zzH hf;have hw1:IntKind.i64.wrap ((u.funcs.length:Int)-1)=(u.funcs.length:Int)-1:=by rw [zzq3];omega
 have hw2:IntKind.i64.wrap ((u.funs.length:Int)-1)=(u.funs.length:Int)-1:=by rw [zzq3];omega
 clear hf;have E:Hid (zl u.funcs.length u.funs x=wi x.n 0 16):=zzH (by unfold zl;rw [hop];rfl);have HOP:=zzH hop;clear hop;go_in;go_upto_region 1 with fail;obtain⟨hU,hX,hBW⟩:=zbQ w u lo fo go co lc fc gc cc x so co' go' sc cc' gc';generalize hWW:(w.alloc (.cells (zzu u lo lc fo fc go gc co cc) 28)).alloc (.cells (zzi x so sc co' cc' go' gc') 64)=W at *;have c0:=hX.c0;have c3:=hX.c3;have c5:=hX.c5;have b3:=hU.c3;have b4:=hU.c4;have hlu:=hU.lt;have hlx:=hX.lt;have HBW:=zzH hBW;clear hU hX hBW hWW;rw [HOP.out]at c0;go_wp2_with (go_at_call 99;refine(zO _ _ _ _).mono ?_;rintro e w1 ⟨rfl,rfl⟩);go_ret;exact⟨zr E.out.symm,HBW.out⟩
theorem zmL (u:RUnit) (lo fo go co:Option Addr) (lc fc gc cc:Nat) (x:RIns) (so co' go':Option Addr) (sc cc' gc':Nat) (w:World) (hl:u.funcs.length<=9223372036854775807) (hl2:u.funs.length<=9223372036854775807) (hf:SlAt w 3 zbB go u.funs) (r1:I64 x.n) (r2:x.src.length<=9223372036854775807) (hop:x.op=21):
  Calls Tryz.prog 75 #[.agg (zzu u lo lc fo fc go gc co cc),.agg (zzi x so sc co' cc' go' gc')] w fun e w'=>e= .returned (.bool (zl u.funcs.length u.funs x))/\Below w.heap.size w w':=by
 unfold zzi zzu;obtain⟨r1a,r1b⟩:=r1;have HF:=zzH hf;have hw1:IntKind.i64.wrap ((u.funcs.length:Int)-1)=(u.funcs.length:Int)-1:=by rw [zzq3];omega
 have hw2:IntKind.i64.wrap ((u.funs.length:Int)-1)=(u.funs.length:Int)-1:=by rw [zzq3];omega
 clear hf;have E:Hid (zl u.funcs.length u.funs x=wi x.n 0 16):=zzH (by unfold zl;rw [hop];rfl);have HOP:=zzH hop;clear hop;go_in;go_upto_region 1 with fail;obtain⟨hU,hX,hBW⟩:=zbQ w u lo fo go co lc fc gc cc x so co' go' sc cc' gc';generalize hWW:(w.alloc (.cells (zzu u lo lc fo fc go gc co cc) 28)).alloc (.cells (zzi x so sc co' cc' go' gc') 64)=W at *;have c0:=hX.c0;have c3:=hX.c3;have c5:=hX.c5;have b3:=hU.c3;have b4:=hU.c4;have hlu:=hU.lt;have hlx:=hX.lt;have HBW:=zzH hBW;clear hU hX hBW hWW;rw [HOP.out]at c0;go_wp2_with (go_at_call 99;refine(zO _ _ _ _).mono ?_;rintro e w1 ⟨rfl,rfl⟩);go_ret;exact⟨zr E.out.symm,HBW.out⟩
theorem zma (u:RUnit) (lo fo go co:Option Addr) (lc fc gc cc:Nat) (x:RIns) (so co' go':Option Addr) (sc cc' gc':Nat) (w:World) (hl:u.funcs.length<=9223372036854775807) (hl2:u.funs.length<=9223372036854775807) (hf:SlAt w 3 zbB go u.funs) (r1:I64 x.n) (r2:x.src.length<=9223372036854775807) (hop:x.op=24):
  Calls Tryz.prog 75 #[.agg (zzu u lo lc fo fc go gc co cc),.agg (zzi x so sc co' cc' go' gc')] w fun e w'=>e= .returned (.bool (zl u.funcs.length u.funs x))/\Below w.heap.size w w':=by
 unfold zzi zzu;obtain⟨r1a,r1b⟩:=r1;have HF:=zzH hf;have hw1:IntKind.i64.wrap ((u.funcs.length:Int)-1)=(u.funcs.length:Int)-1:=by rw [zzq3];omega
 have hw2:IntKind.i64.wrap ((u.funs.length:Int)-1)=(u.funs.length:Int)-1:=by rw [zzq3];omega
 clear hf;have E:Hid (zl u.funcs.length u.funs x=wi x.n 1 8192):=zzH (by unfold zl;rw [hop];rfl);have HOP:=zzH hop;clear hop;go_in;go_upto_region 1 with fail;obtain⟨hU,hX,hBW⟩:=zbQ w u lo fo go co lc fc gc cc x so co' go' sc cc' gc';generalize hWW:(w.alloc (.cells (zzu u lo lc fo fc go gc co cc) 28)).alloc (.cells (zzi x so sc co' cc' go' gc') 64)=W at *;have c0:=hX.c0;have c3:=hX.c3;have c5:=hX.c5;have b3:=hU.c3;have b4:=hU.c4;have hlu:=hU.lt;have hlx:=hX.lt;have HBW:=zzH hBW;clear hU hX hBW hWW;rw [HOP.out]at c0;go_wp2_with (go_at_call 99;refine(zO _ _ _ _).mono ?_;rintro e w1 ⟨rfl,rfl⟩);go_ret;exact⟨zr E.out.symm,HBW.out⟩
theorem zmQ (u:RUnit) (lo fo go co:Option Addr) (lc fc gc cc:Nat) (x:RIns) (so co' go':Option Addr) (sc cc' gc':Nat) (w:World) (hl:u.funcs.length<=9223372036854775807) (hl2:u.funs.length<=9223372036854775807) (hf:SlAt w 3 zbB go u.funs) (r1:I64 x.n) (r2:x.src.length<=9223372036854775807) (hop:x.op=31):
  Calls Tryz.prog 75 #[.agg (zzu u lo lc fo fc go gc co cc),.agg (zzi x so sc co' cc' go' gc')] w fun e w'=>e= .returned (.bool (zl u.funcs.length u.funs x))/\Below w.heap.size w w':=by
 unfold zzi zzu;obtain⟨r1a,r1b⟩:=r1;have HF:=zzH hf;have hw1:IntKind.i64.wrap ((u.funcs.length:Int)-1)=(u.funcs.length:Int)-1:=by rw [zzq3];omega
 have hw2:IntKind.i64.wrap ((u.funs.length:Int)-1)=(u.funs.length:Int)-1:=by rw [zzq3];omega
 clear hf;have E:Hid (zl u.funcs.length u.funs x=wi x.n 0 3):=zzH (by unfold zl;rw [hop];rfl);have HOP:=zzH hop;clear hop;go_in;go_upto_region 1 with fail;obtain⟨hU,hX,hBW⟩:=zbQ w u lo fo go co lc fc gc cc x so co' go' sc cc' gc';generalize hWW:(w.alloc (.cells (zzu u lo lc fo fc go gc co cc) 28)).alloc (.cells (zzi x so sc co' cc' go' gc') 64)=W at *;have c0:=hX.c0;have c3:=hX.c3;have c5:=hX.c5;have b3:=hU.c3;have b4:=hU.c4;have hlu:=hU.lt;have hlx:=hX.lt;have HBW:=zzH hBW;clear hU hX hBW hWW;rw [HOP.out]at c0;go_wp2_with (go_at_call 99;refine(zO _ _ _ _).mono ?_;rintro e w1 ⟨rfl,rfl⟩);go_ret;exact⟨zr E.out.symm,HBW.out⟩
theorem zmn (u:RUnit) (lo fo go co:Option Addr) (lc fc gc cc:Nat) (x:RIns) (so co' go':Option Addr) (sc cc' gc':Nat) (w:World) (hl:u.funcs.length<=9223372036854775807) (hl2:u.funs.length<=9223372036854775807) (hf:SlAt w 3 zbB go u.funs) (r1:I64 x.n) (r2:x.src.length<=9223372036854775807) (hop:x.op=16):
  Calls Tryz.prog 75 #[.agg (zzu u lo lc fo fc go gc co cc),.agg (zzi x so sc co' cc' go' gc')] w fun e w'=>e= .returned (.bool (zl u.funcs.length u.funs x))/\Below w.heap.size w w':=by
 unfold zzi zzu;obtain⟨r1a,r1b⟩:=r1;have HF:=zzH hf;have hw1:IntKind.i64.wrap ((u.funcs.length:Int)-1)=(u.funcs.length:Int)-1:=by rw [zzq3];omega
 have hw2:IntKind.i64.wrap ((u.funs.length:Int)-1)=(u.funs.length:Int)-1:=by rw [zzq3];omega
 clear hf;have E:Hid (zl u.funcs.length u.funs x=wi x.n 0 ((u.funcs.length:Int)-1)):=zzH (by unfold zl;rw [hop];rfl);have HOP:=zzH hop;clear hop;go_in;go_upto_region 1 with fail;obtain⟨hU,hX,hBW⟩:=zbQ w u lo fo go co lc fc gc cc x so co' go' sc cc' gc';generalize hWW:(w.alloc (.cells (zzu u lo lc fo fc go gc co cc) 28)).alloc (.cells (zzi x so sc co' cc' go' gc') 64)=W at *;have c0:=hX.c0;have c3:=hX.c3;have c5:=hX.c5;have b3:=hU.c3;have b4:=hU.c4;have hlu:=hU.lt;have hlx:=hX.lt;have HBW:=zzH hBW;clear hU hX hBW hWW;rw [HOP.out]at c0;go_wp2_with (go_at_call 99;refine(zO _ _ _ _).mono ?_;rintro e w1 ⟨rfl,rfl⟩);go_ret;exact⟨zr E.out.symm,HBW.out⟩
theorem zl3 (u:RUnit) (lo fo go co:Option Addr) (lc fc gc cc:Nat) (x:RIns) (so co' go':Option Addr) (sc cc' gc':Nat) (w:World) (hl:u.funcs.length<=9223372036854775807) (hl2:u.funs.length<=9223372036854775807) (hf:SlAt w 3 zbB go u.funs) (r1:I64 x.n) (r2:x.src.length<=9223372036854775807) (hop:x.op=17):
  Calls Tryz.prog 75 #[.agg (zzu u lo lc fo fc go gc co cc),.agg (zzi x so sc co' cc' go' gc')] w fun e w'=>e= .returned (.bool (zl u.funcs.length u.funs x))/\Below w.heap.size w w':=by
 unfold zzi zzu;obtain⟨r1a,r1b⟩:=r1;have HF:=zzH hf;have hw1:IntKind.i64.wrap ((u.funcs.length:Int)-1)=(u.funcs.length:Int)-1:=by rw [zzq3];omega
 have hw2:IntKind.i64.wrap ((u.funs.length:Int)-1)=(u.funs.length:Int)-1:=by rw [zzq3];omega
 clear hf;have E:Hid (zl u.funcs.length u.funs x=wi x.n 0 ((u.funcs.length:Int)-1)):=zzH (by unfold zl;rw [hop];rfl);have HOP:=zzH hop;clear hop;go_in;go_upto_region 1 with fail;obtain⟨hU,hX,hBW⟩:=zbQ w u lo fo go co lc fc gc cc x so co' go' sc cc' gc';generalize hWW:(w.alloc (.cells (zzu u lo lc fo fc go gc co cc) 28)).alloc (.cells (zzi x so sc co' cc' go' gc') 64)=W at *;have c0:=hX.c0;have c3:=hX.c3;have c5:=hX.c5;have b3:=hU.c3;have b4:=hU.c4;have hlu:=hU.lt;have hlx:=hX.lt;have HBW:=zzH hBW;clear hU hX hBW hWW;rw [HOP.out]at c0;go_wp2_with (go_at_call 99;refine(zO _ _ _ _).mono ?_;rintro e w1 ⟨rfl,rfl⟩);go_ret;exact⟨zr E.out.symm,HBW.out⟩
theorem zlM (u:RUnit) (lo fo go co:Option Addr) (lc fc gc cc:Nat) (x:RIns) (so co' go':Option Addr) (sc cc' gc':Nat) (w:World) (hl:u.funcs.length<=9223372036854775807) (hl2:u.funs.length<=9223372036854775807) (hf:SlAt w 3 zbB go u.funs) (r1:I64 x.n) (r2:x.src.length<=9223372036854775807) (hop:x.op=32):
  Calls Tryz.prog 75 #[.agg (zzu u lo lc fo fc go gc co cc),.agg (zzi x so sc co' cc' go' gc')] w fun e w'=>e= .returned (.bool (zl u.funcs.length u.funs x))/\Below w.heap.size w w':=by
 unfold zzi zzu;obtain⟨r1a,r1b⟩:=r1;have HF:=zzH hf;have hw1:IntKind.i64.wrap ((u.funcs.length:Int)-1)=(u.funcs.length:Int)-1:=by rw [zzq3];omega
 have hw2:IntKind.i64.wrap ((u.funs.length:Int)-1)=(u.funs.length:Int)-1:=by rw [zzq3];omega
 clear hf;have E:Hid (zl u.funcs.length u.funs x=(decide (x.n=1)||decide (x.n=8))):=zzH (by unfold zl;rw [hop];rfl);have HOP:=zzH hop;clear hop;by_cases n1:x.n=1
 ·exact zz180
 ·exact zz179
theorem zmv (u:RUnit) (lo fo go co:Option Addr) (lc fc gc cc:Nat) (x:RIns) (so co' go':Option Addr) (sc cc' gc':Nat) (w:World) (hl:u.funcs.length<=9223372036854775807) (hl2:u.funs.length<=9223372036854775807) (hf:SlAt w 3 zbB go u.funs) (r1:I64 x.n) (r2:x.src.length<=9223372036854775807) (hop:x.op=33):
  Calls Tryz.prog 75 #[.agg (zzu u lo lc fo fc go gc co cc),.agg (zzi x so sc co' cc' go' gc')] w fun e w'=>e= .returned (.bool (zl u.funcs.length u.funs x))/\Below w.heap.size w w':=by
 unfold zzi zzu;obtain⟨r1a,r1b⟩:=r1;have HF:=zzH hf;have hw1:IntKind.i64.wrap ((u.funcs.length:Int)-1)=(u.funcs.length:Int)-1:=by rw [zzq3];omega
 have hw2:IntKind.i64.wrap ((u.funs.length:Int)-1)=(u.funs.length:Int)-1:=by rw [zzq3];omega
 clear hf;have E:Hid (zl u.funcs.length u.funs x=(decide (x.n=1)||decide (x.n=8))):=zzH (by unfold zl;rw [hop];rfl);have HOP:=zzH hop;clear hop;by_cases n1:x.n=1
 ·exact zz180
 ·exact zz179
theorem zjU (u:RUnit) (lo fo go co:Option Addr) (lc fc gc cc:Nat) (x:RIns) (so co' go':Option Addr) (sc cc' gc':Nat) (w:World) (hl:u.funcs.length<=9223372036854775807) (hl2:u.funs.length<=9223372036854775807) (hf:SlAt w 3 zbB go u.funs) (r1:I64 x.n) (r2:x.src.length<=9223372036854775807) (h5: ¬x.op=5) (h9: ¬x.op=9) (h15: ¬x.op=15) (h18: ¬x.op=18) (h19: ¬x.op=19) (h20: ¬x.op=20) (h21: ¬x.op=21) (h24: ¬x.op=24) (h31: ¬x.op=31) (h16: ¬x.op=16) (h17: ¬x.op=17) (h32: ¬x.op=32) (h33: ¬x.op=33) (h4: ¬x.op=4):
  Calls Tryz.prog 75 #[.agg (zzu u lo lc fo fc go gc co cc),.agg (zzi x so sc co' cc' go' gc')] w fun e w'=>e= .returned (.bool (zl u.funcs.length u.funs x))/\Below w.heap.size w w':=by
 unfold zzi zzu;obtain⟨r1a,r1b⟩:=r1;have HF:=zzH hf;have hw1:IntKind.i64.wrap ((u.funcs.length:Int)-1)=(u.funcs.length:Int)-1:=by rw [zzq3];omega
 have hw2:IntKind.i64.wrap ((u.funs.length:Int)-1)=(u.funs.length:Int)-1:=by rw [zzq3];omega
 clear hf;have E:Hid (zl u.funcs.length u.funs x=true):=zzH (by unfold zl;rw [if_neg h4,if_neg h5,if_neg h9,if_neg (by omega),if_neg (by omega),if_neg h24,if_neg h31,if_neg (by omega)]);have t5:(x.op==5)=false:=zzB.2 h5;have t9:(x.op==9)=false:=zzB.2 h9;have t15:(x.op==15)=false:=zzB.2 h15;have t18:(x.op==18)=false:=zzB.2 h18;have t19:(x.op==19)=false:=zzB.2 h19;have t20:(x.op==20)=false:=zzB.2 h20;have t21:(x.op==21)=false:=zzB.2 h21;have t24:(x.op==24)=false:=zzB.2 h24;have t31:(x.op==31)=false:=zzB.2 h31;have t16:(x.op==16)=false:=zzB.2 h16;have t17:(x.op==17)=false:=zzB.2 h17;have t32:(x.op==32)=false:=zzB.2 h32;have t33:(x.op==33)=false:=zzB.2 h33;have t4:(x.op==4)=false:=zzB.2 h4;clear h5 h9 h15 h18 h19 h20 h21 h24 h31 h16 h17 h32 h33 h4;go_in;go_upto_region 1 with fail;obtain⟨hU,hX,hBW⟩:=zbQ w u lo fo go co lc fc gc cc x so co' go' sc cc' gc';generalize hWW:(w.alloc (.cells (zzu u lo lc fo fc go gc co cc) 28)).alloc (.cells (zzi x so sc co' cc' go' gc') 64)=W at *;have c0:=hX.c0;have c3:=hX.c3;have c5:=hX.c5;have b3:=hU.c3;have b4:=hU.c4;have hlu:=hU.lt;have hlx:=hX.lt;have HBW:=zzH hBW;clear hU hX hBW hWW;go_wp2_with fail;go_ret;exact⟨zr E.out.symm,HBW.out⟩
theorem zox (u:RUnit) (lo fo go co:Option Addr) (lc fc gc cc:Nat) (x:RIns) (so co' go':Option Addr) (sc cc' gc':Nat) (w:World) (hl:u.funcs.length<=9223372036854775807) (hl2:u.funs.length<=9223372036854775807) (hf:SlAt w 3 zbB go u.funs) (r1:I64 x.n) (r2:x.src.length<=9223372036854775807) (hop:x.op=4):
  Calls Tryz.prog 75 #[.agg (zzu u lo lc fo fc go gc co cc),.agg (zzi x so sc co' cc' go' gc')] w fun e w'=>e= .returned (.bool (zl u.funcs.length u.funs x))/\Below w.heap.size w w':=by
 unfold zzi zzu;obtain⟨r1a,r1b⟩:=r1;have HF:=zzH hf;have hw1:IntKind.i64.wrap ((u.funcs.length:Int)-1)=(u.funcs.length:Int)-1:=by rw [zzq3];omega
 have hw2:IntKind.i64.wrap ((u.funs.length:Int)-1)=(u.funs.length:Int)-1:=by rw [zzq3];omega
 clear hf
 have E:Hid (zl u.funcs.length u.funs x=(wi x.n 0 ((u.funs.length:Int)-1)&&(match u.funs[x.n.toNat]? with
   |some f=>decide ((x.src.length:Int)=f.free)
   |none=>false))):=zzH (by unfold zl;rw [hop];rfl)
 have HOP:=zzH hop;clear hop
 cases hw:wi x.n 0 ((u.funs.length:Int)-1)with
 |false=>
  have E2:Hid (zl u.funcs.length u.funs x=false):=zzH (by rw [E.out,hw];rfl)
  have hwr: ∀wx,Calls Tryz.prog 99 #[.int .i64 x.n,.int .i64 0,.int .i64 ((u.funs.length:Int)-1)] wx fun e w'=>e= .returned (.bool false)/\w'=wx:=fun wx=>by
   have:=zO x.n 0 ((u.funs.length:Int)-1) wx;rw [hw]at this;exact zz40
  clear hw E;go_in;go_upto_region 1 with fail;obtain⟨hU,hX,hBW⟩:=zbQ w u lo fo go co lc fc gc cc x so co' go' sc cc' gc';generalize hWW:(w.alloc (.cells (zzu u lo lc fo fc go gc co cc) 28)).alloc (.cells (zzi x so sc co' cc' go' gc') 64)=W at *;have c0:=hX.c0;have c3:=hX.c3;have c5:=hX.c5;have b3:=hU.c3;have b4:=hU.c4;have hlu:=hU.lt;have hlx:=hX.lt;have HBW:=zzH hBW;clear hU hX hBW hWW;rw [HOP.out]at c0;go_wp2_with fail;go_quiet ((go_at_call 99;exact Calls.quiet_of_same (hwr _)));go_wp2_with fail;go_ret;exact⟨zr E2.out.symm,zY HBW.out _⟩
 |true=>
  have hr:0<=x.n/\x.n<=(u.funs.length:Int)-1:=by
   unfold wi at hw;rw [Bool.and_eq_true,decide_eq_true_eq,decide_eq_true_eq]at hw;exact hw
  obtain⟨m,hm⟩:=Int.eq_ofNat_of_zero_le hr.1;have hml:m<u.funs.length:=by omega
  have E2:Hid (zl u.funcs.length u.funs x=decide ((x.src.length:Int)=u.funs[m].free)):=zzH (by
   rw [E.out,hw,hm];have:u.funs[(((m:Nat):Int)).toNat]?=some u.funs[m]:=by rw [zzq11];exact zzq8 hml
   rw [this];rfl)
  have hwr: ∀wx,Calls Tryz.prog 99 #[.int .i64 (m:Int),.int .i64 0,.int .i64 ((u.funs.length:Int)-1)] wx fun e w'=>e= .returned (.bool true)/\w'=wx:=fun wx=>by
   have:=zO (m:Int) 0 ((u.funs.length:Int)-1) wx;rw [<-hm,hw]at this;rw [<-hm];exact zz40
  have HM:=zzH hm;clear hw hr E r1a r1b hm;by_cases hz:(x.src.length:Int)=u.funs[m].free
  ·have E3:Hid (zl u.funcs.length u.funs x=true):=zzH (by rw [E2.out,decide_eq_true hz])
   have t:((x.src.length:Int)==u.funs[m].free)=true:=by rw [hz];exact beq_self_eq_true _
   exact zz181
  ·have E3:Hid (zl u.funcs.length u.funs x=false):=zzH (by rw [E2.out,decide_eq_false hz])
   have t:((x.src.length:Int)==u.funs[m].free)=false:=zzB.2 hz;exact zz181
theorem zk7 (u:RUnit) (lo fo go co:Option Addr) (lc fc gc cc:Nat) (x:RIns) (so co' go':Option Addr) (sc cc' gc':Nat) (w:World) (hl:u.funcs.length<=9223372036854775807) (hl2:u.funs.length<=9223372036854775807) (hf:SlAt w 3 zbB go u.funs) (r1:I64 x.n) (r2:x.src.length<=9223372036854775807):
  Calls Tryz.prog 75 #[.agg (zzu u lo lc fo fc go gc co cc),.agg (zzi x so sc co' cc' go' gc')] w fun e w'=>e= .returned (.bool (zl u.funcs.length u.funs x))/\Below w.heap.size w w':=by
 unfold zzi zzu;by_cases h5:x.op=5
 ·exact zoC u lo fo go co lc fc gc cc x so co' go' sc cc' gc' w hl hl2 hf r1 r2 h5
 by_cases h9:x.op=9
 ·exact zny u lo fo go co lc fc gc cc x so co' go' sc cc' gc' w hl hl2 hf r1 r2 h9
 by_cases h15:x.op=15
 ·exact zmS u lo fo go co lc fc gc cc x so co' go' sc cc' gc' w hl hl2 hf r1 r2 h15
 by_cases h18:x.op=18
 ·exact zl7 u lo fo go co lc fc gc cc x so co' go' sc cc' gc' w hl hl2 hf r1 r2 h18
 by_cases h19:x.op=19
 ·exact zmm u lo fo go co lc fc gc cc x so co' go' sc cc' gc' w hl hl2 hf r1 r2 h19
 by_cases h20:x.op=20
 ·exact zme u lo fo go co lc fc gc cc x so co' go' sc cc' gc' w hl hl2 hf r1 r2 h20
 by_cases h21:x.op=21
 ·exact zmL u lo fo go co lc fc gc cc x so co' go' sc cc' gc' w hl hl2 hf r1 r2 h21
 by_cases h24:x.op=24
 ·exact zma u lo fo go co lc fc gc cc x so co' go' sc cc' gc' w hl hl2 hf r1 r2 h24
 by_cases h31:x.op=31
 ·exact zmQ u lo fo go co lc fc gc cc x so co' go' sc cc' gc' w hl hl2 hf r1 r2 h31
 by_cases h16:x.op=16
 ·exact zmn u lo fo go co lc fc gc cc x so co' go' sc cc' gc' w hl hl2 hf r1 r2 h16
 by_cases h17:x.op=17
 ·exact zl3 u lo fo go co lc fc gc cc x so co' go' sc cc' gc' w hl hl2 hf r1 r2 h17
 by_cases h32:x.op=32
 ·exact zlM u lo fo go co lc fc gc cc x so co' go' sc cc' gc' w hl hl2 hf r1 r2 h32
 by_cases h33:x.op=33
 ·exact zmv u lo fo go co lc fc gc cc x so co' go' sc cc' gc' w hl hl2 hf r1 r2 h33
 by_cases h4:x.op=4
 ·exact zox u lo fo go co lc fc gc cc x so co' go' sc cc' gc' w hl hl2 hf r1 r2 h4
 exact zjU u lo fo go co lc fc gc cc x so co' go' sc cc' gc' w hl hl2 hf r1 r2 h5 h9 h15 h18 h19 h20 h21 h24 h31 h16 h17 h32 h33 h4
end Go.Proofs.YtlaabicdhkebbaaGreatDoor
