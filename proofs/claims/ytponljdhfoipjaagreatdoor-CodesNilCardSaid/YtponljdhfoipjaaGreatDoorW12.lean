import Derived.Test.YtponljdhfoipjaaGreatDoorW02
import Derived.Test.YtponljdhfoipjaaGreatDoorW07
import Derived.Test.YtponljdhfoipjaaGreatDoorW08
namespace Go.Proofs.YtponljdhfoipjaaGreatDoor
open Go.RowKit
set_option linter.unusedVariables false
set_option linter.unusedSimpArgs false
set_option maxRecDepth 100000
set_option maxHeartbeats 0
open Go.RowKit Go.Maps Go.WideMaps
def fnOk (last:Int) (f:RFunc):Bool:=nameB f.name&&(wi f.arity 0 16&&wi f.entry 0 last)
def sigIn (l:List RFunc) (s:ByteArray) (a:Int):Bool:=l.any (fun f=>f.name.data.toList==s.data.toList&&f.arity==a)
def funcsB (last:Int) (funcs:List RFunc):Bool:=decide (∀k,(h:k<funcs.length)->fnOk last funcs[k]=true/\sigIn (funcs.take k) funcs[k].name funcs[k].arity=false)
def funB (last:Int) (f:RFun):Bool:=wi f.arity 0 16&&(wi f.free 0 200&&wi f.entry 0 last)
def tabA (u:RUnit):Bool:=nameB u.mdl&&(decide (1<=u.vsn)&&(decide (u.vsn<=2147483647)&&(decide (0<=(u.code.length:Int)-1)&&(decide ((u.code.length:Int)-1<524288)&&(decide (u.lits.length<=65535)&&(decide (u.funcs.length<=200)&&decide (u.funs.length<=1000)))))))
def tablesB (f:Nat) (u:RUnit):Bool:=tabA u&&(u.lits.all (validF f)&&(funcsB ((u.code.length:Int)-1) u.funcs&&u.funs.all (funB ((u.code.length:Int)-1))))
theorem funcsB_no {last:Int} {funcs:List RFunc} {k:Nat} (h:k<funcs.length) (e:fnOk last funcs[k]=false\/sigIn (funcs.take k) funcs[k].name funcs[k].arity=true):funcsB last funcs=false:=by
 unfold funcsB
 exact decide_eq_false (fun hh=>by
  obtain⟨h1,h2⟩:=hh k h
  rcases e with e|e
  ·rw [h1]at e;cases e
  ·rw [h2]at e;cases e)
theorem sigIn_step {funcs:List RFunc} {k:Nat} (h:k<funcs.length) (s:ByteArray) (a:Int):sigIn (funcs.take (k+1)) s a=((funcs[k].name.data.toList==s.data.toList&&funcs[k].arity==a)||sigIn (funcs.take k) s a):=by
 unfold sigIn
 rw [List.take_add_one,List.getElem?_eq_getElem h,List.any_append,Bool.or_comm]
 simp
theorem tables_any (f B:Nat) (u:RUnit) (lo fo go co:zzA) (lc fc gc cc:Nat) (w:World) (hu:UBox w B u lo fo go co lc fc gc cc) (hp:UP w u lo fo go co) (hlits:SlAt w 9 (TmAt w (f+1)) lo u.lits) (hcap: ∀t∈u.lits,(capF (f+1) t:Int)<=1152921504606846976):
  Calls Tryz.prog 81 #[.pointer (some ⟨B,0,none⟩)] w fun e w'=>e= .returned (.bool (tablesB (f+1) u))/\Below w.heap.size w w':=by
 refine zzK4 hu hp hlits hcap fun HU HP HL HCAP=>?_
 have c0:=hu.c0;have c5:=hu.c5
 have hnm:=fun wx=>names_any u.mdl wx
 have HE:Hid (tablesB (f+1) u=(tabA u&&(u.lits.all (validF (f+1))&&(funcsB ((u.code.length:Int)-1) u.funcs&&u.funs.all (funB ((u.code.length:Int)-1)))))):=Lib.hid rfl
 have HA:Hid (tabA u=(nameB u.mdl&&(decide (1<=u.vsn)&&(decide (u.vsn<=2147483647)&&(decide (0<=(u.code.length:Int)-1)&&(decide ((u.code.length:Int)-1<524288)&&(decide (u.lits.length<=65535)&&(decide (u.funcs.length<=200)&&decide (u.funs.length<=1000))))))))):=Lib.hid rfl
 have hla:IntKind.i64.wrap ((u.code.length:Int)-1)=(u.code.length:Int)-1:=by have:=hp.codeLen;rw [IntKind.wrap_i64];omega
 have hmm:= @run_makeMap Tryz.prog
 have HMM:=Lib.hid hmm
 clear hmm
 have hla64:wrap64 ((u.code.length:Int)-1)=(u.code.length:Int)-1:=by have:=hp.codeLen;first|exact hla|(unfold wrap64;omega)
 have hrng: -1<=(u.code.length:Int)-1/\(u.code.length:Int)-1<=9223372036854775807:=by have:=hp.codeLen;omega
 clear hu hp hlits hcap hla
 generalize hlast:(u.code.length:Int)-1=last at *
 obtain⟨hrng1,hrng2⟩:=hrng
 have hlw:wrap64 ((u.code.length:Int)-1)=last:=by rw [hlast];exact hla64
 clear hla64
 have HLAST:=Lib.hid hlast
 clear hlast
 by_cases hn:nameB u.mdl=true
 rotate_left
 ·skip
  have hnf:nameB u.mdl=false:=by cases h:nameB u.mdl with
   |false=>rfl
   |true=>exact absurd h hn
  rw [hnf]at hnm
  have E:Hid (tablesB (f+1) u=false):=Lib.hid (by rw [HE.out,HA.out,hnf];rfl)
  clear hn hnf
  go_enter Tryz.func81,Tryz.ntmps81
  go_wp2_with fail
  refine(hnm _).mono ?_
  rintro e w5 ⟨rfl,hb5⟩
  have d1:=(HU.out.below hb5).c1;have d2:=(HU.out.below hb5).c2;have d3:=(HU.out.below hb5).c3;have d4:=(HU.out.below hb5).c4
  go_wp2_with fail
  go_ret
  exact⟨retb E.out.symm,hb5⟩
 rw [hn]at hnm
 by_cases hv1:1<=u.vsn
 rotate_left
 ·skip
  have hv1f:u.vsn<1:=by omega
  have E:Hid (tablesB (f+1) u=false):=Lib.hid (by rw [HE.out,HA.out,decide_eq_false (p:=1<=u.vsn) (by omega)];simp)
  clear hv1
  go_enter Tryz.func81,Tryz.ntmps81
  go_wp2_with fail
  refine(hnm _).mono ?_
  rintro e w5 ⟨rfl,hb5⟩
  have d1:=(HU.out.below hb5).c1;have d2:=(HU.out.below hb5).c2;have d3:=(HU.out.below hb5).c3;have d4:=(HU.out.below hb5).c4
  go_wp2_with fail
  go_ret
  exact⟨retb E.out.symm,hb5⟩
 by_cases hv2:u.vsn<=2147483647
 rotate_left
 ·skip
  have hv2f:2147483647<u.vsn:=by omega
  have E:Hid (tablesB (f+1) u=false):=Lib.hid (by rw [HE.out,HA.out,decide_eq_false (p:=u.vsn<=2147483647) (by omega)];simp)
  clear hv2
  go_enter Tryz.func81,Tryz.ntmps81
  go_wp2_with fail
  refine(hnm _).mono ?_
  rintro e w5 ⟨rfl,hb5⟩
  have d1:=(HU.out.below hb5).c1;have d2:=(HU.out.below hb5).c2;have d3:=(HU.out.below hb5).c3;have d4:=(HU.out.below hb5).c4
  go_wp2_with fail
  go_ret
  exact⟨retb E.out.symm,hb5⟩
 by_cases hl0:0<=last
 rotate_left
 ·skip
  have hl0f:last<0:=by omega
  have E:Hid (tablesB (f+1) u=false):=Lib.hid (by rw [HE.out,HA.out,decide_eq_false (p:=0<=last) (by omega)];simp)
  clear hl0
  go_enter Tryz.func81,Tryz.ntmps81
  go_wp2_with fail
  refine(hnm _).mono ?_
  rintro e w5 ⟨rfl,hb5⟩
  have d1:=(HU.out.below hb5).c1;have d2:=(HU.out.below hb5).c2;have d3:=(HU.out.below hb5).c3;have d4:=(HU.out.below hb5).c4
  go_wp2_with fail
  go_ret
  exact⟨retb E.out.symm,hb5⟩
 by_cases hl1:last<524288
 rotate_left
 ·skip
  have hl1f:524288<=last:=by omega
  have E:Hid (tablesB (f+1) u=false):=Lib.hid (by rw [HE.out,HA.out,decide_eq_false (p:=last<524288) (by omega)];simp)
  clear hl1
  go_enter Tryz.func81,Tryz.ntmps81
  go_wp2_with fail
  refine(hnm _).mono ?_
  rintro e w5 ⟨rfl,hb5⟩
  have d1:=(HU.out.below hb5).c1;have d2:=(HU.out.below hb5).c2;have d3:=(HU.out.below hb5).c3;have d4:=(HU.out.below hb5).c4
  go_wp2_with fail
  go_ret
  exact⟨retb E.out.symm,hb5⟩
 by_cases hq1:(u.lits.length:Int)<=65535
 rotate_left
 ·skip
  have hq1f:65535<(u.lits.length:Int):=by omega
  have E:Hid (tablesB (f+1) u=false):=Lib.hid (by rw [HE.out,HA.out,decide_eq_false (p:=u.lits.length<=65535) (by omega)];simp)
  clear hq1
  go_enter Tryz.func81,Tryz.ntmps81
  go_wp2_with fail
  refine(hnm _).mono ?_
  rintro e w5 ⟨rfl,hb5⟩
  have d1:=(HU.out.below hb5).c1;have d2:=(HU.out.below hb5).c2;have d3:=(HU.out.below hb5).c3;have d4:=(HU.out.below hb5).c4
  go_wp2_with fail
  go_ret
  exact⟨retb E.out.symm,hb5⟩
 by_cases hq2:(u.funcs.length:Int)<=200
 rotate_left
 ·skip
  have hq2f:200<(u.funcs.length:Int):=by omega
  have E:Hid (tablesB (f+1) u=false):=Lib.hid (by rw [HE.out,HA.out,decide_eq_false (p:=u.funcs.length<=200) (by omega)];simp)
  clear hq2
  go_enter Tryz.func81,Tryz.ntmps81
  go_wp2_with fail
  refine(hnm _).mono ?_
  rintro e w5 ⟨rfl,hb5⟩
  have d1:=(HU.out.below hb5).c1;have d2:=(HU.out.below hb5).c2;have d3:=(HU.out.below hb5).c3;have d4:=(HU.out.below hb5).c4
  go_wp2_with fail
  go_ret
  exact⟨retb E.out.symm,hb5⟩
 by_cases hq3:(u.funs.length:Int)<=1000
 rotate_left
 ·skip
  have hq3f:1000<(u.funs.length:Int):=by omega
  have E:Hid (tablesB (f+1) u=false):=Lib.hid (by rw [HE.out,HA.out,decide_eq_false (p:=u.funs.length<=1000) (by omega)];simp)
  clear hq3
  go_enter Tryz.func81,Tryz.ntmps81
  go_wp2_with fail
  refine(hnm _).mono ?_
  rintro e w5 ⟨rfl,hb5⟩
  have d1:=(HU.out.below hb5).c1;have d2:=(HU.out.below hb5).c2;have d3:=(HU.out.below hb5).c3;have d4:=(HU.out.below hb5).c4
  go_wp2_with fail
  go_ret
  exact⟨retb E.out.symm,hb5⟩
 have HA1:Hid (tabA u=true):=Lib.hid (by rw [HA.out,hn,decide_eq_true hv1,decide_eq_true hv2,decide_eq_true hl0,decide_eq_true hl1,decide_eq_true (p:=u.lits.length<=65535) (by omega),decide_eq_true (p:=u.funcs.length<=200) (by omega),decide_eq_true (p:=u.funs.length<=1000) (by omega)];rfl)
 have HE1:Hid (tablesB (f+1) u=(u.lits.all (validF (f+1))&&(funcsB last u.funcs&&u.funs.all (funB last)))):=Lib.hid (by rw [HE.out,HA1.out,Bool.true_and])
 clear HE HA hn
 go_enter Tryz.func81,Tryz.ntmps81
 go_wp2_with fail
 refine(hnm _).mono ?_
 rintro e w5 ⟨rfl,hb5⟩
 have HU5:=Lib.hid (HU.out.below hb5)
 have d1:=HU5.out.c1;have d2:=HU5.out.c2;have d3:=HU5.out.c3;have d4:=HU5.out.c4
 have HB5:=Lib.hid hb5
 have HI:Hid (u.lits.all (validF (f+1))=(u.lits.drop 0).all (validF (f+1))):=Lib.hid rfl
 clear hb5
 go_wp2_with fail
 go_loopw [73] (fun i wr=> ∃k:Nat,k<=u.lits.length/\i= .int .i64 k/\Hid (u.lits.all (validF (f+1))=(u.lits.drop k).all (validF (f+1)))/\Below w.heap.size w wr) (fun i _=>u.lits.length-(intOf i).toNat)
 case atStart=>exact⟨0,Nat.zero_le _,rfl,HI,HB5.out⟩
 case round=>
  obtain⟨k,hk,rfl,HK,hBw⟩:=hrel
  rename World=>wr
  by_cases hlt:k<u.lits.length
  ·obtain⟨b1,off1,ai,ci,hao,hb1,q0,q1,q2,q3,q4,q5,q6,q7,q8,hit,hok⟩:=(HL.out.tms hBw).tm hlt
   subst hao
   have HST:Hid ((u.lits.drop k).all (validF (f+1))=(validF (f+1) u.lits[k]&&(u.lits.drop (k+1)).all (validF (f+1)))):=Lib.hid (by rw [List.drop_eq_getElem_cons hlt,List.all_cons])
   have hbx:Below wr.heap.size wr (wr.alloc (.cells #[.int .i64 u.lits[k].kind,.int .i64 u.lits[k].int,.int .i64 u.lits[k].gen,.string u.lits[k].name,.string u.lits[k].func,.int .i64 u.lits[k].arity,.slice ai u.lits[k].items.length ci,.string u.lits[k].bytes,.int .i64 u.lits[k].bits] 44)):=zzE _ _
   have hV:=tvalid_any f u.lits[k] ai ci (wr.alloc (.cells #[.int .i64 u.lits[k].kind,.int .i64 u.lits[k].int,.int .i64 u.lits[k].gen,.string u.lits[k].name,.string u.lits[k].func,.int .i64 u.lits[k].arity,.slice ai u.lits[k].items.length ci,.string u.lits[k].bytes,.int .i64 u.lits[k].bits] 44)) (hit.tms hbx) hok (HCAP.out _ (List.getElem_mem hlt))
   have HBX:=Lib.hid (hBw.trans (hbx.mono hBw.size))
   clear hit hok hbx hBw
   generalize validF (f+1) u.lits[k]=v at *
   generalize u.lits[k]=x at *
   cases v with
   |true=>
    have HK2:Hid (u.lits.all (validF (f+1))=(u.lits.drop (k+1)).all (validF (f+1))):=Lib.hid (by rw [HK.out,HST.out,Bool.true_and])
    go_wp2_with fail
    refine hV.mono ?_
    rintro e w6 ⟨rfl,hb6⟩
    have HB6:=Lib.hid (HBX.out.trans (hb6.mono HBX.out.size))
    go_wp2_with fail
    go_roundw
    case rel=>exact⟨k+1,by omega,by go_num,HK2,HB6.out⟩
    case measure=>simp [intOf];omega
   |false=>
    have E:Hid (tablesB (f+1) u=false):=Lib.hid (by rw [HE1.out,HK.out,HST.out];rfl)
    go_wp2_with fail
    refine hV.mono ?_
    rintro e w6 ⟨rfl,hb6⟩
    have HB6:=Lib.hid (HBX.out.trans (hb6.mono HBX.out.size))
    go_wp2_with fail
    go_ret
    exact⟨retb E.out.symm,HB6.out⟩
  ·have HE2:Hid (tablesB (f+1) u=(funcsB last u.funcs&&u.funs.all (funB last))):=Lib.hid (by rw [HE1.out,HK.out,List.drop_eq_nil_of_le (by omega)];rfl)
   have e3:=(HU.out.below hBw).c3
   have hBl:=(HU.out.below hBw).lt
   have hma:Below wr.heap.size wr (wr.alloc (.map #[] 0)):=zzE _ _
   have HSG:=Lib.hid (sig_made wr)
   have HBM:=Lib.hid (hBw.trans (hma.mono hBw.size))
   have hMge:w.heap.size<=wr.heap.size:=hBw.size
   have f3:=(hma.cell (p:=⟨B,3,none⟩) hBl).trans e3
   have hmm:=HMM.out
   clear hma
   go_wp2_with fail
   clear hmm
   generalize wr.alloc (.map #[] 0)=W at *
   generalize wr.heap.size=M at *
   clear e3 HMM
   have HFN:Hid (∀j,j<0-> ∀h:j<u.funcs.length,fnOk last u.funcs[j]=true/\sigIn (u.funcs.take j) u.funcs[j].name u.funcs[j].arity=false):=Lib.hid (fun j h=>absurd h (Nat.not_lt_zero _))
   have hW:M<W.heap.size:=HSG.out.lt
   have HS0:Hid (SigIs W M 0 (fun s a=>sigIn (u.funcs.take 0) s a)):=Lib.hid HSG.out
   clear HSG
   obtain⟨wo,rfl⟩: ∃wo:World,wo=W:=⟨_,rfl⟩
   go_loopw [87] (fun i wr=> ∃k:Nat,k<=u.funcs.length/\i= .int .i64 k/\Hid (SigIs wr M k (fun s a=>sigIn (u.funcs.take k) s a))/\Hid (∀j,j<k-> ∀h:j<u.funcs.length,fnOk last u.funcs[j]=true/\sigIn (u.funcs.take j) u.funcs[j].name u.funcs[j].arity=false)/\Below w.heap.size w wr) (fun i _=>u.funcs.length-(intOf i).toNat)
   case atStart=>exact⟨0,Nat.zero_le _,rfl,HS0,HFN,HBM.out⟩
   case round=>
    obtain⟨k,hk,rfl,HSK,HFK,hBw⟩:=hrel
    rename World=>wr
    by_cases hlt:k<u.funcs.length
    ·obtain⟨b1,off1,hfo,hb1,q0,q1,q2,q3,n1,n2,n3⟩:=(HP.out.below hBw).funcs.func hlt
     subst hfo
     have hstep:=sigIn_step hlt
     have HSTEP:=Lib.hid hstep
     have hno:=funcsB_no (last:=last) hlt
     have HNO:=Lib.hid hno
     have HYES:Hid (fnOk last u.funcs[k]=true->sigIn (u.funcs.take k) u.funcs[k].name u.funcs[k].arity=false-> ∀j,j<k+1-> ∀h:j<u.funcs.length,fnOk last u.funcs[j]=true/\sigIn (u.funcs.take j) u.funcs[j].name u.funcs[j].arity=false):=Lib.hid (fun h1 h2 j hj h=>by
      rcases Nat.eq_or_lt_of_le (Nat.le_of_lt_succ hj)with e|e
      ·subst e;exact⟨h1,h2⟩
      ·exact HFK.out j e h)
     have hFO:fnOk last u.funcs[k]=(nameB u.funcs[k].name&&(wi u.funcs[k].arity 0 16&&wi u.funcs[k].entry 0 last)):=rfl
     have HFO:=Lib.hid hFO
     clear hstep hno hFO
     have HBW:=Lib.hid hBw
     have hnf:=fun wx=>names_any u.funcs[k].name wx
     have hwa:=fun wx=>within_any u.funcs[k].arity 0 16 wx
     have hwe:=fun wx=>within_any u.funcs[k].entry 0 last wx
     have hpl:w.heap.size<=wr.heap.size:=hBw.size
     unfold maxLen at n1
     generalize fnOk last u.funcs[k]=fk at *
     generalize hsn:sigIn (u.funcs.take k) u.funcs[k].name u.funcs[k].arity=sn at *
     have HSN:=Lib.hid hsn
     clear hsn
     generalize nameB u.funcs[k].name=vn at *
     generalize wi u.funcs[k].arity 0 16=va at *
     generalize wi u.funcs[k].entry 0 last=ve at *
     generalize u.funcs[k]=g at *
     have hbx:=two_below wr (.cells #[.string g.name,.int .i64 g.arity,.bool g.pub,.int .i64 g.entry] 75) (.cells #[.string g.name,.int .i64 g.arity] 99)
     have hr0:=two0 wr (.cells #[.string g.name,.int .i64 g.arity,.bool g.pub,.int .i64 g.entry] 75) (.cells #[.string g.name,.int .i64 g.arity] 99)
     have hr1:=two1 wr (.cells #[.string g.name,.int .i64 g.arity,.bool g.pub,.int .i64 g.entry] 75) (.cells #[.string g.name,.int .i64 g.arity] 99)
     refine zzK3 hbx hr0 hr1 fun HBX HR0 HR1=>?_
     clear hbx hr0 hr1 hBw
     cases vn with
     |false=>
      have E:Hid (tablesB (f+1) u=false):=Lib.hid (by rw [HE2.out,HNO.out (.inl (by rw [HFO.out];rfl))];rfl)
      go_wp2_with fail
      refine(hnf _).mono ?_
      rintro e w6 ⟨rfl,hb6⟩
      have HB6:=Lib.hid (HBW.out.trans ((below_next HBX.out hb6).mono HBW.out.size))
      clear hb6
      go_wp2_with fail
      go_ret
      exact⟨retb E.out.symm,HB6.out⟩
     |true=>
      go_wp2_with fail
      refine(hnf _).mono ?_
      rintro e w6 ⟨rfl,hb6⟩
      have HB6w:=Lib.hid (below_next HBX.out hb6)
      have HB6:=Lib.hid (HBW.out.trans (HB6w.out.mono HBW.out.size))
      have hs0:=(hb6.block wr.heap.size (lt_of_row HR0.out)).trans HR0.out
      have hs1:=(hb6.block (wr.heap.size+1) (lt_of_row HR1.out)).trans HR1.out
      have y0:w6.cell? ⟨wr.heap.size,0,none⟩=some (.string g.name):=by rw [cell_of_row _ _ _ _ _ _ hs0];rfl
      have y1:w6.cell? ⟨wr.heap.size,1,none⟩=some (.int .i64 g.arity):=by rw [cell_of_row _ _ _ _ _ _ hs0];rfl
      have y3:w6.cell? ⟨wr.heap.size,3,none⟩=some (.int .i64 g.entry):=by rw [cell_of_row _ _ _ _ _ _ hs0];rfl
      have z0:w6.cell? ⟨wr.heap.size+1,0,none⟩=some (.string g.name):=by rw [cell_of_row _ _ _ _ _ _ hs1];rfl
      have z1:w6.cell? ⟨wr.heap.size+1,1,none⟩=some (.int .i64 g.arity):=by rw [cell_of_row _ _ _ _ _ _ hs1];rfl
      have hsig:=HSK.out.kept HB6w.out
      have hlook:=sig_look hsig n1 n2
      rw [HSN.out]at hlook
      have HSIG:=Lib.hid hsig
      clear hb6 hs0 hs1 hsig
      cases va with
      |false=>
       have E:Hid (tablesB (f+1) u=false):=Lib.hid (by rw [HE2.out,HNO.out (.inl (by rw [HFO.out];rfl))];rfl)
       go_wp2_with (go_at_call 116;first|((with_reducible refine(hwa _).mono ?_);rintro e w1 ⟨rfl,rfl⟩)|((with_reducible refine(hwe _).mono ?_);rintro e w1 ⟨rfl,rfl⟩))
       go_ret
       exact⟨retb E.out.symm,HB6.out⟩
      |true=>
       cases ve with
       |false=>
        have E:Hid (tablesB (f+1) u=false):=Lib.hid (by rw [HE2.out,HNO.out (.inl (by rw [HFO.out];rfl))];rfl)
        go_wp2_with (go_at_call 116;first|((with_reducible refine(hwa _).mono ?_);rintro e w1 ⟨rfl,rfl⟩)|((with_reducible refine(hwe _).mono ?_);rintro e w1 ⟨rfl,rfl⟩))
        go_ret
        exact⟨retb E.out.symm,HB6.out⟩
       |true=>
        cases sn with
        |true=>
         have E:Hid (tablesB (f+1) u=false):=Lib.hid (by rw [HE2.out,HNO.out (.inr rfl)];rfl)
         go_wp2_with (go_at_call 116;first|((with_reducible refine(hwa _).mono ?_);rintro e w1 ⟨rfl,rfl⟩)|((with_reducible refine(hwe _).mono ?_);rintro e w1 ⟨rfl,rfl⟩))
         go_ret
         exact⟨retb E.out.symm,HB6.out⟩
        |false=>
         obtain⟨D,hown,hD⟩:=HSIG.out
         have hput:=fun(w7:World) h=>sig_put (w':=w7) hown hD n1 n2 h
         have HPUT:=Lib.hid hput
         have HDD:=Lib.hid hD
         clear hput hD
         go_wp2_with (first|(go_at_call 116;first|((with_reducible refine(hwa _).mono ?_);rintro e w1 ⟨rfl,rfl⟩)|((with_reducible refine(hwe _).mono ?_);rintro e w1 ⟨rfl,rfl⟩))|(at_mapUpdate;refine wpList_mapUpdate_own _ rfl _ _ _ 223 rfl 99 4 sigLaw Tryz.underlying223 _ M k D rfl hown (by unfold maxLen;omega) _ _ _ rfl rfl (keyOf_sig n1 n2) _ [] (plainElem_bool Tryz.underlying4 true) ?_))
         intro w7 hown7 hgrow7
         have HSK2:Hid (SigIs w7 M (k+1) (fun s a=>sigIn (u.funcs.take (k+1)) s a)):=Lib.hid (by
          obtain⟨D',a1,a2⟩:=HPUT.out w7 hown7
          exact⟨D',a1,fun s a hs ha=>(a2 s a hs ha).trans (congrArg (fun b=>DataW.lit (Lit.bool b)) (HSTEP.out s a).symm)⟩)
         have HY2:=Lib.hid (HYES.out (by rw [HFO.out];rfl) (by trivial))
         have HB7:=Lib.hid (HB6.out.grown hgrow7 HB6.out.size (fun j hj=>by cases hj;exact hMge))
         clear hown hown7 hgrow7
         go_wp2_with fail
         go_roundw
         case rel=>exact⟨k+1,by omega,by go_num,HSK2,HY2,HB7.out⟩
         case measure=>simp [intOf];omega
    ·have HFB:Hid (funcsB last u.funcs=true):=Lib.hid (by unfold funcsB;exact decide_eq_true (fun j hj=>HFK.out j (by omega) hj))
     have HE3:Hid (tablesB (f+1) u=u.funs.all (funB last)):=Lib.hid (by rw [HE2.out,HFB.out,Bool.true_and])
     have e4:=(HU.out.below hBw).c4
     have HBW:=Lib.hid hBw
     have HI3:Hid (u.funs.all (funB last)=(u.funs.drop 0).all (funB last)):=Lib.hid rfl
     clear hBw HSK HFK
     obtain⟨wp,rfl⟩: ∃wp:World,wp=wr:=⟨_,rfl⟩
     go_wp2_with fail
     go_loopw [126] (fun i wr=> ∃k:Nat,k<=u.funs.length/\i= .int .i64 k/\Hid (u.funs.all (funB last)=(u.funs.drop k).all (funB last))/\Below w.heap.size w wr) (fun i _=>u.funs.length-(intOf i).toNat)
     case atStart=>exact⟨0,Nat.zero_le _,rfl,HI3,HBW.out⟩
     case round=>
      obtain⟨k,hk,rfl,HK,hBw⟩:=hrel
      rename World=>wr
      by_cases hlt:k<u.funs.length
      ·obtain⟨b1,off1,hgo,hb1,q0,q1,q2,n1,n2,n3⟩:=(HP.out.below hBw).funs.fn hlt
       subst hgo
       have HST:Hid ((u.funs.drop k).all (funB last)=(funB last u.funs[k]&&(u.funs.drop (k+1)).all (funB last))):=Lib.hid (by rw [List.drop_eq_getElem_cons hlt,List.all_cons])
       have HFB2:Hid (funB last u.funs[k]=(wi u.funs[k].arity 0 16&&(wi u.funs[k].free 0 200&&wi u.funs[k].entry 0 last))):=Lib.hid rfl
       have hwa:=fun wx=>within_any u.funs[k].arity 0 16 wx
       have hwf:=fun wx=>within_any u.funs[k].free 0 200 wx
       have hwe:=fun wx=>within_any u.funs[k].entry 0 last wx
       generalize funB last u.funs[k]=fk at *
       generalize wi u.funs[k].arity 0 16=va at *
       generalize wi u.funs[k].free 0 200=vf at *
       generalize wi u.funs[k].entry 0 last=ve at *
       generalize u.funs[k]=g at *
       have HBX:=Lib.hid (hBw.alloc hBw.size (.cells #[.int .i64 g.arity,.int .i64 g.free,.int .i64 g.entry] 87))
       have hyes:fk=true->u.funs.all (funB last)=(u.funs.drop (k+1)).all (funB last):=fun h=>by rw [HK.out,HST.out,h,Bool.true_and]
       have hno:fk=false->tablesB (f+1) u=false:=fun h=>by rw [HE3.out,HK.out,HST.out,h];rfl
       have HYES:=Lib.hid hyes;have HNO:=Lib.hid hno
       clear hyes hno hBw
       cases va with
       |false=>
        have E:=Lib.hid (HNO.out (by rw [HFB2.out];rfl))
        go_wp2_with (go_at_call 116;first|((with_reducible refine(hwa _).mono ?_);rintro e w1 ⟨rfl,rfl⟩)|((with_reducible refine(hwf _).mono ?_);rintro e w1 ⟨rfl,rfl⟩)|((with_reducible refine(hwe _).mono ?_);rintro e w1 ⟨rfl,rfl⟩))
        go_ret
        exact⟨retb E.out.symm,HBX.out⟩
       |true=>
        cases vf with
        |false=>
         have E:=Lib.hid (HNO.out (by rw [HFB2.out];rfl))
         go_wp2_with (go_at_call 116;first|((with_reducible refine(hwa _).mono ?_);rintro e w1 ⟨rfl,rfl⟩)|((with_reducible refine(hwf _).mono ?_);rintro e w1 ⟨rfl,rfl⟩)|((with_reducible refine(hwe _).mono ?_);rintro e w1 ⟨rfl,rfl⟩))
         go_ret
         exact⟨retb E.out.symm,HBX.out⟩
        |true=>
         cases ve with
         |false=>
          have E:=Lib.hid (HNO.out (by rw [HFB2.out];rfl))
          go_wp2_with (go_at_call 116;first|((with_reducible refine(hwa _).mono ?_);rintro e w1 ⟨rfl,rfl⟩)|((with_reducible refine(hwf _).mono ?_);rintro e w1 ⟨rfl,rfl⟩)|((with_reducible refine(hwe _).mono ?_);rintro e w1 ⟨rfl,rfl⟩))
          go_ret
          exact⟨retb E.out.symm,HBX.out⟩
         |true=>
          have E:=Lib.hid (HYES.out (by rw [HFB2.out];rfl))
          go_wp2_with (go_at_call 116;first|((with_reducible refine(hwa _).mono ?_);rintro e w1 ⟨rfl,rfl⟩)|((with_reducible refine(hwf _).mono ?_);rintro e w1 ⟨rfl,rfl⟩)|((with_reducible refine(hwe _).mono ?_);rintro e w1 ⟨rfl,rfl⟩))
          go_roundw
          case rel=>exact⟨k+1,by omega,by go_num,E,HBX.out⟩
          case measure=>simp [intOf];omega
      ·have E:Hid (tablesB (f+1) u=true):=Lib.hid (by rw [HE3.out,HK.out,List.drop_eq_nil_of_le (by omega)];rfl)
       go_wp2_with fail
       go_ret
       exact⟨retb E.out.symm,hBw⟩
open Go.RowKit Go.Shelf
attribute [local go_sem] Oper.semAt_some
theorem vtgmake_in (F:Fence) (n:Nat) (hF:F.fn 179) (hro:F.round=none) (b o i:Nat) (w:World):
  CallsIn F n Tryz.prog 179 #[.pointer (some ⟨b,o,none⟩),.int .i64 i] w fun e w'=>e= .returned (.func (.func 197) #[] #[.pointer (some ⟨w.heap.size,0,none⟩),.pointer (some ⟨w.heap.size+1,0,none⟩)])/\w'=(w.alloc (.cells #[.pointer (some ⟨b,o,none⟩)] 120)).alloc (.cells #[.int .i64 i] 3):=by
 refine callsIn_of_wp Tryz.func179 rfl hF ?_ hro
 simp only [Tryz.ntmps179,List.size_toArray,List.length_cons,List.length_nil,Nat.reduceAdd,Nat.reduceSub,Array.replicate_succ,Array.replicate_zero,List.push_toArray,List.append_toArray,List.nil_append,List.cons_append]
 gi_wp2
 go_ret
 exact⟨rfl,rfl⟩
theorem vtargets_stops (F:Fence) (n:Nat) (hF:F.fn 197) (hro:F.round=none) (hn:1<=n) (Bp Bi b o i:Nat) (x:RIns) (co:zzA) (cc:Nat) (w0 w:World) (hcl:x.cases.length<=1000) (hi:i<=1000000)
  (ht:TgAt w0 w Bp b o x co cc) (hbi:Boxed w Bi 3 (.int .i64 i)) (h0:w0.heap.size<=w.heap.size):
  SeqStopsK F n Tryz.prog 197 #[.pointer (some ⟨Bp,0,none⟩),.pointer (some ⟨Bi,0,none⟩)] (fun y:Int=>#[.int .i64 y]) (KpT w0.heap.size Bp) (fun ys=>ys=targetsV i x) (fun _=>True) 1100 w:=fun l J Jx W hW hJ hJx hY hj0=>by
 have hk:KpT w0.heap.size Bp w W:=⟨hW.mono h0,fun v hv=>(hW.block Bp hv.lt).trans hv⟩
 exact vtargets_in F n hF hro hn l Bp Bi b o i x co cc w0 hcl hi J Jx (fun s A o' h=>hJ s A _ none h (World.grownBy_alloc A o' none) (fun r e=>by cases e)) hY W (ht.keep hk) (show Boxed W Bi 3 (.int .i64 i)from(hW.block Bi hbi.lt).trans hbi).cell hj0
theorem IntsAt.putObj {w:World} {ao:zzA} {l:List Int} {D:Nat} {ds:Option (List Deferred)} {o':Obj} (h:IntsAt w ao l) (hD:w.heap[D]?=some (.deferred ds)):IntsAt (w.putObj D o') ao l:=
 h.imp id fun⟨b,off,cs,fr,e,hb,hr⟩=>⟨b,off,cs,fr,e,(World.putObj_heap_other (fun h=>by subst h;rw [hD]at hb;cases hb)).trans hb,hr⟩
def inR (m:Nat) (l:List Int):List Int:=l.filter fun k=>decide (0<=k)&&decide (k<m)
theorem inR_hit (m:Nat) (l:List Int) {y:Int} (h0:0<=y) (h1:y<m):inR m (l++ [y])=inR m l++ [y]:=by unfold inR;simp [h0,h1]
theorem inR_miss (m:Nat) (l:List Int) {y:Int} (h: ¬(0<=y/\y<m)):inR m (l++ [y])=inR m l:=by
 unfold inR
 rw [List.filter_append,List.filter_cons_of_neg (by simpa using h)]
 simp
theorem mem_compactUpTo (d:Array Int): ∀(m:Nat) (k:Int),k∈Lib.compactUpTo d m↔ ∃j,j<m/\d[j]! =k
 |0,k=>by simp [Lib.compactUpTo]
 |m+1,k=>by
  rw [Lib.compactUpTo_succ,List.mem_append,mem_compactUpTo d m k]
  constructor
  ·rintro(⟨j,h1,h2⟩|h)
   ·exact⟨j,by omega,h2⟩
   ·split at h
    ·exact⟨m,Nat.lt_succ_self m,(List.mem_singleton.1 h).symm⟩
    ·cases h
  ·rintro⟨j,h1,h2⟩
   by_cases hj:j<m
   ·exact .inl ⟨j,hj,h2⟩
   ·obtain rfl:j=m:=by omega
    by_cases hk:Lib.keeps d j=true
    ·rw [if_pos hk];exact .inr (List.mem_singleton.2 h2.symm)
    ·refine .inl ⟨j-1,?_,?_⟩
     ·have:j≠0:=fun e=>by subst e;exact hk (by simp [Lib.keeps])
      omega
     ·have:d[j]! =d[j-1]!:=Classical.byContradiction fun hn=>hk (Lib.keeps_pos hn)
      rw [<-this,h2]
theorem mem_compact (zs:List Int) (k:Int):k∈Lib.compact zs↔k∈zs:=by
 unfold Lib.compact
 rw [mem_compactUpTo]
 constructor
 ·rintro⟨j,h1,h2⟩
  rw [<-h2]
  simp [h1]
 ·intro h
  obtain⟨j,hj,rfl⟩:=List.getElem_of_mem h
  exact⟨j,hj,by simp [hj]⟩
theorem grow_none (w:World):Sort.grow w #[]=w:=by cases w;simp [Sort.grow]
theorem ints_compact {w:World} {g q:Nat} {cur:Array Value} {fr:Nat × Nat} {zs L:List Int} (hb:w.heap[g]?=some (.cells cur 3 fr)) (hl:L.length=zs.length) (h:zs.length<=cur.size) {r:List Int} (hr:r.length<=L.length) (he: ∀j (hj:j<r.length) (hj':j<L.length),L[j]=r[j]):
  IntsAt (Sort.putRow (Value.int .i64) (Sort.ahead w q) g 0 L.toArray) (some ⟨g,0,none⟩) r:=by
 have h1:=heap_sortedI (n:=q) (os:=#[]) L.toArray hb
 rw [grow_none]at h1
 refine .inr ⟨g,0,_,fr,rfl,h1,fun j hj=>?_⟩
 have h2:=take_putCellsI cur L (by omega)
 have h3:((Sort.putCells (Value.int .i64) 0 L.toArray cur).toList.take L.length)[j]?=(L.map (Value.int .i64))[j]?:=by rw [h2]
 rw [List.getElem?_take_of_lt (by omega),Array.getElem?_toList,List.getElem?_map,List.getElem?_eq_getElem (show j<L.length by omega)]at h3
 rw [Nat.zero_add,h3]
 simp only [Option.map_some]
 rw [he j hj (by omega)]
theorem vnext_any (cb cf m cap i:Nat) (x:RIns) (so co go:zzA) (sc cc gc:Nat) (w:World) (hi:IBox w cb (cf+i*10) x so co go sc cc gc) (him:i<m) (hm:m<=1000000) (hcl:x.cases.length<=1000):
  Calls Tryz.prog 135 #[.slice (some ⟨cb,cf,none⟩) m cap,.int .i64 i] w fun e w'=>(∃ks ao c,e= .returned (.slice ao ks.length c)/\IntsAt w' ao ks/\SuccOk m i x ks/\ks.length<=1100)/\Below w.heap.size w w':=by
 obtain⟨i0,hinf,hz0,hz1,hz2⟩:=info_parts infoInt
 have hI0:(0:Int)<=(i:Int):=by omega
 have hI1:(i:Int)<(m:Int):=by omega
 have t0:decide ((i:Int)<0)=false:=decide_eq_false (by omega)
 have t1:decide (m<=i)=false:=decide_eq_false (by omega)
 have HI:=Lib.hid hi
 clear hi
 have bL0:=Boxed.new w 29 (.slice (some ⟨cb,cf,none⟩) m cap)
 have bO0:=Boxed.new (w.alloc (.cells #[.slice (some ⟨cb,cf,none⟩) m cap] 29)) 233 (.slice none 0 0)
 have bP0:=Boxed.new ((w.alloc (.cells #[.slice (some ⟨cb,cf,none⟩) m cap] 29)).alloc (.cells #[.slice none 0 0] 233)) 120 (.pointer (some ⟨cb,cf+i*10,none⟩))
 have bI0:=Boxed.new (((w.alloc (.cells #[.slice (some ⟨cb,cf,none⟩) m cap] 29)).alloc (.cells #[.slice none 0 0] 233)).alloc (.cells #[.pointer (some ⟨cb,cf+i*10,none⟩)] 120)) 3 (.int .i64 i)
 have hB0:Below w.heap.size w ((((w.alloc (.cells #[.slice (some ⟨cb,cf,none⟩) m cap] 29)).alloc (.cells #[.slice none 0 0] 233)).alloc (.cells #[.pointer (some ⟨cb,cf+i*10,none⟩)] 120)).alloc (.cells #[.int .i64 i] 3)):=
  ((((Below.refl _ w).alloc (Nat.le_refl _) _).alloc (by simp) _).alloc (by simp;omega) _).alloc (by simp;omega) _
 have bL:=((bL0.alloc (.cells #[.slice none 0 0] 233)).alloc (.cells #[.pointer (some ⟨cb,cf+i*10,none⟩)] 120)).alloc (.cells #[.int .i64 i] 3)
 have bO:=(bO0.alloc (.cells #[.pointer (some ⟨cb,cf+i*10,none⟩)] 120)).alloc (.cells #[.int .i64 i] 3)
 have bP:=bP0.alloc (.cells #[.int .i64 i] 3)
 clear bL0 bO0 bP0
 simp only [World.size_alloc]at bO bP bI0
 refine zzK5 bL bO bP bI0 hB0 fun HBL HBO HBP HBI HB0=>?_
 clear bL bO bP bI0 hB0
 refine(callsIn_wide (n:=6)).1 ?_
 refine callsIn_of_wp_marks Tryz.func135 rfl trivial ?_ (by rfl)
 simp only [Tryz.ntmps135,List.size_toArray,List.length_cons,List.length_nil,Nat.reduceAdd,Nat.reduceSub,Array.replicate_succ,Array.replicate_zero,List.push_toArray,List.append_toArray,List.nil_append,List.cons_append]
 gi_wp2_with (refine⟨trivial,?_⟩;gi_at_call 179;refine(vtgmake_in Fence.wide 5 trivial rfl _ _ _ _).mono ?_;rintro e w' ⟨rfl,rfl⟩)
 generalize(((w.alloc (.cells #[.slice (some ⟨cb,cf,none⟩) m cap] 29)).alloc (.cells #[.slice none 0 0] 233)).alloc (.cells #[.pointer (some ⟨cb,cf+i*10,none⟩)] 120)).alloc (.cells #[.int .i64 i] 3)=W0 at *
 have hsz:w.heap.size<=W0.heap.size:=HB0.out.size
 have hTg:TgAt w W0 (w.heap.size+1+1) cb (cf+i*10) x co cc:=⟨HB0.out,HBP.out,HI.out.lt,HI.out.c0,HI.out.c4,HI.out.c8,HI.out.cases⟩
 have hIO:OwnFrom W0.heap.size (fun(pre:List Int) W=>((∃v,Boxed W (w.heap.size+1) 233 v/\W.ownsRow w.heap.size 3 1 v (inR m pre).length ((inR m pre).map (Value.int .i64))/\True)/\Boxed W w.heap.size 29 (.slice (some ⟨cb,cf,none⟩) m cap))/\Below w.heap.size w W):=
  OwnFrom.and (OwnFrom.and (Own.from (holdsRow_own w.heap.size (w.heap.size+1) 233 3 1 (fun pre=>(inR m pre).length) (fun pre=>(inR m pre).map (Value.int .i64)) (fun _ _=>True)) _) (Own.from (boxed_own w.heap.size 29 (fun _=>.slice (some ⟨cb,cf,none⟩) m cap)) _)) (ownFrom_below (Nat.le_refl _) hsz)
 have hKb: ∀(W:World) (l:Nat) (o o':Obj),W0.heap.size<=l->W.heap[l]?=some o->o.isCells=false->o.isWalk=false->KpT w.heap.size (w.heap.size+1+1) W (W.putObj l o'):=fun W l o o' hl h hc hk=>
  ⟨belowK_b (w:=W0) hsz W l o o' hl h hc hk,fun v hv=>(World.putObj_heap_other (fun e=>by
   rw [<-e]at h
   rw [show W.heap[w.heap.size+1+1]?=_ from hv]at h
   injection h with h
   rw [<-h]at hc;cases hc)).trans hv⟩
 have htl:(targetsV i x).length<=1002:=by
  unfold targetsV
  rw [List.length_append,List.length_append]
  have h1:(if followsV x.op=true then [(i:Int)+1]else []).length<=1:=by split<;>simp
  have h2:(if toB x.op=true then [x.to]else []).length<=1:=by split<;>simp
  have h3:(if x.op=12 then x.cases.map RCase.to else []).length<=1000:=by split<;>simp;omega
  omega
 have HTL:=Lib.hid htl
 clear htl t0 t1
 refine wpIn_rangeFunc_ownG (w0:=W0) (F:=Fence.wide) rfl (by decide) (gf:=197) (lb:=#[.pointer (some ⟨w.heap.size+1+1,0,none⟩),.pointer (some ⟨w.heap.size+1+1+1,0,none⟩)]) rfl trivial (enters_of Tryz.func197 (by kernel_rfl) rfl)
  (vtargets_stops Fence.wide 5 trivial rfl (by decide) (w.heap.size+1+1) (w.heap.size+1+1+1) cb (cf+i*10) i x co cc w W0 hcl (by omega) hTg HBI.out hsz) (fun h k=>h.trans k) hKb (Below.refl _ _) (fun _=>rfl)
  (fun pre W=>((∃v,Boxed W (w.heap.size+1) 233 v/\W.ownsRow w.heap.size 3 1 v (inR m pre).length ((inR m pre).map (Value.int .i64))/\True)/\Boxed W w.heap.size 29 (.slice (some ⟨cb,cf,none⟩) m cap))/\Below w.heap.size w W)
  (fun _ _ _=>False) hIO (fun _ _ _ _ _ hs _ _=>hs)
  ⟨⟨⟨_,HBO.out,World.ownsRow_nil _ _ _ _,trivial⟩,HBL.out⟩,HB0.out⟩
  (fun y=>{tmps:=#[.slice (some ⟨cb,cf,none⟩) m cap,.int .i64 i,.pointer (some ⟨w.heap.size,0,none⟩),undef,.slice none 0 0,.pointer (some ⟨w.heap.size+1,0,none⟩),.int .i64 y,.int .i64 i,.bool false,.bool false,.int .i64 i,.slice (some ⟨cb,cf,none⟩) m cap,.int .i64 m,.bool false,.bool false,
   .slice (some ⟨cb,cf,none⟩) m cap,.int .i64 i,.pointer (some ⟨cb,cf+i*10,none⟩),.int .i64 i,.func (.func 197) #[] #[.pointer (some ⟨w.heap.size+1+1,0,none⟩),.pointer (some ⟨w.heap.size+1+1+1,0,none⟩)],.int .i64 y,
   undef,undef,undef,undef,undef,undef,undef,undef,undef,undef,undef,undef,undef,undef,undef,undef],defers:=[]}) ?assign ?body ?done ?stop
 case assign=>
  intro l y W K hK
  gi_wp2
  exact hK
 case body=>
  rintro l pre y W ⟨⟨⟨v,hv,hrow,-⟩,hL⟩,hB⟩ hlt
  have hc:=hv.cell
  have hcL:=hL.cell
  have hpl:(inR m pre).length<=pre.length:=List.length_filter_le _ _
  clear hIO hKb hTg
  by_cases hy0:0<=y
  ·have u0:decide (0<=y)=true:=decide_eq_true hy0
   by_cases hy1:y<m
   ·have u1:decide (y<(m:Int))=true:=decide_eq_true hy1
    have hR:=inR_hit m pre hy0 hy1
    have HR:=Lib.hid hR
    clear hR
    gi_wp2_with (gi_at_builtin;refine wpListIn_append_own _ rfl _ _ 233 rfl w.heap.size 3 i0 (.int .i64 0) 1 8 Tryz.underlying233 hinf hz0 hz1 hz2 rfl (by decide) _ _ _ rfl (hrow.alloc _) ⟨W.heap.size,0,none⟩ 1 1 [.int .i64 y] rfl rfl (cell_one_new _ _ _) (by simp [Value.oneCell']) (by unfold maxLen;omega) (by omega) (by have:=hB.size;simp;omega) ?_;intro v' w1 hown' hgrow _;obtain⟨g',cap',rfl⟩:=ownsRow_succ hown';obtain⟨hv1,hv2,hr2,hk2,hb2⟩:=hv.appended (by decide) hrow hB.size (Nat.le_succ _) hown' hgrow;have hc1:=hv1.cell;have hf1:=hv1.frozen)
    have hkeep: ∀(B:Nat) (T:TypeId) (u:Value),T≠3->B≠w.heap.size+1->Boxed W B T u->Boxed (w1.setCell ⟨w.heap.size+1,0,none⟩ (.slice (some ⟨g',0,none⟩) ((inR m pre).length+1) cap')) B T u:=fun B T u hT hne hu=>
     ((hu.alloc _).kept hgrow (hu.not_row hT hrow)).kept (grownBy_setCell' w1 (w.heap.size+1) _) (fun e=>hne (by cases e;rfl))
    exact⟨hk2.from _,⟨hb2,fun u hu=>hkeep _ _ u (by decide) (by omega) hu⟩,⟨⟨_,hv2,by rw [HR.out,List.length_append,List.map_append];exact hr2,trivial⟩,hkeep _ _ _ (by decide) (by omega) hL⟩,hB.trans hb2⟩
   ·have u1:decide (y<(m:Int))=false:=decide_eq_false hy1
    have HR:=Lib.hid (inR_miss m pre (fun h=>hy1 h.2))
    gi_wp2
    exact⟨KeepsFrom.refl _ _,KpT.refl _ _ _,⟨⟨v,hv,by rw [HR.out];exact hrow⟩,hL⟩,hB⟩
  ·have u0:decide (0<=y)=false:=decide_eq_false hy0
   have HR:=Lib.hid (inR_miss m pre (fun h=>hy0 h.1))
   gi_wp2
   exact⟨KeepsFrom.refl _ _,KpT.refl _ _ _,⟨⟨v,hv,by rw [HR.out];exact hrow⟩,hL⟩,hB⟩
 case done=>
  rintro D ys W hD rfl ⟨⟨⟨v,hv,hrow,-⟩,hL⟩,hB⟩ hK
  have hsu: ∀zs:List Int,(∀k,k∈zs↔k∈inR m (targetsV i x))->SuccOk m i x zs:=fun zs h k=>by
   rw [h k];unfold inR
   rw [List.mem_filter,Bool.and_eq_true,decide_eq_true_eq,decide_eq_true_eq]
  have hsl:(inR m (targetsV i x)).length<=1002:=Nat.le_trans (List.length_filter_le _ _) HTL.out
  have HSU:=Lib.hid hsu
  generalize inR m (targetsV i x)=S at *
  have hc:=hv.cell
  have hnot:=hv.not_row (by decide) hrow
  rcases hrow.2 with⟨rfl,h0⟩|⟨g,cp,cur,rfl,hbase,hgb,h1,h2,h3,h4⟩
  ·obtain rfl:S= []:=List.eq_nil_of_length_eq_zero h0
   gi_wp2_with (first|(refine⟨trivial,?_⟩;gi_at_call 180;refine(callsIn_wide.2 (Tryz.slices_Sort_int_none _ _ _)).mono ?_;rintro e w1 ⟨rfl,rfl⟩)|(refine⟨trivial,?_⟩;gi_at_call 181;refine(callsIn_wide.2 (Tryz.slices_Compact_int_empty _ _ _)).mono ?_;rintro e w1 ⟨rfl,rfl⟩))
   refine⟨by simp,.inl ⟨_,_,rfl,run_takeDeferred hK,?_⟩⟩
   exact⟨_,results_tmp rfl _ _ _,⟨[],_,_,rfl,.inl rfl,HSU.out [] (fun k=>Iff.rfl),by decide⟩,hB.trans (belowK_b (w:=w) (Nat.le_refl _) _ D _ _ (by omega) hK rfl rfl)⟩
  ·have hgl:g<W.heap.size:=(Array.getElem?_eq_some_iff.1 hgb).1
   have hso:=Tryz.slices_Sort_int g 0 cp S W (holds_of_blockI hgb (by simpa using h4)) hgl (by omega)
   obtain⟨T,hT⟩: ∃T,T=S.mergeSort (fun x y=>decide (x<=y)):=⟨_,rfl⟩
   rw [<-hT]at hso
   have hTl:T.length=S.length:=by rw [hT,List.length_mergeSort]
   have hTm: ∀k,k∈T↔k∈S:=fun k=>by rw [hT];exact List.mem_mergeSort
   have hso2:Calls Tryz.prog 180 #[.slice (some ⟨g,0,none⟩) S.length cp] W fun e w1=>e= .returned (.tuple #[])/\ ∃cur1,w1.heap[g]?=some (.cells cur1 3 (0,0))/\cur1.toList.take T.length=T.map (Value.int .i64)/\cur1.size=cur.size/\W.grownBy w1 (some g):=
    hso.mono fun e w1 ⟨he,nn,os,hw⟩=>by
     subst hw
     exact⟨he,_,heap_sortedI _ hgb,take_putCellsI cur T (by rw [hTl];omega),by simp [Sort.putCells],grownBy_sortedI _⟩
   refine zzK3 hso2 hTm hTl fun HSO HTm HTl=>?_
   clear hso hso2 hT hTm hTl
   gi_wp2_with (refine⟨trivial,?_⟩;gi_at_call 180;refine(callsIn_wide.2 HSO.out).mono ?_;rintro e W1 ⟨rfl,cur1,hrow1,h41,hcs,hgr⟩;have hc1:=(hv.kept hgr (fun e=>hnot (by rw [e];rfl))).cell)
   have hK1:W1.heap[D]?=some (.deferred (some [])):=(hgr.block D (Array.getElem?_eq_some_iff.1 hK).1 (fun e=>by
    have:g=D:=by simpa using e.symm
    rw [this,hK]at hgb;cases hgb)).trans hK
   have hB1:RowKit.Below w.heap.size w W1:=hB.grown hgr hB.size (fun j hj=>by cases hj;exact hbase)
   have hco:=Tryz.slices_Compact_int g 0 cp T W1 (holds_of_blockI hrow1 h41) (by rw [HTl.out];omega) (by rw [HTl.out];exact h1)
   rw [HTl.out]at hco
   have HCO:=Lib.hid hco
   have hgl1:=(Array.getElem?_eq_some_iff.1 hrow1).1
   clear hco hgr hgl
   gi_wp2_with (refine⟨trivial,?_⟩;gi_at_call 181;refine(callsIn_wide.2 HCO.out).mono ?_;rintro e w2 ⟨rfl,q,rfl⟩)
   have hcl2:(Lib.compact T).length<=T.length:=Lib.compact_length_le T
   have hLl:(Lib.compact T++List.replicate (S.length-(Lib.compact T).length) 0).length=T.length:=by
    have:=HTl.out
    rw [List.length_append,List.length_replicate];omega
   have hints:=ints_compact (q:=q) hrow1 hLl (by rw [hcs,HTl.out];omega) (r:=Lib.compact T) (by rw [hLl];exact hcl2) (fun j hj hj'=>by rw [List.getElem_append_left hj])
   have hgr2:=grownBy_sortedI (n:=q) (os:=#[]) (w:=W1) (g:=g) (Lib.compact T++List.replicate (S.length-(Lib.compact T).length) 0).toArray
   rw [grow_none]at hgr2
   have hK2:(Sort.putRow (Value.int .i64) (Sort.ahead W1 q) g 0 (Lib.compact T++List.replicate (S.length-(Lib.compact T).length) 0).toArray).heap[D]?=some (.deferred (some [])):=(hgr2.block D (Array.getElem?_eq_some_iff.1 hK1).1 (fun e=>by
    have:g=D:=by simpa using e.symm
    rw [this,hK1]at hrow1;cases hrow1)).trans hK1
   have hB2:RowKit.Below w.heap.size w (Sort.putRow (Value.int .i64) (Sort.ahead W1 q) g 0 (Lib.compact T++List.replicate (S.length-(Lib.compact T).length) 0).toArray):=hB1.grown hgr2 hB1.size (fun j hj=>by cases hj;exact hbase)
   refine⟨by simp,.inl ⟨_,_,rfl,run_takeDeferred hK2,?_⟩⟩
   have hbl:=belowK_b (w:=w) (Nat.le_refl _) _ D _ (.deferred none) (by omega) hK2 rfl rfl
   exact⟨_,results_tmp rfl _ _ _,⟨Lib.compact T,_,_,rfl,hints.putObj hK2,HSU.out _ (fun k=>(mem_compact T k).trans (HTm.out k)),by have:=HTl.out;omega⟩,hB2.trans hbl⟩
 case stop=>
  rintro D c pre W _ _ h _
  exact h.elim
end Go.Proofs.YtponljdhfoipjaaGreatDoor
