/- part 12 -/
import Derived.Test.YtepjanajflkakaaGreatDoorUnrAll05
import Derived.Test.YtepjanajflkakaaGreatDoorUnrAll07
namespace Go.Proofs.YtepjanajflkakaaGreatDoor
open Go.RowKit
set_option linter.unusedVariables false
set_option linter.unusedSimpArgs false
set_option maxRecDepth 100000
set_option maxHeartbeats 40000000
open Go.RowKit Go.Maps Go.WideMaps
def fnOk (last:Int) (f:RFunc):Bool:=nameB f.name&&(wi f.arity 0 16&&wi f.entry 0 last)
def sigIn (l:List RFunc) (s:ByteArray) (a:Int):Bool:=l.any (fun f=>f.name.data.toList==s.data.toList&&f.arity==a)
def funcsB (last:Int) (funcs:List RFunc):Bool:=decide (∀k,(h:k<funcs.length)->fnOk last funcs[k]=true/\sigIn (funcs.take k) funcs[k].name funcs[k].arity=false)
def funB (last:Int) (f:RFun):Bool:=wi f.arity 0 16&&(wi f.free 0 200&&wi f.entry 0 last)
def tabA (u:RUnit):Bool:=nameB u.mdl&&(decide (1<=u.vsn)&&(decide (u.vsn<=2147483647)&&(decide (0<=(u.code.length:Int)-1)&&(decide ((u.code.length:Int)-1<524288)&&(decide (u.lits.length<=65535)&&(decide (u.funcs.length<=200)&&decide (u.funs.length<=1000)))))))
def tablesB (f:Nat) (u:RUnit):Bool:=tabA u&&(u.lits.all (validF f)&&(funcsB ((u.code.length:Int)-1) u.funcs&&u.funs.all (funB ((u.code.length:Int)-1))))
theorem funcsB_no {last:Int} {funcs:List RFunc} {k:Nat} (h:k<funcs.length) (e:fnOk last funcs[k]=false∨sigIn (funcs.take k) funcs[k].name funcs[k].arity=true):funcsB last funcs=false:=by
 unfold funcsB
 exact decide_eq_false (fun hh=>by
  obtain⟨h1,h2⟩:=hh k h
  rcases e with e|e
  ·rw [h1]at e;cases e
  ·rw [h2]at e;cases e)
theorem sigIn_step {funcs:List RFunc} {k:Nat} (h:k<funcs.length) (s:ByteArray) (a:Int):sigIn (funcs.take (k+1)) s a=((funcs[k].name.data.toList==s.data.toList&&funcs[k].arity==a)||sigIn (funcs.take k) s a):=by
 unfold sigIn
 rw [List.take_add_one,List.getElem?_eq_getElem h,List.any_append,Bool.or_comm]
 simp
theorem tables_any (f B:Nat) (u:RUnit) (lo fo go co:Option Addr) (lc fc gc cc:Nat) (w:World) (hu:UBox w B u lo fo go co lc fc gc cc) (hp:UP w u lo fo go co) (hlits:SlAt w 9 (TmAt w (f+1)) lo u.lits) (hcap: ∀t∈u.lits,(capF (f+1) t:Int)<=1152921504606846976):
  Calls Tryz.prog 38 #[.pointer (some ⟨B,0,none⟩)] w fun e w'=>e= .returned (.bool (tablesB (f+1) u))/\Below w.heap.size w w':=by
 have HU:=Lib.hid hu;have HP:=Lib.hid hp;have HL:=Lib.hid hlits;have HCAP:=Lib.hid hcap
 have c0:=hu.c0;have c5:=hu.c5
 have hnm:=fun wx=>names_any u.mdl wx
 have HE:Hid (tablesB (f+1) u=(tabA u&&(u.lits.all (validF (f+1))&&(funcsB ((u.code.length:Int)-1) u.funcs&&u.funs.all (funB ((u.code.length:Int)-1)))))):=Lib.hid rfl
 have HA:Hid (tabA u=(nameB u.mdl&&(decide (1<=u.vsn)&&(decide (u.vsn<=2147483647)&&(decide (0<=(u.code.length:Int)-1)&&(decide ((u.code.length:Int)-1<524288)&&(decide (u.lits.length<=65535)&&(decide (u.funcs.length<=200)&&decide (u.funs.length<=1000))))))))):=Lib.hid rfl
 have hla:IntKind.i64.wrap ((u.code.length:Int)-1)=(u.code.length:Int)-1:=by have:=hp.codeLen;rw [IntKind.wrap_i64];omega
 have hmm:= @run_makeMap Tryz.prog
 have HMM:=Lib.hid hmm
 clear hmm
 have hla64:wrap64 ((u.code.length:Int)-1)=(u.code.length:Int)-1:=by have:=hp.codeLen;first|exact hla|(unfold wrap64;omega)
 have hrng: -1<=(u.code.length:Int)-1/\(u.code.length:Int)-1<=9223372036854775807:=by have:=hp.codeLen;omega
 clear hu hp hlits hcap hla
 generalize hlast:(u.code.length:Int)-1=last at *
 obtain⟨hrng1,hrng2⟩:=hrng
 have hlw:wrap64 ((u.code.length:Int)-1)=last:=by rw [hlast];exact hla64
 clear hla64
 have HLAST:=Lib.hid hlast
 clear hlast
 by_cases hn:nameB u.mdl=true
 rotate_left
 ·skip
  have hnf:nameB u.mdl=false:=by cases h:nameB u.mdl with
   |false=>rfl
   |true=>exact absurd h hn
  rw [hnf]at hnm
  have E:Hid (tablesB (f+1) u=false):=Lib.hid (by rw [HE.out,HA.out,hnf];rfl)
  clear hn hnf
  go_enter Tryz.func38,Tryz.ntmps38
  go_wp2_with fail
  refine(hnm _).mono ?_
  rintro e w5 ⟨rfl,hb5⟩
  have d1:=(HU.out.below hb5).c1;have d2:=(HU.out.below hb5).c2;have d3:=(HU.out.below hb5).c3;have d4:=(HU.out.below hb5).c4
  go_wp2_with fail
  go_ret
  exact⟨retb E.out.symm,hb5⟩
 rw [hn]at hnm
 by_cases hv1:1<=u.vsn
 rotate_left
 ·skip
  have hv1f:u.vsn<1:=by omega
  have E:Hid (tablesB (f+1) u=false):=Lib.hid (by rw [HE.out,HA.out,decide_eq_false (p:=1<=u.vsn) (by omega)];simp)
  clear hv1
  go_enter Tryz.func38,Tryz.ntmps38
  go_wp2_with fail
  refine(hnm _).mono ?_
  rintro e w5 ⟨rfl,hb5⟩
  have d1:=(HU.out.below hb5).c1;have d2:=(HU.out.below hb5).c2;have d3:=(HU.out.below hb5).c3;have d4:=(HU.out.below hb5).c4
  go_wp2_with fail
  go_ret
  exact⟨retb E.out.symm,hb5⟩
 by_cases hv2:u.vsn<=2147483647
 rotate_left
 ·skip
  have hv2f:2147483647<u.vsn:=by omega
  have E:Hid (tablesB (f+1) u=false):=Lib.hid (by rw [HE.out,HA.out,decide_eq_false (p:=u.vsn<=2147483647) (by omega)];simp)
  clear hv2
  go_enter Tryz.func38,Tryz.ntmps38
  go_wp2_with fail
  refine(hnm _).mono ?_
  rintro e w5 ⟨rfl,hb5⟩
  have d1:=(HU.out.below hb5).c1;have d2:=(HU.out.below hb5).c2;have d3:=(HU.out.below hb5).c3;have d4:=(HU.out.below hb5).c4
  go_wp2_with fail
  go_ret
  exact⟨retb E.out.symm,hb5⟩
 by_cases hl0:0<=last
 rotate_left
 ·skip
  have hl0f:last<0:=by omega
  have E:Hid (tablesB (f+1) u=false):=Lib.hid (by rw [HE.out,HA.out,decide_eq_false (p:=0<=last) (by omega)];simp)
  clear hl0
  go_enter Tryz.func38,Tryz.ntmps38
  go_wp2_with fail
  refine(hnm _).mono ?_
  rintro e w5 ⟨rfl,hb5⟩
  have d1:=(HU.out.below hb5).c1;have d2:=(HU.out.below hb5).c2;have d3:=(HU.out.below hb5).c3;have d4:=(HU.out.below hb5).c4
  go_wp2_with fail
  go_ret
  exact⟨retb E.out.symm,hb5⟩
 by_cases hl1:last<524288
 rotate_left
 ·skip
  have hl1f:524288<=last:=by omega
  have E:Hid (tablesB (f+1) u=false):=Lib.hid (by rw [HE.out,HA.out,decide_eq_false (p:=last<524288) (by omega)];simp)
  clear hl1
  go_enter Tryz.func38,Tryz.ntmps38
  go_wp2_with fail
  refine(hnm _).mono ?_
  rintro e w5 ⟨rfl,hb5⟩
  have d1:=(HU.out.below hb5).c1;have d2:=(HU.out.below hb5).c2;have d3:=(HU.out.below hb5).c3;have d4:=(HU.out.below hb5).c4
  go_wp2_with fail
  go_ret
  exact⟨retb E.out.symm,hb5⟩
 by_cases hq1:(u.lits.length:Int)<=65535
 rotate_left
 ·skip
  have hq1f:65535<(u.lits.length:Int):=by omega
  have E:Hid (tablesB (f+1) u=false):=Lib.hid (by rw [HE.out,HA.out,decide_eq_false (p:=u.lits.length<=65535) (by omega)];simp)
  clear hq1
  go_enter Tryz.func38,Tryz.ntmps38
  go_wp2_with fail
  refine(hnm _).mono ?_
  rintro e w5 ⟨rfl,hb5⟩
  have d1:=(HU.out.below hb5).c1;have d2:=(HU.out.below hb5).c2;have d3:=(HU.out.below hb5).c3;have d4:=(HU.out.below hb5).c4
  go_wp2_with fail
  go_ret
  exact⟨retb E.out.symm,hb5⟩
 by_cases hq2:(u.funcs.length:Int)<=200
 rotate_left
 ·skip
  have hq2f:200<(u.funcs.length:Int):=by omega
  have E:Hid (tablesB (f+1) u=false):=Lib.hid (by rw [HE.out,HA.out,decide_eq_false (p:=u.funcs.length<=200) (by omega)];simp)
  clear hq2
  go_enter Tryz.func38,Tryz.ntmps38
  go_wp2_with fail
  refine(hnm _).mono ?_
  rintro e w5 ⟨rfl,hb5⟩
  have d1:=(HU.out.below hb5).c1;have d2:=(HU.out.below hb5).c2;have d3:=(HU.out.below hb5).c3;have d4:=(HU.out.below hb5).c4
  go_wp2_with fail
  go_ret
  exact⟨retb E.out.symm,hb5⟩
 by_cases hq3:(u.funs.length:Int)<=1000
 rotate_left
 ·skip
  have hq3f:1000<(u.funs.length:Int):=by omega
  have E:Hid (tablesB (f+1) u=false):=Lib.hid (by rw [HE.out,HA.out,decide_eq_false (p:=u.funs.length<=1000) (by omega)];simp)
  clear hq3
  go_enter Tryz.func38,Tryz.ntmps38
  go_wp2_with fail
  refine(hnm _).mono ?_
  rintro e w5 ⟨rfl,hb5⟩
  have d1:=(HU.out.below hb5).c1;have d2:=(HU.out.below hb5).c2;have d3:=(HU.out.below hb5).c3;have d4:=(HU.out.below hb5).c4
  go_wp2_with fail
  go_ret
  exact⟨retb E.out.symm,hb5⟩
 have HA1:Hid (tabA u=true):=Lib.hid (by rw [HA.out,hn,decide_eq_true hv1,decide_eq_true hv2,decide_eq_true hl0,decide_eq_true hl1,decide_eq_true (p:=u.lits.length<=65535) (by omega),decide_eq_true (p:=u.funcs.length<=200) (by omega),decide_eq_true (p:=u.funs.length<=1000) (by omega)];rfl)
 have HE1:Hid (tablesB (f+1) u=(u.lits.all (validF (f+1))&&(funcsB last u.funcs&&u.funs.all (funB last)))):=Lib.hid (by rw [HE.out,HA1.out,Bool.true_and])
 clear HE HA hn
 go_enter Tryz.func38,Tryz.ntmps38
 go_wp2_with fail
 refine(hnm _).mono ?_
 rintro e w5 ⟨rfl,hb5⟩
 have HU5:=Lib.hid (HU.out.below hb5)
 have d1:=HU5.out.c1;have d2:=HU5.out.c2;have d3:=HU5.out.c3;have d4:=HU5.out.c4
 have HB5:=Lib.hid hb5
 have HI:Hid (u.lits.all (validF (f+1))=(u.lits.drop 0).all (validF (f+1))):=Lib.hid rfl
 clear hb5
 go_wp2_with fail
 go_loopw [73] (fun i wr=> ∃k:Nat,k<=u.lits.length/\i= .int .i64 k/\Hid (u.lits.all (validF (f+1))=(u.lits.drop k).all (validF (f+1)))/\Below w.heap.size w wr) (fun i _=>u.lits.length-(intOf i).toNat)
 case atStart=>exact⟨0,Nat.zero_le _,rfl,HI,HB5.out⟩
 case round=>
  obtain⟨k,hk,rfl,HK,hBw⟩:=hrel
  rename World=>wr
  by_cases hlt:k<u.lits.length
  ·obtain⟨b1,off1,ai,ci,hao,hb1,q0,q1,q2,q3,q4,q5,q6,q7,q8,hit,hok⟩:=(HL.out.tms hBw).tm hlt
   subst hao
   have HST:Hid ((u.lits.drop k).all (validF (f+1))=(validF (f+1) u.lits[k]&&(u.lits.drop (k+1)).all (validF (f+1)))):=Lib.hid (by rw [List.drop_eq_getElem_cons hlt,List.all_cons])
   have hbx:Below wr.heap.size wr (wr.alloc (.cells #[.int .i64 u.lits[k].kind,.int .i64 u.lits[k].int,.int .i64 u.lits[k].gen,.string u.lits[k].name,.string u.lits[k].func,.int .i64 u.lits[k].arity,.slice ai u.lits[k].items.length ci,.string u.lits[k].bytes,.int .i64 u.lits[k].bits] 116)):=(Below.refl _ _).alloc (Nat.le_refl _) _
   have hV:=tvalid_any f u.lits[k] ai ci (wr.alloc (.cells #[.int .i64 u.lits[k].kind,.int .i64 u.lits[k].int,.int .i64 u.lits[k].gen,.string u.lits[k].name,.string u.lits[k].func,.int .i64 u.lits[k].arity,.slice ai u.lits[k].items.length ci,.string u.lits[k].bytes,.int .i64 u.lits[k].bits] 116)) (hit.tms hbx) hok (HCAP.out _ (List.getElem_mem hlt))
   have HBX:=Lib.hid (hBw.trans (hbx.mono hBw.size))
   clear hit hok hbx hBw
   generalize validF (f+1) u.lits[k]=v at *
   generalize u.lits[k]=x at *
   cases v with
   |true=>
    have HK2:Hid (u.lits.all (validF (f+1))=(u.lits.drop (k+1)).all (validF (f+1))):=Lib.hid (by rw [HK.out,HST.out,Bool.true_and])
    go_wp2_with fail
    refine hV.mono ?_
    rintro e w6 ⟨rfl,hb6⟩
    have HB6:=Lib.hid (HBX.out.trans (hb6.mono HBX.out.size))
    go_wp2_with fail
    go_roundw
    case rel=>exact⟨k+1,by omega,by go_num,HK2,HB6.out⟩
    case measure=>simp [intOf];omega
   |false=>
    have E:Hid (tablesB (f+1) u=false):=Lib.hid (by rw [HE1.out,HK.out,HST.out];rfl)
    go_wp2_with fail
    refine hV.mono ?_
    rintro e w6 ⟨rfl,hb6⟩
    have HB6:=Lib.hid (HBX.out.trans (hb6.mono HBX.out.size))
    go_wp2_with fail
    go_ret
    exact⟨retb E.out.symm,HB6.out⟩
  ·have HE2:Hid (tablesB (f+1) u=(funcsB last u.funcs&&u.funs.all (funB last))):=Lib.hid (by rw [HE1.out,HK.out,List.drop_eq_nil_of_le (by omega)];rfl)
   have e3:=(HU.out.below hBw).c3
   have hBl:=(HU.out.below hBw).lt
   have hma:Below wr.heap.size wr (wr.alloc (.map #[] 0)):=(Below.refl _ _).alloc (Nat.le_refl _) _
   have HSG:=Lib.hid (sig_made wr)
   have HBM:=Lib.hid (hBw.trans (hma.mono hBw.size))
   have hMge:w.heap.size<=wr.heap.size:=hBw.size
   have f3:=(hma.cell (p:=⟨B,3,none⟩) hBl).trans e3
   have hmm:=HMM.out
   clear hma
   go_wp2_with fail
   clear hmm
   generalize wr.alloc (.map #[] 0)=W at *
   generalize wr.heap.size=M at *
   clear e3 HMM
   have HFN:Hid (∀j,j<0-> ∀h:j<u.funcs.length,fnOk last u.funcs[j]=true/\sigIn (u.funcs.take j) u.funcs[j].name u.funcs[j].arity=false):=Lib.hid (fun j h=>absurd h (Nat.not_lt_zero _))
   have hW:M<W.heap.size:=HSG.out.lt
   have HS0:Hid (SigIs W M 0 (fun s a=>sigIn (u.funcs.take 0) s a)):=Lib.hid HSG.out
   clear HSG
   obtain⟨wo,rfl⟩: ∃wo:World,wo=W:=⟨_,rfl⟩
   go_loopw [87] (fun i wr=> ∃k:Nat,k<=u.funcs.length/\i= .int .i64 k/\Hid (SigIs wr M k (fun s a=>sigIn (u.funcs.take k) s a))/\Hid (∀j,j<k-> ∀h:j<u.funcs.length,fnOk last u.funcs[j]=true/\sigIn (u.funcs.take j) u.funcs[j].name u.funcs[j].arity=false)/\Below w.heap.size w wr) (fun i _=>u.funcs.length-(intOf i).toNat)
   case atStart=>exact⟨0,Nat.zero_le _,rfl,HS0,HFN,HBM.out⟩
   case round=>
    obtain⟨k,hk,rfl,HSK,HFK,hBw⟩:=hrel
    rename World=>wr
    by_cases hlt:k<u.funcs.length
    ·obtain⟨b1,off1,hfo,hb1,q0,q1,q2,q3,n1,n2,n3⟩:=(HP.out.below hBw).funcs.func hlt
     subst hfo
     have hstep:=sigIn_step hlt
     have HSTEP:=Lib.hid hstep
     have hno:=funcsB_no (last:=last) hlt
     have HNO:=Lib.hid hno
     have HYES:Hid (fnOk last u.funcs[k]=true->sigIn (u.funcs.take k) u.funcs[k].name u.funcs[k].arity=false-> ∀j,j<k+1-> ∀h:j<u.funcs.length,fnOk last u.funcs[j]=true/\sigIn (u.funcs.take j) u.funcs[j].name u.funcs[j].arity=false):=Lib.hid (fun h1 h2 j hj h=>by
      rcases Nat.eq_or_lt_of_le (Nat.le_of_lt_succ hj)with e|e
      ·subst e;exact⟨h1,h2⟩
      ·exact HFK.out j e h)
     have hFO:fnOk last u.funcs[k]=(nameB u.funcs[k].name&&(wi u.funcs[k].arity 0 16&&wi u.funcs[k].entry 0 last)):=rfl
     have HFO:=Lib.hid hFO
     clear hstep hno hFO
     have HBW:=Lib.hid hBw
     have hnf:=fun wx=>names_any u.funcs[k].name wx
     have hwa:=fun wx=>within_any u.funcs[k].arity 0 16 wx
     have hwe:=fun wx=>within_any u.funcs[k].entry 0 last wx
     have hpl:w.heap.size<=wr.heap.size:=hBw.size
     unfold maxLen at n1
     generalize fnOk last u.funcs[k]=fk at *
     generalize hsn:sigIn (u.funcs.take k) u.funcs[k].name u.funcs[k].arity=sn at *
     have HSN:=Lib.hid hsn
     clear hsn
     generalize nameB u.funcs[k].name=vn at *
     generalize wi u.funcs[k].arity 0 16=va at *
     generalize wi u.funcs[k].entry 0 last=ve at *
     generalize u.funcs[k]=g at *
     have hbx:=two_below wr (.cells #[.string g.name,.int .i64 g.arity,.bool g.pub,.int .i64 g.entry] 106) (.cells #[.string g.name,.int .i64 g.arity] 108)
     have hr0:=two0 wr (.cells #[.string g.name,.int .i64 g.arity,.bool g.pub,.int .i64 g.entry] 106) (.cells #[.string g.name,.int .i64 g.arity] 108)
     have hr1:=two1 wr (.cells #[.string g.name,.int .i64 g.arity,.bool g.pub,.int .i64 g.entry] 106) (.cells #[.string g.name,.int .i64 g.arity] 108)
     have HBX:=Lib.hid hbx;have HR0:=Lib.hid hr0;have HR1:=Lib.hid hr1
     clear hbx hr0 hr1 hBw
     cases vn with
     |false=>
      have E:Hid (tablesB (f+1) u=false):=Lib.hid (by rw [HE2.out,HNO.out (.inl (by rw [HFO.out];rfl))];rfl)
      go_wp2_with fail
      refine(hnf _).mono ?_
      rintro e w6 ⟨rfl,hb6⟩
      have HB6:=Lib.hid (HBW.out.trans ((below_next HBX.out hb6).mono HBW.out.size))
      clear hb6
      go_wp2_with fail
      go_ret
      exact⟨retb E.out.symm,HB6.out⟩
     |true=>
      go_wp2_with fail
      refine(hnf _).mono ?_
      rintro e w6 ⟨rfl,hb6⟩
      have HB6w:=Lib.hid (below_next HBX.out hb6)
      have HB6:=Lib.hid (HBW.out.trans (HB6w.out.mono HBW.out.size))
      have hs0:=(hb6.block wr.heap.size (lt_of_row HR0.out)).trans HR0.out
      have hs1:=(hb6.block (wr.heap.size+1) (lt_of_row HR1.out)).trans HR1.out
      have y0:w6.cell? ⟨wr.heap.size,0,none⟩=some (.string g.name):=by rw [cell_of_row _ _ _ _ _ _ hs0];rfl
      have y1:w6.cell? ⟨wr.heap.size,1,none⟩=some (.int .i64 g.arity):=by rw [cell_of_row _ _ _ _ _ _ hs0];rfl
      have y3:w6.cell? ⟨wr.heap.size,3,none⟩=some (.int .i64 g.entry):=by rw [cell_of_row _ _ _ _ _ _ hs0];rfl
      have z0:w6.cell? ⟨wr.heap.size+1,0,none⟩=some (.string g.name):=by rw [cell_of_row _ _ _ _ _ _ hs1];rfl
      have z1:w6.cell? ⟨wr.heap.size+1,1,none⟩=some (.int .i64 g.arity):=by rw [cell_of_row _ _ _ _ _ _ hs1];rfl
      have hsig:=HSK.out.kept HB6w.out
      have hlook:=sig_look hsig n1 n2
      rw [HSN.out]at hlook
      have HSIG:=Lib.hid hsig
      clear hb6 hs0 hs1 hsig
      cases va with
      |false=>
       have E:Hid (tablesB (f+1) u=false):=Lib.hid (by rw [HE2.out,HNO.out (.inl (by rw [HFO.out];rfl))];rfl)
       go_wp2_with (go_at_call 71;first|((with_reducible refine(hwa _).mono ?_);rintro e w1 ⟨rfl,rfl⟩)|((with_reducible refine(hwe _).mono ?_);rintro e w1 ⟨rfl,rfl⟩))
       go_ret
       exact⟨retb E.out.symm,HB6.out⟩
      |true=>
       cases ve with
       |false=>
        have E:Hid (tablesB (f+1) u=false):=Lib.hid (by rw [HE2.out,HNO.out (.inl (by rw [HFO.out];rfl))];rfl)
        go_wp2_with (go_at_call 71;first|((with_reducible refine(hwa _).mono ?_);rintro e w1 ⟨rfl,rfl⟩)|((with_reducible refine(hwe _).mono ?_);rintro e w1 ⟨rfl,rfl⟩))
        go_ret
        exact⟨retb E.out.symm,HB6.out⟩
       |true=>
        cases sn with
        |true=>
         have E:Hid (tablesB (f+1) u=false):=Lib.hid (by rw [HE2.out,HNO.out (.inr rfl)];rfl)
         go_wp2_with (go_at_call 71;first|((with_reducible refine(hwa _).mono ?_);rintro e w1 ⟨rfl,rfl⟩)|((with_reducible refine(hwe _).mono ?_);rintro e w1 ⟨rfl,rfl⟩))
         go_ret
         exact⟨retb E.out.symm,HB6.out⟩
        |false=>
         obtain⟨D,hown,hD⟩:=HSIG.out
         have hput:=fun(w7:World) h=>sig_put (w':=w7) hown hD n1 n2 h
         have HPUT:=Lib.hid hput
         have HDD:=Lib.hid hD
         clear hput hD
         go_wp2_with (first|(go_at_call 71;first|((with_reducible refine(hwa _).mono ?_);rintro e w1 ⟨rfl,rfl⟩)|((with_reducible refine(hwe _).mono ?_);rintro e w1 ⟨rfl,rfl⟩))|(at_mapUpdate;refine wpList_mapUpdate_own _ rfl _ _ _ 147 rfl 108 4 sigLaw Tryz.underlying147 _ M k D rfl hown (by unfold maxLen;omega) _ _ _ rfl rfl (keyOf_sig n1 n2) _ [] (plainElem_bool Tryz.underlying4 true) ?_))
         intro w7 hown7 hgrow7
         have HSK2:Hid (SigIs w7 M (k+1) (fun s a=>sigIn (u.funcs.take (k+1)) s a)):=Lib.hid (by
          obtain⟨D',a1,a2⟩:=HPUT.out w7 hown7
          exact⟨D',a1,fun s a hs ha=>(a2 s a hs ha).trans (congrArg (fun b=>DataW.lit (Lit.bool b)) (HSTEP.out s a).symm)⟩)
         have HY2:=Lib.hid (HYES.out (by rw [HFO.out];rfl) (by trivial))
         have HB7:=Lib.hid (HB6.out.grown hgrow7 HB6.out.size (fun j hj=>by cases hj;exact hMge))
         clear hown hown7 hgrow7
         go_wp2_with fail
         go_roundw
         case rel=>exact⟨k+1,by omega,by go_num,HSK2,HY2,HB7.out⟩
         case measure=>simp [intOf];omega
    ·have HFB:Hid (funcsB last u.funcs=true):=Lib.hid (by unfold funcsB;exact decide_eq_true (fun j hj=>HFK.out j (by omega) hj))
     have HE3:Hid (tablesB (f+1) u=u.funs.all (funB last)):=Lib.hid (by rw [HE2.out,HFB.out,Bool.true_and])
     have e4:=(HU.out.below hBw).c4
     have HBW:=Lib.hid hBw
     have HI3:Hid (u.funs.all (funB last)=(u.funs.drop 0).all (funB last)):=Lib.hid rfl
     clear hBw HSK HFK
     obtain⟨wp,rfl⟩: ∃wp:World,wp=wr:=⟨_,rfl⟩
     go_wp2_with fail
     go_loopw [126] (fun i wr=> ∃k:Nat,k<=u.funs.length/\i= .int .i64 k/\Hid (u.funs.all (funB last)=(u.funs.drop k).all (funB last))/\Below w.heap.size w wr) (fun i _=>u.funs.length-(intOf i).toNat)
     case atStart=>exact⟨0,Nat.zero_le _,rfl,HI3,HBW.out⟩
     case round=>
      obtain⟨k,hk,rfl,HK,hBw⟩:=hrel
      rename World=>wr
      by_cases hlt:k<u.funs.length
      ·obtain⟨b1,off1,hgo,hb1,q0,q1,q2,n1,n2,n3⟩:=(HP.out.below hBw).funs.fn hlt
       subst hgo
       have HST:Hid ((u.funs.drop k).all (funB last)=(funB last u.funs[k]&&(u.funs.drop (k+1)).all (funB last))):=Lib.hid (by rw [List.drop_eq_getElem_cons hlt,List.all_cons])
       have HFB2:Hid (funB last u.funs[k]=(wi u.funs[k].arity 0 16&&(wi u.funs[k].free 0 200&&wi u.funs[k].entry 0 last))):=Lib.hid rfl
       have hwa:=fun wx=>within_any u.funs[k].arity 0 16 wx
       have hwf:=fun wx=>within_any u.funs[k].free 0 200 wx
       have hwe:=fun wx=>within_any u.funs[k].entry 0 last wx
       generalize funB last u.funs[k]=fk at *
       generalize wi u.funs[k].arity 0 16=va at *
       generalize wi u.funs[k].free 0 200=vf at *
       generalize wi u.funs[k].entry 0 last=ve at *
       generalize u.funs[k]=g at *
       have HBX:=Lib.hid (hBw.alloc hBw.size (.cells #[.int .i64 g.arity,.int .i64 g.free,.int .i64 g.entry] 70))
       have hyes:fk=true->u.funs.all (funB last)=(u.funs.drop (k+1)).all (funB last):=fun h=>by rw [HK.out,HST.out,h,Bool.true_and]
       have hno:fk=false->tablesB (f+1) u=false:=fun h=>by rw [HE3.out,HK.out,HST.out,h];rfl
       have HYES:=Lib.hid hyes;have HNO:=Lib.hid hno
       clear hyes hno hBw
       cases va with
       |false=>
        have E:=Lib.hid (HNO.out (by rw [HFB2.out];rfl))
        go_wp2_with (go_at_call 71;first|((with_reducible refine(hwa _).mono ?_);rintro e w1 ⟨rfl,rfl⟩)|((with_reducible refine(hwf _).mono ?_);rintro e w1 ⟨rfl,rfl⟩)|((with_reducible refine(hwe _).mono ?_);rintro e w1 ⟨rfl,rfl⟩))
        go_ret
        exact⟨retb E.out.symm,HBX.out⟩
       |true=>
        cases vf with
        |false=>
         have E:=Lib.hid (HNO.out (by rw [HFB2.out];rfl))
         go_wp2_with (go_at_call 71;first|((with_reducible refine(hwa _).mono ?_);rintro e w1 ⟨rfl,rfl⟩)|((with_reducible refine(hwf _).mono ?_);rintro e w1 ⟨rfl,rfl⟩)|((with_reducible refine(hwe _).mono ?_);rintro e w1 ⟨rfl,rfl⟩))
         go_ret
         exact⟨retb E.out.symm,HBX.out⟩
        |true=>
         cases ve with
         |false=>
          have E:=Lib.hid (HNO.out (by rw [HFB2.out];rfl))
          go_wp2_with (go_at_call 71;first|((with_reducible refine(hwa _).mono ?_);rintro e w1 ⟨rfl,rfl⟩)|((with_reducible refine(hwf _).mono ?_);rintro e w1 ⟨rfl,rfl⟩)|((with_reducible refine(hwe _).mono ?_);rintro e w1 ⟨rfl,rfl⟩))
          go_ret
          exact⟨retb E.out.symm,HBX.out⟩
         |true=>
          have E:=Lib.hid (HYES.out (by rw [HFB2.out];rfl))
          go_wp2_with (go_at_call 71;first|((with_reducible refine(hwa _).mono ?_);rintro e w1 ⟨rfl,rfl⟩)|((with_reducible refine(hwf _).mono ?_);rintro e w1 ⟨rfl,rfl⟩)|((with_reducible refine(hwe _).mono ?_);rintro e w1 ⟨rfl,rfl⟩))
          go_roundw
          case rel=>exact⟨k+1,by omega,by go_num,E,HBX.out⟩
          case measure=>simp [intOf];omega
      ·have E:Hid (tablesB (f+1) u=true):=Lib.hid (by rw [HE3.out,HK.out,List.drop_eq_nil_of_le (by omega)];rfl)
       go_wp2_with fail
       go_ret
       exact⟨retb E.out.symm,hBw⟩
end Go.Proofs.YtepjanajflkakaaGreatDoor
