import Derived.Test.YtijekmeocadkeaaGreatDoorW11
import Derived.Test.YtijekmeocadkeaaGreatDoorW12
import Derived.Test.YtijekmeocadkeaaGreatDoorW13
namespace Go.Proofs.YtijekmeocadkeaaGreatDoor
open Go.RowKit
set_option linter.unusedVariables false
set_option linter.unusedSimpArgs false
set_option maxRecDepth 100000
set_option maxHeartbeats 0
open Go.RowKit Go.Shelf Go.Lib
theorem ziv (l:List UInt8):(⟨l.toArray⟩:ByteArray).size=l.length:=by show l.toArray.size=_;simp
theorem zkA {l:List Ch} (h4: ∀j,j<l.length->l[j]!.1.size=4) (z:Nat): ∀k,k<=l.length->(zcZ z (l.take k)).length%4=0
 |0,_=>by simp [zcZ,be4]
 |k+1,hk=>by
  have ih:=zkA h4 z k (by omega);have e0:=h4 k (by omega);have e1:l[k]!.1.data.toList.length=l[k]!.1.size:=zbP _
  have e2:l[k]!.2.data.toList.length=l[k]!.2.size:=zbP _
  have e3:(be4 l[k]!.2.size).length=4:=rfl
  have hp:=zcS l[k]!.2.size
  have hp2:zbm l[k]!.2.size%4=0:=by unfold zbm;omega
  rw [zga z (by omega)];simp only [chB,zzq1,List.length_replicate];omega
theorem zn6 {l:List Ch} (h:dst l=true): ∀x,x∈l->x.1.size=4:=by
 intro x hx;obtain⟨i,hi,rfl⟩:=List.getElem_of_mem hx;have hg:=zzp.1 h i (List.mem_range.2 hi);unfold zeO at hg;rw [zzq6]at hg;have hn:=hg.1;have e:l[i]! =l[i]:=by simp [hi]
 rw [e]at hn;unfold nm at hn;simp only [zzq6,zzq7]at hn;have:=hn.1;rw [zbP]at this;exact this
theorem zp4 (l:List UInt8) (m:Nat):l++List.replicate (m+1) 0=(l++List.replicate m 0)++ [0]:=by
 rw [List.replicate_succ'];simp
theorem ztu (ao:zzA) (c:Nat) (l:List Ch) (w:World) (h:ListS w ao l) (hs:zf7 l) (h4: ∀j,j<l.length->l[j]!.1.size=4):
  Calls Tryz.prog 47 #[.slice ao l.length c] w fun e w'=>e= .returned (.string ⟨(zbH l).toArray⟩)/\Below w.heap.size w w':=by
 refine zzK3 h hs h4 fun HR HS H4=>?_;have hlen:=hs.1;have hsz:=fun wx hx=>zl8 ao c l wx hx hs
 have hzl:=zgo hs l.length (zzL _);rw [List.take_of_length_le (Nat.le_refl _)]at hzl;have HB:Hid (zbH l=zcZ (szL l) (l.take l.length)++([67,83,85,77]++be4 4)):=zzH (by rw [List.take_of_length_le (Nat.le_refl _)];rfl);clear h hs h4;generalize szL l=z at *
 have hfo: ∀wx,Calls Tryz.prog 48 #[.int .i64 ((z:Int)-8)] wx fun e w'=>e= .returned (.string ⟨(be4 (z-8)).toArray⟩)/\Below wx.heap.size wx w':=fun wx=>by
  have:=zgA ((z:Int)-8) wx (by omega) (by omega);rw [show((z:Int)-8).toNat=z-8 by omega]at this;exact this
 go_in;go_wp2_with fail;refine(hsz _ HR.out).mono ?_;rintro e w1 ⟨rfl,rfl⟩;go_wp2_with fail;refine(hfo _).mono ?_;rintro e w1 ⟨rfl,hb1⟩;have hadd0:=fun wx=>run_string_add_sum (P:=Tryz.prog) wx ⟨#[83,72,78,68]⟩ (ByteArray.mk (be4 (z-8)).toArray) (by rw [zd3];decide)
 clear hsz hfo;go_wp2_with fail;go_loopw [3,4] (fun s i wr=> ∃k:Nat,k<=l.length/\i= .int .i64 k/\s= .string ⟨(zcZ z (l.take k)).toArray⟩/\Below w.heap.size w wr) (fun _ i _=>l.length-(intOf i).toNat)
 case atStart=>exact⟨0,zzZ _,rfl,congrArg Value.string (zeP _ _),hb1⟩
 case round=>
  obtain⟨k,hk,rfl,rfl,hB⟩:=hrel;rename World=>wr
  have hrl0:=zfY HS.out z k hk;have hrz:=(zgo HS.out k hk).1;have hrl:(zcZ z (l.take k)).length<=3000000000000:=by omega
  clear hrl0 hrz;by_cases hlt:k<l.length
  ·obtain⟨b,off,hao,hr0⟩:=HR.out.row hlt
   subst hao;have hrr:=hr0.below hB hr0.1;have hc0:=(hrr.2 k hlt).1;have hc1:=(hrr.2 k hlt).2;have hbl:=hrr.1;have hdz:=(HS.out.2 k hlt).1;have hnz:=H4.out k hlt;have HRT:=zzH (zga z hlt);have hmod:=zkA H4.out z k hk;clear hrr hr0;generalize hn:l[k]!.1=n at *
   generalize hdd:l[k]!.2=d at *
   have HN:=zzH hn;have HD:=zzH hdd;clear hn hdd;generalize hX:zcZ z (l.take k)=X at *;have HX:=zzH hX;clear hX;go_upto_region 5 with fail;have hxs:=ziv X;have hbe:(be4 d.size).length=4:=rfl;have ha1:=fun wx=>run_string_add_sum (P:=Tryz.prog) wx ⟨X.toArray⟩ n (by rw [hxs];omega)
   have z1:((⟨X.toArray⟩:ByteArray)++n).size=X.length+n.size:=by rw [ByteArray.size_append,hxs]
   have ha2:=fun wx=>run_string_add_sum (P:=Tryz.prog) wx (⟨X.toArray⟩++n) (ByteArray.mk (be4 d.size).toArray) (by rw [z1,zd3];omega)
   have z2:((⟨X.toArray⟩:ByteArray)++n++ByteArray.mk (be4 d.size).toArray).size=X.length+n.size+4:=by rw [ByteArray.size_append,z1,zd3]
   have ha3:=fun wx=>run_string_add_sum (P:=Tryz.prog) wx (⟨X.toArray⟩++n++ByteArray.mk (be4 d.size).toArray) d (by rw [z2];omega)
   have hval:Hid ((⟨X.toArray⟩++n++ByteArray.mk (be4 d.size).toArray++d:ByteArray)=⟨(X++n.data.toList++be4 d.size++d.data.toList++List.replicate 0 0).toArray⟩):=zzH (by
    apply ByteArray.ext;simp [ByteArray.data_append])
   clear hxs z1 z2
   go_region_held3 (fun w'=>w'.cell? ⟨b,off+k*2,none⟩=some (.string n)/\w'.cell? ⟨b,off+k*2+1,none⟩=some (.string d)) (exact⟨by assumption,by assumption⟩)
    (first
     |(go_at_call 48;refine(zgA _ _ ?_ ?_).mono ?_;omega;omega;rintro e w5 ⟨rfl,hb5⟩;have q0:=(hb5.cell (p:=⟨b,off+k*2,none⟩) hbl).trans hc0;have q1:=(hb5.cell (p:=⟨b,off+k*2+1,none⟩) hbl).trans hc1;have qB:Below w.heap.size w w5:=hB.drew.trans (hb5.mono hB.size)))
   have e1:n.data.toList.length=n.size:=zbP _;have e2:d.data.toList.length=d.size:=zbP _
   have hYl:(X++n.data.toList++be4 d.size++d.data.toList).length=X.length+8+d.size:=by
    simp only [zzq1];omega
   have HY:Hid (X++n.data.toList++be4 d.size++d.data.toList++List.replicate (zbm d.size-d.size) 0=X++chB (n,d)):=zzH (by simp [chB]);generalize X++n.data.toList++be4 d.size++d.data.toList=Y at *;have hp:=zcS d.size;have hp4:zbm d.size%4=0:=by unfold zbm;omega
   generalize hM:zbm d.size-d.size=M at *;have hM2:(Y.length+M)%4=0:=by omega
   have hM3:M<=3:=by omega
   have HM:=zzH hM;clear hM ha1 ha2 ha3 hp hp4 hc0 hc1;have hv2:=hval.out;clear hval;go_wp2_with fail;obtain⟨wo,hwo⟩: ∃wo:World,wo=w5:=⟨_,rfl⟩;subst hwo;go_loop [3] (fun s=> ∃m:Nat,m<=M/\s= .string ⟨(Y++List.replicate m 0).toArray⟩) (fun s=>Y.length+M+1-(match s with|.string s=>s.size|_=>0))
   case atStart=>exact⟨0,zzZ _,congrArg Value.string hv2⟩
   case round=>
    obtain⟨m,hm,rfl⟩:=hrel;have hTl:=ziv (Y++List.replicate m 0);have HT2:Hid ((⟨(Y++List.replicate m 0).toArray⟩++⟨#[0]⟩:ByteArray)=⟨(Y++List.replicate (m+1) 0).toArray⟩):=zzH (by rw [zp4];exact zeP _ [0]);rw [zzq1,List.length_replicate]at hTl;have hT0:(⟨(Y++List.replicate m 0).toArray⟩:ByteArray).size+(⟨#[0]⟩:ByteArray).size<=9223372036854775807:=by rw [hTl];show _+1<=_;omega
    have HV:Hid ((⟨(Y++List.replicate m 0).toArray⟩:ByteArray)=⟨(Y++List.replicate m 0).toArray⟩):=zzH rfl;have HTl:=zzH hTl;by_cases hmM:m<M
    ·have hne:(((⟨(Y++List.replicate m 0).toArray⟩:ByteArray).size:Int)%4!=0)=true:=by rw [hTl,bne_iff_ne];omega
     have hadd:=fun wx=>run_string_add_sum (P:=Tryz.prog) wx ⟨(Y++List.replicate m 0).toArray⟩ ⟨#[0]⟩ hT0
     generalize(⟨(Y++List.replicate m 0).toArray⟩:ByteArray)=T at *;clear hTl hT0;go_wp2_with fail;go_round
     case rel=>exact⟨m+1,by omega,congrArg Value.string HT2.out⟩
     case measure=>
      have:(T++(⟨#[0]⟩:ByteArray)).size=T.size+1:=by rw [ByteArray.size_append];rfl
      simp only [this,HTl.out];omega
    ·have hmeq:m=M:=by omega
     subst hmeq;have hne:(((⟨(Y++List.replicate m 0).toArray⟩:ByteArray).size:Int)%4!=0)=false:=by rw [hTl,bne_eq_false_iff_eq];omega
     have HZ2:Hid (zcZ z (l.take (k+1))=Y++List.replicate m 0):=zzH (by
      have:l[k]! =(n,d):=Prod.ext HN.out HD.out
      rw [HRT.out,this,HY.out])
     generalize hTT:(⟨(Y++List.replicate m 0).toArray⟩:ByteArray)=T at *;have HTT:=zzH hTT;clear hTl hT0 hTT;go_wp2_with fail;go_roundw
     case rel=>exact⟨k+1,by omega,by go_num,by rw [HZ2.out,HTT.out],qB⟩
     case measure=>simp [intOf];omega
  ·have hkl:k=l.length:=by omega
   subst hkl;have HBB:=HB.out;generalize zcZ z (l.take l.length)=X at *;have hxs:=ziv X;have ha1:=fun wx=>run_string_add_sum (P:=Tryz.prog) wx ⟨X.toArray⟩ ⟨#[67,83,85,77]⟩ (by rw [hxs];show _+4<=_;omega)
   have z1:((⟨X.toArray⟩:ByteArray)++⟨#[67,83,85,77]⟩).size=X.length+4:=by rw [ByteArray.size_append,hxs];rfl
   have ha2:=fun wx=>run_string_add_sum (P:=Tryz.prog) wx (⟨X.toArray⟩++⟨#[67,83,85,77]⟩) (ByteArray.mk (be4 4).toArray) (by rw [z1,zd3];omega)
   have HF:Hid ((⟨X.toArray⟩++⟨#[67,83,85,77]⟩++ByteArray.mk (be4 4).toArray:ByteArray)=⟨(zbH l).toArray⟩):=zzH (by
    rw [HBB];apply ByteArray.ext;simp [ByteArray.data_append])
   clear HBB z1 hxs;go_wp2_with fail;refine(zgA 4 _ (by decide) (by decide)).mono ?_;rintro e w5 ⟨rfl,hb5⟩;go_wp2;go_ret;exact⟨congrArg (fun x=>Ending.returned (.string x)) HF.out,hB.trans (hb5.mono hB.size)⟩
theorem ztK (ao:zzA) (c:Nat) (l:List Ch) (w:World) (h:ListS w ao l) (hs:zf7 l):
  Calls Tryz.prog 17 #[.slice ao l.length c] w fun e w'=>e= .returned (.tuple #[.string ⟨(zbQ l).toArray⟩,.int .i64 (zbx l)])/\Below w.heap.size w w':=by
 have HR:=zzH h;have hlen:=hs.1;have hnm:=fun wx hx=>zqF ao c l wx hx (by omega) (fun j hj=>(hs.2 j hj).2)
 have hsi:=fun wx hx=>zl8 ao c l wx hx hs
 have hbo:=fun wx hx h4=>ztu ao c l wx hx hs h4
 have hbz:=zfY hs (szL l) l.length (zzL _);have hzl:=zgo hs l.length (zzL _);rw [List.take_of_length_le (Nat.le_refl _)]at hbz hzl;clear h hs
 cases hd:dst l with
 |false=>
  have E1:Hid (zbQ l= []):=zzH (by unfold zbQ;rw [hd];rfl);have E2:Hid (zbx l=2):=zzH (by unfold zbx;rw [hd];rfl);rw [hd]at hnm;exact zz9
 |true=>
  rw [hd]at hnm
  have h4: ∀j,j<l.length->l[j]!.1.size=4:=fun j hj=>by
   have:l[j]!∈l:=by rw [getElem!_pos l j hj];exact zzM hj
   have:=(zn6 hd _ this);exact this
  replace hbo:=fun wx hx=>hbo wx hx h4
  clear h4;by_cases hlong:16<l.length
  ·have E1:Hid (zbQ l= []):=zzH (by unfold zbQ;rw [hd,if_pos (rfl),if_pos (Or.inl hlong)])
   have E2:Hid (zbx l=3):=zzH (by unfold zbx;rw [hd,if_pos (rfl),if_pos (Or.inl hlong)]);exact zz9
  by_cases hzb:16777216<szL l
  ·have E1:Hid (zbQ l= []):=zzH (by unfold zbQ;rw [hd,if_pos (rfl),if_pos (Or.inr hzb)])
   have E2:Hid (zbx l=3):=zzH (by unfold zbx;rw [hd,if_pos (rfl),if_pos (Or.inr hzb)]);clear hbz hbo;generalize szL l=z at *;go_in;go_wp2_with fail;refine(hnm _ HR.out).mono ?_;rintro e w1 ⟨rfl,hb1⟩;go_wp2_with fail;refine(hsi _ (HR.out.below hb1)).mono ?_;rintro e w2 ⟨rfl,rfl⟩;go_wp2;go_ret2;exact⟨zfZ E1.out.symm E2.out.symm,hb1⟩
  ·skip
   have E1:Hid (zbQ l=zix l):=zzH (by unfold zbQ;rw [hd,if_pos (rfl),if_neg (by omega)]);have E2:Hid (zbx l=0):=zzH (by unfold zbx;rw [hd,if_pos (rfl),if_neg (by omega)]);have hbl:(zbH l).length<=17000100:=by unfold zbH;simp only [zzq1];simp [be4];omega
   have hcl:=zij (zbH l);have hfl:Hid (zix l=zbH l++be4 (crc (zbH l))):=zzH rfl;clear hbz;generalize szL l=z at *;generalize zbH l=B at *;have hBs:=ziv B;have hsu2: ∀wx,Calls Tryz.prog 49 #[.string ⟨B.toArray⟩] wx fun e w'=>e= .returned (.int .u32 (crc B:Int))/\wx=w':=fun wx=>zrV ⟨B.toArray⟩ wx (by rw [hBs];unfold maxLen;omega)
   have hfo:=fun wx=>zgA ((crc B:Nat):Int) wx (by omega) (by omega)
   rw [zzq16]at hfo;have hadd: ∀wx,Sem.run Tryz.prog (Op.stringOp BinOp.add ⟨B.toArray⟩ ⟨(be4 (crc B)).toArray⟩) wx= .ok (.string (⟨B.toArray⟩++⟨(be4 (crc B)).toArray⟩)) wx:=fun wx=>run_string_add_sum wx _ _ (by rw [zd3,hBs];omega)
   have HVL:Hid ((⟨B.toArray⟩++⟨(be4 (crc B)).toArray⟩:ByteArray)=⟨(B++be4 (crc B)).toArray⟩):=zzH (zeP _ _);generalize hcr:crc B=cs at *;clear hcr hBs;have hwc:IntKind.i64.wrap (cs:Int)=cs:=by rw [zzq5];omega
   go_in;go_wp2_with fail;refine(hnm _ HR.out).mono ?_;rintro e w1 ⟨rfl,hb1⟩;go_wp2_with fail;refine(hsi _ (HR.out.below hb1)).mono ?_;rintro e w2 ⟨rfl,rfl⟩;go_wp2_with fail;refine(hbo _ (HR.out.below hb1)).mono ?_;rintro e w3 ⟨rfl,hb3⟩;go_wp2_with fail;refine(hsu2 _).mono ?_;rintro e w4 ⟨rfl,rfl⟩;go_wp2_with fail;refine(hfo _).mono ?_;rintro e w5 ⟨rfl,hb5⟩;go_wp2;go_ret2;have x1:=hb1.trans (hb3.mono hb1.size);exact⟨zr6 (by rw [E1.out,hfl.out];exact HVL.out) E2.out.symm,x1.trans (hb5.mono x1.size)⟩
open Go.RowKit Go.Shelf Go.Lib
def zcU (u:RUnit) (S:ByteArray):List Ch:=[(⟨#[73,110,102,111]⟩,zd1 u),(⟨#[85,110,105,116]⟩,S)]
def zf8 (u:RUnit) (S:ByteArray) (ce:Int):List UInt8:=if ce=0 then zbQ (zcU u S)else []
def zfL (u:RUnit) (S:ByteArray) (ce:Int):Int:=if ce=0 then zbx (zcU u S)else ce
theorem zip {u:RUnit} {S:ByteArray} (hv:I64 u.vsn) (hm:u.mdl.size<=1000) (hS:S.size<=68719476736):zf7 (zcU u S):=⟨by show(2:Nat)<=40;decide,fun j hj=>by
 have hi:=znh hv hm
 match j,hj with
 |0,_=>exact⟨by show(zd1 u).size<=_;omega,by show(4:Nat)<=100;decide⟩
 |1,_=>exact⟨hS,by show(4:Nat)<=100;decide⟩
 |n+2,h=>exact absurd h (by show¬n+2<2;omega)⟩
theorem zl9 (w:World) (x y:Ch):ListS (w.alloc (.cells #[.string x.1,.string x.2,.string y.1,.string y.2] 46)) (some ⟨w.heap.size,0,none⟩) [x,y]:=by
 refine .inr ⟨_,_,rfl,by simp,fun j hj=>?_⟩
 match j,hj with
 |0,_=>
  exact zz10
 |1,_=>
  exact zz10
 |n+2,h=>exact absurd h (by show¬n+2<2;omega)
theorem zjQ (u:RUnit) (lo fo go co:zzA) (lc fc gc cc:Nat) (S:ByteArray) (ce:Int) (w:World) (hv:I64 u.vsn)
  (hp: ∀wx,Below w.heap.size w wx->Calls Tryz.prog 14 #[.agg #[.string u.mdl,.int .i64 u.vsn,.slice lo u.lits.length lc,.slice fo u.funcs.length fc,.slice go u.funs.length gc,.slice co u.code.length cc]] wx fun en w'=>en= .returned (.tuple #[.string S,.int .i64 ce])/\Below wx.heap.size wx w')
  (hk:ce=0->u.mdl.size<=1000/\S.size<=68719476736):
  Calls Tryz.prog 6 #[.agg (zzu u lo lc fo fc go gc co cc)] w fun e w'=>e= .returned (.tuple #[.string ⟨(zf8 u S ce).toArray⟩,.int .i64 (zfL u S ce)])/\Below w.heap.size w w':=by
 unfold zzu;have HP:=zzH hp;clear hp;by_cases hc:ce=0
 ·obtain⟨hm,hS⟩:=hk hc
  subst hc;have E1:Hid (zf8 u S 0=zbQ (zcU u S)):=zzH (if_pos rfl);have E2:Hid (zfL u S 0=zbx (zcU u S)):=zzH (if_pos rfl);have HIN:=zzH (fun wx=>zlf u lo fo go co lc fc gc cc wx hv hm);have HPU:=zzH (fun wx=>zr8 (some ⟨wx.heap.size,0,none⟩) 2 (zcU u S) _ (zl9 wx (⟨#[73,110,102,111]⟩,zd1 u) (⟨#[85,110,105,116]⟩,S)) (zip hv hm hS));exact zz11
 ·exact zz12
theorem zjk (u:RUnit) (lo fo go co:zzA) (lc fc gc cc:Nat) (S:ByteArray) (ce:Int) (w:World) (hv:I64 u.vsn)
  (hp: ∀wx,Below w.heap.size w wx->Calls Tryz.prog 16 #[.agg #[.string u.mdl,.int .i64 u.vsn,.slice lo u.lits.length lc,.slice fo u.funcs.length fc,.slice go u.funs.length gc,.slice co u.code.length cc]] wx fun en w'=>en= .returned (.tuple #[.string S,.int .i64 ce])/\Below wx.heap.size wx w')
  (hk:ce=0->u.mdl.size<=1000/\S.size<=68719476736):
  Calls Tryz.prog 7 #[.agg (zzu u lo lc fo fc go gc co cc)] w fun e w'=>e= .returned (.tuple #[.string ⟨(zf8 u S ce).toArray⟩,.int .i64 (zfL u S ce)])/\Below w.heap.size w w':=by
 unfold zzu;have HP:=zzH hp;clear hp;by_cases hc:ce=0
 ·obtain⟨hm,hS⟩:=hk hc
  subst hc;have E1:Hid (zf8 u S 0=zbQ (zcU u S)):=zzH (if_pos rfl);have E2:Hid (zfL u S 0=zbx (zcU u S)):=zzH (if_pos rfl);have HIN:=zzH (fun wx=>zpn u lo fo go co lc fc gc cc wx hv hm);have HPU:=zzH (fun wx=>ztK (some ⟨wx.heap.size,0,none⟩) 2 (zcU u S) _ (zl9 wx (⟨#[73,110,102,111]⟩,zd1 u) (⟨#[85,110,105,116]⟩,S)) (zip hv hm hS));exact zz11
 ·exact zz12
theorem zqg (f r:Nat) (s:ByteArray) (l:List UInt8) (p:Nat) (w:World) (h:RdL r s l p w) (hx: ∃l1,zH l=some (113,l1)):
  Calls Tryz.prog 181 #[.pointer (some ⟨r,0,none⟩)] w (zbv r s (f+1) w (zc0 (zy f) p l)):=by
 generalize hQ:zbv r s (f+1) w (zc0 (zy f) p l)=Q at *;have HQ:=zzH hQ;clear hQ;obtain⟨l1,hx⟩:=hx;have HD:Hid (zc0 (zy f) p l=(zck l1).bind fun x=>(zck x.2).bind fun y=>(zH y.2).bind fun z=>if z.1=97 then(zH z.2).bind fun q=>some ((tmK 5 (name:=x.1) (func:=y.1) (arity:=q.1),p),q.2)else none):=zzH (by unfold zc0;rw [hx,zzq0];exact if_pos rfl);have HB:=fun wx (hh:RdL r s l p wx)=>zbI r s l p wx hh
 rw [hx]at HB;have S0:=StO.start h;go_in;go_wp2_with (go_at_call 173;refine(HB _ (h.grown_new _)).mono ?_;rintro e v0 ⟨rfl,hr0,hg0⟩;have S00:=S0.call hr0 hg0;clear S0 hr0 hg0 HB);have S0:=S00;clear S00;have H1:=zg4 r s l1 p _ S0.rd;rcases h1:zck l1 with _|⟨nm,l2⟩
 ·exact zz98
 rw [h1]at H1 HD;rw [zzq0]at HD;go_wp2_with (go_at_call 180;refine H1.mono ?_;rintro e v1 ⟨rfl,hr1,hg1⟩;have S1:=S0.call hr1 hg1;clear S0 H1 hr1 hg1);have S1n:=S1.new #[.int .i64 5,.int .i64 0,.int .i64 0,.string nm,.string ⟨#[]⟩,.int .i64 0,.slice none 0 0,.string ⟨#[]⟩,.int .i64 0];clear S1;generalize v1.alloc _=u1w at *;generalize v1.heap.size=Y at *;have H2:=zg4 r s l2 p _ S1n.rd;rcases h2:zck l2 with _|⟨fm,l3⟩
 ·rw [h2]at H2 HD
  go_wp2_with (go_at_call 180;refine H2.mono ?_;rintro e v2 ⟨rfl,hg2⟩);exact⟨rfl,by rw [<-HQ.out,HD.out];exact⟨rfl,zk S1n.gr hg2⟩⟩
 rw [h2]at H2 HD;rw [zzq0]at HD;go_wp2_with (go_at_call 180;refine H2.mono ?_;rintro e v2 ⟨rfl,hr2,hg2⟩;have S2:=S1n.call hr2 hg2;clear S1n H2 hr2 hg2;obtain⟨q0,q1,q2,q3,q4,q5,q6,q7,q8,z0,z1,z2,z3,z4,z5,z6,z7,z8⟩:=zg S2.y);have S2s:=S2.set 4 (.string fm);clear S2 q0 q1 q2 q3 q4 q5 q6 q7 q8 z0 z1 z2 z3 z4 z5 z6 z7 z8;generalize v2.setCell _ _=u2w at *;have H3:=zbI r s l3 p _ S2s.rd;rcases h3:zH l3 with _|⟨n,l4⟩
 ·exact zz97
 rw [h3]at H3 HD;rw [zzq0]at HD;by_cases c:n=97
 case neg=>
  rw [if_neg c]at HD;have hne:((n:Int)==97)=false:=zzB.2 (by omega);go_wp2_with (go_at_call 173;refine H3.mono ?_;rintro e v3 ⟨rfl,hr3,hg3⟩);go_wp2_with (go_at_call 152;refine(zco _ _).mono ?_;rintro e d3 ⟨rfl,rfl⟩);exact⟨rfl,by rw [<-HQ.out,HD.out];exact⟨rfl,zk S2s.gr hg3⟩⟩
 subst c;rw [if_pos rfl]at HD;go_wp2_with (go_at_call 173;refine H3.mono ?_;rintro e v3 ⟨rfl,hr3,hg3⟩;have S3:=S2s.call hr3 hg3;clear S2s H3 hr3 hg3);go_wp2_with (go_at_call 152;refine(zW _ _).mono ?_;rintro e d3 ⟨rfl,rfl⟩);have H4:=zbI r s l4 p _ S3.rd;rcases h4:zH l4 with _|⟨m,l5⟩
 ·rw [h4]at H4 HD
  go_wp2_with (go_at_call 173;refine H4.mono ?_;rintro e v4 ⟨rfl,hg4⟩);exact zz99
 rw [h4]at H4 HD;rw [zzq0]at HD;go_upto_region 7 with(go_at_call 173;refine H4.mono ?_;rintro e v4 ⟨rfl,hr4,hg4⟩;have S4:=S3.call hr4 hg4;clear S3 H4 hr4 hg4;obtain⟨q0,q1,q2,q3,q4,q5,q6,q7,q8,z0,z1,z2,z3,z4,z5,z6,z7,z8⟩:=zg S4.y);have S4s:=S4.set 5 (.int .i64 m);clear S4 q0 q1 q2 q3 q4 q5 q6 q7 q8 z0 z1 z2 z3 z4 z5 z6 z7 z8;generalize v4.setCell _ _=u4w at *;have hXY:=S4s.hY;rw [S4s.hX]at hXY;obtain⟨q0,q1,q2,q3,q4,q5,q6,q7,q8,z0,z1,z2,z3,z4,z5,z6,z7,z8⟩:=zg S4s.y;have x9:=S4s.x;rw [S4s.hX]at x9;obtain⟨x0,x1,x2,x3,x4,x5,x6,x7,x8,y0,y1,y2,y3,y4,y5,y6,y7,y8⟩:=zg x9;clear x9;go_wp2_with fail;refine zzj (results_cell_row rfl _ _ w.heap.size _ _ _ _ rfl (zcq _ _ _ _ _ _ _ _ _ S4s.x) Tryz.underlying55 rfl (by kernel_rfl)) rfl ?_;rw [<-HQ.out,HD.out];exact⟨⟨none,0,rfl,none,0,rfl,.inl rfl⟩,(S4s.fin _ _ _ _ _ _ _ _ _).1,(S4s.fin _ _ _ _ _ _ _ _ _).2⟩
theorem zok (f r:Nat) (s:ByteArray) (l:List UInt8) (p:Nat) (w:World) (h:RdL r s l p w) (HI:zgn f) (hp:p<=2000) (hpf:2000<=p+f) (hx: ∃l1,zH l=some (112,l1)):
  Calls Tryz.prog 181 #[.pointer (some ⟨r,0,none⟩)] w (zbv r s (f+1) w (zc0 (zy f) p l)):=by
 generalize hQ:zbv r s (f+1) w (zc0 (zy f) p l)=Q at *;have HQ:=zzH hQ;clear hQ;obtain⟨l1,hx⟩:=hx;have HD:Hid (zc0 (zy f) p l=(zH l1).bind fun a=>(zbz 2 a.2).bind fun b=>(zH b.2).bind fun c=>(zck c.2).bind fun d=>(zbz 4 d.2).bind fun e=>(zcc (zy f) c.1 p e.2).bind fun q=>some ((tmK 4 (int:=b.1) (gen:=e.1) (name:=d.1) (arity:=a.1) (items:=q.1.1),q.1.2),q.2)):=zzH (by unfold zc0;rw [hx,zzq0];exact(if_neg (show¬(112:Nat)=113 by decide)).trans (if_pos rfl));have HB:=fun wx (hh:RdL r s l p wx)=>zbI r s l p wx hh
 rw [hx]at HB;have S0:=StO.start h;go_in;go_wp2_with (go_at_call 173;refine(HB _ (h.grown_new _)).mono ?_;rintro e v0 ⟨rfl,hr0,hg0⟩;have S00:=S0.call hr0 hg0;clear S0 hr0 hg0 HB);have S0:=S00;clear S00;have H1:=zbI r s l1 p _ S0.rd;rcases h1:zH l1 with _|⟨ar,l2⟩
 ·exact zz100
 rw [h1]at H1 HD;rw [zzq0]at HD;go_wp2_with (go_at_call 173;refine H1.mono ?_;rintro e v1 ⟨rfl,hr1,hg1⟩;have S1:=S0.call hr1 hg1;clear S0 H1 hr1 hg1);have S1n:=S1.new #[.int .i64 4,.int .i64 0,.int .i64 0,.string ⟨#[]⟩,.string ⟨#[]⟩,.int .i64 ar,.slice none 0 0,.string ⟨#[]⟩,.int .i64 0];clear S1;generalize v1.alloc _=u1w at *;generalize v1.heap.size=Y at *;have H2:=zcX r s l2 p 2 _ S1n.rd (by omega);rcases h2:zbz 2 l2 with _|⟨i2,l3⟩
 ·rw [h2]at H2 HD
  go_wp2_with (go_at_call 175;refine H2.mono ?_;rintro e v2 ⟨rfl,hg2⟩);exact⟨rfl,by rw [<-HQ.out,HD.out];exact⟨rfl,zk S1n.gr hg2⟩⟩
 rw [h2]at H2 HD;rw [zzq0]at HD;go_wp2_with (go_at_call 175;refine H2.mono ?_;rintro e v2 ⟨rfl,hr2,hg2⟩;have S2:=S1n.call hr2 hg2;clear S1n H2 hr2 hg2;obtain⟨q0,q1,q2,q3,q4,q5,q6,q7,q8,z0,z1,z2,z3,z4,z5,z6,z7,z8⟩:=zg S2.y);have S2s:=S2.set 1 (.int .i64 i2);clear S2 q0 q1 q2 q3 q4 q5 q6 q7 q8 z0 z1 z2 z3 z4 z5 z6 z7 z8;generalize v2.setCell _ _=u2w at *;have H3:=zbI r s l3 p _ S2s.rd;rcases h3:zH l3 with _|⟨n,l4⟩
 ·exact zz97
 rw [h3]at H3 HD;rw [zzq0]at HD;go_wp2_with (go_at_call 173;refine H3.mono ?_;rintro e v3 ⟨rfl,hr3,hg3⟩;have S3:=S2s.call hr3 hg3;clear S2s H3 hr3 hg3);have H4:=zg4 r s l4 p _ S3.rd;rcases h4:zck l4 with _|⟨nm,l5⟩
 ·rw [h4]at H4 HD
  go_wp2_with (go_at_call 180;refine H4.mono ?_;rintro e v4 ⟨rfl,hg4⟩);exact zz99
 rw [h4]at H4 HD;rw [zzq0]at HD;go_wp2_with (go_at_call 180;refine H4.mono ?_;rintro e v4 ⟨rfl,hr4,hg4⟩;have S4:=S3.call hr4 hg4;clear S3 H4 hr4 hg4;obtain⟨q0,q1,q2,q3,q4,q5,q6,q7,q8,z0,z1,z2,z3,z4,z5,z6,z7,z8⟩:=zg S4.y);have S4s:=S4.set 3 (.string nm);clear S4 q0 q1 q2 q3 q4 q5 q6 q7 q8 z0 z1 z2 z3 z4 z5 z6 z7 z8;generalize v4.setCell _ _=u4w at *;have H5:=zcX r s l5 p 4 _ S4s.rd (by omega);rcases h5:zbz 4 l5 with _|⟨g4,l6⟩
 ·rw [h5]at H5 HD
  go_wp2_with (go_at_call 175;refine H5.mono ?_;rintro e v5 ⟨rfl,hg5⟩);exact⟨rfl,by rw [<-HQ.out,HD.out];exact⟨rfl,zk S4s.gr hg5⟩⟩
 rw [h5]at H5 HD;rw [zzq0]at HD;go_wp2_with (go_at_call 175;refine H5.mono ?_;rintro e v5 ⟨rfl,hr5,hg5⟩;have S5:=S4s.call hr5 hg5;clear S4s H5 hr5 hg5;obtain⟨q0,q1,q2,q3,q4,q5,q6,q7,q8,z0,z1,z2,z3,z4,z5,z6,z7,z8⟩:=zg S5.y);have S5s:=S5.set 2 (.int .i64 g4);clear S5 q0 q1 q2 q3 q4 q5 q6 q7 q8 z0 z1 z2 z3 z4 z5 z6 z7 z8;generalize v5.setCell _ _=u5w at *;have hn:=(zbZ h3).1;have hyb:=zc S5s.y;have hxb:=zc S5s.x;have hgb:=S5s.gr.size;have H6:=HI r s l6 p n _ S5s.rd (by omega) (by omega) (by omega);rcases h6:zcc (zy f) n p l6 with _|⟨⟨ts,p2⟩,l7⟩
 ·rw [h6]at H6 HD
  go_wp2_with (go_at_call 178;refine H6.mono ?_;rintro e v6 ⟨rfl,hg6⟩);exact⟨rfl,by rw [<-HQ.out,HD.out];exact⟨rfl,zk S5s.gr hg6⟩⟩
 rw [h6]at H6 HD;rw [zzq0]at HD;go_upto_region 15 with(go_at_call 178;refine H6.mono ?_;rintro e v6 ⟨⟨so,c,rfl,hsl⟩,hr6,hg6⟩;have S6:=S5s.call hr6 hg6;clear S5s H6 hr6 hg6;have HSL:=zzH hsl;clear hsl;obtain⟨q0,q1,q2,q3,q4,q5,q6,q7,q8,z0,z1,z2,z3,z4,z5,z6,z7,z8⟩:=zg S6.y);have HSM:=zzH (HSL.out.off (OffB.set Y _ 6 (.slice so ts.length c)) hyb (zzL _));have HBX:=zzH (Nat.lt_trans S6.hY hyb);clear HSL;have S6s:=S6.set 6 (.slice so ts.length c);clear S6 q0 q1 q2 q3 q4 q5 q6 q7 q8 z0 z1 z2 z3 z4 z5 z6 z7 z8;generalize v6.setCell _ _=u6w at *;have hXY:=S6s.hY;rw [S6s.hX]at hXY;obtain⟨q0,q1,q2,q3,q4,q5,q6,q7,q8,z0,z1,z2,z3,z4,z5,z6,z7,z8⟩:=zg S6s.y;have x9:=S6s.x;rw [S6s.hX]at x9;obtain⟨x0,x1,x2,x3,x4,x5,x6,x7,x8,y0,y1,y2,y3,y4,y5,y6,y7,y8⟩:=zg x9;clear x9;go_wp2_with fail;refine zzj (results_cell_row rfl _ _ w.heap.size _ _ _ _ rfl (zcq _ _ _ _ _ _ _ _ _ S6s.x) Tryz.underlying55 rfl (by kernel_rfl)) rfl ?_;rw [<-HQ.out,HD.out];exact⟨⟨so,c,rfl,so,c,rfl,HSM.out.off (OffB.nine _ _ _ _ _ _ _ _ _ _ _) HBX.out hgb⟩,(S6s.fin _ _ _ _ _ _ _ _ _).1,(S6s.fin _ _ _ _ _ _ _ _ _).2⟩
def zqx (f:Nat):Prop:= ∀(r:Nat) (s:ByteArray) (l:List UInt8) (p:Nat) (w:World),RdL r s l p w->p<=2000->2000<=p+f ->
 Calls Tryz.prog 181 #[.pointer (some ⟨r,0,none⟩)] w (zbv r s (f+1) w (zc0 (zy f) p l))
theorem zqK (f:Nat) (HI:zgn f):zqx f:=by
 intro r s l p w h hp hpf;rcases hx:zH l with _|⟨n,l1⟩
 ·have HD:Hid (zc0 (zy f) p l=none):=zzH (by unfold zc0;rw [hx];rfl)
  have HB:=fun wx (hh:RdL r s l p wx)=>zbI r s l p wx hh
  rw [hx]at HB;have S0:=StO.start h;go_in;go_wp2_with (go_at_call 173;refine(HB _ (h.grown_new _)).mono ?_;rintro e v0 ⟨rfl,hg0⟩);exact⟨rfl,by rw [HD.out];exact⟨rfl,zk S0.gr hg0⟩⟩
 by_cases c1:n=113
 ·subst c1;exact zqg f r s l p w h ⟨l1,hx⟩
 by_cases c2:n=112
 ·subst c2;exact zok f r s l p w h HI hp hpf ⟨l1,hx⟩
 have HD:Hid (zc0 (zy f) p l=none):=zzH (by unfold zc0;rw [hx,zzq0,if_neg c1,if_neg c2]);have HB:=fun wx (hh:RdL r s l p wx)=>zbI r s l p wx hh
 rw [hx]at HB;have S0:=StO.start h;have n1:((n:Int)==113)=false:=zzB.2 (by omega);have n2:((n:Int)==112)=false:=zzB.2 (by omega);go_in;go_wp2_with (go_at_call 173;refine(HB _ (h.grown_new _)).mono ?_;rintro e v0 ⟨rfl,hr0,hg0⟩);exact⟨rfl,by rw [HD.out];exact⟨rfl,zk S0.gr hg0⟩⟩
theorem zso (f r:Nat) (s:ByteArray) (l:List UInt8) (p:Nat) (w:World) (h:RdL r s l p w) (hp:p+1<=2000) (hx: ∃l1,zH l=some (97,l1)):
  Calls Tryz.prog 151 #[.pointer (some ⟨r,0,none⟩)] w (zbv r s (f+1) w (zy (f+1) p l)):=by
 generalize hQ:zbv r s (f+1) w (zy (f+1) p l)=Q at *;have HQ:=zzH hQ;clear hQ;obtain⟨l1,hx⟩:=hx;have HD:Hid (zy (f+1) p l=(zH l1).bind fun x=>some ((tmK 1 (int:=x.1),p+1),x.2)):=zzH (by unfold zy;rw [if_pos hp,hx,zzq0];rfl);have hle:decide ((p:Int)+1<=2000)=true:=zzT (by omega);have S0:=StO.start h;unfold zC at S0;go_in;go_upto_region 1 with fail;generalize w.alloc _=w0 at *;obtain⟨c2,f2⟩:=S0.rd.parts;go_upto_region 2 with fail;have S1:=S0.parts;clear S0 c2 f2;generalize w0.setCell _ _=w1 at *;obtain⟨c2,f2⟩:=S1.rd.parts;rw [show((p+1:Nat):Int)=(p:Int)+1 by omega]at c2;have HB:=zbI r s l (p+1) w1 S1.rd;rw [hx]at HB;go_wp2_with (first|(go_at_call 152;refine(zW _ _).mono ?_;rintro e w2 ⟨rfl,rfl⟩)|(go_at_call 173;refine HB.mono ?_;rintro e v0 ⟨rfl,hr0,hg0⟩;have S0:=S1.call hr0 hg0;clear S1 hr0 hg0 HB c2 f2 hle));have H1:=zbI r s l1 (p+1) _ S0.rd;rcases h1:zH l1 with _|⟨n,l2⟩
 ·exact zz100
 rw [h1]at H1 HD;rw [zzq0]at HD;go_wp2_with (first|(go_at_call 173;refine H1.mono ?_;rintro e v1 ⟨rfl,hr1,hg1⟩;have S1:=S0.call hr1 hg1;clear S0 H1 hr1 hg1)|(go_at_call 174;refine(zh5 _ _).mono ?_;rintro e t1 ⟨rfl,hb⟩;have S9:=S1.below hb;clear S1 hb;obtain⟨x0,x1,x2,x3,x4,x5,x6,x7,x8,y0,y1,y2,y3,y4,y5,y6,y7,y8⟩:=zg S9.x));refine zzj (results_cell_row rfl _ _ w.heap.size _ _ _ _ rfl (zcq _ _ _ _ _ _ _ _ _ S9.x) Tryz.underlying55 rfl (by kernel_rfl)) rfl ?_;rw [<-HQ.out,HD.out];exact⟨⟨none,0,rfl,none,0,rfl,.inl rfl⟩,(S9.fin _ _ _ _ _ _ _ _ _).1,(S9.fin _ _ _ _ _ _ _ _ _).2⟩
theorem zp8 (f r:Nat) (s:ByteArray) (l:List UInt8) (p:Nat) (w:World) (h:RdL r s l p w) (hp:p+1<=2000) (hx: ∃l1,zH l=some (110,l1)):
  Calls Tryz.prog 151 #[.pointer (some ⟨r,0,none⟩)] w (zbv r s (f+1) w (zy (f+1) p l)):=by
 generalize hQ:zbv r s (f+1) w (zy (f+1) p l)=Q at *;have HQ:=zzH hQ;clear hQ;obtain⟨l1,hx⟩:=hx;have HD:Hid (zy (f+1) p l=(zdO l1).bind fun x=>some ((tmK 1 (int:=x.1),p+1),x.2)):=zzH (by unfold zy;rw [if_pos hp,hx,zzq0];rfl);have hle:decide ((p:Int)+1<=2000)=true:=zzT (by omega);have S0:=StO.start h;unfold zC at S0;go_in;go_upto_region 1 with fail;generalize w.alloc _=w0 at *;obtain⟨c2,f2⟩:=S0.rd.parts;go_upto_region 2 with fail;have S1:=S0.parts;clear S0 c2 f2;generalize w0.setCell _ _=w1 at *;obtain⟨c2,f2⟩:=S1.rd.parts;rw [show((p+1:Nat):Int)=(p:Int)+1 by omega]at c2;have HB:=zbI r s l (p+1) w1 S1.rd;rw [hx]at HB;go_wp2_with (first|(go_at_call 152;refine(zW _ _).mono ?_;rintro e w2 ⟨rfl,rfl⟩)|(go_at_call 173;refine HB.mono ?_;rintro e v0 ⟨rfl,hr0,hg0⟩;have S0:=S1.call hr0 hg0;clear S1 hr0 hg0 HB c2 f2 hle));have H1:=ztF r s l1 (p+1) _ S0.rd;rcases h1:zdO l1 with _|⟨n,l2⟩
 ·rw [h1]at H1 HD
  go_wp2_with (go_at_call 176;refine H1.mono ?_;rintro e v1 ⟨rfl,hg1⟩);exact zz206
 rw [h1]at H1 HD;rw [zzq0]at HD;go_wp2_with (first|(go_at_call 176;refine H1.mono ?_;rintro e v1 ⟨rfl,hr1,hg1⟩;have S1:=S0.call hr1 hg1;clear S0 H1 hr1 hg1)|(go_at_call 174;refine(zh5 _ _).mono ?_;rintro e t1 ⟨rfl,hb⟩;have S9:=S1.below hb;clear S1 hb;obtain⟨x0,x1,x2,x3,x4,x5,x6,x7,x8,y0,y1,y2,y3,y4,y5,y6,y7,y8⟩:=zg S9.x));refine zzj (results_cell_row rfl _ _ w.heap.size _ _ _ _ rfl (zcq _ _ _ _ _ _ _ _ _ S9.x) Tryz.underlying55 rfl (by kernel_rfl)) rfl ?_;rw [<-HQ.out,HD.out];exact⟨⟨none,0,rfl,none,0,rfl,.inl rfl⟩,(S9.fin _ _ _ _ _ _ _ _ _).1,(S9.fin _ _ _ _ _ _ _ _ _).2⟩
theorem zql (f r:Nat) (s:ByteArray) (l:List UInt8) (p:Nat) (w:World) (h:RdL r s l p w) (hp:p+1<=2000) (hx: ∃l1,zH l=some (106,l1)):
  Calls Tryz.prog 151 #[.pointer (some ⟨r,0,none⟩)] w (zbv r s (f+1) w (zy (f+1) p l)):=by
 generalize hQ:zbv r s (f+1) w (zy (f+1) p l)=Q at *;have HQ:=zzH hQ;clear hQ;obtain⟨l1,hx⟩:=hx;have HD:Hid (zy (f+1) p l=some ((tmK 8,p+1),l1)):=zzH (by unfold zy;rw [if_pos hp,hx,zzq0];rfl);have hle:decide ((p:Int)+1<=2000)=true:=zzT (by omega);have S0:=StO.start h;unfold zC at S0;go_in;go_upto_region 1 with fail;generalize w.alloc _=w0 at *;obtain⟨c2,f2⟩:=S0.rd.parts;go_upto_region 2 with fail;have S1:=S0.parts;clear S0 c2 f2;generalize w0.setCell _ _=w1 at *;obtain⟨c2,f2⟩:=S1.rd.parts;rw [show((p+1:Nat):Int)=(p:Int)+1 by omega]at c2;have HB:=zbI r s l (p+1) w1 S1.rd;rw [hx]at HB;go_wp2_with (first|(go_at_call 152;refine(zW _ _).mono ?_;rintro e w2 ⟨rfl,rfl⟩)|(go_at_call 173;refine HB.mono ?_;rintro e v0 ⟨rfl,hr0,hg0⟩;have S0:=S1.call hr0 hg0;clear S1 hr0 hg0 HB c2 f2 hle)|(go_at_call 179;refine(zrB _).mono ?_;rintro e t1 ⟨rfl,hb⟩;have S9:=S0.below hb;clear S0 hb;obtain⟨x0,x1,x2,x3,x4,x5,x6,x7,x8,y0,y1,y2,y3,y4,y5,y6,y7,y8⟩:=zg S9.x));refine zzj (results_cell_row rfl _ _ w.heap.size _ _ _ _ rfl (zcq _ _ _ _ _ _ _ _ _ S9.x) Tryz.underlying55 rfl (by kernel_rfl)) rfl ?_;rw [<-HQ.out,HD.out];exact⟨⟨none,0,rfl,none,0,rfl,.inl rfl⟩,(S9.fin _ _ _ _ _ _ _ _ _).1,(S9.fin _ _ _ _ _ _ _ _ _).2⟩
theorem zqN (f r:Nat) (s:ByteArray) (l:List UInt8) (p:Nat) (w:World) (h:RdL r s l p w) (hp:p+1<=2000) (hx: ∃l1,zH l=some (119,l1)):
  Calls Tryz.prog 151 #[.pointer (some ⟨r,0,none⟩)] w (zbv r s (f+1) w (zy (f+1) p l)):=by
 generalize hQ:zbv r s (f+1) w (zy (f+1) p l)=Q at *;have HQ:=zzH hQ;clear hQ;obtain⟨l1,hx⟩:=hx;have HD:Hid (zy (f+1) p l=(zH l1).bind fun x=>(zcz x.1 x.2).bind fun y=>some ((tmK 2 (name:=y.1),p+1),y.2)):=zzH (by unfold zy;rw [if_pos hp,hx,zzq0];rfl);have hle:decide ((p:Int)+1<=2000)=true:=zzT (by omega);have S0:=StO.start h;unfold zC at S0;go_in;go_upto_region 1 with fail;generalize w.alloc _=w0 at *;obtain⟨c2,f2⟩:=S0.rd.parts;go_upto_region 2 with fail;have S1:=S0.parts;clear S0 c2 f2;generalize w0.setCell _ _=w1 at *;obtain⟨c2,f2⟩:=S1.rd.parts;rw [show((p+1:Nat):Int)=(p:Int)+1 by omega]at c2;have HB:=zbI r s l (p+1) w1 S1.rd;rw [hx]at HB;go_wp2_with (first|(go_at_call 152;refine(zW _ _).mono ?_;rintro e w2 ⟨rfl,rfl⟩)|(go_at_call 173;refine HB.mono ?_;rintro e v0 ⟨rfl,hr0,hg0⟩;have S0:=S1.call hr0 hg0;clear S1 hr0 hg0 HB c2 f2 hle));have H1:=zbI r s l1 (p+1) _ S0.rd;rcases h1:zH l1 with _|⟨n,l2⟩
 ·exact zz100
 rw [h1]at H1 HD;rw [zzq0]at HD;go_wp2_with (go_at_call 173;refine H1.mono ?_;rintro e v1 ⟨rfl,hr1,hg1⟩;have S1:=S0.call hr1 hg1;clear S0 H1 hr1 hg1);have hn:=(zbZ h1).1;have H2:=zg5 r s l2 (p+1) n _ S1.rd (by omega);rcases h2:zcz n l2 with _|⟨b,l3⟩
 ·exact zz101
 rw [h2]at H2 HD;rw [zzq0]at HD;go_wp2_with (go_at_call 177;refine H2.mono ?_;rintro e v2 ⟨rfl,hr2,hg2⟩;have S2:=S1.call hr2 hg2;clear S1 H2 hr2 hg2;obtain⟨x0,x1,x2,x3,x4,x5,x6,x7,x8,y0,y1,y2,y3,y4,y5,y6,y7,y8⟩:=zg S2.x);refine zzj (results_cell_row rfl _ _ w.heap.size _ _ _ _ rfl (zcq _ _ _ _ _ _ _ _ _ S2.x) Tryz.underlying55 rfl (by kernel_rfl)) rfl ?_;rw [<-HQ.out,HD.out];exact⟨⟨none,0,rfl,none,0,rfl,.inl rfl⟩,(S2.fin _ _ _ _ _ _ _ _ _).1,(S2.fin _ _ _ _ _ _ _ _ _).2⟩
theorem zqY (f r:Nat) (s:ByteArray) (l:List UInt8) (p:Nat) (w:World) (h:RdL r s l p w) (hp:p+1<=2000) (HI:zgn f) (hpf:2000<=p+1+f) (hx: ∃l1,zH l=some (104,l1)):
  Calls Tryz.prog 151 #[.pointer (some ⟨r,0,none⟩)] w (zbv r s (f+1) w (zy (f+1) p l)):=by
 generalize hQ:zbv r s (f+1) w (zy (f+1) p l)=Q at *;have HQ:=zzH hQ;clear hQ;obtain⟨l1,hx⟩:=hx;have HD:Hid (zy (f+1) p l=(zH l1).bind fun x=>(zcc (zy f) x.1 (p+1) x.2).bind fun y=>some ((tmK 7 (items:=y.1.1),y.1.2),y.2)):=zzH (by unfold zy;rw [if_pos hp,hx,zzq0];rfl);have hle:decide ((p:Int)+1<=2000)=true:=zzT (by omega);have S0:=StO.start h;unfold zC at S0;go_in;go_upto_region 1 with fail;generalize w.alloc _=w0 at *;obtain⟨c2,f2⟩:=S0.rd.parts;go_upto_region 2 with fail;have S1:=S0.parts;clear S0 c2 f2;generalize w0.setCell _ _=w1 at *;obtain⟨c2,f2⟩:=S1.rd.parts;rw [show((p+1:Nat):Int)=(p:Int)+1 by omega]at c2;have HB:=zbI r s l (p+1) w1 S1.rd;rw [hx]at HB;go_wp2_with (first|(go_at_call 152;refine(zW _ _).mono ?_;rintro e w2 ⟨rfl,rfl⟩)|(go_at_call 173;refine HB.mono ?_;rintro e v0 ⟨rfl,hr0,hg0⟩;have S0:=S1.call hr0 hg0;clear S1 hr0 hg0 HB c2 f2 hle));have H1:=zbI r s l1 (p+1) _ S0.rd;rcases h1:zH l1 with _|⟨n,l2⟩
 ·exact zz100
 rw [h1]at H1 HD;rw [zzq0]at HD;go_wp2_with (go_at_call 173;refine H1.mono ?_;rintro e v1 ⟨rfl,hr1,hg1⟩;have S1:=S0.call hr1 hg1;clear S0 H1 hr1 hg1);have hn:=(zbZ h1).1;have hxb:=zc S1.x;have hgb:=S1.gr.size;have H2:=HI r s l2 (p+1) n _ S1.rd (by omega) (by omega) (by omega);rcases h2:zcc (zy f) n (p+1) l2 with _|⟨⟨ts,p2⟩,l3⟩
 ·exact zz102
 rw [h2]at H2 HD;rw [zzq0]at HD;go_wp2_with (go_at_call 178;refine H2.mono ?_;rintro e v2 ⟨⟨so,c,rfl,hsl⟩,hr2,hg2⟩;have S2:=S1.call hr2 hg2;clear S1 H2 hr2 hg2;have HSL:=zzH hsl;clear hsl;obtain⟨x0,x1,x2,x3,x4,x5,x6,x7,x8,y0,y1,y2,y3,y4,y5,y6,y7,y8⟩:=zg S2.x);refine zzj (results_cell_row rfl _ _ w.heap.size _ _ _ _ rfl (zcq _ _ _ _ _ _ _ _ _ S2.x) Tryz.underlying55 rfl (by kernel_rfl)) rfl ?_;rw [<-HQ.out,HD.out];exact⟨⟨so,c,rfl,so,c,rfl,HSL.out.off (OffB.nine _ _ _ _ _ _ _ _ _ _ _) hxb hgb⟩,(S2.fin _ _ _ _ _ _ _ _ _).1,(S2.fin _ _ _ _ _ _ _ _ _).2⟩
theorem zrU (f r:Nat) (s:ByteArray) (l:List UInt8) (p:Nat) (w:World) (h:RdL r s l p w) (hp:p+1<=2000) (HI:zgn f) (hpf:2000<=p+1+f) (hx: ∃l1,zH l=some (108,l1)):
  Calls Tryz.prog 151 #[.pointer (some ⟨r,0,none⟩)] w (zbv r s (f+1) w (zy (f+1) p l)):=by
 generalize hQ:zbv r s (f+1) w (zy (f+1) p l)=Q at *;have HQ:=zzH hQ;clear hQ;obtain⟨l1,hx⟩:=hx;have HD:Hid (zy (f+1) p l=(zbz 4 l1).bind fun x=>(zcc (zy f) (x.1+1) (p+1) x.2).bind fun y=>some ((tmK 9 (items:=y.1.1),y.1.2),y.2)):=zzH (by unfold zy;rw [if_pos hp,hx,zzq0];rfl);have hle:decide ((p:Int)+1<=2000)=true:=zzT (by omega);have S0:=StO.start h;unfold zC at S0;go_in;go_upto_region 1 with fail;generalize w.alloc _=w0 at *;obtain⟨c2,f2⟩:=S0.rd.parts;go_upto_region 2 with fail;have S1:=S0.parts;clear S0 c2 f2;generalize w0.setCell _ _=w1 at *;obtain⟨c2,f2⟩:=S1.rd.parts;rw [show((p+1:Nat):Int)=(p:Int)+1 by omega]at c2;have HB:=zbI r s l (p+1) w1 S1.rd;rw [hx]at HB;go_wp2_with (first|(go_at_call 152;refine(zW _ _).mono ?_;rintro e w2 ⟨rfl,rfl⟩)|(go_at_call 173;refine HB.mono ?_;rintro e v0 ⟨rfl,hr0,hg0⟩;have S0:=S1.call hr0 hg0;clear S1 hr0 hg0 HB c2 f2 hle));have H1:=zcX r s l1 (p+1) 4 _ S0.rd (by omega);rcases h1:zbz 4 l1 with _|⟨n,l2⟩
 ·exact zz103
 rw [h1]at H1 HD;rw [zzq0]at HD;have hn:=(zcy h1).1;rw [show(256:Nat)^4=4294967296 from rfl]at hn;go_wp2_with (go_at_call 175;refine H1.mono ?_;rintro e v1 ⟨rfl,hr1,hg1⟩;have S1:=S0.call hr1 hg1;clear S0 H1 hr1 hg1);have hxb:=zc S1.x;have hgb:=S1.gr.size;have H2:=HI r s l2 (p+1) (n+1) _ S1.rd (by omega) (by omega) (by omega);rw [show((n+1:Nat):Int)=(n:Int)+1 by omega]at H2;rcases h2:zcc (zy f) (n+1) (p+1) l2 with _|⟨⟨ts,p2⟩,l3⟩
 ·exact zz102
 rw [h2]at H2 HD;rw [zzq0]at HD;go_wp2_with (go_at_call 178;refine H2.mono ?_;rintro e v2 ⟨⟨so,c,rfl,hsl⟩,hr2,hg2⟩;have S2:=S1.call hr2 hg2;clear S1 H2 hr2 hg2;have HSL:=zzH hsl;clear hsl;obtain⟨x0,x1,x2,x3,x4,x5,x6,x7,x8,y0,y1,y2,y3,y4,y5,y6,y7,y8⟩:=zg S2.x);refine zzj (results_cell_row rfl _ _ w.heap.size _ _ _ _ rfl (zcq _ _ _ _ _ _ _ _ _ S2.x) Tryz.underlying55 rfl (by kernel_rfl)) rfl ?_;rw [<-HQ.out,HD.out];exact⟨⟨so,c,rfl,so,c,rfl,HSL.out.off (OffB.nine _ _ _ _ _ _ _ _ _ _ _) hxb hgb⟩,(S2.fin _ _ _ _ _ _ _ _ _).1,(S2.fin _ _ _ _ _ _ _ _ _).2⟩
theorem zqf (f r:Nat) (s:ByteArray) (l:List UInt8) (p:Nat) (w:World) (h:RdL r s l p w) (hp:p+1<=2000) (hx: ∃l1,zH l=some (109,l1)):
  Calls Tryz.prog 151 #[.pointer (some ⟨r,0,none⟩)] w (zbv r s (f+1) w (zy (f+1) p l)):=by
 generalize hQ:zbv r s (f+1) w (zy (f+1) p l)=Q at *;have HQ:=zzH hQ;clear hQ;obtain⟨l1,hx⟩:=hx;have HD:Hid (zy (f+1) p l=(zbz 4 l1).bind fun x=>(zcz x.1 x.2).bind fun y=>some ((tmK 10 (bytes:=y.1) (bits:=8*(y.1.size:Int)),p+1),y.2)):=zzH (by unfold zy;rw [if_pos hp,hx,zzq0];rfl);have hle:decide ((p:Int)+1<=2000)=true:=zzT (by omega);have S0:=StO.start h;unfold zC at S0;go_in;go_upto_region 1 with fail;generalize w.alloc _=w0 at *;obtain⟨c2,f2⟩:=S0.rd.parts;go_upto_region 2 with fail;have S1:=S0.parts;clear S0 c2 f2;generalize w0.setCell _ _=w1 at *;obtain⟨c2,f2⟩:=S1.rd.parts;rw [show((p+1:Nat):Int)=(p:Int)+1 by omega]at c2;have HB:=zbI r s l (p+1) w1 S1.rd;rw [hx]at HB;go_wp2_with (first|(go_at_call 152;refine(zW _ _).mono ?_;rintro e w2 ⟨rfl,rfl⟩)|(go_at_call 173;refine HB.mono ?_;rintro e v0 ⟨rfl,hr0,hg0⟩;have S0:=S1.call hr0 hg0;clear S1 hr0 hg0 HB c2 f2 hle));have H1:=zcX r s l1 (p+1) 4 _ S0.rd (by omega);rcases h1:zbz 4 l1 with _|⟨n,l2⟩
 ·exact zz103
 rw [h1]at H1 HD;rw [zzq0]at HD;go_wp2_with (go_at_call 175;refine H1.mono ?_;rintro e v1 ⟨rfl,hr1,hg1⟩;have S1:=S0.call hr1 hg1;clear S0 H1 hr1 hg1);have hn:=(zcy h1).1;rw [show(256:Nat)^4=4294967296 from rfl]at hn;have H2:=zg5 r s l2 (p+1) n _ S1.rd (by omega);rcases h2:zcz n l2 with _|⟨b,l3⟩
 ·exact zz101
 rw [h2]at H2 HD;rw [zzq0]at HD;have hb:=(zfW h2).1;have hw8:IntKind.i64.wrap (8*(b.size:Int))=8*(b.size:Int):=by rw [zzq5];omega
 clear hb;go_wp2_with (go_at_call 177;refine H2.mono ?_;rintro e v2 ⟨rfl,hr2,hg2⟩;have S2:=S1.call hr2 hg2;clear S1 H2 hr2 hg2;obtain⟨x0,x1,x2,x3,x4,x5,x6,x7,x8,y0,y1,y2,y3,y4,y5,y6,y7,y8⟩:=zg S2.x);refine zzj (results_cell_row rfl _ _ w.heap.size _ _ _ _ rfl (zcq _ _ _ _ _ _ _ _ _ S2.x) Tryz.underlying55 rfl (by kernel_rfl)) rfl ?_;rw [<-HQ.out,HD.out];exact⟨⟨none,0,rfl,none,0,rfl,.inl rfl⟩,(S2.fin _ _ _ _ _ _ _ _ _).1,(S2.fin _ _ _ _ _ _ _ _ _).2⟩
theorem zte (f r:Nat) (s:ByteArray) (l:List UInt8) (p:Nat) (w:World) (h:RdL r s l p w) (hp:p+1<=2000) (hx: ∃l1,zH l=some (77,l1)):
  Calls Tryz.prog 151 #[.pointer (some ⟨r,0,none⟩)] w (zbv r s (f+1) w (zy (f+1) p l)):=by
 generalize hQ:zbv r s (f+1) w (zy (f+1) p l)=Q at *;have HQ:=zzH hQ;clear hQ;obtain⟨l1,hx⟩:=hx;have HD:Hid (zy (f+1) p l=(zbz 4 l1).bind fun x=>(zH x.2).bind fun y=>if 0<x.1/\0<y.1/\y.1<8 then(zcz x.1 y.2).bind fun z=>some ((tmK 10 (bytes:=z.1) (bits:=8*((x.1:Int)-1)+y.1),p+1),z.2)else none):=zzH (by unfold zy;rw [if_pos hp,hx,zzq0];rfl);have hle:decide ((p:Int)+1<=2000)=true:=zzT (by omega);have S0:=StO.start h;unfold zC at S0;go_in;go_upto_region 1 with fail;generalize w.alloc _=w0 at *;obtain⟨c2,f2⟩:=S0.rd.parts;go_upto_region 2 with fail;have S1:=S0.parts;clear S0 c2 f2;generalize w0.setCell _ _=w1 at *;obtain⟨c2,f2⟩:=S1.rd.parts;rw [show((p+1:Nat):Int)=(p:Int)+1 by omega]at c2;have HB:=zbI r s l (p+1) w1 S1.rd;rw [hx]at HB;go_wp2_with (first|(go_at_call 152;refine(zW _ _).mono ?_;rintro e w2 ⟨rfl,rfl⟩)|(go_at_call 173;refine HB.mono ?_;rintro e v0 ⟨rfl,hr0,hg0⟩;have S0:=S1.call hr0 hg0;clear S1 hr0 hg0 HB c2 f2 hle));have H1:=zcX r s l1 (p+1) 4 _ S0.rd (by omega);rcases h1:zbz 4 l1 with _|⟨n,l2⟩
 ·exact zz103
 rw [h1]at H1 HD;rw [zzq0]at HD;go_wp2_with (go_at_call 175;refine H1.mono ?_;rintro e v1 ⟨rfl,hr1,hg1⟩;have S1:=S0.call hr1 hg1;clear S0 H1 hr1 hg1);have hn:=(zcy h1).1;rw [show(256:Nat)^4=4294967296 from rfl]at hn;have H2:=zbI r s l2 (p+1) _ S1.rd;rcases h2:zH l2 with _|⟨m,l3⟩
 ·rw [h2]at H2 HD
  go_wp2_with (go_at_call 173;refine H2.mono ?_;rintro e v2 ⟨rfl,hg2⟩);exact zz105
 rw [h2]at H2 HD;rw [zzq0]at HD;have hm:=(zbZ h2).1;by_cases cc:0<n/\0<m/\m<8
 case neg=>
  rw [if_neg cc]at HD;have HC:=zzH cc;clear cc;by_cases c1:0<n
  ·by_cases c2:0<m
   ·have c3: ¬m<8:=fun e=>HC.out ⟨c1,c2,e⟩
    have k1:(n:Int)>0:=by omega
    have k2:(m:Int)>0:=by omega
    have k3:decide ((m:Int)<8)=false:=zzD (by omega);clear c1 c2 c3;exact zz104
   ·have k1:(n:Int)>0:=by omega
    have k2: ¬(m:Int)>0:=by omega
    clear c1 c2;exact zz104
  ·have k1: ¬(n:Int)>0:=by omega
   clear c1;exact zz104
 rw [if_pos cc]at HD;obtain⟨c1,c2,c3⟩:=cc;have k1:(n:Int)>0:=by omega
 have k2:(m:Int)>0:=by omega
 have k3:decide ((m:Int)<8)=true:=zzT (by omega);go_wp2_with (go_at_call 173;refine H2.mono ?_;rintro e v2 ⟨rfl,hr2,hg2⟩;have S2:=S1.call hr2 hg2;clear S1 H2 hr2 hg2);go_wp2_with (go_at_call 152;refine(zW _ _).mono ?_;rintro e d2 ⟨rfl,rfl⟩);clear k1 k2 k3;have H3:=zg5 r s l3 (p+1) n _ S2.rd (by omega);rcases h3:zcz n l3 with _|⟨b,l4⟩
 ·rw [h3]at H3 HD
  go_wp2_with (go_at_call 177;refine H3.mono ?_;rintro e v3 ⟨rfl,hg3⟩);exact zz106
 rw [h3]at H3 HD;rw [zzq0]at HD;go_wp2_with (go_at_call 177;refine H3.mono ?_;rintro e v3 ⟨rfl,hr3,hg3⟩;have S3:=S2.call hr3 hg3;clear S2 H3 hr3 hg3;obtain⟨x0,x1,x2,x3,x4,x5,x6,x7,x8,y0,y1,y2,y3,y4,y5,y6,y7,y8⟩:=zg S3.x);refine zzj (results_cell_row rfl _ _ w.heap.size _ _ _ _ rfl (zcq _ _ _ _ _ _ _ _ _ S3.x) Tryz.underlying55 rfl (by kernel_rfl)) rfl ?_;rw [<-HQ.out,HD.out];exact⟨⟨none,0,rfl,none,0,rfl,.inl rfl⟩,(S3.fin _ _ _ _ _ _ _ _ _).1,(S3.fin _ _ _ _ _ _ _ _ _).2⟩
theorem zsL (f r:Nat) (s:ByteArray) (l:List UInt8) (p:Nat) (w:World) (h:RdL r s l p w) (hp:p+1<=2000) (hx: ∃l1,zH l=some (88,l1)):
  Calls Tryz.prog 151 #[.pointer (some ⟨r,0,none⟩)] w (zbv r s (f+1) w (zy (f+1) p l)):=by
 generalize hQ:zbv r s (f+1) w (zy (f+1) p l)=Q at *;have HQ:=zzH hQ;clear hQ;obtain⟨l1,hx⟩:=hx;have HD:Hid (zy (f+1) p l=(zck l1).bind fun x=>(zbz 4 x.2).bind fun y=>(zbz 4 y.2).bind fun z=>if z.1=0 then(zbz 4 z.2).bind fun q=>some ((tmK 6 (int:=y.1) (gen:=q.1) (name:=x.1),p+1),q.2)else none):=zzH (by unfold zy;rw [if_pos hp,hx,zzq0];rfl);have hle:decide ((p:Int)+1<=2000)=true:=zzT (by omega);have S0:=StO.start h;unfold zC at S0;go_in;go_upto_region 1 with fail;generalize w.alloc _=w0 at *;obtain⟨c2,f2⟩:=S0.rd.parts;go_upto_region 2 with fail;have S1:=S0.parts;clear S0 c2 f2;generalize w0.setCell _ _=w1 at *;obtain⟨c2,f2⟩:=S1.rd.parts;rw [show((p+1:Nat):Int)=(p:Int)+1 by omega]at c2;have HB:=zbI r s l (p+1) w1 S1.rd;rw [hx]at HB;go_wp2_with (first|(go_at_call 152;refine(zW _ _).mono ?_;rintro e w2 ⟨rfl,rfl⟩)|(go_at_call 173;refine HB.mono ?_;rintro e v0 ⟨rfl,hr0,hg0⟩;have S0:=S1.call hr0 hg0;clear S1 hr0 hg0 HB c2 f2 hle));have H1:=zg4 r s l1 (p+1) _ S0.rd;rcases h1:zck l1 with _|⟨nm,l2⟩
 ·exact zz98
 rw [h1]at H1 HD;rw [zzq0]at HD;go_wp2_with (go_at_call 180;refine H1.mono ?_;rintro e v1 ⟨rfl,hr1,hg1⟩;have S1:=S0.call hr1 hg1;clear S0 H1 hr1 hg1);have H2:=zcX r s l2 (p+1) 4 _ S1.rd (by omega);rcases h2:zbz 4 l2 with _|⟨i4,l3⟩
 ·rw [h2]at H2 HD
  go_wp2_with (go_at_call 175;refine H2.mono ?_;rintro e v2 ⟨rfl,hg2⟩);exact zz105
 rw [h2]at H2 HD;rw [zzq0]at HD;go_wp2_with (go_at_call 175;refine H2.mono ?_;rintro e v2 ⟨rfl,hr2,hg2⟩;have S2:=S1.call hr2 hg2;clear S1 H2 hr2 hg2);have S2n:=S2.new #[.int .i64 6,.int .i64 i4,.int .i64 0,.string nm,.string ⟨#[]⟩,.int .i64 0,.slice none 0 0,.string ⟨#[]⟩,.int .i64 0];clear S2;generalize v2.alloc _=u2w at *;generalize v2.heap.size=Y at *;have H3:=zcX r s l3 (p+1) 4 _ S2n.rd (by omega);rcases h3:zbz 4 l3 with _|⟨z4,l4⟩
 ·rw [h3]at H3 HD
  go_wp2_with (go_at_call 175;refine H3.mono ?_;rintro e v3 ⟨rfl,hg3⟩);exact⟨rfl,by rw [<-HQ.out,HD.out];exact⟨rfl,zk S2n.gr hg3⟩⟩
 rw [h3]at H3 HD;rw [zzq0]at HD;by_cases c:z4=0
 case neg=>
  rw [if_neg c]at HD;have hne:((z4:Int)==0)=false:=zzB.2 (by omega);go_wp2_with (go_at_call 175;refine H3.mono ?_;rintro e v3 ⟨rfl,hr3,hg3⟩);go_wp2_with (go_at_call 152;refine(zco _ _).mono ?_;rintro e d3 ⟨rfl,rfl⟩);exact⟨rfl,by rw [<-HQ.out,HD.out];exact⟨rfl,zk S2n.gr hg3⟩⟩
 subst c;rw [if_pos rfl]at HD;go_wp2_with (go_at_call 175;refine H3.mono ?_;rintro e v3 ⟨rfl,hr3,hg3⟩;have S3:=S2n.call hr3 hg3;clear S2n H3 hr3 hg3);go_wp2_with (go_at_call 152;refine(zW _ _).mono ?_;rintro e d3 ⟨rfl,rfl⟩);have H4:=zcX r s l4 (p+1) 4 _ S3.rd (by omega);rcases h4:zbz 4 l4 with _|⟨g4,l5⟩
 ·rw [h4]at H4 HD
  go_wp2_with (go_at_call 175;refine H4.mono ?_;rintro e v4 ⟨rfl,hg4⟩);exact zz99
 rw [h4]at H4 HD;rw [zzq0]at HD;go_upto_region 31 with(go_at_call 175;refine H4.mono ?_;rintro e v4 ⟨rfl,hr4,hg4⟩;have S4:=S3.call hr4 hg4;clear S3 H4 hr4 hg4;obtain⟨q0,q1,q2,q3,q4,q5,q6,q7,q8,z0,z1,z2,z3,z4,z5,z6,z7,z8⟩:=zg S4.y);have S4s:=S4.set 2 (.int .i64 g4);clear S4 q0 q1 q2 q3 q4 q5 q6 q7 q8 z0 z1 z2 z3 z4 z5 z6 z7 z8;generalize v4.setCell _ _=u4w at *;have hXY:=S4s.hY;rw [S4s.hX]at hXY;obtain⟨q0,q1,q2,q3,q4,q5,q6,q7,q8,z0,z1,z2,z3,z4,z5,z6,z7,z8⟩:=zg S4s.y;have x9:=S4s.x;rw [S4s.hX]at x9;obtain⟨x0,x1,x2,x3,x4,x5,x6,x7,x8,y0,y1,y2,y3,y4,y5,y6,y7,y8⟩:=zg x9;clear x9;go_wp2_with fail;refine zzj (results_cell_row rfl _ _ w.heap.size _ _ _ _ rfl (zcq _ _ _ _ _ _ _ _ _ S4s.x) Tryz.underlying55 rfl (by kernel_rfl)) rfl ?_;rw [<-HQ.out,HD.out];exact⟨⟨none,0,rfl,none,0,rfl,.inl rfl⟩,(S4s.fin _ _ _ _ _ _ _ _ _).1,(S4s.fin _ _ _ _ _ _ _ _ _).2⟩
theorem ztf (f r:Nat) (s:ByteArray) (l:List UInt8) (p:Nat) (w:World) (h:RdL r s l p w) (hp:p+1<=2000) (hx: ∃l1,zH l=some (90,l1)):
  Calls Tryz.prog 151 #[.pointer (some ⟨r,0,none⟩)] w (zbv r s (f+1) w (zy (f+1) p l)):=by
 generalize hQ:zbv r s (f+1) w (zy (f+1) p l)=Q at *;have HQ:=zzH hQ;clear hQ;obtain⟨l1,hx⟩:=hx;have HD:Hid (zy (f+1) p l=(zbz 2 l1).bind fun x=>if x.1=1 then(zck x.2).bind fun y=>(zbz 4 y.2).bind fun z=>(zbz 4 z.2).bind fun q=>some ((tmK 3 (int:=q.1) (gen:=z.1) (name:=y.1),p+1),q.2)else none):=zzH (by unfold zy;rw [if_pos hp,hx,zzq0];rfl);have hle:decide ((p:Int)+1<=2000)=true:=zzT (by omega);have S0:=StO.start h;unfold zC at S0;go_in;go_upto_region 1 with fail;generalize w.alloc _=w0 at *;obtain⟨c2,f2⟩:=S0.rd.parts;go_upto_region 2 with fail;have S1:=S0.parts;clear S0 c2 f2;generalize w0.setCell _ _=w1 at *;obtain⟨c2,f2⟩:=S1.rd.parts;rw [show((p+1:Nat):Int)=(p:Int)+1 by omega]at c2;have HB:=zbI r s l (p+1) w1 S1.rd;rw [hx]at HB;go_wp2_with (first|(go_at_call 152;refine(zW _ _).mono ?_;rintro e w2 ⟨rfl,rfl⟩)|(go_at_call 173;refine HB.mono ?_;rintro e v0 ⟨rfl,hr0,hg0⟩;have S0:=S1.call hr0 hg0;clear S1 hr0 hg0 HB c2 f2 hle));have H1:=zcX r s l1 (p+1) 2 _ S0.rd (by omega);rcases h1:zbz 2 l1 with _|⟨z2,l2⟩
 ·exact zz103
 rw [h1]at H1 HD;rw [zzq0]at HD;by_cases c:z2=1
 case neg=>
  rw [if_neg c]at HD;have hne:((z2:Int)==1)=false:=zzB.2 (by omega);go_wp2_with (go_at_call 175;refine H1.mono ?_;rintro e v1 ⟨rfl,hr1,hg1⟩);go_wp2_with (go_at_call 152;refine(zco _ _).mono ?_;rintro e d1 ⟨rfl,rfl⟩);exact zz206
 subst c;rw [if_pos rfl]at HD;go_wp2_with (go_at_call 175;refine H1.mono ?_;rintro e v1 ⟨rfl,hr1,hg1⟩;have S1:=S0.call hr1 hg1;clear S0 H1 hr1 hg1);go_wp2_with (go_at_call 152;refine(zW _ _).mono ?_;rintro e d1 ⟨rfl,rfl⟩);have H2:=zg4 r s l2 (p+1) _ S1.rd;rcases h2:zck l2 with _|⟨nm,l3⟩
 ·rw [h2]at H2 HD
  go_wp2_with (go_at_call 180;refine H2.mono ?_;rintro e v2 ⟨rfl,hg2⟩);exact zz105
 rw [h2]at H2 HD;rw [zzq0]at HD;go_wp2_with (go_at_call 180;refine H2.mono ?_;rintro e v2 ⟨rfl,hr2,hg2⟩;have S2:=S1.call hr2 hg2;clear S1 H2 hr2 hg2);have H3:=zcX r s l3 (p+1) 4 _ S2.rd (by omega);rcases h3:zbz 4 l3 with _|⟨g4,l4⟩
 ·rw [h3]at H3 HD
  go_wp2_with (go_at_call 175;refine H3.mono ?_;rintro e v3 ⟨rfl,hg3⟩);exact zz106
 rw [h3]at H3 HD;rw [zzq0]at HD;go_wp2_with (go_at_call 175;refine H3.mono ?_;rintro e v3 ⟨rfl,hr3,hg3⟩;have S3:=S2.call hr3 hg3;clear S2 H3 hr3 hg3);have S3n:=S3.new #[.int .i64 3,.int .i64 0,.int .i64 g4,.string nm,.string ⟨#[]⟩,.int .i64 0,.slice none 0 0,.string ⟨#[]⟩,.int .i64 0];clear S3;generalize v3.alloc _=u3w at *;generalize v3.heap.size=Y at *;have H4:=zcX r s l4 (p+1) 4 _ S3n.rd (by omega);rcases h4:zbz 4 l4 with _|⟨i4,l5⟩
 ·rw [h4]at H4 HD
  go_wp2_with (go_at_call 175;refine H4.mono ?_;rintro e v4 ⟨rfl,hg4⟩);exact⟨rfl,by rw [<-HQ.out,HD.out];exact⟨rfl,zk S3n.gr hg4⟩⟩
 rw [h4]at H4 HD;rw [zzq0]at HD;go_upto_region 36 with(go_at_call 175;refine H4.mono ?_;rintro e v4 ⟨rfl,hr4,hg4⟩;have S4:=S3n.call hr4 hg4;clear S3n H4 hr4 hg4;obtain⟨q0,q1,q2,q3,q4,q5,q6,q7,q8,z0,z1,z2,z3,z4,z5,z6,z7,z8⟩:=zg S4.y);have S4s:=S4.set 1 (.int .i64 i4);clear S4 q0 q1 q2 q3 q4 q5 q6 q7 q8 z0 z1 z2 z3 z4 z5 z6 z7 z8;generalize v4.setCell _ _=u4w at *;have hXY:=S4s.hY;rw [S4s.hX]at hXY;obtain⟨q0,q1,q2,q3,q4,q5,q6,q7,q8,z0,z1,z2,z3,z4,z5,z6,z7,z8⟩:=zg S4s.y;have x9:=S4s.x;rw [S4s.hX]at x9;obtain⟨x0,x1,x2,x3,x4,x5,x6,x7,x8,y0,y1,y2,y3,y4,y5,y6,y7,y8⟩:=zg x9;clear x9;go_wp2_with fail;refine zzj (results_cell_row rfl _ _ w.heap.size _ _ _ _ rfl (zcq _ _ _ _ _ _ _ _ _ S4s.x) Tryz.underlying55 rfl (by kernel_rfl)) rfl ?_;rw [<-HQ.out,HD.out];exact⟨⟨none,0,rfl,none,0,rfl,.inl rfl⟩,(S4s.fin _ _ _ _ _ _ _ _ _).1,(S4s.fin _ _ _ _ _ _ _ _ _).2⟩
theorem zqq {n:Nat} (h:n<4294967296):wrap64 (wrap32 (n:Int))=zcg n/\ -2147483648<=zcg n/\zcg n<=2147483647:=by
 unfold zcg wrap32 wrap64;split<;>omega
theorem TmIn.sl {w:World} {P:Nat->Prop} {f:Nat} {t:Tm} {so:zzA} {c:Nat} (h:TmIn w P (f+1) (tmL t so c) t):SlIn w P 9 (TmIn w P f) so t.items:=by
 obtain⟨ao,c',e,hs⟩:=h;simp only [tmL,List.cons.injEq,Value.slice.injEq,true_and,and_true]at e;rw [e.1];exact hs
theorem StO.back {w0:World} {r:Nat} {s:ByteArray} {l l':List UInt8} {p X a:Nat} {wx:World} (h:StO w0 r s l' p X wx) (hA:RdAt r s (a+1) p wx) (ha:a<=s.size) (hal:s.data.toList.drop a=l) (hs:s.size<=9223372036854775807):StO w0 r s l p X (wx.setCell ⟨r,1,none⟩ (.int .i64 (a:Int))):=by
 have hX:=h.hX;have hr:=h.hr;have:=zzS wx r 1 _ _ (.int .i64 (a:Int)) hA;exact⟨⟨a,this,ha,hal,hs⟩,zk h.gr (zc1 _ r 1 _),(zzq10 _ _ _ _ (by simp;omega)).trans h.x,hr,hX⟩
theorem ztk (f r:Nat) (s:ByteArray) (l:List UInt8) (p:Nat) (w:World) (h:RdL r s l p w) (hp:p+1<=2000) (hx: ∃l1,zH l=some (98,l1)):
  Calls Tryz.prog 151 #[.pointer (some ⟨r,0,none⟩)] w (zbv r s (f+1) w (zy (f+1) p l)):=by
 generalize hQ:zbv r s (f+1) w (zy (f+1) p l)=Q at *;have HQ:=zzH hQ;clear hQ;obtain⟨l1,hx⟩:=hx;have HD:Hid (zy (f+1) p l=(zbz 4 l1).bind fun x=>if zcg x.1<0\/255<zcg x.1 then some ((tmK 1 (int:=zcg x.1),p+1),x.2)else none):=zzH (by unfold zy;rw [if_pos hp,hx,zzq0];rfl);have hle:decide ((p:Int)+1<=2000)=true:=zzT (by omega);have S0:=StO.start h;unfold zC at S0;go_in;go_upto_region 1 with fail;generalize w.alloc _=w0 at *;obtain⟨c2,f2⟩:=S0.rd.parts;go_upto_region 2 with fail;have S1:=S0.parts;clear S0 c2 f2;generalize w0.setCell _ _=w1 at *;obtain⟨c2,f2⟩:=S1.rd.parts;rw [show((p+1:Nat):Int)=(p:Int)+1 by omega]at c2;have HB:=zbI r s l (p+1) w1 S1.rd;rw [hx]at HB;go_wp2_with (first|(go_at_call 152;refine(zW _ _).mono ?_;rintro e w2 ⟨rfl,rfl⟩)|(go_at_call 173;refine HB.mono ?_;rintro e v0 ⟨rfl,hr0,hg0⟩;have S0:=S1.call hr0 hg0;clear S1 hr0 hg0 HB c2 f2 hle));have H1:=zcX r s l1 (p+1) 4 _ S0.rd (by omega);rcases h1:zbz 4 l1 with _|⟨n,l2⟩
 ·exact zz103
 rw [h1]at H1 HD;rw [zzq0]at HD;have hn:=(zcy h1).1;rw [show(256:Nat)^4=4294967296 from rfl]at hn;go_upto_region 8 with(go_at_call 175;refine H1.mono ?_;rintro e v1 ⟨rfl,hr1,hg1⟩;have S1:=S0.call hr1 hg1;clear S0 H1 hr1 hg1);obtain⟨e1,e2,e3⟩:=zqq hn;rw [e1];clear e1 hn;generalize zcg n=v at *;by_cases cc:v<0\/255<v
 case neg=>
  rw [if_neg cc]at HD;have k1: ¬v<0:=fun e=>cc (.inl e)
  have k2:decide (v>255)=false:=zzD (fun e=>cc (.inr e));clear cc;go_wp2_with (go_at_call 152;refine(zco _ _).mono ?_;rintro e d1 ⟨rfl,rfl⟩);exact⟨rfl,by rw [<-HQ.out,HD.out];exact⟨rfl,S1.gr⟩⟩
 rw [if_pos cc]at HD;by_cases k1:v<0
 ·exact zz107
 ·have k2:decide (v>255)=true:=zzT (cc.resolve_left k1)
  exact zz107
theorem zoI (f r:Nat) (s:ByteArray) (l:List UInt8) (p:Nat) (w:World) (h:RdL r s l p w) (hp:p+1<=2000) (HF:zqx f) (hpf:2000<=p+1+f) (n:Nat) (l1:List UInt8) (hx:zH l=some (n,l1)) (c97: ¬n=97) (c98: ¬n=98) (c110: ¬n=110) (c119: ¬n=119) (c104: ¬n=104) (c106: ¬n=106) (c108: ¬n=108) (c109: ¬n=109) (c77: ¬n=77) (c88: ¬n=88) (c90: ¬n=90):
  Calls Tryz.prog 151 #[.pointer (some ⟨r,0,none⟩)] w (zbv r s (f+1) w (zy (f+1) p l)):=by
 generalize hQ:zbv r s (f+1) w (zy (f+1) p l)=Q at *;have HQ:=zzH hQ;clear hQ;have HD:Hid (zy (f+1) p l=zc0 (zy f) (p+1) l):=zzH (by unfold zy zda;rw [if_pos hp,hx,zzq0,if_neg c97,if_neg c98,if_neg c110,if_neg c119,if_neg c104,if_neg c106,if_neg c108,if_neg c109,if_neg c77,if_neg c88,if_neg c90]);have n97:((n:Int)==97)=false:=zzB.2 (by omega);have n98:((n:Int)==98)=false:=zzB.2 (by omega);have n110:((n:Int)==110)=false:=zzB.2 (by omega);have n119:((n:Int)==119)=false:=zzB.2 (by omega);have n104:((n:Int)==104)=false:=zzB.2 (by omega);have n106:((n:Int)==106)=false:=zzB.2 (by omega);have n108:((n:Int)==108)=false:=zzB.2 (by omega);have n109:((n:Int)==109)=false:=zzB.2 (by omega);have n77:((n:Int)==77)=false:=zzB.2 (by omega);have n88:((n:Int)==88)=false:=zzB.2 (by omega);have n90:((n:Int)==90)=false:=zzB.2 (by omega);clear c97 c98 c110 c119 c104 c106 c108 c109 c77 c88 c90;have hle:decide ((p:Int)+1<=2000)=true:=zzT (by omega);have S0:=StO.start h;unfold zC at S0;go_in;go_upto_region 1 with fail;generalize w.alloc _=w0 at *;obtain⟨c2,f2⟩:=S0.rd.parts;go_upto_region 2 with fail;have S1:=S0.parts;clear S0 c2 f2;generalize w0.setCell _ _=w1 at *;obtain⟨c2,f2⟩:=S1.rd.parts;rw [show((p+1:Nat):Int)=(p:Int)+1 by omega]at c2;obtain⟨a,hA,ha,hal,hs⟩:=S1.rd;have e1:=zb0 hx;rw [e1.1]at hal;have HB:=zle r s a (p+1) _ l1 w1 hA hal hs;have e0:(UInt8.ofNat n).toNat=n:=by rw [UInt8.toNat_ofNat'];omega
 rw [e0]at HB;have hal2:=hal;rw [<-e1.1]at hal2;have hsz:=zfb ha hal;rw [zzq18]at hsz;go_upto_region 37 with(first|(go_at_call 152;refine(zW _ _).mono ?_;rintro e w2 ⟨rfl,rfl⟩)|(go_at_call 173;refine HB.mono ?_;rintro e v0 ⟨rfl,hr0,hg0⟩));have S0:=S1.call (l':=l1) (p':=p+1) ⟨a+1,hr0,by omega,(drop_one hal).2.1,hs⟩ hg0;have S2:=S0.back hr0 ha hal2 hs;obtain⟨d0,d1,d2,f1,f3⟩:=hr0.cells;clear S1 hg0 HB c2 f2 hle e0 e1 hal hA n97 n98 n110 n119 n104 n106 n108 n109 n77 n88 n90;have hlx:=zc S0.x;have hgx:=S0.gr.size;have hrl:=hr0.lt;clear S0 hr0;have hw:IntKind.i64.wrap (((a+1:Nat):Int)-1)=(a:Int):=by rw [zzq5];omega
 go_upto_region 38 with fail;clear d0 d1 d2 f1 f3 hw;have hoff:w.heap.size<(v0.setCell ⟨r,1,none⟩ (.int .i64 (a:Int))).heap.size:=by simp [World.setCell];omega
 generalize v0.setCell _ _=w3 at *;have HC:=HF r s l (p+1) w3 S2.rd hp hpf;rcases hf:zc0 (zy f) (p+1) l with _|⟨⟨t,p2⟩,l3⟩
 ·rw [hf]at HC HD
  go_wp2_with (go_at_call 181;refine HC.mono ?_;rintro e v1 ⟨rfl,hg1⟩);exact⟨rfl,by rw [<-HQ.out,HD.out];exact⟨rfl,zk S2.gr hg1⟩⟩
 rw [hf]at HC HD;go_wp2_with (go_at_call 181;refine HC.mono ?_;rintro e v1 ⟨⟨so,c,rfl,htm⟩,hr1,hg1⟩;have S3:=S2.call hr1 hg1;have hgb:=S2.gr.size;have HSL:=zzH htm.sl;clear S2 hr1 hg1 htm;obtain⟨x0,x1,x2,x3,x4,x5,x6,x7,x8,y0,y1,y2,y3,y4,y5,y6,y7,y8⟩:=zg S3.x);refine zzj (results_cell_row rfl _ _ w.heap.size _ _ _ _ rfl (zcq _ _ _ _ _ _ _ _ _ S3.x) Tryz.underlying55 rfl (by kernel_rfl)) rfl ?_;rw [<-HQ.out,HD.out];exact⟨⟨so,c,rfl,so,c,rfl,HSL.out.off (OffB.nine _ _ _ _ _ _ _ _ _ _ _) hoff hgb⟩,(S3.fin _ _ _ _ _ _ _ _ _).1,(S3.fin _ _ _ _ _ _ _ _ _).2⟩
theorem zhb (f r:Nat) (s:ByteArray) (l:List UInt8) (p:Nat) (w:World) (h:RdL r s l p w) (hp:p<=2000) (hx:p+1<=2000->zH l=none) (hn:zy f p l=none):
  Calls Tryz.prog 151 #[.pointer (some ⟨r,0,none⟩)] w (zbv r s f w (zy f p l)):=by
 generalize hQ:zbv r s f w (zy f p l)=Q at *;have HQ:=zzH hQ;have HD:=zzH hn;clear hQ hn;have S0:=StO.start h;unfold zC at S0;go_in;go_upto_region 1 with fail;generalize w.alloc _=w0 at *;obtain⟨c2,f2⟩:=S0.rd.parts;go_upto_region 2 with fail;have S1:=S0.parts;clear S0 c2 f2;generalize w0.setCell _ _=w1 at *;obtain⟨c2,f2⟩:=S1.rd.parts;rw [show((p+1:Nat):Int)=(p:Int)+1 by omega]at c2;by_cases cp:p+1<=2000
 ·have hle:decide ((p:Int)+1<=2000)=true:=zzT (by omega)
  have HB:=zbI r s l (p+1) w1 S1.rd;rw [hx cp]at HB;go_wp2_with (first|(go_at_call 152;refine(zW _ _).mono ?_;rintro e w2 ⟨rfl,rfl⟩)|(go_at_call 173;refine HB.mono ?_;rintro e v0 ⟨rfl,hg0⟩));exact⟨rfl,by rw [<-HQ.out,HD.out];exact⟨rfl,zk S1.gr hg0⟩⟩
 ·have hle:decide ((p:Int)+1<=2000)=false:=zzD (by omega)
  go_wp2_with (go_at_call 152;refine(zco _ _).mono ?_;rintro e w2 ⟨rfl,rfl⟩);exact⟨rfl,by rw [<-HQ.out,HD.out];exact⟨rfl,S1.gr⟩⟩
theorem zo0 (f:Nat) (HI:zgn f) (HF:zqx f):zm2 (f+1):=by
 intro r s l p w h hp hpf;by_cases cp:p+1<=2000
 case neg=>exact zhb (f+1) r s l p w h hp (fun e=>absurd e cp) (by unfold zy;exact if_neg cp)
 rcases hx:zH l with _|⟨n,l1⟩
 ·exact zhb (f+1) r s l p w h hp (fun _=>hx) (by unfold zy;rw [if_pos cp,hx];rfl)
 by_cases c97:n=97
 ·subst c97;exact zso f r s l p w h cp ⟨l1,hx⟩
 by_cases c98:n=98
 ·subst c98;exact ztk f r s l p w h cp ⟨l1,hx⟩
 by_cases c110:n=110
 ·subst c110;exact zp8 f r s l p w h cp ⟨l1,hx⟩
 by_cases c119:n=119
 ·subst c119;exact zqN f r s l p w h cp ⟨l1,hx⟩
 by_cases c104:n=104
 ·subst c104;exact zqY f r s l p w h cp HI (by omega) ⟨l1,hx⟩
 by_cases c106:n=106
 ·subst c106;exact zql f r s l p w h cp ⟨l1,hx⟩
 by_cases c108:n=108
 ·subst c108;exact zrU f r s l p w h cp HI (by omega) ⟨l1,hx⟩
 by_cases c109:n=109
 ·subst c109;exact zqf f r s l p w h cp ⟨l1,hx⟩
 by_cases c77:n=77
 ·subst c77;exact zte f r s l p w h cp ⟨l1,hx⟩
 by_cases c88:n=88
 ·subst c88;exact zsL f r s l p w h cp ⟨l1,hx⟩
 by_cases c90:n=90
 ·subst c90;exact ztf f r s l p w h cp ⟨l1,hx⟩
 exact zoI f r s l p w h cp HF (by omega) n l1 hx c97 c98 c110 c119 c104 c106 c108 c109 c77 c88 c90
theorem zhU: ∀f,zm2 f
 |0=>fun r s l p w h hp hpf=>zhb 0 r s l p w h hp (fun e=>by omega) rfl
 |f+1=>zo0 f (zil f (zhU f)) (zqK f (zil f (zhU f)))
open Go.RowKit Go.Shelf
theorem zjl:Tryz.prog.cellsOf 5=1:=by kernel_rfl
theorem zn9 (B b:Nat) (l:List UInt8) (w:World) (h:WtAt B b l w) (h0:l≠ []) (hl:l.length<=70368744177664):
  Calls Tryz.prog 27 #[.pointer (some ⟨b,0,none⟩)] w fun e w'=>e= .returned (.string ⟨l.toArray⟩)/\Below B w w':=by
 obtain⟨hBb,hBw,p,bv,hp,hbk,hown,hne⟩:=h;obtain⟨g,cap,cur,rfl,hg1,hg2,hg3⟩:=zbk hown h0;have hl0:0<l.length:=List.length_pos_iff.2 h0
 have c1:w.drew.cell? ⟨b,1,none⟩=some (.slice (some ⟨g,0,none⟩) l.length cap):=by
  have:w.drew.heap[b]?=some (.cells #[p,.slice (some ⟨g,0,none⟩) l.length cap] 141 (0,0)):=hbk
  rw [Lib.cell_of_heap this];rfl
 have hcap:cap≠0:=by
  rcases hown.2 with⟨hv,_⟩|⟨g',cap',cur',hv,_,_,hc,_⟩
  ·cases hv
  ·injection hv with _ _ e;omega
 have hSD:(Builtin.unsafeSliceData_ #[65] 125 #[.slice (some ⟨g,0,none⟩) l.length cap]).run Tryz.prog w.drew= .ok (.pointer (some ⟨g,0,none⟩)) w.drew:=
  Lib.run_unsafeSliceData_row _ _ _ _ _ _ (by omega)
 have hUS:(Builtin.unsafeString_ #[125,3] 9 #[.pointer (some ⟨g,0,none⟩),.int .i64 l.length]).run Tryz.prog w.drew= .ok (.string ⟨l.toArray⟩) (w.drew.freeze ⟨g,0,none⟩ l.length):=by
  have hcs:l.length<=cur.size:=by
   have:=congrArg List.length hg3;simp [zo]at this;omega
  refine Lib.run_unsafeString_row w.drew 125 3 9 5 Tryz.underlying125 zjl g cur.size (by have hg':w.drew.heap[g]?=some (.cells cur 5 (0,0)):=hg2;simp [World.shape?,hg']) l h0 (by omega) (by omega) ?_
  intro j x hx;have:=zbq hg2 hg3 j (.int .u8 x.toNat) (by simp [zo,hx]);have ha:(⟨g,0,none⟩:Addr).add j=⟨g,j,none⟩:=by unfold Addr.add;split<;>simp_all
  rw [ha]at this ⊢;exact this
 clear hown hp hg2 hg3;go_in;go_wp2_with fail;go_region
 all_goals(go_wp2;go_ret;exact⟨rfl,Lib.below_freeze (Below.drew (zzR B w)) (p:=⟨g,0,none⟩) hg1 _⟩)
theorem zqI (f:Nat) (t:Tm) (so:zzA) (c:Nat) (w:World) (hsl:SlAt w 9 (TmAt w f) so t.items) (hok:t.Ok) (hcap:(zG (f+1) t:Int)<=1152921504606846976) (hv:zA (f+1) t=true):
  Calls Tryz.prog 35 #[.agg (zzt t so c)] w fun e w'=>e= .returned (.tuple #[.string ⟨(zc9 (f+1) t).toArray⟩,.int .i64 0])/\Below w.heap.size w w':=by
 unfold zzt;have hbx:=zbM w t so c;have hba:Below w.heap.size w (w.alloc (.cells (zzt t so c) 55)):=zzE _ _;have hva:=zeZ f t so c (w.alloc (.cells (zzt t so c) 55)) (hsl.tms hba) hok hcap;rw [hv]at hva;have hfm:zj (f+1) t=true:=by unfold zA at hv;rw [zzq6]at hv;exact hv.1
 have hlen:=ze5 hv;have hlen2:(zF (f+1) t).length<=4400001:=by have:(zc9 (f+1) t).length=(zF (f+1) t).length+1:=rfl;omega
 have HTW:Hid (∀(b:Nat) (l:List UInt8) (wx:World),Below w.heap.size w wx->WtAt w.heap.size b l wx->l.length<=10->Calls Tryz.prog 77 #[.pointer (some ⟨b,0,none⟩),.agg #[.int .i64 t.kind,.int .i64 t.int,.int .i64 t.gen,.string t.name,.string t.func,.int .i64 t.arity,.slice so t.items.length c,.string t.bytes,.int .i64 t.bits]] wx (WtQ w.heap.size b (l++zF (f+1) t) wx)):=zzH (fun b l wx h1 h2 h3=>zpe f t so c b l w wx hsl hok hfm h1 h2 (by omega));refine zzK3 hva hbx hba fun HVA HBX HBA=>?_;have HL:Hid ((zc9 (f+1) t).length<=4400001):=zzH hlen;have HP:Hid (zc9 (f+1) t= [UInt8.ofNat (131:Int).toNat]++zF (f+1) t):=zzH rfl;clear hsl hok hcap hv hbx hba hva hfm hlen hlen2;generalize zF (f+1) t=C at *;generalize zc9 (f+1) t=PE at *;go_in;go_upto_region 1 with fail;have hq:=HBX.out;generalize w.alloc (.cells (zzt t so c) 55)=Wa at *;generalize hBz:w.heap.size=B at *;have HBZ:=zzH hBz;clear hBz;obtain⟨c0,c1,c2,c3,c4,c5,c6,c7,c8,cz⟩:=zg hq;have hlx:=zc hq;clear cz hq;go_wp2_with fail;refine HVA.out.mono ?_;rintro e w1 ⟨rfl,hb1⟩;have HB1:Hid (Below B w w1):=zzH (HBA.out.trans (hb1.mono (by have:=HBA.out.size;have:=HBZ.out;omega)));have HX1:Hid (w1.heap[B]?=some (.cells #[.int .i64 t.kind,.int .i64 t.int,.int .i64 t.gen,.string t.name,.string t.func,.int .i64 t.arity,.slice so t.items.length c,.string t.bytes,.int .i64 t.bits] 55 (0,0))):=zzH ((hb1.block B hlx).trans HBX.out)
 clear hb1 hlx c0 c1 c2 c3 c4 c5 c6 c7 c8;have hB1s:B<=w1.heap.size:=by have:=HB1.out.size;have:=HBZ.out;omega
 have hwt:=zt1 w1 hB1s;have hbn:Below w1.heap.size w1 (w1.alloc (.cells #[.pointer none,.slice none 0 0] 141)):=zzE _ _;have HX2:Hid ((w1.alloc (.cells #[.pointer none,.slice none 0 0] 141)).heap[B]?=some (.cells #[.int .i64 t.kind,.int .i64 t.int,.int .i64 t.gen,.string t.name,.string t.func,.int .i64 t.arity,.slice so t.items.length c,.string t.bytes,.int .i64 t.bits] 55 (0,0))):=zzH ((hbn.block B (zc HX1.out)).trans HX1.out)
 have HB2:Hid (Below B w (w1.alloc (.cells #[.pointer none,.slice none 0 0] 141))):=zzH (HB1.out.trans (hbn.mono hB1s));go_upto_region 4 with fail;generalize w1.alloc (.cells #[.pointer none,.slice none 0 0] 141)=W2 at *;clear hbn;generalize w1.heap.size=b at *;have h1:=zeV B b [] 131 5 W2 hwt (by omega) (by simp);have H1:=zzH h1;have hbl:=hwt.lt;clear h1 hwt;go_wp2_with fail;refine H1.out.mono ?_;rintro e w3 ⟨rfl,g1,g2,g3⟩;have HX3:Hid (w3.heap[B]?=some (.cells #[.int .i64 t.kind,.int .i64 t.int,.int .i64 t.gen,.string t.name,.string t.func,.int .i64 t.arity,.slice so t.items.length c,.string t.bytes,.int .i64 t.bits] 55 (0,0))):=zzH (g3 B _ _ _ HX2.out (by decide) (by decide))
 have HB3:Hid (Below B w w3):=zzH (HB2.out.trans g2);have HT3:=zzH (HTW.out b _ w3 HB3.out g1 (by simp));clear g1 g2 g3 hbl;obtain⟨c0,c1,c2,c3,c4,c5,c6,c7,c8,cz⟩:=zg HX3.out;have hlx:=zc HX3.out;clear cz;go_wp2_with fail;refine HT3.out.mono ?_;rintro e w4 ⟨rfl,g1,g2,g3⟩;have HB4:Hid (Below B w w4):=zzH (HB3.out.trans g2);rw [List.nil_append,<-HP.out]at g1;have hs:=zn9 B b PE w4 g1 (by rw [HP.out];simp) (by have:=HL.out;omega);have HS:=zzH hs;have hbl:=g1.lt;clear g1 g2 g3 hs c0 c1 c2 c3 c4 c5 c6 c7 c8 hlx;go_wp2_with fail;refine HS.out.mono ?_;rintro e w5 ⟨rfl,hb5⟩;have HB5:Hid (Below B w w5):=zzH (HB4.out.trans hb5);clear hb5;go_wp2;go_ret2;exact⟨rfl,by rw [HBZ.out];exact HB5.out⟩
theorem zsN {f:Nat} {u:RUnit} (hv: ∀t∈u.lits,zA (f+1) t=true) (hcap: ∀t∈u.lits,(zG (f+1) t:Int)<=1152921504606846976):zo9 (fun t=>⟨(zc9 (f+1) t).toArray⟩) f u:=by
 intro t ht;refine⟨?_,fun ai c w h1 h2=>zqI f t ai c w h1 h2 (hcap t ht) (hv t ht)⟩;have:=ze5 (hv t ht);show(zc9 (f+1) t).toArray.size<=_;rw [List.size_toArray];omega
end Go.Proofs.YtijekmeocadkeaaGreatDoor
