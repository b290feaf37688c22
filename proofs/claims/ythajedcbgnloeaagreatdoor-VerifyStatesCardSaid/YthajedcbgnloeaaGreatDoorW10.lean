import Derived.Test.YthajedcbgnloeaaGreatDoorW05
import Derived.Test.YthajedcbgnloeaaGreatDoorW06
import Derived.Test.YthajedcbgnloeaaGreatDoorW07
namespace Go.Proofs.YthajedcbgnloeaaGreatDoor
open Go.RowKit
set_option linter.unusedVariables false
set_option linter.unusedSimpArgs false
set_option maxRecDepth 100000
set_option maxHeartbeats 0
theorem zdO {P:Program} {w:World} {ops:Array Oper} {rest:List Oper} {o:Oper} {a:Act} {Q:Exit->Act->World->Prop} (hgd:o.guard=none) (s x:Operand) (t e:TypeId)
  (ho:o.op= .call {callee:=.builtin .append,args:=#[s,x],argTypes:=#[t,t]}) (i:TypeInfo) (ht:P.underlying t=some (.slice e)) (hi:P.info? e=some i) (hs:a.eval s= .slice none 0 0) (ao:zzA) (c:Nat) (hx:a.eval x= .slice ao 0 c)
  (h:wpList P ops Q rest (a.put o.dst (.slice none 0 0)) w):wpList P ops Q (o::rest) a w:=by
 refine wpList_plain hgd fun K hK=>?_
 have hrun:=run_append_nothing (P:=P) w t t o.type e i ht hi none 0 0 (zzL _) (.slice ao 0 c) ⟨.inl ⟨e,ht⟩,fun w'=>by simp [Builtin.lenOf],by cases ao<;>simp [Builtin.firstCells,loadCells,loadCellsFrom],by cases ao<;>simp [Builtin.firstCells,loadCells,loadCellsFrom],by simp,fun u hu=>by cases hu⟩;unfold Oper.wp;simp [execOp,ho,resolve,invoke,builtin,hs,hx,hrun,Result.andThen];exact hK _ _ h
theorem IntsAt.news {w:World} {b off:Nat} {l:List Int} (h:IntsAt w (some ⟨b,off,none⟩) l) (n:Nat) (hn:n<=l.length): ∀j u,((l.take n).map (Value.int .i64))[j]?=some u->w.cell? ((⟨b,off,none⟩:Addr).add j)=some u:=fun j u hj=>by
 have hj1:j<n:=by
  have:=(List.getElem?_eq_some_iff.1 hj).1;simp at this;omega
 obtain⟨b',off',e,-,hc⟩:=h.cell (k:=j) (by omega);have e:=zzf e;injection e with e1 e2;subst e1;subst e2;rw [show(⟨b,off,none⟩:Addr).add j=⟨b,off+j,none⟩by simp [Addr.add],hc,<-hj,List.getElem?_map,List.getElem?_take_of_lt hj1,List.getD_eq_getElem?_getD,zzq3 (by omega)]
 rfl
theorem zgf (l:List Int) (ao:zzA) (c:Nat) (w:World) (h:IntsAt w ao l) (hl:l.length<=1000000) (hc:l.length<=c):
  Calls Tryz.prog 116 #[.slice ao l.length c] w fun e w'=>(∃v,e= .returned v/\OwnI w' w.heap.size v (zA l))/\Below w.heap.size w w':=by
 have HH:=zzH h;have E0:Hid (∀k,zbg l l.length=k->zA l=l.take k):=zzH (fun k e=>by unfold zA;rw [e]);obtain⟨i0,hi,hz0,hz1,hz2⟩:=info_parts zdo;clear h;generalize hn:l.length=n at *;have hn':n<=l.length:=by omega
 have HN:=zzH hn';clear hn;go_in;go_wp2_with fail;go_loopw [3] (fun v wr=> ∃k:Nat,k<=n/\v= .int .i64 k/\Hid (zbg l n=zbg l k)/\wr=w) (fun v _=>(intOf v).toNat)
 case atStart=>exact⟨n,zzL _,rfl,zzH rfl,rfl⟩
 case round=>
  obtain⟨k,hk,rfl,HK,rfl⟩:=hrel;rename World=>wr
  cases k with
  |zero=>
   have E:Hid (zA l= []):=zzH (by rw [E0.out 0 (by rw [HK.out];rfl)];rfl);go_wp2_with (at_builtin;refine zdO rfl (.tmp 19) (.tmp 22) 38 3 rfl i0 Tryz.underlying38 hi rfl ao c rfl ?_);go_ret;exact⟨⟨_,rfl,by rw [E.out];exact World.ownsRow_nil _ _ _ _⟩,zzR _ _⟩
  |succ k=>
   obtain⟨b,off,hao,hlt,q0⟩:=HH.out.cell (k:=k) (by omega);subst hao;generalize hv:l.getD k 0=v at *;have hw1:IntKind.i64.wrap (((k+1:Nat):Int)-1)=(k:Int):=by rw [zzq2];omega
   by_cases c0:v=0
   ·have HK2:Hid (zbg l n=zbg l k):=zzH (by rw [HK.out,zbg,if_pos (by rw [hv];exact c0)])
    have t0:(v==0)=true:=zzl.2 c0;clear c0 hv HK;go_wp2_with fail;exact⟨⟨k,by omega,rfl,HK2,trivial⟩,by simp [intOf]<;>omega⟩
   ·have E:Hid (zA l=l.take (k+1)):=zzH (E0.out (k+1) (by rw [HK.out,zbg,if_neg (by rw [hv];exact c0)]))
    have t0:(v==0)=false:=zzB.2 c0;have hkc:k+1<=c:=by omega
    have hkl:k+1<=l.length:=by omega
    have HNW:=zzH (HH.out.news (k+1) hkl);have hlen:((l.take (k+1)).map (Value.int .i64)).length=(k+1)*1:=by simp;omega
    have HLEN:=zzH hlen;have HKL:=zzH hkl;have h63:0+(k+1)<=maxLen:=by unfold maxLen;omega
    have hby:(0+(k+1))*8<=140737488355328:=by omega
    have H63:=zzH h63;have HBY:=zzH hby;have h1c: ∀u∈(l.take (k+1)).map (Value.int .i64),u.oneCell'=true:=fun u hu=>by obtain⟨x,_,rfl⟩:=List.mem_map.1 hu;rfl
    have H1C:=zzH h1c;clear c0 hv HK hlen hkl h63 hby h1c;go_wp2_with (at_builtin;refine wpList_append_lies _ rfl (.tmp 19) (.tmp 22) 38 rfl wr.heap.size 3 i0 _ 1 8 Tryz.underlying38 hi hz0 hz1 hz2 rfl (by decide) _ 0 [] rfl (World.ownsRow_nil _ _ _ _) ⟨b,off,none⟩ (k+1) c ((l.take (k+1)).map (Value.int .i64)) rfl HLEN.out HNW.out H1C.out (Nat.succ_pos _) H63.out HBY.out (zzL _) _ rfl ?_;intro g cap w3 ho3 hg3 hat hlt3;rw [Nat.zero_add]at ho3 ⊢;rw [List.nil_append]at ho3);go_ret;refine⟨⟨_,rfl,?_⟩,(zzR _ _).grown hg3 (zzL _) (fun k' e=>by cases e)⟩;rw [E.out];unfold OwnI;rw [List.length_take,Nat.min_eq_left HKL.out];exact ho3
theorem getD_some {l:List Int} {k:Nat} (h:k<l.length):l[k]?=some (l.getD k 0):=by
 rw [List.getD_eq_getElem?_getD,zzq3 h];rfl
theorem zpF {l m:List Int} {k:Nat} (h:l.take k=m.take k) (hl:l.length<=k) (hm:m.length<=k):l=m:=by
 rw [List.take_of_length_le hl,List.take_of_length_le hm]at h;exact h
theorem zdX (l m:List Int) (ao bo:zzA) (c d:Nat) (w:World) (hl:IntsAt w ao l) (hm:IntsAt w bo m) (b1:l.length<=1000000) (b2:m.length<=1000000):
  Calls Tryz.prog 20 #[.slice ao l.length c,.slice bo m.length d] w fun e w'=>e= .returned (.bool (decide (l=m)))/\ ∃q,w'=w.drewN q:=by
 have HL:=zzH hl;have HM:=zzH hm;clear hl hm;by_cases hn:l.length=m.length
 ·have HN:=zzH hn
  rw [<-hn];have n1:(l.length:Int)<=1000000:=by omega
  clear hn b2;go_in;go_wp2_with fail;go_loopw [5] (fun iv wr=> ∃k:Nat,k<=l.length/\iv= .int .i64 k/\Hid (∃q,wr=w.drewN q)/\Hid (l.take k=m.take k)) (fun iv _=>l.length-(intOf iv).toNat)
  case atStart=>exact⟨0,zzZ _,rfl,zzH ⟨0,rfl⟩,zzH rfl⟩
  case round=>
   obtain⟨k,hk,rfl,HQ,HT⟩:=hrel;rename World=>wr
   by_cases hlt:k<l.length
   ·obtain⟨q,hq⟩:=HQ.out
    have hlm:k<m.length:=by have:=HN.out;omega
    obtain⟨pb,po,rfl,-,e1⟩:=HL.out.cell hlt;obtain⟨qb,qo,rfl,-,e2⟩:=HM.out.cell hlm;have hk0:(0:Int)<=(k:Int):=by omega
    have hk1:(k:Int)<(l.length:Int):=by omega
    by_cases he:l.getD k 0=m.getD k 0
    ·have HS:Hid (l.take (k+1)=m.take (k+1)):=zzH (by rw [List.take_add_one,List.take_add_one,HT.out,getD_some hlt,getD_some hlm,he])
     have u1:=zcQ he;generalize l.getD k 0=x at *;generalize m.getD k 0=y at *;clear he;go_wp2_with fail;go_quiet (fail);go_wp2_with fail;refine⟨⟨k+1,hlt,by go_num,zzH ?_,HS⟩,by simp [intOf];omega⟩
     first|exact⟨_,rfl⟩|(simp only [World.drewN_drewN];exact⟨_,rfl⟩)
    ·have HF:Hid (decide (l=m)=false):=zzH (zzD (fun e=>he (by subst e;rfl)))
     have u1:=zch he;generalize l.getD k 0=x at *;generalize m.getD k 0=y at *;clear he;go_wp2_with fail;go_quiet (fail);go_wp2;go_ret;exact⟨by rw [HF.out];rfl,by first|exact⟨_,rfl⟩|(simp only [World.drewN_drewN];exact⟨_,rfl⟩)⟩
   ·obtain rfl:k=l.length:=by omega
    have HF:Hid (decide (l=m)=true):=zzH (zzT (zpF HT.out (zzL _) (Nat.le_of_eq HN.out.symm)));go_wp2;go_ret;exact⟨by rw [HF.out];rfl,HQ.out⟩
 ·have HF:Hid (decide (l=m)=false):=zzH (zzD (fun e=>hn (by rw [e])))
  have u1:((l.length:Int)!=(m.length:Int))=true:=zch (fun h=>hn (by omega));clear hn;go_in;go_wp2;go_ret;exact⟨by rw [HF.out];rfl,0,rfl⟩
theorem ze7 (s:ByteArray) (n:Int) (w:World):Calls Tryz.prog 80 #[.string s,.int .i64 n] w fun e w'=>e= .returned (.bool (zQ s n))/\w=w':=by
 have HQ:=zzH (zn0 s n);generalize zQ s n=r at *;by_cases h1:n=1
 ·subst h1
  rw [if_pos rfl]at HQ
  cases t0:(s.toList== [45])with
  |true=>
   rw [t0]at HQ;exact zz122
  |false=>
   cases t1:(s.toList== [98,110,111,116])with
   |true=>
    rw [t0,t1]at HQ;exact zz122
   |false=>
    rw [t0,t1]at HQ;have E:Hid (r=(s.toList== [110,111,116])):=zzH (by rw [HQ.out];rfl);exact zz41
 ·rw [if_neg h1]at HQ
  have q1:(n==1)=false:=zzB.2 h1;by_cases h2:n=2
  ·subst h2
   rw [if_pos rfl]at HQ
   have HL:Hid (r=((s.toList== [43])||(s.toList== [45])||(s.toList== [42])||(s.toList== [100,105,118])||(s.toList== [114,101,109])||(s.toList== [98,97,110,100])||(s.toList== [98,111,114])||(s.toList== [98,120,111,114])||(s.toList== [98,115,108])||(s.toList== [98,115,114])||(s.toList== [97,110,100])||(s.toList== [111,114])||(s.toList== [120,111,114])||(s.toList== [43,43])||(s.toList== [61,58,61])||(s.toList== [61,47,61])||(s.toList== [60])||(s.toList== [61,60])||(s.toList== [62])||(s.toList== [62,61]))):=zzH (by
    rw [HQ.out];unfold opTwo;simp only [List.any_cons,List.any_nil];generalize(s.toList== [45])=b0;generalize(s.toList== [43])=b1;generalize(s.toList== [42])=b2;generalize(s.toList== [100,105,118])=b3;generalize(s.toList== [114,101,109])=b4;generalize(s.toList== [98,97,110,100])=b5;generalize(s.toList== [98,111,114])=b6;generalize(s.toList== [98,120,111,114])=b7;generalize(s.toList== [98,115,108])=b8;generalize(s.toList== [98,115,114])=b9;generalize(s.toList== [97,110,100])=b10;generalize(s.toList== [111,114])=b11;generalize(s.toList== [120,111,114])=b12;generalize(s.toList== [61,58,61])=b13;generalize(s.toList== [61,47,61])=b14;generalize(s.toList== [60])=b15;generalize(s.toList== [61,60])=b16;generalize(s.toList== [62])=b17;generalize(s.toList== [62,61])=b18;generalize(s.toList== [43,43])=b19
    cases b0<;>simp only [zzq14,zzq9,zzq13,zzq16]<;>(first|rfl|ac_rfl))
   clear h1 HQ
   cases t0:(s.toList== [43])with
   |true=>
    have E:Hid (r=true):=zzH (by rw [HL.out];simp only [t0,zzq9,zzq14,zzq13]);exact zz41
   |false=>
    cases t1:(s.toList== [45])with
    |true=>
      have E:Hid (r=true):=zzH (by rw [HL.out];simp only [t0,t1,zzq9,zzq14,zzq13]);exact zz41
    |false=>
    cases t2:(s.toList== [42])with
    |true=>
     have E:Hid (r=true):=zzH (by rw [HL.out];simp only [t0,t1,t2,zzq9,zzq14,zzq13]);exact zz41
    |false=>
     cases t3:(s.toList== [100,105,118])with
     |true=>
       have E:Hid (r=true):=zzH (by rw [HL.out];simp only [t0,t1,t2,t3,zzq9,zzq14,zzq13]);exact zz41
     |false=>
     cases t4:(s.toList== [114,101,109])with
     |true=>
      have E:Hid (r=true):=zzH (by rw [HL.out];simp only [t0,t1,t2,t3,t4,zzq9,zzq14,zzq13]);exact zz41
     |false=>
      cases t5:(s.toList== [98,97,110,100])with
      |true=>
        have E:Hid (r=true):=zzH (by rw [HL.out];simp only [t0,t1,t2,t3,t4,t5,zzq9,zzq14,zzq13]);exact zz41
      |false=>
      cases t6:(s.toList== [98,111,114])with
      |true=>
       have E:Hid (r=true):=zzH (by rw [HL.out];simp only [t0,t1,t2,t3,t4,t5,t6,zzq9,zzq14,zzq13]);exact zz41
      |false=>
       cases t7:(s.toList== [98,120,111,114])with
       |true=>
         have E:Hid (r=true):=zzH (by rw [HL.out];simp only [t0,t1,t2,t3,t4,t5,t6,t7,zzq9,zzq14,zzq13]);exact zz41
       |false=>
       cases t8:(s.toList== [98,115,108])with
       |true=>
        have E:Hid (r=true):=zzH (by rw [HL.out];simp only [t0,t1,t2,t3,t4,t5,t6,t7,t8,zzq9,zzq14,zzq13]);exact zz41
       |false=>
        cases t9:(s.toList== [98,115,114])with
        |true=>
          have E:Hid (r=true):=zzH (by rw [HL.out];simp only [t0,t1,t2,t3,t4,t5,t6,t7,t8,t9,zzq9,zzq14,zzq13]);exact zz41
        |false=>
        cases t10:(s.toList== [97,110,100])with
        |true=>
         have E:Hid (r=true):=zzH (by rw [HL.out];simp only [t0,t1,t2,t3,t4,t5,t6,t7,t8,t9,t10,zzq9,zzq14,zzq13]);exact zz41
        |false=>
         cases t11:(s.toList== [111,114])with
         |true=>
           have E:Hid (r=true):=zzH (by rw [HL.out];simp only [t0,t1,t2,t3,t4,t5,t6,t7,t8,t9,t10,t11,zzq9,zzq14,zzq13]);exact zz41
         |false=>
         cases t12:(s.toList== [120,111,114])with
         |true=>
          have E:Hid (r=true):=zzH (by rw [HL.out];simp only [t0,t1,t2,t3,t4,t5,t6,t7,t8,t9,t10,t11,t12,zzq9,zzq14,zzq13]);exact zz41
         |false=>
          cases t13:(s.toList== [43,43])with
          |true=>
            have E:Hid (r=true):=zzH (by rw [HL.out];simp only [t0,t1,t2,t3,t4,t5,t6,t7,t8,t9,t10,t11,t12,t13,zzq9,zzq14,zzq13]);exact zz41
          |false=>
          cases t14:(s.toList== [61,58,61])with
          |true=>
           have E:Hid (r=true):=zzH (by rw [HL.out];simp only [t0,t1,t2,t3,t4,t5,t6,t7,t8,t9,t10,t11,t12,t13,t14,zzq9,zzq14,zzq13]);exact zz41
          |false=>
           cases t15:(s.toList== [61,47,61])with
           |true=>
             have E:Hid (r=true):=zzH (by rw [HL.out];simp only [t0,t1,t2,t3,t4,t5,t6,t7,t8,t9,t10,t11,t12,t13,t14,t15,zzq9,zzq14,zzq13]);exact zz41
           |false=>
           cases t16:(s.toList== [60])with
           |true=>
            have E:Hid (r=true):=zzH (by rw [HL.out];simp only [t0,t1,t2,t3,t4,t5,t6,t7,t8,t9,t10,t11,t12,t13,t14,t15,t16,zzq9,zzq14,zzq13]);exact zz41
           |false=>
            cases t17:(s.toList== [61,60])with
            |true=>
              have E:Hid (r=true):=zzH (by rw [HL.out];simp only [t0,t1,t2,t3,t4,t5,t6,t7,t8,t9,t10,t11,t12,t13,t14,t15,t16,t17,zzq9,zzq14,zzq13]);exact zz41
            |false=>
            cases t18:(s.toList== [62])with
            |true=>
             have E:Hid (r=true):=zzH (by rw [HL.out];simp only [t0,t1,t2,t3,t4,t5,t6,t7,t8,t9,t10,t11,t12,t13,t14,t15,t16,t17,t18,zzq9,zzq14,zzq13]);exact zz41
            |false=>
             cases t19:(s.toList== [62,61])with
             |true=>
               have E:Hid (r=true):=zzH (by rw [HL.out];simp only [t0,t1,t2,t3,t4,t5,t6,t7,t8,t9,t10,t11,t12,t13,t14,t15,t16,t17,t18,t19,zzq9,zzq14,zzq13]);exact zz41
             |false=>
             have E:Hid (r=false):=zzH (by rw [HL.out];simp only [t0,t1,t2,t3,t4,t5,t6,t7,t8,t9,t10,t11,t12,t13,t14,t15,t16,t17,t18,t19,zzq9]);exact zz41
  ·have q2 : (n != 2) = true := by rw [bne_iff_ne]; exact h2
   rw [if_neg h2]at HQ;have E:Hid (r=false):=zzH HQ.out;clear h1 h2;exact zz41
structure RRow where
 a:Bool
 b:Bool
 c:Bool
 d:Bool
 e:Bool
 f:Bool
 g:Bool
 h:Bool
 lo:Int
 hi:Int
def RRow.val (r:RRow):Array Value:=#[.bool r.a,.bool r.b,.bool r.c,.bool r.d,.bool r.e,.bool r.f,.bool r.g,.bool r.h,.int .i64 r.lo,.int .i64 r.hi]
theorem RRow.one (r:RRow):r.val.all (·.oneCell')=true:=by
 simp [RRow.val,Value.oneCell']
def zeS (l:List UInt8) (c:UInt8):Bool:=l.any (fun x=>x==c)
def zbc (l:List UInt8) (lo hi:Int):RRow:=⟨zeS l 100,zeS l 115,zeS l 110,zeS l 119,zeS l 99,zeS l 103,zeS l 116,zeS l 108,lo,hi⟩
theorem zdt (l:List UInt8) {k:Nat} (h:k<l.length) (c:UInt8):zeS (l.take (k+1)) c=(zeS (l.take k) c||(l[k]==c)):=by
 unfold zeS;rw [List.take_add_one,zzq3 h,List.any_append];simp
theorem zec (x:UInt8) (c:Nat) (hc:c<256):(x==UInt8.ofNat c)=((x.toNat:Int)==(c:Int)):=by
 rw [Bool.eq_iff_iff,beq_iff_eq,beq_iff_eq];constructor
 ·intro h;rw [h,UInt8.toNat_ofNat'];omega
 ·intro h;exact UInt8.toNat_inj.1 (by rw [UInt8.toNat_ofNat'];omega)
theorem zkf (s:ByteArray) (lo hi:Int) (w:World) (hs:s.size<=1000):
  Calls Tryz.prog 75 #[.string s,.int .i64 lo,.int .i64 hi] w fun e w'=>e= .returned (.agg (zbc s.data.toList lo hi).val)/\Below w.heap.size w w':=by
 have HE:Hid (zbc s.data.toList lo hi=zbc (s.data.toList.take s.size) lo hi):=zzH (by rw [List.take_of_length_le (by simp)]);have HB:=zzH (zzR w.heap.size w);go_in;go_upto_region 2 with fail;have hR:=zzF (w.alloc (.cells #[.bool false,.bool false,.bool false,.bool false,.bool false,.bool false,.bool false,.bool false,.int .i64 0,.int .i64 0] 93)) (.cells #[.bool false,.bool false,.bool false,.bool false,.bool false,.bool false,.bool false,.bool false,.int .i64 lo,.int .i64 hi] 93);have hbe:Below w.heap.size w ((w.alloc (.cells #[.bool false,.bool false,.bool false,.bool false,.bool false,.bool false,.bool false,.bool false,.int .i64 0,.int .i64 0] 93)).alloc (.cells #[.bool false,.bool false,.bool false,.bool false,.bool false,.bool false,.bool false,.bool false,.int .i64 lo,.int .i64 hi] 93)):=(zzE _ _).alloc (by simp) _;have hsz:(w.alloc (.cells #[.bool false,.bool false,.bool false,.bool false,.bool false,.bool false,.bool false,.bool false,.int .i64 0,.int .i64 0] 93)).heap.size=w.heap.size+1:=by simp
 rw [hsz]at hR;have h0:((w.alloc (.cells #[.bool false,.bool false,.bool false,.bool false,.bool false,.bool false,.bool false,.bool false,.int .i64 0,.int .i64 0] 93)).alloc (.cells #[.bool false,.bool false,.bool false,.bool false,.bool false,.bool false,.bool false,.bool false,.int .i64 lo,.int .i64 hi] 93)).heap[w.heap.size]?=some (.cells #[.bool false,.bool false,.bool false,.bool false,.bool false,.bool false,.bool false,.bool false,.int .i64 0,.int .i64 0] 93 (0,0)):=(Below.heap_alloc _ _ _ (by simp)).trans (zzF _ _)
 generalize(w.alloc (.cells #[.bool false,.bool false,.bool false,.bool false,.bool false,.bool false,.bool false,.bool false,.int .i64 0,.int .i64 0] 93)).alloc (.cells #[.bool false,.bool false,.bool false,.bool false,.bool false,.bool false,.bool false,.bool false,.int .i64 lo,.int .i64 hi] 93)=Wa at *;generalize hB0:w.heap.size=B at *;refine zzK4 hB0 hbe hR h0 fun HBE HBA HR H0=>?_;clear hB0 hbe hR hsz h0 HB;go_wp2_with fail;go_loopw [8] (fun iv wr=> ∃(k:Nat) (r:RRow),k<=s.size/\iv= .int .i64 k/\Hid (r=zbc (s.data.toList.take k) lo hi)/\Hid (wr.heap[B+1]?=some (.cells r.val 93 (0,0)))/\Hid (wr.heap[B]?=some (.cells #[.bool false,.bool false,.bool false,.bool false,.bool false,.bool false,.bool false,.bool false,.int .i64 0,.int .i64 0] 93 (0,0)))/\Hid (Below B w wr)) (fun iv _=>s.size-(intOf iv).toNat)
 case atStart=>exact⟨0,⟨false,false,false,false,false,false,false,false,lo,hi⟩,zzZ _,rfl,zzH rfl,HR,H0,HBA⟩
 case round=>
  obtain⟨k,r,hk,rfl,HRW,HRk,H0k,HBk⟩:=hrel;rename World=>wr
  obtain⟨A0,A1,A2,A3,A4,A5,A6,A7,lo',hi'⟩:=r;obtain⟨rfl,rfl⟩:lo'=lo/\hi'=hi:=by have:=HRW.out;unfold zbc at this;injection this with _ _ _ _ _ _ _ _ e1 e2;exact⟨e1,e2⟩
  by_cases hlt:k<s.size
  ·have hkl:k<s.data.toList.length:=by simpa using hlt
   have HST:Hid (zbc (s.data.toList.take (k+1)) lo' hi'=⟨A0||(s.data.toList[k]==100),A1||(s.data.toList[k]==115),A2||(s.data.toList[k]==110),A3||(s.data.toList[k]==119),A4||(s.data.toList[k]==99),A5||(s.data.toList[k]==103),A6||(s.data.toList[k]==116),A7||(s.data.toList[k]==108),lo',hi'⟩):=zzH (by
    have:=HRW.out;unfold zbc at this ⊢;injection this with e0 e1 e2 e3 e4 e5 e6 e7;rw [zdt _ hkl,zdt _ hkl,zdt _ hkl,zdt _ hkl,zdt _ hkl,zdt _ hkl,zdt _ hkl,zdt _ hkl,<-e0,<-e1,<-e2,<-e3,<-e4,<-e5,<-e6,<-e7])
   have hsk:s.data.toList[k]=s[k]:=by rw [Array.getElem_toList];rfl
   rw [hsk]at HST;clear HRW hsk;have y0:=zec s[k] 100 (by decide);have y1:=zec s[k] 115 (by decide);have y2:=zec s[k] 110 (by decide);have y3:=zec s[k] 119 (by decide);have y4:=zec s[k] 99 (by decide);have y5:=zec s[k] 103 (by decide);have y6:=zec s[k] 116 (by decide);have y7:=zec s[k] 108 (by decide);rw [show(UInt8.ofNat 100)=(100:UInt8)from rfl]at y0;rw [y0]at HST;clear y0;rw [show(UInt8.ofNat 115)=(115:UInt8)from rfl]at y1;rw [y1]at HST;clear y1;rw [show(UInt8.ofNat 110)=(110:UInt8)from rfl]at y2;rw [y2]at HST;clear y2;rw [show(UInt8.ofNat 119)=(119:UInt8)from rfl]at y3;rw [y3]at HST;clear y3;rw [show(UInt8.ofNat 99)=(99:UInt8)from rfl]at y4;rw [y4]at HST;clear y4;rw [show(UInt8.ofNat 103)=(103:UInt8)from rfl]at y5;rw [y5]at HST;clear y5;rw [show(UInt8.ofNat 116)=(116:UInt8)from rfl]at y6;rw [y6]at HST;clear y6;rw [show(UInt8.ofNat 108)=(108:UInt8)from rfl]at y7;rw [y7]at HST;clear y7;rw [show(((s[k].toNat:Nat):Int)==((100:Nat):Int))=((s[k].toNat:Int)==100+0)from rfl]at HST;rw [show((s[k].toNat:Int)==100+0)=((s[k].toNat:Int)==100)from rfl]at HST;generalize het0:((s[k].toNat:Int)==100)=t0 at *;rw [show(((s[k].toNat:Nat):Int)==((115:Nat):Int))=((s[k].toNat:Int)==100+15)from rfl]at HST;rw [show((s[k].toNat:Int)==100+15)=((s[k].toNat:Int)==115)from rfl]at HST;generalize het1:((s[k].toNat:Int)==115)=t1 at *;rw [show(((s[k].toNat:Nat):Int)==((110:Nat):Int))=((s[k].toNat:Int)==100+10)from rfl]at HST;rw [show((s[k].toNat:Int)==100+10)=((s[k].toNat:Int)==110)from rfl]at HST;generalize het2:((s[k].toNat:Int)==110)=t2 at *;rw [show(((s[k].toNat:Nat):Int)==((119:Nat):Int))=((s[k].toNat:Int)==100+19)from rfl]at HST;rw [show((s[k].toNat:Int)==100+19)=((s[k].toNat:Int)==119)from rfl]at HST;generalize het3:((s[k].toNat:Int)==119)=t3 at *;rw [show(((s[k].toNat:Nat):Int)==((99:Nat):Int))=((s[k].toNat:Int)==100+ -1)from rfl]at HST;rw [show((s[k].toNat:Int)==100+ -1)=((s[k].toNat:Int)==99)from rfl]at HST;generalize het4:((s[k].toNat:Int)==99)=t4 at *;rw [show(((s[k].toNat:Nat):Int)==((103:Nat):Int))=((s[k].toNat:Int)==100+3)from rfl]at HST;rw [show((s[k].toNat:Int)==100+3)=((s[k].toNat:Int)==103)from rfl]at HST;generalize het5:((s[k].toNat:Int)==103)=t5 at *;rw [show(((s[k].toNat:Nat):Int)==((116:Nat):Int))=((s[k].toNat:Int)==100+16)from rfl]at HST;rw [show((s[k].toNat:Int)==100+16)=((s[k].toNat:Int)==116)from rfl]at HST;generalize het6:((s[k].toNat:Int)==116)=t6 at *;rw [show(((s[k].toNat:Nat):Int)==((108:Nat):Int))=((s[k].toNat:Int)==100+8)from rfl]at HST;rw [show((s[k].toNat:Int)==100+8)=((s[k].toNat:Int)==108)from rfl]at HST;generalize het7:((s[k].toNat:Int)==108)=t7 at *;go_upto_region 5 with fail;have g0:wr.cell? ⟨B+1,0,none⟩=some (.bool A0):=by rw [zzq0 _ _ _ _ _ _ HRk.out];rfl
   have hrl:=zd HRk.out;have hfz:wr.frozen? ⟨B+1,0,none⟩=false:=Lib.frozen_of_heap HRk.out 0;go_cut [] (fun wx=> ∃x:Bool,Hid (x=(A0||t0))/\Hid (wx.heap[B+1]?=some (.cells #[.bool x,.bool A1,.bool A2,.bool A3,.bool A4,.bool A5,.bool A6,.bool A7,.int .i64 lo',.int .i64 hi'] 93 (0,0)))/\Hid (wx.heap[B]?=wr.heap[B]?)/\Hid (Below B w wx))
   case first=>
    cases A0 with
    |true=>
     go_wp2_with fail;go_meet
     case rel=>exact⟨true,zzH (by cases t0<;>rfl),zzH (by rw [zzq17 _ _ _ _ _ _ HRk.out];rfl),zzH (Below.heap_setCell _ _ _ _ (by simp)),zzH (HBk.out.setCell (p:=⟨B+1,0,none⟩) (by simp) _)⟩
    |false=>
     go_wp2_with fail;go_meet
     case rel=>exact⟨t0,zzH (by cases t0<;>rfl),zzH (by rw [zzq17 _ _ _ _ _ _ HRk.out];rfl),zzH (Below.heap_setCell _ _ _ _ (by simp)),zzH (HBk.out.setCell (p:=⟨B+1,0,none⟩) (by simp) _)⟩
   case rest=>
    obtain⟨x0,HX0,HR2,H02,HB2⟩:=hcut;have H03:Hid (wc.heap[B]?=some (.cells #[.bool false,.bool false,.bool false,.bool false,.bool false,.bool false,.bool false,.bool false,.int .i64 0,.int .i64 0] 93 (0,0))):=zzH (H02.out.trans H0k.out)
    clear HRk H0k HBk H02 g0 hrl hfz;have HRk:=HR2;have H0k:=H03;have HBk:=HB2;clear HR2 H03 HB2;go_upto_region 6 with fail;have g1:wc.cell? ⟨B+1,1,none⟩=some (.bool A1):=by rw [zzq0 _ _ _ _ _ _ HRk.out];rfl
    have hrl:=zd HRk.out;have hfz:wc.frozen? ⟨B+1,1,none⟩=false:=Lib.frozen_of_heap HRk.out 1;go_cut [] (fun wx=> ∃x:Bool,Hid (x=(A1||t1))/\Hid (wx.heap[B+1]?=some (.cells #[.bool x0,.bool x,.bool A2,.bool A3,.bool A4,.bool A5,.bool A6,.bool A7,.int .i64 lo',.int .i64 hi'] 93 (0,0)))/\Hid (wx.heap[B]?=wc.heap[B]?)/\Hid (Below B w wx))
    case first=>
     cases A1 with
     |true=>
      go_wp2_with fail;go_meet
      case rel=>exact⟨true,zzH (by cases t1<;>rfl),zzH (by rw [zzq17 _ _ _ _ _ _ HRk.out];rfl),zzH (Below.heap_setCell _ _ _ _ (by simp)),zzH (HBk.out.setCell (p:=⟨B+1,1,none⟩) (by simp) _)⟩
     |false=>
      go_wp2_with fail;go_meet
      case rel=>exact⟨t1,zzH (by cases t1<;>rfl),zzH (by rw [zzq17 _ _ _ _ _ _ HRk.out];rfl),zzH (Below.heap_setCell _ _ _ _ (by simp)),zzH (HBk.out.setCell (p:=⟨B+1,1,none⟩) (by simp) _)⟩
    case rest=>
     obtain⟨x1,HX1,HR2,H02,HB2⟩:=hcut;have H03:Hid (wc.heap[B]?=some (.cells #[.bool false,.bool false,.bool false,.bool false,.bool false,.bool false,.bool false,.bool false,.int .i64 0,.int .i64 0] 93 (0,0))):=zzH (H02.out.trans H0k.out)
     clear HRk H0k HBk H02 g1 hrl hfz;have HRk:=HR2;have H0k:=H03;have HBk:=HB2;clear HR2 H03 HB2;go_upto_region 7 with fail;have g2:wc.cell? ⟨B+1,2,none⟩=some (.bool A2):=by rw [zzq0 _ _ _ _ _ _ HRk.out];rfl
     have hrl:=zd HRk.out;have hfz:wc.frozen? ⟨B+1,2,none⟩=false:=Lib.frozen_of_heap HRk.out 2;go_cut [] (fun wx=> ∃x:Bool,Hid (x=(A2||t2))/\Hid (wx.heap[B+1]?=some (.cells #[.bool x0,.bool x1,.bool x,.bool A3,.bool A4,.bool A5,.bool A6,.bool A7,.int .i64 lo',.int .i64 hi'] 93 (0,0)))/\Hid (wx.heap[B]?=wc.heap[B]?)/\Hid (Below B w wx))
     case first=>
      cases A2 with
      |true=>
       go_wp2_with fail;go_meet
       case rel=>exact⟨true,zzH (by cases t2<;>rfl),zzH (by rw [zzq17 _ _ _ _ _ _ HRk.out];rfl),zzH (Below.heap_setCell _ _ _ _ (by simp)),zzH (HBk.out.setCell (p:=⟨B+1,2,none⟩) (by simp) _)⟩
      |false=>
       go_wp2_with fail;go_meet
       case rel=>exact⟨t2,zzH (by cases t2<;>rfl),zzH (by rw [zzq17 _ _ _ _ _ _ HRk.out];rfl),zzH (Below.heap_setCell _ _ _ _ (by simp)),zzH (HBk.out.setCell (p:=⟨B+1,2,none⟩) (by simp) _)⟩
     case rest=>
      obtain⟨x2,HX2,HR2,H02,HB2⟩:=hcut;have H03:Hid (wc.heap[B]?=some (.cells #[.bool false,.bool false,.bool false,.bool false,.bool false,.bool false,.bool false,.bool false,.int .i64 0,.int .i64 0] 93 (0,0))):=zzH (H02.out.trans H0k.out)
      clear HRk H0k HBk H02 g2 hrl hfz;have HRk:=HR2;have H0k:=H03;have HBk:=HB2;clear HR2 H03 HB2;go_upto_region 8 with fail;have g3:wc.cell? ⟨B+1,3,none⟩=some (.bool A3):=by rw [zzq0 _ _ _ _ _ _ HRk.out];rfl
      have hrl:=zd HRk.out;have hfz:wc.frozen? ⟨B+1,3,none⟩=false:=Lib.frozen_of_heap HRk.out 3;go_cut [] (fun wx=> ∃x:Bool,Hid (x=(A3||t3))/\Hid (wx.heap[B+1]?=some (.cells #[.bool x0,.bool x1,.bool x2,.bool x,.bool A4,.bool A5,.bool A6,.bool A7,.int .i64 lo',.int .i64 hi'] 93 (0,0)))/\Hid (wx.heap[B]?=wc.heap[B]?)/\Hid (Below B w wx))
      case first=>
       cases A3 with
       |true=>
        go_wp2_with fail;go_meet
        case rel=>exact⟨true,zzH (by cases t3<;>rfl),zzH (by rw [zzq17 _ _ _ _ _ _ HRk.out];rfl),zzH (Below.heap_setCell _ _ _ _ (by simp)),zzH (HBk.out.setCell (p:=⟨B+1,3,none⟩) (by simp) _)⟩
       |false=>
        go_wp2_with fail;go_meet
        case rel=>exact⟨t3,zzH (by cases t3<;>rfl),zzH (by rw [zzq17 _ _ _ _ _ _ HRk.out];rfl),zzH (Below.heap_setCell _ _ _ _ (by simp)),zzH (HBk.out.setCell (p:=⟨B+1,3,none⟩) (by simp) _)⟩
      case rest=>
       obtain⟨x3,HX3,HR2,H02,HB2⟩:=hcut;have H03:Hid (wc.heap[B]?=some (.cells #[.bool false,.bool false,.bool false,.bool false,.bool false,.bool false,.bool false,.bool false,.int .i64 0,.int .i64 0] 93 (0,0))):=zzH (H02.out.trans H0k.out)
       clear HRk H0k HBk H02 g3 hrl hfz;have HRk:=HR2;have H0k:=H03;have HBk:=HB2;clear HR2 H03 HB2;go_upto_region 9 with fail;have g4:wc.cell? ⟨B+1,4,none⟩=some (.bool A4):=by rw [zzq0 _ _ _ _ _ _ HRk.out];rfl
       have hrl:=zd HRk.out;have hfz:wc.frozen? ⟨B+1,4,none⟩=false:=Lib.frozen_of_heap HRk.out 4;go_cut [] (fun wx=> ∃x:Bool,Hid (x=(A4||t4))/\Hid (wx.heap[B+1]?=some (.cells #[.bool x0,.bool x1,.bool x2,.bool x3,.bool x,.bool A5,.bool A6,.bool A7,.int .i64 lo',.int .i64 hi'] 93 (0,0)))/\Hid (wx.heap[B]?=wc.heap[B]?)/\Hid (Below B w wx))
       case first=>
        cases A4 with
        |true=>
         go_wp2_with fail;go_meet
         case rel=>exact⟨true,zzH (by cases t4<;>rfl),zzH (by rw [zzq17 _ _ _ _ _ _ HRk.out];rfl),zzH (Below.heap_setCell _ _ _ _ (by simp)),zzH (HBk.out.setCell (p:=⟨B+1,4,none⟩) (by simp) _)⟩
        |false=>
         go_wp2_with fail;go_meet
         case rel=>exact⟨t4,zzH (by cases t4<;>rfl),zzH (by rw [zzq17 _ _ _ _ _ _ HRk.out];rfl),zzH (Below.heap_setCell _ _ _ _ (by simp)),zzH (HBk.out.setCell (p:=⟨B+1,4,none⟩) (by simp) _)⟩
       case rest=>
        obtain⟨x4,HX4,HR2,H02,HB2⟩:=hcut;have H03:Hid (wc.heap[B]?=some (.cells #[.bool false,.bool false,.bool false,.bool false,.bool false,.bool false,.bool false,.bool false,.int .i64 0,.int .i64 0] 93 (0,0))):=zzH (H02.out.trans H0k.out)
        clear HRk H0k HBk H02 g4 hrl hfz;have HRk:=HR2;have H0k:=H03;have HBk:=HB2;clear HR2 H03 HB2;go_upto_region 10 with fail;have g5:wc.cell? ⟨B+1,5,none⟩=some (.bool A5):=by rw [zzq0 _ _ _ _ _ _ HRk.out];rfl
        have hrl:=zd HRk.out;have hfz:wc.frozen? ⟨B+1,5,none⟩=false:=Lib.frozen_of_heap HRk.out 5;go_cut [] (fun wx=> ∃x:Bool,Hid (x=(A5||t5))/\Hid (wx.heap[B+1]?=some (.cells #[.bool x0,.bool x1,.bool x2,.bool x3,.bool x4,.bool x,.bool A6,.bool A7,.int .i64 lo',.int .i64 hi'] 93 (0,0)))/\Hid (wx.heap[B]?=wc.heap[B]?)/\Hid (Below B w wx))
        case first=>
         cases A5 with
         |true=>
          go_wp2_with fail;go_meet
          case rel=>exact⟨true,zzH (by cases t5<;>rfl),zzH (by rw [zzq17 _ _ _ _ _ _ HRk.out];rfl),zzH (Below.heap_setCell _ _ _ _ (by simp)),zzH (HBk.out.setCell (p:=⟨B+1,5,none⟩) (by simp) _)⟩
         |false=>
          go_wp2_with fail;go_meet
          case rel=>exact⟨t5,zzH (by cases t5<;>rfl),zzH (by rw [zzq17 _ _ _ _ _ _ HRk.out];rfl),zzH (Below.heap_setCell _ _ _ _ (by simp)),zzH (HBk.out.setCell (p:=⟨B+1,5,none⟩) (by simp) _)⟩
        case rest=>
         obtain⟨x5,HX5,HR2,H02,HB2⟩:=hcut;have H03:Hid (wc.heap[B]?=some (.cells #[.bool false,.bool false,.bool false,.bool false,.bool false,.bool false,.bool false,.bool false,.int .i64 0,.int .i64 0] 93 (0,0))):=zzH (H02.out.trans H0k.out)
         clear HRk H0k HBk H02 g5 hrl hfz;have HRk:=HR2;have H0k:=H03;have HBk:=HB2;clear HR2 H03 HB2;go_upto_region 11 with fail;have g6:wc.cell? ⟨B+1,6,none⟩=some (.bool A6):=by rw [zzq0 _ _ _ _ _ _ HRk.out];rfl
         have hrl:=zd HRk.out;have hfz:wc.frozen? ⟨B+1,6,none⟩=false:=Lib.frozen_of_heap HRk.out 6;go_cut [] (fun wx=> ∃x:Bool,Hid (x=(A6||t6))/\Hid (wx.heap[B+1]?=some (.cells #[.bool x0,.bool x1,.bool x2,.bool x3,.bool x4,.bool x5,.bool x,.bool A7,.int .i64 lo',.int .i64 hi'] 93 (0,0)))/\Hid (wx.heap[B]?=wc.heap[B]?)/\Hid (Below B w wx))
         case first=>
          cases A6 with
          |true=>
           go_wp2_with fail;go_meet
           case rel=>exact⟨true,zzH (by cases t6<;>rfl),zzH (by rw [zzq17 _ _ _ _ _ _ HRk.out];rfl),zzH (Below.heap_setCell _ _ _ _ (by simp)),zzH (HBk.out.setCell (p:=⟨B+1,6,none⟩) (by simp) _)⟩
          |false=>
           go_wp2_with fail;go_meet
           case rel=>exact⟨t6,zzH (by cases t6<;>rfl),zzH (by rw [zzq17 _ _ _ _ _ _ HRk.out];rfl),zzH (Below.heap_setCell _ _ _ _ (by simp)),zzH (HBk.out.setCell (p:=⟨B+1,6,none⟩) (by simp) _)⟩
         case rest=>
          obtain⟨x6,HX6,HR2,H02,HB2⟩:=hcut;have H03:Hid (wc.heap[B]?=some (.cells #[.bool false,.bool false,.bool false,.bool false,.bool false,.bool false,.bool false,.bool false,.int .i64 0,.int .i64 0] 93 (0,0))):=zzH (H02.out.trans H0k.out)
          clear HRk H0k HBk H02 g6 hrl hfz;have HRk:=HR2;have H0k:=H03;have HBk:=HB2;clear HR2 H03 HB2;go_upto_region 12 with fail;have g7:wc.cell? ⟨B+1,7,none⟩=some (.bool A7):=by rw [zzq0 _ _ _ _ _ _ HRk.out];rfl
          have hrl:=zd HRk.out;have hfz:wc.frozen? ⟨B+1,7,none⟩=false:=Lib.frozen_of_heap HRk.out 7
          cases A7 with
          |true=>
           go_wp2_with fail;have HR8:Hid ((wc.setCell ⟨B+1,7,none⟩ (.bool true)).heap[B+1]?=some (.cells (RRow.val ⟨x0,x1,x2,x3,x4,x5,x6,true,lo',hi'⟩) 93 (0,0))):=zzH (by rw [zzq17 _ _ _ _ _ _ HRk.out];rfl)
           have H08:Hid ((wc.setCell ⟨B+1,7,none⟩ (.bool true)).heap[B]?=some (.cells #[.bool false,.bool false,.bool false,.bool false,.bool false,.bool false,.bool false,.bool false,.int .i64 0,.int .i64 0] 93 (0,0))):=zzH ((Below.heap_setCell _ _ _ _ (by simp)).trans H0k.out)
           go_roundw
           case rel=>exact⟨k+1,⟨x0,x1,x2,x3,x4,x5,x6,true,lo',hi'⟩,by omega,by go_num,zzH (by rw [HST.out,HX0.out,HX1.out,HX2.out,HX3.out,HX4.out,HX5.out,HX6.out];cases t7<;>rfl),HR8,H08,zzH (HBk.out.setCell (p:=⟨B+1,7,none⟩) (by simp) _)⟩
           case measure=>simp [intOf];omega
          |false=>
           go_wp2_with fail;have HR8:Hid ((wc.setCell ⟨B+1,7,none⟩ (.bool t7)).heap[B+1]?=some (.cells (RRow.val ⟨x0,x1,x2,x3,x4,x5,x6,t7,lo',hi'⟩) 93 (0,0))):=zzH (by rw [zzq17 _ _ _ _ _ _ HRk.out];rfl)
           have H08:Hid ((wc.setCell ⟨B+1,7,none⟩ (.bool t7)).heap[B]?=some (.cells #[.bool false,.bool false,.bool false,.bool false,.bool false,.bool false,.bool false,.bool false,.int .i64 0,.int .i64 0] 93 (0,0))):=zzH ((Below.heap_setCell _ _ _ _ (by simp)).trans H0k.out)
           go_roundw
           case rel=>exact⟨k+1,⟨x0,x1,x2,x3,x4,x5,x6,t7,lo',hi'⟩,by omega,by go_num,zzH (by rw [HST.out,HX0.out,HX1.out,HX2.out,HX3.out,HX4.out,HX5.out,HX6.out];cases t7<;>rfl),HR8,H08,zzH (HBk.out.setCell (p:=⟨B+1,7,none⟩) (by simp) _)⟩
           case measure=>simp [intOf];omega
  ·have hke:k=s.size:=by omega
   have E:Hid ((⟨A0,A1,A2,A3,A4,A5,A6,A7,lo',hi'⟩:RRow)=zbc s.data.toList lo' hi'):=zzH (by rw [HRW.out,HE.out,hke]);clear hke HRW
   go_wp2_with (first
    |(refine wpList_load_row rfl 93 (.tmp 7) rfl (B+1) rfl _ _ _ _ HRk.out Tryz.underlying93 rfl (by kernel_rfl) ?_)
    |(refine zzm rfl 93 (.tmp 6) (.tmp 90) rfl B (RRow.val ⟨A0,A1,A2,A3,A4,A5,A6,A7,lo',hi'⟩) rfl rfl 93 _ H0k.out (by kernel_rfl) rfl (RRow.one _) ?_))
   have hres:=setRow_heap wr B _ (RRow.val ⟨A0,A1,A2,A3,A4,A5,A6,A7,lo',hi'⟩) 93 _ H0k.out;refine zzj (results_cell_row rfl _ _ B _ _ _ _ rfl hres Tryz.underlying93 rfl (by kernel_rfl)) rfl ?_;exact⟨by rw [E.out],by rw [HBE.out];exact below_setRow HBk.out (zzL _) _⟩
theorem zm8 (u:RUnit) (lo fo go co:zzA) (lc fc gc cc:Nat) (x:RIns) (so co' go':zzA) (sc cc' gc':Nat) (w:World) (hl:u.funcs.length<=9223372036854775807) (hl2:u.funs.length<=9223372036854775807) (hf:SlAt w 3 zbX go u.funs) (r1:I64 x.n) (r2:x.src.length<=9223372036854775807) (hop:x.op=5):
  Calls Tryz.prog 36 #[.agg (zzu u lo lc fo fc go gc co cc),.agg (zzi x so sc co' cc' go' gc')] w fun e w'=>e= .returned (.bool (zi u.funcs.length u.funs x))/\Below w.heap.size w w':=by
 unfold zzi zzu;obtain⟨r1a,r1b⟩:=r1;have HF:=zzH hf;have hw1:=zzV u.funcs.length (by omega)
 have hw2:=zzV u.funs.length (by omega)
 clear hf;have E:Hid (zi u.funcs.length u.funs x=wi x.n 0 254):=zzH (by unfold zi;rw [hop];rfl);have HOP:=zzH hop;clear hop;go_in;go_upto_region 1 with fail;obtain⟨hU,hX,hBW⟩:=zbA w u lo fo go co lc fc gc cc x so co' go' sc cc' gc';generalize hWW:(w.alloc (.cells (zzu u lo lc fo fc go gc co cc) 27)).alloc (.cells (zzi x so sc co' cc' go' gc') 47)=W at *;have c0:=hX.c0;have c3:=hX.c3;have c5:=hX.c5;have b3:=hU.c3;have b4:=hU.c4;have hlu:=hU.lt;have hlx:=hX.lt;have HBW:=zzH hBW;clear hU hX hBW hWW;rw [HOP.out]at c0;go_wp2_with (go_at_call 72;refine(zJ _ _ _ _).mono ?_;rintro e w1 ⟨rfl,rfl⟩);go_ret;exact⟨zl E.out.symm,HBW.out⟩
theorem znr (u:RUnit) (lo fo go co:zzA) (lc fc gc cc:Nat) (x:RIns) (so co' go':zzA) (sc cc' gc':Nat) (w:World) (hl:u.funcs.length<=9223372036854775807) (hl2:u.funs.length<=9223372036854775807) (hf:SlAt w 3 zbX go u.funs) (r1:I64 x.n) (r2:x.src.length<=9223372036854775807) (hop:x.op=9):
  Calls Tryz.prog 36 #[.agg (zzu u lo lc fo fc go gc co cc),.agg (zzi x so sc co' cc' go' gc')] w fun e w'=>e= .returned (.bool (zi u.funcs.length u.funs x))/\Below w.heap.size w w':=by
 unfold zzi zzu;obtain⟨r1a,r1b⟩:=r1;have HF:=zzH hf;have hw1:=zzV u.funcs.length (by omega)
 have hw2:=zzV u.funs.length (by omega)
 clear hf;have E:Hid (zi u.funcs.length u.funs x=wi x.n 0 255):=zzH (by unfold zi;rw [hop];rfl);have HOP:=zzH hop;clear hop;go_in;go_upto_region 1 with fail;obtain⟨hU,hX,hBW⟩:=zbA w u lo fo go co lc fc gc cc x so co' go' sc cc' gc';generalize hWW:(w.alloc (.cells (zzu u lo lc fo fc go gc co cc) 27)).alloc (.cells (zzi x so sc co' cc' go' gc') 47)=W at *;have c0:=hX.c0;have c3:=hX.c3;have c5:=hX.c5;have b3:=hU.c3;have b4:=hU.c4;have hlu:=hU.lt;have hlx:=hX.lt;have HBW:=zzH hBW;clear hU hX hBW hWW;rw [HOP.out]at c0;go_wp2_with (go_at_call 72;refine(zJ _ _ _ _).mono ?_;rintro e w1 ⟨rfl,rfl⟩);go_ret;exact⟨zl E.out.symm,HBW.out⟩
theorem zlj (u:RUnit) (lo fo go co:zzA) (lc fc gc cc:Nat) (x:RIns) (so co' go':zzA) (sc cc' gc':Nat) (w:World) (hl:u.funcs.length<=9223372036854775807) (hl2:u.funs.length<=9223372036854775807) (hf:SlAt w 3 zbX go u.funs) (r1:I64 x.n) (r2:x.src.length<=9223372036854775807) (hop:x.op=15):
  Calls Tryz.prog 36 #[.agg (zzu u lo lc fo fc go gc co cc),.agg (zzi x so sc co' cc' go' gc')] w fun e w'=>e= .returned (.bool (zi u.funcs.length u.funs x))/\Below w.heap.size w w':=by
 unfold zzi zzu;obtain⟨r1a,r1b⟩:=r1;have HF:=zzH hf;have hw1:=zzV u.funcs.length (by omega)
 have hw2:=zzV u.funs.length (by omega)
 clear hf;have E:Hid (zi u.funcs.length u.funs x=wi x.n 0 16):=zzH (by unfold zi;rw [hop];rfl);have HOP:=zzH hop;clear hop;go_in;go_upto_region 1 with fail;obtain⟨hU,hX,hBW⟩:=zbA w u lo fo go co lc fc gc cc x so co' go' sc cc' gc';generalize hWW:(w.alloc (.cells (zzu u lo lc fo fc go gc co cc) 27)).alloc (.cells (zzi x so sc co' cc' go' gc') 47)=W at *;have c0:=hX.c0;have c3:=hX.c3;have c5:=hX.c5;have b3:=hU.c3;have b4:=hU.c4;have hlu:=hU.lt;have hlx:=hX.lt;have HBW:=zzH hBW;clear hU hX hBW hWW;rw [HOP.out]at c0;go_wp2_with (go_at_call 72;refine(zJ _ _ _ _).mono ?_;rintro e w1 ⟨rfl,rfl⟩);go_ret;exact⟨zl E.out.symm,HBW.out⟩
theorem zlK (u:RUnit) (lo fo go co:zzA) (lc fc gc cc:Nat) (x:RIns) (so co' go':zzA) (sc cc' gc':Nat) (w:World) (hl:u.funcs.length<=9223372036854775807) (hl2:u.funs.length<=9223372036854775807) (hf:SlAt w 3 zbX go u.funs) (r1:I64 x.n) (r2:x.src.length<=9223372036854775807) (hop:x.op=18):
  Calls Tryz.prog 36 #[.agg (zzu u lo lc fo fc go gc co cc),.agg (zzi x so sc co' cc' go' gc')] w fun e w'=>e= .returned (.bool (zi u.funcs.length u.funs x))/\Below w.heap.size w w':=by
 unfold zzi zzu;obtain⟨r1a,r1b⟩:=r1;have HF:=zzH hf;have hw1:=zzV u.funcs.length (by omega)
 have hw2:=zzV u.funs.length (by omega)
 clear hf;have E:Hid (zi u.funcs.length u.funs x=wi x.n 0 16):=zzH (by unfold zi;rw [hop];rfl);have HOP:=zzH hop;clear hop;go_in;go_upto_region 1 with fail;obtain⟨hU,hX,hBW⟩:=zbA w u lo fo go co lc fc gc cc x so co' go' sc cc' gc';generalize hWW:(w.alloc (.cells (zzu u lo lc fo fc go gc co cc) 27)).alloc (.cells (zzi x so sc co' cc' go' gc') 47)=W at *;have c0:=hX.c0;have c3:=hX.c3;have c5:=hX.c5;have b3:=hU.c3;have b4:=hU.c4;have hlu:=hU.lt;have hlx:=hX.lt;have HBW:=zzH hBW;clear hU hX hBW hWW;rw [HOP.out]at c0;go_wp2_with (go_at_call 72;refine(zJ _ _ _ _).mono ?_;rintro e w1 ⟨rfl,rfl⟩);go_ret;exact⟨zl E.out.symm,HBW.out⟩
theorem zlr (u:RUnit) (lo fo go co:zzA) (lc fc gc cc:Nat) (x:RIns) (so co' go':zzA) (sc cc' gc':Nat) (w:World) (hl:u.funcs.length<=9223372036854775807) (hl2:u.funs.length<=9223372036854775807) (hf:SlAt w 3 zbX go u.funs) (r1:I64 x.n) (r2:x.src.length<=9223372036854775807) (hop:x.op=19):
  Calls Tryz.prog 36 #[.agg (zzu u lo lc fo fc go gc co cc),.agg (zzi x so sc co' cc' go' gc')] w fun e w'=>e= .returned (.bool (zi u.funcs.length u.funs x))/\Below w.heap.size w w':=by
 unfold zzi zzu;obtain⟨r1a,r1b⟩:=r1;have HF:=zzH hf;have hw1:=zzV u.funcs.length (by omega)
 have hw2:=zzV u.funs.length (by omega)
 clear hf;have E:Hid (zi u.funcs.length u.funs x=wi x.n 0 16):=zzH (by unfold zi;rw [hop];rfl);have HOP:=zzH hop;clear hop;go_in;go_upto_region 1 with fail;obtain⟨hU,hX,hBW⟩:=zbA w u lo fo go co lc fc gc cc x so co' go' sc cc' gc';generalize hWW:(w.alloc (.cells (zzu u lo lc fo fc go gc co cc) 27)).alloc (.cells (zzi x so sc co' cc' go' gc') 47)=W at *;have c0:=hX.c0;have c3:=hX.c3;have c5:=hX.c5;have b3:=hU.c3;have b4:=hU.c4;have hlu:=hU.lt;have hlx:=hX.lt;have HBW:=zzH hBW;clear hU hX hBW hWW;rw [HOP.out]at c0;go_wp2_with (go_at_call 72;refine(zJ _ _ _ _).mono ?_;rintro e w1 ⟨rfl,rfl⟩);go_ret;exact⟨zl E.out.symm,HBW.out⟩
theorem zla (u:RUnit) (lo fo go co:zzA) (lc fc gc cc:Nat) (x:RIns) (so co' go':zzA) (sc cc' gc':Nat) (w:World) (hl:u.funcs.length<=9223372036854775807) (hl2:u.funs.length<=9223372036854775807) (hf:SlAt w 3 zbX go u.funs) (r1:I64 x.n) (r2:x.src.length<=9223372036854775807) (hop:x.op=20):
  Calls Tryz.prog 36 #[.agg (zzu u lo lc fo fc go gc co cc),.agg (zzi x so sc co' cc' go' gc')] w fun e w'=>e= .returned (.bool (zi u.funcs.length u.funs x))/\Below w.heap.size w w':=by
 unfold zzi zzu;obtain⟨r1a,r1b⟩:=r1;have HF:=zzH hf;have hw1:=zzV u.funcs.length (by omega)
 have hw2:=zzV u.funs.length (by omega)
 clear hf;have E:Hid (zi u.funcs.length u.funs x=wi x.n 0 16):=zzH (by unfold zi;rw [hop];rfl);have HOP:=zzH hop;clear hop;go_in;go_upto_region 1 with fail;obtain⟨hU,hX,hBW⟩:=zbA w u lo fo go co lc fc gc cc x so co' go' sc cc' gc';generalize hWW:(w.alloc (.cells (zzu u lo lc fo fc go gc co cc) 27)).alloc (.cells (zzi x so sc co' cc' go' gc') 47)=W at *;have c0:=hX.c0;have c3:=hX.c3;have c5:=hX.c5;have b3:=hU.c3;have b4:=hU.c4;have hlu:=hU.lt;have hlx:=hX.lt;have HBW:=zzH hBW;clear hU hX hBW hWW;rw [HOP.out]at c0;go_wp2_with (go_at_call 72;refine(zJ _ _ _ _).mono ?_;rintro e w1 ⟨rfl,rfl⟩);go_ret;exact⟨zl E.out.symm,HBW.out⟩
theorem zk8 (u:RUnit) (lo fo go co:zzA) (lc fc gc cc:Nat) (x:RIns) (so co' go':zzA) (sc cc' gc':Nat) (w:World) (hl:u.funcs.length<=9223372036854775807) (hl2:u.funs.length<=9223372036854775807) (hf:SlAt w 3 zbX go u.funs) (r1:I64 x.n) (r2:x.src.length<=9223372036854775807) (hop:x.op=21):
  Calls Tryz.prog 36 #[.agg (zzu u lo lc fo fc go gc co cc),.agg (zzi x so sc co' cc' go' gc')] w fun e w'=>e= .returned (.bool (zi u.funcs.length u.funs x))/\Below w.heap.size w w':=by
 unfold zzi zzu;obtain⟨r1a,r1b⟩:=r1;have HF:=zzH hf;have hw1:=zzV u.funcs.length (by omega)
 have hw2:=zzV u.funs.length (by omega)
 clear hf;have E:Hid (zi u.funcs.length u.funs x=wi x.n 0 16):=zzH (by unfold zi;rw [hop];rfl);have HOP:=zzH hop;clear hop;go_in;go_upto_region 1 with fail;obtain⟨hU,hX,hBW⟩:=zbA w u lo fo go co lc fc gc cc x so co' go' sc cc' gc';generalize hWW:(w.alloc (.cells (zzu u lo lc fo fc go gc co cc) 27)).alloc (.cells (zzi x so sc co' cc' go' gc') 47)=W at *;have c0:=hX.c0;have c3:=hX.c3;have c5:=hX.c5;have b3:=hU.c3;have b4:=hU.c4;have hlu:=hU.lt;have hlx:=hX.lt;have HBW:=zzH hBW;clear hU hX hBW hWW;rw [HOP.out]at c0;go_wp2_with (go_at_call 72;refine(zJ _ _ _ _).mono ?_;rintro e w1 ⟨rfl,rfl⟩);go_ret;exact⟨zl E.out.symm,HBW.out⟩
theorem zlu (u:RUnit) (lo fo go co:zzA) (lc fc gc cc:Nat) (x:RIns) (so co' go':zzA) (sc cc' gc':Nat) (w:World) (hl:u.funcs.length<=9223372036854775807) (hl2:u.funs.length<=9223372036854775807) (hf:SlAt w 3 zbX go u.funs) (r1:I64 x.n) (r2:x.src.length<=9223372036854775807) (hop:x.op=24):
  Calls Tryz.prog 36 #[.agg (zzu u lo lc fo fc go gc co cc),.agg (zzi x so sc co' cc' go' gc')] w fun e w'=>e= .returned (.bool (zi u.funcs.length u.funs x))/\Below w.heap.size w w':=by
 unfold zzi zzu;obtain⟨r1a,r1b⟩:=r1;have HF:=zzH hf;have hw1:=zzV u.funcs.length (by omega)
 have hw2:=zzV u.funs.length (by omega)
 clear hf;have E:Hid (zi u.funcs.length u.funs x=wi x.n 1 8192):=zzH (by unfold zi;rw [hop];rfl);have HOP:=zzH hop;clear hop;go_in;go_upto_region 1 with fail;obtain⟨hU,hX,hBW⟩:=zbA w u lo fo go co lc fc gc cc x so co' go' sc cc' gc';generalize hWW:(w.alloc (.cells (zzu u lo lc fo fc go gc co cc) 27)).alloc (.cells (zzi x so sc co' cc' go' gc') 47)=W at *;have c0:=hX.c0;have c3:=hX.c3;have c5:=hX.c5;have b3:=hU.c3;have b4:=hU.c4;have hlu:=hU.lt;have hlx:=hX.lt;have HBW:=zzH hBW;clear hU hX hBW hWW;rw [HOP.out]at c0;go_wp2_with (go_at_call 72;refine(zJ _ _ _ _).mono ?_;rintro e w1 ⟨rfl,rfl⟩);go_ret;exact⟨zl E.out.symm,HBW.out⟩
theorem zlb (u:RUnit) (lo fo go co:zzA) (lc fc gc cc:Nat) (x:RIns) (so co' go':zzA) (sc cc' gc':Nat) (w:World) (hl:u.funcs.length<=9223372036854775807) (hl2:u.funs.length<=9223372036854775807) (hf:SlAt w 3 zbX go u.funs) (r1:I64 x.n) (r2:x.src.length<=9223372036854775807) (hop:x.op=31):
  Calls Tryz.prog 36 #[.agg (zzu u lo lc fo fc go gc co cc),.agg (zzi x so sc co' cc' go' gc')] w fun e w'=>e= .returned (.bool (zi u.funcs.length u.funs x))/\Below w.heap.size w w':=by
 unfold zzi zzu;obtain⟨r1a,r1b⟩:=r1;have HF:=zzH hf;have hw1:=zzV u.funcs.length (by omega)
 have hw2:=zzV u.funs.length (by omega)
 clear hf;have E:Hid (zi u.funcs.length u.funs x=wi x.n 0 3):=zzH (by unfold zi;rw [hop];rfl);have HOP:=zzH hop;clear hop;go_in;go_upto_region 1 with fail;obtain⟨hU,hX,hBW⟩:=zbA w u lo fo go co lc fc gc cc x so co' go' sc cc' gc';generalize hWW:(w.alloc (.cells (zzu u lo lc fo fc go gc co cc) 27)).alloc (.cells (zzi x so sc co' cc' go' gc') 47)=W at *;have c0:=hX.c0;have c3:=hX.c3;have c5:=hX.c5;have b3:=hU.c3;have b4:=hU.c4;have hlu:=hU.lt;have hlx:=hX.lt;have HBW:=zzH hBW;clear hU hX hBW hWW;rw [HOP.out]at c0;go_wp2_with (go_at_call 72;refine(zJ _ _ _ _).mono ?_;rintro e w1 ⟨rfl,rfl⟩);go_ret;exact⟨zl E.out.symm,HBW.out⟩
theorem zlM (u:RUnit) (lo fo go co:zzA) (lc fc gc cc:Nat) (x:RIns) (so co' go':zzA) (sc cc' gc':Nat) (w:World) (hl:u.funcs.length<=9223372036854775807) (hl2:u.funs.length<=9223372036854775807) (hf:SlAt w 3 zbX go u.funs) (r1:I64 x.n) (r2:x.src.length<=9223372036854775807) (hop:x.op=16):
  Calls Tryz.prog 36 #[.agg (zzu u lo lc fo fc go gc co cc),.agg (zzi x so sc co' cc' go' gc')] w fun e w'=>e= .returned (.bool (zi u.funcs.length u.funs x))/\Below w.heap.size w w':=by
 unfold zzi zzu;obtain⟨r1a,r1b⟩:=r1;have HF:=zzH hf;have hw1:=zzV u.funcs.length (by omega)
 have hw2:=zzV u.funs.length (by omega)
 clear hf;have E:Hid (zi u.funcs.length u.funs x=wi x.n 0 ((u.funcs.length:Int)-1)):=zzH (by unfold zi;rw [hop];rfl);have HOP:=zzH hop;clear hop;go_in;go_upto_region 1 with fail;obtain⟨hU,hX,hBW⟩:=zbA w u lo fo go co lc fc gc cc x so co' go' sc cc' gc';generalize hWW:(w.alloc (.cells (zzu u lo lc fo fc go gc co cc) 27)).alloc (.cells (zzi x so sc co' cc' go' gc') 47)=W at *;have c0:=hX.c0;have c3:=hX.c3;have c5:=hX.c5;have b3:=hU.c3;have b4:=hU.c4;have hlu:=hU.lt;have hlx:=hX.lt;have HBW:=zzH hBW;clear hU hX hBW hWW;rw [HOP.out]at c0;go_wp2_with (go_at_call 72;refine(zJ _ _ _ _).mono ?_;rintro e w1 ⟨rfl,rfl⟩);go_ret;exact⟨zl E.out.symm,HBW.out⟩
theorem zlU (u:RUnit) (lo fo go co:zzA) (lc fc gc cc:Nat) (x:RIns) (so co' go':zzA) (sc cc' gc':Nat) (w:World) (hl:u.funcs.length<=9223372036854775807) (hl2:u.funs.length<=9223372036854775807) (hf:SlAt w 3 zbX go u.funs) (r1:I64 x.n) (r2:x.src.length<=9223372036854775807) (hop:x.op=17):
  Calls Tryz.prog 36 #[.agg (zzu u lo lc fo fc go gc co cc),.agg (zzi x so sc co' cc' go' gc')] w fun e w'=>e= .returned (.bool (zi u.funcs.length u.funs x))/\Below w.heap.size w w':=by
 unfold zzi zzu;obtain⟨r1a,r1b⟩:=r1;have HF:=zzH hf;have hw1:=zzV u.funcs.length (by omega)
 have hw2:=zzV u.funs.length (by omega)
 clear hf;have E:Hid (zi u.funcs.length u.funs x=wi x.n 0 ((u.funcs.length:Int)-1)):=zzH (by unfold zi;rw [hop];rfl);have HOP:=zzH hop;clear hop;go_in;go_upto_region 1 with fail;obtain⟨hU,hX,hBW⟩:=zbA w u lo fo go co lc fc gc cc x so co' go' sc cc' gc';generalize hWW:(w.alloc (.cells (zzu u lo lc fo fc go gc co cc) 27)).alloc (.cells (zzi x so sc co' cc' go' gc') 47)=W at *;have c0:=hX.c0;have c3:=hX.c3;have c5:=hX.c5;have b3:=hU.c3;have b4:=hU.c4;have hlu:=hU.lt;have hlx:=hX.lt;have HBW:=zzH hBW;clear hU hX hBW hWW;rw [HOP.out]at c0;go_wp2_with (go_at_call 72;refine(zJ _ _ _ _).mono ?_;rintro e w1 ⟨rfl,rfl⟩);go_ret;exact⟨zl E.out.symm,HBW.out⟩
theorem zlD (u:RUnit) (lo fo go co:zzA) (lc fc gc cc:Nat) (x:RIns) (so co' go':zzA) (sc cc' gc':Nat) (w:World) (hl:u.funcs.length<=9223372036854775807) (hl2:u.funs.length<=9223372036854775807) (hf:SlAt w 3 zbX go u.funs) (r1:I64 x.n) (r2:x.src.length<=9223372036854775807) (hop:x.op=32):
  Calls Tryz.prog 36 #[.agg (zzu u lo lc fo fc go gc co cc),.agg (zzi x so sc co' cc' go' gc')] w fun e w'=>e= .returned (.bool (zi u.funcs.length u.funs x))/\Below w.heap.size w w':=by
 unfold zzi zzu;obtain⟨r1a,r1b⟩:=r1;have HF:=zzH hf;have hw1:=zzV u.funcs.length (by omega)
 have hw2:=zzV u.funs.length (by omega)
 clear hf;have E:Hid (zi u.funcs.length u.funs x=(decide (x.n=1)||decide (x.n=8))):=zzH (by unfold zi;rw [hop];rfl);have HOP:=zzH hop;clear hop;by_cases n1:x.n=1
 ·exact zz174
 ·exact zz173
theorem zlh (u:RUnit) (lo fo go co:zzA) (lc fc gc cc:Nat) (x:RIns) (so co' go':zzA) (sc cc' gc':Nat) (w:World) (hl:u.funcs.length<=9223372036854775807) (hl2:u.funs.length<=9223372036854775807) (hf:SlAt w 3 zbX go u.funs) (r1:I64 x.n) (r2:x.src.length<=9223372036854775807) (hop:x.op=33):
  Calls Tryz.prog 36 #[.agg (zzu u lo lc fo fc go gc co cc),.agg (zzi x so sc co' cc' go' gc')] w fun e w'=>e= .returned (.bool (zi u.funcs.length u.funs x))/\Below w.heap.size w w':=by
 unfold zzi zzu;obtain⟨r1a,r1b⟩:=r1;have HF:=zzH hf;have hw1:=zzV u.funcs.length (by omega)
 have hw2:=zzV u.funs.length (by omega)
 clear hf;have E:Hid (zi u.funcs.length u.funs x=(decide (x.n=1)||decide (x.n=8))):=zzH (by unfold zi;rw [hop];rfl);have HOP:=zzH hop;clear hop;by_cases n1:x.n=1
 ·exact zz174
 ·exact zz173
theorem zjl (u:RUnit) (lo fo go co:zzA) (lc fc gc cc:Nat) (x:RIns) (so co' go':zzA) (sc cc' gc':Nat) (w:World) (hl:u.funcs.length<=9223372036854775807) (hl2:u.funs.length<=9223372036854775807) (hf:SlAt w 3 zbX go u.funs) (r1:I64 x.n) (r2:x.src.length<=9223372036854775807) (h5: ¬x.op=5) (h9: ¬x.op=9) (h15: ¬x.op=15) (h18: ¬x.op=18) (h19: ¬x.op=19) (h20: ¬x.op=20) (h21: ¬x.op=21) (h24: ¬x.op=24) (h31: ¬x.op=31) (h16: ¬x.op=16) (h17: ¬x.op=17) (h32: ¬x.op=32) (h33: ¬x.op=33) (h4: ¬x.op=4):
  Calls Tryz.prog 36 #[.agg (zzu u lo lc fo fc go gc co cc),.agg (zzi x so sc co' cc' go' gc')] w fun e w'=>e= .returned (.bool (zi u.funcs.length u.funs x))/\Below w.heap.size w w':=by
 unfold zzi zzu;obtain⟨r1a,r1b⟩:=r1;have HF:=zzH hf;have hw1:=zzV u.funcs.length (by omega)
 have hw2:=zzV u.funs.length (by omega)
 clear hf;have E:Hid (zi u.funcs.length u.funs x=true):=zzH (by unfold zi;rw [if_neg h4,if_neg h5,if_neg h9,if_neg (by omega),if_neg (by omega),if_neg h24,if_neg h31,if_neg (by omega)]);have t5:(x.op==5)=false:=zzB.2 h5;have t9:(x.op==9)=false:=zzB.2 h9;have t15:(x.op==15)=false:=zzB.2 h15;have t18:(x.op==18)=false:=zzB.2 h18;have t19:(x.op==19)=false:=zzB.2 h19;have t20:(x.op==20)=false:=zzB.2 h20;have t21:(x.op==21)=false:=zzB.2 h21;have t24:(x.op==24)=false:=zzB.2 h24;have t31:(x.op==31)=false:=zzB.2 h31;have t16:(x.op==16)=false:=zzB.2 h16;have t17:(x.op==17)=false:=zzB.2 h17;have t32:(x.op==32)=false:=zzB.2 h32;have t33:(x.op==33)=false:=zzB.2 h33;have t4:(x.op==4)=false:=zzB.2 h4;clear h5 h9 h15 h18 h19 h20 h21 h24 h31 h16 h17 h32 h33 h4;go_in;go_upto_region 1 with fail;obtain⟨hU,hX,hBW⟩:=zbA w u lo fo go co lc fc gc cc x so co' go' sc cc' gc';generalize hWW:(w.alloc (.cells (zzu u lo lc fo fc go gc co cc) 27)).alloc (.cells (zzi x so sc co' cc' go' gc') 47)=W at *;have c0:=hX.c0;have c3:=hX.c3;have c5:=hX.c5;have b3:=hU.c3;have b4:=hU.c4;have hlu:=hU.lt;have hlx:=hX.lt;have HBW:=zzH hBW;clear hU hX hBW hWW;go_wp2;go_ret;exact⟨zl E.out.symm,HBW.out⟩
theorem znk (u:RUnit) (lo fo go co:zzA) (lc fc gc cc:Nat) (x:RIns) (so co' go':zzA) (sc cc' gc':Nat) (w:World) (hl:u.funcs.length<=9223372036854775807) (hl2:u.funs.length<=9223372036854775807) (hf:SlAt w 3 zbX go u.funs) (r1:I64 x.n) (r2:x.src.length<=9223372036854775807) (hop:x.op=4):
  Calls Tryz.prog 36 #[.agg (zzu u lo lc fo fc go gc co cc),.agg (zzi x so sc co' cc' go' gc')] w fun e w'=>e= .returned (.bool (zi u.funcs.length u.funs x))/\Below w.heap.size w w':=by
 unfold zzi zzu;obtain⟨r1a,r1b⟩:=r1;have HF:=zzH hf;have hw1:=zzV u.funcs.length (by omega)
 have hw2:=zzV u.funs.length (by omega)
 clear hf
 have E:Hid (zi u.funcs.length u.funs x=(wi x.n 0 ((u.funs.length:Int)-1)&&(match u.funs[x.n.toNat]? with
   |some f=>decide ((x.src.length:Int)=f.free)
   |none=>false))):=zzH (by unfold zi;rw [hop];rfl)
 have HOP:=zzH hop;clear hop
 cases hw:wi x.n 0 ((u.funs.length:Int)-1)with
 |false=>
  have E2:Hid (zi u.funcs.length u.funs x=false):=zzH (by rw [E.out,hw];rfl)
  have hwr: ∀wx,Calls Tryz.prog 72 #[.int .i64 x.n,.int .i64 0,.int .i64 ((u.funs.length:Int)-1)] wx fun e w'=>e= .returned (.bool false)/\w'=wx:=fun wx=>by
   have:=zJ x.n 0 ((u.funs.length:Int)-1) wx;rw [hw]at this;exact zz40
  clear hw E;go_in;go_upto_region 1 with fail;obtain⟨hU,hX,hBW⟩:=zbA w u lo fo go co lc fc gc cc x so co' go' sc cc' gc';generalize hWW:(w.alloc (.cells (zzu u lo lc fo fc go gc co cc) 27)).alloc (.cells (zzi x so sc co' cc' go' gc') 47)=W at *;have c0:=hX.c0;have c3:=hX.c3;have c5:=hX.c5;have b3:=hU.c3;have b4:=hU.c4;have hlu:=hU.lt;have hlx:=hX.lt;have HBW:=zzH hBW;clear hU hX hBW hWW;rw [HOP.out]at c0;go_wp2_with fail;go_quiet ((go_at_call 72;exact zze (hwr _)));go_wp2;go_ret;exact⟨zl E2.out.symm,zm HBW.out _⟩
 |true=>
  have hr:0<=x.n/\x.n<=(u.funs.length:Int)-1:=by
   unfold wi at hw;rw [zzq4,zzq8,zzq8]at hw;exact hw
  obtain⟨m,hm⟩:=zzJ hr.1;have hml:m<u.funs.length:=by omega
  have E2:Hid (zi u.funcs.length u.funs x=decide ((x.src.length:Int)=u.funs[m].free)):=zzH (by
   rw [E.out,hw,hm];have:u.funs[(((m:Nat):Int)).toNat]?=some u.funs[m]:=by rw [zzq11];exact zzq3 hml
   rw [this];rfl)
  have hwr: ∀wx,Calls Tryz.prog 72 #[.int .i64 (m:Int),.int .i64 0,.int .i64 ((u.funs.length:Int)-1)] wx fun e w'=>e= .returned (.bool true)/\w'=wx:=fun wx=>by
   have:=zJ (m:Int) 0 ((u.funs.length:Int)-1) wx;rw [<-hm,hw]at this;rw [<-hm];exact zz40
  have HM:=zzH hm;clear hw hr E r1a r1b hm;by_cases hz:(x.src.length:Int)=u.funs[m].free
  ·have E3:Hid (zi u.funcs.length u.funs x=true):=zzH (by rw [E2.out,decide_eq_true hz])
   have t:((x.src.length:Int)==u.funs[m].free)=true:=by rw [hz];exact beq_self_eq_true _
   exact zz175
  ·have E3:Hid (zi u.funcs.length u.funs x=false):=zzH (by rw [E2.out,decide_eq_false hz])
   have t:((x.src.length:Int)==u.funs[m].free)=false:=zzB.2 hz;exact zz175
theorem zj8 (u:RUnit) (lo fo go co:zzA) (lc fc gc cc:Nat) (x:RIns) (so co' go':zzA) (sc cc' gc':Nat) (w:World) (hl:u.funcs.length<=9223372036854775807) (hl2:u.funs.length<=9223372036854775807) (hf:SlAt w 3 zbX go u.funs) (r1:I64 x.n) (r2:x.src.length<=9223372036854775807):
  Calls Tryz.prog 36 #[.agg (zzu u lo lc fo fc go gc co cc),.agg (zzi x so sc co' cc' go' gc')] w fun e w'=>e= .returned (.bool (zi u.funcs.length u.funs x))/\Below w.heap.size w w':=by
 unfold zzi zzu;by_cases h5:x.op=5
 ·exact zm8 u lo fo go co lc fc gc cc x so co' go' sc cc' gc' w hl hl2 hf r1 r2 h5
 by_cases h9:x.op=9
 ·exact znr u lo fo go co lc fc gc cc x so co' go' sc cc' gc' w hl hl2 hf r1 r2 h9
 by_cases h15:x.op=15
 ·exact zlj u lo fo go co lc fc gc cc x so co' go' sc cc' gc' w hl hl2 hf r1 r2 h15
 by_cases h18:x.op=18
 ·exact zlK u lo fo go co lc fc gc cc x so co' go' sc cc' gc' w hl hl2 hf r1 r2 h18
 by_cases h19:x.op=19
 ·exact zlr u lo fo go co lc fc gc cc x so co' go' sc cc' gc' w hl hl2 hf r1 r2 h19
 by_cases h20:x.op=20
 ·exact zla u lo fo go co lc fc gc cc x so co' go' sc cc' gc' w hl hl2 hf r1 r2 h20
 by_cases h21:x.op=21
 ·exact zk8 u lo fo go co lc fc gc cc x so co' go' sc cc' gc' w hl hl2 hf r1 r2 h21
 by_cases h24:x.op=24
 ·exact zlu u lo fo go co lc fc gc cc x so co' go' sc cc' gc' w hl hl2 hf r1 r2 h24
 by_cases h31:x.op=31
 ·exact zlb u lo fo go co lc fc gc cc x so co' go' sc cc' gc' w hl hl2 hf r1 r2 h31
 by_cases h16:x.op=16
 ·exact zlM u lo fo go co lc fc gc cc x so co' go' sc cc' gc' w hl hl2 hf r1 r2 h16
 by_cases h17:x.op=17
 ·exact zlU u lo fo go co lc fc gc cc x so co' go' sc cc' gc' w hl hl2 hf r1 r2 h17
 by_cases h32:x.op=32
 ·exact zlD u lo fo go co lc fc gc cc x so co' go' sc cc' gc' w hl hl2 hf r1 r2 h32
 by_cases h33:x.op=33
 ·exact zlh u lo fo go co lc fc gc cc x so co' go' sc cc' gc' w hl hl2 hf r1 r2 h33
 by_cases h4:x.op=4
 ·exact znk u lo fo go co lc fc gc cc x so co' go' sc cc' gc' w hl hl2 hf r1 r2 h4
 exact zjl u lo fo go co lc fc gc cc x so co' go' sc cc' gc' w hl hl2 hf r1 r2 h5 h9 h15 h18 h19 h20 h21 h24 h31 h16 h17 h32 h33 h4
def zd4 (code:List RIns) (i:Nat) (x:RIns) (g:Bool):Bool:=
 if x.op=39\/x.op=40 then wi x.to 0 ((code.length:Int)-1)&&(zfW code x.to==37)
 else x.cases.all (fun c=>wi c.to ((i:Int)+1) ((code.length:Int)-1))&&(!g||wi x.to ((i:Int)+1) ((code.length:Int)-1))
theorem zj1 (code:List RIns) (i:Nat) (x:RIns) (h:Nat):zd4 code i x (zx h 64)=zbK code i x h:=rfl
theorem zqh {n a b:Int} (h:wi n a b=true):a<=n/\n<=b:=by
 unfold wi at h;rw [zzq4,zzq8,zzq8]at h;exact h
theorem znS (w:World) (u:RUnit) (lo fo go co:zzA) (lc fc gc cc:Nat) (cs:Array Value):UBox ((w.alloc (.cells #[.string u.mdl,.int .i64 u.vsn,.slice lo u.lits.length lc,.slice fo u.funcs.length fc,.slice go u.funs.length gc,.slice co u.code.length cc] 27)).alloc (.cells cs 93)) w.heap.size u lo fo go co lc fc gc cc/\((w.alloc (.cells #[.string u.mdl,.int .i64 u.vsn,.slice lo u.lits.length lc,.slice fo u.funcs.length fc,.slice go u.funs.length gc,.slice co u.code.length cc] 27)).alloc (.cells cs 93)).heap[w.heap.size+1]?=some (.cells cs 93 (0,0))/\Below w.heap.size w ((w.alloc (.cells #[.string u.mdl,.int .i64 u.vsn,.slice lo u.lits.length lc,.slice fo u.funcs.length fc,.slice go u.funs.length gc,.slice co u.code.length cc] 27)).alloc (.cells cs 93)):=by
 have s:(w.alloc (.cells (zzu u lo lc fo fc go gc co cc) 27)).heap.size=w.heap.size+1:=by simp
 refine⟨⟨(Below.heap_alloc _ _ _ (by rw [s];omega)).trans (zzF _ _)⟩,?_,(zzE _ _).alloc (by rw [s];omega) _⟩;rw [<-s];exact zzF _ _
theorem zjh (u:RUnit) (lo fo go co:zzA) (lc fc gc cc:Nat) (i:Nat) (r:RRow) (w:World) (hcode:SlAt w 10 (InsR w) co u.code) (hcl:u.code.length<=9223372036854775807) (hi:i<u.code.length):
  Calls Tryz.prog 39 #[.agg (zzu u lo lc fo fc go gc co cc),.int .i64 i,.agg r.val] w fun e w'=>e= .returned (.bool (zd4 u.code i u.code[i] r.g))/\Below w.heap.size w w':=by
 unfold zzu;obtain⟨a,b,c,d,e,f,g,h,l1,l2⟩:=r
 have HT:Hid (∀x g,zd4 u.code i x g=if x.op=39\/x.op=40 then wi x.to 0 ((u.code.length:Int)-1)&&(zfW u.code x.to==37)
  else x.cases.all (fun c=>wi c.to ((i:Int)+1) ((u.code.length:Int)-1))&&(!g||wi x.to ((i:Int)+1) ((u.code.length:Int)-1))):=zzH (fun x g=>rfl)
 have HTX0:=zzH (HT.out u.code[i] g);have HCO:=zzH hcode;clear hcode HT;generalize zd4 u.code i u.code[i] g=tv at *;have hw1:=zzV u.code.length (by omega)
 have hw2:IntKind.i64.wrap ((i:Int)+1)=(i:Int)+1:=by rw [zzq2];omega
 simp only [RRow.val];go_in;go_upto_region 1 with fail;obtain⟨hU,hR,hBW⟩:=znS w u lo fo go co lc fc gc cc #[.bool a,.bool b,.bool c,.bool d,.bool e,.bool f,.bool g,.bool h,.int .i64 l1,.int .i64 l2];have HBW:=zzH hBW;clear hBW;generalize(w.alloc (.cells (zzu u lo lc fo fc go gc co cc) 27)).alloc (.cells #[.bool a,.bool b,.bool c,.bool d,.bool e,.bool f,.bool g,.bool h,.int .i64 l1,.int .i64 l2] 93)=W at *;obtain⟨bc,oc,so,co',go',sc,cc',gc',hco,hxb⟩:=zdl (HCO.out.mono HBW.out fun _ _ hh=>hh.below HBW.out) hi;subst hco;have k0:=hxb.c0;have k1:=hxb.c1;have k2:=hxb.c2;have k3:=hxb.c3;have k4:=hxb.c4;have k5:=hxb.c5;have k6:=hxb.c6;have k7:=hxb.c7;have k8:=hxb.c8;have k9:=hxb.c9;have hkl:=hxb.lt;have HCS:=zzH hxb.cases;have s2:=hxb.rto;have s3:=hxb.rcases;clear hxb;have b5:=hU.c5;have hlu:=hU.lt;have HU:=zzH hU;have HRB:=zzH hR;clear hU hR;have HTX:=HTX0;clear HTX0;generalize u.code[i]=x at *;obtain⟨op,⟨dk,dn⟩,src,jt,nn,lv,nm,cases,segs⟩:=x;simp only at k0 k1 k2 k3 k4 k5 k6 k7 k8 k9 s2 s3 HCS HTX;generalize src.length=sl at *;generalize segs.length=gl at *;obtain⟨s2a,s2b⟩:=s2;generalize hBz:w.heap.size=B at *;have HBZ:=zzH hBz;clear hBz;go_upto_region 2 with fail;have hLx:=zzF W (.cells #[.int .i64 op,.int .i64 dk,.int .i64 dn,.slice so sl sc,.int .i64 jt,.int .i64 nn,.int .i64 lv,.string nm,.slice co' cases.length cc',.slice go' gl gc'] 47);have hLb:=(zzR W.heap.size W).alloc (zzL _) (.cells #[.int .i64 op,.int .i64 dk,.int .i64 dn,.slice so sl sc,.int .i64 jt,.int .i64 nn,.int .i64 lv,.string nm,.slice co' cases.length cc',.slice go' gl gc'] 47);generalize hWxe:W.alloc (.cells #[.int .i64 op,.int .i64 dk,.int .i64 dn,.slice so sl sc,.int .i64 jt,.int .i64 nn,.int .i64 lv,.string nm,.slice co' cases.length cc',.slice go' gl gc'] 47)=Wx at *;have HLX:=zzH hLx;have HLB:=zzH hLb;clear hLx hLb hWxe k0 k1 k2 k3 k4 k5 k6 k7 k8 k9 b5 hlu hkl;generalize hLe:W.heap.size=LB at *;have HLE:=zzH hLe;clear hLe;have HFIN:Hid (∀wx,Below Wx.heap.size Wx wx->Below B w wx):=zzH (fun wx hh=>HBW.out.trans ((HLB.out.trans (hh.mono (by have:=HLB.out.size;have:=HLE.out;omega))).mono (by have:=HBW.out.size;have:=HBZ.out;have:=HLE.out;omega)));have hL2:=((zzR Wx.heap.size Wx).block LB (zd HLX.out)).trans HLX.out;have hLl:=zd hL2;have e0:Wx.cell? ⟨LB,0,none⟩=some (.int .i64 op):=by rw [zzq0 _ _ _ _ _ _ hL2];rfl
 have e4:Wx.cell? ⟨LB,4,none⟩=some (.int .i64 jt):=by rw [zzq0 _ _ _ _ _ _ hL2];rfl
 have e8:Wx.cell? ⟨LB,8,none⟩=some (.slice co' cases.length cc'):=by rw [zzq0 _ _ _ _ _ _ hL2];rfl
 have hWB:Below W.heap.size W Wx:=by rw [HLE.out];exact HLB.out.trans ((zzR Wx.heap.size Wx).mono (by have:=HLB.out.size;have:=HLE.out;omega))
 have b5:=(HU.out.below hWB).c5;have hlu:=(HU.out.below hWB).lt;have hR2:=(hWB.block _ (zd HRB.out)).trans HRB.out;have hlr:=zd hR2;have q6:Wx.cell? ⟨B+1,6,none⟩=some (.bool g):=by rw [zzq0 _ _ _ _ _ _ hR2];rfl
 clear hL2 hWB hR2;by_cases hop:op=39\/op=40
 ·rw [if_pos hop]at HTX
  have HOP:=zzH hop
  cases hv:wi jt 0 ((u.code.length:Int)-1)with
  |false=>
   have E:Hid (tv=false):=zzH (by rw [HTX.out,hv];rfl)
   have hwr: ∀wx,Calls Tryz.prog 72 #[.int .i64 jt,.int .i64 0,.int .i64 ((u.code.length:Int)-1)] wx fun e w'=>e= .returned (.bool false)/\w=w/\wx=w':=fun wx=>by
    have:=zJ jt 0 ((u.code.length:Int)-1) wx;rw [hv]at this;exact this.mono fun _ _ ⟨a,b⟩=>⟨a,rfl,b⟩
   have HWR:=zzH hwr;clear hv hwr hop;exact zz187
  |true=>
   have hr:=zqh hv;obtain⟨m,rfl⟩:=zzJ hr.1;have hml:m<u.code.length:=by omega
   have hwr: ∀wx,Calls Tryz.prog 72 #[.int .i64 (m:Int),.int .i64 0,.int .i64 ((u.code.length:Int)-1)] wx fun e w'=>e= .returned (.bool true)/\w=w/\wx=w':=fun wx=>by
    have:=zJ (m:Int) 0 ((u.code.length:Int)-1) wx;rw [hv]at this;exact this.mono fun _ _ ⟨a,b⟩=>⟨a,rfl,b⟩
   have HWR:=zzH hwr;obtain⟨bc',oc',_,_,_,_,_,_,hco2,hxb2⟩:=zdl (HCO.out.mono (by rw [HBZ.out];exact HFIN.out _ (zzR _ _)) fun _ _ hh=>hh.below (by rw [HBZ.out];exact HFIN.out _ (zzR _ _))) hml;obtain⟨rfl,rfl⟩:bc=bc'/\oc=oc':=by injection hco2 with e9;injection e9 with e1 e2;exact⟨e1,e2⟩
   have z0:=hxb2.c0;have hzl:=hxb2.lt;have hoa:zfW u.code (m:Int)=u.code[m].op:=by unfold zfW;rw [zzq11,zzq3 hml];rfl
   have HTX2:Hid (tv=(u.code[m].op==37)):=zzH (by rw [HTX.out,hv,hoa];rfl);clear hv hwr hop hr hco2 hxb2 hoa;generalize u.code[m].op=op2 at *
   cases hq:(op2==37)with
   |false=>
    have E:Hid (tv=false):=zzH (by rw [HTX2.out,hq]);exact zz187
   |true=>
    have E:Hid (tv=true):=zzH (by rw [HTX2.out,hq]);exact zz187
 ·rw [if_neg hop]at HTX
  have p1:(op==39)=false:=zzB.2 (fun h=>hop (.inl h));have p2:(op==40)=false:=zzB.2 (fun h=>hop (.inr h));clear hop;go_wp2_with fail;go_loopw [8] (fun kv wr=> ∃k:Nat,k<=cases.length/\kv= .int .i64 k/\Hid (∀j (hj:j<cases.length),j<k->wi cases[j].to ((i:Int)+1) ((u.code.length:Int)-1)=true)/\Hid (Below Wx.heap.size Wx wr)) (fun kv _=>cases.length-(intOf kv).toNat)
  case atStart=>exact⟨0,zzZ _,rfl,zzH (fun j _ hj=>absurd hj (zzC _)),zzH (zzR _ _)⟩
  case round=>
   obtain⟨k,hk,rfl,HK,HBk⟩:=hrel;rename World=>wr
   clear e0 e4 e8 q6 b5;have hL2:=(HBk.out.block LB (zd HLX.out)).trans HLX.out;have hLl:=zd hL2;have e0:wr.cell? ⟨LB,0,none⟩=some (.int .i64 op):=by rw [zzq0 _ _ _ _ _ _ hL2];rfl
   have e4:wr.cell? ⟨LB,4,none⟩=some (.int .i64 jt):=by rw [zzq0 _ _ _ _ _ _ hL2];rfl
   have e8:wr.cell? ⟨LB,8,none⟩=some (.slice co' cases.length cc'):=by rw [zzq0 _ _ _ _ _ _ hL2];rfl
   have hWB:Below W.heap.size W wr:=by rw [HLE.out];exact HLB.out.trans (HBk.out.mono (by have:=HLB.out.size;have:=HLE.out;omega))
   have b5:=(HU.out.below hWB).c5;have hlu:=(HU.out.below hWB).lt;have hR2:=(hWB.block _ (zd HRB.out)).trans HRB.out;have hlr:=zd hR2;have q6:wr.cell? ⟨B+1,6,none⟩=some (.bool g):=by rw [zzq0 _ _ _ _ _ _ hR2];rfl
   clear hL2 hWB hR2;by_cases hkl:k<cases.length
   ·obtain⟨b2,off,hao,hb2,q0,q1,i0,i1⟩:=(HCS.out.mono (by rw [HLE.out];exact HLB.out.trans (HBk.out.mono (by have:=HLB.out.size;have:=HLE.out;omega))) fun _ _ h=>h).case hkl
    subst hao
    have HE:Hid (wi cases[k].to ((i:Int)+1) ((u.code.length:Int)-1)=false->tv=false):=zzH (fun hf=>by
     have:cases.all (fun c=>wi c.to ((i:Int)+1) ((u.code.length:Int)-1))=false:=by
      rw [List.all_eq_false];exact⟨cases[k],zzM hkl,by rw [hf];decide⟩
     rw [HTX.out,this];rfl)
    have HN:Hid (wi cases[k].to ((i:Int)+1) ((u.code.length:Int)-1)=true-> ∀j (hj:j<cases.length),j<k+1->wi cases[j].to ((i:Int)+1) ((u.code.length:Int)-1)=true):=zzH (fun hne j hj hjk=>by
     rcases Nat.eq_or_lt_of_le (Nat.le_of_lt_succ hjk)with e9|e9
     ·subst e9;exact hne
     ·exact HK.out j hj e9)
    generalize cases[k]=ca at *;have hwr: ∀wx,Calls Tryz.prog 72 #[.int .i64 ca.to,.int .i64 ((i:Int)+1),.int .i64 ((u.code.length:Int)-1)] wx fun e w'=>e= .returned (.bool (wi ca.to ((i:Int)+1) ((u.code.length:Int)-1)))/\w'=wx:=fun wx=>(zJ ca.to ((i:Int)+1) ((u.code.length:Int)-1) wx).mono fun _ _ ⟨a,b⟩=>⟨a,b.symm⟩
    cases hv:wi ca.to ((i:Int)+1) ((u.code.length:Int)-1)with
    |false=>
     have E:=zzH (HE.out hv);rw [hv]at hwr;clear hv HE HN;go_wp2_with fail;go_quiet ((go_at_call 72;exact zze (hwr _)));go_wp2;go_ret;exact⟨zl E.out.symm,by rw [HBZ.out];exact HFIN.out _ (zm HBk.out _)⟩
    |true=>
     have HN2:=zzH (HN.out hv);rw [hv]at hwr;clear hv HE HN;go_wp2_with fail;go_quiet ((go_at_call 72;exact zze (hwr _)));go_wp2_with fail;go_roundw
     case rel=>exact⟨k+1,by omega,by go_num,HN2,zzH (zm HBk.out _)⟩
     case measure=>simp [intOf];omega
   ·have HALL:Hid (cases.all (fun c=>wi c.to ((i:Int)+1) ((u.code.length:Int)-1))=true):=zzH (by
     rw [List.all_eq_true];intro ca ha;obtain⟨j,hj,rfl⟩:=List.getElem_of_mem ha;exact HK.out j hj (by omega))
    have HTX2:Hid (tv=(!g||wi jt ((i:Int)+1) ((u.code.length:Int)-1))):=zzH (by rw [HTX.out,HALL.out];rfl);clear HALL HTX
    cases g with
    |false=>
     have E:Hid (tv=true):=zzH (by rw [HTX2.out];rfl);exact zz186
    |true=>
     have E:Hid (tv=wi jt ((i:Int)+1) ((u.code.length:Int)-1)):=zzH (by rw [HTX2.out];rfl);go_wp2_with fail;refine(zJ _ _ _ _).mono ?_;rintro e9 w1 ⟨rfl,rfl⟩;exact zz186
end Go.Proofs.YthajedcbgnloeaaGreatDoor
