/- part 6 -/
import Derived.Test.YtlaabicdhkebbaaGreatDoorGetsAll02
import Derived.Test.YtlaabicdhkebbaaGreatDoorGetsAll03
import Derived.Test.YtlaabicdhkebbaaGreatDoorGetsAll04
namespace Go.Proofs.YtlaabicdhkebbaaGreatDoor
open Go.RowKit
set_option linter.unusedVariables false
set_option linter.unusedSimpArgs false
set_option maxRecDepth 100000
set_option maxHeartbeats 80000000
theorem zqz {k b:Nat} (hk:0<k):zbo k b=decide (97<=b/\b<=122∨65<=b/\b<=90∨48<=b/\b<=57∨b=95∨b=64):=by
 unfold zbo;rw [decide_eq_decide];constructor
 ·rintro(h|⟨_,h⟩)
  ·exact .inl h
  ·exact .inr h
 ·rintro(h|h)
  ·exact .inl h
  ·exact .inr ⟨hk,h⟩
theorem zoP (b:Nat):zbo 0 b=decide (97<=b/\b<=122):=by
 unfold zbo;rw [decide_eq_decide];constructor
 ·rintro(h|⟨h,_⟩)
  ·exact h
  ·omega
 ·exact .inl
theorem zdI (s:ByteArray) (w:World) (hs:s.size<=maxLen):Calls Tryz.prog 98 #[.string s] w fun e w'=>e= .returned (.bool (zB s))/\w=w':=by
 unfold maxLen at hs;by_cases h0:s.size<1
 ·exact zz128
 ·by_cases h1:32<s.size
  ·exact zz128
  ·have hpos:0<s.size:=by omega
   have HB:=zzH (@zg6 s 0 hpos);have HZ:=zzH (zoP (s[0]'hpos).toNat);by_cases c0:(s[0]'hpos).toNat<97
   ·exact zz127
   ·by_cases c1:122<(s[0]'hpos).toNat
    ·exact zz127
    ·have HK0:Hid (∀j (h:j<s.size),j<1->zbo j s[j].toNat=true):=zzH (fun j h hj=>by
      obtain rfl:j=0:=by omega
      rw [HZ.out];exact zzT (by omega))
     go_in;go_wp2_with fail;go_loop [3] (fun iv=> ∃k:Nat,1<=k/\k<=s.size/\iv= .int .i64 k/\Hid (∀j (h:j<s.size),j<k->zbo j s[j].toNat=true)) (fun iv=>s.size-(intOf iv).toNat)
     case atStart=>exact⟨1,zzL _,by omega,by go_num,HK0⟩
     case round=>
      obtain⟨k,hk1,hk,rfl,HK⟩:=hrel;clear c0 c1;by_cases hlt:k<s.size
      ·have HP:=zzH (zqz (b:=s[k].toNat) hk1)
       have HBK:=zzH (@zg6 s k hlt)
       have HN:Hid (zbo k s[k].toNat=true-> ∀j (h:j<s.size),j<k+1->zbo j s[j].toNat=true):=zzH (fun hne j h hj=>by
        rcases Nat.eq_or_lt_of_le (Nat.le_of_lt_succ hj)with e|e
        ·subst e;exact hne
        ·exact HK.out j h e)
       go_upto_region 7 with fail;generalize s[k].toNat=b at *;have hcl:(97<=b/\b<=122)∨(65<=b/\b<=90)∨(48<=b/\b<=57)∨(b=95)∨(b=64)∨(123<=b)∨(91<=b/\b<=96/\b≠95)∨(58<=b/\b<=63)∨(b<48):=by omega
       rcases hcl with hc|hc|hc|hc|hc|hc|hc|hc|hc
       ·have e0:decide ((97:Int)<=(b:Int))=true:=zzT (by omega)
        have e1:decide ((b:Int)<=122)=true:=zzT (by omega);have e2:decide ((65:Int)<=(b:Int))=true:=zzT (by omega);have e3:decide ((b:Int)<=90)=false:=zzD (by omega);exact zz126
       ·have e0:decide ((97:Int)<=(b:Int))=false:=zzD (by omega)
        have e1:decide ((b:Int)<=122)=true:=zzT (by omega);have e2:decide ((65:Int)<=(b:Int))=true:=zzT (by omega);have e3:decide ((b:Int)<=90)=true:=zzT (by omega);exact zz126
       ·have e0:decide ((97:Int)<=(b:Int))=false:=zzD (by omega)
        have e1:decide ((b:Int)<=122)=true:=zzT (by omega);have e2:decide ((65:Int)<=(b:Int))=false:=zzD (by omega);have e3:decide ((b:Int)<=90)=true:=zzT (by omega);have e4:decide ((48:Int)<=(b:Int))=true:=zzT (by omega);have e5:decide ((b:Int)<=57)=true:=zzT (by omega);have e6:((b:Int)!=95)=true:=by rw [bne_iff_ne];omega
        exact zz207
       ·have e0:decide ((97:Int)<=(b:Int))=false:=zzD (by omega)
        have e1:decide ((b:Int)<=122)=true:=zzT (by omega);have e2:decide ((65:Int)<=(b:Int))=true:=zzT (by omega);have e3:decide ((b:Int)<=90)=false:=zzD (by omega);have e4:decide ((48:Int)<=(b:Int))=true:=zzT (by omega);have e5:decide ((b:Int)<=57)=false:=zzD (by omega);have e6:((b:Int)!=95)=false:=by rw [bne_eq_false_iff_eq];omega
        exact zz207
       ·have e0:decide ((97:Int)<=(b:Int))=false:=zzD (by omega)
        have e1:decide ((b:Int)<=122)=true:=zzT (by omega);have e2:decide ((65:Int)<=(b:Int))=false:=zzD (by omega);have e3:decide ((b:Int)<=90)=true:=zzT (by omega);have e4:decide ((48:Int)<=(b:Int))=true:=zzT (by omega);have e5:decide ((b:Int)<=57)=false:=zzD (by omega);have e6:((b:Int)!=95)=true:=by rw [bne_iff_ne];omega
        have e7:((b:Int)!=64)=false:=by rw [bne_eq_false_iff_eq];omega
        have HN2:=zzH (HN.out (by rw [HP.out];exact zzT (by omega)));clear hc HP HBK HN;go_wp2_with fail;go_round
        case rel=>exact⟨k+1,by omega,by omega,by go_num,HN2⟩
        case measure=>simp [intOf];omega
       ·have e0:decide ((97:Int)<=(b:Int))=true:=zzT (by omega)
        have e1:decide ((b:Int)<=122)=false:=zzD (by omega);exact zz125
       ·have e0:decide ((97:Int)<=(b:Int))=false:=zzD (by omega)
        have e1:decide ((b:Int)<=122)=true:=zzT (by omega);exact zz125
       ·have e0:decide ((97:Int)<=(b:Int))=false:=zzD (by omega)
        have e1:decide ((b:Int)<=122)=true:=zzT (by omega);have e2:decide ((65:Int)<=(b:Int))=false:=zzD (by omega);have e3:decide ((b:Int)<=90)=true:=zzT (by omega);have e4:decide ((48:Int)<=(b:Int))=true:=zzT (by omega);have e5:decide ((b:Int)<=57)=false:=zzD (by omega);exact zz206
       ·have e0:decide ((97:Int)<=(b:Int))=false:=zzD (by omega)
        have e1:decide ((b:Int)<=122)=true:=zzT (by omega);have e2:decide ((65:Int)<=(b:Int))=false:=zzD (by omega);have e3:decide ((b:Int)<=90)=true:=zzT (by omega);have e4:decide ((48:Int)<=(b:Int))=false:=zzD (by omega);have e5:decide ((b:Int)<=57)=true:=zzT (by omega);exact zz206
      ·have E:Hid (zB s=true):=zzH (zhV hpos (by omega) (fun j h=>HK.out j h (by omega)))
       exact zz129
theorem znj (s p:ByteArray) (w:World) (hs:s.size<=100000) (hp:p.size<=100000):
  Calls Tryz.prog 131 #[.string s,.string p] w fun e w'=>e= .returned (.bool (zd2 s.data.toList p.data.toList))/\w=w':=by
 have hsl:s.data.toList.length=s.size:=by simp
 have hpl:p.data.toList.length=p.size:=by simp
 have HY:Hid (∀k,k+p.size<=s.size->(s.data.toList.drop k).take p.size=p.data.toList->zd2 s.data.toList p.data.toList=true):=zzH (fun k hk h=>by
  unfold zd2;exact zzT ⟨k,by omega,by omega,by rw [hpl];exact h⟩)
 have HN:Hid ((∀j,j+p.size<=s.size->(s.data.toList.drop j).take p.size≠p.data.toList)->zd2 s.data.toList p.data.toList=false):=zzH (fun h=>by
  unfold zd2;refine zzD ?_;rintro⟨i,_,h2,h3⟩;rw [hpl]at h2 h3;exact h i (by omega) h3)
 clear hsl hpl;generalize zd2 s.data.toList p.data.toList=r at *;go_in;go_wp2_with fail;go_loop [5] (fun iv=> ∃k:Nat,k<=s.size+1/\iv= .int .i64 k/\Hid (∀j,j<k->j+p.size<=s.size->(s.data.toList.drop j).take p.size≠p.data.toList)) (fun iv=>s.size+1-(intOf iv).toNat)
 case atStart=>exact⟨0,zzZ _,rfl,zzH (fun j h=>absurd h (Nat.not_lt_zero _))⟩
 case round=>
  obtain⟨k,hk,rfl,HK⟩:=hrel;by_cases hlt:k+p.size<=s.size
  ·have hsub:(s.extract k (k+p.size)).toList=(s.data.toList.drop k).take p.size:=by
    rw [zzq10,Lib.extract_data];rw [show k+p.size-k=p.size by omega]
   have HSUB:=zzH hsub
   have HSN:Hid ((s.data.toList.drop k).take p.size≠p.data.toList-> ∀j,j<k+1->j+p.size<=s.size->(s.data.toList.drop j).take p.size≠p.data.toList):=zzH (fun hne j hj hjs=>by
    rcases Nat.eq_or_lt_of_le (Nat.le_of_lt_succ hj)with e|e
    ·subst e;exact hne
    ·exact HK.out j e hjs)
   clear hsub;by_cases he:(s.data.toList.drop k).take p.size=p.data.toList
   ·have E:Hid (r=true):=zzH (HY.out k hlt he)
    have ht:((s.extract k (k+p.size)).toList==p.toList)=true:=by rw [HSUB.out,he,zzq10];exact beq_self_eq_true _
    clear he;exact zz129
   ·have HN2:=zzH (HSN.out he)
    have ht:((s.extract k (k+p.size)).toList==p.toList)=false:=by rw [HSUB.out,zzq10,zzq5];exact he
    clear he;go_wp2_with fail;go_round
    case rel=>exact⟨k+1,by omega,by go_num,HN2⟩
    case measure=>simp [intOf];omega
  ·have E:Hid (r=false):=zzH (HN.out (fun j hj=>HK.out j (by omega) hj))
   exact zz129
def zgj (c:Nat):ByteArray:=⟨(ziq c).toArray⟩
theorem zl4 (c:Nat) (h:1<=c/\c<=4) (w:World):Calls Tryz.prog 132 #[.int .i64 c] w fun e w'=>e= .returned (.string (zgj c))/\w=w':=by
 rcases(show c=1∨c=2∨c=3∨c=4 by omega)with rfl|rfl|rfl|rfl
 all_goals
  go_in;go_wp2_with fail;go_ret;exact⟨by kernel_rfl,rfl⟩
theorem zkD: ∀c,c<=4->(zgj c).size<=1000:=by decide +kernel
theorem zql (s:ByteArray) (n:Int):zT s n=(if n=1 then(s.toList== [45]||(s.toList== [98,110,111,116]||s.toList== [110,111,116]))else if n=2 then(s.toList== [45]||opTwo.any (fun x=>s.toList==x))else false):=by
 unfold zT;by_cases a:(s.toList== [45])=true
 ·rw [if_pos a,a]
  by_cases h1:n=1
  ·subst h1;rfl
  ·rw [if_neg h1]
   by_cases h2:n=2
   ·subst h2;rfl
   ·rw [if_neg h2,zzq5.2 h1,zzq5.2 h2];rfl
 ·rw [if_neg a]
  have a':(s.toList== [45])=false:=by simpa using a
  rw [a',Bool.false_or,Bool.false_or];by_cases b:(s.toList== [98,110,111,116]||s.toList== [110,111,116])=true
  ·rw [if_pos b,b]
   by_cases h1:n=1
   ·subst h1;rfl
   ·rw [if_neg h1,zzq5.2 h1]
    by_cases h2:n=2
    ·rw [if_pos h2]
     symm;rw [Bool.or_eq_true]at b;rw [List.any_eq_false];intro x hx;rcases b with b|b
     ·rw [eq_of_beq b]
      have:opTwo.all (fun x=>!([98,110,111,116]==x))=true:=by decide
      have:=List.all_eq_true.1 this x hx
      simpa using this
     ·rw [eq_of_beq b]
      have:opTwo.all (fun x=>!([110,111,116]==x))=true:=by decide
      have:=List.all_eq_true.1 this x hx
      simpa using this
    ·rw [if_neg h2]
  ·rw [if_neg b]
   have b':(s.toList== [98,110,111,116]||s.toList== [110,111,116])=false:=by simpa using b
   rw [b'];by_cases h1:n=1
   ·subst h1
    rw [if_pos rfl];split<;>rfl
   ·rw [if_neg h1]
    by_cases h2:n=2
    ·subst h2
     rw [if_pos rfl];split
     ·rename_i h;rw [h];rfl
     ·rename_i h;rw [Bool.eq_false_iff.2 h]
    ·rw [if_neg h2]
     split
     ·exact zzB.2 h2
     ·rfl
theorem zf4 (s:ByteArray) (n:Int) (w:World):Calls Tryz.prog 104 #[.string s,.int .i64 n] w fun e w'=>e= .returned (.bool (zT s n))/\w=w':=by
 have HQ:=zzH (zql s n);generalize zT s n=r at *;by_cases h1:n=1
 ·subst h1
  rw [if_pos rfl]at HQ
  cases t0:(s.toList== [45])with
  |true=>
   rw [t0]at HQ;exact zz130
  |false=>
   cases t1:(s.toList== [98,110,111,116])with
   |true=>
    rw [t0,t1]at HQ;exact zz130
   |false=>
    rw [t0,t1]at HQ;have E:Hid (r=(s.toList== [110,111,116])):=zzH (by rw [HQ.out];rfl);exact zz41
 ·rw [if_neg h1]at HQ
  have q1:(n==1)=false:=zzB.2 h1;by_cases h2:n=2
  ·subst h2
   rw [if_pos rfl]at HQ
   have HL:Hid (r=((s.toList== [43])||(s.toList== [45])||(s.toList== [42])||(s.toList== [100,105,118])||(s.toList== [114,101,109])||(s.toList== [98,97,110,100])||(s.toList== [98,111,114])||(s.toList== [98,120,111,114])||(s.toList== [98,115,108])||(s.toList== [98,115,114])||(s.toList== [97,110,100])||(s.toList== [111,114])||(s.toList== [120,111,114])||(s.toList== [43,43])||(s.toList== [61,58,61])||(s.toList== [61,47,61])||(s.toList== [60])||(s.toList== [61,60])||(s.toList== [62])||(s.toList== [62,61]))):=zzH (by
    rw [HQ.out];unfold opTwo;simp only [List.any_cons,List.any_nil];generalize(s.toList== [45])=b0;generalize(s.toList== [43])=b1;generalize(s.toList== [42])=b2;generalize(s.toList== [100,105,118])=b3;generalize(s.toList== [114,101,109])=b4;generalize(s.toList== [98,97,110,100])=b5;generalize(s.toList== [98,111,114])=b6;generalize(s.toList== [98,120,111,114])=b7;generalize(s.toList== [98,115,108])=b8;generalize(s.toList== [98,115,114])=b9;generalize(s.toList== [97,110,100])=b10;generalize(s.toList== [111,114])=b11;generalize(s.toList== [120,111,114])=b12;generalize(s.toList== [61,58,61])=b13;generalize(s.toList== [61,47,61])=b14;generalize(s.toList== [60])=b15;generalize(s.toList== [61,60])=b16;generalize(s.toList== [62])=b17;generalize(s.toList== [62,61])=b18;generalize(s.toList== [43,43])=b19
    cases b0<;>simp only [Bool.true_or,Bool.false_or,Bool.or_true,Bool.or_false]<;>(first|rfl|ac_rfl))
   clear h1 HQ
   cases t0:(s.toList== [43])with
   |true=>
    have E:Hid (r=true):=zzH (by rw [HL.out];simp only [t0,Bool.false_or,Bool.true_or,Bool.or_true]);exact zz41
   |false=>
    cases t1:(s.toList== [45])with
    |true=>
      have E:Hid (r=true):=zzH (by rw [HL.out];simp only [t0,t1,Bool.false_or,Bool.true_or,Bool.or_true]);exact zz41
    |false=>
    cases t2:(s.toList== [42])with
    |true=>
     have E:Hid (r=true):=zzH (by rw [HL.out];simp only [t0,t1,t2,Bool.false_or,Bool.true_or,Bool.or_true]);exact zz41
    |false=>
     cases t3:(s.toList== [100,105,118])with
     |true=>
       have E:Hid (r=true):=zzH (by rw [HL.out];simp only [t0,t1,t2,t3,Bool.false_or,Bool.true_or,Bool.or_true]);exact zz41
     |false=>
     cases t4:(s.toList== [114,101,109])with
     |true=>
      have E:Hid (r=true):=zzH (by rw [HL.out];simp only [t0,t1,t2,t3,t4,Bool.false_or,Bool.true_or,Bool.or_true]);exact zz41
     |false=>
      cases t5:(s.toList== [98,97,110,100])with
      |true=>
        have E:Hid (r=true):=zzH (by rw [HL.out];simp only [t0,t1,t2,t3,t4,t5,Bool.false_or,Bool.true_or,Bool.or_true]);exact zz41
      |false=>
      cases t6:(s.toList== [98,111,114])with
      |true=>
       have E:Hid (r=true):=zzH (by rw [HL.out];simp only [t0,t1,t2,t3,t4,t5,t6,Bool.false_or,Bool.true_or,Bool.or_true]);exact zz41
      |false=>
       cases t7:(s.toList== [98,120,111,114])with
       |true=>
         have E:Hid (r=true):=zzH (by rw [HL.out];simp only [t0,t1,t2,t3,t4,t5,t6,t7,Bool.false_or,Bool.true_or,Bool.or_true]);exact zz41
       |false=>
       cases t8:(s.toList== [98,115,108])with
       |true=>
        have E:Hid (r=true):=zzH (by rw [HL.out];simp only [t0,t1,t2,t3,t4,t5,t6,t7,t8,Bool.false_or,Bool.true_or,Bool.or_true]);exact zz41
       |false=>
        cases t9:(s.toList== [98,115,114])with
        |true=>
          have E:Hid (r=true):=zzH (by rw [HL.out];simp only [t0,t1,t2,t3,t4,t5,t6,t7,t8,t9,Bool.false_or,Bool.true_or,Bool.or_true]);exact zz41
        |false=>
        cases t10:(s.toList== [97,110,100])with
        |true=>
         have E:Hid (r=true):=zzH (by rw [HL.out];simp only [t0,t1,t2,t3,t4,t5,t6,t7,t8,t9,t10,Bool.false_or,Bool.true_or,Bool.or_true]);exact zz41
        |false=>
         cases t11:(s.toList== [111,114])with
         |true=>
           have E:Hid (r=true):=zzH (by rw [HL.out];simp only [t0,t1,t2,t3,t4,t5,t6,t7,t8,t9,t10,t11,Bool.false_or,Bool.true_or,Bool.or_true]);exact zz41
         |false=>
         cases t12:(s.toList== [120,111,114])with
         |true=>
          have E:Hid (r=true):=zzH (by rw [HL.out];simp only [t0,t1,t2,t3,t4,t5,t6,t7,t8,t9,t10,t11,t12,Bool.false_or,Bool.true_or,Bool.or_true]);exact zz41
         |false=>
          cases t13:(s.toList== [43,43])with
          |true=>
            have E:Hid (r=true):=zzH (by rw [HL.out];simp only [t0,t1,t2,t3,t4,t5,t6,t7,t8,t9,t10,t11,t12,t13,Bool.false_or,Bool.true_or,Bool.or_true]);exact zz41
          |false=>
          cases t14:(s.toList== [61,58,61])with
          |true=>
           have E:Hid (r=true):=zzH (by rw [HL.out];simp only [t0,t1,t2,t3,t4,t5,t6,t7,t8,t9,t10,t11,t12,t13,t14,Bool.false_or,Bool.true_or,Bool.or_true]);exact zz41
          |false=>
           cases t15:(s.toList== [61,47,61])with
           |true=>
             have E:Hid (r=true):=zzH (by rw [HL.out];simp only [t0,t1,t2,t3,t4,t5,t6,t7,t8,t9,t10,t11,t12,t13,t14,t15,Bool.false_or,Bool.true_or,Bool.or_true]);exact zz41
           |false=>
           cases t16:(s.toList== [60])with
           |true=>
            have E:Hid (r=true):=zzH (by rw [HL.out];simp only [t0,t1,t2,t3,t4,t5,t6,t7,t8,t9,t10,t11,t12,t13,t14,t15,t16,Bool.false_or,Bool.true_or,Bool.or_true]);exact zz41
           |false=>
            cases t17:(s.toList== [61,60])with
            |true=>
              have E:Hid (r=true):=zzH (by rw [HL.out];simp only [t0,t1,t2,t3,t4,t5,t6,t7,t8,t9,t10,t11,t12,t13,t14,t15,t16,t17,Bool.false_or,Bool.true_or,Bool.or_true]);exact zz41
            |false=>
            cases t18:(s.toList== [62])with
            |true=>
             have E:Hid (r=true):=zzH (by rw [HL.out];simp only [t0,t1,t2,t3,t4,t5,t6,t7,t8,t9,t10,t11,t12,t13,t14,t15,t16,t17,t18,Bool.false_or,Bool.true_or,Bool.or_true]);exact zz41
            |false=>
             cases t19:(s.toList== [62,61])with
             |true=>
               have E:Hid (r=true):=zzH (by rw [HL.out];simp only [t0,t1,t2,t3,t4,t5,t6,t7,t8,t9,t10,t11,t12,t13,t14,t15,t16,t17,t18,t19,Bool.false_or,Bool.true_or,Bool.or_true]);exact zz41
             |false=>
             have E:Hid (r=false):=zzH (by rw [HL.out];simp only [t0,t1,t2,t3,t4,t5,t6,t7,t8,t9,t10,t11,t12,t13,t14,t15,t16,t17,t18,t19,Bool.false_or]);exact zz41
  ·have q2 : (n != 2) = true := by rw [bne_iff_ne]; exact h2
   rw [if_neg h2]at HQ;have E:Hid (r=false):=zzH HQ.out;clear h1 h2;exact zz41
structure RRow where
 a:Bool
 b:Bool
 c:Bool
 d:Bool
 e:Bool
 f:Bool
 g:Bool
 h:Bool
 lo:Int
 hi:Int
def RRow.val (r:RRow):Array Value:=#[.bool r.a,.bool r.b,.bool r.c,.bool r.d,.bool r.e,.bool r.f,.bool r.g,.bool r.h,.int .i64 r.lo,.int .i64 r.hi]
theorem RRow.one (r:RRow):r.val.all (·.oneCell')=true:=by
 simp [RRow.val,Value.oneCell']
def zfI (l:List UInt8) (c:UInt8):Bool:=l.any (fun x=>x==c)
def zbp (l:List UInt8) (lo hi:Int):RRow:=⟨zfI l 100,zfI l 115,zfI l 110,zfI l 119,zfI l 99,zfI l 103,zfI l 116,zfI l 108,lo,hi⟩
theorem zdJ (l:List UInt8) {k:Nat} (h:k<l.length) (c:UInt8):zfI (l.take (k+1)) c=(zfI (l.take k) c||(l[k]==c)):=by
 unfold zfI;rw [List.take_add_one,zzq8 h,List.any_append];simp
theorem zeB (x:UInt8) (c:Nat) (hc:c<256):(x==UInt8.ofNat c)=((x.toNat:Int)==(c:Int)):=by
 rw [Bool.eq_iff_iff,beq_iff_eq,beq_iff_eq];constructor
 ·intro h;rw [h,UInt8.toNat_ofNat'];omega
 ·intro h;exact UInt8.toNat_inj.1 (by rw [UInt8.toNat_ofNat'];omega)
theorem zkQ (s:ByteArray) (lo hi:Int) (w:World) (hs:s.size<=1000):
  Calls Tryz.prog 96 #[.string s,.int .i64 lo,.int .i64 hi] w fun e w'=>e= .returned (.agg (zbp s.data.toList lo hi).val)/\Below w.heap.size w w':=by
 have HE:Hid (zbp s.data.toList lo hi=zbp (s.data.toList.take s.size) lo hi):=zzH (by rw [List.take_of_length_le (by simp)]);have HB:=zzH (zzR w.heap.size w);go_in;go_upto_region 2 with fail;have hR:=heap_alloc_new (w.alloc (.cells #[.bool false,.bool false,.bool false,.bool false,.bool false,.bool false,.bool false,.bool false,.int .i64 0,.int .i64 0] 133)) (.cells #[.bool false,.bool false,.bool false,.bool false,.bool false,.bool false,.bool false,.bool false,.int .i64 lo,.int .i64 hi] 133);have hbe:Below w.heap.size w ((w.alloc (.cells #[.bool false,.bool false,.bool false,.bool false,.bool false,.bool false,.bool false,.bool false,.int .i64 0,.int .i64 0] 133)).alloc (.cells #[.bool false,.bool false,.bool false,.bool false,.bool false,.bool false,.bool false,.bool false,.int .i64 lo,.int .i64 hi] 133)):=((zzR _ _).alloc (zzL _) _).alloc (by simp) _;have hsz:(w.alloc (.cells #[.bool false,.bool false,.bool false,.bool false,.bool false,.bool false,.bool false,.bool false,.int .i64 0,.int .i64 0] 133)).heap.size=w.heap.size+1:=by simp
 rw [hsz]at hR;have h0:((w.alloc (.cells #[.bool false,.bool false,.bool false,.bool false,.bool false,.bool false,.bool false,.bool false,.int .i64 0,.int .i64 0] 133)).alloc (.cells #[.bool false,.bool false,.bool false,.bool false,.bool false,.bool false,.bool false,.bool false,.int .i64 lo,.int .i64 hi] 133)).heap[w.heap.size]?=some (.cells #[.bool false,.bool false,.bool false,.bool false,.bool false,.bool false,.bool false,.bool false,.int .i64 0,.int .i64 0] 133 (0,0)):=(Below.heap_alloc _ _ _ (by simp)).trans (heap_alloc_new _ _)
 generalize(w.alloc (.cells #[.bool false,.bool false,.bool false,.bool false,.bool false,.bool false,.bool false,.bool false,.int .i64 0,.int .i64 0] 133)).alloc (.cells #[.bool false,.bool false,.bool false,.bool false,.bool false,.bool false,.bool false,.bool false,.int .i64 lo,.int .i64 hi] 133)=Wa at *;generalize hB0:w.heap.size=B at *;have HBE:=zzH hB0;have HBA:=zzH hbe;have HR:=zzH hR;have H0:=zzH h0;clear hB0 hbe hR hsz h0 HB;go_wp2_with fail;go_loopw [8] (fun iv wr=> ∃(k:Nat) (r:RRow),k<=s.size/\iv= .int .i64 k/\Hid (r=zbp (s.data.toList.take k) lo hi)/\Hid (wr.heap[B+1]?=some (.cells r.val 133 (0,0)))/\Hid (wr.heap[B]?=some (.cells #[.bool false,.bool false,.bool false,.bool false,.bool false,.bool false,.bool false,.bool false,.int .i64 0,.int .i64 0] 133 (0,0)))/\Hid (Below B w wr)) (fun iv _=>s.size-(intOf iv).toNat)
 case atStart=>exact⟨0,⟨false,false,false,false,false,false,false,false,lo,hi⟩,zzZ _,rfl,zzH rfl,HR,H0,HBA⟩
 case round=>
  obtain⟨k,r,hk,rfl,HRW,HRk,H0k,HBk⟩:=hrel;rename World=>wr
  obtain⟨A0,A1,A2,A3,A4,A5,A6,A7,lo',hi'⟩:=r;obtain⟨rfl,rfl⟩:lo'=lo/\hi'=hi:=by have:=HRW.out;unfold zbp at this;injection this with _ _ _ _ _ _ _ _ e1 e2;exact⟨e1,e2⟩
  by_cases hlt:k<s.size
  ·have hkl:k<s.data.toList.length:=by simpa using hlt
   have HST:Hid (zbp (s.data.toList.take (k+1)) lo' hi'=⟨A0||(s.data.toList[k]==100),A1||(s.data.toList[k]==115),A2||(s.data.toList[k]==110),A3||(s.data.toList[k]==119),A4||(s.data.toList[k]==99),A5||(s.data.toList[k]==103),A6||(s.data.toList[k]==116),A7||(s.data.toList[k]==108),lo',hi'⟩):=zzH (by
    have:=HRW.out;unfold zbp at this ⊢;injection this with e0 e1 e2 e3 e4 e5 e6 e7;rw [zdJ _ hkl,zdJ _ hkl,zdJ _ hkl,zdJ _ hkl,zdJ _ hkl,zdJ _ hkl,zdJ _ hkl,zdJ _ hkl,<-e0,<-e1,<-e2,<-e3,<-e4,<-e5,<-e6,<-e7])
   have hsk:s.data.toList[k]=s[k]:=by rw [Array.getElem_toList];rfl
   rw [hsk]at HST;clear HRW hsk;have y0:=zeB s[k] 100 (by decide);have y1:=zeB s[k] 115 (by decide);have y2:=zeB s[k] 110 (by decide);have y3:=zeB s[k] 119 (by decide);have y4:=zeB s[k] 99 (by decide);have y5:=zeB s[k] 103 (by decide);have y6:=zeB s[k] 116 (by decide);have y7:=zeB s[k] 108 (by decide);rw [show(UInt8.ofNat 100)=(100:UInt8)from rfl]at y0;rw [y0]at HST;clear y0;rw [show(UInt8.ofNat 115)=(115:UInt8)from rfl]at y1;rw [y1]at HST;clear y1;rw [show(UInt8.ofNat 110)=(110:UInt8)from rfl]at y2;rw [y2]at HST;clear y2;rw [show(UInt8.ofNat 119)=(119:UInt8)from rfl]at y3;rw [y3]at HST;clear y3;rw [show(UInt8.ofNat 99)=(99:UInt8)from rfl]at y4;rw [y4]at HST;clear y4;rw [show(UInt8.ofNat 103)=(103:UInt8)from rfl]at y5;rw [y5]at HST;clear y5;rw [show(UInt8.ofNat 116)=(116:UInt8)from rfl]at y6;rw [y6]at HST;clear y6;rw [show(UInt8.ofNat 108)=(108:UInt8)from rfl]at y7;rw [y7]at HST;clear y7;rw [show(((s[k].toNat:Nat):Int)==((100:Nat):Int))=((s[k].toNat:Int)==100+0)from rfl]at HST;rw [show((s[k].toNat:Int)==100+0)=((s[k].toNat:Int)==100)from rfl]at HST;generalize het0:((s[k].toNat:Int)==100)=t0 at *;rw [show(((s[k].toNat:Nat):Int)==((115:Nat):Int))=((s[k].toNat:Int)==100+15)from rfl]at HST;rw [show((s[k].toNat:Int)==100+15)=((s[k].toNat:Int)==115)from rfl]at HST;generalize het1:((s[k].toNat:Int)==115)=t1 at *;rw [show(((s[k].toNat:Nat):Int)==((110:Nat):Int))=((s[k].toNat:Int)==100+10)from rfl]at HST;rw [show((s[k].toNat:Int)==100+10)=((s[k].toNat:Int)==110)from rfl]at HST;generalize het2:((s[k].toNat:Int)==110)=t2 at *;rw [show(((s[k].toNat:Nat):Int)==((119:Nat):Int))=((s[k].toNat:Int)==100+19)from rfl]at HST;rw [show((s[k].toNat:Int)==100+19)=((s[k].toNat:Int)==119)from rfl]at HST;generalize het3:((s[k].toNat:Int)==119)=t3 at *;rw [show(((s[k].toNat:Nat):Int)==((99:Nat):Int))=((s[k].toNat:Int)==100+ -1)from rfl]at HST;rw [show((s[k].toNat:Int)==100+ -1)=((s[k].toNat:Int)==99)from rfl]at HST;generalize het4:((s[k].toNat:Int)==99)=t4 at *;rw [show(((s[k].toNat:Nat):Int)==((103:Nat):Int))=((s[k].toNat:Int)==100+3)from rfl]at HST;rw [show((s[k].toNat:Int)==100+3)=((s[k].toNat:Int)==103)from rfl]at HST;generalize het5:((s[k].toNat:Int)==103)=t5 at *;rw [show(((s[k].toNat:Nat):Int)==((116:Nat):Int))=((s[k].toNat:Int)==100+16)from rfl]at HST;rw [show((s[k].toNat:Int)==100+16)=((s[k].toNat:Int)==116)from rfl]at HST;generalize het6:((s[k].toNat:Int)==116)=t6 at *;rw [show(((s[k].toNat:Nat):Int)==((108:Nat):Int))=((s[k].toNat:Int)==100+8)from rfl]at HST;rw [show((s[k].toNat:Int)==100+8)=((s[k].toNat:Int)==108)from rfl]at HST;generalize het7:((s[k].toNat:Int)==108)=t7 at *;go_upto_region 5 with fail;have g0:wr.cell? ⟨B+1,0,none⟩=some (.bool A0):=by rw [zzq2 _ _ _ _ _ _ HRk.out];rfl
   have hrl:=zc HRk.out;have hfz:wr.frozen? ⟨B+1,0,none⟩=false:=Lib.frozen_of_heap HRk.out 0;go_cut [] (fun wx=> ∃x:Bool,Hid (x=(A0||t0))/\Hid (wx.heap[B+1]?=some (.cells #[.bool x,.bool A1,.bool A2,.bool A3,.bool A4,.bool A5,.bool A6,.bool A7,.int .i64 lo',.int .i64 hi'] 133 (0,0)))/\Hid (wx.heap[B]?=wr.heap[B]?)/\Hid (Below B w wx))
   case first=>
    cases A0 with
    |true=>
     go_wp2_with fail;go_meet
     case rel=>exact⟨true,zzH (by cases t0<;>rfl),zzH (by rw [zzq12 _ _ _ _ _ _ HRk.out];rfl),zzH (Below.heap_setCell _ _ _ _ (by simp)),zzH (HBk.out.setCell (p:=⟨B+1,0,none⟩) (by simp) _)⟩
    |false=>
     go_wp2_with fail;go_meet
     case rel=>exact⟨t0,zzH (by cases t0<;>rfl),zzH (by rw [zzq12 _ _ _ _ _ _ HRk.out];rfl),zzH (Below.heap_setCell _ _ _ _ (by simp)),zzH (HBk.out.setCell (p:=⟨B+1,0,none⟩) (by simp) _)⟩
   case rest=>
    obtain⟨x0,HX0,HR2,H02,HB2⟩:=hcut;have H03:Hid (wc.heap[B]?=some (.cells #[.bool false,.bool false,.bool false,.bool false,.bool false,.bool false,.bool false,.bool false,.int .i64 0,.int .i64 0] 133 (0,0))):=zzH (H02.out.trans H0k.out)
    clear HRk H0k HBk H02 g0 hrl hfz;have HRk:=HR2;have H0k:=H03;have HBk:=HB2;clear HR2 H03 HB2;go_upto_region 6 with fail;have g1:wc.cell? ⟨B+1,1,none⟩=some (.bool A1):=by rw [zzq2 _ _ _ _ _ _ HRk.out];rfl
    have hrl:=zc HRk.out;have hfz:wc.frozen? ⟨B+1,1,none⟩=false:=Lib.frozen_of_heap HRk.out 1;go_cut [] (fun wx=> ∃x:Bool,Hid (x=(A1||t1))/\Hid (wx.heap[B+1]?=some (.cells #[.bool x0,.bool x,.bool A2,.bool A3,.bool A4,.bool A5,.bool A6,.bool A7,.int .i64 lo',.int .i64 hi'] 133 (0,0)))/\Hid (wx.heap[B]?=wc.heap[B]?)/\Hid (Below B w wx))
    case first=>
     cases A1 with
     |true=>
      go_wp2_with fail;go_meet
      case rel=>exact⟨true,zzH (by cases t1<;>rfl),zzH (by rw [zzq12 _ _ _ _ _ _ HRk.out];rfl),zzH (Below.heap_setCell _ _ _ _ (by simp)),zzH (HBk.out.setCell (p:=⟨B+1,1,none⟩) (by simp) _)⟩
     |false=>
      go_wp2_with fail;go_meet
      case rel=>exact⟨t1,zzH (by cases t1<;>rfl),zzH (by rw [zzq12 _ _ _ _ _ _ HRk.out];rfl),zzH (Below.heap_setCell _ _ _ _ (by simp)),zzH (HBk.out.setCell (p:=⟨B+1,1,none⟩) (by simp) _)⟩
    case rest=>
     obtain⟨x1,HX1,HR2,H02,HB2⟩:=hcut;have H03:Hid (wc.heap[B]?=some (.cells #[.bool false,.bool false,.bool false,.bool false,.bool false,.bool false,.bool false,.bool false,.int .i64 0,.int .i64 0] 133 (0,0))):=zzH (H02.out.trans H0k.out)
     clear HRk H0k HBk H02 g1 hrl hfz;have HRk:=HR2;have H0k:=H03;have HBk:=HB2;clear HR2 H03 HB2;go_upto_region 7 with fail;have g2:wc.cell? ⟨B+1,2,none⟩=some (.bool A2):=by rw [zzq2 _ _ _ _ _ _ HRk.out];rfl
     have hrl:=zc HRk.out;have hfz:wc.frozen? ⟨B+1,2,none⟩=false:=Lib.frozen_of_heap HRk.out 2;go_cut [] (fun wx=> ∃x:Bool,Hid (x=(A2||t2))/\Hid (wx.heap[B+1]?=some (.cells #[.bool x0,.bool x1,.bool x,.bool A3,.bool A4,.bool A5,.bool A6,.bool A7,.int .i64 lo',.int .i64 hi'] 133 (0,0)))/\Hid (wx.heap[B]?=wc.heap[B]?)/\Hid (Below B w wx))
     case first=>
      cases A2 with
      |true=>
       go_wp2_with fail;go_meet
       case rel=>exact⟨true,zzH (by cases t2<;>rfl),zzH (by rw [zzq12 _ _ _ _ _ _ HRk.out];rfl),zzH (Below.heap_setCell _ _ _ _ (by simp)),zzH (HBk.out.setCell (p:=⟨B+1,2,none⟩) (by simp) _)⟩
      |false=>
       go_wp2_with fail;go_meet
       case rel=>exact⟨t2,zzH (by cases t2<;>rfl),zzH (by rw [zzq12 _ _ _ _ _ _ HRk.out];rfl),zzH (Below.heap_setCell _ _ _ _ (by simp)),zzH (HBk.out.setCell (p:=⟨B+1,2,none⟩) (by simp) _)⟩
     case rest=>
      obtain⟨x2,HX2,HR2,H02,HB2⟩:=hcut;have H03:Hid (wc.heap[B]?=some (.cells #[.bool false,.bool false,.bool false,.bool false,.bool false,.bool false,.bool false,.bool false,.int .i64 0,.int .i64 0] 133 (0,0))):=zzH (H02.out.trans H0k.out)
      clear HRk H0k HBk H02 g2 hrl hfz;have HRk:=HR2;have H0k:=H03;have HBk:=HB2;clear HR2 H03 HB2;go_upto_region 8 with fail;have g3:wc.cell? ⟨B+1,3,none⟩=some (.bool A3):=by rw [zzq2 _ _ _ _ _ _ HRk.out];rfl
      have hrl:=zc HRk.out;have hfz:wc.frozen? ⟨B+1,3,none⟩=false:=Lib.frozen_of_heap HRk.out 3;go_cut [] (fun wx=> ∃x:Bool,Hid (x=(A3||t3))/\Hid (wx.heap[B+1]?=some (.cells #[.bool x0,.bool x1,.bool x2,.bool x,.bool A4,.bool A5,.bool A6,.bool A7,.int .i64 lo',.int .i64 hi'] 133 (0,0)))/\Hid (wx.heap[B]?=wc.heap[B]?)/\Hid (Below B w wx))
      case first=>
       cases A3 with
       |true=>
        go_wp2_with fail;go_meet
        case rel=>exact⟨true,zzH (by cases t3<;>rfl),zzH (by rw [zzq12 _ _ _ _ _ _ HRk.out];rfl),zzH (Below.heap_setCell _ _ _ _ (by simp)),zzH (HBk.out.setCell (p:=⟨B+1,3,none⟩) (by simp) _)⟩
       |false=>
        go_wp2_with fail;go_meet
        case rel=>exact⟨t3,zzH (by cases t3<;>rfl),zzH (by rw [zzq12 _ _ _ _ _ _ HRk.out];rfl),zzH (Below.heap_setCell _ _ _ _ (by simp)),zzH (HBk.out.setCell (p:=⟨B+1,3,none⟩) (by simp) _)⟩
      case rest=>
       obtain⟨x3,HX3,HR2,H02,HB2⟩:=hcut;have H03:Hid (wc.heap[B]?=some (.cells #[.bool false,.bool false,.bool false,.bool false,.bool false,.bool false,.bool false,.bool false,.int .i64 0,.int .i64 0] 133 (0,0))):=zzH (H02.out.trans H0k.out)
       clear HRk H0k HBk H02 g3 hrl hfz;have HRk:=HR2;have H0k:=H03;have HBk:=HB2;clear HR2 H03 HB2;go_upto_region 9 with fail;have g4:wc.cell? ⟨B+1,4,none⟩=some (.bool A4):=by rw [zzq2 _ _ _ _ _ _ HRk.out];rfl
       have hrl:=zc HRk.out;have hfz:wc.frozen? ⟨B+1,4,none⟩=false:=Lib.frozen_of_heap HRk.out 4;go_cut [] (fun wx=> ∃x:Bool,Hid (x=(A4||t4))/\Hid (wx.heap[B+1]?=some (.cells #[.bool x0,.bool x1,.bool x2,.bool x3,.bool x,.bool A5,.bool A6,.bool A7,.int .i64 lo',.int .i64 hi'] 133 (0,0)))/\Hid (wx.heap[B]?=wc.heap[B]?)/\Hid (Below B w wx))
       case first=>
        cases A4 with
        |true=>
         go_wp2_with fail;go_meet
         case rel=>exact⟨true,zzH (by cases t4<;>rfl),zzH (by rw [zzq12 _ _ _ _ _ _ HRk.out];rfl),zzH (Below.heap_setCell _ _ _ _ (by simp)),zzH (HBk.out.setCell (p:=⟨B+1,4,none⟩) (by simp) _)⟩
        |false=>
         go_wp2_with fail;go_meet
         case rel=>exact⟨t4,zzH (by cases t4<;>rfl),zzH (by rw [zzq12 _ _ _ _ _ _ HRk.out];rfl),zzH (Below.heap_setCell _ _ _ _ (by simp)),zzH (HBk.out.setCell (p:=⟨B+1,4,none⟩) (by simp) _)⟩
       case rest=>
        obtain⟨x4,HX4,HR2,H02,HB2⟩:=hcut;have H03:Hid (wc.heap[B]?=some (.cells #[.bool false,.bool false,.bool false,.bool false,.bool false,.bool false,.bool false,.bool false,.int .i64 0,.int .i64 0] 133 (0,0))):=zzH (H02.out.trans H0k.out)
        clear HRk H0k HBk H02 g4 hrl hfz;have HRk:=HR2;have H0k:=H03;have HBk:=HB2;clear HR2 H03 HB2;go_upto_region 10 with fail;have g5:wc.cell? ⟨B+1,5,none⟩=some (.bool A5):=by rw [zzq2 _ _ _ _ _ _ HRk.out];rfl
        have hrl:=zc HRk.out;have hfz:wc.frozen? ⟨B+1,5,none⟩=false:=Lib.frozen_of_heap HRk.out 5;go_cut [] (fun wx=> ∃x:Bool,Hid (x=(A5||t5))/\Hid (wx.heap[B+1]?=some (.cells #[.bool x0,.bool x1,.bool x2,.bool x3,.bool x4,.bool x,.bool A6,.bool A7,.int .i64 lo',.int .i64 hi'] 133 (0,0)))/\Hid (wx.heap[B]?=wc.heap[B]?)/\Hid (Below B w wx))
        case first=>
         cases A5 with
         |true=>
          go_wp2_with fail;go_meet
          case rel=>exact⟨true,zzH (by cases t5<;>rfl),zzH (by rw [zzq12 _ _ _ _ _ _ HRk.out];rfl),zzH (Below.heap_setCell _ _ _ _ (by simp)),zzH (HBk.out.setCell (p:=⟨B+1,5,none⟩) (by simp) _)⟩
         |false=>
          go_wp2_with fail;go_meet
          case rel=>exact⟨t5,zzH (by cases t5<;>rfl),zzH (by rw [zzq12 _ _ _ _ _ _ HRk.out];rfl),zzH (Below.heap_setCell _ _ _ _ (by simp)),zzH (HBk.out.setCell (p:=⟨B+1,5,none⟩) (by simp) _)⟩
        case rest=>
         obtain⟨x5,HX5,HR2,H02,HB2⟩:=hcut;have H03:Hid (wc.heap[B]?=some (.cells #[.bool false,.bool false,.bool false,.bool false,.bool false,.bool false,.bool false,.bool false,.int .i64 0,.int .i64 0] 133 (0,0))):=zzH (H02.out.trans H0k.out)
         clear HRk H0k HBk H02 g5 hrl hfz;have HRk:=HR2;have H0k:=H03;have HBk:=HB2;clear HR2 H03 HB2;go_upto_region 11 with fail;have g6:wc.cell? ⟨B+1,6,none⟩=some (.bool A6):=by rw [zzq2 _ _ _ _ _ _ HRk.out];rfl
         have hrl:=zc HRk.out;have hfz:wc.frozen? ⟨B+1,6,none⟩=false:=Lib.frozen_of_heap HRk.out 6;go_cut [] (fun wx=> ∃x:Bool,Hid (x=(A6||t6))/\Hid (wx.heap[B+1]?=some (.cells #[.bool x0,.bool x1,.bool x2,.bool x3,.bool x4,.bool x5,.bool x,.bool A7,.int .i64 lo',.int .i64 hi'] 133 (0,0)))/\Hid (wx.heap[B]?=wc.heap[B]?)/\Hid (Below B w wx))
         case first=>
          cases A6 with
          |true=>
           go_wp2_with fail;go_meet
           case rel=>exact⟨true,zzH (by cases t6<;>rfl),zzH (by rw [zzq12 _ _ _ _ _ _ HRk.out];rfl),zzH (Below.heap_setCell _ _ _ _ (by simp)),zzH (HBk.out.setCell (p:=⟨B+1,6,none⟩) (by simp) _)⟩
          |false=>
           go_wp2_with fail;go_meet
           case rel=>exact⟨t6,zzH (by cases t6<;>rfl),zzH (by rw [zzq12 _ _ _ _ _ _ HRk.out];rfl),zzH (Below.heap_setCell _ _ _ _ (by simp)),zzH (HBk.out.setCell (p:=⟨B+1,6,none⟩) (by simp) _)⟩
         case rest=>
          obtain⟨x6,HX6,HR2,H02,HB2⟩:=hcut;have H03:Hid (wc.heap[B]?=some (.cells #[.bool false,.bool false,.bool false,.bool false,.bool false,.bool false,.bool false,.bool false,.int .i64 0,.int .i64 0] 133 (0,0))):=zzH (H02.out.trans H0k.out)
          clear HRk H0k HBk H02 g6 hrl hfz;have HRk:=HR2;have H0k:=H03;have HBk:=HB2;clear HR2 H03 HB2;go_upto_region 12 with fail;have g7:wc.cell? ⟨B+1,7,none⟩=some (.bool A7):=by rw [zzq2 _ _ _ _ _ _ HRk.out];rfl
          have hrl:=zc HRk.out;have hfz:wc.frozen? ⟨B+1,7,none⟩=false:=Lib.frozen_of_heap HRk.out 7
          cases A7 with
          |true=>
           go_wp2_with fail;have HR8:Hid ((wc.setCell ⟨B+1,7,none⟩ (.bool true)).heap[B+1]?=some (.cells (RRow.val ⟨x0,x1,x2,x3,x4,x5,x6,true,lo',hi'⟩) 133 (0,0))):=zzH (by rw [zzq12 _ _ _ _ _ _ HRk.out];rfl)
           have H08:Hid ((wc.setCell ⟨B+1,7,none⟩ (.bool true)).heap[B]?=some (.cells #[.bool false,.bool false,.bool false,.bool false,.bool false,.bool false,.bool false,.bool false,.int .i64 0,.int .i64 0] 133 (0,0))):=zzH ((Below.heap_setCell _ _ _ _ (by simp)).trans H0k.out)
           go_roundw
           case rel=>exact⟨k+1,⟨x0,x1,x2,x3,x4,x5,x6,true,lo',hi'⟩,by omega,by go_num,zzH (by rw [HST.out,HX0.out,HX1.out,HX2.out,HX3.out,HX4.out,HX5.out,HX6.out];cases t7<;>rfl),HR8,H08,zzH (HBk.out.setCell (p:=⟨B+1,7,none⟩) (by simp) _)⟩
           case measure=>simp [intOf];omega
          |false=>
           go_wp2_with fail;have HR8:Hid ((wc.setCell ⟨B+1,7,none⟩ (.bool t7)).heap[B+1]?=some (.cells (RRow.val ⟨x0,x1,x2,x3,x4,x5,x6,t7,lo',hi'⟩) 133 (0,0))):=zzH (by rw [zzq12 _ _ _ _ _ _ HRk.out];rfl)
           have H08:Hid ((wc.setCell ⟨B+1,7,none⟩ (.bool t7)).heap[B]?=some (.cells #[.bool false,.bool false,.bool false,.bool false,.bool false,.bool false,.bool false,.bool false,.int .i64 0,.int .i64 0] 133 (0,0))):=zzH ((Below.heap_setCell _ _ _ _ (by simp)).trans H0k.out)
           go_roundw
           case rel=>exact⟨k+1,⟨x0,x1,x2,x3,x4,x5,x6,t7,lo',hi'⟩,by omega,by go_num,zzH (by rw [HST.out,HX0.out,HX1.out,HX2.out,HX3.out,HX4.out,HX5.out,HX6.out];cases t7<;>rfl),HR8,H08,zzH (HBk.out.setCell (p:=⟨B+1,7,none⟩) (by simp) _)⟩
           case measure=>simp [intOf];omega
  ·have hke:k=s.size:=by omega
   have E:Hid ((⟨A0,A1,A2,A3,A4,A5,A6,A7,lo',hi'⟩:RRow)=zbp s.data.toList lo' hi'):=zzH (by rw [HRW.out,HE.out,hke]);clear hke HRW
   go_wp2_with (first
    |(refine wpList_load_row rfl 133 (.tmp 7) rfl (B+1) rfl _ _ _ _ HRk.out Tryz.underlying133 rfl (by kernel_rfl) ?_)
    |(refine wpList_store_row rfl 133 (.tmp 6) (.tmp 90) rfl B (RRow.val ⟨A0,A1,A2,A3,A4,A5,A6,A7,lo',hi'⟩) rfl rfl 133 _ H0k.out (by kernel_rfl) rfl (RRow.one _) ?_))
   have hres:=setRow_heap wr B _ (RRow.val ⟨A0,A1,A2,A3,A4,A5,A6,A7,lo',hi'⟩) 133 _ H0k.out;refine bodyPost_ret (results_cell_row rfl _ _ B _ _ _ _ rfl hres Tryz.underlying133 rfl (by kernel_rfl)) rfl ?_;exact⟨by rw [E.out],by rw [HBE.out];exact below_setRow HBk.out (zzL _) _⟩
theorem zdF (n a b:Int) (w:World):Calls Tryz.prog 157 #[.int .i64 n,.int .i64 a,.int .i64 b] w fun e w'=>e= .returned (.bool (wi n a b))/\w=w':=by
 exact zz80
def zbS (k i g:Int) (n f:ByteArray) (a:Int) (l:Nat) (y:ByteArray) (z:Int):Bool:=zI k&&(zI i&&(zI g&&(zS n&&(zS f&&(zI a&&(decide (l=0)&&(zS y&&zI z)))))))
theorem zoy (t:Tm):zbS 0 (zd t).int (zd t).gen (zd t).name (zd t).func (zd t).arity (zd t).items.length (zd t).bytes (zd t).bits=zcs 1 (zf6 t) zeP:=by
 rw [ziR];unfold zbS zf6 zL;simp only [Tm.kind,Tm.int,Tm.gen,Tm.name,Tm.func,Tm.arity,Tm.items,Tm.bytes,Tm.bits]
 ac_rfl
theorem zdn (t:Tm):(okK t&&zbS 0 (zd t).int (zd t).gen (zd t).name (zd t).func (zd t).arity (zd t).items.length (zd t).bytes (zd t).bits)=zcH t:=by rw [zoy];exact znp 0 t
theorem zei (s:ByteArray):(s.toList== [])=zS s:=by
 have:=zqF s;rw [zzq10 (ByteArray.mk #[])]at this;exact this
theorem zcO (k i g:Int) (n f:ByteArray) (a:Int) (so:Option Addr) (l c:Nat) (y:ByteArray) (z:Int) (w:World) (hl:l<=9223372036854775807):
  Calls Tryz.prog 155 #[.agg #[.int .i64 k,.int .i64 i,.int .i64 g,.string n,.string f,.int .i64 a,.slice so l c,.string y,.int .i64 z]] w fun e w'=>e= .returned (.bool (zbS k i g n f a l y z))/\Below w.heap.size w w':=by
 have HB:=zzH ((zzR w.heap.size w).alloc (zzL _) (.cells #[.int .i64 k,.int .i64 i,.int .i64 g,.string n,.string f,.int .i64 a,.slice so l c,.string y,.int .i64 z] 47));have HZ:Hid (zbS k i g n f a l y z=(zI k&&(zI i&&(zI g&&(zS n&&(zS f&&(zI a&&(decide (l=0)&&(zS y&&zI z))))))))):=zzH rfl;generalize zbS k i g n f a l y z=r at *
 cases h0:zI k with
 |false=>
  have t0:(k==0)=false:=(zeS k).trans h0;have E:Hid (r=false):=zzH (by rw [HZ.out,h0];rfl);clear h0;exact zz85
 |true=>
  have t0:(k==0)=true:=(zeS k).trans h0
  cases h1:zI i with
  |false=>
   have t1:(i==0)=false:=(zeS i).trans h1;have E:Hid (r=false):=zzH (by rw [HZ.out,h0,h1];rfl);clear h0 h1;exact zz85
  |true=>
   have t1:(i==0)=true:=(zeS i).trans h1
   cases h2:zI g with
   |false=>
    have t2:(g==0)=false:=(zeS g).trans h2;have E:Hid (r=false):=zzH (by rw [HZ.out,h0,h1,h2];rfl);clear h0 h1 h2;exact zz85
   |true=>
    have t2:(g==0)=true:=(zeS g).trans h2
    cases h3:zS n with
    |false=>
     have t3:(n.toList== [])=false:=(zei n).trans h3;have u3:n.toList.isEmpty=false:=by rw [<-t3];cases n.toList<;>rfl
     have E:Hid (r=false):=zzH (by rw [HZ.out,h0,h1,h2,h3];rfl);clear h0 h1 h2 h3;exact zz85
    |true=>
     have t3:(n.toList== [])=true:=(zei n).trans h3;have u3:n.toList.isEmpty=true:=by rw [<-t3];cases n.toList<;>rfl
     cases h4:zS f with
     |false=>
      have t4:(f.toList== [])=false:=(zei f).trans h4;have u4:f.toList.isEmpty=false:=by rw [<-t4];cases f.toList<;>rfl
      have E:Hid (r=false):=zzH (by rw [HZ.out,h0,h1,h2,h3,h4];rfl);clear h0 h1 h2 h3 h4;exact zz85
     |true=>
      have t4:(f.toList== [])=true:=(zei f).trans h4;have u4:f.toList.isEmpty=true:=by rw [<-t4];cases f.toList<;>rfl
      cases h5:zI a with
      |false=>
       have t5:(a==0)=false:=(zeS a).trans h5;have E:Hid (r=false):=zzH (by rw [HZ.out,h0,h1,h2,h3,h4,h5];rfl);clear h0 h1 h2 h3 h4 h5;exact zz85
      |true=>
       have t5:(a==0)=true:=(zeS a).trans h5
       cases h6:decide (l=0)with
       |false=>
        have t6:((l:Int)==0)=false:=by rw [<-h6,Bool.eq_iff_iff,beq_iff_eq,decide_eq_true_eq];omega
        have E:Hid (r=false):=zzH (by rw [HZ.out,h0,h1,h2,h3,h4,h5,h6];rfl);clear h0 h1 h2 h3 h4 h5 h6;exact zz85
       |true=>
        have t6:((l:Int)==0)=true:=by rw [<-h6,Bool.eq_iff_iff,beq_iff_eq,decide_eq_true_eq];omega
        cases h7:zS y with
        |false=>
         have t7:(y.toList== [])=false:=(zei y).trans h7;have u7:y.toList.isEmpty=false:=by rw [<-t7];cases y.toList<;>rfl
         have E:Hid (r=false):=zzH (by rw [HZ.out,h0,h1,h2,h3,h4,h5,h6,h7];rfl);clear h0 h1 h2 h3 h4 h5 h6 h7;exact zz85
        |true=>
         have t7:(y.toList== [])=true:=(zei y).trans h7;have u7:y.toList.isEmpty=true:=by rw [<-t7];cases y.toList<;>rfl
         cases h8:zI z with
         |false=>
          have t8:(z==0)=false:=(zeS z).trans h8;have E:Hid (r=false):=zzH (by rw [HZ.out,h0,h1,h2,h3,h4,h5,h6,h7,h8];rfl);clear h0 h1 h2 h3 h4 h5 h6 h7 h8;exact zz85
         |true=>
          have t8:(z==0)=true:=(zeS z).trans h8;have E:Hid (r=true):=zzH (by rw [HZ.out,h0,h1,h2,h3,h4,h5,h6,h7,h8];rfl);exact zz85
theorem zdq (w:World) (a b:Obj):((w.alloc a).alloc b).heap[w.heap.size+1]?=some b:=by
 have:=heap_alloc_new (w.alloc a) b
 rwa [show(w.alloc a).heap.size=w.heap.size+1 by simp]at this
def zej (w:World) (t:Tm) (e:Ending) (w':World):Prop:= ∃so' c',e= .returned (.agg #[.int .i64 0,.int .i64 (zd t).int,.int .i64 (zd t).gen,.string (zd t).name,.string (zd t).func,.int .i64 (zd t).arity,.slice so' (zd t).items.length c',.string (zd t).bytes,.int .i64 (zd t).bits])/\Below w.heap.size w w'
theorem zcN (t:Tm) (so:Option Addr) (c:Nat) (w:World):Calls Tryz.prog 156 #[.agg (zzt t so c)] w (zej w t):=by
 unfold zzt;obtain⟨tk,ti,tg,tn,tf,ta,tl,ty,tz⟩:=t;simp only [Tm.kind,Tm.int,Tm.gen,Tm.name,Tm.func,Tm.arity,Tm.items,Tm.bytes,Tm.bits];by_cases h:tk=1∨tk=2∨tk=3∨tk=4∨tk=5∨tk=6∨tk=7∨tk=9∨tk=10
 ·rcases h with rfl|rfl|rfl|rfl|rfl|rfl|rfl|rfl|rfl
  ·have HN:=zzH (zdq w (.cells #[.int .i64 0,.int .i64 0,.int .i64 tg,.string tn,.string tf,.int .i64 ta,.slice so tl.length c,.string ty,.int .i64 tz] 47) (.cells #[.int .i64 0,.int .i64 0,.int .i64 tg,.string tn,.string tf,.int .i64 ta,.slice so tl.length c,.string ty,.int .i64 tz] 47))
   have HB:Hid (Below w.heap.size w ((w.alloc (.cells #[.int .i64 0,.int .i64 0,.int .i64 tg,.string tn,.string tf,.int .i64 ta,.slice so tl.length c,.string ty,.int .i64 tz] 47)).alloc (.cells #[.int .i64 0,.int .i64 0,.int .i64 tg,.string tn,.string tf,.int .i64 ta,.slice so tl.length c,.string ty,.int .i64 tz] 47))):=zzH (((zzR _ _).alloc (zzL _) _).alloc (by simp) _);exact zz154
  ·have HN:=zzH (zdq w (.cells #[.int .i64 0,.int .i64 ti,.int .i64 tg,.string ⟨#[]⟩,.string tf,.int .i64 ta,.slice so tl.length c,.string ty,.int .i64 tz] 47) (.cells #[.int .i64 0,.int .i64 ti,.int .i64 tg,.string ⟨#[]⟩,.string tf,.int .i64 ta,.slice so tl.length c,.string ty,.int .i64 tz] 47))
   have HB:Hid (Below w.heap.size w ((w.alloc (.cells #[.int .i64 0,.int .i64 ti,.int .i64 tg,.string ⟨#[]⟩,.string tf,.int .i64 ta,.slice so tl.length c,.string ty,.int .i64 tz] 47)).alloc (.cells #[.int .i64 0,.int .i64 ti,.int .i64 tg,.string ⟨#[]⟩,.string tf,.int .i64 ta,.slice so tl.length c,.string ty,.int .i64 tz] 47))):=zzH (((zzR _ _).alloc (zzL _) _).alloc (by simp) _);exact zz154
  ·exact zz152
  ·have HN:=zzH (zdq w (.cells #[.int .i64 0,.int .i64 0,.int .i64 0,.string ⟨#[]⟩,.string tf,.int .i64 0,.slice none 0 0,.string ty,.int .i64 tz] 47) (.cells #[.int .i64 0,.int .i64 0,.int .i64 0,.string ⟨#[]⟩,.string tf,.int .i64 0,.slice none 0 0,.string ty,.int .i64 tz] 47))
   have HB:Hid (Below w.heap.size w ((w.alloc (.cells #[.int .i64 0,.int .i64 0,.int .i64 0,.string ⟨#[]⟩,.string tf,.int .i64 0,.slice none 0 0,.string ty,.int .i64 tz] 47)).alloc (.cells #[.int .i64 0,.int .i64 0,.int .i64 0,.string ⟨#[]⟩,.string tf,.int .i64 0,.slice none 0 0,.string ty,.int .i64 tz] 47))):=zzH (((zzR _ _).alloc (zzL _) _).alloc (by simp) _);go_in;go_wp2_with fail;refine bodyPost_ret (results_cell_row rfl _ _ (w.heap.size+1) _ _ _ _ rfl HN.out Tryz.underlying47 rfl (by kernel_rfl)) rfl ?_;exact⟨none,0,rfl,HB.out⟩
  ·have HN:=zzH (zdq w (.cells #[.int .i64 0,.int .i64 ti,.int .i64 tg,.string ⟨#[]⟩,.string ⟨#[]⟩,.int .i64 0,.slice so tl.length c,.string ty,.int .i64 tz] 47) (.cells #[.int .i64 0,.int .i64 ti,.int .i64 tg,.string ⟨#[]⟩,.string ⟨#[]⟩,.int .i64 0,.slice so tl.length c,.string ty,.int .i64 tz] 47))
   have HB:Hid (Below w.heap.size w ((w.alloc (.cells #[.int .i64 0,.int .i64 ti,.int .i64 tg,.string ⟨#[]⟩,.string ⟨#[]⟩,.int .i64 0,.slice so tl.length c,.string ty,.int .i64 tz] 47)).alloc (.cells #[.int .i64 0,.int .i64 ti,.int .i64 tg,.string ⟨#[]⟩,.string ⟨#[]⟩,.int .i64 0,.slice so tl.length c,.string ty,.int .i64 tz] 47))):=zzH (((zzR _ _).alloc (zzL _) _).alloc (by simp) _);exact zz154
  ·exact zz152
  ·exact zz153
  ·exact zz153
  ·have HN:=zzH (zdq w (.cells #[.int .i64 0,.int .i64 ti,.int .i64 tg,.string tn,.string tf,.int .i64 ta,.slice so tl.length c,.string ⟨#[]⟩,.int .i64 0] 47) (.cells #[.int .i64 0,.int .i64 ti,.int .i64 tg,.string tn,.string tf,.int .i64 ta,.slice so tl.length c,.string ⟨#[]⟩,.int .i64 0] 47))
   have HB:Hid (Below w.heap.size w ((w.alloc (.cells #[.int .i64 0,.int .i64 ti,.int .i64 tg,.string tn,.string tf,.int .i64 ta,.slice so tl.length c,.string ⟨#[]⟩,.int .i64 0] 47)).alloc (.cells #[.int .i64 0,.int .i64 ti,.int .i64 tg,.string tn,.string tf,.int .i64 ta,.slice so tl.length c,.string ⟨#[]⟩,.int .i64 0] 47))):=zzH (((zzR _ _).alloc (zzL _) _).alloc (by simp) _);exact zz154
 ·have b1:(tk==1)=false:=zzB.2 (fun e=>h (by omega))
  have b2:(tk==2)=false:=zzB.2 (fun e=>h (by omega));have b3:(tk==3)=false:=zzB.2 (fun e=>h (by omega));have b4:(tk==4)=false:=zzB.2 (fun e=>h (by omega));have b5:(tk==5)=false:=zzB.2 (fun e=>h (by omega));have b6:(tk==6)=false:=zzB.2 (fun e=>h (by omega));have b7:(tk==7)=false:=zzB.2 (fun e=>h (by omega));have b9:(tk==9)=false:=zzB.2 (fun e=>h (by omega));have b10:(tk==10)=false:=zzB.2 (fun e=>h (by omega))
  have HQ:Hid (zd (Tm.mk tk ti tg tn tf ta tl ty tz)=Tm.mk tk ti tg tn tf ta tl ty tz):=zzH (by
   simp only [not_or]at h;obtain⟨h1,h2,h3,h4,h5,h6,h7,h9,h10⟩:=h;unfold zd;simp only [Tm.kind];simp only [h1,h2,h3,h4,h5,h6,h7,h9,h10,if_false,or_self]
   try(split<;>rfl))
  clear h;have HN:=zzH (zdq w (.cells #[.int .i64 0,.int .i64 ti,.int .i64 tg,.string tn,.string tf,.int .i64 ta,.slice so tl.length c,.string ty,.int .i64 tz] 47) (.cells #[.int .i64 0,.int .i64 ti,.int .i64 tg,.string tn,.string tf,.int .i64 ta,.slice so tl.length c,.string ty,.int .i64 tz] 47));have HB:Hid (Below w.heap.size w ((w.alloc (.cells #[.int .i64 0,.int .i64 ti,.int .i64 tg,.string tn,.string tf,.int .i64 ta,.slice so tl.length c,.string ty,.int .i64 tz] 47)).alloc (.cells #[.int .i64 0,.int .i64 ti,.int .i64 tg,.string tn,.string tf,.int .i64 ta,.slice so tl.length c,.string ty,.int .i64 tz] 47))):=zzH (((zzR _ _).alloc (zzL _) _).alloc (by simp) _);go_in;go_wp2_with fail;refine bodyPost_ret (results_cell_row rfl _ _ (w.heap.size+1) _ _ _ _ rfl HN.out Tryz.underlying47 rfl (by kernel_rfl)) rfl ?_;exact⟨so,c,by rw [HQ.out];rfl,HB.out⟩
theorem zpo (j:Nat):(2:Nat)^(j+1)=2^j*2:=Nat.pow_succ ..
theorem zrX: ∀j,j<=7->(2:Nat)^j<=128/\1<=(2:Nat)^j:=by decide
theorem znl (k i g:Int) (n f:ByteArray) (a:Int) (so:Option Addr) (l c:Nat) (y:ByteArray) (z:Int) (w:World) (hy:y.size<=9223372036854775807) (hz:I64 z):
  Calls Tryz.prog 158 #[.agg #[.int .i64 k,.int .i64 i,.int .i64 g,.string n,.string f,.int .i64 a,.slice so l c,.string y,.int .i64 z]] w fun e w'=>e= .returned (.bool (zcz y z))/\Below w.heap.size w w':=by
 have HB:=zzH ((zzR w.heap.size w).alloc (zzL _) (.cells #[.int .i64 k,.int .i64 i,.int .i64 g,.string n,.string f,.int .i64 a,.slice so l c,.string y,.int .i64 z] 47));obtain⟨za,zb⟩:=hz;by_cases h0:z<0
 ·exact zz155
 ·by_cases h1:16384<z
  ·exact zz155
  ·have z0:0<=z:=by omega
   have z1:z<=16384:=by omega
   have E0:zcz y z=(decide ((y.size:Int)=(z+7)/8)&&(decide (z%8=0)||decide (zfW y%2^(8-z%8).toNat=0))):=by unfold zcz;rw [zeq z0 z1];rfl
   clear h0 h1;by_cases hl:(y.size:Int)=(z+7)/8
   ·have hlb:((y.size:Int)!=(z+7)/8)=false:=by rw [bne_eq_false_iff_eq];exact hl
    by_cases hr:z%8=0
    ·have E:Hid (zcz y z=true):=zzH (by rw [E0,decide_eq_true hl,decide_eq_true hr];rfl)
     have hrb:(z%8==0)=true:=by rw [beq_iff_eq];exact hr
     clear hl hr E0;exact zz85
    ·obtain⟨m,hm⟩: ∃m,y.size=m+1:=⟨y.size-1,by omega⟩
     obtain⟨r,hrr⟩: ∃r:Nat,z%8=(r:Int):=⟨(z%8).toNat,by omega⟩;have hr1:1<=r:=by omega
     have hr7:r<=7:=by omega
     have hmi:m<y.size:=by omega
     have E:Hid (zcz y z=decide (y[m].toNat%2^(8-r)=0)):=zzH (by
      rw [E0,decide_eq_true hl,decide_eq_false hr,zhq hm,hrr,show(8-(r:Int)).toNat=8-r by omega]
      rfl)
     have hrb:(z%8==0)=false:=zzB.2 hr;have hw1:IntKind.i64.wrap ((y.size:Int)-1)=(m:Int):=by rw [zzq3];omega
     have hidx:(y.size:Int)-1=(m:Int):=by omega
     have HM:=zzH hm;clear hr E0 hl hm;go_in;go_wp2_with fail;generalize hbb:y[m].toNat=lb at *;have hlb2:lb<256:=by rw [<-hbb];exact UInt8.toNat_lt _
     have HRR:=zzH hrr;have hwl:wrap64 ((lb:Nat):Int)=(lb:Int):=by unfold wrap64;omega
     have HWL:=zzH hwl;clear hbb hrr hw1 hidx hrb hlb hwl;go_loop [4,5] (fun uv iv=> ∃(j p:Nat),r+j<=8/\iv= .int .i64 ((r+j:Nat):Int)/\uv= .int .i64 (p:Int)/\Hid (p=2^j)/\1<=p/\p<=256) (fun _ iv=>8-(intOf iv).toNat)
     case atStart=>exact⟨0,1,by omega,by(have h9:=HRR.out;go_num),by go_num,zzH rfl,by decide,by decide⟩
     case round=>
      obtain⟨j,p,hj,rfl,rfl,HP,hp1,hp2⟩:=hrel;by_cases hlt:r+j<8
      ·have hp7:p<=128:=by rw [HP.out];exact(zrX j (by omega)).1
       have HP2:Hid (p*2=2^(j+1)):=zzH (by rw [zpo,HP.out]);go_wp2_with fail;go_round
       case rel=>exact⟨j+1,p*2,by omega,by go_num,by go_num,HP2,by omega,by omega⟩
       case measure=>simp [intOf];omega
      ·have hj8:j=8-r:=by omega
       have E2:Hid (zcz y z=(((lb:Int)%(p:Int))==0)):=zzH (by
        rw [E.out,HP.out,hj8,Bool.eq_iff_iff,decide_eq_true_eq,beq_iff_eq];constructor
        ·intro h;exact_mod_cast h
        ·intro h;exact_mod_cast h)
       have hp0:((p:Int)==0)=false:=by rw [zzq5];omega
       clear hj8;go_wp2_with fail
       all_goals go_ret
       all_goals exact⟨zr (by rw [HWL.out,Int.tmod_eq_emod_of_nonneg (by omega)];exact E2.out.symm),HB.out⟩
   ·have hlb:((y.size:Int)!=(z+7)/8)=true:=by rw [bne_iff_ne];exact hl
    have E:Hid (zcz y z=false):=zzH (by rw [E0,decide_eq_false hl];rfl);clear hl E0;exact zz85
theorem zlv {t:Tm} (h:okK t=true):0<=zbc t/\zbc t<=300+t.items.length:=by
 unfold zbc;by_cases h9:t.kind=9
 ·rw [if_pos h9]
  unfold okK at h;rw [if_neg (by omega),if_neg (by omega),if_neg (by omega),if_neg (by omega),if_neg (by omega),if_neg (by omega),if_neg (by omega),if_pos h9,Bool.and_eq_true,decide_eq_true_eq]at h;omega
 ·rw [if_neg h9]
  by_cases h10:t.kind=10
  ·rw [if_pos h10]
   unfold okK at h;rw [if_neg (by omega),if_neg (by omega),if_neg (by omega),if_neg (by omega),if_neg (by omega),if_neg (by omega),if_neg (by omega),if_neg h9,if_pos h10]at h;unfold zgG zcz at h;rw [Bool.and_eq_true,Bool.and_eq_true]at h;have:=h.1.1;unfold wi at this;rw [Bool.and_eq_true,decide_eq_true_eq,decide_eq_true_eq]at this;omega
  ·rw [if_neg h10];omega
theorem zgy {f:Nat} (ih: ∀t,zj f t=true->0<=zx f t/\zx f t<=(zR f t:Int)): ∀(l:List Tm),l.all (zj f)=true->0<=zbP (l.map (zx f))/\zbP (l.map (zx f))<=(zcw (l.map (zR f)):Int)
 |[],_=>⟨Int.le_refl _,Int.le_refl _⟩
 |t::l,h=>by
  rw [List.all_cons,Bool.and_eq_true]at h;have h1:=ih t h.1;have h2:=zgy ih l h.2;show 0<=zx f t+zbP (l.map (zx f))/\zx f t+zbP (l.map (zx f))<=((zR f t+zcw (l.map (zR f)):Nat):Int);omega
theorem zd4: ∀(f:Nat) (t:Tm),zj f t=true->0<=zx f t/\zx f t<=(zR f t:Int)
 |0,_,h=>by cases h
 |f+1,t,h=>by
  unfold zj at h;rw [Bool.and_eq_true]at h;have hl:=h.1;unfold zcH at hl;rw [Bool.and_eq_true]at hl;have h1:=zlv hl.1;have h2:=zgy (zd4 f) t.items h.2;show 0<=zbc t+zbP (t.items.map (zx f))/\zbc t+zbP (t.items.map (zx f))<=((300+t.items.length+zcw (t.items.map (zR f)):Nat):Int);omega
theorem zjg {f:Nat} {l:List Tm} (h:l.all (zj f)=true) (k:Nat):(l.drop k).all (zj f)=true:=by
 rw [List.all_eq_true]at h ⊢;exact fun x hx=>h x (List.mem_of_mem_drop hx)
theorem zb8 (w:World) (t:Tm) (so:Option Addr) (c:Nat):(w.alloc (.cells #[.int .i64 t.kind,.int .i64 t.int,.int .i64 t.gen,.string t.name,.string t.func,.int .i64 t.arity,.slice so t.items.length c,.string t.bytes,.int .i64 t.bits] 47)).heap[w.heap.size]?=some (.cells #[.int .i64 t.kind,.int .i64 t.int,.int .i64 t.gen,.string t.name,.string t.func,.int .i64 t.arity,.slice so t.items.length c,.string t.bytes,.int .i64 t.bits] 47 (0,0)):=heap_alloc_new _ _
theorem zji: ∀(l:List Nat) (x:Nat),x∈l->x<=zcw l
 |[],_,h=>by cases h
 |y::l,x,h=>by
  show x<=y+zcw l;rcases List.mem_cons.1 h with rfl|h
  ·omega
  ·have:=zji l x h;omega
def zjO (f:Nat):Prop:= ∀(t:Tm) (so:Option Addr) (c:Nat) (w:World),SlAt w 9 (TmAt w f) so t.items->t.Ok->zj (f+1) t=true->(zR (f+1) t:Int)<=1152921504606846976 ->
 Calls Tryz.prog 135 #[.agg #[.int .i64 t.kind,.int .i64 t.int,.int .i64 t.gen,.string t.name,.string t.func,.int .i64 t.arity,.slice so t.items.length c,.string t.bytes,.int .i64 t.bits]] w fun e w'=>e= .returned (.int .i64 (zx (f+1) t))/\Below w.heap.size w w'
def zjy (f:Nat) (t:Tm) (so:Option Addr) (Wa:World) (TV:Int):Prop:= ∀(k:Nat) (s:Int) (wr:World) (hlt:k<t.items.length),Below Wa.heap.size Wa wr->TV=s+zbP ((t.items.drop k).map (zx f)) ->
 ∃b2 off ai ci,so=some ⟨b2,off,none⟩/\b2<wr.heap.size/\wr.cell? ⟨b2,off+k*9,none⟩=some (.int .i64 t.items[k].kind)/\wr.cell? ⟨b2,off+k*9+1,none⟩=some (.int .i64 t.items[k].int) /\
   wr.cell? ⟨b2,off+k*9+2,none⟩=some (.int .i64 t.items[k].gen)/\wr.cell? ⟨b2,off+k*9+3,none⟩=some (.string t.items[k].name)/\wr.cell? ⟨b2,off+k*9+4,none⟩=some (.string t.items[k].func) /\
   wr.cell? ⟨b2,off+k*9+5,none⟩=some (.int .i64 t.items[k].arity)/\wr.cell? ⟨b2,off+k*9+6,none⟩=some (.slice ai t.items[k].items.length ci)/\wr.cell? ⟨b2,off+k*9+7,none⟩=some (.string t.items[k].bytes) /\
   wr.cell? ⟨b2,off+k*9+8,none⟩=some (.int .i64 t.items[k].bits) /\
   (Calls Tryz.prog 135 #[.agg #[.int .i64 t.items[k].kind,.int .i64 t.items[k].int,.int .i64 t.items[k].gen,.string t.items[k].name,.string t.items[k].func,.int .i64 t.items[k].arity,.slice ai t.items[k].items.length ci,.string t.items[k].bytes,.int .i64 t.items[k].bits]] wr fun e w'=>e= .returned (.int .i64 (zx f t.items[k]))/\Below wr.heap.size wr w')/\TV=(s+zx f t.items[k])+zbP ((t.items.drop (k+1)).map (zx f))/\0<=zx f t.items[k]/\(s+zx f t.items[k]<=1152921504606846976)
def zhx (f:Nat) (t:Tm) (so:Option Addr) (w:World):Prop:= ∀(Wa:World),Below w.heap.size w Wa->zjy f t so Wa (zx (f+1) t)
theorem zkW (f:Nat) (t:Tm) (so:Option Addr) (c:Nat) (w:World) (hsl:SlAt w 9 (TmAt w f) so t.items) (hok:t.Ok) (hform:zj (f+1) t=true) (hcap:(zR (f+1) t:Int)<=1152921504606846976) (hrec:zhx f t so w) (hk:t.kind=9):
  Calls Tryz.prog 135 #[.agg (zzt t so c)] w fun e w'=>e= .returned (.int .i64 (zx (f+1) t))/\Below w.heap.size w w':=by
 unfold zzt;have hwc:=zd4 (f+1) t hform;have HTV0:Hid (zx (f+1) t=zbc t+zbP ((t.items.drop 0).map (zx f))):=zzH rfl
 have hown:0<=zbc t/\zbc t<=300+t.items.length:=by
  exact zz157
 have hil:t.items.length<=1152921504606846976:=by
  exact zz158
 have hownc:zbc t<=1152921504606846976:=by
  exact zz159
 have HOWN:Hid (zbc t=(t.items.length:Int)-1):=zzH (by unfold zbc;rw [if_pos hk]);have HKD:=zzH hk;clear hk;have HTV:Hid (zx (f+1) t=((t.items.length:Int)-1)+zbP ((t.items.drop 0).map (zx f))):=zzH (by rw [HTV0.out,HOWN.out]);have HSL:=zzH hsl;have HREC0:=zzH hrec;rw [HOWN.out]at hown hownc;obtain⟨hown0,hown1⟩:=hown;clear hsl hrec hform hcap hwc HTV0;unfold zhx at HREC0;generalize zx (f+1) t=TV at *;go_in;go_upto_region 2 with fail;have hbx:=zb8 w t so c;have hba:Below w.heap.size w (w.alloc (.cells (zzt t so c) 47)):=(zzR _ _).alloc (zzL _) _;generalize w.alloc (.cells (zzt t so c) 47)=Wa at *;have HS:Hid (SlAt Wa 9 (TmAt Wa f) so t.items):=zzH (SlAt.tms HSL.out hba);generalize hBz:w.heap.size=B at *;have HBZ:=zzH hBz;have HBA:=zzH hba;have HBX:=zzH hbx;clear hBz hba;have hlb:=zc hbx;have c0:Wa.cell? ⟨B,0,none⟩=some (.int .i64 t.kind):=by rw [zzq2 _ _ _ _ _ _ hbx];rfl
 rw [HKD.out]at c0;have c6:Wa.cell? ⟨B,6,none⟩=some (.slice so t.items.length c):=by rw [zzq2 _ _ _ _ _ _ hbx];rfl
 have c8:Wa.cell? ⟨B,8,none⟩=some (.int .i64 t.bits):=by rw [zzq2 _ _ _ _ _ _ hbx];rfl
 clear hbx;have HFIN:Hid (∀wx,Below Wa.heap.size Wa wx->Below B w wx):=zzH (fun wx hh=>HBA.out.trans (hh.mono (by have:=HBA.out.size;have:=HBZ.out;omega)));have HREC:Hid (zjy f t so Wa TV):=zzH (HREC0.out Wa HBA.out);go_wp2_with fail;go_loopw [3,4] (fun nv iv wr=> ∃(k:Nat) (s:Int),k<=t.items.length/\iv= .int .i64 k/\nv= .int .i64 s/\Hid (TV=s+zbP ((t.items.drop k).map (zx f)))/\0<=s/\s<=1152921504606846976/\Hid (Below Wa.heap.size Wa wr)) (fun _ iv _=>t.items.length-(intOf iv).toNat)
 case atStart=>exact⟨0,((t.items.length:Int)-1),zzZ _,rfl,by go_num,HTV,by omega,by omega,zzH (zzR _ _)⟩
 case round=>
  exact zz156
theorem zlR (f:Nat) (t:Tm) (so:Option Addr) (c:Nat) (w:World) (hsl:SlAt w 9 (TmAt w f) so t.items) (hok:t.Ok) (hform:zj (f+1) t=true) (hcap:(zR (f+1) t:Int)<=1152921504606846976) (hrec:zhx f t so w) (hk:t.kind=10):
  Calls Tryz.prog 135 #[.agg (zzt t so c)] w fun e w'=>e= .returned (.int .i64 (zx (f+1) t))/\Below w.heap.size w w':=by
 unfold zzt;have hwc:=zd4 (f+1) t hform;have HTV0:Hid (zx (f+1) t=zbc t+zbP ((t.items.drop 0).map (zx f))):=zzH rfl
 have hown:0<=zbc t/\zbc t<=300+t.items.length:=by
  exact zz157
 have hil:t.items.length<=1152921504606846976:=by
  exact zz158
 have hownc:zbc t<=1152921504606846976:=by
  exact zz159
 have HOWN:Hid (zbc t=1+(t.bits+63)/64):=zzH (by unfold zbc;rw [if_neg (by omega),if_pos hk])
 have hbt:0<=t.bits/\t.bits<=16384:=by
  unfold zj at hform;rw [Bool.and_eq_true]at hform;have h:=hform.1;unfold zcH at h;rw [Bool.and_eq_true]at h;have h:=h.1;unfold okK at h;rw [if_neg (by omega),if_neg (by omega),if_neg (by omega),if_neg (by omega),if_neg (by omega),if_neg (by omega),if_neg (by omega),if_neg (by omega),if_pos hk]at h;unfold zgG zcz at h;rw [Bool.and_eq_true,Bool.and_eq_true]at h;have:=h.1.1;unfold wi at this;rw [Bool.and_eq_true,decide_eq_true_eq,decide_eq_true_eq]at this;exact this
 obtain⟨hbt0,hbt1⟩:=hbt;have HKD:=zzH hk;clear hk;have HTV:Hid (zx (f+1) t=(1+(t.bits+63)/64)+zbP ((t.items.drop 0).map (zx f))):=zzH (by rw [HTV0.out,HOWN.out]);have HSL:=zzH hsl;have HREC0:=zzH hrec;rw [HOWN.out]at hown hownc;obtain⟨hown0,hown1⟩:=hown;clear hsl hrec hform hcap hwc HTV0;unfold zhx at HREC0;generalize zx (f+1) t=TV at *;go_in;go_upto_region 2 with fail;have hbx:=zb8 w t so c;have hba:Below w.heap.size w (w.alloc (.cells (zzt t so c) 47)):=(zzR _ _).alloc (zzL _) _;generalize w.alloc (.cells (zzt t so c) 47)=Wa at *;have HS:Hid (SlAt Wa 9 (TmAt Wa f) so t.items):=zzH (SlAt.tms HSL.out hba);generalize hBz:w.heap.size=B at *;have HBZ:=zzH hBz;have HBA:=zzH hba;have HBX:=zzH hbx;clear hBz hba;have hlb:=zc hbx;have c0:Wa.cell? ⟨B,0,none⟩=some (.int .i64 t.kind):=by rw [zzq2 _ _ _ _ _ _ hbx];rfl
 rw [HKD.out]at c0;have c6:Wa.cell? ⟨B,6,none⟩=some (.slice so t.items.length c):=by rw [zzq2 _ _ _ _ _ _ hbx];rfl
 have c8:Wa.cell? ⟨B,8,none⟩=some (.int .i64 t.bits):=by rw [zzq2 _ _ _ _ _ _ hbx];rfl
 clear hbx;have HFIN:Hid (∀wx,Below Wa.heap.size Wa wx->Below B w wx):=zzH (fun wx hh=>HBA.out.trans (hh.mono (by have:=HBA.out.size;have:=HBZ.out;omega)));have HREC:Hid (zjy f t so Wa TV):=zzH (HREC0.out Wa HBA.out);go_wp2_with fail;go_loopw [3,4] (fun nv iv wr=> ∃(k:Nat) (s:Int),k<=t.items.length/\iv= .int .i64 k/\nv= .int .i64 s/\Hid (TV=s+zbP ((t.items.drop k).map (zx f)))/\0<=s/\s<=1152921504606846976/\Hid (Below Wa.heap.size Wa wr)) (fun _ iv _=>t.items.length-(intOf iv).toNat)
 case atStart=>exact⟨0,(1+(t.bits+63)/64),zzZ _,rfl,by go_num,HTV,by omega,by omega,zzH (zzR _ _)⟩
 case round=>
  exact zz156
theorem zoJ (f:Nat) (t:Tm) (so:Option Addr) (c:Nat) (w:World) (hsl:SlAt w 9 (TmAt w f) so t.items) (hok:t.Ok) (hform:zj (f+1) t=true) (hcap:(zR (f+1) t:Int)<=1152921504606846976) (hrec:zhx f t so w) (hk9: ¬t.kind=9) (hk10: ¬t.kind=10):
  Calls Tryz.prog 135 #[.agg (zzt t so c)] w fun e w'=>e= .returned (.int .i64 (zx (f+1) t))/\Below w.heap.size w w':=by
 unfold zzt;have hwc:=zd4 (f+1) t hform;have HTV0:Hid (zx (f+1) t=zbc t+zbP ((t.items.drop 0).map (zx f))):=zzH rfl
 have hown:0<=zbc t/\zbc t<=300+t.items.length:=by
  exact zz157
 have hil:t.items.length<=1152921504606846976:=by
  exact zz158
 have hownc:zbc t<=1152921504606846976:=by
  exact zz159
 have HOWN:Hid (zbc t=1):=zzH (by unfold zbc;rw [if_neg hk9,if_neg hk10]);have t9:(t.kind==9)=false:=zzB.2 hk9;have t10:(t.kind==10)=false:=zzB.2 hk10;clear hk9 hk10;have HTV:Hid (zx (f+1) t=(1:Int)+zbP ((t.items.drop 0).map (zx f))):=zzH (by rw [HTV0.out,HOWN.out]);have HSL:=zzH hsl;have HREC0:=zzH hrec;rw [HOWN.out]at hown hownc;obtain⟨hown0,hown1⟩:=hown;clear hsl hrec hform hcap hwc HTV0;unfold zhx at HREC0;generalize zx (f+1) t=TV at *;go_in;go_upto_region 2 with fail;have hbx:=zb8 w t so c;have hba:Below w.heap.size w (w.alloc (.cells (zzt t so c) 47)):=(zzR _ _).alloc (zzL _) _;generalize w.alloc (.cells (zzt t so c) 47)=Wa at *;have HS:Hid (SlAt Wa 9 (TmAt Wa f) so t.items):=zzH (SlAt.tms HSL.out hba);generalize hBz:w.heap.size=B at *;have HBZ:=zzH hBz;have HBA:=zzH hba;have HBX:=zzH hbx;clear hBz hba;have hlb:=zc hbx;have c0:Wa.cell? ⟨B,0,none⟩=some (.int .i64 t.kind):=by rw [zzq2 _ _ _ _ _ _ hbx];rfl
 have c6:Wa.cell? ⟨B,6,none⟩=some (.slice so t.items.length c):=by rw [zzq2 _ _ _ _ _ _ hbx];rfl
 have c8:Wa.cell? ⟨B,8,none⟩=some (.int .i64 t.bits):=by rw [zzq2 _ _ _ _ _ _ hbx];rfl
 clear hbx;have HFIN:Hid (∀wx,Below Wa.heap.size Wa wx->Below B w wx):=zzH (fun wx hh=>HBA.out.trans (hh.mono (by have:=HBA.out.size;have:=HBZ.out;omega)));have HREC:Hid (zjy f t so Wa TV):=zzH (HREC0.out Wa HBA.out);go_wp2_with fail;go_loopw [3,4] (fun nv iv wr=> ∃(k:Nat) (s:Int),k<=t.items.length/\iv= .int .i64 k/\nv= .int .i64 s/\Hid (TV=s+zbP ((t.items.drop k).map (zx f)))/\0<=s/\s<=1152921504606846976/\Hid (Below Wa.heap.size Wa wr)) (fun _ iv _=>t.items.length-(intOf iv).toNat)
 case atStart=>exact⟨0,(1:Int),zzZ _,rfl,by go_num,HTV,by omega,by omega,zzH (zzR _ _)⟩
 case round=>
  exact zz156
theorem zh5 (f:Nat) (IH: ∀f',f=f'+1->zjO f'):zjO f:=by
 intro t so c w hsl hok hform hcap
 have hall:t.items.all (zj f)=true:=by
  unfold zj at hform;rw [Bool.and_eq_true]at hform;exact hform.2
 have hwc:=zd4 (f+1) t hform
 have hrec:zhx f t so w:=by
  intro Wa hba k s wr hlt hb hs
  cases f with
  |zero=>rw [hsl.zero]at hlt;exact absurd hlt (Nat.not_lt_zero _)
  |succ f=>
   obtain⟨b2,off,ai,ci,hao,hb2,q0,q1,q2,q3,q4,q5,q6,q7,q8,hit,hok2⟩:=(SlAt.tms (SlAt.tms hsl hba) hb).tm hlt;have hf2:zj (f+1) t.items[k]=true:=List.all_eq_true.1 hall _ (List.getElem_mem hlt)
   have hc2:(zR (f+1) t.items[k]:Int)<=1152921504606846976:=by
    have h1:zR (f+1) t.items[k]<=zcw (t.items.map (zR (f+1))):=zji _ _ (List.mem_map.2 ⟨_,List.getElem_mem hlt,rfl⟩);have h2:zR (f+1+1) t=300+t.items.length+zcw (t.items.map (zR (f+1))):=rfl;rw [h2]at hcap;omega
   have hd:=zg5 (f:=f+1) hlt;have hw:=zd4 (f+1) _ hf2;have hrest:=zgy (zd4 (f+1)) (t.items.drop (k+1)) (zjg hall (k+1));rw [hd]at hs;exact⟨b2,off,ai,ci,hao,hb2,q0,q1,q2,q3,q4,q5,q6,q7,q8,IH f rfl _ ai ci wr hit hok2 hf2 hc2,by rw [hs];omega,hw.1,by omega⟩
 by_cases h9:t.kind=9
 ·exact zkW f t so c w hsl hok hform hcap hrec h9
 by_cases h10:t.kind=10
 ·exact zlR f t so c w hsl hok hform hcap hrec h10
 exact zoJ f t so c w hsl hok hform hcap hrec h9 h10
theorem znC (f:Nat):zjO f:=by
 induction f with
 |zero=>exact zh5 0 (fun f' h=>absurd h (by omega))
 |succ f ih=>exact zh5 (f+1) (fun f' h=>by
   have:f'=f:=by omega
   subst this;exact ih)
theorem zp8 {l:List Tm} (h:l.length-1<l.length):zgo l=l[l.length-1].kind:=by
 unfold zgo;rw [List.getLast?_eq_getElem?,zzq8 h]
def zmI (f:Nat):Prop:= ∀(t:Tm) (so:Option Addr) (c:Nat) (w:World),SlAt w 9 (TmAt w f) so t.items->t.Ok ->
 Calls Tryz.prog 134 #[.agg #[.int .i64 t.kind,.int .i64 t.int,.int .i64 t.gen,.string t.name,.string t.func,.int .i64 t.arity,.slice so t.items.length c,.string t.bytes,.int .i64 t.bits]] w fun e w'=>e= .returned (.bool (zj (f+1) t))/\Below w.heap.size w w'
def zdD (f:Nat) (t:Tm) (so:Option Addr) (Wa:World) (A:Bool):Prop:= ∀(k:Nat) (wr:World) (hlt:k<t.items.length),Below Wa.heap.size Wa wr->A=(t.items.drop k).all (zj f) ->
 ∃b2 off ai ci,so=some ⟨b2,off,none⟩/\b2<wr.heap.size/\wr.cell? ⟨b2,off+k*9,none⟩=some (.int .i64 t.items[k].kind)/\wr.cell? ⟨b2,off+k*9+1,none⟩=some (.int .i64 t.items[k].int)/\wr.cell? ⟨b2,off+k*9+2,none⟩=some (.int .i64 t.items[k].gen)/\wr.cell? ⟨b2,off+k*9+3,none⟩=some (.string t.items[k].name)/\wr.cell? ⟨b2,off+k*9+4,none⟩=some (.string t.items[k].func)/\wr.cell? ⟨b2,off+k*9+5,none⟩=some (.int .i64 t.items[k].arity)/\wr.cell? ⟨b2,off+k*9+6,none⟩=some (.slice ai t.items[k].items.length ci)/\wr.cell? ⟨b2,off+k*9+7,none⟩=some (.string t.items[k].bytes)/\wr.cell? ⟨b2,off+k*9+8,none⟩=some (.int .i64 t.items[k].bits)/\ ∃r,(Calls Tryz.prog 134 #[.agg #[.int .i64 t.items[k].kind,.int .i64 t.items[k].int,.int .i64 t.items[k].gen,.string t.items[k].name,.string t.items[k].func,.int .i64 t.items[k].arity,.slice ai t.items[k].items.length ci,.string t.items[k].bytes,.int .i64 t.items[k].bits]] wr fun e w'=>e= .returned (.bool r)/\Below wr.heap.size wr w')/\A=(r&&(t.items.drop (k+1)).all (zj f))
def zde (f:Nat) (t:Tm) (so:Option Addr) (w:World):Prop:= ∀(Wa:World),Below w.heap.size w Wa->zdD f t so Wa (t.items.all (zj f))
theorem znm (f:Nat) (t:Tm) (so:Option Addr) (c:Nat) (w:World) (hok:t.Ok) (hrec:zde f t so w) (hz:zbS 0 (zd t).int (zd t).gen (zd t).name (zd t).func (zd t).arity (zd t).items.length (zd t).bytes (zd t).bits=false):
  Calls Tryz.prog 134 #[.agg (zzt t so c)] w fun e w'=>e= .returned (.bool (zj (f+1) t))/\Below w.heap.size w w':=by
 unfold zzt;obtain⟨ok0,ok1,ok2,ok3,ok4,ok5,ok6,ok7,ok8⟩:=hok;unfold maxLen at ok3 ok4 ok6 ok7;have HE:Hid (zj (f+1) t=((okK t&&zbS 0 (zd t).int (zd t).gen (zd t).name (zd t).func (zd t).arity (zd t).items.length (zd t).bytes (zd t).bits)&&t.items.all (zj f))):=zzH (by rw [zdn];rfl);have hZ:=fun so' c' wx=>zcO 0 (zd t).int (zd t).gen (zd t).name (zd t).func (zd t).arity so' (zd t).items.length c' (zd t).bytes (zd t).bits wx (zzY (zcD t) (by omega))
 have hB:=fun wx=>zcN t so c wx
 unfold zej at hB;generalize zbS 0 (zd t).int (zd t).gen (zd t).name (zd t).func (zd t).arity (zd t).items.length (zd t).bytes (zd t).bits=Z at *;generalize zd t=q at *;have HREC0:=zzH hrec;clear hrec;generalize zj (f+1) t=R at *;subst hz;go_in;go_upto_region 1 with fail;have hbx:=zb8 w t so c;have hba:Below w.heap.size w (w.alloc (.cells (zzt t so c) 47)):=(zzR _ _).alloc (zzL _) _;generalize w.alloc (.cells (zzt t so c) 47)=Wa at *;have HREC:Hid (zdD f t so Wa (t.items.all (zj f))):=zzH (HREC0.out Wa hba);clear HREC0;generalize hBz:w.heap.size=B at *;have HBZ:=zzH hBz;have HBA:=zzH hba;have HBX:=zzH hbx;clear hBz hba;have hlb:=zc hbx;obtain ⟨c0,c1,c2,c3,c4,c5,c6,c7,c8⟩:=zzc9 hbx;clear hbx;have HFIN:Hid (∀wx,Below Wa.heap.size Wa wx->Below B w wx):=zzH (fun wx hh=>HBA.out.trans (hh.mono (by have:=HBA.out.size;have:=HBZ.out;omega)));go_wp2_with fail;refine(hB _).mono ?_;rintro e w1 ⟨so',c',rfl,hb1⟩;go_wp2_with fail;refine(hZ so' c' _).mono ?_;rintro e w2 ⟨rfl,hb2⟩;clear hZ hB;have HB2:Hid (Below Wa.heap.size Wa w2):=zzH (ze hb1 hb2);clear hb1 hb2;go_wp2_with fail;go_ret;exact⟨zr (by rw [HE.out];cases okK t<;>rfl),by rw [HBZ.out];exact HFIN.out _ HB2.out⟩
theorem zpC (f:Nat) (t:Tm) (so:Option Addr) (c:Nat) (w:World) (hok:t.Ok) (hrec:zde f t so w) (hz:zbS 0 (zd t).int (zd t).gen (zd t).name (zd t).func (zd t).arity (zd t).items.length (zd t).bytes (zd t).bits=true) (hkd:t.kind=1):
  Calls Tryz.prog 134 #[.agg (zzt t so c)] w fun e w'=>e= .returned (.bool (zj (f+1) t))/\Below w.heap.size w w':=by
 unfold zzt;have HKD:=zzH hkd;clear hkd;obtain⟨ok0,ok1,ok2,ok3,ok4,ok5,ok6,ok7,ok8⟩:=hok;unfold maxLen at ok3 ok4 ok6 ok7;have HE:Hid (zj (f+1) t=((okK t&&zbS 0 (zd t).int (zd t).gen (zd t).name (zd t).func (zd t).arity (zd t).items.length (zd t).bytes (zd t).bits)&&t.items.all (zj f))):=zzH (by rw [zdn];rfl);have hZ:=fun so' c' wx=>zcO 0 (zd t).int (zd t).gen (zd t).name (zd t).func (zd t).arity so' (zd t).items.length c' (zd t).bytes (zd t).bits wx (zzY (zcD t) (by omega))
 have hB:=fun wx=>zcN t so c wx
 unfold zej at hB;generalize zbS 0 (zd t).int (zd t).gen (zd t).name (zd t).func (zd t).arity (zd t).items.length (zd t).bytes (zd t).bits=Z at *;generalize zd t=q at *;have HREC0:=zzH hrec;clear hrec;generalize zj (f+1) t=R at *;subst hz;go_in;go_upto_region 1 with fail;have hbx:=zb8 w t so c;have hba:Below w.heap.size w (w.alloc (.cells (zzt t so c) 47)):=(zzR _ _).alloc (zzL _) _;generalize w.alloc (.cells (zzt t so c) 47)=Wa at *;have HREC:Hid (zdD f t so Wa (t.items.all (zj f))):=zzH (HREC0.out Wa hba);clear HREC0;generalize hBz:w.heap.size=B at *;have HBZ:=zzH hBz;have HBA:=zzH hba;have HBX:=zzH hbx;clear hBz hba;have hlb:=zc hbx;obtain ⟨c0,c1,c2,c3,c4,c5,c6,c7,c8⟩:=zzc9 hbx;clear hbx;have HFIN:Hid (∀wx,Below Wa.heap.size Wa wx->Below B w wx):=zzH (fun wx hh=>HBA.out.trans (hh.mono (by have:=HBA.out.size;have:=HBZ.out;omega)));go_wp2_with fail;refine(hB _).mono ?_;rintro e w1 ⟨so',c',rfl,hb1⟩;go_wp2_with fail;refine(hZ so' c' _).mono ?_;rintro e w2 ⟨rfl,hb2⟩;clear hZ hB;have HB2:Hid (Below Wa.heap.size Wa w2):=zzH (ze hb1 hb2);clear hb1 hb2;have HET:Hid (∀A,t.items.all (zj f)=A->R=(okK t&&A)):=zzH (fun A h=>by rw [HE.out,h,Bool.and_true]);clear HE;have HAK:Hid (t.items.all (zj f)=(t.items.drop 0).all (zj f)):=zzH rfl;generalize t.items.all (zj f)=A at HREC HET HAK;go_wp2_with fail;go_loopw [3] (fun iv wr=> ∃(k:Nat),k<=t.items.length/\iv= .int .i64 k/\Hid (A=(t.items.drop k).all (zj f))/\Hid (Below Wa.heap.size Wa wr)) (fun iv _=>t.items.length-(intOf iv).toNat)
 case atStart=>exact⟨0,zzZ _,rfl,HAK,HB2⟩
 case round=>
  exact zz164
theorem zpR (f:Nat) (t:Tm) (so:Option Addr) (c:Nat) (w:World) (hok:t.Ok) (hrec:zde f t so w) (hz:zbS 0 (zd t).int (zd t).gen (zd t).name (zd t).func (zd t).arity (zd t).items.length (zd t).bytes (zd t).bits=true) (hkd:t.kind=8):
  Calls Tryz.prog 134 #[.agg (zzt t so c)] w fun e w'=>e= .returned (.bool (zj (f+1) t))/\Below w.heap.size w w':=by
 unfold zzt;have HKD:=zzH hkd;clear hkd;obtain⟨ok0,ok1,ok2,ok3,ok4,ok5,ok6,ok7,ok8⟩:=hok;unfold maxLen at ok3 ok4 ok6 ok7;have HE:Hid (zj (f+1) t=((okK t&&zbS 0 (zd t).int (zd t).gen (zd t).name (zd t).func (zd t).arity (zd t).items.length (zd t).bytes (zd t).bits)&&t.items.all (zj f))):=zzH (by rw [zdn];rfl);have hZ:=fun so' c' wx=>zcO 0 (zd t).int (zd t).gen (zd t).name (zd t).func (zd t).arity so' (zd t).items.length c' (zd t).bytes (zd t).bits wx (zzY (zcD t) (by omega))
 have hB:=fun wx=>zcN t so c wx
 unfold zej at hB;generalize zbS 0 (zd t).int (zd t).gen (zd t).name (zd t).func (zd t).arity (zd t).items.length (zd t).bytes (zd t).bits=Z at *;generalize zd t=q at *;have HREC0:=zzH hrec;clear hrec;generalize zj (f+1) t=R at *;subst hz;go_in;go_upto_region 1 with fail;have hbx:=zb8 w t so c;have hba:Below w.heap.size w (w.alloc (.cells (zzt t so c) 47)):=(zzR _ _).alloc (zzL _) _;generalize w.alloc (.cells (zzt t so c) 47)=Wa at *;have HREC:Hid (zdD f t so Wa (t.items.all (zj f))):=zzH (HREC0.out Wa hba);clear HREC0;generalize hBz:w.heap.size=B at *;have HBZ:=zzH hBz;have HBA:=zzH hba;have HBX:=zzH hbx;clear hBz hba;have hlb:=zc hbx;obtain ⟨c0,c1,c2,c3,c4,c5,c6,c7,c8⟩:=zzc9 hbx;clear hbx;have HFIN:Hid (∀wx,Below Wa.heap.size Wa wx->Below B w wx):=zzH (fun wx hh=>HBA.out.trans (hh.mono (by have:=HBA.out.size;have:=HBZ.out;omega)));go_wp2_with fail;refine(hB _).mono ?_;rintro e w1 ⟨so',c',rfl,hb1⟩;go_wp2_with fail;refine(hZ so' c' _).mono ?_;rintro e w2 ⟨rfl,hb2⟩;clear hZ hB;have HB2:Hid (Below Wa.heap.size Wa w2):=zzH (ze hb1 hb2);clear hb1 hb2;have HET:Hid (∀A,t.items.all (zj f)=A->R=(okK t&&A)):=zzH (fun A h=>by rw [HE.out,h,Bool.and_true]);clear HE;have HAK:Hid (t.items.all (zj f)=(t.items.drop 0).all (zj f)):=zzH rfl;generalize t.items.all (zj f)=A at HREC HET HAK;go_wp2_with fail;go_loopw [3] (fun iv wr=> ∃(k:Nat),k<=t.items.length/\iv= .int .i64 k/\Hid (A=(t.items.drop k).all (zj f))/\Hid (Below Wa.heap.size Wa wr)) (fun iv _=>t.items.length-(intOf iv).toNat)
 case atStart=>exact⟨0,zzZ _,rfl,HAK,HB2⟩
 case round=>
  exact zz164
theorem zn5 (f:Nat) (t:Tm) (so:Option Addr) (c:Nat) (w:World) (hok:t.Ok) (hrec:zde f t so w) (hz:zbS 0 (zd t).int (zd t).gen (zd t).name (zd t).func (zd t).arity (zd t).items.length (zd t).bytes (zd t).bits=true) (hkd:t.kind=2):
  Calls Tryz.prog 134 #[.agg (zzt t so c)] w fun e w'=>e= .returned (.bool (zj (f+1) t))/\Below w.heap.size w w':=by
 unfold zzt;have HKD:=zzH hkd;clear hkd;obtain⟨ok0,ok1,ok2,ok3,ok4,ok5,ok6,ok7,ok8⟩:=hok;unfold maxLen at ok3 ok4 ok6 ok7;have HE:Hid (zj (f+1) t=((okK t&&zbS 0 (zd t).int (zd t).gen (zd t).name (zd t).func (zd t).arity (zd t).items.length (zd t).bytes (zd t).bits)&&t.items.all (zj f))):=zzH (by rw [zdn];rfl);have hZ:=fun so' c' wx=>zcO 0 (zd t).int (zd t).gen (zd t).name (zd t).func (zd t).arity so' (zd t).items.length c' (zd t).bytes (zd t).bits wx (zzY (zcD t) (by omega))
 have hB:=fun wx=>zcN t so c wx
 unfold zej at hB;generalize zbS 0 (zd t).int (zd t).gen (zd t).name (zd t).func (zd t).arity (zd t).items.length (zd t).bytes (zd t).bits=Z at *;generalize zd t=q at *;have HREC0:=zzH hrec;clear hrec;generalize zj (f+1) t=R at *;subst hz;go_in;go_upto_region 1 with fail;have hbx:=zb8 w t so c;have hba:Below w.heap.size w (w.alloc (.cells (zzt t so c) 47)):=(zzR _ _).alloc (zzL _) _;generalize w.alloc (.cells (zzt t so c) 47)=Wa at *;have HREC:Hid (zdD f t so Wa (t.items.all (zj f))):=zzH (HREC0.out Wa hba);clear HREC0;generalize hBz:w.heap.size=B at *;have HBZ:=zzH hBz;have HBA:=zzH hba;have HBX:=zzH hbx;clear hBz hba;have hlb:=zc hbx;obtain ⟨c0,c1,c2,c3,c4,c5,c6,c7,c8⟩:=zzc9 hbx;clear hbx;have HFIN:Hid (∀wx,Below Wa.heap.size Wa wx->Below B w wx):=zzH (fun wx hh=>HBA.out.trans (hh.mono (by have:=HBA.out.size;have:=HBZ.out;omega)));go_wp2_with fail;refine(hB _).mono ?_;rintro e w1 ⟨so',c',rfl,hb1⟩;go_wp2_with fail;refine(hZ so' c' _).mono ?_;rintro e w2 ⟨rfl,hb2⟩;clear hZ hB;have HB2:Hid (Below Wa.heap.size Wa w2):=zzH (ze hb1 hb2);clear hb1 hb2;have HET:Hid (∀A,t.items.all (zj f)=A->R=(okK t&&A)):=zzH (fun A h=>by rw [HE.out,h,Bool.and_true]);clear HE;have HAK:Hid (t.items.all (zj f)=(t.items.drop 0).all (zj f)):=zzH rfl;generalize t.items.all (zj f)=A at HREC HET HAK;go_wp2_with fail;go_loopw [3] (fun iv wr=> ∃(k:Nat),k<=t.items.length/\iv= .int .i64 k/\Hid (A=(t.items.drop k).all (zj f))/\Hid (Below Wa.heap.size Wa wr)) (fun iv _=>t.items.length-(intOf iv).toNat)
 case atStart=>exact⟨0,zzZ _,rfl,HAK,HB2⟩
 case round=>
  obtain⟨k,hk,rfl,HK,HBk⟩:=hrel;rename World=>wr
  clear c0 c1 c2 c3 c4 c5 c6 c7 c8;have hb1:=(HBk.out.block B (zc HBX.out)).trans HBX.out;have hlb1:=zc hb1;obtain ⟨c0,c1,c2,c3,c4,c5,c6,c7,c8⟩:=zzc9 hb1;clear hb1;by_cases hlt:k<t.items.length
  ·exact zz165
  ·have E:Hid (R=okK t):=zzH (by rw [HET.out A rfl,HK.out,zzq6 (by omega)];simp)
   have hkd:=HKD.out;have hE:=E.out;have e2:okK t=(zB t.name):=by unfold okK;simp [hkd,Bool.and_assoc]
   rw [e2]at hE;rw [hkd]at c0;clear e2 E HKD hkd;have h0:=fun wx=>zdI t.name wx (by unfold maxLen;omega)
   generalize zB t.name=b0 at *;have E:=zzH hE;clear hE;go_wp2_with (first|(go_at_call 98;first|((with_reducible refine(h0 _).mono ?_);rintro e w9 ⟨rfl,rfl⟩)));go_ret;exact⟨zr (by rw [E.out];try simp),by rw [HBZ.out];exact HFIN.out _ HBk.out⟩
theorem zqd (f:Nat) (t:Tm) (so:Option Addr) (c:Nat) (w:World) (hok:t.Ok) (hrec:zde f t so w) (hz:zbS 0 (zd t).int (zd t).gen (zd t).name (zd t).func (zd t).arity (zd t).items.length (zd t).bytes (zd t).bits=true) (hkd:t.kind=3):
  Calls Tryz.prog 134 #[.agg (zzt t so c)] w fun e w'=>e= .returned (.bool (zj (f+1) t))/\Below w.heap.size w w':=by
 unfold zzt;have HKD:=zzH hkd;clear hkd;obtain⟨ok0,ok1,ok2,ok3,ok4,ok5,ok6,ok7,ok8⟩:=hok;unfold maxLen at ok3 ok4 ok6 ok7;have HE:Hid (zj (f+1) t=((okK t&&zbS 0 (zd t).int (zd t).gen (zd t).name (zd t).func (zd t).arity (zd t).items.length (zd t).bytes (zd t).bits)&&t.items.all (zj f))):=zzH (by rw [zdn];rfl);have hZ:=fun so' c' wx=>zcO 0 (zd t).int (zd t).gen (zd t).name (zd t).func (zd t).arity so' (zd t).items.length c' (zd t).bytes (zd t).bits wx (zzY (zcD t) (by omega))
 have hB:=fun wx=>zcN t so c wx
 unfold zej at hB;generalize zbS 0 (zd t).int (zd t).gen (zd t).name (zd t).func (zd t).arity (zd t).items.length (zd t).bytes (zd t).bits=Z at *;generalize zd t=q at *;have HREC0:=zzH hrec;clear hrec;generalize zj (f+1) t=R at *;subst hz;go_in;go_upto_region 1 with fail;have hbx:=zb8 w t so c;have hba:Below w.heap.size w (w.alloc (.cells (zzt t so c) 47)):=(zzR _ _).alloc (zzL _) _;generalize w.alloc (.cells (zzt t so c) 47)=Wa at *;have HREC:Hid (zdD f t so Wa (t.items.all (zj f))):=zzH (HREC0.out Wa hba);clear HREC0;generalize hBz:w.heap.size=B at *;have HBZ:=zzH hBz;have HBA:=zzH hba;have HBX:=zzH hbx;clear hBz hba;have hlb:=zc hbx;obtain ⟨c0,c1,c2,c3,c4,c5,c6,c7,c8⟩:=zzc9 hbx;clear hbx;have HFIN:Hid (∀wx,Below Wa.heap.size Wa wx->Below B w wx):=zzH (fun wx hh=>HBA.out.trans (hh.mono (by have:=HBA.out.size;have:=HBZ.out;omega)));go_wp2_with fail;refine(hB _).mono ?_;rintro e w1 ⟨so',c',rfl,hb1⟩;go_wp2_with fail;refine(hZ so' c' _).mono ?_;rintro e w2 ⟨rfl,hb2⟩;clear hZ hB;have HB2:Hid (Below Wa.heap.size Wa w2):=zzH (ze hb1 hb2);clear hb1 hb2;have HET:Hid (∀A,t.items.all (zj f)=A->R=(okK t&&A)):=zzH (fun A h=>by rw [HE.out,h,Bool.and_true]);clear HE;have HAK:Hid (t.items.all (zj f)=(t.items.drop 0).all (zj f)):=zzH rfl;generalize t.items.all (zj f)=A at HREC HET HAK;go_wp2_with fail;go_loopw [3] (fun iv wr=> ∃(k:Nat),k<=t.items.length/\iv= .int .i64 k/\Hid (A=(t.items.drop k).all (zj f))/\Hid (Below Wa.heap.size Wa wr)) (fun iv _=>t.items.length-(intOf iv).toNat)
 case atStart=>exact⟨0,zzZ _,rfl,HAK,HB2⟩
 case round=>
  exact zz166
theorem zqc (f:Nat) (t:Tm) (so:Option Addr) (c:Nat) (w:World) (hok:t.Ok) (hrec:zde f t so w) (hz:zbS 0 (zd t).int (zd t).gen (zd t).name (zd t).func (zd t).arity (zd t).items.length (zd t).bytes (zd t).bits=true) (hkd:t.kind=6):
  Calls Tryz.prog 134 #[.agg (zzt t so c)] w fun e w'=>e= .returned (.bool (zj (f+1) t))/\Below w.heap.size w w':=by
 unfold zzt;have HKD:=zzH hkd;clear hkd;obtain⟨ok0,ok1,ok2,ok3,ok4,ok5,ok6,ok7,ok8⟩:=hok;unfold maxLen at ok3 ok4 ok6 ok7;have HE:Hid (zj (f+1) t=((okK t&&zbS 0 (zd t).int (zd t).gen (zd t).name (zd t).func (zd t).arity (zd t).items.length (zd t).bytes (zd t).bits)&&t.items.all (zj f))):=zzH (by rw [zdn];rfl);have hZ:=fun so' c' wx=>zcO 0 (zd t).int (zd t).gen (zd t).name (zd t).func (zd t).arity so' (zd t).items.length c' (zd t).bytes (zd t).bits wx (zzY (zcD t) (by omega))
 have hB:=fun wx=>zcN t so c wx
 unfold zej at hB;generalize zbS 0 (zd t).int (zd t).gen (zd t).name (zd t).func (zd t).arity (zd t).items.length (zd t).bytes (zd t).bits=Z at *;generalize zd t=q at *;have HREC0:=zzH hrec;clear hrec;generalize zj (f+1) t=R at *;subst hz;go_in;go_upto_region 1 with fail;have hbx:=zb8 w t so c;have hba:Below w.heap.size w (w.alloc (.cells (zzt t so c) 47)):=(zzR _ _).alloc (zzL _) _;generalize w.alloc (.cells (zzt t so c) 47)=Wa at *;have HREC:Hid (zdD f t so Wa (t.items.all (zj f))):=zzH (HREC0.out Wa hba);clear HREC0;generalize hBz:w.heap.size=B at *;have HBZ:=zzH hBz;have HBA:=zzH hba;have HBX:=zzH hbx;clear hBz hba;have hlb:=zc hbx;obtain ⟨c0,c1,c2,c3,c4,c5,c6,c7,c8⟩:=zzc9 hbx;clear hbx;have HFIN:Hid (∀wx,Below Wa.heap.size Wa wx->Below B w wx):=zzH (fun wx hh=>HBA.out.trans (hh.mono (by have:=HBA.out.size;have:=HBZ.out;omega)));go_wp2_with fail;refine(hB _).mono ?_;rintro e w1 ⟨so',c',rfl,hb1⟩;go_wp2_with fail;refine(hZ so' c' _).mono ?_;rintro e w2 ⟨rfl,hb2⟩;clear hZ hB;have HB2:Hid (Below Wa.heap.size Wa w2):=zzH (ze hb1 hb2);clear hb1 hb2;have HET:Hid (∀A,t.items.all (zj f)=A->R=(okK t&&A)):=zzH (fun A h=>by rw [HE.out,h,Bool.and_true]);clear HE;have HAK:Hid (t.items.all (zj f)=(t.items.drop 0).all (zj f)):=zzH rfl;generalize t.items.all (zj f)=A at HREC HET HAK;go_wp2_with fail;go_loopw [3] (fun iv wr=> ∃(k:Nat),k<=t.items.length/\iv= .int .i64 k/\Hid (A=(t.items.drop k).all (zj f))/\Hid (Below Wa.heap.size Wa wr)) (fun iv _=>t.items.length-(intOf iv).toNat)
 case atStart=>exact⟨0,zzZ _,rfl,HAK,HB2⟩
 case round=>
  exact zz166
theorem zkY (f:Nat) (t:Tm) (so:Option Addr) (c:Nat) (w:World) (hok:t.Ok) (hrec:zde f t so w) (hz:zbS 0 (zd t).int (zd t).gen (zd t).name (zd t).func (zd t).arity (zd t).items.length (zd t).bytes (zd t).bits=true) (hkd:t.kind=5):
  Calls Tryz.prog 134 #[.agg (zzt t so c)] w fun e w'=>e= .returned (.bool (zj (f+1) t))/\Below w.heap.size w w':=by
 unfold zzt;have HKD:=zzH hkd;clear hkd;obtain⟨ok0,ok1,ok2,ok3,ok4,ok5,ok6,ok7,ok8⟩:=hok;unfold maxLen at ok3 ok4 ok6 ok7;have HE:Hid (zj (f+1) t=((okK t&&zbS 0 (zd t).int (zd t).gen (zd t).name (zd t).func (zd t).arity (zd t).items.length (zd t).bytes (zd t).bits)&&t.items.all (zj f))):=zzH (by rw [zdn];rfl);have hZ:=fun so' c' wx=>zcO 0 (zd t).int (zd t).gen (zd t).name (zd t).func (zd t).arity so' (zd t).items.length c' (zd t).bytes (zd t).bits wx (zzY (zcD t) (by omega))
 have hB:=fun wx=>zcN t so c wx
 unfold zej at hB;generalize zbS 0 (zd t).int (zd t).gen (zd t).name (zd t).func (zd t).arity (zd t).items.length (zd t).bytes (zd t).bits=Z at *;generalize zd t=q at *;have HREC0:=zzH hrec;clear hrec;generalize zj (f+1) t=R at *;subst hz;go_in;go_upto_region 1 with fail;have hbx:=zb8 w t so c;have hba:Below w.heap.size w (w.alloc (.cells (zzt t so c) 47)):=(zzR _ _).alloc (zzL _) _;generalize w.alloc (.cells (zzt t so c) 47)=Wa at *;have HREC:Hid (zdD f t so Wa (t.items.all (zj f))):=zzH (HREC0.out Wa hba);clear HREC0;generalize hBz:w.heap.size=B at *;have HBZ:=zzH hBz;have HBA:=zzH hba;have HBX:=zzH hbx;clear hBz hba;have hlb:=zc hbx;obtain ⟨c0,c1,c2,c3,c4,c5,c6,c7,c8⟩:=zzc9 hbx;clear hbx;have HFIN:Hid (∀wx,Below Wa.heap.size Wa wx->Below B w wx):=zzH (fun wx hh=>HBA.out.trans (hh.mono (by have:=HBA.out.size;have:=HBZ.out;omega)));go_wp2_with fail;refine(hB _).mono ?_;rintro e w1 ⟨so',c',rfl,hb1⟩;go_wp2_with fail;refine(hZ so' c' _).mono ?_;rintro e w2 ⟨rfl,hb2⟩;clear hZ hB;have HB2:Hid (Below Wa.heap.size Wa w2):=zzH (ze hb1 hb2);clear hb1 hb2;have HET:Hid (∀A,t.items.all (zj f)=A->R=(okK t&&A)):=zzH (fun A h=>by rw [HE.out,h,Bool.and_true]);clear HE;have HAK:Hid (t.items.all (zj f)=(t.items.drop 0).all (zj f)):=zzH rfl;generalize t.items.all (zj f)=A at HREC HET HAK;go_wp2_with fail;go_loopw [3] (fun iv wr=> ∃(k:Nat),k<=t.items.length/\iv= .int .i64 k/\Hid (A=(t.items.drop k).all (zj f))/\Hid (Below Wa.heap.size Wa wr)) (fun iv _=>t.items.length-(intOf iv).toNat)
 case atStart=>exact⟨0,zzZ _,rfl,HAK,HB2⟩
 case round=>
  obtain⟨k,hk,rfl,HK,HBk⟩:=hrel;rename World=>wr
  clear c0 c1 c2 c3 c4 c5 c6 c7 c8;have hb1:=(HBk.out.block B (zc HBX.out)).trans HBX.out;have hlb1:=zc hb1;obtain ⟨c0,c1,c2,c3,c4,c5,c6,c7,c8⟩:=zzc9 hb1;clear hb1;by_cases hlt:k<t.items.length
  ·exact zz165
  ·have E:Hid (R=okK t):=zzH (by rw [HET.out A rfl,HK.out,zzq6 (by omega)];simp)
   have hkd:=HKD.out;have hE:=E.out;have e2:okK t=(zB t.name&&zB t.func&&wi t.arity 0 16):=by unfold okK;simp [hkd,Bool.and_assoc]
   rw [e2]at hE;rw [hkd]at c0;clear e2 E HKD hkd;have h0:=fun wx=>zdI t.name wx (by unfold maxLen;omega)
   have h1:=fun wx=>zdI t.func wx (by unfold maxLen;omega)
   have h2:=fun wx=>zdF t.arity 0 16 wx
   generalize zB t.name=b0 at *;generalize zB t.func=b1 at *;generalize wi t.arity 0 16=b2 at *;have E:=zzH hE;clear hE
   cases b0 with
   |false=>
    exact zz167
   |true=>
    cases b1 with
    |false=>
     exact zz167
    |true=>
     exact zz167
theorem znP (f:Nat) (t:Tm) (so:Option Addr) (c:Nat) (w:World) (hok:t.Ok) (hrec:zde f t so w) (hz:zbS 0 (zd t).int (zd t).gen (zd t).name (zd t).func (zd t).arity (zd t).items.length (zd t).bytes (zd t).bits=true) (hkd:t.kind=10):
  Calls Tryz.prog 134 #[.agg (zzt t so c)] w fun e w'=>e= .returned (.bool (zj (f+1) t))/\Below w.heap.size w w':=by
 unfold zzt;have HKD:=zzH hkd;clear hkd;obtain⟨ok0,ok1,ok2,ok3,ok4,ok5,ok6,ok7,ok8⟩:=hok;unfold maxLen at ok3 ok4 ok6 ok7;have HE:Hid (zj (f+1) t=((okK t&&zbS 0 (zd t).int (zd t).gen (zd t).name (zd t).func (zd t).arity (zd t).items.length (zd t).bytes (zd t).bits)&&t.items.all (zj f))):=zzH (by rw [zdn];rfl);have hZ:=fun so' c' wx=>zcO 0 (zd t).int (zd t).gen (zd t).name (zd t).func (zd t).arity so' (zd t).items.length c' (zd t).bytes (zd t).bits wx (zzY (zcD t) (by omega))
 have hB:=fun wx=>zcN t so c wx
 unfold zej at hB;generalize zbS 0 (zd t).int (zd t).gen (zd t).name (zd t).func (zd t).arity (zd t).items.length (zd t).bytes (zd t).bits=Z at *;generalize zd t=q at *;have HREC0:=zzH hrec;clear hrec;generalize zj (f+1) t=R at *;subst hz;go_in;go_upto_region 1 with fail;have hbx:=zb8 w t so c;have hba:Below w.heap.size w (w.alloc (.cells (zzt t so c) 47)):=(zzR _ _).alloc (zzL _) _;generalize w.alloc (.cells (zzt t so c) 47)=Wa at *;have HREC:Hid (zdD f t so Wa (t.items.all (zj f))):=zzH (HREC0.out Wa hba);clear HREC0;generalize hBz:w.heap.size=B at *;have HBZ:=zzH hBz;have HBA:=zzH hba;have HBX:=zzH hbx;clear hBz hba;have hlb:=zc hbx;obtain ⟨c0,c1,c2,c3,c4,c5,c6,c7,c8⟩:=zzc9 hbx;clear hbx;have HFIN:Hid (∀wx,Below Wa.heap.size Wa wx->Below B w wx):=zzH (fun wx hh=>HBA.out.trans (hh.mono (by have:=HBA.out.size;have:=HBZ.out;omega)));go_wp2_with fail;refine(hB _).mono ?_;rintro e w1 ⟨so',c',rfl,hb1⟩;go_wp2_with fail;refine(hZ so' c' _).mono ?_;rintro e w2 ⟨rfl,hb2⟩;clear hZ hB;have HB2:Hid (Below Wa.heap.size Wa w2):=zzH (ze hb1 hb2);clear hb1 hb2;have HET:Hid (∀A,t.items.all (zj f)=A->R=(okK t&&A)):=zzH (fun A h=>by rw [HE.out,h,Bool.and_true]);clear HE;have HAK:Hid (t.items.all (zj f)=(t.items.drop 0).all (zj f)):=zzH rfl;generalize t.items.all (zj f)=A at HREC HET HAK;go_wp2_with fail;go_loopw [3] (fun iv wr=> ∃(k:Nat),k<=t.items.length/\iv= .int .i64 k/\Hid (A=(t.items.drop k).all (zj f))/\Hid (Below Wa.heap.size Wa wr)) (fun iv _=>t.items.length-(intOf iv).toNat)
 case atStart=>exact⟨0,zzZ _,rfl,HAK,HB2⟩
 case round=>
  obtain⟨k,hk,rfl,HK,HBk⟩:=hrel;rename World=>wr
  clear c0 c1 c2 c3 c4 c5 c6 c7 c8;have hb1:=(HBk.out.block B (zc HBX.out)).trans HBX.out;have hlb1:=zc hb1;obtain ⟨c0,c1,c2,c3,c4,c5,c6,c7,c8⟩:=zzc9 hb1;clear hb1;by_cases hlt:k<t.items.length
  ·exact zz165
  ·have E:Hid (R=okK t):=zzH (by rw [HET.out A rfl,HK.out,zzq6 (by omega)];simp)
   have hkd:=HKD.out;have e2:okK t=zcz t.bytes t.bits:=by unfold okK zgG;simp [hkd]
   rw [hkd]at c0;have E2:=zzH (E.out.trans e2);clear E HKD hkd e2;go_wp2_with fail;refine(znl _ _ _ _ _ _ _ _ _ _ _ _ ok7 ok8).mono ?_;rintro e9 w7 ⟨rfl,hb7⟩;go_wp2_with fail;go_ret;exact⟨zr E2.out.symm,by rw [HBZ.out];exact HFIN.out _ (ze HBk.out hb7)⟩
theorem zl2 (f:Nat) (t:Tm) (so:Option Addr) (c:Nat) (w:World) (hok:t.Ok) (hrec:zde f t so w) (hz:zbS 0 (zd t).int (zd t).gen (zd t).name (zd t).func (zd t).arity (zd t).items.length (zd t).bytes (zd t).bits=true) (hkd: ¬(t.kind=1∨t.kind=2∨t.kind=3∨t.kind=4∨t.kind=5∨t.kind=6∨t.kind=7∨t.kind=8∨t.kind=9∨t.kind=10)):
  Calls Tryz.prog 134 #[.agg (zzt t so c)] w fun e w'=>e= .returned (.bool (zj (f+1) t))/\Below w.heap.size w w':=by
 unfold zzt;have HKD:=zzH hkd;clear hkd;obtain⟨ok0,ok1,ok2,ok3,ok4,ok5,ok6,ok7,ok8⟩:=hok;unfold maxLen at ok3 ok4 ok6 ok7;have HE:Hid (zj (f+1) t=((okK t&&zbS 0 (zd t).int (zd t).gen (zd t).name (zd t).func (zd t).arity (zd t).items.length (zd t).bytes (zd t).bits)&&t.items.all (zj f))):=zzH (by rw [zdn];rfl);have hZ:=fun so' c' wx=>zcO 0 (zd t).int (zd t).gen (zd t).name (zd t).func (zd t).arity so' (zd t).items.length c' (zd t).bytes (zd t).bits wx (zzY (zcD t) (by omega))
 have hB:=fun wx=>zcN t so c wx
 unfold zej at hB;generalize zbS 0 (zd t).int (zd t).gen (zd t).name (zd t).func (zd t).arity (zd t).items.length (zd t).bytes (zd t).bits=Z at *;generalize zd t=q at *;have HREC0:=zzH hrec;clear hrec;generalize zj (f+1) t=R at *;subst hz;go_in;go_upto_region 1 with fail;have hbx:=zb8 w t so c;have hba:Below w.heap.size w (w.alloc (.cells (zzt t so c) 47)):=(zzR _ _).alloc (zzL _) _;generalize w.alloc (.cells (zzt t so c) 47)=Wa at *;have HREC:Hid (zdD f t so Wa (t.items.all (zj f))):=zzH (HREC0.out Wa hba);clear HREC0;generalize hBz:w.heap.size=B at *;have HBZ:=zzH hBz;have HBA:=zzH hba;have HBX:=zzH hbx;clear hBz hba;have hlb:=zc hbx;obtain ⟨c0,c1,c2,c3,c4,c5,c6,c7,c8⟩:=zzc9 hbx;clear hbx;have HFIN:Hid (∀wx,Below Wa.heap.size Wa wx->Below B w wx):=zzH (fun wx hh=>HBA.out.trans (hh.mono (by have:=HBA.out.size;have:=HBZ.out;omega)));go_wp2_with fail;refine(hB _).mono ?_;rintro e w1 ⟨so',c',rfl,hb1⟩;go_wp2_with fail;refine(hZ so' c' _).mono ?_;rintro e w2 ⟨rfl,hb2⟩;clear hZ hB;have HB2:Hid (Below Wa.heap.size Wa w2):=zzH (ze hb1 hb2);clear hb1 hb2;have HET:Hid (∀A,t.items.all (zj f)=A->R=(okK t&&A)):=zzH (fun A h=>by rw [HE.out,h,Bool.and_true]);clear HE;have HAK:Hid (t.items.all (zj f)=(t.items.drop 0).all (zj f)):=zzH rfl;generalize t.items.all (zj f)=A at HREC HET HAK;go_wp2_with fail;go_loopw [3] (fun iv wr=> ∃(k:Nat),k<=t.items.length/\iv= .int .i64 k/\Hid (A=(t.items.drop k).all (zj f))/\Hid (Below Wa.heap.size Wa wr)) (fun iv _=>t.items.length-(intOf iv).toNat)
 case atStart=>exact⟨0,zzZ _,rfl,HAK,HB2⟩
 case round=>
  obtain⟨k,hk,rfl,HK,HBk⟩:=hrel;rename World=>wr
  clear c0 c1 c2 c3 c4 c5 c6 c7 c8;have hb1:=(HBk.out.block B (zc HBX.out)).trans HBX.out;have hlb1:=zc hb1;obtain ⟨c0,c1,c2,c3,c4,c5,c6,c7,c8⟩:=zzc9 hb1;clear hb1;by_cases hlt:k<t.items.length
  ·exact zz165
  ·have E:Hid (R=okK t):=zzH (by rw [HET.out A rfl,HK.out,zzq6 (by omega)];simp)
   have hkd:=HKD.out;have E2:=zzH (E.out.trans (ze3 hkd));have t1:(t.kind==1)=false:=zzB.2 (fun e=>hkd (by omega));have t2:(t.kind==2)=false:=zzB.2 (fun e=>hkd (by omega));have t3:(t.kind==3)=false:=zzB.2 (fun e=>hkd (by omega));have t4:(t.kind==4)=false:=zzB.2 (fun e=>hkd (by omega));have t5:(t.kind==5)=false:=zzB.2 (fun e=>hkd (by omega));have t6:(t.kind==6)=false:=zzB.2 (fun e=>hkd (by omega));have t7:(t.kind==7)=false:=zzB.2 (fun e=>hkd (by omega));have t8:(t.kind==8)=false:=zzB.2 (fun e=>hkd (by omega));have t9:(t.kind==9)=false:=zzB.2 (fun e=>hkd (by omega));have t10:(t.kind==10)=false:=zzB.2 (fun e=>hkd (by omega));clear hkd HKD E;go_wp2_with fail;go_ret;exact⟨zr E2.out.symm,by rw [HBZ.out];exact HFIN.out _ HBk.out⟩
theorem zmN (f:Nat) (t:Tm) (so:Option Addr) (c:Nat) (w:World) (hok:t.Ok) (hrec:zde f t so w) (hz:zbS 0 (zd t).int (zd t).gen (zd t).name (zd t).func (zd t).arity (zd t).items.length (zd t).bytes (zd t).bits=true) (hkd:t.kind=7):
  Calls Tryz.prog 134 #[.agg (zzt t so c)] w fun e w'=>e= .returned (.bool (zj (f+1) t))/\Below w.heap.size w w':=by
 unfold zzt;have HKD:=zzH hkd;clear hkd;obtain⟨ok0,ok1,ok2,ok3,ok4,ok5,ok6,ok7,ok8⟩:=hok;unfold maxLen at ok3 ok4 ok6 ok7;have HE:Hid (zj (f+1) t=((okK t&&zbS 0 (zd t).int (zd t).gen (zd t).name (zd t).func (zd t).arity (zd t).items.length (zd t).bytes (zd t).bits)&&t.items.all (zj f))):=zzH (by rw [zdn];rfl);have hZ:=fun so' c' wx=>zcO 0 (zd t).int (zd t).gen (zd t).name (zd t).func (zd t).arity so' (zd t).items.length c' (zd t).bytes (zd t).bits wx (zzY (zcD t) (by omega))
 have hB:=fun wx=>zcN t so c wx
 unfold zej at hB;generalize zbS 0 (zd t).int (zd t).gen (zd t).name (zd t).func (zd t).arity (zd t).items.length (zd t).bytes (zd t).bits=Z at *;generalize zd t=q at *;have HREC0:=zzH hrec;clear hrec;generalize zj (f+1) t=R at *;subst hz;go_in;go_upto_region 1 with fail;have hbx:=zb8 w t so c;have hba:Below w.heap.size w (w.alloc (.cells (zzt t so c) 47)):=(zzR _ _).alloc (zzL _) _;generalize w.alloc (.cells (zzt t so c) 47)=Wa at *;have HREC:Hid (zdD f t so Wa (t.items.all (zj f))):=zzH (HREC0.out Wa hba);clear HREC0;generalize hBz:w.heap.size=B at *;have HBZ:=zzH hBz;have HBA:=zzH hba;have HBX:=zzH hbx;clear hBz hba;have hlb:=zc hbx;obtain ⟨c0,c1,c2,c3,c4,c5,c6,c7,c8⟩:=zzc9 hbx;clear hbx;have HFIN:Hid (∀wx,Below Wa.heap.size Wa wx->Below B w wx):=zzH (fun wx hh=>HBA.out.trans (hh.mono (by have:=HBA.out.size;have:=HBZ.out;omega)));go_wp2_with fail;refine(hB _).mono ?_;rintro e w1 ⟨so',c',rfl,hb1⟩;go_wp2_with fail;refine(hZ so' c' _).mono ?_;rintro e w2 ⟨rfl,hb2⟩;clear hZ hB;have HB2:Hid (Below Wa.heap.size Wa w2):=zzH (ze hb1 hb2);clear hb1 hb2;have HET:Hid (∀A,t.items.all (zj f)=A->R=(okK t&&A)):=zzH (fun A h=>by rw [HE.out,h,Bool.and_true]);clear HE;have HAK:Hid (t.items.all (zj f)=(t.items.drop 0).all (zj f)):=zzH rfl;generalize t.items.all (zj f)=A at HREC HET HAK;go_wp2_with fail;go_loopw [3] (fun iv wr=> ∃(k:Nat),k<=t.items.length/\iv= .int .i64 k/\Hid (A=(t.items.drop k).all (zj f))/\Hid (Below Wa.heap.size Wa wr)) (fun iv _=>t.items.length-(intOf iv).toNat)
 case atStart=>exact⟨0,zzZ _,rfl,HAK,HB2⟩
 case round=>
  obtain⟨k,hk,rfl,HK,HBk⟩:=hrel;rename World=>wr
  clear c0 c1 c2 c3 c4 c5 c6 c7 c8;have hb1:=(HBk.out.block B (zc HBX.out)).trans HBX.out;have hlb1:=zc hb1;obtain ⟨c0,c1,c2,c3,c4,c5,c6,c7,c8⟩:=zzc9 hb1;clear hb1;by_cases hlt:k<t.items.length
  ·exact zz165
  ·have E:Hid (R=okK t):=zzH (by rw [HET.out A rfl,HK.out,zzq6 (by omega)];simp)
   have hkd:=HKD.out;have e2:okK t=decide ((t.items.length:Int)<=255):=by unfold okK;simp [hkd];omega
   rw [hkd]at c0;have E2:=zzH (E.out.trans e2);clear E HKD hkd e2;go_wp2_with fail;go_ret;exact⟨zr E2.out.symm,by rw [HBZ.out];exact HFIN.out _ HBk.out⟩
theorem zjE (f:Nat) (t:Tm) (so:Option Addr) (c:Nat) (w:World) (hok:t.Ok) (hrec:zde f t so w) (hz:zbS 0 (zd t).int (zd t).gen (zd t).name (zd t).func (zd t).arity (zd t).items.length (zd t).bytes (zd t).bits=true) (hkd:t.kind=4):
  Calls Tryz.prog 134 #[.agg (zzt t so c)] w fun e w'=>e= .returned (.bool (zj (f+1) t))/\Below w.heap.size w w':=by
 unfold zzt;have HKD:=zzH hkd;clear hkd;obtain⟨ok0,ok1,ok2,ok3,ok4,ok5,ok6,ok7,ok8⟩:=hok;unfold maxLen at ok3 ok4 ok6 ok7;have HE:Hid (zj (f+1) t=((okK t&&zbS 0 (zd t).int (zd t).gen (zd t).name (zd t).func (zd t).arity (zd t).items.length (zd t).bytes (zd t).bits)&&t.items.all (zj f))):=zzH (by rw [zdn];rfl);have hZ:=fun so' c' wx=>zcO 0 (zd t).int (zd t).gen (zd t).name (zd t).func (zd t).arity so' (zd t).items.length c' (zd t).bytes (zd t).bits wx (zzY (zcD t) (by omega))
 have hB:=fun wx=>zcN t so c wx
 unfold zej at hB;generalize zbS 0 (zd t).int (zd t).gen (zd t).name (zd t).func (zd t).arity (zd t).items.length (zd t).bytes (zd t).bits=Z at *;generalize zd t=q at *;have HREC0:=zzH hrec;clear hrec;generalize zj (f+1) t=R at *;subst hz;go_in;go_upto_region 1 with fail;have hbx:=zb8 w t so c;have hba:Below w.heap.size w (w.alloc (.cells (zzt t so c) 47)):=(zzR _ _).alloc (zzL _) _;generalize w.alloc (.cells (zzt t so c) 47)=Wa at *;have HREC:Hid (zdD f t so Wa (t.items.all (zj f))):=zzH (HREC0.out Wa hba);clear HREC0;generalize hBz:w.heap.size=B at *;have HBZ:=zzH hBz;have HBA:=zzH hba;have HBX:=zzH hbx;clear hBz hba;have hlb:=zc hbx;obtain ⟨c0,c1,c2,c3,c4,c5,c6,c7,c8⟩:=zzc9 hbx;clear hbx;have HFIN:Hid (∀wx,Below Wa.heap.size Wa wx->Below B w wx):=zzH (fun wx hh=>HBA.out.trans (hh.mono (by have:=HBA.out.size;have:=HBZ.out;omega)));go_wp2_with fail;refine(hB _).mono ?_;rintro e w1 ⟨so',c',rfl,hb1⟩;go_wp2_with fail;refine(hZ so' c' _).mono ?_;rintro e w2 ⟨rfl,hb2⟩;clear hZ hB;have HB2:Hid (Below Wa.heap.size Wa w2):=zzH (ze hb1 hb2);clear hb1 hb2;have HET:Hid (∀A,t.items.all (zj f)=A->R=(okK t&&A)):=zzH (fun A h=>by rw [HE.out,h,Bool.and_true]);clear HE;have HAK:Hid (t.items.all (zj f)=(t.items.drop 0).all (zj f)):=zzH rfl;generalize t.items.all (zj f)=A at HREC HET HAK;go_wp2_with fail;go_loopw [3] (fun iv wr=> ∃(k:Nat),k<=t.items.length/\iv= .int .i64 k/\Hid (A=(t.items.drop k).all (zj f))/\Hid (Below Wa.heap.size Wa wr)) (fun iv _=>t.items.length-(intOf iv).toNat)
 case atStart=>exact⟨0,zzZ _,rfl,HAK,HB2⟩
 case round=>
  obtain⟨k,hk,rfl,HK,HBk⟩:=hrel;rename World=>wr
  clear c0 c1 c2 c3 c4 c5 c6 c7 c8;have hb1:=(HBk.out.block B (zc HBX.out)).trans HBX.out;have hlb1:=zc hb1;obtain ⟨c0,c1,c2,c3,c4,c5,c6,c7,c8⟩:=zzc9 hb1;clear hb1;by_cases hlt:k<t.items.length
  ·exact zz165
  ·have E:Hid (R=okK t):=zzH (by rw [HET.out A rfl,HK.out,zzq6 (by omega)];simp)
   have hkd:=HKD.out;have hE:=E.out;have e2:okK t=(wi t.int 0 999&&wi t.gen 1 2147483647&&zB t.name&&wi t.arity 0 16&&decide (t.items.length<=200)):=by unfold okK;simp [hkd,Bool.and_assoc]
   rw [e2]at hE;rw [hkd]at c0;clear e2 E HKD hkd;have h0:=fun wx=>zdF t.int 0 999 wx
   have h1:=fun wx=>zdF t.gen 1 2147483647 wx
   have h2:=fun wx=>zdI t.name wx (by unfold maxLen;omega)
   have h3:=fun wx=>zdF t.arity 0 16 wx
   generalize wi t.int 0 999=b0 at *;generalize wi t.gen 1 2147483647=b1 at *;generalize zB t.name=b2 at *;generalize wi t.arity 0 16=b3 at *;have E:=zzH hE;clear hE
   cases b0 with
   |false=>
    exact zz168
   |true=>
    cases b1 with
    |false=>
     exact zz168
    |true=>
     cases b2 with
     |false=>
      exact zz168
     |true=>
      cases b3 with
      |false=>
       exact zz168
      |true=>
       exact zz168
theorem zol (f:Nat) (t:Tm) (so:Option Addr) (c:Nat) (w:World) (hok:t.Ok) (hrec:zde f t so w) (hz:zbS 0 (zd t).int (zd t).gen (zd t).name (zd t).func (zd t).arity (zd t).items.length (zd t).bytes (zd t).bits=true) (hkd:t.kind=9):
  Calls Tryz.prog 134 #[.agg (zzt t so c)] w fun e w'=>e= .returned (.bool (zj (f+1) t))/\Below w.heap.size w w':=by
 unfold zzt;have HKD:=zzH hkd;clear hkd;obtain⟨ok0,ok1,ok2,ok3,ok4,ok5,ok6,ok7,ok8⟩:=hok;unfold maxLen at ok3 ok4 ok6 ok7;have HE:Hid (zj (f+1) t=((okK t&&zbS 0 (zd t).int (zd t).gen (zd t).name (zd t).func (zd t).arity (zd t).items.length (zd t).bytes (zd t).bits)&&t.items.all (zj f))):=zzH (by rw [zdn];rfl);have hZ:=fun so' c' wx=>zcO 0 (zd t).int (zd t).gen (zd t).name (zd t).func (zd t).arity so' (zd t).items.length c' (zd t).bytes (zd t).bits wx (zzY (zcD t) (by omega))
 have hB:=fun wx=>zcN t so c wx
 unfold zej at hB;generalize zbS 0 (zd t).int (zd t).gen (zd t).name (zd t).func (zd t).arity (zd t).items.length (zd t).bytes (zd t).bits=Z at *;generalize zd t=q at *;have HREC0:=zzH hrec;clear hrec;generalize zj (f+1) t=R at *;subst hz;go_in;go_upto_region 1 with fail;have hbx:=zb8 w t so c;have hba:Below w.heap.size w (w.alloc (.cells (zzt t so c) 47)):=(zzR _ _).alloc (zzL _) _;generalize w.alloc (.cells (zzt t so c) 47)=Wa at *;have HREC:Hid (zdD f t so Wa (t.items.all (zj f))):=zzH (HREC0.out Wa hba);clear HREC0;generalize hBz:w.heap.size=B at *;have HBZ:=zzH hBz;have HBA:=zzH hba;have HBX:=zzH hbx;clear hBz hba;have hlb:=zc hbx;obtain ⟨c0,c1,c2,c3,c4,c5,c6,c7,c8⟩:=zzc9 hbx;clear hbx;have HFIN:Hid (∀wx,Below Wa.heap.size Wa wx->Below B w wx):=zzH (fun wx hh=>HBA.out.trans (hh.mono (by have:=HBA.out.size;have:=HBZ.out;omega)));go_wp2_with fail;refine(hB _).mono ?_;rintro e w1 ⟨so',c',rfl,hb1⟩;go_wp2_with fail;refine(hZ so' c' _).mono ?_;rintro e w2 ⟨rfl,hb2⟩;clear hZ hB;have HB2:Hid (Below Wa.heap.size Wa w2):=zzH (ze hb1 hb2);clear hb1 hb2;have HET:Hid (∀A,t.items.all (zj f)=A->R=(okK t&&A)):=zzH (fun A h=>by rw [HE.out,h,Bool.and_true]);clear HE;have HAK:Hid (t.items.all (zj f)=(t.items.drop 0).all (zj f)):=zzH rfl;generalize t.items.all (zj f)=A at HREC HET HAK;go_wp2_with fail;go_loopw [3] (fun iv wr=> ∃(k:Nat),k<=t.items.length/\iv= .int .i64 k/\Hid (A=(t.items.drop k).all (zj f))/\Hid (Below Wa.heap.size Wa wr)) (fun iv _=>t.items.length-(intOf iv).toNat)
 case atStart=>exact⟨0,zzZ _,rfl,HAK,HB2⟩
 case round=>
  obtain⟨k,hk,rfl,HK,HBk⟩:=hrel;rename World=>wr
  clear c0 c1 c2 c3 c4 c5 c6 c7 c8;have hb1:=(HBk.out.block B (zc HBX.out)).trans HBX.out;have hlb1:=zc hb1;obtain ⟨c0,c1,c2,c3,c4,c5,c6,c7,c8⟩:=zzc9 hb1;clear hb1;by_cases hlt:k<t.items.length
  ·exact zz165
  ·have E:Hid (R=okK t):=zzH (by rw [HET.out A rfl,HK.out,zzq6 (by omega)];simp)
   have hkd:=HKD.out;have e2:okK t=(decide (2<=t.items.length)&&decide (zgo t.items≠9)):=by unfold okK;simp [hkd]
   rw [hkd]at c0;have E2:=zzH (E.out.trans e2);clear E HKD hkd e2;by_cases h2:t.items.length<2
   ·have E3:Hid (R=false):=zzH (by rw [E2.out,decide_eq_false (by omega)];rfl)
    go_wp2_with fail;go_ret;exact⟨zr E3.out.symm,by rw [HBZ.out];exact HFIN.out _ HBk.out⟩
   ·have hl1:t.items.length-1<t.items.length:=by omega
    have hA:t.items.all (zj f)=true:=by
     have h:=HAK.out.symm.trans HK.out;rw [zzq6 (Nat.le_of_not_lt hlt),List.drop_zero]at h;exact h
    obtain⟨b2,off,ai,ci,hao,hb2,q0,-⟩:=HREC.out (t.items.length-1) wr hl1 HBk.out (by rw [HAK.out,List.drop_zero,hA];exact(zjg hA _).symm);subst hao;have E3:Hid (R=decide (t.items[t.items.length-1].kind≠9)):=zzH (by rw [E2.out,zp8 hl1,decide_eq_true (by omega),Bool.true_and]);clear E2 hA HAK HET HREC;generalize t.items[t.items.length-1].kind=lk at *;clear hl1;obtain⟨m,hm⟩: ∃m,t.items.length=m+2:=⟨t.items.length-2,by omega⟩;generalize t.items.length=n at *;subst hm;rw [show m+2-1=m+1 by rfl]at q0;go_wp2_with fail;go_ret;exact⟨zr (by rw [E3.out];by_cases hl:lk=9<;>simp [hl]),by rw [HBZ.out];exact HFIN.out _ HBk.out⟩
theorem zjp (f:Nat) (IH: ∀f',f=f'+1->zmI f'):zmI f:=by
 intro t so c w hsl hok
 have hrec:zde f t so w:=by
  intro Wa hba k wr hlt hb hs
  cases f with
  |zero=>rw [hsl.zero]at hlt;exact absurd hlt (Nat.not_lt_zero _)
  |succ f=>
   obtain⟨b2,off,ai,ci,hao,hb2,q0,q1,q2,q3,q4,q5,q6,q7,q8,hit,hok2⟩:=(SlAt.tms (SlAt.tms hsl hba) hb).tm hlt;exact⟨b2,off,ai,ci,hao,hb2,q0,q1,q2,q3,q4,q5,q6,q7,q8,zj (f+1) t.items[k],IH f rfl _ ai ci wr hit hok2,by rw [hs];exact zgq hlt⟩
 cases hz:zbS 0 (zd t).int (zd t).gen (zd t).name (zd t).func (zd t).arity (zd t).items.length (zd t).bytes (zd t).bits with
 |false=>exact znm f t so c w hok hrec hz
 |true=>
  by_cases h1:t.kind=1
  ·exact zpC f t so c w hok hrec hz h1
  by_cases h2:t.kind=2
  ·exact zn5 f t so c w hok hrec hz h2
  by_cases h3:t.kind=3
  ·exact zqd f t so c w hok hrec hz h3
  by_cases h4:t.kind=4
  ·exact zjE f t so c w hok hrec hz h4
  by_cases h5:t.kind=5
  ·exact zkY f t so c w hok hrec hz h5
  by_cases h6:t.kind=6
  ·exact zqc f t so c w hok hrec hz h6
  by_cases h7:t.kind=7
  ·exact zmN f t so c w hok hrec hz h7
  by_cases h8:t.kind=8
  ·exact zpR f t so c w hok hrec hz h8
  by_cases h9:t.kind=9
  ·exact zol f t so c w hok hrec hz h9
  by_cases h10:t.kind=10
  ·exact znP f t so c w hok hrec hz h10
  exact zl2 f t so c w hok hrec hz (by omega)
theorem zo0 (f:Nat):zmI f:=by
 induction f with
 |zero=>exact zjp 0 (fun f' h=>absurd h (by omega))
 |succ f ih=>exact zjp (f+1) (fun f' h=>by
   have:f'=f:=by omega
   subst this;exact ih)
theorem zk3 (f:Nat) (t:Tm) (so:Option Addr) (c:Nat) (w:World) (ht:SlAt w 9 (TmAt w f) so t.items) (hok:t.Ok) (hs1:(zR (f+1) t:Int)<=1152921504606846976):
  Calls Tryz.prog 106 #[.agg (zzt t so c)] w fun e w'=>e= .returned (.int .i64 (zec (f+1) t))/\Below w.heap.size w w':=by
 unfold zzt;have hbx:=zb8 w t so c;have hB:Below w.heap.size w (w.alloc (.cells (zzt t so c) 47)):=(zzR _ _).alloc (zzL _) _;have hF: ∀wx,Below w.heap.size w wx->Calls Tryz.prog 134 #[.agg #[.int .i64 t.kind,.int .i64 t.int,.int .i64 t.gen,.string t.name,.string t.func,.int .i64 t.arity,.slice so t.items.length c,.string t.bytes,.int .i64 t.bits]] wx fun e w'=>e= .returned (.bool (zj (f+1) t))/\Below wx.heap.size wx w':=fun wx hx=>zo0 f t so c wx (ht.tms hx) hok
 have hW:zj (f+1) t=true-> ∀wx,Below w.heap.size w wx->Calls Tryz.prog 135 #[.agg #[.int .i64 t.kind,.int .i64 t.int,.int .i64 t.gen,.string t.name,.string t.func,.int .i64 t.arity,.slice so t.items.length c,.string t.bytes,.int .i64 t.bits]] wx fun e w'=>e= .returned (.int .i64 (zx (f+1) t))/\Below wx.heap.size wx w':=fun h wx hx=>znC f t so c wx (ht.tms hx) hok h hs1
 have E:Hid (zec (f+1) t=if zj (f+1) t=true then(if 2000<zx (f+1) t then 3 else 0)else 2):=zzH rfl;have HB:=zzH hB;have HBX:=zzH hbx;have HF:=zzH hF;have HW:=zzH hW;clear ht hok hs1 hB hF hW hbx;generalize zec (f+1) t=r at *;generalize zj (f+1) t=b at *;generalize zx (f+1) t=n at *;go_in;go_upto_region 1 with fail;generalize w.alloc (.cells (zzt t so c) 47)=Wa at *;generalize hBz:w.heap.size=B at *;have HBZ:=zzH hBz;clear hBz;have hb1:=HBX.out;have hlb1:=zc hb1;obtain ⟨c0,c1,c2,c3,c4,c5,c6,c7,c8⟩:=zzc9 hb1;clear hb1
 cases b with
 |false=>
  rw [if_neg (by decide)]at E;go_wp2_with fail;refine(HF.out _ HB.out).mono ?_;rintro e w5 ⟨rfl,hb5⟩;go_wp2_with fail;go_ret;exact⟨zdl E.out.symm,ze (by rw [HBZ.out];exact HB.out) hb5⟩
 |true=>
  rw [if_pos rfl]at E;go_wp2_with fail;refine(HF.out _ HB.out).mono ?_;rintro e w5 ⟨rfl,hb5⟩;have hb1:=(hb5.block B hlb1).trans HBX.out;have hlb5:=zc hb1;clear c0 c1 c2 c3 c4 c5 c6 c7 c8 hlb1;obtain ⟨c0,c1,c2,c3,c4,c5,c6,c7,c8⟩:=zzc9 hb1;clear hb1;have HB5:Hid (Below B w w5):=zzH (HB.out.trans (hb5.mono (by have:=HB.out.size;have:=HBZ.out;omega)));clear hb5;by_cases hn:2000<n
  ·rw [if_pos hn]at E
   exact zz169
  ·rw [if_neg hn]at E
   have hn':n<=2000:=by omega
   clear hn;exact zz169
theorem zen (f:Nat) (t:Tm) (so:Option Addr) (c:Nat) (w:World) (ht:SlAt w 9 (TmAt w f) so t.items) (hok:t.Ok) (hs1:(zR (f+1) t:Int)<=1152921504606846976):
  Calls Tryz.prog 79 #[.agg (zzt t so c)] w fun e w'=>e= .returned (.bool (zD (f+1) t))/\Below w.heap.size w w':=by
 unfold zzt;have hB:Below w.heap.size w (w.alloc (.cells (zzt t so c) 47)):=(zzR _ _).alloc (zzL _) _;have hC:=zk3 f t so c (w.alloc (.cells (zzt t so c) 47)) (ht.tms hB) hok hs1
 have E:Hid ((zec (f+1) t==0)=zD (f+1) t):=zzH (by
  unfold zec zD
  cases zj (f+1) t
  ·rfl
  ·rw [if_pos rfl,Bool.true_and]
   by_cases h:2000<zx (f+1) t
   ·rw [if_pos h,decide_eq_false (by omega)];rfl
   ·rw [if_neg h,decide_eq_true (by omega)];rfl)
 have HB:=zzH hB;clear hB ht hok hs1;generalize zec (f+1) t=n at *;go_in;go_wp2_with fail;refine hC.mono ?_;rintro e w5 ⟨rfl,hb5⟩;go_wp2_with fail;go_ret;exact⟨zr E.out,ze HB.out hb5⟩
theorem zhZ: ∀(a b:List UInt8),Lib.compareBytes a b= -1∨Lib.compareBytes a b=0∨Lib.compareBytes a b=1
 |[],[]=>.inr (.inl rfl)
 |[],_::_=>.inl rfl
 |_::_,[]=>.inr (.inr rfl)
 |a::x,b::y=>by
  unfold Lib.compareBytes;split
  ·exact .inl rfl
  ·split
   ·exact .inr (.inr rfl)
   ·exact zhZ x y
theorem zi4: ∀(a b:List UInt8),Op.bytesLess a b=decide (Lib.compareBytes a b= -1)
 |[],[]=>rfl
 |[],_::_=>rfl
 |_::_,[]=>rfl
 |a::x,b::y=>by
  unfold Op.bytesLess Lib.compareBytes;by_cases h:a<b
  ·rw [if_pos h,decide_eq_true h];rfl
  ·rw [if_neg h,decide_eq_false h,Bool.false_or]
   by_cases h2:b<a
   ·rw [if_pos h2]
    have:(a==b)=false:=by
     rw [zzq5];intro e;subst e;exact h h2
    rw [this];rfl
   ·rw [if_neg h2]
    have:a=b:=by
     rw [UInt8.lt_iff_toNat_lt]at h h2;exact UInt8.toNat_inj.1 (by omega)
    subst this;rw [beq_self_eq_true,Bool.true_and];exact zi4 x y
theorem zll: ∀(a b:List UInt8),(a==b)=decide (Lib.compareBytes a b=0)
 |[],[]=>rfl
 |[],_::_=>rfl
 |_::_,[]=>rfl
 |a::x,b::y=>by
  unfold Lib.compareBytes;by_cases h:a<b
  ·rw [if_pos h]
   have:a≠b:=by intro e;subst e;rw [UInt8.lt_iff_toNat_lt]at h;omega
   simp [this]
  ·rw [if_neg h]
   by_cases h2:b<a
   ·rw [if_pos h2]
    have:a≠b:=by intro e;subst e;exact h h2
    simp [this]
   ·rw [if_neg h2]
    have:a=b:=by
     rw [UInt8.lt_iff_toNat_lt]at h h2;exact UInt8.toNat_inj.1 (by omega)
    subst this;rw [<-zll x y];simp
theorem ziW (a b:Int) (w:World):Calls Tryz.prog 149 #[.int .i64 a,.int .i64 b] w fun e w'=>e= .returned (.int .i64 (Lib.compareInt a b))/\w=w':=by
 by_cases h:a<b
 ·have E:Hid (Lib.compareInt a b= -1):=zzH (by unfold Lib.compareInt;rw [if_pos h])
  exact zz177
 ·by_cases h2:b<a
  ·have E:Hid (Lib.compareInt a b=1):=zzH (by unfold Lib.compareInt;rw [if_neg h,if_pos h2])
   exact zz177
  ·have E:Hid (Lib.compareInt a b=0):=zzH (by unfold Lib.compareInt;rw [if_neg h,if_neg (by omega)])
   exact zz177
theorem zmd (a b:ByteArray) (w:World):Calls Tryz.prog 150 #[.string a,.string b] w fun e w'=>e= .returned (.int .i64 (Lib.compareBytes a.toList b.toList))/\w=w':=by
 have key: ∀(x1 x2:Bool) (n:Int),Op.bytesLess a.toList b.toList=x1->(a.toList==b.toList)=x2->n=(if x1=true then -1 else if x2=true then 0 else 1)->Calls Tryz.prog 150 #[.string a,.string b] w fun e w'=>e= .returned (.int .i64 n)/\w=w':=by
  intro x1 x2 n h1 h2 h3;have E:=zzH h3;clear h3
  cases x1 with
  |true=>
   exact zz177
  |false=>
   cases x2 with
   |true=>
    exact zz177
   |false=>
    exact zz177
 refine key _ _ _ rfl rfl ?_;rw [zi4,zll];rcases zhZ a.toList b.toList with h|h|h<;>rw [h]<;>rfl
theorem zdd {s:ByteArray} (h:zS s=true):s.data.toList= []:=by
 unfold zS at h;rw [decide_eq_true_eq]at h;exact List.eq_nil_of_length_eq_zero (by rw [Array.length_toList];exact h)
theorem zdY {f:Nat} {t:Tm} (h:zD (f+1) t=true):zcW t=true:=by
 unfold zD zj zcH at h;simp only [Bool.and_eq_true]at h;exact h.1.1.2
theorem zeE (a:Int):Lib.compareInt a a=0:=by unfold Lib.compareInt;rw [if_neg (Int.lt_irrefl _),if_neg (Int.lt_irrefl _)]
theorem zlB (x:Int):(if x=0 then(0:Int)else x)=x:=by split<;>omega
theorem zpZ {f:Nat} {a b:Tm} (va:zD (f+1) a=true) (vb:zD (f+1) b=true) (ha:a.kind=1) (hb:b.kind=1):zcA a b=Lib.compareInt a.int b.int:=by
 have za:=zdY va;have zb:=zdY vb;unfold zcW at za zb;simp only [ha,hb]at za zb;simp at za zb;unfold zI zL at za zb;simp only [decide_eq_true_eq]at za zb;have n1:=zdd za.1.1.1.1.1.2;have n2:=zdd zb.1.1.1.1.1.2;have f1:=zdd za.1.1.1.1.2;have f2:=zdd zb.1.1.1.1.2;have g1:=za.1.1.1.1.1.1;have g2:=zb.1.1.1.1.1.1;have a1:=za.1.1.1.2;have a2:=zb.1.1.1.2;unfold zcA;rw [ha,hb,zeE,if_pos rfl,n1,n2,f1,f2,g1,g2,a1,a2];simp only [orL,Lib.compareBytes,zeE,if_true];exact zlB _
theorem zn3 {f:Nat} {a b:Tm} (va:zD (f+1) a=true) (vb:zD (f+1) b=true) (ha:a.kind=2) (hb:b.kind=2):zcA a b=Lib.compareBytes a.name.data.toList b.name.data.toList:=by
 have za:=zdY va;have zb:=zdY vb;unfold zcW at za zb;simp only [ha,hb]at za zb;simp at za zb;unfold zI zL at za zb;simp only [decide_eq_true_eq]at za zb;have i1:=za.1.1.1.1.1.1;have i2:=zb.1.1.1.1.1.1;have f1:=zdd za.1.1.1.1.2;have f2:=zdd zb.1.1.1.1.2;have g1:=za.1.1.1.1.1.2;have g2:=zb.1.1.1.1.1.2;have a1:=za.1.1.1.2;have a2:=zb.1.1.1.2;unfold zcA;rw [ha,hb,zeE,if_pos rfl,i1,i2,f1,f2,g1,g2,a1,a2];simp only [orL,Lib.compareBytes,zeE,if_true];exact zlB _
theorem zp7 {f:Nat} {a b:Tm} (va:zD (f+1) a=true) (vb:zD (f+1) b=true) (ha:a.kind=8) (hb:b.kind=8):zcA a b=0:=by
 have za:=zdY va;have zb:=zdY vb;unfold zcW at za zb;simp only [ha,hb]at za zb;simp at za zb;unfold zI zL at za zb;simp only [decide_eq_true_eq]at za zb;have i1:=za.1.1.1.1.1.1.1;have i2:=zb.1.1.1.1.1.1.1;have n1:=zdd za.1.1.1.1.1.2;have n2:=zdd zb.1.1.1.1.1.2;have f1:=zdd za.1.1.1.1.2;have f2:=zdd zb.1.1.1.1.2;have g1:=za.1.1.1.1.1.1.2;have g2:=zb.1.1.1.1.1.1.2;have a1:=za.1.1.1.2;have a2:=zb.1.1.1.2;unfold zcA;rw [ha,hb,zeE,if_pos rfl,i1,i2,n1,n2,f1,f2,g1,g2,a1,a2];simp only [orL,Lib.compareBytes,zeE,if_true]
theorem zoL {a b:Tm} (h:a.kind≠b.kind):zcA a b=Lib.compareInt a.kind b.kind:=by
 unfold zcA;rw [if_neg];unfold Lib.compareInt;split
 ·decide
 ·split
  ·decide
  ·omega
theorem ziB (f:Nat) (a b:Tm) (ao bo:Option Addr) (c d:Nat) (w:World) (hta:SlAt w 9 (TmAt w f) ao a.items) (htb:SlAt w 9 (TmAt w f) bo b.items) (oa:a.Ok) (ob:b.Ok) (ca:(zR (f+1) a:Int)<=1152921504606846976) (cb:(zR (f+1) b:Int)<=1152921504606846976)
  (va:zD (f+1) a=true) (vb:zD (f+1) b=true) (ka:a.kind=1∨a.kind=2∨a.kind=8) (kb:b.kind=1∨b.kind=2∨b.kind=8):
  Calls Tryz.prog 133 #[.agg (zzt a ao c),.agg (zzt b bo d)] w fun e w'=>e= .returned (.int .i64 (zcA a b))/\Below w.heap.size w w':=by
 unfold zzt;have HB:=zzH (fun(ka kb:Int)=>zU w (.cells #[.int .i64 ka,.int .i64 a.int,.int .i64 a.gen,.string a.name,.string a.func,.int .i64 a.arity,.slice ao a.items.length c,.string a.bytes,.int .i64 a.bits] 47) (.cells #[.int .i64 kb,.int .i64 b.int,.int .i64 b.gen,.string b.name,.string b.func,.int .i64 b.arity,.slice bo b.items.length d,.string b.bytes,.int .i64 b.bits] 47));by_cases hk:a.kind=b.kind
 ·have hnb : (a.kind != b.kind) = false := by rw [bne_eq_false_iff_eq]; exact hk
  have E1:Hid (a.kind=1->zcA a b=Lib.compareInt a.int b.int):=zzH (fun h=>zpZ va vb h (hk▸h));have E2:Hid (a.kind=2->zcA a b=Lib.compareBytes a.name.toList b.name.toList):=zzH (fun h=>by rw [zzq10,zzq10];exact zn3 va vb h (hk▸h));have E8:Hid (a.kind=8->zcA a b=0):=zzH (fun h=>zp7 va vb h (hk▸h));clear hta htb oa ob ca cb va vb;have h1:=fun wx=>ziW a.int b.int wx
  have h2:=fun wx=>zmd a.name b.name wx
  generalize zcA a b=r at *;generalize Lib.compareInt a.int b.int=r1 at *;generalize Lib.compareBytes a.name.toList b.name.toList=r2 at *;clear kb;rw [hk]at ka hnb E1 E2 E8;rw [hk];generalize b.kind=k at *;clear hk;rcases ka with rfl|rfl|rfl
  ·have E:=zzH (E1.out rfl)
   clear E1 E2 E8;exact zz178
  ·have E:=zzH (E2.out rfl)
   clear E1 E2 E8;go_in;go_wp2_with (go_at_call 150;refine(h2 _).mono ?_;rintro e w1 ⟨rfl,rfl⟩);go_ret;exact⟨zdl E.out.symm,HB.out _ _⟩
  ·have E:=zzH (E8.out rfl)
   clear E1 E2 E8;go_in;go_wp2_with fail;go_ret;exact⟨zdl E.out.symm,HB.out _ _⟩
 ·have hnb : (a.kind != b.kind) = true := by rw [bne_iff_ne]; exact hk
  have E:=zzH (zoL hk);have h1:=fun wx=>ziW a.kind b.kind wx
  clear hta htb oa ob ca cb va vb hk ka kb;generalize zcA a b=r at *;generalize Lib.compareInt a.kind b.kind=r1 at *;exact zz178
theorem zh6 (f:Nat) (a b:Tm) (ao bo:Option Addr) (c d:Nat) (w:World) (hta:SlAt w 9 (TmAt w f) ao a.items) (htb:SlAt w 9 (TmAt w f) bo b.items) (oa:a.Ok) (ob:b.Ok) (ca:(zR (f+1) a:Int)<=1152921504606846976) (cb:(zR (f+1) b:Int)<=1152921504606846976)
  (va:zD (f+1) a=true) (vb:zD (f+1) b=true) (ka:a.kind=1∨a.kind=2∨a.kind=8) (kb:b.kind=1∨b.kind=2∨b.kind=8):
  Calls Tryz.prog 105 #[.agg #[.int .i64 a.kind,.int .i64 a.int,.int .i64 a.gen,.string a.name,.string a.func,.int .i64 a.arity,.slice ao a.items.length c,.string a.bytes,.int .i64 a.bits],.agg #[.int .i64 b.kind,.int .i64 b.int,.int .i64 b.gen,.string b.name,.string b.func,.int .i64 b.arity,.slice bo b.items.length d,.string b.bytes,.int .i64 b.bits]] w fun e w'=>e= .returned (.int .i64 (zcA a b))/\Below w.heap.size w w':=by
 have hB:=zU w (.cells #[.int .i64 a.kind,.int .i64 a.int,.int .i64 a.gen,.string a.name,.string a.func,.int .i64 a.arity,.slice ao a.items.length c,.string a.bytes,.int .i64 a.bits] 47) (.cells #[.int .i64 b.kind,.int .i64 b.int,.int .i64 b.gen,.string b.name,.string b.func,.int .i64 b.arity,.slice bo b.items.length d,.string b.bytes,.int .i64 b.bits] 47);have r0:=zem w (.cells #[.int .i64 a.kind,.int .i64 a.int,.int .i64 a.gen,.string a.name,.string a.func,.int .i64 a.arity,.slice ao a.items.length c,.string a.bytes,.int .i64 a.bits] 47) (.cells #[.int .i64 b.kind,.int .i64 b.int,.int .i64 b.gen,.string b.name,.string b.func,.int .i64 b.arity,.slice bo b.items.length d,.string b.bytes,.int .i64 b.bits] 47);have r1:=zd0 w (.cells #[.int .i64 a.kind,.int .i64 a.int,.int .i64 a.gen,.string a.name,.string a.func,.int .i64 a.arity,.slice ao a.items.length c,.string a.bytes,.int .i64 a.bits] 47) (.cells #[.int .i64 b.kind,.int .i64 b.int,.int .i64 b.gen,.string b.name,.string b.func,.int .i64 b.arity,.slice bo b.items.length d,.string b.bytes,.int .i64 b.bits] 47);have hva: ∀wx,Below w.heap.size w wx->Calls Tryz.prog 79 #[.agg #[.int .i64 a.kind,.int .i64 a.int,.int .i64 a.gen,.string a.name,.string a.func,.int .i64 a.arity,.slice ao a.items.length c,.string a.bytes,.int .i64 a.bits]] wx fun e w'=>e= .returned (.bool true)/\Below wx.heap.size wx w':=fun wx hx=>by have h:=zen f a ao c wx (hta.tms hx) oa ca;rwa [va]at h
 have hvb: ∀wx,Below w.heap.size w wx->Calls Tryz.prog 79 #[.agg #[.int .i64 b.kind,.int .i64 b.int,.int .i64 b.gen,.string b.name,.string b.func,.int .i64 b.arity,.slice bo b.items.length d,.string b.bytes,.int .i64 b.bits]] wx fun e w'=>e= .returned (.bool true)/\Below wx.heap.size wx w':=fun wx hx=>by have h:=zen f b bo d wx (htb.tms hx) ob cb;rwa [vb]at h
 have hvs: ∀wx,Below w.heap.size w wx->Calls Tryz.prog 133 #[.agg #[.int .i64 a.kind,.int .i64 a.int,.int .i64 a.gen,.string a.name,.string a.func,.int .i64 a.arity,.slice ao a.items.length c,.string a.bytes,.int .i64 a.bits],.agg #[.int .i64 b.kind,.int .i64 b.int,.int .i64 b.gen,.string b.name,.string b.func,.int .i64 b.arity,.slice bo b.items.length d,.string b.bytes,.int .i64 b.bits]] wx fun e w'=>e= .returned (.int .i64 (zcA a b))/\Below wx.heap.size wx w':=fun wx hx=>ziB f a b ao bo c d wx (hta.tms hx) (htb.tms hx) oa ob ca cb va vb ka kb
 have HVA:=zzH hva;have HVB:=zzH hvb;have HVS:=zzH hvs;have HB:=zzH hB;have R0:=zzH r0;have R1:=zzH r1;clear hta htb oa ob ca cb va vb ka kb hB hva hvb hvs r0 r1;generalize zcA a b=r at *;go_in;go_upto_region 1 with fail;have hq0:=R0.out;have hq1:=R1.out;generalize(w.alloc (.cells #[.int .i64 a.kind,.int .i64 a.int,.int .i64 a.gen,.string a.name,.string a.func,.int .i64 a.arity,.slice ao a.items.length c,.string a.bytes,.int .i64 a.bits] 47)).alloc (.cells #[.int .i64 b.kind,.int .i64 b.int,.int .i64 b.gen,.string b.name,.string b.func,.int .i64 b.arity,.slice bo b.items.length d,.string b.bytes,.int .i64 b.bits] 47)=W at *;generalize hBz:w.heap.size=Z at *;have HBZ:=zzH hBz;clear hBz;have HBW:Hid (Below w.heap.size w W):=zzH (by rw [HBZ.out];exact HB.out);have hva': ∀wx,Below W.heap.size W wx->Calls Tryz.prog 79 #[.agg #[.int .i64 a.kind,.int .i64 a.int,.int .i64 a.gen,.string a.name,.string a.func,.int .i64 a.arity,.slice ao a.items.length c,.string a.bytes,.int .i64 a.bits]] wx fun e w'=>e= .returned (.bool true)/\Below W.heap.size W w':=fun wx hx=>(HVA.out wx (by rw [<-HBZ.out];exact ze HBW.out hx)).mono fun _ _ ⟨h,h'⟩=>⟨h,ze hx h'⟩
 have hvb': ∀wx,Below W.heap.size W wx->Calls Tryz.prog 79 #[.agg #[.int .i64 b.kind,.int .i64 b.int,.int .i64 b.gen,.string b.name,.string b.func,.int .i64 b.arity,.slice bo b.items.length d,.string b.bytes,.int .i64 b.bits]] wx fun e w'=>e= .returned (.bool true)/\Below W.heap.size W w':=fun wx hx=>(HVB.out wx (by rw [<-HBZ.out];exact ze HBW.out hx)).mono fun _ _ ⟨h,h'⟩=>⟨h,ze hx h'⟩
 obtain⟨q0,q1,q2,q3,q4,q5,q6,q7,q8,zq⟩:=zf hq0;obtain⟨p0,p1,p2,p3,p4,p5,p6,p7,p8,zp⟩:=zf hq1;have hl0:=zc hq0;have hl1:=zc hq1;clear zq zp hq0 hq1;have HDR:=zzH ((zzR W.heap.size W).drew);have SK0:=zzH (zbl HDR.out)
 first|go_region_held3 (fun w'=>W.heap.size<=w'.heap.size/\ ∀b o,b<W.heap.size->w'.cell? ⟨b,o,none⟩=W.cell? ⟨b,o,none⟩) (first|with_reducible exact SK0.out|with_reducible exact HK5.out|with_reducible exact HK6.out)
  (first
   |(go_at_call 79;(first|(with_reducible refine(hva' _ HDR.out).mono ?_)|(with_reducible refine(hvb' _ HDR.out).mono ?_));rintro e w5 ⟨rfl,hb5⟩;have HK5:=zzH (zbl hb5))
   |(go_at_call 79;(first|(with_reducible refine(hva' _ hb5).mono ?_)|(with_reducible refine(hvb' _ hb5).mono ?_));rintro e w6 ⟨rfl,hb6⟩;have HK6:=zzH (zbl hb6)))|fail
 all_goals
  obtain⟨s0,s1,s2,s3,s4,s5,s6,s7,s8,zs⟩:=zf ((hb6.block _ hl0).trans R0.out);obtain⟨u0,u1,u2,u3,u4,u5,u6,u7,u8,zu⟩:=zf ((hb6.block _ hl1).trans R1.out);go_wp2_with (go_at_call 133;refine(HVS.out _ (by rw [<-HBZ.out];exact ze HBW.out hb6)).mono ?_;rintro e w8 ⟨rfl,hb8⟩);go_ret;exact⟨rfl,ze HBW.out (ze hb6 hb8)⟩
theorem zmx {w:World} {f:Nat} {lo:Option Addr} {lits:List Tm} (h:LitsOk w f lo lits) {i j:Nat} (hi:i<lits.length) (hj:j<lits.length) (ki:zdi lits[i]=true) (kj:zdi lits[j]=true) {ai aj:Option Addr} {ci cj:Nat}
  (si:SlAt w 9 (TmAt w f) ai lits[i].items) (sj:SlAt w 9 (TmAt w f) aj lits[j].items) (oi:lits[i].Ok) (oj:lits[j].Ok) (wx:World) (hx:Below w.heap.size w wx):
  Calls Tryz.prog 105 #[.agg #[.int .i64 lits[i].kind,.int .i64 lits[i].int,.int .i64 lits[i].gen,.string lits[i].name,.string lits[i].func,.int .i64 lits[i].arity,.slice ai lits[i].items.length ci,.string lits[i].bytes,.int .i64 lits[i].bits],.agg #[.int .i64 lits[j].kind,.int .i64 lits[j].int,.int .i64 lits[j].gen,.string lits[j].name,.string lits[j].func,.int .i64 lits[j].arity,.slice aj lits[j].items.length cj,.string lits[j].bytes,.int .i64 lits[j].bits]] wx fun e w'=>e= .returned (.int .i64 (zcA lits[i] lits[j]))/\Below wx.heap.size wx w':=by
 obtain⟨vi,bi⟩:=h.ok _ (List.getElem_mem hi);obtain⟨vj,bj⟩:=h.ok _ (List.getElem_mem hj);exact zh6 f lits[i] lits[j] ai aj ci cj wx (si.tms hx) (sj.tms hx) oi oj bi bj vi vj (of_decide_eq_true ki) (of_decide_eq_true kj)
theorem zmi (u:RUnit) (lo fo go co:Option Addr) (lc fc gc cc:Nat) (x:RIns) (so co' go':Option Addr) (sc cc' gc':Nat) (f:Nat) (w:World) (hl:u.lits.length<=9223372036854775807) (hlit:LitsOk w f lo u.lits) (hca:SlAt w 2 zcR co' x.cases) (hse:SlAt w 6 zdk go' x.segs) (rc:x.cases.length<=9223372036854775807) (rs:x.segs.length<=9223372036854775807):
  Calls Tryz.prog 77 #[.agg (zzu u lo lc fo fc go gc co cc),.agg (zzi x so sc co' cc' go' gc')] w fun e w'=>e= .returned (.bool (zby u.lits x))/\Below w.heap.size w w':=by
 unfold zzi zzu;have HE:Hid (zby u.lits x=(((!(x.op==12)||wi x.cases.length 1 1000)&&decide ((x.segs.length:Int)<=60))&&(zer u.lits x.cases&&x.segs.all (zbY u.lits.length)))):=zzH rfl;have HLI0:=zzH hlit;have HCA0:=zzH hca;have HSE0:=zzH hse;have hwi:=fun wx=>zO (x.cases.length:Int) 1 1000 wx
 clear hlit hca hse;go_in;go_upto_region 1 with fail;obtain⟨hU,hX,hBW⟩:=zbQ w u lo fo go co lc fc gc cc x so co' go' sc cc' gc';have HBW:=zzH hBW;have HLI:Hid (LitsOk _ f lo u.lits):=zzH (HLI0.out.below hBW);have HCA:=zzH (HCA0.out.mono hBW fun _ _ h=>h);have HSE:=zzH (HSE0.out.mono hBW fun _ _ h=>h);clear hBW HLI0 HCA0 HSE0;generalize(w.alloc (.cells (zzu u lo lc fo fc go gc co cc) 28)).alloc (.cells (zzi x so sc co' cc' go' gc') 64)=W at *;generalize hBz:w.heap.size=B at *;have HBZ:=zzH hBz;clear hBz;have HFIN:Hid (∀wx,Below W.heap.size W wx->Below B w wx):=zzH (fun wx hh=>HBW.out.trans (hh.mono (by have:=HBW.out.size;have:=HBZ.out;omega)));have HU:=zzH hU;have HX:=zzH hX;have c0:=hX.c0;have c8:=hX.c8;have c9:=hX.c9;have hlx:=hX.lt;have hlu:=hU.lt;clear hU hX;generalize hr1:(!(x.op==12)||wi x.cases.length 1 1000)=r1 at HE;have HR1:=zzH hr1;clear hr1;go_cut [19] (fun s wx=> ∃n1:Bool,s= .bool n1/\Hid (n1= !r1)/\W=wx)
 case first=>
  generalize wi x.cases.length 1 1000=w1 at *
  cases t12:(x.op==12)with
  |true=>
   cases w1 with
   |false=>
    have hv:=zzH (HR1.out.symm.trans (by rw [t12];rfl:_=false));exact zz185
   |true=>
    have hv:=zzH (HR1.out.symm.trans (by rw [t12];rfl:_=true));exact zz185
  |false=>
   have hv:=zzH (HR1.out.symm.trans (by rw [t12];rfl:_=true));go_wp2_with fail;go_meet
   case rel=>exact⟨_,rfl,zzH (by rw [hv.out];rfl),rfl⟩
 case rest=>
  obtain⟨n1,rfl,hn1,rfl⟩:=hcut;clear HR1 hwi
  cases r1 with
  |false=>
   exact zz186
  |true=>
   obtain rfl:n1=false:=hn1.out;have HE1:Hid (zby u.lits x=(decide ((x.segs.length:Int)<=60)&&(zer u.lits x.cases&&x.segs.all (zbY u.lits.length)))):=zzH (by rw [HE.out,Bool.true_and]);clear HE;go_wp2_with fail;go_loopw [5,6,7] (fun i _ _ wr=> ∃k:Nat,k<=x.cases.length/\i= .int .i64 k/\Hid (∀j,j<k->zcp u.lits x.cases j=true)/\Below W.heap.size W wr) (fun i _ _ _=>x.cases.length-(intOf i).toNat)
   case atStart=>exact⟨0,zzZ _,rfl,zzH (fun j h=>absurd h (Nat.not_lt_zero _)),zzR _ _⟩
   case round=>
    obtain⟨k,hk,rfl,HK,hBw⟩:=hrel;rename World=>wr
    clear c0 c8 c9;have hxr:=HX.out.below hBw;have hur:=HU.out.below hBw;have HBWR:=zzH hBw;have c8:=hxr.c8;have c9:=hxr.c9;have hlx:=hxr.lt;have hlu:=hur.lt;have u2:=hur.c2;by_cases hlt:k<x.cases.length
    ·obtain⟨b1,off1,hco,hb1,q0,q1,rl,rt⟩:=(HCA.out.mono hBw fun _ _ h=>h).case hlt
     subst hco;have hcl:=zgk hlt;generalize x.cases[k].to=ct at *;generalize x.cases[k].lit=cl at *;have hwr1:IntKind.i64.wrap ((u.lits.length:Int)-1)=(u.lits.length:Int)-1:=by rw [zzq3];omega
     clear hxr hur hBw q1;by_cases hin:0<=cl/\cl<=(u.lits.length:Int)-1
     ·obtain⟨m,rfl⟩: ∃m:Nat,cl=(m:Int):=⟨cl.toNat,by omega⟩
      have hm:m<u.lits.length:=by omega
      have hw1:=zeq hin.1 hin.2;have hwc:=fun wx=>zO (m:Int) 0 ((u.lits.length:Int)-1) wx
      have HW1:=zzH hw1;rw [hw1]at hwc;obtain⟨b2,off2,ai,ci,hlo,hb2,p0,p1,p2,p3,p4,p5,p6,p7,p8,hit,hok⟩:=(HLI.out.below HBWR.out).at'.tm hm;have hla:=ze1 hm;have HCL:=zzH hcl;have HIT:=zzH hit;have HOK:=zzH hok;subst hlo;clear hcl hw1 hin rl rt hit hok;generalize hkk:(u.lits[m]).kind=kk at p0;have HKK:=zzH hkk;clear hkk;by_cases hko:kk=1∨kk=2∨kk=8
      ·have HKO:Hid (zdi u.lits[m]=true):=zzH (by unfold zdi;rw [HKK.out];exact zzT hko)
       by_cases k0:k=0
       ·have HK2:Hid (∀j,j<k+1->zcp u.lits x.cases j=true):=zzH (fun j hj=>by
         obtain rfl:j=k:=by omega
         unfold zcp;rw [HCL.out,HW1.out,hla,HKO.out,decide_eq_true k0];rfl)
        have hd0:decide ((0:Int)<(k:Int))=false:=zzD (by omega);have hd1:decide (0<k)=false:=zzD (by omega);clear k0;rcases hko with rfl|rfl|rfl
        all_goals
         go_wp2_with (go_at_call 99;refine(hwc _).mono ?_;rintro e w1 ⟨rfl,rfl⟩);go_quiet (fail);go_wp2_with fail;go_roundw
         case rel=>exact⟨k+1,by omega,by go_num,HK2,zY HBWR.out _⟩
         case measure=>simp [intOf];omega
       ·obtain⟨k',hk'⟩: ∃k',k=k'+1:=⟨k-1,by omega⟩
        have hlt':k'<x.cases.length:=by omega
        have hprev:=HK.out k' (by omega);obtain⟨b1',off1',hco',hb1',q0',q1',rl',rt'⟩:=(HCA.out.mono HBWR.out fun _ _ h=>h).case hlt';obtain⟨rfl,rfl⟩:b1=b1'/\off1=off1':=by injection hco' with h;injection h with h1 h2;exact⟨h1,h2⟩
        have hcl':=zgk hlt';generalize x.cases[k'].lit=cl' at *;generalize x.cases[k'].to=ct' at *;unfold zcp at hprev;rw [hcl']at hprev
        have hpin:0<=cl'/\cl'<=(u.lits.length:Int)-1:=by
         exact zz54
        obtain⟨m',rfl⟩: ∃m':Nat,cl'=(m':Int):=⟨cl'.toNat,by omega⟩;have hm':m'<u.lits.length:=by omega
        rw [ze1 hm']at hprev
        have hko':zdi u.lits[m']=true:=by
         cases h:zdi u.lits[m']with
         |true=>rfl
         |false=>rw [h]at hprev;simp at hprev
        have HLW:=zzH (HLI.out.below HBWR.out);obtain⟨b2',off2',ai',ci',hlo',hb2',r0,r1,r2,r3,r4,r5,r6,r7,r8,hit',hok'⟩:=HLW.out.at'.tm hm';obtain⟨rfl,rfl⟩:b2=b2'/\off2=off2':=by injection hlo' with h;injection h with h1 h2;exact⟨h1,h2⟩
        have hLess:=zmx (ci:=ci') (cj:=ci) HLW.out hm' hm hko' HKO.out hit' HIT.out hok' HOK.out
        have HOKK:Hid (zcp u.lits x.cases k=decide (zcA u.lits[m'] u.lits[m]<0)):=zzH (by
         unfold zcp;rw [HCL.out,HW1.out,hla,HKO.out,decide_eq_false k0,hk',Nat.add_sub_cancel,hcl',ze1 hm'];simp)
        have hd0:decide ((0:Int)<(k:Int))=true:=zzT (by omega);have hd1:decide (0<k)=true:=zzT (by omega);have hwk:IntKind.i64.wrap ((k:Int)-1)=(k':Int):=by rw [zzq3];omega
        rw [HKK.out]at hLess;have HDW:Hid (Below wr.heap.size wr wr.drew):=zzH (zzR _ _).drew;have SK0:=zzH (zbl HDW.out);clear q1' hprev hpin hcl' hla hit' hok' hlo' hco' rl' rt' k0 hk' hb1' hb2';generalize zcA u.lits[m'] u.lits[m]=q at *;generalize u.lits[m']=t' at *;generalize u.lits[m]=t at *;by_cases hq:q<0
        ·have HK2:Hid (∀j,j<k+1->zcp u.lits x.cases j=true):=zzH (fun j hj=>by
          rcases Nat.eq_or_lt_of_le (Nat.le_of_lt_succ hj)with h|h
          ·rw [h,HOKK.out];exact zzT hq
          ·exact HK.out j h)
         rcases hko with rfl|rfl|rfl
         all_goals
          go_wp2_with (go_at_call 99;refine(hwc _).mono ?_;rintro e w1 ⟨rfl,rfl⟩)
          first|go_region_held3 (fun w'=>wr.heap.size<=w'.heap.size/\ ∀b o,b<wr.heap.size->w'.cell? ⟨b,o,none⟩=wr.cell? ⟨b,o,none⟩) (first|with_reducible exact SK0.out|with_reducible exact HK5.out)
           ((go_at_call 105;refine(hLess _ HDW.out).mono ?_;rintro e w5 ⟨rfl,hb5⟩;have HK5:=zzH (zbl (ze HDW.out hb5));have HB5:=zzH (ze HDW.out hb5)))|fail
          go_wp2_with fail;go_roundw
          case rel=>exact⟨k+1,by omega,by go_num,HK2,HBWR.out.trans (HB5.out.mono HBWR.out.size)⟩
          case measure=>simp [intOf];omega
        ·have hq':0<=q:=by omega
         have E:Hid (zby u.lits x=false):=zzH (by rw [HE1.out,zeI hlt (HOKK.out.trans (decide_eq_false hq)),Bool.false_and,Bool.and_false]);clear hq;rcases hko with rfl|rfl|rfl
         all_goals
          go_wp2_with (go_at_call 99;refine(hwc _).mono ?_;rintro e w1 ⟨rfl,rfl⟩)
          first|go_region_held3 (fun w'=>wr.heap.size<=w'.heap.size/\ ∀b o,b<wr.heap.size->w'.cell? ⟨b,o,none⟩=wr.cell? ⟨b,o,none⟩) (first|with_reducible exact SK0.out|with_reducible exact HK5.out)
           ((go_at_call 105;refine(hLess _ HDW.out).mono ?_;rintro e w5 ⟨rfl,hb5⟩;have HK5:=zzH (zbl (ze HDW.out hb5));have HB5:=zzH (ze HDW.out hb5)))|fail
          go_wp2_with fail;go_ret;exact⟨zr E.out.symm,by rw [HBZ.out];exact HFIN.out _ (HBWR.out.trans (HB5.out.mono HBWR.out.size))⟩
      ·have E:Hid (zby u.lits x=false):=zzH (by
        rw [HE1.out,zeI hlt (by
         unfold zcp zdi;rw [HCL.out,HW1.out,hla,HKK.out,decide_eq_false hko];rfl),Bool.false_and,Bool.and_false])
       have t1 : (kk != 1) = true := by rw [bne_iff_ne]; exact fun h => hko (.inl h)
       have t2 : (kk != 2) = true := by rw [bne_iff_ne]; exact fun h => hko (.inr (.inl h))
       have t8 : (kk != 8) = true := by rw [bne_iff_ne]; exact fun h => hko (.inr (.inr h))
       clear hko;exact zz184
     ·have E:Hid (zby u.lits x=false):=zzH (by rw [HE1.out,zeI hlt (by unfold zcp;rw [hcl,zdN hin];rfl),Bool.false_and,Bool.and_false])
      have hw0:=zdN hin;have hwc:=fun wx=>zO cl 0 ((u.lits.length:Int)-1) wx
      rw [hw0]at hwc;clear hcl hw0 hin;exact zz184
    ·have HC1:Hid (zer u.lits x.cases=true):=zzH (zh9 (fun j hj=>HK.out j (by omega)))
     have HE2:Hid (zby u.lits x=(decide ((x.segs.length:Int)<=60)&&x.segs.all (zbY u.lits.length))):=zzH (by rw [HE1.out,HC1.out,Bool.true_and]);clear HE1 HC1 HK hxr hur hBw;by_cases s60:(x.segs.length:Int)<=60
     ·have HE3:Hid (zby u.lits x=x.segs.all (zbY u.lits.length)):=zzH (by rw [HE2.out,decide_eq_true s60,Bool.true_and])
      have HI:Hid (x.segs.all (zbY u.lits.length)=(x.segs.drop 0).all (zbY u.lits.length)):=zzH rfl;clear HE2;obtain⟨wo,rfl⟩: ∃wo:World,wo=wr:=⟨_,rfl⟩;go_wp2_with fail;go_loopw [8,9] (fun i _ wq=> ∃k:Nat,k<=x.segs.length/\i= .int .i64 k/\Hid (x.segs.all (zbY u.lits.length)=(x.segs.drop k).all (zbY u.lits.length))/\Below W.heap.size W wq) (fun i _ _=>x.segs.length-(intOf i).toNat)
      case atStart=>exact⟨0,zzZ _,rfl,HI,HBWR.out⟩
      case round=>
       obtain⟨k,hk,rfl,HK,hBq⟩:=hrel;rename World=>wr
       clear c8 c9 hlx hlu u2 HBWR;have hxr:=HX.out.below hBq;have hur:=HU.out.below hBq;have HBQ:=zzH hBq;have c9:=hxr.c9;have hlx:=hxr.lt;have hlu:=hur.lt;clear hxr;by_cases hlt:k<x.segs.length
       ·obtain⟨b1,off1,hgo,hb1,s0,s1,s2,s3,s4,s5,t0,t1,t2,t3,t4⟩:=(HSE.out.mono hBq fun _ _ h=>h).seg hlt
        subst hgo;have HST:Hid ((x.segs.drop k).all (zbY u.lits.length)=(zbY u.lits.length x.segs[k]&&(x.segs.drop (k+1)).all (zbY u.lits.length))):=zzH (by rw [List.drop_eq_getElem_cons hlt,List.all_cons]);have hop1:=fun wx=>zeX u lo fo go co lc fc gc cc x.segs[k].val wx hl ⟨t1,t2⟩
        have hop2:=fun wx=>zeX u lo fo go co lc fc gc cc x.segs[k].size wx hl ⟨t3,t4⟩
        have hno:=fun wx=>zgX x.segs[k].size wx
        have HSB:Hid (zbY u.lits.length x.segs[k]=(wi x.segs[k].type 1 3&&(zbv u.lits.length x.segs[k].val&&((zdP x.segs[k].size||zbv u.lits.length x.segs[k].size)&&(!x.segs[k].little||x.segs[k].type==1))))):=zzH rfl;have hwt:=fun wx=>zO x.segs[k].type 1 3 wx
        have HOP1:=zzH hop1;have HOP2:=zzH hop2;have HNO:=zzH hno;clear hop1 hop2 hno;generalize zbY u.lits.length x.segs[k]=sb at *;generalize zbv u.lits.length x.segs[k].val=ov at *;generalize zbv u.lits.length x.segs[k].size=os at *;generalize zdP x.segs[k].size=nz at *;generalize wi x.segs[k].type 1 3=wt at *;generalize x.segs[k]=g at *;obtain⟨ty,⟨vk,vn⟩,⟨sk,sn⟩,lit⟩:=g;simp only at *;have hbx:Below wr.heap.size wr (wr.alloc (.cells #[.int .i64 ty,.int .i64 vk,.int .i64 vn,.int .i64 sk,.int .i64 sn,.bool lit] 98)):=(zzR _ _).alloc (zzL _) _;have hbr:=heap_alloc_new wr (.cells #[.int .i64 ty,.int .i64 vk,.int .i64 vn,.int .i64 sk,.int .i64 sn,.bool lit] 98);have HBX:=zzH hbx;have HBR:=zzH hbr;have HUR:=zzH hur;clear hbx hbr t0 t1 t2 t3 t4 hBq hur;have u0:=(HUR.out.below HBX.out).c0;have u1:=(HUR.out.below HBX.out).c1;have u2:=(HUR.out.below HBX.out).c2;have u3:=(HUR.out.below HBX.out).c3;have u4:=(HUR.out.below HBX.out).c4;have u5:=(HUR.out.below HBX.out).c5
        cases wt with
        |false=>
         have E:Hid (zby u.lits x=false):=zzH (by rw [HE3.out,HK.out,HST.out,HSB.out];simp);go_wp2_with (go_at_call 99;refine(hwt _).mono ?_;rintro e w1 ⟨rfl,rfl⟩);go_ret;exact⟨zr E.out.symm,by rw [HBZ.out];exact HFIN.out _ (HBQ.out.trans (HBX.out.mono HBQ.out.size))⟩
        |true=>
         go_wp2_with (go_at_call 99;refine(hwt _).mono ?_;rintro e w1 ⟨rfl,rfl⟩);refine(HOP1.out _).mono ?_;rintro e w5 ⟨rfl,hb5⟩;have HB5:=zzH (ze HBX.out hb5);have hbra:=(hb5.block wr.heap.size (zc HBR.out)).trans HBR.out;obtain⟨g0,g1,g2,g3,g4,g5⟩:=zdc hbra;have hlra:=zc hbra;clear u0 u1 u2 u3 u4 u5;have u0:=(HUR.out.below HB5.out).c0;have u1:=(HUR.out.below HB5.out).c1;have u2:=(HUR.out.below HB5.out).c2;have u3:=(HUR.out.below HB5.out).c3;have u4:=(HUR.out.below HB5.out).c4;have u5:=(HUR.out.below HB5.out).c5;have hlua:=(HUR.out.below HB5.out).lt;have HBRA:=zzH hbra;clear hb5 hbra
         cases ov with
         |false=>
          have E:Hid (zby u.lits x=false):=zzH (by rw [HE3.out,HK.out,HST.out,HSB.out];simp []);go_wp2_with fail;go_ret;exact⟨zr E.out.symm,by rw [HBZ.out];exact HFIN.out _ (HBQ.out.trans (HB5.out.mono HBQ.out.size))⟩
         |true=>
          go_wp2_with fail;refine(HOP2.out _).mono ?_;rintro e w6 ⟨rfl,hb6⟩;have HB6:=zzH (ze HB5.out hb6);have hbrb:=(hb6.block wr.heap.size hlra).trans HBRA.out;clear g0 g1 g2 g3 g4 g5 u0 u1 u2 u3 u4 u5;obtain⟨g0,g1,g2,g3,g4,g5⟩:=zdc hbrb;have hlrb:=zc hbrb;have HBRB:=zzH hbrb;clear hb6 hbrb
          cases os with
          |true=>
           cases lit with
           |false=>
            have HK2:Hid (x.segs.all (zbY u.lits.length)=(x.segs.drop (k+1)).all (zbY u.lits.length)):=zzH (by rw [HK.out,HST.out,HSB.out];simp []);exact zz182
           |true=>
            cases ty1:(ty==1)with
            |true=>
             have ty2 : (ty != 1) = false := by unfold bne; rw [ty1]; rfl
             have HK2:Hid (x.segs.all (zbY u.lits.length)=(x.segs.drop (k+1)).all (zbY u.lits.length)):=zzH (by rw [HK.out,HST.out,HSB.out];simp [ty1]);exact zz182
            |false=>
             have ty2 : (ty != 1) = true := by unfold bne; rw [ty1]; rfl
             have E:Hid (zby u.lits x=false):=zzH (by rw [HE3.out,HK.out,HST.out,HSB.out];simp [ty1]);go_wp2_with fail;go_ret;exact⟨zr E.out.symm,by rw [HBZ.out];exact HFIN.out _ (HBQ.out.trans (HB6.out.mono HBQ.out.size))⟩
          |false=>
           go_wp2_with fail;refine(HNO.out _).mono ?_;rintro e w7 ⟨rfl,hb7⟩;have HB7:=zzH (ze HB6.out hb7);have hbrc:=(hb7.block wr.heap.size hlrb).trans HBRB.out;clear g0 g1 g2 g3 g4 g5;obtain⟨g0,g1,g2,g3,g4,g5⟩:=zdc hbrc;have hlrc:=zc hbrc;clear hb7 hbrc
           cases nz with
           |false=>
            have E:Hid (zby u.lits x=false):=zzH (by rw [HE3.out,HK.out,HST.out,HSB.out];simp []);exact zz187
           |true=>
            cases lit with
            |false=>
             have HK2:Hid (x.segs.all (zbY u.lits.length)=(x.segs.drop (k+1)).all (zbY u.lits.length)):=zzH (by rw [HK.out,HST.out,HSB.out];simp []);exact zz183
            |true=>
             cases ty1:(ty==1)with
             |true=>
              have ty2 : (ty != 1) = false := by unfold bne; rw [ty1]; rfl
              have HK2:Hid (x.segs.all (zbY u.lits.length)=(x.segs.drop (k+1)).all (zbY u.lits.length)):=zzH (by rw [HK.out,HST.out,HSB.out];simp [ty1]);exact zz183
             |false=>
              have ty2 : (ty != 1) = true := by unfold bne; rw [ty1]; rfl
              have E:Hid (zby u.lits x=false):=zzH (by rw [HE3.out,HK.out,HST.out,HSB.out];simp [ty1]);exact zz187
       ·have E:Hid (zby u.lits x=true):=zzH (by rw [HE3.out,HK.out,zzq6 (by omega)];rfl)
        go_wp2_with fail;go_ret;exact⟨zr E.out.symm,by rw [HBZ.out];exact HFIN.out _ HBQ.out⟩
     ·have s60':60<(x.segs.length:Int):=by omega
      have E:Hid (zby u.lits x=false):=zzH (by rw [HE2.out,decide_eq_false s60];rfl);clear s60;go_wp2_with fail;go_ret;exact⟨zr E.out.symm,by rw [HBZ.out];exact HFIN.out _ HBWR.out⟩
theorem zij {n:ByteArray} {a:Int}: ∀(l:List RFunc) (i k:Nat) (h:k<l.length),l[k].name=n->l[k].arity=a-> ∃j,zcY n a l i=some (i+j)/\j<=k/\(zcy (l.take k) n a=decide (j<k))
 |[],_,_,h,_,_=>absurd h (Nat.not_lt_zero _)
 |x::l,i,k,h,hn,ha=>by
  by_cases hx:x.name=n/\x.arity=a
  ·refine⟨0,by unfold zcY;rw [if_pos hx];rfl,zzZ _,?_⟩
   cases k with
   |zero=>rfl
   |succ k=>
    rw [List.take_succ_cons,decide_eq_true (Nat.succ_pos k)];unfold zcy;rw [List.any_cons,hx.1,hx.2];simp
  ·cases k with
   |zero=>exact absurd ⟨hn,ha⟩ hx
   |succ k=>
    obtain⟨j,h1,h2,h3⟩:=zij l (i+1) k (by simpa using h) hn ha;refine⟨j+1,by unfold zcY;rw [if_neg hx,h1];congr 1;omega,by omega,?_⟩;rw [List.take_succ_cons]
    have e:zcy (x::l.take k) n a=zcy (l.take k) n a:=by
     unfold zcy;rw [List.any_cons]
     have:(x.name.data.toList==n.data.toList&&x.arity==a)=false:=by
      rw [Bool.and_eq_false_iff];by_cases h1:x.name=n
      ·right;rw [zzq5];exact fun h=>hx ⟨h1,h⟩
      ·left;rw [zzq5];intro h2
       apply h1;have:x.name.data=n.data:=Array.toList_inj.1 h2;exact congrArg ByteArray.mk this
     rw [this,Bool.false_or]
    rw [e,h3,Bool.eq_iff_iff,decide_eq_true_eq,decide_eq_true_eq];omega
theorem zpD (funcs:List RFunc) (k:Nat) (h:k<funcs.length): ∃j:Nat,zgz funcs[k].name funcs[k].arity funcs=j/\j<=k/\zcy (funcs.take k) funcs[k].name funcs[k].arity=decide (j<k):=by
 obtain⟨j,h1,h2,h3⟩:=zij funcs 0 k h rfl rfl;refine⟨j,?_,h2,h3⟩;unfold zgz;rw [h1];simp
theorem zmY {last:Int} {funcs:List RFunc} (h: ∀k,(h:k<funcs.length)->zel last funcs[k]=true/\zcy (funcs.take k) funcs[k].name funcs[k].arity=false):zdR last funcs=true:=zzT h
theorem zq8 (u:RUnit):zgx u=(zB u.mdl&&(decide (1<=u.vsn)&&(decide (u.vsn<=2147483647)&&(wi u.code.length 1 524288&&(decide (u.lits.length<=65535)&&(decide (u.funcs.length<=200)&&decide (u.funs.length<=1000))))))):=by
 unfold zgx wi
 have e:(decide (0<=(u.code.length:Int)-1)&&decide ((u.code.length:Int)-1<524288))=(decide ((1:Int)<=u.code.length)&&decide ((u.code.length:Int)<=524288)):=by
  rw [Bool.eq_iff_iff];simp only [Bool.and_eq_true,decide_eq_true_eq];omega
 rw [<-Bool.and_assoc (decide (0<=_)),e]
theorem zlQ {w:World} {B:Nat} {v0 v1 v2 v3:Value} (h:w.heap[B]?=some (.cells #[v0,v1,v2,v3] 51 (0,0))):
  w.cell? ⟨B,0,none⟩=some v0/\w.cell? ⟨B,1,none⟩=some v1/\w.cell? ⟨B,2,none⟩=some v2/\w.cell? ⟨B,3,none⟩=some v3:=by
 have hc:=fun j=>zzq2 w B j _ _ _ h
 exact⟨hc 0,hc 1,hc 2,hc 3⟩
theorem zkH (f:Nat) (u:RUnit) (lo fo go co:Option Addr) (lc fc gc cc:Nat) (w:World) (hp:UP w u lo fo go co) (hlits:SlAt w 9 (TmAt w (f+1)) lo u.lits) (hcap: ∀t∈u.lits,(zR (f+1) t:Int)<=1152921504606846976):
  Calls Tryz.prog 73 #[.agg (zzu u lo lc fo fc go gc co cc)] w fun e w'=>e= .returned (.bool (zba (f+1) u))/\Below w.heap.size w w':=by
 unfold zzu;have HE:Hid (zba (f+1) u=(zgx u&&(u.lits.all (zD (f+1))&&(zdR ((u.code.length:Int)-1) u.funcs&&u.funs.all (zcK ((u.code.length:Int)-1)))))):=zzH rfl;have hta:=zq8 u;have hl1:=hp.litsLen;have hl2:=hp.funcsLen;have hl3:=hp.funsLen;have hl4:=hp.codeLen;have hmd:u.mdl.size<=maxLen:=by unfold maxLen;exact hp.mdlLen
 have hwc:=fun wx=>zO (u.code.length:Int) 1 524288 wx
 have hnm:=fun wx=>zdI u.mdl wx hmd
 have HP0:=zzH hp;have HLT0:=zzH hlits;have HCAP:=zzH hcap;clear hp hlits hcap hmd;have hbx:=zdQ w u lo fo go co lc fc gc cc;have hba:Below w.heap.size w (w.alloc (.cells (zzu u lo lc fo fc go gc co cc) 28)):=(zzR _ _).alloc (zzL _) _;go_in;go_upto_region 1 with fail;generalize w.alloc (.cells (zzu u lo lc fo fc go gc co cc) 28)=W at *;have HBA:=zzH hba;have HP:=zzH (HP0.out.below hba);have HLT:=zzH (HLT0.out.tms hba);clear hba HP0 HLT0;generalize hBz:w.heap.size=B at *;have HBZ:=zzH hBz;clear hBz;have HFIN:Hid (∀wx,Below W.heap.size W wx->Below B w wx):=zzH (fun wx hh=>HBA.out.trans (hh.mono (by have:=HBA.out.size;have:=HBZ.out;omega)));have HU:=zzH hbx;have c0:=hbx.c0;have c1:=hbx.c1;have c2:=hbx.c2;have c3:=hbx.c3;have c4:=hbx.c4;have c5:=hbx.c5;have hlu:=hbx.lt;clear hbx;generalize zgx u=ta at *;have HTA:=zzH hta;clear hta;go_cut [48] (fun s wx=> ∃n1:Bool,s= .bool n1/\Hid (n1= !ta)/\W=wx)
 case first=>
  generalize zB u.mdl=nm at *;generalize wi u.code.length 1 524288=wc at *
  cases nm with
  |false=>
   have E:Hid (true= !ta):=zzH (by rw [HTA.out];rfl);exact zz190
  |true=>
   by_cases v1:u.vsn<1
   ·have E:Hid (true= !ta):=zzH (by rw [HTA.out,decide_eq_false (by omega: ¬(1<=u.vsn))];rfl)
    exact zz190
   have d1:decide (1<=u.vsn)=true:=zzT (by omega);by_cases v2:2147483647<u.vsn
   ·have E:Hid (true= !ta):=zzH (by rw [HTA.out,d1,decide_eq_false (by omega: ¬(u.vsn<=2147483647))];rfl)
    clear d1;exact zz190
   have d2:decide (u.vsn<=2147483647)=true:=zzT (by omega);by_cases n1:65535<u.lits.length
   ·have E:Hid (true= !ta):=zzH (by rw [HTA.out,d1,d2,decide_eq_false (by omega: ¬(u.lits.length<=65535))];cases wc<;>rfl)
    have n1':(65535:Int)<(u.lits.length:Int):=by omega
    clear d1 d2;exact zz190
   have d3:decide (u.lits.length<=65535)=true:=zzT (by omega);by_cases n2:200<u.funcs.length
   ·have E:Hid (true= !ta):=zzH (by rw [HTA.out,d1,d2,d3,decide_eq_false (by omega: ¬(u.funcs.length<=200))];cases wc<;>rfl)
    have n1':(u.lits.length:Int)<=65535:=by omega
    have n2':(200:Int)<(u.funcs.length:Int):=by omega
    clear d1 d2 d3;exact zz190
   have d4:decide (u.funcs.length<=200)=true:=zzT (by omega);by_cases n3:1000<u.funs.length
   ·have E:Hid (true= !ta):=zzH (by rw [HTA.out,d1,d2,d3,d4,decide_eq_false (by omega: ¬(u.funs.length<=1000))];cases wc<;>rfl)
    have n1':(u.lits.length:Int)<=65535:=by omega
    have n2':(u.funcs.length:Int)<=200:=by omega
    have n3':(1000:Int)<(u.funs.length:Int):=by omega
    clear d1 d2 d3 d4;exact zz190
   have d5:decide (u.funs.length<=1000)=true:=zzT (by omega);have E:Hid ((!wc)= !ta):=zzH (by rw [HTA.out,d1,d2,d3,d4,d5];cases wc<;>rfl);have n1':(u.lits.length:Int)<=65535:=by omega
   have n2':(u.funcs.length:Int)<=200:=by omega
   have n3':(u.funs.length:Int)<=1000:=by omega
   clear d1 d2 d3 d4 d5
   cases wc with
   |false=>
    go_wp2_with (first|(go_at_call 98;refine(hnm _).mono ?_;rintro e w1 ⟨rfl,rfl⟩)|(go_at_call 99;refine(hwc _).mono ?_;rintro e w1 ⟨rfl,rfl⟩));go_meet
    case rel=>exact⟨_,rfl,E,rfl⟩
   |true=>
    go_wp2_with (first|(go_at_call 98;refine(hnm _).mono ?_;rintro e w1 ⟨rfl,rfl⟩)|(go_at_call 99;refine(hwc _).mono ?_;rintro e w1 ⟨rfl,rfl⟩));go_meet
    case rel=>exact⟨_,rfl,zzH (by rw [decide_eq_false (by omega: ¬u.vsn<1),decide_eq_false (by omega: ¬2147483647<u.vsn),decide_eq_false (by omega: ¬(65535:Int)<(u.lits.length:Int)),decide_eq_false (by omega: ¬(200:Int)<(u.funcs.length:Int)),decide_eq_false (by omega: ¬(1000:Int)<(u.funs.length:Int))];exact E.out),rfl⟩
 case rest=>
  obtain⟨n1,rfl,hn1,rfl⟩:=hcut;clear HTA hwc hnm
  cases ta with
  |false=>
   exact zz186
  |true=>
   obtain rfl:n1=false:=hn1.out;have HE1:Hid (zba (f+1) u=(u.lits.all (zD (f+1))&&(zdR ((u.code.length:Int)-1) u.funcs&&u.funs.all (zcK ((u.code.length:Int)-1))))):=zzH (by rw [HE.out,Bool.true_and]);have HK0:Hid (u.lits.all (zD (f+1))=(u.lits.drop 0).all (zD (f+1))):=zzH rfl;clear HE;go_wp2_with fail;go_loopw [3] (fun i wr=> ∃k:Nat,k<=u.lits.length/\i= .int .i64 k/\Hid (u.lits.all (zD (f+1))=(u.lits.drop k).all (zD (f+1)))/\Below W.heap.size W wr) (fun i _=>u.lits.length-(intOf i).toNat)
   case atStart=>exact⟨0,zzZ _,rfl,HK0,zzR _ _⟩
   case round=>
    obtain⟨k,hk,rfl,HK,hBw⟩:=hrel;rename World=>wr
    clear c0 c1 c2 c3 c4 c5 hlu;have hur:=HU.out.below hBw;have HBWR:=zzH hBw;have c2:=hur.c2;have c3:=hur.c3;have hlu:=hur.lt;clear hur hBw;by_cases hlt:k<u.lits.length
    ·obtain⟨b2,off2,ai,ci,hlo,hb2,p0,p1,p2,p3,p4,p5,p6,p7,p8,hit,hok⟩:=(HLT.out.tms HBWR.out).tm hlt
     subst hlo;have hv:=zen f u.lits[k] ai ci wr hit hok (HCAP.out _ (List.getElem_mem hlt));have HSTP:=zzH (zgq (p:=zD (f+1)) hlt);clear hit hok;generalize zD (f+1) u.lits[k]=vv at *;generalize u.lits[k]=t at *
     cases vv with
     |false=>
      have E:Hid (zba (f+1) u=false):=zzH (by rw [HE1.out,HK.out,HSTP.out];rfl);go_wp2_with fail;refine hv.mono ?_;rintro e w5 ⟨rfl,hb5⟩;go_wp2_with fail;go_ret;exact⟨zr E.out.symm,by rw [HBZ.out];exact HFIN.out _ (ze HBWR.out hb5)⟩
     |true=>
      have HK2:Hid (u.lits.all (zD (f+1))=(u.lits.drop (k+1)).all (zD (f+1))):=zzH (by rw [HK.out,HSTP.out,Bool.true_and]);go_wp2_with fail;refine hv.mono ?_;rintro e w5 ⟨rfl,hb5⟩;go_wp2_with fail;go_roundw
      case rel=>exact⟨k+1,by omega,by go_num,HK2,ze HBWR.out hb5⟩
      case measure=>simp [intOf];omega
    ·have HE2:Hid (zba (f+1) u=(zdR ((u.code.length:Int)-1) u.funcs&&u.funs.all (zcK ((u.code.length:Int)-1)))):=zzH (by rw [HE1.out,HK.out,zzq6 (by omega)];rfl)
     have HF0:Hid (∀j,(h:j<u.funcs.length)->j<0->zel ((u.code.length:Int)-1) u.funcs[j]=true/\zcy (u.funcs.take j) u.funcs[j].name u.funcs[j].arity=false):=zzH (fun j h hj=>absurd hj (Nat.not_lt_zero _));clear HE1 HK;obtain⟨wo,rfl⟩: ∃wo:World,wo=wr:=⟨_,rfl⟩;go_wp2_with fail;go_loopw [4,5,6,7] (fun i _ _ _ wq=> ∃k:Nat,k<=u.funcs.length/\i= .int .i64 k/\Hid (∀j,(h:j<u.funcs.length)->j<k->zel ((u.code.length:Int)-1) u.funcs[j]=true/\zcy (u.funcs.take j) u.funcs[j].name u.funcs[j].arity=false)/\Below W.heap.size W wq) (fun i _ _ _ _=>u.funcs.length-(intOf i).toNat)
     case atStart=>exact⟨0,zzZ _,rfl,HF0,HBWR.out⟩
     case round=>
      obtain⟨k,hk,rfl,HK,hBq⟩:=hrel;rename World=>wr
      clear c2 c3 hlu HBWR HF0;have hur:=HU.out.below hBq;have HBQ:=zzH hBq;have c3:=hur.c3;have c4:=hur.c4;have c5:=hur.c5;have hlu:=hur.lt;by_cases hlt:k<u.funcs.length
      ·obtain⟨b1,off1,hfo,hb1,s0,s1,s2,s3,t0,t1,t2⟩:=(HP.out.funcs.mono hBq fun _ _ h=>h).func hlt
       subst hfo;obtain⟨j,hj1,hj2,hj3⟩:=zpD u.funcs k hlt;have hfn:zel ((u.code.length:Int)-1) u.funcs[k]=(zB u.funcs[k].name&&(wi u.funcs[k].arity 0 16&&wi u.funcs[k].entry 0 ((u.code.length:Int)-1))):=rfl;have hbox:=heap_alloc_new wr (.cells #[.string u.funcs[k].name,.int .i64 u.funcs[k].arity,.bool u.funcs[k].pub,.int .i64 u.funcs[k].entry] 51);have hbxb:Below wr.heap.size wr (wr.alloc (.cells #[.string u.funcs[k].name,.int .i64 u.funcs[k].arity,.bool u.funcs[k].pub,.int .i64 u.funcs[k].entry] 51)):=(zzR _ _).alloc (zzL _) _;have hfi:=znR u lo (some ⟨b1,off1,none⟩) go co lc fc gc cc u.funcs[k].name u.funcs[k].arity _ (HP.out.below (hBq.trans (hbxb.mono hBq.size)));rw [hj1]at hfi;have hNO:(zel ((u.code.length:Int)-1) u.funcs[k]=false∨zcy (u.funcs.take k) u.funcs[k].name u.funcs[k].arity=true)->zba (f+1) u=false:=fun h=>by rw [HE2.out,ziX hlt h];rfl
       have hYES:zel ((u.code.length:Int)-1) u.funcs[k]=true->zcy (u.funcs.take k) u.funcs[k].name u.funcs[k].arity=false-> ∀j,(h:j<u.funcs.length)->j<k+1->zel ((u.code.length:Int)-1) u.funcs[j]=true/\zcy (u.funcs.take j) u.funcs[j].name u.funcs[j].arity=false:=fun h1 h2 j h hj=>by
        rcases Nat.lt_or_ge j k with h3|h3
        ·exact HK.out j h h3
        ·obtain rfl:j=k:=by omega
         exact⟨h1,h2⟩
       rw [hj3]at hNO hYES;rw [hfn]at hNO hYES;have HNO:=zzH hNO;have HYES:=zzH hYES;have HFI:=zzH hfi;have hwr1:IntKind.i64.wrap ((u.code.length:Int)-1)=(u.code.length:Int)-1:=by rw [zzq3];omega
       have hn:=fun wx=>zdI u.funcs[k].name wx t0
       have hw1:=fun wx=>zO u.funcs[k].arity 0 16 wx
       have hw2:=fun wx=>zO u.funcs[k].entry 0 ((u.code.length:Int)-1) wx
       have HUX:=zzH (hur.below hbxb);have HBX:=zzH hbxb;have HBOX:=zzH hbox;clear hNO hYES hj1 hj3 hfn hfi hbxb hbox hur hBq t0 t1 t2;generalize zhi u.funcs[k].name u.funcs[k].arity u.funcs=fb at *;generalize zB u.funcs[k].name=nb at *;generalize wi u.funcs[k].arity 0 16=ab at *;generalize wi u.funcs[k].entry 0 ((u.code.length:Int)-1)=eb at *;generalize u.funcs[k]=fn at *;obtain⟨fnm,far,fpb,fen⟩:=fn;simp only at *
       cases nb with
       |false=>
        exact zz189
       |true=>
        cases ab with
        |false=>
         exact zz189
        |true=>
         cases eb with
         |false=>
          exact zz189
         |true=>
          have u0:=HUX.out.c0;have u1:=HUX.out.c1;have u2:=HUX.out.c2;have u3:=HUX.out.c3;have u4:=HUX.out.c4;have u5:=HUX.out.c5;by_cases hjk:j<k
          ·have E:=zzH (HNO.out (.inr (zzT hjk)))
           have hjk':(j:Int)<(k:Int):=by omega
           go_wp2_with (first|(go_at_call 98;refine(hn _).mono ?_;rintro e w1 ⟨rfl,rfl⟩)|(go_at_call 99;first|((with_reducible refine(hw1 _).mono ?_);rintro e w1 ⟨rfl,rfl⟩)|((with_reducible refine(hw2 _).mono ?_);rintro e w1 ⟨rfl,rfl⟩)));refine HFI.out.mono ?_;rintro e w5 ⟨rfl,hb5⟩;go_wp2_with fail;go_ret;exact⟨zr E.out.symm,by rw [HBZ.out];exact HFIN.out _ (HBQ.out.trans ((ze HBX.out hb5).mono HBQ.out.size))⟩
          ·have HK2:=zzH (HYES.out rfl (zzD hjk))
           have hjk':(k:Int)<=(j:Int):=by omega
           go_wp2_with (first|(go_at_call 98;refine(hn _).mono ?_;rintro e w1 ⟨rfl,rfl⟩)|(go_at_call 99;first|((with_reducible refine(hw1 _).mono ?_);rintro e w1 ⟨rfl,rfl⟩)|((with_reducible refine(hw2 _).mono ?_);rintro e w1 ⟨rfl,rfl⟩)));refine HFI.out.mono ?_;rintro e w5 ⟨rfl,hb5⟩;go_wp2_with fail;go_roundw
           case rel=>exact⟨k+1,by omega,by go_num,HK2,HBQ.out.trans ((ze HBX.out hb5).mono HBQ.out.size)⟩
           case measure=>simp [intOf];omega
      ·have HE3:Hid (zba (f+1) u=u.funs.all (zcK ((u.code.length:Int)-1))):=zzH (by rw [HE2.out,zmY (fun j h=>HK.out j h (by omega)),Bool.true_and])
       have HG0:Hid (u.funs.all (zcK ((u.code.length:Int)-1))=(u.funs.drop 0).all (zcK ((u.code.length:Int)-1))):=zzH rfl;clear HE2 HK hur hBq;obtain⟨wo,rfl⟩: ∃wo:World,wo=wr:=⟨_,rfl⟩;go_wp2_with fail;go_loopw [8,9] (fun i _ wq=> ∃k:Nat,k<=u.funs.length/\i= .int .i64 k/\Hid (u.funs.all (zcK ((u.code.length:Int)-1))=(u.funs.drop k).all (zcK ((u.code.length:Int)-1)))/\Below W.heap.size W wq) (fun i _ _=>u.funs.length-(intOf i).toNat)
       case atStart=>exact⟨0,zzZ _,rfl,HG0,HBQ.out⟩
       case round=>
        obtain⟨k,hk,rfl,HK,hBq⟩:=hrel;rename World=>wr
        clear c3 c4 c5 hlu HBQ HG0;have hur:=HU.out.below hBq;have HBQ:=zzH hBq;have c4:=hur.c4;have c5:=hur.c5;have hlu:=hur.lt;by_cases hlt:k<u.funs.length
        ·obtain⟨b1,off1,hfo,hb1,s0,s1,s2,t0,t1,t2⟩:=(HP.out.funs.mono hBq fun _ _ h=>h).fn hlt
         subst hfo;have HSTP:Hid ((u.funs.drop k).all (zcK ((u.code.length:Int)-1))=((wi u.funs[k].arity 0 16&&(wi u.funs[k].free 0 200&&wi u.funs[k].entry 0 ((u.code.length:Int)-1)))&&(u.funs.drop (k+1)).all (zcK ((u.code.length:Int)-1)))):=zzH (by rw [List.drop_eq_getElem_cons hlt,List.all_cons];rfl);have hbxb:Below wr.heap.size wr (wr.alloc (.cells #[.int .i64 u.funs[k].arity,.int .i64 u.funs[k].free,.int .i64 u.funs[k].entry] 55)):=(zzR _ _).alloc (zzL _) _;have hwr1:IntKind.i64.wrap ((u.code.length:Int)-1)=(u.code.length:Int)-1:=by rw [zzq3];omega
         have hw1:=fun wx=>zO u.funs[k].arity 0 16 wx
         have hw2:=fun wx=>zO u.funs[k].free 0 200 wx
         have hw3:=fun wx=>zO u.funs[k].entry 0 ((u.code.length:Int)-1) wx
         have HBX:=zzH hbxb;clear hbxb hur hBq t0 t1 t2;generalize wi u.funs[k].arity 0 16=ab at *;generalize wi u.funs[k].free 0 200=fb at *;generalize wi u.funs[k].entry 0 ((u.code.length:Int)-1)=eb at *;generalize u.funs[k]=fn at *;obtain⟨far,ffr,fen⟩:=fn;simp only at *
         cases ab with
         |false=>
          exact zz188
         |true=>
          cases fb with
          |false=>
           exact zz188
          |true=>
           cases eb with
           |false=>
            exact zz188
           |true=>
            have HK2:Hid (u.funs.all (zcK ((u.code.length:Int)-1))=(u.funs.drop (k+1)).all (zcK ((u.code.length:Int)-1))):=zzH (by rw [HK.out,HSTP.out];rfl);go_wp2_with (go_at_call 99;first|((with_reducible refine(hw1 _).mono ?_);rintro e w1 ⟨rfl,rfl⟩)|((with_reducible refine(hw2 _).mono ?_);rintro e w1 ⟨rfl,rfl⟩)|((with_reducible refine(hw3 _).mono ?_);rintro e w1 ⟨rfl,rfl⟩));go_roundw
            case rel=>exact⟨k+1,by omega,by go_num,HK2,HBQ.out.trans (HBX.out.mono HBQ.out.size)⟩
            case measure=>simp [intOf];omega
        ·have E:Hid (zba (f+1) u=true):=zzH (by rw [HE3.out,HK.out,zzq6 (by omega)];rfl)
         clear hur hBq;go_wp2_with fail;go_ret;exact⟨zr E.out.symm,by rw [HBZ.out];exact HFIN.out _ HBQ.out⟩
theorem zp4 (w:World) (n:Int) (h0:0<=n) (h9:n<=9):(convert 74 9 (.slice (some ⟨w.heap.size,0,none⟩) 1 1)).run Tryz.prog (w.alloc (.cells #[.int .u8 (48+n)] 5))= .ok (.string ⟨#[UInt8.ofNat (48+n.toNat)]⟩) (w.alloc (.cells #[.int .u8 (48+n)] 5)):=by
 have:=run_convert_bytes_back (P:=Tryz.prog) (w.alloc (.cells #[.int .u8 (48+n)] 5)) 74 9 5 ⟨w.heap.size,0,none⟩ 1 [UInt8.ofNat (48+n.toNat)] Tryz.underlying74 Tryz.underlying5 Tryz.underlying9 (fun j hj=>by
  have hj0:j=0:=by simp at hj;exact hj
  subst hj0;have ha:(⟨w.heap.size,0,none⟩:Addr).add 0=⟨w.heap.size,0,none⟩:=by unfold Addr.add;split<;>simp_all
  rw [ha,zzq2 _ _ _ _ _ _ (heap_alloc_new _ _)];have:((UInt8.ofNat (48+n.toNat)).toNat:Int)=48+n:=by rw [UInt8.toNat_ofNat'];omega
  simp only [List.getElem_cons_zero];rw [this]
  rfl)
 exact this
theorem zeR (s:ByteArray) (n:Int) (w:World) (hs:s.size<=maxLen):Calls Tryz.prog 103 #[.string s,.int .i64 n] w fun e w'=>e= .returned (.int .i64 (zdh s n))/\Below w.heap.size w w':=by
 have hn:=zdI s w hs;have HC:Hid (¬(zB s=true/\0<=n/\n<=9)->zdh s n=0):=zzH (fun h=>by unfold zdh;rw [if_neg h])
 cases hv:zB s with
 |false=>
  have E:Hid (zdh s n=0):=zzH (HC.out (by rw [hv];simp));rw [hv]at hn;exact zz194
 |true=>
  rw [hv]at hn;by_cases h0:n<0
  ·have E:Hid (zdh s n=0):=zzH (HC.out (by rintro⟨_,h,_⟩;omega))
   exact zz194
  ·by_cases h9:9<n
   ·have E:Hid (zdh s n=0):=zzH (HC.out (by rintro⟨_,_,h⟩;omega))
    exact zz194
   ·have hz:s.size<=32:=(by unfold zB at hv;rw [Bool.and_eq_true,Bool.and_eq_true,decide_eq_true_eq,decide_eq_true_eq]at hv;exact hv.1.2)
    have HV:=zzH hv;have hcv:=zp4 w n (by omega) (by omega);clear hv HC;go_in;go_upto_region 4 with(go_at_call 98;refine hn.mono ?_;rintro e w1 ⟨rfl,rfl⟩);clear hcv hn
    have hwd:((({data:=#[32]}:ByteArray)++s++ {data:=#[47]}++ {data:=#[48+UInt8.ofNat n.toNat]}++ {data:=#[32]}):ByteArray).data.toList=32::(zcg s n.toNat++ [32]):=by
     unfold zcg;simp
    have hws:((({data:=#[32]}:ByteArray)++s++ {data:=#[47]}++ {data:=#[48+UInt8.ofNat n.toNat]}++ {data:=#[32]}):ByteArray).size<=100:=by
     have:=congrArg List.length hwd;unfold zcg at this;simp only [Array.length_toList,zzq13,zzq1,List.length_nil]at this;show _<=_;have e:s.data.size=s.size:=rfl;rw [e]at this;exact zzY (Nat.le_of_eq this) (by omega)
    have HWD:=zzH hwd;generalize((({data:=#[32]}:ByteArray)++s++ {data:=#[47]}++ {data:=#[48+UInt8.ofNat n.toNat]}++ {data:=#[32]}):ByteArray)=W at *;have HB:Hid (Below w.heap.size w (w.alloc (.cells #[.int .u8 (48+n)] 5))):=zzH ((zzR _ _).alloc (zzL _) _);have HCL:Hid (zdh s n=if zcg s n.toNat∈zdS 1 then 1 else if zcg s n.toNat∈zdS 2 then 2 else if zcg s n.toNat∈zdS 3 then 3 else if zcg s n.toNat∈zdS 4 then 4 else 0):=zzH (by unfold zdh;rw [if_pos ⟨HV.out,by omega,by omega⟩];rfl);have HHO:Hid (∀c,1<=c/\c<=4->zd2 (ziq c) W.data.toList=decide (zcg s n.toNat∈zdS c)):=zzH (fun c hc=>by rw [HWD.out];exact zmu HV.out (by omega) hc);clear hwd;generalize w.alloc (.cells #[.int .u8 (48+n)] 5)=Wa at *;go_wp2_with fail;go_loop [6] (fun cv=> ∃c:Nat,1<=c/\c<=5/\cv= .int .i64 c/\Hid (∀j,1<=j->j<c->zcg s n.toNat∉zdS j)) (fun cv=>5-(intOf cv).toNat)
    case atStart=>exact⟨1,by decide,by decide,by go_num,zzH (fun j h1 h2=>by omega)⟩
    case round=>
     obtain⟨c,hc1,hc5,rfl,HK⟩:=hrel;by_cases hlt:c<=4
     ·have hna:=zl4 c ⟨hc1,hlt⟩ Wa
      have hho:=znj (zgj c) W Wa (zzY (zkD c hlt) (by decide)) (by omega)
      have hq:zd2 (zgj c).data.toList W.data.toList=decide (zcg s n.toNat∈zdS c):=by
       have e:(zgj c).data.toList=ziq c:=by unfold zgj;simp
       rw [e];exact HHO.out c ⟨hc1,hlt⟩
      rw [hq]at hho;clear hq;by_cases hm:zcg s n.toNat∈zdS c
      ·have E:Hid (zdh s n=c):=zzH (by
        rw [HCL.out];have n1:=HK.out 1;have n2:=HK.out 2;have n3:=HK.out 3;rcases(show c=1∨c=2∨c=3∨c=4 by omega)with rfl|rfl|rfl|rfl
        ·rw [if_pos hm];rfl
        ·rw [if_neg (n1 (by decide) (by decide)),if_pos hm];rfl
        ·rw [if_neg (n1 (by decide) (by decide)),if_neg (n2 (by decide) (by decide)),if_pos hm];rfl
        ·rw [if_neg (n1 (by decide) (by decide)),if_neg (n2 (by decide) (by decide)),if_neg (n3 (by decide) (by decide)),if_pos hm];rfl)
       rw [decide_eq_true hm]at hho;clear hm;go_wp2_with fail;refine hna.mono ?_;rintro e w1 ⟨rfl,rfl⟩;go_wp2_with fail;refine hho.mono ?_;rintro e w1 ⟨rfl,rfl⟩;go_wp2_with fail;go_ret;exact⟨zdl E.out.symm,HB.out⟩
      ·have HN2:Hid (∀j,1<=j->j<c+1->zcg s n.toNat∉zdS j):=zzH (fun j h1 h2=>by
        rcases Nat.eq_or_lt_of_le (Nat.le_of_lt_succ h2)with e|e
        ·subst e;exact hm
        ·exact HK.out j h1 e)
       rw [decide_eq_false hm]at hho;clear hm;go_wp2_with fail;refine hna.mono ?_;rintro e w1 ⟨rfl,rfl⟩;go_wp2_with fail;refine hho.mono ?_;rintro e w1 ⟨rfl,rfl⟩;go_wp2_with fail;go_round
       case rel=>exact⟨c+1,by omega,by omega,by go_num,HN2⟩
       case measure=>simp [intOf];omega
     ·have E:Hid (zdh s n=0):=zzH (by
       rw [HCL.out,if_neg (HK.out 1 (by decide) (by omega)),if_neg (HK.out 2 (by decide) (by omega)),if_neg (HK.out 3 (by decide) (by omega)),if_neg (HK.out 4 (by decide) (by omega))])
      go_wp2_with fail;go_ret;exact⟨zdl E.out.symm,HB.out⟩
end Go.Proofs.YtlaabicdhkebbaaGreatDoor
