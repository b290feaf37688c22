/- part 2 -/
import Derived.Test.YtlaabicdhkebbaaGreatDoorGetsAll01
namespace Go.Proofs.YtlaabicdhkebbaaGreatDoor
open Go.RowKit
set_option linter.unusedVariables false
set_option linter.unusedSimpArgs false
set_option maxRecDepth 100000
set_option maxHeartbeats 80000000
def opTwo:List (List UInt8):=[[43],[42],[100,105,118],[114,101,109],[98,97,110,100],[98,111,114],[98,120,111,114],[98,115,108],[98,115,114],[97,110,100],[111,114],[120,111,114],[61,58,61],[61,47,61],[60],[61,60],[62],[62,61],[43,43]]
def zT (s:ByteArray) (n:Int):Bool:=
 if s.toList== [45]then n==1||n==2 else if s.toList== [98,110,111,116]||s.toList== [110,111,116]then n==1 else if opTwo.any (fun x=>s.toList==x)then n==2 else false
theorem zgY (s:ByteArray) (n:Int) (w:World):Calls Tryz.prog 67 #[.string s,.int .i64 n] w fun e w'=>e= .returned (.bool (zT s n))/\w=w':=by
 cases t0:(s.toList== [45])with
 |true=>
  have E:Hid (zT s n=(n==1||n==2)):=zzH (by unfold zT;rw [t0];rfl)
  cases q1:(n==1)with
  |true=>
   rw [q1]at E;exact zz41
  |false=>
   rw [q1]at E;exact zz41
 |false=>
  cases t1:(s.toList== [98,110,111,116])with
  |true=>
    have E:Hid (zT s n=(n==1)):=zzH (by unfold zT;rw [t0,t1];rfl);exact zz41
  |false=>
  cases t2:(s.toList== [110,111,116])with
  |true=>
   have E:Hid (zT s n=(n==1)):=zzH (by unfold zT;rw [t0,t1,t2];rfl);exact zz41
  |false=>
   cases t3:(s.toList== [43])with
   |true=>
     have E:Hid (zT s n=(n==2)):=zzH (by unfold zT opTwo;simp only [List.any_cons,List.any_nil,t0,t1,t2,t3,Bool.false_or,Bool.or_false,Bool.true_or,Bool.or_true,if_true];rfl);exact zz41
   |false=>
   cases t4:(s.toList== [42])with
   |true=>
    have E:Hid (zT s n=(n==2)):=zzH (by unfold zT opTwo;simp only [List.any_cons,List.any_nil,t0,t1,t2,t3,t4,Bool.false_or,Bool.or_false,Bool.true_or,Bool.or_true,if_true];rfl);exact zz41
   |false=>
    cases t5:(s.toList== [100,105,118])with
    |true=>
      have E:Hid (zT s n=(n==2)):=zzH (by unfold zT opTwo;simp only [List.any_cons,List.any_nil,t0,t1,t2,t3,t4,t5,Bool.false_or,Bool.or_false,Bool.true_or,Bool.or_true,if_true];rfl);exact zz41
    |false=>
    cases t6:(s.toList== [114,101,109])with
    |true=>
     have E:Hid (zT s n=(n==2)):=zzH (by unfold zT opTwo;simp only [List.any_cons,List.any_nil,t0,t1,t2,t3,t4,t5,t6,Bool.false_or,Bool.or_false,Bool.true_or,Bool.or_true,if_true];rfl);exact zz41
    |false=>
     cases t7:(s.toList== [98,97,110,100])with
     |true=>
       have E:Hid (zT s n=(n==2)):=zzH (by unfold zT opTwo;simp only [List.any_cons,List.any_nil,t0,t1,t2,t3,t4,t5,t6,t7,Bool.false_or,Bool.or_false,Bool.true_or,Bool.or_true,if_true];rfl);exact zz41
     |false=>
     cases t8:(s.toList== [98,111,114])with
     |true=>
      have E:Hid (zT s n=(n==2)):=zzH (by unfold zT opTwo;simp only [List.any_cons,List.any_nil,t0,t1,t2,t3,t4,t5,t6,t7,t8,Bool.false_or,Bool.or_false,Bool.true_or,Bool.or_true,if_true];rfl);exact zz41
     |false=>
      cases t9:(s.toList== [98,120,111,114])with
      |true=>
        have E:Hid (zT s n=(n==2)):=zzH (by unfold zT opTwo;simp only [List.any_cons,List.any_nil,t0,t1,t2,t3,t4,t5,t6,t7,t8,t9,Bool.false_or,Bool.or_false,Bool.true_or,Bool.or_true,if_true];rfl);exact zz41
      |false=>
      cases t10:(s.toList== [98,115,108])with
      |true=>
       have E:Hid (zT s n=(n==2)):=zzH (by unfold zT opTwo;simp only [List.any_cons,List.any_nil,t0,t1,t2,t3,t4,t5,t6,t7,t8,t9,t10,Bool.false_or,Bool.or_false,Bool.true_or,Bool.or_true,if_true];rfl);exact zz41
      |false=>
       cases t11:(s.toList== [98,115,114])with
       |true=>
         have E:Hid (zT s n=(n==2)):=zzH (by unfold zT opTwo;simp only [List.any_cons,List.any_nil,t0,t1,t2,t3,t4,t5,t6,t7,t8,t9,t10,t11,Bool.false_or,Bool.or_false,Bool.true_or,Bool.or_true,if_true];rfl);exact zz41
       |false=>
       cases t12:(s.toList== [97,110,100])with
       |true=>
        have E:Hid (zT s n=(n==2)):=zzH (by unfold zT opTwo;simp only [List.any_cons,List.any_nil,t0,t1,t2,t3,t4,t5,t6,t7,t8,t9,t10,t11,t12,Bool.false_or,Bool.or_false,Bool.true_or,Bool.or_true,if_true];rfl);exact zz41
       |false=>
        cases t13:(s.toList== [111,114])with
        |true=>
          have E:Hid (zT s n=(n==2)):=zzH (by unfold zT opTwo;simp only [List.any_cons,List.any_nil,t0,t1,t2,t3,t4,t5,t6,t7,t8,t9,t10,t11,t12,t13,Bool.false_or,Bool.or_false,Bool.true_or,Bool.or_true,if_true];rfl);exact zz41
        |false=>
        cases t14:(s.toList== [120,111,114])with
        |true=>
         have E:Hid (zT s n=(n==2)):=zzH (by unfold zT opTwo;simp only [List.any_cons,List.any_nil,t0,t1,t2,t3,t4,t5,t6,t7,t8,t9,t10,t11,t12,t13,t14,Bool.false_or,Bool.or_false,Bool.true_or,Bool.or_true,if_true];rfl);exact zz41
        |false=>
         cases t15:(s.toList== [61,58,61])with
         |true=>
           have E:Hid (zT s n=(n==2)):=zzH (by unfold zT opTwo;simp only [List.any_cons,List.any_nil,t0,t1,t2,t3,t4,t5,t6,t7,t8,t9,t10,t11,t12,t13,t14,t15,Bool.false_or,Bool.or_false,Bool.true_or,Bool.or_true,if_true];rfl);exact zz41
         |false=>
         cases t16:(s.toList== [61,47,61])with
         |true=>
          have E:Hid (zT s n=(n==2)):=zzH (by unfold zT opTwo;simp only [List.any_cons,List.any_nil,t0,t1,t2,t3,t4,t5,t6,t7,t8,t9,t10,t11,t12,t13,t14,t15,t16,Bool.false_or,Bool.or_false,Bool.true_or,Bool.or_true,if_true];rfl);exact zz41
         |false=>
          cases t17:(s.toList== [60])with
          |true=>
            have E:Hid (zT s n=(n==2)):=zzH (by unfold zT opTwo;simp only [List.any_cons,List.any_nil,t0,t1,t2,t3,t4,t5,t6,t7,t8,t9,t10,t11,t12,t13,t14,t15,t16,t17,Bool.false_or,Bool.or_false,Bool.true_or,Bool.or_true,if_true];rfl);exact zz41
          |false=>
          cases t18:(s.toList== [61,60])with
          |true=>
           have E:Hid (zT s n=(n==2)):=zzH (by unfold zT opTwo;simp only [List.any_cons,List.any_nil,t0,t1,t2,t3,t4,t5,t6,t7,t8,t9,t10,t11,t12,t13,t14,t15,t16,t17,t18,Bool.false_or,Bool.or_false,Bool.true_or,Bool.or_true,if_true];rfl);exact zz41
          |false=>
           cases t19:(s.toList== [62])with
           |true=>
             have E:Hid (zT s n=(n==2)):=zzH (by unfold zT opTwo;simp only [List.any_cons,List.any_nil,t0,t1,t2,t3,t4,t5,t6,t7,t8,t9,t10,t11,t12,t13,t14,t15,t16,t17,t18,t19,Bool.false_or,Bool.or_false,Bool.true_or,Bool.or_true,if_true];rfl);exact zz41
           |false=>
           cases t20:(s.toList== [62,61])with
           |true=>
            have E:Hid (zT s n=(n==2)):=zzH (by unfold zT opTwo;simp only [List.any_cons,List.any_nil,t0,t1,t2,t3,t4,t5,t6,t7,t8,t9,t10,t11,t12,t13,t14,t15,t16,t17,t18,t19,t20,Bool.false_or,Bool.or_false,Bool.true_or,Bool.or_true,if_true];rfl);exact zz41
           |false=>
            cases t21:(s.toList== [43,43])with
            |true=>
              have E:Hid (zT s n=(n==2)):=zzH (by unfold zT opTwo;simp only [List.any_cons,List.any_nil,t0,t1,t2,t3,t4,t5,t6,t7,t8,t9,t10,t11,t12,t13,t14,t15,t16,t17,t18,t19,t20,t21,Bool.false_or,Bool.or_false,Bool.true_or,Bool.or_true,if_true];rfl);exact zz41
            |false=>
            have E:Hid (zT s n=false):=zzH (by unfold zT opTwo;simp only [List.any_cons,List.any_nil,t0,t1,t2,t3,t4,t5,t6,t7,t8,t9,t10,t11,t12,t13,t14,t15,t16,t17,t18,t19,t20,t21,Bool.false_or];rfl);exact zz41
theorem zkZ (x:Int) (w:World):Calls Tryz.prog 182 #[.int .i64 x] w fun e w'=>e= .returned (.bool false)/\w=w':=by
 go_in;go_wp2;go_ret;exact⟨rfl,rfl⟩
theorem ziP (x y:Int) (w:World):Calls Tryz.prog 148 #[.int .i64 x,.int .i64 y] w fun e w'=>e= .returned (.int .i64 (Lib.compareInt x y))/\w=w':=by
 by_cases h1:x<y
 ·have E:Hid (Lib.compareInt x y= -1):=zzH (by unfold Lib.compareInt;rw [if_pos h1])
  exact zz47
 ·by_cases h2:y<x
  ·have E:Hid (Lib.compareInt x y=1):=zzH (by unfold Lib.compareInt;rw [if_neg h1,if_pos h2])
   have h1':y<=x:=by omega
   clear h1;exact zz47
  ·obtain rfl:x=y:=by omega
   have E:Hid (Lib.compareInt x x=0):=zzH (by unfold Lib.compareInt;rw [if_neg h1,if_neg h1]);clear h1 h2;exact zz47
def orL:List Int->Int
 |[]=>0
 |x::l=>if x=0 then orL l else x
theorem zpJ {l:List Int} {k:Nat} (h:k<l.length):orL (l.drop k)=if l[k]=0 then orL (l.drop (k+1))else l[k]:=by rw [List.drop_eq_getElem_cons h,orL]
theorem zsn (l:List Int) (hl:l.length<=1000) (B c:Nat) (w:World) (hc: ∀k (h:k<l.length),w.cell? ⟨B,k,none⟩=some (.int .i64 l[k])):
  Calls Tryz.prog 146 #[.slice (some ⟨B,0,none⟩) l.length c] w fun e w'=>e= .returned (.int .i64 (orL l))/\w=w':=by
 have HC:=zzH hc;have HI:Hid (orL l=orL (l.drop 0)):=zzH rfl;clear hc;go_in;go_wp2_with fail;go_loop [5,8] (fun _ i=> ∃k:Nat,k<=l.length/\i= .int .i64 k/\Hid (orL l=orL (l.drop k))) (fun _ i=>l.length-(intOf i).toNat)
 case atStart=>exact⟨0,zzZ _,rfl,HI⟩
 case round=>
  obtain⟨k,hk,rfl,HK⟩:=hrel;by_cases hlt:k<l.length
  ·have hcell:=HC.out k hlt
   have HD:=zzH (zpJ hlt);generalize l[k]=x at *;by_cases hx:x=0
   ·have HK2:Hid (orL l=orL (l.drop (k+1))):=zzH (by rw [HK.out,HD.out,if_pos hx])
    have hb : (x != 0) = false := by rw [hx]; rfl
    clear hx;go_wp2;go_round
    case rel=>exact⟨k+1,by omega,by go_num,HK2⟩
    case measure=>simp [intOf];omega
   ·have E:Hid (orL l=x):=zzH (by rw [HK.out,HD.out,if_neg hx])
    have hb : (x != 0) = true := by rw [bne_iff_ne]; exact hx
    clear hx;go_wp2;go_ret;exact⟨zdl E.out.symm,rfl⟩
  ·have E:Hid (orL l=0):=zzH (by rw [HK.out,zzq6 (by omega)];rfl)
   go_wp2;go_ret;exact⟨zdl E.out.symm,rfl⟩
theorem zqs (ao bo:Option Addr) (c d:Nat) (v:Value) (w:World):
  Calls Tryz.prog 179 #[.slice ao 0 c,.slice bo 0 d,v] w fun e w'=>e= .returned (.int .i64 0)/\w=w':=by
 go_in;go_wp2_with fail;go_loop [11] (fun i=>i= .int .i64 0) (fun _=>0)
 case atStart=>rfl
 case round=>
  obtain rfl:=hrel;go_wp2_with fail;go_ret;exact⟨rfl,rfl⟩
theorem zot (ao bo:Option Addr) (c d:Nat) (w:World):
  Calls Tryz.prog 143 #[.slice ao 0 c,.slice bo 0 d] w fun e w'=>e= .returned (.int .i64 0)/\w=w':=by
 have hc:=Tryz.cmp_Compare_int 0 0 w;rw [show Lib.compareInt 0 0=0 by decide]at hc;go_in;go_wp2_with fail;refine hc.mono ?_;rintro e w1 ⟨rfl,rfl⟩;go_wp2_with (go_at_call 179;refine(zqs _ _ _ _ _ _).mono ?_;rintro e w2 ⟨rfl,rfl⟩);go_ret;exact⟨rfl,rfl⟩
theorem zpk (w:World) (x1 x2 x3 x4 x5:Int): ∀k (h:k< [x1,x2,x3,x4,x5].length),(w.alloc (.cells #[.int .i64 x1,.int .i64 x2,.int .i64 x3,.int .i64 x4,.int .i64 x5] 3)).drew.cell? ⟨w.heap.size,k,none⟩=some (.int .i64 [x1,x2,x3,x4,x5][k]):=fun k h=>by
 have hr:=heap_alloc_new w (.cells #[.int .i64 x1,.int .i64 x2,.int .i64 x3,.int .i64 x4,.int .i64 x5] 3);have hc:=zzq2 _ _ k _ _ _ hr;refine Eq.trans (show _=(w.alloc (.cells #[.int .i64 x1,.int .i64 x2,.int .i64 x3,.int .i64 x4,.int .i64 x5] 3)).cell? ⟨w.heap.size,k,none⟩from rfl) (hc.trans ?_)
 match k,h with
 |0,_=>rfl
 |1,_=>rfl
 |2,_=>rfl
 |3,_=>rfl
 |4,_=>rfl
 |k+5,h=>exact absurd h (by simp)
def zcA (a b:Tm):Int:=if Lib.compareInt a.kind b.kind=0 then orL [Lib.compareBytes a.name.data.toList b.name.data.toList,Lib.compareBytes a.func.data.toList b.func.data.toList,Lib.compareInt a.gen b.gen,Lib.compareInt a.int b.int,Lib.compareInt a.arity b.arity]else Lib.compareInt a.kind b.kind
theorem zkm (a b:Tm) (ao bo:Option Addr) (c d:Nat) (w:World) (ha:a.items= []) (hb:b.items= []) (h7:a.kind≠7) (h9:a.kind≠9) (h10:a.kind≠10):
  Calls Tryz.prog 125 #[.agg (zzt a ao c),.agg (zzt b bo d)] w fun e w'=>e= .returned (.int .i64 (zcA a b))/\Below w.heap.size w w':=by
 unfold zzt;have hla:a.items.length=0:=by rw [ha];rfl
 have hlb:b.items.length=0:=by rw [hb];rfl
 rw [hla,hlb];have hB:=zU w (.cells #[.int .i64 a.kind,.int .i64 a.int,.int .i64 a.gen,.string a.name,.string a.func,.int .i64 a.arity,.slice ao 0 c,.string a.bytes,.int .i64 a.bits] 47) (.cells #[.int .i64 b.kind,.int .i64 b.int,.int .i64 b.gen,.string b.name,.string b.func,.int .i64 b.arity,.slice bo 0 d,.string b.bytes,.int .i64 b.bits] 47);have r0:=zem w (.cells #[.int .i64 a.kind,.int .i64 a.int,.int .i64 a.gen,.string a.name,.string a.func,.int .i64 a.arity,.slice ao 0 c,.string a.bytes,.int .i64 a.bits] 47) (.cells #[.int .i64 b.kind,.int .i64 b.int,.int .i64 b.gen,.string b.name,.string b.func,.int .i64 b.arity,.slice bo 0 d,.string b.bytes,.int .i64 b.bits] 47);have r1:=zd0 w (.cells #[.int .i64 a.kind,.int .i64 a.int,.int .i64 a.gen,.string a.name,.string a.func,.int .i64 a.arity,.slice ao 0 c,.string a.bytes,.int .i64 a.bits] 47) (.cells #[.int .i64 b.kind,.int .i64 b.int,.int .i64 b.gen,.string b.name,.string b.func,.int .i64 b.arity,.slice bo 0 d,.string b.bytes,.int .i64 b.bits] 47);have hcmp:=fun wx=>Tryz.cmp_Compare_int a.kind b.kind wx
 have E0:Hid (zcA a b=if Lib.compareInt a.kind b.kind=0 then orL [Lib.compareBytes a.name.data.toList b.name.data.toList,Lib.compareBytes a.func.data.toList b.func.data.toList,Lib.compareInt a.gen b.gen,Lib.compareInt a.int b.int,Lib.compareInt a.arity b.arity]else Lib.compareInt a.kind b.kind):=zzH rfl;have HB:=zzH hB;clear hla hlb ha hb;generalize hk:Lib.compareInt a.kind b.kind=kk at *;by_cases hz:kk=0
 ·subst hz
  rw [if_pos rfl]at E0;have hs1: ∀wx,Calls Tryz.prog 147 #[.string a.name,.string b.name] wx fun e w'=>e= .returned (.int .i64 (Lib.compareBytes a.name.data.toList b.name.data.toList))/\wx=w':=fun wx=>(Tryz.strings_Compare _ _ wx).mono fun _ _ ⟨h,h'⟩=>⟨h,h'.symm⟩
  have hs2: ∀wx,Calls Tryz.prog 147 #[.string a.func,.string b.func] wx fun e w'=>e= .returned (.int .i64 (Lib.compareBytes a.func.data.toList b.func.data.toList))/\wx=w':=fun wx=>(Tryz.strings_Compare _ _ wx).mono fun _ _ ⟨h,h'⟩=>⟨h,h'.symm⟩
  have hs3:=fun wx=>ziP a.gen b.gen wx
  have hs4:=fun wx=>ziP a.int b.int wx
  have hs5: ∀wx,Calls Tryz.prog 142 #[.int .i64 a.arity,.int .i64 b.arity] wx fun e w'=>e= .returned (.int .i64 (Lib.compareInt a.arity b.arity))/\wx=w':=fun wx=>(Tryz.cmp_Compare_int _ _ wx).mono fun _ _ ⟨h,h'⟩=>⟨h,h'.symm⟩
  generalize Lib.compareBytes a.name.data.toList b.name.data.toList=x1 at *;generalize Lib.compareBytes a.func.data.toList b.func.data.toList=x2 at *;generalize Lib.compareInt a.gen b.gen=x3 at *;generalize Lib.compareInt a.int b.int=x4 at *;generalize Lib.compareInt a.arity b.arity=x5 at *;have t7:(a.kind==7)=false:=zzB.2 h7;have t9:(a.kind==9)=false:=zzB.2 h9;have t10:(a.kind==10)=false:=zzB.2 h10;clear h7 h9 h10 hk;go_in;go_upto_region 11 with((go_at_call 142;refine(hcmp _).mono ?_;rintro e w1 ⟨rfl,rfl⟩));generalize(w.alloc (.cells #[.int .i64 a.kind,.int .i64 a.int,.int .i64 a.gen,.string a.name,.string a.func,.int .i64 a.arity,.slice ao 0 c,.string a.bytes,.int .i64 a.bits] 47)).alloc (.cells #[.int .i64 b.kind,.int .i64 b.int,.int .i64 b.gen,.string b.name,.string b.func,.int .i64 b.arity,.slice bo 0 d,.string b.bytes,.int .i64 b.bits] 47)=W at *;obtain⟨q0,q1,q2,q3,q4,q5,q6,q7,q8,zq⟩:=zf r0;obtain⟨p0,p1,p2,p3,p4,p5,p6,p7,p8,zp⟩:=zf r1;have hl0:=zc r0;have hl1:=zc r1;clear zq zp r0 r1;generalize hBe:w.heap.size=B at *;have HBE:=zzH hBe;clear hBe;have SK0:=zzH (zbl (zzR W.heap.size W).drew);have SK1:=zzH (zbl ((zzR W.heap.size W).alloc (zzL _) (.cells #[.int .i64 x1,.int .i64 x2,.int .i64 x3,.int .i64 x4,.int .i64 x5] 3)).drew);have HC:=zzH (zpk W x1 x2 x3 x4 x5);have hor:=fun(B c:Nat) (wx:World) hc=>zsn [x1,x2,x3,x4,x5] (by simp) B c wx hc
  generalize orL [x1,x2,x3,x4,x5]=r at *;have HOR:=zzH hor;clear hor
  first|go_region_held3 (fun w'=>W.heap.size<=w'.heap.size/\ ∀b o,b<W.heap.size->w'.cell? ⟨b,o,none⟩=W.cell? ⟨b,o,none⟩) (first|with_reducible exact SK0.out|with_reducible exact SK1.out)
   (first
    |(go_at_call 147;(first|(with_reducible refine(hs1 _).mono ?_)|(with_reducible refine(hs2 _).mono ?_));rintro e w1 ⟨rfl,rfl⟩)
    |(go_at_call 148;(first|(with_reducible refine(hs3 _).mono ?_)|(with_reducible refine(hs4 _).mono ?_));rintro e w1 ⟨rfl,rfl⟩)
    |(go_at_call 142;(with_reducible refine(hs5 _).mono ?_);rintro e w1 ⟨rfl,rfl⟩)
    |(go_at_call 146;refine(HOR.out _ _ _ HC.out).mono ?_;rintro e w1 ⟨rfl,rfl⟩))|fail
  by_cases hr:r=0
  ·have hrb : (r != 0) = false := by rw [hr]; rfl
   have ER:Hid (zcA a b=0):=zzH (E0.out.trans hr);clear hr;go_wp2_with (go_at_call 143;refine(zot _ _ _ _ _).mono ?_;rintro e w2 ⟨rfl,rfl⟩);go_ret;exact⟨zdl ER.out.symm,(by rw [HBE.out];exact(HB.out.alloc (by rw [<-HBE.out];exact HB.out.size) _).drew)⟩
  ·have hrb : (r != 0) = true := by rw [bne_iff_ne]; exact hr
   clear hr;go_wp2_with fail;go_ret;exact⟨zdl E0.out.symm,(by rw [HBE.out];exact(HB.out.alloc (by rw [<-HBE.out];exact HB.out.size) _).drew)⟩
 ·have hnb : (kk != 0) = true := by rw [bne_iff_ne]; exact hz
  rw [if_neg hz]at E0;clear hz hk;go_in;go_wp2_with ((go_at_call 142;refine(hcmp _).mono ?_;rintro e w1 ⟨rfl,hw1⟩;rw [hw1]));go_ret;exact⟨zdl E0.out.symm,HB.out⟩
theorem ziz (f:Nat) (a b:Tm) (ao bo:Option Addr) (c d:Nat) (w:World) (hta:SlAt w 9 (TmAt w f) ao a.items) (htb:SlAt w 9 (TmAt w f) bo b.items) (oa:a.Ok) (ob:b.Ok) (ca:(zR (f+1) a:Int)<=1152921504606846976) (cb:(zR (f+1) b:Int)<=1152921504606846976)
  (va:zD (f+1) a=true) (vb:zD (f+1) b=true) (ha:a.items= []) (hb:b.items= []) (h7:a.kind≠7) (h9:a.kind≠9) (h10:a.kind≠10):
  Calls Tryz.prog 94 #[.agg (zzt a ao c),.agg (zzt b bo d)] w fun e w'=>e= .returned (.int .i64 (zcA a b))/\Below w.heap.size w w':=by
 unfold zzt;have hB:=zU w (.cells #[.int .i64 a.kind,.int .i64 a.int,.int .i64 a.gen,.string a.name,.string a.func,.int .i64 a.arity,.slice ao a.items.length c,.string a.bytes,.int .i64 a.bits] 47) (.cells #[.int .i64 b.kind,.int .i64 b.int,.int .i64 b.gen,.string b.name,.string b.func,.int .i64 b.arity,.slice bo b.items.length d,.string b.bytes,.int .i64 b.bits] 47);have r0:=zem w (.cells #[.int .i64 a.kind,.int .i64 a.int,.int .i64 a.gen,.string a.name,.string a.func,.int .i64 a.arity,.slice ao a.items.length c,.string a.bytes,.int .i64 a.bits] 47) (.cells #[.int .i64 b.kind,.int .i64 b.int,.int .i64 b.gen,.string b.name,.string b.func,.int .i64 b.arity,.slice bo b.items.length d,.string b.bytes,.int .i64 b.bits] 47);have r1:=zd0 w (.cells #[.int .i64 a.kind,.int .i64 a.int,.int .i64 a.gen,.string a.name,.string a.func,.int .i64 a.arity,.slice ao a.items.length c,.string a.bytes,.int .i64 a.bits] 47) (.cells #[.int .i64 b.kind,.int .i64 b.int,.int .i64 b.gen,.string b.name,.string b.func,.int .i64 b.arity,.slice bo b.items.length d,.string b.bytes,.int .i64 b.bits] 47);have hva: ∀wx,Below w.heap.size w wx->Calls Tryz.prog 57 #[.agg #[.int .i64 a.kind,.int .i64 a.int,.int .i64 a.gen,.string a.name,.string a.func,.int .i64 a.arity,.slice ao a.items.length c,.string a.bytes,.int .i64 a.bits]] wx fun e w'=>e= .returned (.bool true)/\Below wx.heap.size wx w':=fun wx hx=>by have h:=zfB f a ao c wx (hta.tms hx) oa ca;rwa [va]at h
 have hvb: ∀wx,Below w.heap.size w wx->Calls Tryz.prog 57 #[.agg #[.int .i64 b.kind,.int .i64 b.int,.int .i64 b.gen,.string b.name,.string b.func,.int .i64 b.arity,.slice bo b.items.length d,.string b.bytes,.int .i64 b.bits]] wx fun e w'=>e= .returned (.bool true)/\Below wx.heap.size wx w':=fun wx hx=>by have h:=zfB f b bo d wx (htb.tms hx) ob cb;rwa [vb]at h
 have hvs:=fun wx=>zkm a b ao bo c d wx ha hb h7 h9 h10
 have HB:=zzH hB;clear hta htb oa ob ca cb va vb ha hb h7 h9 h10 hB;generalize zcA a b=r at *;go_in;go_wp2_with fail;generalize(w.alloc (.cells (zzt a ao c) 47)).alloc (.cells (zzt b bo d) 47)=W at *;obtain⟨q0,q1,q2,q3,q4,q5,q6,q7,q8,zq⟩:=zf r0;obtain⟨p0,p1,p2,p3,p4,p5,p6,p7,p8,zp⟩:=zf r1;have hl0:=zc r0;have hl1:=zc r1;have R0:=zzH r0;have R1:=zzH r1;clear zq zp r0 r1;have HW:=zzH HB.out;generalize hBe:w.heap.size=B at *;have HBE:=zzH hBe;have HB':Hid (Below w.heap.size w W):=zzH (by rw [hBe];exact HB.out);have hva': ∀wx,Below W.heap.size W wx->Calls Tryz.prog 57 #[.agg #[.int .i64 a.kind,.int .i64 a.int,.int .i64 a.gen,.string a.name,.string a.func,.int .i64 a.arity,.slice ao a.items.length c,.string a.bytes,.int .i64 a.bits]] wx fun e w'=>e= .returned (.bool true)/\Below W.heap.size W w':=fun wx hx=>(hva wx (by rw [<-hBe];exact ze HB'.out hx)).mono fun _ _ ⟨h,h'⟩=>⟨h,ze hx h'⟩
 have hvb': ∀wx,Below W.heap.size W wx->Calls Tryz.prog 57 #[.agg #[.int .i64 b.kind,.int .i64 b.int,.int .i64 b.gen,.string b.name,.string b.func,.int .i64 b.arity,.slice bo b.items.length d,.string b.bytes,.int .i64 b.bits]] wx fun e w'=>e= .returned (.bool true)/\Below W.heap.size W w':=fun wx hx=>(hvb wx (by rw [<-hBe];exact ze HB'.out hx)).mono fun _ _ ⟨h,h'⟩=>⟨h,ze hx h'⟩
 clear hBe hva hvb;have HDR:=zzH ((zzR W.heap.size W).drew);have SK0:=zzH (zbl HDR.out)
 first|go_region_held3 (fun w'=>W.heap.size<=w'.heap.size/\ ∀b o,b<W.heap.size->w'.cell? ⟨b,o,none⟩=W.cell? ⟨b,o,none⟩) (first|with_reducible exact SK0.out|with_reducible exact HK5.out|with_reducible exact HK6.out)
  (first
   |(go_at_call 57;(first|(with_reducible refine(hva' _ HDR.out).mono ?_)|(with_reducible refine(hvb' _ HDR.out).mono ?_));rintro e w5 ⟨rfl,hb5⟩;have HK5:=zzH (zbl hb5))
   |(go_at_call 57;(first|(with_reducible refine(hva' _ hb5).mono ?_)|(with_reducible refine(hvb' _ hb5).mono ?_));rintro e w6 ⟨rfl,hb6⟩;have HK6:=zzH (zbl hb6)))|fail
 all_goals
  obtain⟨s0,s1,s2,s3,s4,s5,s6,s7,s8,zs⟩:=zf ((hb6.block B hl0).trans R0.out);obtain⟨u0,u1,u2,u3,u4,u5,u6,u7,u8,zu⟩:=zf ((hb6.block (B+1) hl1).trans R1.out);go_wp2_with (go_at_call 125;refine(hvs _).mono ?_;rintro e w8 ⟨rfl,hb8⟩);go_ret;exact⟨rfl,ze HB'.out (ze hb6 hb8)⟩
theorem zkN (f:Nat) (a b:Tm) (ao bo:Option Addr) (c d:Nat) (w:World) (hta:SlAt w 9 (TmAt w f) ao a.items) (htb:SlAt w 9 (TmAt w f) bo b.items) (oa:a.Ok) (ob:b.Ok) (ca:(zR (f+1) a:Int)<=1152921504606846976) (cb:(zR (f+1) b:Int)<=1152921504606846976)
  (va:zD (f+1) a=true) (vb:zD (f+1) b=true) (ha:a.items= []) (hb:b.items= []) (h7:a.kind≠7) (h9:a.kind≠9) (h10:a.kind≠10):
  Calls Tryz.prog 69 #[.agg #[.int .i64 a.kind,.int .i64 a.int,.int .i64 a.gen,.string a.name,.string a.func,.int .i64 a.arity,.slice ao a.items.length c,.string a.bytes,.int .i64 a.bits],.agg #[.int .i64 b.kind,.int .i64 b.int,.int .i64 b.gen,.string b.name,.string b.func,.int .i64 b.arity,.slice bo b.items.length d,.string b.bytes,.int .i64 b.bits]] w fun e w'=>e= .returned (.bool (decide (zcA a b<0)))/\Below w.heap.size w w':=by
 have hB:=zU w (.cells #[.int .i64 a.kind,.int .i64 a.int,.int .i64 a.gen,.string a.name,.string a.func,.int .i64 a.arity,.slice ao a.items.length c,.string a.bytes,.int .i64 a.bits] 47) (.cells #[.int .i64 b.kind,.int .i64 b.int,.int .i64 b.gen,.string b.name,.string b.func,.int .i64 b.arity,.slice bo b.items.length d,.string b.bytes,.int .i64 b.bits] 47);have hC:=ziz f a b ao bo c d _ (hta.tms hB) (htb.tms hB) oa ob ca cb va vb ha hb h7 h9 h10;have HB:=zzH hB;clear hta htb oa ob ca cb va vb ha hb h7 h9 h10 hB;generalize zcA a b=r at *;go_in;go_wp2_with fail;refine hC.mono ?_;rintro e w5 ⟨rfl,hb5⟩;go_wp2_with fail;go_ret;exact⟨rfl,ze HB.out hb5⟩
def zig (lits:List Tm) (i:Int):Tm:=(lits[i.toNat]?).getD zeP
def ziA (cases:List RCase) (k:Nat):Int:=((cases[k]?).map RCase.lit).getD 0
def zdi (t:Tm):Bool:=decide (t.kind=1∨t.kind=2∨t.kind=8)
def zcp (lits:List Tm) (cases:List RCase) (k:Nat):Bool:=wi (ziA cases k) 0 ((lits.length:Int)-1)&&(zdi (zig lits (ziA cases k))&&(decide (k=0)||decide (zcA (zig lits (ziA cases (k-1))) (zig lits (ziA cases k))<0)))
def zer (lits:List Tm) (cases:List RCase):Bool:=decide (∀k,k<cases.length->zcp lits cases k=true)
def zbY (nl:Nat) (g:RSeg):Bool:=wi g.type 1 3&&(zbv nl g.val&&(((decide (g.size.kind=0)&&decide (g.size.n=0))||zbv nl g.size)&&(!g.little||g.type==1)))
def zby (lits:List Tm) (x:RIns):Bool:=((!(x.op==12)||wi x.cases.length 1 1000)&&decide ((x.segs.length:Int)<=60))&&(zer lits x.cases&&x.segs.all (zbY lits.length))
theorem zeI {lits:List Tm} {cases:List RCase} {k:Nat} (h:k<cases.length) (e:zcp lits cases k=false):zer lits cases=false:=by
 unfold zer;exact zzD (fun hh=>by rw [hh k h]at e;cases e)
theorem zh9 {lits:List Tm} {cases:List RCase} (h: ∀k,k<cases.length->zcp lits cases k=true):zer lits cases=true:=zzT h
theorem zgk {cases:List RCase} {k:Nat} (h:k<cases.length):ziA cases k=cases[k].lit:=by unfold ziA;rw [zzq8 h];rfl
theorem ze1 {lits:List Tm} {m:Nat} (h:m<lits.length):zig lits (m:Int)=lits[m]:=by unfold zig;rw [zzq11,zzq8 h];rfl
theorem zhv {f:Nat} {t:Tm} (h:zD (f+1) t=true) (hk:t.kind=1∨t.kind=2∨t.kind=8):t.items= []:=by
 unfold zD zj zcH zcW at h;have h4:decide (t.kind=4∨t.kind=7∨t.kind=9)=false:=zzD (by omega);simp only [h4,Bool.and_eq_true,Bool.false_or]at h;have:=h.1.1.2.1.1.2;unfold zL at this;exact List.eq_nil_of_length_eq_zero (of_decide_eq_true this)
structure LitsOk (w:World) (f:Nat) (lo:Option Addr) (lits:List Tm):Prop where
 at':SlAt w 9 (TmAt w (f+1)) lo lits
 ok: ∀t∈lits,zD (f+1) t=true/\(zR (f+1) t:Int)<=1152921504606846976
theorem LitsOk.below {w w':World} {f:Nat} {lo:Option Addr} {lits:List Tm} (h:LitsOk w f lo lits) (hb:Below w.heap.size w w'):LitsOk w' f lo lits:=⟨h.at'.tms hb,h.ok⟩
theorem znr {w:World} {f:Nat} {lo:Option Addr} {lits:List Tm} (h:LitsOk w f lo lits) {i j:Nat} (hi:i<lits.length) (hj:j<lits.length) (ki:zdi lits[i]=true) (kj:zdi lits[j]=true) {ai aj:Option Addr} {ci cj:Nat}
  (si:SlAt w 9 (TmAt w f) ai lits[i].items) (sj:SlAt w 9 (TmAt w f) aj lits[j].items) (oi:lits[i].Ok) (oj:lits[j].Ok) (wx:World) (hx:Below w.heap.size w wx):
  Calls Tryz.prog 69 #[.agg #[.int .i64 lits[i].kind,.int .i64 lits[i].int,.int .i64 lits[i].gen,.string lits[i].name,.string lits[i].func,.int .i64 lits[i].arity,.slice ai lits[i].items.length ci,.string lits[i].bytes,.int .i64 lits[i].bits],.agg #[.int .i64 lits[j].kind,.int .i64 lits[j].int,.int .i64 lits[j].gen,.string lits[j].name,.string lits[j].func,.int .i64 lits[j].arity,.slice aj lits[j].items.length cj,.string lits[j].bytes,.int .i64 lits[j].bits]] wx fun e w'=>e= .returned (.bool (decide (zcA lits[i] lits[j]<0)))/\Below wx.heap.size wx w':=by
 obtain⟨vi,bi⟩:=h.ok _ (List.getElem_mem hi);obtain⟨vj,bj⟩:=h.ok _ (List.getElem_mem hj);have ki':=of_decide_eq_true ki;have kj':=of_decide_eq_true kj;exact zkN f lits[i] lits[j] ai aj ci cj wx (si.tms hx) (sj.tms hx) oi oj bi bj vi vj (zhv vi ki') (zhv vj kj') (by omega) (by omega) (by omega)
theorem zdc {w:World} {B:Nat} {v0 v1 v2 v3 v4 v5:Value} (h:w.heap[B]?=some (.cells #[v0,v1,v2,v3,v4,v5] 98 (0,0))):
  w.cell? ⟨B,0,none⟩=some v0/\w.cell? ⟨B,1,none⟩=some v1/\w.cell? ⟨B,2,none⟩=some v2/\w.cell? ⟨B,3,none⟩=some v3/\w.cell? ⟨B,4,none⟩=some v4/\w.cell? ⟨B,5,none⟩=some v5:=by
 have hc:=fun j=>zzq2 w B j _ _ _ h
 exact⟨hc 0,hc 1,hc 2,hc 3,hc 4,hc 5⟩
theorem znv (B:Nat) (u:RUnit) (lo fo go co:Option Addr) (lc fc gc cc:Nat) (b o:Nat) (x:RIns) (so co' go':Option Addr) (sc cc' gc':Nat) (f:Nat) (w:World) (hu:UBox w B u lo fo go co lc fc gc cc) (hl:u.lits.length<=9223372036854775807) (hlit:LitsOk w f lo u.lits) (hx:IBox w b o x so co' go' sc cc' gc'):
  Calls Tryz.prog 44 #[.pointer (some ⟨B,0,none⟩),.pointer (some ⟨b,o,none⟩)] w fun e w'=>e= .returned (.bool (zby u.lits x))/\Below w.heap.size w w':=by
 have HU:=zzH hu;have HX:=zzH hx;have HLI:=zzH hlit;have c0:=hx.c0;have c8:=hx.c8;have c9:=hx.c9;have rc:=hx.rcases;have rs:=hx.rsegs;have hwi:=fun wx=>zX (x.cases.length:Int) 1 1000 wx
 have HE:Hid (zby u.lits x=(((!(x.op==12)||wi x.cases.length 1 1000)&&decide ((x.segs.length:Int)<=60))&&(zer u.lits x.cases&&x.segs.all (zbY u.lits.length)))):=zzH rfl;clear hu hx hlit;go_in;go_upto_region 1 with fail;generalize hr1:((!(x.op==12)||wi x.cases.length 1 1000)&&decide ((x.segs.length:Int)<=60))=r1 at HE;have HR1:=zzH hr1;clear hr1;go_cut [31] (fun s wx=> ∃n1:Bool,s= .bool n1/\Hid (n1= !r1)/\w=wx)
 case first=>
  generalize wi x.cases.length 1 1000=w1 at *
  cases t12:(x.op==12)with
  |true=>
   cases w1 with
   |false=>
    have hv:=zzH (HR1.out.symm.trans (by rw [t12];rfl:_=false));exact zz52
   |true=>
    by_cases s60:(x.segs.length:Int)<=60
    ·have hv:=zzH (HR1.out.symm.trans (by rw [t12,decide_eq_true s60];rfl:_=true))
     have sd:decide ((60:Int)<(x.segs.length:Int))=false:=zzD (by omega);exact zz52
    ·have hv:=zzH (HR1.out.symm.trans (by rw [t12,decide_eq_false s60];rfl:_=false))
     have s60':60<(x.segs.length:Int):=by omega
     clear s60;exact zz52
  |false=>
   by_cases s60:(x.segs.length:Int)<=60
   ·have hv:=zzH (HR1.out.symm.trans (by rw [t12,decide_eq_true s60];rfl:_=true))
    have sd:decide ((60:Int)<(x.segs.length:Int))=false:=zzD (by omega);exact zz53
   ·have hv:=zzH (HR1.out.symm.trans (by rw [t12,decide_eq_false s60];rfl:_=false))
    have s60':60<(x.segs.length:Int):=by omega
    clear s60;exact zz53
 case rest=>
  obtain⟨n1,rfl,hn1,rfl⟩:=hcut;clear HR1
  cases r1 with
  |false=>
   obtain rfl:n1=true:=hn1.out;go_wp2_with fail;go_ret;exact⟨zr (by rw [HE.out];rfl),zzR _ _⟩
  |true=>
   obtain rfl:n1=false:=hn1.out;have HE1:Hid (zby u.lits x=(zer u.lits x.cases&&x.segs.all (zbY u.lits.length))):=zzH (by rw [HE.out,Bool.true_and]);clear HE hwi;go_wp2_with fail;go_loopw [37] (fun i wr=> ∃k:Nat,k<=x.cases.length/\i= .int .i64 k/\Hid (∀j,j<k->zcp u.lits x.cases j=true)/\Below w.heap.size w wr) (fun i _=>x.cases.length-(intOf i).toNat)
   case atStart=>exact⟨0,zzZ _,rfl,zzH (fun j h=>absurd h (Nat.not_lt_zero _)),zzR _ _⟩
   case round=>
    obtain⟨k,hk,rfl,HK,hBw⟩:=hrel;rename World=>wr
    by_cases hlt:k<x.cases.length
    ·have hxr:=HX.out.below hBw
     obtain⟨b1,off1,hco,hb1,q0,q1,rl,rt⟩:=hxr.cases.case hlt;subst hco;have hcl:=zgk hlt;have HBW:=zzH hBw;have u2:=(HU.out.below hBw).c2;have d8:=hxr.c8;have hBlt:=(HU.out.below hBw).lt;have hblt:=hxr.lt;generalize x.cases[k].to=ct at *;generalize x.cases[k].lit=cl at *;by_cases hin:0<=cl/\cl<=(u.lits.length:Int)-1
     ·obtain⟨m,rfl⟩: ∃m:Nat,cl=(m:Int):=⟨cl.toNat,by omega⟩
      have hm:m<u.lits.length:=by omega
      have hw1:=zeq hin.1 hin.2;have hwr1:IntKind.i64.wrap ((u.lits.length:Int)-1)=(u.lits.length:Int)-1:=by rw [zzq3];omega
      have hwc:=fun wx=>zX (m:Int) 0 ((u.lits.length:Int)-1) wx
      have HW1:=zzH hw1;rw [hw1]at hwc;have HLW:=zzH (HLI.out.below hBw);obtain⟨b2,off2,ai,ci,hlo,hb2,p0,p1,p2,p3,p4,p5,p6,p7,p8,hit,hok⟩:=(HLI.out.below hBw).at'.tm hm;have hla:=ze1 hm;have HCL:=zzH hcl;have HIT:=zzH hit;have HOK:=zzH hok;clear hcl hw1 hin rl rt hxr hit hok;have hcx:Below wr.heap.size wr (wr.alloc (.cells #[.int .i64 (m:Int),.int .i64 ct] 94)):=(zzR _ _).alloc (zzL _) _;have v2:=(hcx.cell (p:=⟨B,2,none⟩) hBlt).trans u2;have HCX:=zzH hcx;clear hcx;go_wp2_with fail;go_quiet ((go_at_call 64;exact Calls.quiet_of_same ((hwc _).mono fun _ _ ⟨a,b⟩=>⟨a,b.symm⟩)));have hbW:Below wr.heap.size wr ((wr.alloc (.cells #[.int .i64 (m:Int),.int .i64 ct] 94)).drewN nq):=zY HCX.out nq;have hbox:((wr.alloc (.cells #[.int .i64 (m:Int),.int .i64 ct] 94)).drewN nq).heap[wr.heap.size]?=some (.cells #[.int .i64 (m:Int),.int .i64 ct] 94 (0,0)):=heap_alloc_new _ _
      clear v2 HCX;generalize(wr.alloc (.cells #[.int .i64 (m:Int),.int .i64 ct] 94)).drewN nq=W1 at *;have hCW:wr.heap.size<W1.heap.size:=zc hbox;have hlo2:lo=some ⟨b2,off2,none⟩:=hlo;subst hlo2;have v2:=(hbW.cell (p:=⟨B,2,none⟩) hBlt).trans u2;have n0:W1.cell? ⟨wr.heap.size,0,none⟩=some (.int .i64 (m:Int)):=by rw [zzq2 _ _ _ _ _ _ hbox];rfl
      have p0':=(hbW.cell (p:=⟨b2,off2+m*9,none⟩) hb2).trans p0;have HBW1:=zzH hbW;have HBOX:=zzH hbox;clear hbW hbox hwc;generalize hkk:(u.lits[m]).kind=kk at p0';have HKK:=zzH hkk;clear hkk;go_wp2_with fail;go_quiet (fail);have hbW:Below wr.heap.size wr (W1.drewN nq):=zY HBW1.out nq;have hbox:(W1.drewN nq).heap[wr.heap.size]?=some (.cells #[.int .i64 (m:Int),.int .i64 ct] 94 (0,0)):=HBOX.out
      clear v2 n0 p0' hCW HBW1 HBOX;generalize W1.drewN nq=W2 at *;have HBW2:=zzH hbW;by_cases hko:kk=1∨kk=2∨kk=8
      ·have HKO:Hid (zdi u.lits[m]=true):=zzH (by unfold zdi;rw [HKK.out];exact zzT hko)
       by_cases k0:k=0
       ·have HK2:Hid (∀j,j<k+1->zcp u.lits x.cases j=true):=zzH (fun j hj=>by
         obtain rfl:j=k:=by omega
         unfold zcp;rw [HCL.out,HW1.out,hla,HKO.out,decide_eq_true k0];rfl)
        have hd0:decide ((0:Int)<(k:Int))=false:=zzD (by omega);have hd1:decide (0<k)=false:=zzD (by omega);clear k0 hbW hbox;rcases hko with rfl|rfl|rfl
        all_goals
         go_wp2_with fail;go_quiet (fail);go_wp2_with fail;go_roundw
         case rel=>exact⟨k+1,by omega,by go_num,HK2,zY (HBW.out.trans (HBW2.out.mono HBW.out.size)) _⟩
         case measure=>simp [intOf];omega
       ·obtain⟨k',hk'⟩: ∃k',k=k'+1:=⟨k-1,by omega⟩
        have hlt':k'<x.cases.length:=by omega
        have hprev:=HK.out k' (by omega);obtain⟨b1',off1',hco',hb1',q0',q1',rl',rt'⟩:=(HX.out.below HBW.out).cases.case hlt';obtain⟨rfl,rfl⟩:b1=b1'/\off1=off1':=by injection hco' with h;injection h with h1 h2;exact⟨h1,h2⟩
        have hcl':=zgk hlt';generalize x.cases[k'].lit=cl' at *;generalize x.cases[k'].to=ct' at *;unfold zcp at hprev;rw [hcl']at hprev
        have hpin:0<=cl'/\cl'<=(u.lits.length:Int)-1:=by
         exact zz54
        obtain⟨m',rfl⟩: ∃m':Nat,cl'=(m':Int):=⟨cl'.toNat,by omega⟩;have hm':m'<u.lits.length:=by omega
        rw [ze1 hm']at hprev
        have hko':zdi u.lits[m']=true:=by
         cases h:zdi u.lits[m']with
         |true=>rfl
         |false=>rw [h]at hprev;simp at hprev
        obtain⟨b2',off2',ai',ci',hlo',hb2',r0,r1,r2,r3,r4,r5,r6,r7,r8,hit',hok'⟩:=HLW.out.at'.tm hm';obtain⟨rfl,rfl⟩:b2=b2'/\off2=off2':=by injection hlo' with h;injection h with h1 h2;exact⟨h1,h2⟩
        have hLess:=znr (ci:=ci') (cj:=ci) HLW.out hm' hm hko' HKO.out hit' HIT.out hok' HOK.out
        have HOKK:Hid (zcp u.lits x.cases k=decide (zcA u.lits[m'] u.lits[m]<0)):=zzH (by
         unfold zcp;rw [HCL.out,HW1.out,hla,HKO.out,decide_eq_false k0,hk',Nat.add_sub_cancel,hcl',ze1 hm'];simp)
        have hd0:decide ((0:Int)<(k:Int))=true:=zzT (by omega);have hd1:decide (0<k)=true:=zzT (by omega);have hwk:IntKind.i64.wrap ((k:Int)-1)=(k':Int):=by rw [zzq3];omega
        rw [HKK.out]at hLess p0;have v2:=(hbW.cell (p:=⟨B,2,none⟩) hBlt).trans u2;have v8:=(hbW.cell (p:=⟨b,o+8,none⟩) hblt).trans d8;have n0:W2.cell? ⟨wr.heap.size,0,none⟩=some (.int .i64 (m:Int)):=by rw [zzq2 _ _ _ _ _ _ hbox];rfl
        have q0'':=(hbW.cell (p:=⟨b1,off1+k'*2,none⟩) hb1).trans q0';have p0':=(hbW.cell (p:=⟨b2,off2+m*9,none⟩) hb2).trans p0;have p1':=(hbW.cell (p:=⟨b2,off2+m*9+1,none⟩) hb2).trans p1;have p2':=(hbW.cell (p:=⟨b2,off2+m*9+2,none⟩) hb2).trans p2;have p3':=(hbW.cell (p:=⟨b2,off2+m*9+3,none⟩) hb2).trans p3;have p4':=(hbW.cell (p:=⟨b2,off2+m*9+4,none⟩) hb2).trans p4;have p5':=(hbW.cell (p:=⟨b2,off2+m*9+5,none⟩) hb2).trans p5;have p6':=(hbW.cell (p:=⟨b2,off2+m*9+6,none⟩) hb2).trans p6;have p7':=(hbW.cell (p:=⟨b2,off2+m*9+7,none⟩) hb2).trans p7;have p8':=(hbW.cell (p:=⟨b2,off2+m*9+8,none⟩) hb2).trans p8;have r0':=(hbW.cell (p:=⟨b2,off2+m'*9,none⟩) hb2).trans r0;have r1':=(hbW.cell (p:=⟨b2,off2+m'*9+1,none⟩) hb2).trans r1;have r2':=(hbW.cell (p:=⟨b2,off2+m'*9+2,none⟩) hb2).trans r2;have r3':=(hbW.cell (p:=⟨b2,off2+m'*9+3,none⟩) hb2).trans r3;have r4':=(hbW.cell (p:=⟨b2,off2+m'*9+4,none⟩) hb2).trans r4;have r5':=(hbW.cell (p:=⟨b2,off2+m'*9+5,none⟩) hb2).trans r5;have r6':=(hbW.cell (p:=⟨b2,off2+m'*9+6,none⟩) hb2).trans r6;have r7':=(hbW.cell (p:=⟨b2,off2+m'*9+7,none⟩) hb2).trans r7;have r8':=(hbW.cell (p:=⟨b2,off2+m'*9+8,none⟩) hb2).trans r8;have hCW:wr.heap.size<W2.heap.size:=zc hbox;have hBW:B<W2.heap.size:=zzW hBlt HBW2.out.size;have hbW2:b<W2.heap.size:=zzW hblt HBW2.out.size;have hb1W:b1<W2.heap.size:=zzW hb1 HBW2.out.size;have hb2W:b2<W2.heap.size:=zzW hb2 HBW2.out.size;have HDW:Hid (Below wr.heap.size wr W2.drew):=zzH HBW2.out.drew;have SK0:=zzH (zbl ((zzR W2.heap.size W2).drew));have SD:=zzH ((zzR W2.heap.size W2).drew);clear hbW hbox q0 q1 q0' q1' p0 p1 p2 p3 p4 p5 p6 p7 p8 r0 r1 r2 r3 r4 r5 r6 r7 r8 hprev hpin hcl' hla u2 d8 hit' hok' hlo' hco' rl' rt' k0 hk';generalize decide (zcA u.lits[m'] u.lits[m]<0)=q at *;generalize u.lits[m']=t' at *;generalize u.lits[m]=t at *;rcases hko with rfl|rfl|rfl
        all_goals
         cases q with
         |true=>
          have HK2:Hid (∀j,j<k+1->zcp u.lits x.cases j=true):=zzH (fun j hj=>by
           rcases Nat.eq_or_lt_of_le (Nat.le_of_lt_succ hj)with h|h
           ·rw [h];exact HOKK.out
           ·exact HK.out j h)
          go_wp2_with fail
          first|go_region_held3 (fun w'=>W2.heap.size<=w'.heap.size/\ ∀b o,b<W2.heap.size->w'.cell? ⟨b,o,none⟩=W2.cell? ⟨b,o,none⟩) (first|with_reducible exact SK0.out|with_reducible exact HK5.out)
           ((go_at_call 69;refine(hLess _ HDW.out).mono ?_;rintro e w5 ⟨rfl,hb5⟩;have HK5:=zzH (zbl (ze SD.out hb5));have HB5:=zzH (ze HDW.out hb5)))|fail
          go_wp2_with fail;go_roundw
          case rel=>exact⟨k+1,by omega,by go_num,HK2,HBW.out.trans (HB5.out.mono HBW.out.size)⟩
          case measure=>simp [intOf];omega
         |false=>
          have E:Hid (zby u.lits x=false):=zzH (by rw [HE1.out,zeI hlt HOKK.out];rfl);go_wp2_with fail
          first|go_region_held3 (fun w'=>W2.heap.size<=w'.heap.size/\ ∀b o,b<W2.heap.size->w'.cell? ⟨b,o,none⟩=W2.cell? ⟨b,o,none⟩) (first|with_reducible exact SK0.out|with_reducible exact HK5.out)
           ((go_at_call 69;refine(hLess _ HDW.out).mono ?_;rintro e w5 ⟨rfl,hb5⟩;have HK5:=zzH (zbl (ze SD.out hb5));have HB5:=zzH (ze HDW.out hb5)))|fail
          go_wp2_with fail;go_ret;exact⟨zr E.out.symm,HBW.out.trans (HB5.out.mono HBW.out.size)⟩
      ·have E:Hid (zby u.lits x=false):=zzH (by
        rw [HE1.out,zeI hlt (by
         unfold zcp zdi;rw [HCL.out,HW1.out,hla,HKK.out,decide_eq_false hko];rfl)];rfl)
       have t1:(kk==1)=false:=zzB.2 (fun h=>hko (.inl h));have t2:(kk==2)=false:=zzB.2 (fun h=>hko (.inr (.inl h)));have t8:(kk==8)=false:=zzB.2 (fun h=>hko (.inr (.inr h)));clear hko hbW hbox;go_wp2_with fail;go_ret;exact⟨zr E.out.symm,HBW.out.trans (HBW2.out.mono HBW.out.size)⟩
     ·have E:Hid (zby u.lits x=false):=zzH (by rw [HE1.out,zeI hlt (by unfold zcp;rw [hcl,zdN hin];rfl)];rfl)
      have hw0:=zdN hin;have hwr1:IntKind.i64.wrap ((u.lits.length:Int)-1)=(u.lits.length:Int)-1:=by rw [zzq3];omega
      have hwc:=fun wx=>zX cl 0 ((u.lits.length:Int)-1) wx
      rw [hw0]at hwc;clear hcl hw0 hin rl rt hxr;have hcx:Below wr.heap.size wr (wr.alloc (.cells #[.int .i64 cl,.int .i64 ct] 94)):=(zzR _ _).alloc (zzL _) _;have v2:=(hcx.cell (p:=⟨B,2,none⟩) hBlt).trans u2;have HCX:=zzH (hBw.trans (hcx.mono hBw.size));clear hcx;go_wp2_with fail;go_quiet ((go_at_call 64;exact Calls.quiet_of_same ((hwc _).mono fun _ _ ⟨a,b⟩=>⟨a,b.symm⟩)));go_wp2_with fail;go_ret;exact⟨zr E.out.symm,zY HCX.out _⟩
    ·have HC1:Hid (zer u.lits x.cases=true):=zzH (zh9 (fun j hj=>HK.out j (by omega)))
     have HE2:Hid (zby u.lits x=x.segs.all (zbY u.lits.length)):=zzH (by rw [HE1.out,HC1.out,Bool.true_and]);have hxr:=HX.out.below hBw;have d9:=hxr.c9;have HBW:=zzH hBw;have HI:Hid (x.segs.all (zbY u.lits.length)=(x.segs.drop 0).all (zbY u.lits.length)):=zzH rfl;clear hxr HK;obtain⟨wo,rfl⟩: ∃wo:World,wo=wr:=⟨_,rfl⟩;go_wp2_with fail;go_loopw [100] (fun i wq=> ∃k:Nat,k<=x.segs.length/\i= .int .i64 k/\Hid (x.segs.all (zbY u.lits.length)=(x.segs.drop k).all (zbY u.lits.length))/\Below w.heap.size w wq) (fun i _=>x.segs.length-(intOf i).toNat)
     case atStart=>exact⟨0,zzZ _,rfl,HI,HBW.out⟩
     case round=>
      obtain⟨k,hk,rfl,HK,hBq⟩:=hrel;rename World=>wr
      by_cases hlt:k<x.segs.length
      ·have hxr:=HX.out.below hBq
       obtain⟨b1,off1,hgo,hb1,s0,s1,s2,s3,s4,s5,t0,t1,t2,t3,t4⟩:=hxr.segs.seg hlt;subst hgo;have HST:Hid ((x.segs.drop k).all (zbY u.lits.length)=(zbY u.lits.length x.segs[k]&&(x.segs.drop (k+1)).all (zbY u.lits.length))):=zzH (by rw [List.drop_eq_getElem_cons hlt,List.all_cons]);have HUW:=HU.out.below hBq;have hu0:=HUW;have HBQ:=zzH hBq;have hop1:=fun wx (hx:Below wr.heap.size wr wx)=>zfc B u lo fo go co lc fc gc cc x.segs[k].val wx (hu0.below hx) hl ⟨t1,t2⟩
       have hop2:=fun wx (hx:Below wr.heap.size wr wx)=>zfc B u lo fo go co lc fc gc cc x.segs[k].size wx (hu0.below hx) hl ⟨t3,t4⟩
       have HSB:Hid (zbY u.lits.length x.segs[k]=(wi x.segs[k].type 1 3&&(zbv u.lits.length x.segs[k].val&&(((decide (x.segs[k].size.kind=0)&&decide (x.segs[k].size.n=0))||zbv u.lits.length x.segs[k].size)&&(!x.segs[k].little||x.segs[k].type==1))))):=zzH rfl;have hwt:=fun wx=>zX x.segs[k].type 1 3 wx
       generalize zbY u.lits.length x.segs[k]=sb at *;generalize zbv u.lits.length x.segs[k].val=ov at *;generalize zbv u.lits.length x.segs[k].size=os at *;generalize wi x.segs[k].type 1 3=wt at *;generalize x.segs[k]=g at *;obtain⟨ty,⟨vk,vn⟩,⟨sk,sn⟩,lit⟩:=g;simp only at *;have hbx:Below wr.heap.size wr (wr.alloc (.cells #[.int .i64 ty,.int .i64 vk,.int .i64 vn,.int .i64 sk,.int .i64 sn,.bool lit] 98)):=(zzR _ _).alloc (zzL _) _;have hbr:=heap_alloc_new wr (.cells #[.int .i64 ty,.int .i64 vk,.int .i64 vn,.int .i64 sk,.int .i64 sn,.bool lit] 98);have HBX:=zzH hbx;have HBR:=zzH hbr;clear hbx hbr t0 t1 t2 t3 t4 hxr HUW hu0 hBq
       cases wt with
       |false=>
        cases sk0:(sk==0)with
        |false=>
         have hz:(decide (sk=0)&&decide (sn=0))=false:=by rw [decide_eq_false (by simpa using sk0)];rfl
         exact zz50
        |true=>
         cases sn0:(sn==0)with
         |false=>
          have hz:(decide (sk=0)&&decide (sn=0))=false:=by rw [decide_eq_false (p:=sn=0) (by simpa using sn0)];exact Bool.and_false _
          exact zz50
         |true=>
          have hz:(decide (sk=0)&&decide (sn=0))=true:=by rw [decide_eq_true (by simpa using sk0),decide_eq_true (by simpa using sn0)];rfl
          exact zz50
       |true=>
        cases ov with
        |false=>
         cases sk0:(sk==0)with
         |false=>
          have hz:(decide (sk=0)&&decide (sn=0))=false:=by rw [decide_eq_false (by simpa using sk0)];rfl
          exact zz49
         |true=>
          cases sn0:(sn==0)with
          |false=>
           have hz:(decide (sk=0)&&decide (sn=0))=false:=by rw [decide_eq_false (p:=sn=0) (by simpa using sn0)];exact Bool.and_false _
           exact zz49
          |true=>
           have hz:(decide (sk=0)&&decide (sn=0))=true:=by rw [decide_eq_true (by simpa using sk0),decide_eq_true (by simpa using sn0)];rfl
           exact zz49
        |true=>
         cases sk0:(sk==0)with
         |false=>
          have hz:(decide (sk=0)&&decide (sn=0))=false:=by rw [decide_eq_false (by simpa using sk0)];rfl
          exact zz48
         |true=>
          cases sn0:(sn==0)with
          |false=>
           have hz:(decide (sk=0)&&decide (sn=0))=false:=by rw [decide_eq_false (p:=sn=0) (by simpa using sn0)];exact Bool.and_false _
           exact zz48
          |true=>
           have hz:(decide (sk=0)&&decide (sn=0))=true:=by rw [decide_eq_true (by simpa using sk0),decide_eq_true (by simpa using sn0)];rfl
           rw [hz]at HSB;clear hz;go_wp2_with (go_at_call 64;refine(hwt _).mono ?_;rintro e w1 ⟨rfl,rfl⟩);refine(hop1 _ HBX.out).mono ?_;rintro e w5 ⟨rfl,hb5⟩;have HB5:=zzH (ze HBX.out hb5);have hbra:=(hb5.block wr.heap.size (zc HBR.out)).trans HBR.out;obtain⟨g0,g1,g2,g3,g4,g5⟩:=zdc hbra;clear hb5
           cases lit with
           |false=>
            have hsv0:sb=true:=by rw [HSB.out];simp []
            exact zz51
           |true=>
            cases ty1:(ty==1)with
            |true=>
             have ty2 : (ty != 1) = false := by unfold bne; rw [ty1]; rfl
             have hsv0:sb=true:=by rw [HSB.out];simp [ty1]
             exact zz51
            |false=>
             have ty2 : (ty != 1) = true := by unfold bne; rw [ty1]; rfl
             have hsv0:sb=false:=by rw [HSB.out];simp [ty1]
             have HSV:=zzH hsv0;clear hsv0;have HE3:Hid (zby u.lits x=false):=zzH (by rw [HE2.out,HK.out,HST.out,HSV.out];rfl);go_wp2_with fail;go_ret;exact⟨zr HE3.out.symm,HBQ.out.trans (HB5.out.mono HBQ.out.size)⟩
      ·have HE3:Hid (zby u.lits x=true):=zzH (by rw [HE2.out,HK.out,zzq6 (by omega)];rfl)
       go_wp2_with fail;go_ret;exact⟨zr HE3.out.symm,hBq⟩
def zjD (f:Nat):Prop:= ∀(t:Tm) (ao bo:Option Addr) (c d:Nat) (w:World),SlAt w 9 (TmAt w f) ao t.items->SlAt w 9 (TmAt w f) bo t.items->t.items.length<=maxLen ->
 Calls Tryz.prog 24 #[.agg #[.int .i64 t.kind,.int .i64 t.int,.int .i64 t.gen,.string t.name,.string t.func,.int .i64 t.arity,.slice ao t.items.length c,.string t.bytes,.int .i64 t.bits],
   .agg #[.int .i64 t.kind,.int .i64 t.int,.int .i64 t.gen,.string t.name,.string t.func,.int .i64 t.arity,.slice bo t.items.length d,.string t.bytes,.int .i64 t.bits]] w fun e w'=>e= .returned (.bool true)/\Below w.heap.size w w'
def zhh (f:Nat):Prop:= ∀(l:List Tm) (ao bo:Option Addr) (c d:Nat) (w:World),SlAt w 9 (TmAt w f) ao l->SlAt w 9 (TmAt w f) bo l->l.length<=maxLen ->
 Calls Tryz.prog 56 #[.slice ao l.length c,.slice bo l.length d] w fun e w'=>e= .returned (.bool true)/\Below w.heap.size w w'
theorem zj1 {f:Nat} (HP:Hid (zhh f)):zjD f:=by
 intro t ao bo c d w ha hb hl;have hbe:=zU w (.cells #[.int .i64 t.kind,.int .i64 t.int,.int .i64 t.gen,.string t.name,.string t.func,.int .i64 t.arity,.slice ao t.items.length c,.string t.bytes,.int .i64 t.bits] 47) (.cells #[.int .i64 t.kind,.int .i64 t.int,.int .i64 t.gen,.string t.name,.string t.func,.int .i64 t.arity,.slice bo t.items.length d,.string t.bytes,.int .i64 t.bits] 47);have r0:=zem w (.cells #[.int .i64 t.kind,.int .i64 t.int,.int .i64 t.gen,.string t.name,.string t.func,.int .i64 t.arity,.slice ao t.items.length c,.string t.bytes,.int .i64 t.bits] 47) (.cells #[.int .i64 t.kind,.int .i64 t.int,.int .i64 t.gen,.string t.name,.string t.func,.int .i64 t.arity,.slice bo t.items.length d,.string t.bytes,.int .i64 t.bits] 47);have r1:=zd0 w (.cells #[.int .i64 t.kind,.int .i64 t.int,.int .i64 t.gen,.string t.name,.string t.func,.int .i64 t.arity,.slice ao t.items.length c,.string t.bytes,.int .i64 t.bits] 47) (.cells #[.int .i64 t.kind,.int .i64 t.int,.int .i64 t.gen,.string t.name,.string t.func,.int .i64 t.arity,.slice bo t.items.length d,.string t.bytes,.int .i64 t.bits] 47);have hL:=fun wx (hx:Below w.heap.size w wx)=>HP.out t.items ao bo c d wx (ha.tms hx) (hb.tms hx) hl
 have HL:=zzH hL;clear hL ha hb hl HP;go_in;go_upto_region 1 with fail;generalize World.alloc _ _=w2 at *;have HB:=zzH hbe;obtain⟨q0,q1,q2,q3,q4,q5,q6,q7,q8,z0,z1,z2,z3,z4,z5,z6,z7,z8⟩:=zf r0;obtain⟨x0,x1,x2,x3,x4,x5,x6,x7,x8,y0,y1,y2,y3,y4,y5,y6,y7,y8⟩:=zf r1;clear r0 r1 hbe;go_wp2_with (go_at_call 56;refine(HL.out w2 HB.out).mono ?_;rintro e w3 ⟨rfl,hb3⟩);go_ret;exact⟨rfl,ze HB.out hb3⟩
theorem zkG:zhh 0:=by
 intro l ao bo c d w ha hb hl;obtain rfl:=ha.zero;clear ha hb hl;go_in;go_wp2_with fail;go_loop [5] (fun i=>i= .int .i64 0) (fun _=>0)
 case atStart=>rfl
 case round=>
  obtain rfl:=hrel;go_wp2_with fail;go_ret;exact⟨rfl,zzR _ _⟩
theorem zkJ {f:Nat} (HQ:Hid (zjD f)):zhh (f+1):=by
 intro l ao bo c d w ha hb hl;unfold maxLen at hl;have HA:=zzH ha;have HB:=zzH hb;clear ha hb;go_in;go_wp2_with fail;go_loopw [5] (fun iv wr=> ∃k:Nat,k<=l.length/\iv= .int .i64 k/\Below w.heap.size w wr) (fun iv _=>l.length-(intOf iv).toNat)
 case atStart=>exact⟨0,zzZ _,rfl,zzR _ _⟩
 case round=>
  obtain⟨k,hk,rfl,hbr⟩:=hrel;rename World=>wr
  by_cases hlt:k<l.length
  ·obtain⟨b1,off1,ai,ci,hao,hb1,q0,q1,q2,q3,q4,q5,q6,q7,q8,hit,hok⟩:=(HA.out.tms hbr).tm hlt
   obtain⟨b2,off2,bi,di,hbo,hb2,p0,p1,p2,p3,p4,p5,p6,p7,p8,hit2,hok2⟩:=(HB.out.tms hbr).tm hlt;subst hao;subst hbo;have hSM:=HQ.out l[k] ai bi ci di wr.drew (hit.tms (zzR _ _).drew) (hit2.tms (zzR _ _).drew) hok.2.2.2.2.2.2.1;have HBR:=zzH hbr;clear hit hit2 hok hok2 hbr;generalize l[k]=x at *;go_wp2_with fail
   first|go_region_held3 (fun w'=>(w'.cell? ⟨b1,off1+k*9,none⟩=some (.int .i64 x.kind)/\w'.cell? ⟨b1,off1+k*9+1,none⟩=some (.int .i64 x.int)/\w'.cell? ⟨b1,off1+k*9+2,none⟩=some (.int .i64 x.gen)/\w'.cell? ⟨b1,off1+k*9+3,none⟩=some (.string x.name)/\w'.cell? ⟨b1,off1+k*9+4,none⟩=some (.string x.func)/\w'.cell? ⟨b1,off1+k*9+5,none⟩=some (.int .i64 x.arity)/\w'.cell? ⟨b1,off1+k*9+6,none⟩=some (.slice ai x.items.length ci)/\w'.cell? ⟨b1,off1+k*9+7,none⟩=some (.string x.bytes)/\w'.cell? ⟨b1,off1+k*9+8,none⟩=some (.int .i64 x.bits))/\(w'.cell? ⟨b2,off2+k*9,none⟩=some (.int .i64 x.kind)/\w'.cell? ⟨b2,off2+k*9+1,none⟩=some (.int .i64 x.int)/\w'.cell? ⟨b2,off2+k*9+2,none⟩=some (.int .i64 x.gen)/\w'.cell? ⟨b2,off2+k*9+3,none⟩=some (.string x.name)/\w'.cell? ⟨b2,off2+k*9+4,none⟩=some (.string x.func)/\w'.cell? ⟨b2,off2+k*9+5,none⟩=some (.int .i64 x.arity)/\w'.cell? ⟨b2,off2+k*9+6,none⟩=some (.slice bi x.items.length di)/\w'.cell? ⟨b2,off2+k*9+7,none⟩=some (.string x.bytes)/\w'.cell? ⟨b2,off2+k*9+8,none⟩=some (.int .i64 x.bits))) (((repeat' apply And.intro)<;>assumption)) ((go_at_call 24;refine hSM.mono ?_;rintro e w5 ⟨rfl,hb5⟩;have r0:=(hb5.cell (p:=⟨b1,off1+k*9,none⟩) hb1).trans q0;have r1:=(hb5.cell (p:=⟨b1,off1+k*9+1,none⟩) hb1).trans q1;have r2:=(hb5.cell (p:=⟨b1,off1+k*9+2,none⟩) hb1).trans q2;have r3:=(hb5.cell (p:=⟨b1,off1+k*9+3,none⟩) hb1).trans q3;have r4:=(hb5.cell (p:=⟨b1,off1+k*9+4,none⟩) hb1).trans q4;have r5:=(hb5.cell (p:=⟨b1,off1+k*9+5,none⟩) hb1).trans q5;have r6:=(hb5.cell (p:=⟨b1,off1+k*9+6,none⟩) hb1).trans q6;have r7:=(hb5.cell (p:=⟨b1,off1+k*9+7,none⟩) hb1).trans q7;have r8:=(hb5.cell (p:=⟨b1,off1+k*9+8,none⟩) hb1).trans q8;have s0:=(hb5.cell (p:=⟨b2,off2+k*9,none⟩) hb2).trans p0;have s1:=(hb5.cell (p:=⟨b2,off2+k*9+1,none⟩) hb2).trans p1;have s2:=(hb5.cell (p:=⟨b2,off2+k*9+2,none⟩) hb2).trans p2;have s3:=(hb5.cell (p:=⟨b2,off2+k*9+3,none⟩) hb2).trans p3;have s4:=(hb5.cell (p:=⟨b2,off2+k*9+4,none⟩) hb2).trans p4;have s5:=(hb5.cell (p:=⟨b2,off2+k*9+5,none⟩) hb2).trans p5;have s6:=(hb5.cell (p:=⟨b2,off2+k*9+6,none⟩) hb2).trans p6;have s7:=(hb5.cell (p:=⟨b2,off2+k*9+7,none⟩) hb2).trans p7;have s8:=(hb5.cell (p:=⟨b2,off2+k*9+8,none⟩) hb2).trans p8))|fail
   exact zz201
  ·go_wp2_with fail
   go_ret;exact⟨rfl,hbr⟩
theorem zhW: ∀f,zhh f
 |0=>zkG
 |f+1=>zkJ (zzH (zj1 (zzH (zhW f))))
theorem zoN (f:Nat):zjD f:=zj1 (zzH (zhW f))
theorem zdZ {w:World} {b:Nat} {v0 v1 v2 v3 v4 v5 v6 v7 v8 v9:Value} {t:TypeId} (h:w.heap[b]?=some (.cells #[v0,v1,v2,v3,v4,v5,v6,v7,v8,v9] t (0,0))):
  w.cell? ⟨b,0,none⟩=some v0/\w.cell? ⟨b,1,none⟩=some v1/\w.cell? ⟨b,2,none⟩=some v2/\w.cell? ⟨b,3,none⟩=some v3/\w.cell? ⟨b,4,none⟩=some v4/\w.cell? ⟨b,5,none⟩=some v5/\w.cell? ⟨b,6,none⟩=some v6/\w.cell? ⟨b,7,none⟩=some v7/\w.cell? ⟨b,8,none⟩=some v8/\w.cell? ⟨b,9,none⟩=some v9:=by
 have hc:=fun j=>zzq2 w b j _ _ _ h
 exact⟨hc 0,hc 1,hc 2,hc 3,hc 4,hc 5,hc 6,hc 7,hc 8,hc 9⟩
theorem zdb {w:World} {b:Nat} {v0 v1 v2 v3 v4 v5:Value} {t:TypeId} (h:w.heap[b]?=some (.cells #[v0,v1,v2,v3,v4,v5] t (0,0))):
  w.cell? ⟨b,0,none⟩=some v0/\w.cell? ⟨b,1,none⟩=some v1/\w.cell? ⟨b,2,none⟩=some v2/\w.cell? ⟨b,3,none⟩=some v3/\w.cell? ⟨b,4,none⟩=some v4/\w.cell? ⟨b,5,none⟩=some v5:=by
 have hc:=fun j=>zzq2 w b j _ _ _ h
 exact⟨hc 0,hc 1,hc 2,hc 3,hc 4,hc 5⟩
theorem zmH (x:RIns) (so co go so' co' go':Option Addr) (sc cc gc sc' cc' gc':Nat) (w:World) (s1:SlAt w 2 zdj so x.src) (s2:SlAt w 2 zcR co x.cases) (s3:SlAt w 6 zdk go x.segs) (t1:SlAt w 2 zdj so' x.src) (t2:SlAt w 2 zcR co' x.cases) (t3:SlAt w 6 zdk go' x.segs)
  (r1:x.src.length<=maxLen) (r2:x.cases.length<=maxLen) (r3:x.segs.length<=maxLen):
  Calls Tryz.prog 25 #[.agg (zzi x so sc co cc go gc),.agg (zzi x so' sc' co' cc' go' gc')] w fun e w'=>e= .returned (.bool true)/\Below w.heap.size w w':=by
 unfold zzi;unfold maxLen at r1 r2 r3;have hbe:=zU w (.cells #[.int .i64 x.op,.int .i64 x.dst.kind,.int .i64 x.dst.n,.slice so x.src.length sc,.int .i64 x.to,.int .i64 x.n,.int .i64 x.live,.string x.name,.slice co x.cases.length cc,.slice go x.segs.length gc] 64) (.cells #[.int .i64 x.op,.int .i64 x.dst.kind,.int .i64 x.dst.n,.slice so' x.src.length sc',.int .i64 x.to,.int .i64 x.n,.int .i64 x.live,.string x.name,.slice co' x.cases.length cc',.slice go' x.segs.length gc'] 64);have e0:=zem w (.cells #[.int .i64 x.op,.int .i64 x.dst.kind,.int .i64 x.dst.n,.slice so x.src.length sc,.int .i64 x.to,.int .i64 x.n,.int .i64 x.live,.string x.name,.slice co x.cases.length cc,.slice go x.segs.length gc] 64) (.cells #[.int .i64 x.op,.int .i64 x.dst.kind,.int .i64 x.dst.n,.slice so' x.src.length sc',.int .i64 x.to,.int .i64 x.n,.int .i64 x.live,.string x.name,.slice co' x.cases.length cc',.slice go' x.segs.length gc'] 64);have e1:=zd0 w (.cells #[.int .i64 x.op,.int .i64 x.dst.kind,.int .i64 x.dst.n,.slice so x.src.length sc,.int .i64 x.to,.int .i64 x.n,.int .i64 x.live,.string x.name,.slice co x.cases.length cc,.slice go x.segs.length gc] 64) (.cells #[.int .i64 x.op,.int .i64 x.dst.kind,.int .i64 x.dst.n,.slice so' x.src.length sc',.int .i64 x.to,.int .i64 x.n,.int .i64 x.live,.string x.name,.slice co' x.cases.length cc',.slice go' x.segs.length gc'] 64);have S1:=zzH (s1.mono hbe fun _ _ h=>h);have S2:=zzH (s2.mono hbe fun _ _ h=>h);have S3:=zzH (s3.mono hbe fun _ _ h=>h);have T1:=zzH (t1.mono hbe fun _ _ h=>h);have T2:=zzH (t2.mono hbe fun _ _ h=>h);have T3:=zzH (t3.mono hbe fun _ _ h=>h);have E0:=zzH e0;have E1:=zzH e1;have HBE:=zzH hbe;clear s1 s2 s3 t1 t2 t3 e0 e1 hbe;go_in;go_wp2_with fail;generalize World.alloc _ _=Wx at *;have HX0:=zzH (show w.heap.size<=Wx.heap.size from HBE.out.size);go_loopw [5] (fun iv wr=> ∃k:Nat,k<=x.src.length/\iv= .int .i64 k/\Below Wx.heap.size Wx wr) (fun iv _=>x.src.length-(intOf iv).toNat)
 case atStart=>exact⟨0,zzZ _,rfl,zzR _ _⟩
 case round=>
  obtain⟨k,hk,rfl,hbr⟩:=hrel;rename World=>wr
  have HBR:=zzH hbr;clear hbr;obtain⟨q0,q1,q2,q3,q4,q5,q6,q7,q8,q9⟩:=zdZ ((HBR.out.block _ (zc E0.out)).trans E0.out);obtain⟨p0,p1,p2,p3,p4,p5,p6,p7,p8,p9⟩:=zdZ ((HBR.out.block _ (zc E1.out)).trans E1.out);have hl0:w.heap.size<wr.heap.size:=zzW (zc E0.out) HBR.out.size;have hl1:w.heap.size+1<wr.heap.size:=zzW (zc E1.out) HBR.out.size;by_cases hlt:k<x.src.length
  ·obtain⟨b1,o1,hao,hb1,c0,c1,-,-⟩:=(S1.out.mono HBR.out fun _ _ h=>h).arg hlt
   obtain⟨b2,o2,hbo,hb2,d0,d1,-,-⟩:=(T1.out.mono HBR.out fun _ _ h=>h).arg hlt;subst hao;subst hbo;generalize x.src[k]=a at *;exact zz202
  ·go_wp2_with fail
   go_loopw [6] (fun iv wr=> ∃k:Nat,k<=x.cases.length/\iv= .int .i64 k/\Below Wx.heap.size Wx wr) (fun iv _=>x.cases.length-(intOf iv).toNat)
   case atStart=>exact⟨0,zzZ _,rfl,HBR.out⟩
   case round=>
    clear HBR q0 q1 q2 q3 q4 q5 q6 q7 q8 q9 p0 p1 p2 p3 p4 p5 p6 p7 p8 p9 hl0 hl1 hk hlt;obtain⟨k,hk,rfl,hbr⟩:=hrel;rename World=>wr
    have HBR:=zzH hbr;clear hbr;obtain⟨q0,q1,q2,q3,q4,q5,q6,q7,q8,q9⟩:=zdZ ((HBR.out.block _ (zc E0.out)).trans E0.out);obtain⟨p0,p1,p2,p3,p4,p5,p6,p7,p8,p9⟩:=zdZ ((HBR.out.block _ (zc E1.out)).trans E1.out);have hl0:w.heap.size<wr.heap.size:=zzW (zc E0.out) HBR.out.size;have hl1:w.heap.size+1<wr.heap.size:=zzW (zc E1.out) HBR.out.size;by_cases hlt:k<x.cases.length
    ·obtain⟨b1,o1,hao,hb1,c0,c1,-,-⟩:=(S2.out.mono HBR.out fun _ _ h=>h).case hlt
     obtain⟨b2,o2,hbo,hb2,d0,d1,-,-⟩:=(T2.out.mono HBR.out fun _ _ h=>h).case hlt;subst hao;subst hbo;generalize x.cases[k]=a at *;exact zz202
    ·go_wp2_with fail
     go_loopw [7] (fun iv wr=> ∃k:Nat,k<=x.segs.length/\iv= .int .i64 k/\Below Wx.heap.size Wx wr) (fun iv _=>x.segs.length-(intOf iv).toNat)
     case atStart=>exact⟨0,zzZ _,rfl,HBR.out⟩
     case round=>
      clear HBR q0 q1 q2 q3 q4 q5 q6 q7 q8 q9 p0 p1 p2 p3 p4 p5 p6 p7 p8 p9 hl0 hl1 hk hlt;obtain⟨k,hk,rfl,hbr⟩:=hrel;rename World=>wr
      have HBR:=zzH hbr;clear hbr;obtain⟨q0,q1,q2,q3,q4,q5,q6,q7,q8,q9⟩:=zdZ ((HBR.out.block _ (zc E0.out)).trans E0.out);obtain⟨p0,p1,p2,p3,p4,p5,p6,p7,p8,p9⟩:=zdZ ((HBR.out.block _ (zc E1.out)).trans E1.out);have hl0:w.heap.size<wr.heap.size:=zzW (zc E0.out) HBR.out.size;have hl1:w.heap.size+1<wr.heap.size:=zzW (zc E1.out) HBR.out.size;by_cases hlt:k<x.segs.length
      ·obtain⟨b1,o1,hao,hb1,c0,c1,c2,c3,c4,c5,-,-,-,-,-⟩:=(S3.out.mono HBR.out fun _ _ h=>h).seg hlt
       obtain⟨b2,o2,hbo,hb2,d0,d1,d2,d3,d4,d5,-,-,-,-,-⟩:=(T3.out.mono HBR.out fun _ _ h=>h).seg hlt;subst hao;subst hbo;generalize x.segs[k]=a at *;exact zz202
      ·go_wp2_with fail
       go_ret;exact⟨rfl,HBE.out.trans (HBR.out.mono HX0.out)⟩
theorem znG (f:Nat) (u:RUnit) (lo fo go co lo' fo' go' co':Option Addr) (lc fc gc cc lc' fc' gc' cc':Nat) (w:World) (h1:UP w u lo fo go co) (h2:UP w u lo' fo' go' co') (l1:SlAt w 9 (TmAt w (f+1)) lo u.lits) (l2:SlAt w 9 (TmAt w (f+1)) lo' u.lits):
  Calls Tryz.prog 7 #[.agg (zzu u lo lc fo fc go gc co cc),.agg (zzu u lo' lc' fo' fc' go' gc' co' cc')] w fun e w'=>e= .returned (.bool true)/\Below w.heap.size w w':=by
 unfold zzu;have g1:=h1.litsLen;have g2:=h1.funcsLen;have g3:=h1.funsLen;have g4:=h1.codeLen;have hbe:=zU w (.cells #[.string u.mdl,.int .i64 u.vsn,.slice lo u.lits.length lc,.slice fo u.funcs.length fc,.slice go u.funs.length gc,.slice co u.code.length cc] 28) (.cells #[.string u.mdl,.int .i64 u.vsn,.slice lo' u.lits.length lc',.slice fo' u.funcs.length fc',.slice go' u.funs.length gc',.slice co' u.code.length cc'] 28);have e0:=zem w (.cells #[.string u.mdl,.int .i64 u.vsn,.slice lo u.lits.length lc,.slice fo u.funcs.length fc,.slice go u.funs.length gc,.slice co u.code.length cc] 28) (.cells #[.string u.mdl,.int .i64 u.vsn,.slice lo' u.lits.length lc',.slice fo' u.funcs.length fc',.slice go' u.funs.length gc',.slice co' u.code.length cc'] 28);have e1:=zd0 w (.cells #[.string u.mdl,.int .i64 u.vsn,.slice lo u.lits.length lc,.slice fo u.funcs.length fc,.slice go u.funs.length gc,.slice co u.code.length cc] 28) (.cells #[.string u.mdl,.int .i64 u.vsn,.slice lo' u.lits.length lc',.slice fo' u.funcs.length fc',.slice go' u.funs.length gc',.slice co' u.code.length cc'] 28);have S1:=zzH (l1.tms hbe);have S2:=zzH (h1.below hbe).funcs;have S3:=zzH (h1.below hbe).funs;have S4:=zzH (h1.below hbe).code;have T1:=zzH (l2.tms hbe);have T2:=zzH (h2.below hbe).funcs;have T3:=zzH (h2.below hbe).funs;have T4:=zzH (h2.below hbe).code;have E0:=zzH e0;have E1:=zzH e1;have HBE:=zzH hbe;clear h1 h2 l1 l2 e0 e1 hbe;go_in;go_wp2_with fail;generalize World.alloc _ _=Wx at *;have HX0:=zzH (show w.heap.size<=Wx.heap.size from HBE.out.size);go_loopw [5] (fun iv wr=> ∃k:Nat,k<=u.lits.length/\iv= .int .i64 k/\Below Wx.heap.size Wx wr) (fun iv _=>u.lits.length-(intOf iv).toNat)
 case atStart=>exact⟨0,zzZ _,rfl,zzR _ _⟩
 case round=>
  obtain⟨k,hk,rfl,hbr⟩:=hrel;rename World=>wr
  have HBR:=zzH hbr;clear hbr;obtain⟨q0,q1,q2,q3,q4,q5⟩:=zdb ((HBR.out.block _ (zc E0.out)).trans E0.out);obtain⟨p0,p1,p2,p3,p4,p5⟩:=zdb ((HBR.out.block _ (zc E1.out)).trans E1.out);have hl0:w.heap.size<wr.heap.size:=zzW (zc E0.out) HBR.out.size;have hl1:w.heap.size+1<wr.heap.size:=zzW (zc E1.out) HBR.out.size;by_cases hlt:k<u.lits.length
  ·obtain⟨b1,o1,ai,ci,hao,hb1,c0,c1,c2,c3,c4,c5,c6,c7,c8,hit,hok⟩:=(S1.out.tms HBR.out).tm hlt
   obtain⟨b2,o2,bi,di,hbo,hb2,d0,d1,d2,d3,d4,d5,d6,d7,d8,hit2,-⟩:=(T1.out.tms HBR.out).tm hlt;subst hao;subst hbo;have hSM:=zoN f u.lits[k] ai bi ci di wr.drew (hit.tms (zzR _ _).drew) (hit2.tms (zzR _ _).drew) hok.2.2.2.2.2.2.1;clear hit hit2 hok;generalize hx:u.lits[k]=x at *;clear hx;go_wp2_with fail;have hs0:=hl0;have hs1:=hl1
   first|go_region_held3 (fun w'=>(w'.cell? ⟨w.heap.size,2,none⟩=some (.slice (some ⟨b1,o1,none⟩) u.lits.length lc)/\w'.cell? ⟨w.heap.size+1,2,none⟩=some (.slice (some ⟨b2,o2,none⟩) u.lits.length lc'))/\(w'.cell? ⟨b1,o1+k*9,none⟩=some (.int .i64 x.kind)/\w'.cell? ⟨b1,o1+k*9+1,none⟩=some (.int .i64 x.int)/\w'.cell? ⟨b1,o1+k*9+2,none⟩=some (.int .i64 x.gen)/\w'.cell? ⟨b1,o1+k*9+3,none⟩=some (.string x.name)/\w'.cell? ⟨b1,o1+k*9+4,none⟩=some (.string x.func)/\w'.cell? ⟨b1,o1+k*9+5,none⟩=some (.int .i64 x.arity)/\w'.cell? ⟨b1,o1+k*9+6,none⟩=some (.slice ai x.items.length ci)/\w'.cell? ⟨b1,o1+k*9+7,none⟩=some (.string x.bytes)/\w'.cell? ⟨b1,o1+k*9+8,none⟩=some (.int .i64 x.bits))/\(w'.cell? ⟨b2,o2+k*9,none⟩=some (.int .i64 x.kind)/\w'.cell? ⟨b2,o2+k*9+1,none⟩=some (.int .i64 x.int)/\w'.cell? ⟨b2,o2+k*9+2,none⟩=some (.int .i64 x.gen)/\w'.cell? ⟨b2,o2+k*9+3,none⟩=some (.string x.name)/\w'.cell? ⟨b2,o2+k*9+4,none⟩=some (.string x.func)/\w'.cell? ⟨b2,o2+k*9+5,none⟩=some (.int .i64 x.arity)/\w'.cell? ⟨b2,o2+k*9+6,none⟩=some (.slice bi x.items.length di)/\w'.cell? ⟨b2,o2+k*9+7,none⟩=some (.string x.bytes)/\w'.cell? ⟨b2,o2+k*9+8,none⟩=some (.int .i64 x.bits))) (((repeat' apply And.intro)<;>assumption)) ((go_at_call 24;refine hSM.mono ?_;rintro e w5 ⟨rfl,hb5⟩;have s0:=(hb5.cell (p:=⟨b1,o1+k*9,none⟩) hb1).trans c0;have s1:=(hb5.cell (p:=⟨b1,o1+k*9+1,none⟩) hb1).trans c1;have s2:=(hb5.cell (p:=⟨b1,o1+k*9+2,none⟩) hb1).trans c2;have s3:=(hb5.cell (p:=⟨b1,o1+k*9+3,none⟩) hb1).trans c3;have s4:=(hb5.cell (p:=⟨b1,o1+k*9+4,none⟩) hb1).trans c4;have s5:=(hb5.cell (p:=⟨b1,o1+k*9+5,none⟩) hb1).trans c5;have s6:=(hb5.cell (p:=⟨b1,o1+k*9+6,none⟩) hb1).trans c6;have s7:=(hb5.cell (p:=⟨b1,o1+k*9+7,none⟩) hb1).trans c7;have s8:=(hb5.cell (p:=⟨b1,o1+k*9+8,none⟩) hb1).trans c8;have t0:=(hb5.cell (p:=⟨b2,o2+k*9,none⟩) hb2).trans d0;have t1:=(hb5.cell (p:=⟨b2,o2+k*9+1,none⟩) hb2).trans d1;have t2:=(hb5.cell (p:=⟨b2,o2+k*9+2,none⟩) hb2).trans d2;have t3:=(hb5.cell (p:=⟨b2,o2+k*9+3,none⟩) hb2).trans d3;have t4:=(hb5.cell (p:=⟨b2,o2+k*9+4,none⟩) hb2).trans d4;have t5:=(hb5.cell (p:=⟨b2,o2+k*9+5,none⟩) hb2).trans d5;have t6:=(hb5.cell (p:=⟨b2,o2+k*9+6,none⟩) hb2).trans d6;have t7:=(hb5.cell (p:=⟨b2,o2+k*9+7,none⟩) hb2).trans d7;have t8:=(hb5.cell (p:=⟨b2,o2+k*9+8,none⟩) hb2).trans d8;have r0:=(hb5.cell (p:=⟨w.heap.size,2,none⟩) hs0).trans q2;have r1:=(hb5.cell (p:=⟨w.heap.size+1,2,none⟩) hs1).trans p2))|fail
   exact zz201
  ·go_wp2_with fail
   go_loopw [6] (fun iv wr=> ∃k:Nat,k<=u.funcs.length/\iv= .int .i64 k/\Below Wx.heap.size Wx wr) (fun iv _=>u.funcs.length-(intOf iv).toNat)
   case atStart=>exact⟨0,zzZ _,rfl,HBR.out⟩
   case round=>
    clear HBR q0 q1 q2 q3 q4 q5 p0 p1 p2 p3 p4 p5 hl0 hl1 hk hlt;obtain⟨k,hk,rfl,hbr⟩:=hrel;rename World=>wr
    have HBR:=zzH hbr;clear hbr;obtain⟨q0,q1,q2,q3,q4,q5⟩:=zdb ((HBR.out.block _ (zc E0.out)).trans E0.out);obtain⟨p0,p1,p2,p3,p4,p5⟩:=zdb ((HBR.out.block _ (zc E1.out)).trans E1.out);have hl0:w.heap.size<wr.heap.size:=zzW (zc E0.out) HBR.out.size;have hl1:w.heap.size+1<wr.heap.size:=zzW (zc E1.out) HBR.out.size;by_cases hlt:k<u.funcs.length
    ·obtain⟨b1,o1,hao,hb1,c0,c1,c2,c3,-,-,-⟩:=(S2.out.mono HBR.out fun _ _ h=>h).func hlt
     obtain⟨b2,o2,hbo,hb2,d0,d1,d2,d3,-,-,-⟩:=(T2.out.mono HBR.out fun _ _ h=>h).func hlt;subst hao;subst hbo;generalize u.funcs[k]=a at *;exact zz202
    ·go_wp2_with fail
     go_loopw [7] (fun iv wr=> ∃k:Nat,k<=u.funs.length/\iv= .int .i64 k/\Below Wx.heap.size Wx wr) (fun iv _=>u.funs.length-(intOf iv).toNat)
     case atStart=>exact⟨0,zzZ _,rfl,HBR.out⟩
     case round=>
      clear HBR q0 q1 q2 q3 q4 q5 p0 p1 p2 p3 p4 p5 hl0 hl1 hk hlt;obtain⟨k,hk,rfl,hbr⟩:=hrel;rename World=>wr
      have HBR:=zzH hbr;clear hbr;obtain⟨q0,q1,q2,q3,q4,q5⟩:=zdb ((HBR.out.block _ (zc E0.out)).trans E0.out);obtain⟨p0,p1,p2,p3,p4,p5⟩:=zdb ((HBR.out.block _ (zc E1.out)).trans E1.out);have hl0:w.heap.size<wr.heap.size:=zzW (zc E0.out) HBR.out.size;have hl1:w.heap.size+1<wr.heap.size:=zzW (zc E1.out) HBR.out.size;by_cases hlt:k<u.funs.length
      ·obtain⟨b1,o1,hao,hb1,c0,c1,c2,-,-,-⟩:=(S3.out.mono HBR.out fun _ _ h=>h).fn hlt
       obtain⟨b2,o2,hbo,hb2,d0,d1,d2,-,-,-⟩:=(T3.out.mono HBR.out fun _ _ h=>h).fn hlt;subst hao;subst hbo;generalize u.funs[k]=a at *;exact zz202
      ·go_wp2_with fail
       go_loopw [8] (fun iv wr=> ∃k:Nat,k<=u.code.length/\iv= .int .i64 k/\Below Wx.heap.size Wx wr) (fun iv _=>u.code.length-(intOf iv).toNat)
       case atStart=>exact⟨0,zzZ _,rfl,HBR.out⟩
       case round=>
        clear HBR q0 q1 q2 q3 q4 q5 p0 p1 p2 p3 p4 p5 hl0 hl1 hk hlt;obtain⟨k,hk,rfl,hbr⟩:=hrel;rename World=>wr
        have HBR:=zzH hbr;clear hbr;obtain⟨q0,q1,q2,q3,q4,q5⟩:=zdb ((HBR.out.block _ (zc E0.out)).trans E0.out);obtain⟨p0,p1,p2,p3,p4,p5⟩:=zdb ((HBR.out.block _ (zc E1.out)).trans E1.out);have hl0:w.heap.size<wr.heap.size:=zzW (zc E0.out) HBR.out.size;have hl1:w.heap.size+1<wr.heap.size:=zzW (zc E1.out) HBR.out.size;by_cases hlt:k<u.code.length
        ·obtain⟨b1,o1,so,sc,co2,cc2,go2,gc2,hao,hb1,c0,c1,c2,c3,c4,c5,c6,c7,c8,c9,s1,s2,s3,r1,r2,r3,r4,r5,r6,r7,r8,r9,r10⟩:=(S4.out.mono HBR.out fun _ _ h=>h.below HBR.out).ins hlt
         obtain⟨b2,o2,so',sc',co2',cc2',go2',gc2',hbo,hb2,d0,d1,d2,d3,d4,d5,d6,d7,d8,d9,t1,t2,t3,-⟩:=(T4.out.mono HBR.out fun _ _ h=>h.below HBR.out).ins hlt;subst hao;subst hbo;have hdr:Below wr.heap.size wr wr.drew:=(zzR _ _).drew;have hSM:=zmH u.code[k] so co2 go2 so' co2' go2' sc cc2 gc2 sc' cc2' gc2' wr.drew (s1.mono hdr fun _ _ h=>h) (s2.mono hdr fun _ _ h=>h) (s3.mono hdr fun _ _ h=>h) (t1.mono hdr fun _ _ h=>h) (t2.mono hdr fun _ _ h=>h) (t3.mono hdr fun _ _ h=>h) r4 r9 r10;clear s1 s2 s3 t1 t2 t3 r1 r2 r3 r4 r5 r6 r7 r8 r9 r10 hdr;generalize hx:u.code[k]=x at *;clear hx;go_wp2_with fail;have hs0:=hl0;have hs1:=hl1
         first|go_region_held3 (fun w'=>(w'.cell? ⟨w.heap.size,5,none⟩=some (.slice (some ⟨b1,o1,none⟩) u.code.length cc)/\w'.cell? ⟨w.heap.size+1,5,none⟩=some (.slice (some ⟨b2,o2,none⟩) u.code.length cc'))/\(w'.cell? ⟨b1,o1+k*10,none⟩=some (.int .i64 x.op)/\w'.cell? ⟨b1,o1+k*10+1,none⟩=some (.int .i64 x.dst.kind)/\w'.cell? ⟨b1,o1+k*10+2,none⟩=some (.int .i64 x.dst.n)/\w'.cell? ⟨b1,o1+k*10+3,none⟩=some (.slice so x.src.length sc)/\w'.cell? ⟨b1,o1+k*10+4,none⟩=some (.int .i64 x.to)/\w'.cell? ⟨b1,o1+k*10+5,none⟩=some (.int .i64 x.n)/\w'.cell? ⟨b1,o1+k*10+6,none⟩=some (.int .i64 x.live)/\w'.cell? ⟨b1,o1+k*10+7,none⟩=some (.string x.name)/\w'.cell? ⟨b1,o1+k*10+8,none⟩=some (.slice co2 x.cases.length cc2)/\w'.cell? ⟨b1,o1+k*10+9,none⟩=some (.slice go2 x.segs.length gc2))/\(w'.cell? ⟨b2,o2+k*10,none⟩=some (.int .i64 x.op)/\w'.cell? ⟨b2,o2+k*10+1,none⟩=some (.int .i64 x.dst.kind)/\w'.cell? ⟨b2,o2+k*10+2,none⟩=some (.int .i64 x.dst.n)/\w'.cell? ⟨b2,o2+k*10+3,none⟩=some (.slice so' x.src.length sc')/\w'.cell? ⟨b2,o2+k*10+4,none⟩=some (.int .i64 x.to)/\w'.cell? ⟨b2,o2+k*10+5,none⟩=some (.int .i64 x.n)/\w'.cell? ⟨b2,o2+k*10+6,none⟩=some (.int .i64 x.live)/\w'.cell? ⟨b2,o2+k*10+7,none⟩=some (.string x.name)/\w'.cell? ⟨b2,o2+k*10+8,none⟩=some (.slice co2' x.cases.length cc2')/\w'.cell? ⟨b2,o2+k*10+9,none⟩=some (.slice go2' x.segs.length gc2'))) (((repeat' apply And.intro)<;>assumption)) ((go_at_call 25;refine hSM.mono ?_;rintro e w5 ⟨rfl,hb5⟩;have s0:=(hb5.cell (p:=⟨b1,o1+k*10,none⟩) hb1).trans c0;have s1:=(hb5.cell (p:=⟨b1,o1+k*10+1,none⟩) hb1).trans c1;have s2:=(hb5.cell (p:=⟨b1,o1+k*10+2,none⟩) hb1).trans c2;have s3:=(hb5.cell (p:=⟨b1,o1+k*10+3,none⟩) hb1).trans c3;have s4:=(hb5.cell (p:=⟨b1,o1+k*10+4,none⟩) hb1).trans c4;have s5:=(hb5.cell (p:=⟨b1,o1+k*10+5,none⟩) hb1).trans c5;have s6:=(hb5.cell (p:=⟨b1,o1+k*10+6,none⟩) hb1).trans c6;have s7:=(hb5.cell (p:=⟨b1,o1+k*10+7,none⟩) hb1).trans c7;have s8:=(hb5.cell (p:=⟨b1,o1+k*10+8,none⟩) hb1).trans c8;have s9:=(hb5.cell (p:=⟨b1,o1+k*10+9,none⟩) hb1).trans c9;have t0:=(hb5.cell (p:=⟨b2,o2+k*10,none⟩) hb2).trans d0;have t1:=(hb5.cell (p:=⟨b2,o2+k*10+1,none⟩) hb2).trans d1;have t2:=(hb5.cell (p:=⟨b2,o2+k*10+2,none⟩) hb2).trans d2;have t3:=(hb5.cell (p:=⟨b2,o2+k*10+3,none⟩) hb2).trans d3;have t4:=(hb5.cell (p:=⟨b2,o2+k*10+4,none⟩) hb2).trans d4;have t5:=(hb5.cell (p:=⟨b2,o2+k*10+5,none⟩) hb2).trans d5;have t6:=(hb5.cell (p:=⟨b2,o2+k*10+6,none⟩) hb2).trans d6;have t7:=(hb5.cell (p:=⟨b2,o2+k*10+7,none⟩) hb2).trans d7;have t8:=(hb5.cell (p:=⟨b2,o2+k*10+8,none⟩) hb2).trans d8;have t9:=(hb5.cell (p:=⟨b2,o2+k*10+9,none⟩) hb2).trans d9;have r0:=(hb5.cell (p:=⟨w.heap.size,5,none⟩) hs0).trans q5;have r1:=(hb5.cell (p:=⟨w.heap.size+1,5,none⟩) hs1).trans p5))|fail
         exact zz201
        ·go_wp2_with fail
         go_ret;exact⟨rfl,HBE.out.trans (HBR.out.mono HX0.out)⟩
end Go.Proofs.YtlaabicdhkebbaaGreatDoor
