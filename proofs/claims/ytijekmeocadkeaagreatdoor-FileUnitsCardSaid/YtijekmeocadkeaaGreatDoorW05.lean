import Derived.Test.YtijekmeocadkeaaGreatDoorW02
import Derived.Test.YtijekmeocadkeaaGreatDoorW03
import Derived.Test.YtijekmeocadkeaaGreatDoorW04
namespace Go.Proofs.YtijekmeocadkeaaGreatDoor
open Go.RowKit
set_option linter.unusedVariables false
set_option linter.unusedSimpArgs false
set_option maxRecDepth 100000
set_option maxHeartbeats 0
theorem zlr (x:Int) (w:World):Calls Tryz.prog 219 #[.int .i64 x] w fun e w'=>e= .returned (.bool false)/\w=w':=by
 go_in;go_wp2;go_ret;exact⟨rfl,rfl⟩
theorem zjE (x y:Int) (w:World):Calls Tryz.prog 195 #[.int .i64 x,.int .i64 y] w fun e w'=>e= .returned (.int .i64 (Lib.compareInt x y))/\w=w':=by
 by_cases h1:x<y
 ·have E:Hid (Lib.compareInt x y= -1):=zzH (by unfold Lib.compareInt;rw [if_pos h1])
  exact zz64
 ·by_cases h2:y<x
  ·have E:Hid (Lib.compareInt x y=1):=zzH (by unfold Lib.compareInt;rw [if_neg h1,if_pos h2])
   have h1':y<=x:=by omega
   clear h1;exact zz64
  ·obtain rfl:x=y:=by omega
   have E:Hid (Lib.compareInt x x=0):=zzH (by unfold Lib.compareInt;rw [if_neg h1,if_neg h1]);clear h1 h2;exact zz64
def orL:List Int->Int
 |[]=>0
 |x::l=>if x=0 then orL l else x
theorem zqe {l:List Int} {k:Nat} (h:k<l.length):orL (l.drop k)=if l[k]=0 then orL (l.drop (k+1))else l[k]:=by rw [List.drop_eq_getElem_cons h,orL]
theorem ztQ (l:List Int) (hl:l.length<=1000) (B c:Nat) (w:World) (hc: ∀k (h:k<l.length),w.cell? ⟨B,k,none⟩=some (.int .i64 l[k])):
  Calls Tryz.prog 193 #[.slice (some ⟨B,0,none⟩) l.length c] w fun e w'=>e= .returned (.int .i64 (orL l))/\w=w':=by
 have HC:=zzH hc;have HI:Hid (orL l=orL (l.drop 0)):=zzH rfl;clear hc;go_in;go_wp2_with fail;go_loop [5,8] (fun _ i=> ∃k:Nat,k<=l.length/\i= .int .i64 k/\Hid (orL l=orL (l.drop k))) (fun _ i=>l.length-(intOf i).toNat)
 case atStart=>exact⟨0,zzZ _,rfl,HI⟩
 case round=>
  obtain⟨k,hk,rfl,HK⟩:=hrel;by_cases hlt:k<l.length
  ·have hcell:=HC.out k hlt
   have HD:=zzH (zqe hlt);generalize l[k]=x at *;by_cases hx:x=0
   ·have HK2:Hid (orL l=orL (l.drop (k+1))):=zzH (by rw [HK.out,HD.out,if_pos hx])
    have hb : (x != 0) = false := by rw [hx]; rfl
    clear hx;go_wp2;go_round
    case rel=>exact⟨k+1,by omega,by go_num,HK2⟩
    case measure=>simp [intOf];omega
   ·have E:Hid (orL l=x):=zzH (by rw [HK.out,HD.out,if_neg hx])
    have hb : (x != 0) = true := by rw [bne_iff_ne]; exact hx
    clear hx;go_wp2;go_ret;exact⟨zcQ E.out.symm,rfl⟩
  ·have E:Hid (orL l=0):=zzH (by rw [HK.out,zzq8 (by omega)];rfl)
   go_wp2;go_ret;exact⟨zcQ E.out.symm,rfl⟩
theorem zp6 (ao bo:zzA) (c d:Nat) (v:Value) (w:World):
  Calls Tryz.prog 216 #[.slice ao 0 c,.slice bo 0 d,v] w fun e w'=>e= .returned (.int .i64 0)/\w=w':=by
 go_in;go_wp2_with fail;go_loop [11] (fun i=>i= .int .i64 0) (fun _=>0)
 case atStart=>rfl
 case round=>
  obtain rfl:=hrel;go_wp2;go_ret;exact⟨rfl,rfl⟩
theorem zpm (ao bo:zzA) (c d:Nat) (w:World):
  Calls Tryz.prog 190 #[.slice ao 0 c,.slice bo 0 d] w fun e w'=>e= .returned (.int .i64 0)/\w=w':=by
 have hc:=Tryz.cmp_Compare_int 0 0 w;rw [show Lib.compareInt 0 0=0 by decide]at hc;go_in;go_wp2_with fail;refine hc.mono ?_;rintro e w1 ⟨rfl,rfl⟩;go_wp2_with (go_at_call 216;refine(zp6 _ _ _ _ _ _).mono ?_;rintro e w2 ⟨rfl,rfl⟩);go_ret;exact⟨rfl,rfl⟩
theorem zqV (w:World) (x1 x2 x3 x4 x5:Int): ∀k (h:k< [x1,x2,x3,x4,x5].length),(w.alloc (.cells #[.int .i64 x1,.int .i64 x2,.int .i64 x3,.int .i64 x4,.int .i64 x5] 3)).drew.cell? ⟨w.heap.size,k,none⟩=some (.int .i64 [x1,x2,x3,x4,x5][k]):=fun k h=>by
 have hr:=zzF w (.cells #[.int .i64 x1,.int .i64 x2,.int .i64 x3,.int .i64 x4,.int .i64 x5] 3);have hc:=zzq2 _ _ k _ _ _ hr;refine Eq.trans (show _=(w.alloc (.cells #[.int .i64 x1,.int .i64 x2,.int .i64 x3,.int .i64 x4,.int .i64 x5] 3)).cell? ⟨w.heap.size,k,none⟩from rfl) (hc.trans ?_)
 match k,h with
 |0,_=>rfl
 |1,_=>rfl
 |2,_=>rfl
 |3,_=>rfl
 |4,_=>rfl
 |k+5,h=>exact absurd h (by simp)
def zcl (a b:Tm):Int:=if Lib.compareInt a.kind b.kind=0 then orL [Lib.compareBytes a.name.data.toList b.name.data.toList,Lib.compareBytes a.func.data.toList b.func.data.toList,Lib.compareInt a.gen b.gen,Lib.compareInt a.int b.int,Lib.compareInt a.arity b.arity]else Lib.compareInt a.kind b.kind
theorem zk7 (a b:Tm) (ao bo:zzA) (c d:Nat) (w:World) (ha:a.items= []) (hb:b.items= []) (h7:a.kind≠7) (h9:a.kind≠9) (h10:a.kind≠10):
  Calls Tryz.prog 160 #[.agg (zzt a ao c),.agg (zzt b bo d)] w fun e w'=>e= .returned (.int .i64 (zcl a b))/\Below w.heap.size w w':=by
 unfold zzt;have hla:a.items.length=0:=by rw [ha];rfl
 have hlb:b.items.length=0:=by rw [hb];rfl
 rw [hla,hlb];have hB:=zU w (.cells #[.int .i64 a.kind,.int .i64 a.int,.int .i64 a.gen,.string a.name,.string a.func,.int .i64 a.arity,.slice ao 0 c,.string a.bytes,.int .i64 a.bits] 55) (.cells #[.int .i64 b.kind,.int .i64 b.int,.int .i64 b.gen,.string b.name,.string b.func,.int .i64 b.arity,.slice bo 0 d,.string b.bytes,.int .i64 b.bits] 55);have r0:=zfD w (.cells #[.int .i64 a.kind,.int .i64 a.int,.int .i64 a.gen,.string a.name,.string a.func,.int .i64 a.arity,.slice ao 0 c,.string a.bytes,.int .i64 a.bits] 55) (.cells #[.int .i64 b.kind,.int .i64 b.int,.int .i64 b.gen,.string b.name,.string b.func,.int .i64 b.arity,.slice bo 0 d,.string b.bytes,.int .i64 b.bits] 55);have r1:=zeR w (.cells #[.int .i64 a.kind,.int .i64 a.int,.int .i64 a.gen,.string a.name,.string a.func,.int .i64 a.arity,.slice ao 0 c,.string a.bytes,.int .i64 a.bits] 55) (.cells #[.int .i64 b.kind,.int .i64 b.int,.int .i64 b.gen,.string b.name,.string b.func,.int .i64 b.arity,.slice bo 0 d,.string b.bytes,.int .i64 b.bits] 55);have hcmp:=fun wx=>Tryz.cmp_Compare_int a.kind b.kind wx
 have E0:Hid (zcl a b=if Lib.compareInt a.kind b.kind=0 then orL [Lib.compareBytes a.name.data.toList b.name.data.toList,Lib.compareBytes a.func.data.toList b.func.data.toList,Lib.compareInt a.gen b.gen,Lib.compareInt a.int b.int,Lib.compareInt a.arity b.arity]else Lib.compareInt a.kind b.kind):=zzH rfl;have HB:=zzH hB;clear hla hlb ha hb;generalize hk:Lib.compareInt a.kind b.kind=kk at *;by_cases hz:kk=0
 ·subst hz
  rw [if_pos rfl]at E0;have hs1: ∀wx,Calls Tryz.prog 194 #[.string a.name,.string b.name] wx fun e w'=>e= .returned (.int .i64 (Lib.compareBytes a.name.data.toList b.name.data.toList))/\wx=w':=fun wx=>(Tryz.strings_Compare _ _ wx).mono fun _ _ ⟨h,h'⟩=>⟨h,h'.symm⟩
  have hs2: ∀wx,Calls Tryz.prog 194 #[.string a.func,.string b.func] wx fun e w'=>e= .returned (.int .i64 (Lib.compareBytes a.func.data.toList b.func.data.toList))/\wx=w':=fun wx=>(Tryz.strings_Compare _ _ wx).mono fun _ _ ⟨h,h'⟩=>⟨h,h'.symm⟩
  have hs3:=fun wx=>zjE a.gen b.gen wx
  have hs4:=fun wx=>zjE a.int b.int wx
  have hs5: ∀wx,Calls Tryz.prog 189 #[.int .i64 a.arity,.int .i64 b.arity] wx fun e w'=>e= .returned (.int .i64 (Lib.compareInt a.arity b.arity))/\wx=w':=fun wx=>(Tryz.cmp_Compare_int _ _ wx).mono fun _ _ ⟨h,h'⟩=>⟨h,h'.symm⟩
  generalize Lib.compareBytes a.name.data.toList b.name.data.toList=x1 at *;generalize Lib.compareBytes a.func.data.toList b.func.data.toList=x2 at *;generalize Lib.compareInt a.gen b.gen=x3 at *;generalize Lib.compareInt a.int b.int=x4 at *;generalize Lib.compareInt a.arity b.arity=x5 at *;have t7:(a.kind==7)=false:=zzB.2 h7;have t9:(a.kind==9)=false:=zzB.2 h9;have t10:(a.kind==10)=false:=zzB.2 h10;clear h7 h9 h10 hk;go_in;go_upto_region 11 with((go_at_call 189;refine(hcmp _).mono ?_;rintro e w1 ⟨rfl,rfl⟩));generalize(w.alloc (.cells #[.int .i64 a.kind,.int .i64 a.int,.int .i64 a.gen,.string a.name,.string a.func,.int .i64 a.arity,.slice ao 0 c,.string a.bytes,.int .i64 a.bits] 55)).alloc (.cells #[.int .i64 b.kind,.int .i64 b.int,.int .i64 b.gen,.string b.name,.string b.func,.int .i64 b.arity,.slice bo 0 d,.string b.bytes,.int .i64 b.bits] 55)=W at *;obtain⟨q0,q1,q2,q3,q4,q5,q6,q7,q8,zq⟩:=zg r0;obtain⟨p0,p1,p2,p3,p4,p5,p6,p7,p8,zp⟩:=zg r1;have hl0:=zc r0;have hl1:=zc r1;clear zq zp r0 r1;generalize hBe:w.heap.size=B at *;have HBE:=zzH hBe;clear hBe;refine zzK3 (zY (zzR W.heap.size W).drew) (zY ((zzR W.heap.size W).alloc (zzL _) (.cells #[.int .i64 x1,.int .i64 x2,.int .i64 x3,.int .i64 x4,.int .i64 x5] 3)).drew) (zqV W x1 x2 x3 x4 x5) fun SK0 SK1 HC=>?_;have hor:=fun(B c:Nat) (wx:World) hc=>ztQ [x1,x2,x3,x4,x5] (by simp) B c wx hc
  generalize orL [x1,x2,x3,x4,x5]=r at *;have HOR:=zzH hor;clear hor
  first|go_region_held3 (fun w'=>W.heap.size<=w'.heap.size/\ ∀b o,b<W.heap.size->w'.cell? ⟨b,o,none⟩=W.cell? ⟨b,o,none⟩) (first|with_reducible exact SK0.out|with_reducible exact SK1.out)
   (first
    |(go_at_call 194;(first|(with_reducible refine(hs1 _).mono ?_)|(with_reducible refine(hs2 _).mono ?_));rintro e w1 ⟨rfl,rfl⟩)
    |(go_at_call 195;(first|(with_reducible refine(hs3 _).mono ?_)|(with_reducible refine(hs4 _).mono ?_));rintro e w1 ⟨rfl,rfl⟩)
    |(go_at_call 189;(with_reducible refine(hs5 _).mono ?_);rintro e w1 ⟨rfl,rfl⟩)
    |(go_at_call 193;refine(HOR.out _ _ _ HC.out).mono ?_;rintro e w1 ⟨rfl,rfl⟩))|fail
  by_cases hr:r=0
  ·have hrb : (r != 0) = false := by rw [hr]; rfl
   have ER:Hid (zcl a b=0):=zzH (E0.out.trans hr);clear hr;go_wp2_with (go_at_call 190;refine(zpm _ _ _ _ _).mono ?_;rintro e w2 ⟨rfl,rfl⟩);go_ret;exact⟨zcQ ER.out.symm,(by rw [HBE.out];exact(HB.out.alloc (by rw [<-HBE.out];exact HB.out.size) _).drew)⟩
  ·have hrb : (r != 0) = true := by rw [bne_iff_ne]; exact hr
   clear hr;go_wp2;go_ret;exact⟨zcQ E0.out.symm,(by rw [HBE.out];exact(HB.out.alloc (by rw [<-HBE.out];exact HB.out.size) _).drew)⟩
 ·have hnb : (kk != 0) = true := by rw [bne_iff_ne]; exact hz
  rw [if_neg hz]at E0;clear hz hk;go_in;go_wp2_with ((go_at_call 189;refine(hcmp _).mono ?_;rintro e w1 ⟨rfl,hw1⟩;rw [hw1]));go_ret;exact⟨zcQ E0.out.symm,HB.out⟩
theorem ziW (f:Nat) (a b:Tm) (ao bo:zzA) (c d:Nat) (w:World) (hta:SlAt w 9 (TmAt w f) ao a.items) (htb:SlAt w 9 (TmAt w f) bo b.items) (oa:a.Ok) (ob:b.Ok) (ca:(zG (f+1) a:Int)<=1152921504606846976) (cb:(zG (f+1) b:Int)<=1152921504606846976)
  (va:zA (f+1) a=true) (vb:zA (f+1) b=true) (ha:a.items= []) (hb:b.items= []) (h7:a.kind≠7) (h9:a.kind≠9) (h10:a.kind≠10):
  Calls Tryz.prog 143 #[.agg (zzt a ao c),.agg (zzt b bo d)] w fun e w'=>e= .returned (.int .i64 (zcl a b))/\Below w.heap.size w w':=by
 unfold zzt;have hB:=zU w (.cells #[.int .i64 a.kind,.int .i64 a.int,.int .i64 a.gen,.string a.name,.string a.func,.int .i64 a.arity,.slice ao a.items.length c,.string a.bytes,.int .i64 a.bits] 55) (.cells #[.int .i64 b.kind,.int .i64 b.int,.int .i64 b.gen,.string b.name,.string b.func,.int .i64 b.arity,.slice bo b.items.length d,.string b.bytes,.int .i64 b.bits] 55);have r0:=zfD w (.cells #[.int .i64 a.kind,.int .i64 a.int,.int .i64 a.gen,.string a.name,.string a.func,.int .i64 a.arity,.slice ao a.items.length c,.string a.bytes,.int .i64 a.bits] 55) (.cells #[.int .i64 b.kind,.int .i64 b.int,.int .i64 b.gen,.string b.name,.string b.func,.int .i64 b.arity,.slice bo b.items.length d,.string b.bytes,.int .i64 b.bits] 55);have r1:=zeR w (.cells #[.int .i64 a.kind,.int .i64 a.int,.int .i64 a.gen,.string a.name,.string a.func,.int .i64 a.arity,.slice ao a.items.length c,.string a.bytes,.int .i64 a.bits] 55) (.cells #[.int .i64 b.kind,.int .i64 b.int,.int .i64 b.gen,.string b.name,.string b.func,.int .i64 b.arity,.slice bo b.items.length d,.string b.bytes,.int .i64 b.bits] 55);have hva: ∀wx,Below w.heap.size w wx->Calls Tryz.prog 75 #[.agg #[.int .i64 a.kind,.int .i64 a.int,.int .i64 a.gen,.string a.name,.string a.func,.int .i64 a.arity,.slice ao a.items.length c,.string a.bytes,.int .i64 a.bits]] wx fun e w'=>e= .returned (.bool true)/\Below wx.heap.size wx w':=fun wx hx=>by have h:=zeZ f a ao c wx (hta.tms hx) oa ca;rwa [va]at h
 have hvb: ∀wx,Below w.heap.size w wx->Calls Tryz.prog 75 #[.agg #[.int .i64 b.kind,.int .i64 b.int,.int .i64 b.gen,.string b.name,.string b.func,.int .i64 b.arity,.slice bo b.items.length d,.string b.bytes,.int .i64 b.bits]] wx fun e w'=>e= .returned (.bool true)/\Below wx.heap.size wx w':=fun wx hx=>by have h:=zeZ f b bo d wx (htb.tms hx) ob cb;rwa [vb]at h
 have hvs:=fun wx=>zk7 a b ao bo c d wx ha hb h7 h9 h10
 have HB:=zzH hB;clear hta htb oa ob ca cb va vb ha hb h7 h9 h10 hB;generalize zcl a b=r at *;go_in;go_wp2_with fail;generalize(w.alloc (.cells (zzt a ao c) 55)).alloc (.cells (zzt b bo d) 55)=W at *;obtain⟨q0,q1,q2,q3,q4,q5,q6,q7,q8,zq⟩:=zg r0;obtain⟨p0,p1,p2,p3,p4,p5,p6,p7,p8,zp⟩:=zg r1;have hl0:=zc r0;have hl1:=zc r1;have R0:=zzH r0;have R1:=zzH r1;clear zq zp r0 r1;have HW:=zzH HB.out;generalize hBe:w.heap.size=B at *;have HBE:=zzH hBe;have HB':Hid (Below w.heap.size w W):=zzH (by rw [hBe];exact HB.out);have hva': ∀wx,Below W.heap.size W wx->Calls Tryz.prog 75 #[.agg #[.int .i64 a.kind,.int .i64 a.int,.int .i64 a.gen,.string a.name,.string a.func,.int .i64 a.arity,.slice ao a.items.length c,.string a.bytes,.int .i64 a.bits]] wx fun e w'=>e= .returned (.bool true)/\Below W.heap.size W w':=fun wx hx=>(hva wx (by rw [<-hBe];exact zd HB'.out hx)).mono fun _ _ ⟨h,h'⟩=>⟨h,zd hx h'⟩
 have hvb': ∀wx,Below W.heap.size W wx->Calls Tryz.prog 75 #[.agg #[.int .i64 b.kind,.int .i64 b.int,.int .i64 b.gen,.string b.name,.string b.func,.int .i64 b.arity,.slice bo b.items.length d,.string b.bytes,.int .i64 b.bits]] wx fun e w'=>e= .returned (.bool true)/\Below W.heap.size W w':=fun wx hx=>(hvb wx (by rw [<-hBe];exact zd HB'.out hx)).mono fun _ _ ⟨h,h'⟩=>⟨h,zd hx h'⟩
 clear hBe hva hvb;have HDR:=zzH ((zzR W.heap.size W).drew);have SK0:=zzH (zY HDR.out)
 first|go_region_held3 (fun w'=>W.heap.size<=w'.heap.size/\ ∀b o,b<W.heap.size->w'.cell? ⟨b,o,none⟩=W.cell? ⟨b,o,none⟩) (first|with_reducible exact SK0.out|with_reducible exact HK5.out|with_reducible exact HK6.out)
  (first
   |(go_at_call 75;(first|(with_reducible refine(hva' _ HDR.out).mono ?_)|(with_reducible refine(hvb' _ HDR.out).mono ?_));rintro e w5 ⟨rfl,hb5⟩;have HK5:=zzH (zY hb5))
   |(go_at_call 75;(first|(with_reducible refine(hva' _ hb5).mono ?_)|(with_reducible refine(hvb' _ hb5).mono ?_));rintro e w6 ⟨rfl,hb6⟩;have HK6:=zzH (zY hb6)))|fail
 all_goals
  obtain⟨s0,s1,s2,s3,s4,s5,s6,s7,s8,zs⟩:=zg ((hb6.block B hl0).trans R0.out);obtain⟨u0,u1,u2,u3,u4,u5,u6,u7,u8,zu⟩:=zg ((hb6.block (B+1) hl1).trans R1.out);go_wp2_with (go_at_call 160;refine(hvs _).mono ?_;rintro e w8 ⟨rfl,hb8⟩);go_ret;exact⟨rfl,zd HB'.out (zd hb6 hb8)⟩
theorem zly (f:Nat) (a b:Tm) (ao bo:zzA) (c d:Nat) (w:World) (hta:SlAt w 9 (TmAt w f) ao a.items) (htb:SlAt w 9 (TmAt w f) bo b.items) (oa:a.Ok) (ob:b.Ok) (ca:(zG (f+1) a:Int)<=1152921504606846976) (cb:(zG (f+1) b:Int)<=1152921504606846976)
  (va:zA (f+1) a=true) (vb:zA (f+1) b=true) (ha:a.items= []) (hb:b.items= []) (h7:a.kind≠7) (h9:a.kind≠9) (h10:a.kind≠10):
  Calls Tryz.prog 115 #[.agg #[.int .i64 a.kind,.int .i64 a.int,.int .i64 a.gen,.string a.name,.string a.func,.int .i64 a.arity,.slice ao a.items.length c,.string a.bytes,.int .i64 a.bits],.agg #[.int .i64 b.kind,.int .i64 b.int,.int .i64 b.gen,.string b.name,.string b.func,.int .i64 b.arity,.slice bo b.items.length d,.string b.bytes,.int .i64 b.bits]] w fun e w'=>e= .returned (.bool (decide (zcl a b<0)))/\Below w.heap.size w w':=by
 have hB:=zU w (.cells #[.int .i64 a.kind,.int .i64 a.int,.int .i64 a.gen,.string a.name,.string a.func,.int .i64 a.arity,.slice ao a.items.length c,.string a.bytes,.int .i64 a.bits] 55) (.cells #[.int .i64 b.kind,.int .i64 b.int,.int .i64 b.gen,.string b.name,.string b.func,.int .i64 b.arity,.slice bo b.items.length d,.string b.bytes,.int .i64 b.bits] 55);have hC:=ziW f a b ao bo c d _ (hta.tms hB) (htb.tms hB) oa ob ca cb va vb ha hb h7 h9 h10;have HB:=zzH hB;clear hta htb oa ob ca cb va vb ha hb h7 h9 h10 hB;generalize zcl a b=r at *;go_in;go_wp2_with fail;refine hC.mono ?_;rintro e w5 ⟨rfl,hb5⟩;go_wp2;go_ret;exact⟨rfl,zd HB.out hb5⟩
def zis (lits:List Tm) (i:Int):Tm:=(lits[i.toNat]?).getD ze0
def ziU (cases:List RCase) (k:Nat):Int:=((cases[k]?).map RCase.lit).getD 0
def zdb (t:Tm):Bool:=decide (t.kind=1\/t.kind=2\/t.kind=8)
def zca (lits:List Tm) (cases:List RCase) (k:Nat):Bool:=wi (ziU cases k) 0 ((lits.length:Int)-1)&&(zdb (zis lits (ziU cases k))&&(decide (k=0)||decide (zcl (zis lits (ziU cases (k-1))) (zis lits (ziU cases k))<0)))
def zet (lits:List Tm) (cases:List RCase):Bool:=decide (∀k,k<cases.length->zca lits cases k=true)
def zbN (nl:Nat) (g:RSeg):Bool:=wi g.type 1 3&&(zbi nl g.val&&(((decide (g.size.kind=0)&&decide (g.size.n=0))||zbi nl g.size)&&(!g.little||g.type==1)))
def zbo (lits:List Tm) (x:RIns):Bool:=((!(x.op==12)||wi x.cases.length 1 1000)&&decide ((x.segs.length:Int)<=60))&&(zet lits x.cases&&x.segs.all (zbN lits.length))
theorem zeK {lits:List Tm} {cases:List RCase} {k:Nat} (h:k<cases.length) (e:zca lits cases k=false):zet lits cases=false:=by
 unfold zet;exact zzD (fun hh=>by rw [hh k h]at e;cases e)
theorem ziw {lits:List Tm} {cases:List RCase} (h: ∀k,k<cases.length->zca lits cases k=true):zet lits cases=true:=zzT h
theorem zgw {cases:List RCase} {k:Nat} (h:k<cases.length):ziU cases k=cases[k].lit:=by unfold ziU;rw [zzq11 h];rfl
theorem zfh {lits:List Tm} {m:Nat} (h:m<lits.length):zis lits (m:Int)=lits[m]:=by unfold zis;rw [zzq16,zzq11 h];rfl
theorem zhJ {f:Nat} {t:Tm} (h:zA (f+1) t=true) (hk:t.kind=1\/t.kind=2\/t.kind=8):t.items= []:=by
 unfold zA zj zcm zcL at h;have h4:decide (t.kind=4\/t.kind=7\/t.kind=9)=false:=zzD (by omega);simp only [h4,zzq6,zzq9]at h;have:=h.1.1.2.1.1.2;unfold zL at this;exact zzQ (zza this)
structure LitsOk (w:World) (f:Nat) (lo:Option Addr) (lits:List Tm):Prop where
 at':SlAt w 9 (TmAt w (f+1)) lo lits
 ok: ∀t∈lits,zA (f+1) t=true/\(zG (f+1) t:Int)<=1152921504606846976
theorem LitsOk.below {w w':World} {f:Nat} {lo:zzA} {lits:List Tm} (h:LitsOk w f lo lits) (hb:Below w.heap.size w w'):LitsOk w' f lo lits:=⟨h.at'.tms hb,h.ok⟩
theorem zpW {w:World} {f:Nat} {lo:zzA} {lits:List Tm} (h:LitsOk w f lo lits) {i j:Nat} (hi:i<lits.length) (hj:j<lits.length) (ki:zdb lits[i]=true) (kj:zdb lits[j]=true) {ai aj:zzA} {ci cj:Nat}
  (si:SlAt w 9 (TmAt w f) ai lits[i].items) (sj:SlAt w 9 (TmAt w f) aj lits[j].items) (oi:lits[i].Ok) (oj:lits[j].Ok) (wx:World) (hx:Below w.heap.size w wx):
  Calls Tryz.prog 115 #[.agg #[.int .i64 lits[i].kind,.int .i64 lits[i].int,.int .i64 lits[i].gen,.string lits[i].name,.string lits[i].func,.int .i64 lits[i].arity,.slice ai lits[i].items.length ci,.string lits[i].bytes,.int .i64 lits[i].bits],.agg #[.int .i64 lits[j].kind,.int .i64 lits[j].int,.int .i64 lits[j].gen,.string lits[j].name,.string lits[j].func,.int .i64 lits[j].arity,.slice aj lits[j].items.length cj,.string lits[j].bytes,.int .i64 lits[j].bits]] wx fun e w'=>e= .returned (.bool (decide (zcl lits[i] lits[j]<0)))/\Below wx.heap.size wx w':=by
 obtain⟨vi,bi⟩:=h.ok _ (zzM hi);obtain⟨vj,bj⟩:=h.ok _ (zzM hj);have ki':=zza ki;have kj':=zza kj;exact zly f lits[i] lits[j] ai aj ci cj wx (si.tms hx) (sj.tms hx) oi oj bi bj vi vj (zhJ vi ki') (zhJ vj kj') (by omega) (by omega) (by omega)
theorem zc4 {w:World} {B:Nat} {v0 v1 v2 v3 v4 v5:Value} (h:w.heap[B]?=some (.cells #[v0,v1,v2,v3,v4,v5] 121 (0,0))):
  w.cell? ⟨B,0,none⟩=some v0/\w.cell? ⟨B,1,none⟩=some v1/\w.cell? ⟨B,2,none⟩=some v2/\w.cell? ⟨B,3,none⟩=some v3/\w.cell? ⟨B,4,none⟩=some v4/\w.cell? ⟨B,5,none⟩=some v5:=by
 have hc:=fun j=>zzq2 w B j _ _ _ h
 exact⟨hc 0,hc 1,hc 2,hc 3,hc 4,hc 5⟩
theorem zpY (B:Nat) (u:RUnit) (lo fo go co:zzA) (lc fc gc cc:Nat) (b o:Nat) (x:RIns) (so co' go':zzA) (sc cc' gc':Nat) (f:Nat) (w:World) (hu:UBox w B u lo fo go co lc fc gc cc) (hl:u.lits.length<=9223372036854775807) (hlit:LitsOk w f lo u.lits) (hx:IBox w b o x so co' go' sc cc' gc'):
  Calls Tryz.prog 73 #[.pointer (some ⟨B,0,none⟩),.pointer (some ⟨b,o,none⟩)] w fun e w'=>e= .returned (.bool (zbo u.lits x))/\Below w.heap.size w w':=by
 refine zzK3 hu hx hlit fun HU HX HLI=>?_;have c0:=hx.c0;have c8:=hx.c8;have c9:=hx.c9;have rc:=hx.rcases;have rs:=hx.rsegs;have hwi:=fun wx=>zO (x.cases.length:Int) 1 1000 wx
 have HE:Hid (zbo u.lits x=(((!(x.op==12)||wi x.cases.length 1 1000)&&decide ((x.segs.length:Int)<=60))&&(zet u.lits x.cases&&x.segs.all (zbN u.lits.length)))):=zzH rfl;clear hu hx hlit;go_in;go_upto_region 1 with fail;generalize hr1:((!(x.op==12)||wi x.cases.length 1 1000)&&decide ((x.segs.length:Int)<=60))=r1 at HE;have HR1:=zzH hr1;clear hr1;go_cut [31] (fun s wx=> ∃n1:Bool,s= .bool n1/\Hid (n1= !r1)/\w=wx)
 case first=>
  generalize wi x.cases.length 1 1000=w1 at *
  cases t12:(x.op==12)with
  |true=>
   cases w1 with
   |false=>
    have hv:=zzH (HR1.out.symm.trans (by rw [t12];rfl:_=false));exact zz69
   |true=>
    by_cases s60:(x.segs.length:Int)<=60
    ·have hv:=zzH (HR1.out.symm.trans (by rw [t12,decide_eq_true s60];rfl:_=true))
     have sd:decide ((60:Int)<(x.segs.length:Int))=false:=zzD (by omega);exact zz69
    ·have hv:=zzH (HR1.out.symm.trans (by rw [t12,decide_eq_false s60];rfl:_=false))
     have s60':60<(x.segs.length:Int):=by omega
     clear s60;exact zz69
  |false=>
   by_cases s60:(x.segs.length:Int)<=60
   ·have hv:=zzH (HR1.out.symm.trans (by rw [t12,decide_eq_true s60];rfl:_=true))
    have sd:decide ((60:Int)<(x.segs.length:Int))=false:=zzD (by omega);exact zz70
   ·have hv:=zzH (HR1.out.symm.trans (by rw [t12,decide_eq_false s60];rfl:_=false))
    have s60':60<(x.segs.length:Int):=by omega
    clear s60;exact zz70
 case rest=>
  obtain⟨n1,rfl,hn1,rfl⟩:=hcut;clear HR1
  cases r1 with
  |false=>
   obtain rfl:n1=true:=hn1.out;go_wp2;go_ret;exact⟨zn (by rw [HE.out];rfl),zzR _ _⟩
  |true=>
   obtain rfl:n1=false:=hn1.out;have HE1:Hid (zbo u.lits x=(zet u.lits x.cases&&x.segs.all (zbN u.lits.length))):=zzH (by rw [HE.out,zzq15]);clear HE hwi;go_wp2_with fail;go_loopw [37] (fun i wr=> ∃k:Nat,k<=x.cases.length/\i= .int .i64 k/\Hid (∀j,j<k->zca u.lits x.cases j=true)/\Below w.heap.size w wr) (fun i _=>x.cases.length-(intOf i).toNat)
   case atStart=>exact⟨0,zzZ _,rfl,zzH (fun j h=>absurd h (zzC _)),zzR _ _⟩
   case round=>
    obtain⟨k,hk,rfl,HK,hBw⟩:=hrel;rename World=>wr
    by_cases hlt:k<x.cases.length
    ·have hxr:=HX.out.below hBw
     obtain⟨b1,off1,hco,hb1,q0,q1,rl,rt⟩:=hxr.cases.case hlt;subst hco;have hcl:=zgw hlt;have HBW:=zzH hBw;have u2:=(HU.out.below hBw).c2;have d8:=hxr.c8;have hBlt:=(HU.out.below hBw).lt;have hblt:=hxr.lt;generalize x.cases[k].to=ct at *;generalize x.cases[k].lit=cl at *;by_cases hin:0<=cl/\cl<=(u.lits.length:Int)-1
     ·obtain⟨m,rfl⟩: ∃m:Nat,cl=(m:Int):=⟨cl.toNat,by omega⟩
      have hm:m<u.lits.length:=by omega
      have hw1:=zev hin.1 hin.2;have hwr1:=zzV u.lits.length (by omega)
      have hwc:=fun wx=>zO (m:Int) 0 ((u.lits.length:Int)-1) wx
      have HW1:=zzH hw1;rw [hw1]at hwc;have HLW:=zzH (HLI.out.below hBw);obtain⟨b2,off2,ai,ci,hlo,hb2,p0,p1,p2,p3,p4,p5,p6,p7,p8,hit,hok⟩:=(HLI.out.below hBw).at'.tm hm;have hla:=zfh hm;refine zzK3 hcl hit hok fun HCL HIT HOK=>?_;clear hcl hw1 hin rl rt hxr hit hok;have hcx:Below wr.heap.size wr (wr.alloc (.cells #[.int .i64 (m:Int),.int .i64 ct] 119)):=zzE _ _;have v2:=(hcx.cell (p:=⟨B,2,none⟩) hBlt).trans u2;have HCX:=zzH hcx;clear hcx;go_wp2_with fail;go_quiet ((go_at_call 110;exact zze ((hwc _).mono fun _ _ ⟨a,b⟩=>⟨a,b.symm⟩)));have hbW:Below wr.heap.size wr ((wr.alloc (.cells #[.int .i64 (m:Int),.int .i64 ct] 119)).drewN nq):=zP HCX.out nq;have hbox:((wr.alloc (.cells #[.int .i64 (m:Int),.int .i64 ct] 119)).drewN nq).heap[wr.heap.size]?=some (.cells #[.int .i64 (m:Int),.int .i64 ct] 119 (0,0)):=zzF _ _
      clear v2 HCX;generalize(wr.alloc (.cells #[.int .i64 (m:Int),.int .i64 ct] 119)).drewN nq=W1 at *;have hCW:wr.heap.size<W1.heap.size:=zc hbox;have hlo2:lo=some ⟨b2,off2,none⟩:=hlo;subst hlo2;have v2:=(hbW.cell (p:=⟨B,2,none⟩) hBlt).trans u2;have n0:W1.cell? ⟨wr.heap.size,0,none⟩=some (.int .i64 (m:Int)):=by rw [zzq2 _ _ _ _ _ _ hbox];rfl
      have p0':=(hbW.cell (p:=⟨b2,off2+m*9,none⟩) hb2).trans p0;have HBW1:=zzH hbW;have HBOX:=zzH hbox;clear hbW hbox hwc;generalize hkk:(u.lits[m]).kind=kk at p0';have HKK:=zzH hkk;clear hkk;go_wp2_with fail;go_quiet (fail);have hbW:Below wr.heap.size wr (W1.drewN nq):=zP HBW1.out nq;have hbox:(W1.drewN nq).heap[wr.heap.size]?=some (.cells #[.int .i64 (m:Int),.int .i64 ct] 119 (0,0)):=HBOX.out
      clear v2 n0 p0' hCW HBW1 HBOX;generalize W1.drewN nq=W2 at *;have HBW2:=zzH hbW;by_cases hko:kk=1\/kk=2\/kk=8
      ·have HKO:Hid (zdb u.lits[m]=true):=zzH (by unfold zdb;rw [HKK.out];exact zzT hko)
       by_cases k0:k=0
       ·have HK2:Hid (∀j,j<k+1->zca u.lits x.cases j=true):=zzH (fun j hj=>by
         obtain rfl:j=k:=by omega
         unfold zca;rw [HCL.out,HW1.out,hla,HKO.out,decide_eq_true k0];rfl)
        have hd0:decide ((0:Int)<(k:Int))=false:=zzD (by omega);have hd1:decide (0<k)=false:=zzD (by omega);clear k0 hbW hbox;rcases hko with rfl|rfl|rfl
        all_goals
         go_wp2_with fail;go_quiet (fail);go_wp2_with fail;go_roundw
         case rel=>exact⟨k+1,by omega,by go_num,HK2,zP (HBW.out.trans (HBW2.out.mono HBW.out.size)) _⟩
         case measure=>simp [intOf];omega
       ·obtain⟨k',hk'⟩: ∃k',k=k'+1:=⟨k-1,by omega⟩
        have hlt':k'<x.cases.length:=by omega
        have hprev:=HK.out k' (by omega);obtain⟨b1',off1',hco',hb1',q0',q1',rl',rt'⟩:=(HX.out.below HBW.out).cases.case hlt';obtain⟨rfl,rfl⟩:b1=b1'/\off1=off1':=by injection hco' with h;injection h with h1 h2;exact⟨h1,h2⟩
        have hcl':=zgw hlt';generalize x.cases[k'].lit=cl' at *;generalize x.cases[k'].to=ct' at *;unfold zca at hprev;rw [hcl']at hprev
        have hpin:0<=cl'/\cl'<=(u.lits.length:Int)-1:=by
         exact zz71
        obtain⟨m',rfl⟩: ∃m':Nat,cl'=(m':Int):=⟨cl'.toNat,by omega⟩;have hm':m'<u.lits.length:=by omega
        rw [zfh hm']at hprev
        have hko':zdb u.lits[m']=true:=by
         cases h:zdb u.lits[m']with
         |true=>rfl
         |false=>rw [h]at hprev;simp at hprev
        obtain⟨b2',off2',ai',ci',hlo',hb2',r0,r1,r2,r3,r4,r5,r6,r7,r8,hit',hok'⟩:=HLW.out.at'.tm hm';obtain⟨rfl,rfl⟩:b2=b2'/\off2=off2':=by injection hlo' with h;injection h with h1 h2;exact⟨h1,h2⟩
        have hLess:=zpW (ci:=ci') (cj:=ci) HLW.out hm' hm hko' HKO.out hit' HIT.out hok' HOK.out
        have HOKK:Hid (zca u.lits x.cases k=decide (zcl u.lits[m'] u.lits[m]<0)):=zzH (by
         unfold zca;rw [HCL.out,HW1.out,hla,HKO.out,decide_eq_false k0,hk',Nat.add_sub_cancel,hcl',zfh hm'];simp)
        have hd0:decide ((0:Int)<(k:Int))=true:=zzT (by omega);have hd1:decide (0<k)=true:=zzT (by omega);have hwk:IntKind.i64.wrap ((k:Int)-1)=(k':Int):=by rw [zzq5];omega
        rw [HKK.out]at hLess p0;have v2:=(hbW.cell (p:=⟨B,2,none⟩) hBlt).trans u2;have v8:=(hbW.cell (p:=⟨b,o+8,none⟩) hblt).trans d8;have n0:W2.cell? ⟨wr.heap.size,0,none⟩=some (.int .i64 (m:Int)):=by rw [zzq2 _ _ _ _ _ _ hbox];rfl
        have q0'':=(hbW.cell (p:=⟨b1,off1+k'*2,none⟩) hb1).trans q0';have p0':=(hbW.cell (p:=⟨b2,off2+m*9,none⟩) hb2).trans p0;have p1':=(hbW.cell (p:=⟨b2,off2+m*9+1,none⟩) hb2).trans p1;have p2':=(hbW.cell (p:=⟨b2,off2+m*9+2,none⟩) hb2).trans p2;have p3':=(hbW.cell (p:=⟨b2,off2+m*9+3,none⟩) hb2).trans p3;have p4':=(hbW.cell (p:=⟨b2,off2+m*9+4,none⟩) hb2).trans p4;have p5':=(hbW.cell (p:=⟨b2,off2+m*9+5,none⟩) hb2).trans p5;have p6':=(hbW.cell (p:=⟨b2,off2+m*9+6,none⟩) hb2).trans p6;have p7':=(hbW.cell (p:=⟨b2,off2+m*9+7,none⟩) hb2).trans p7;have p8':=(hbW.cell (p:=⟨b2,off2+m*9+8,none⟩) hb2).trans p8;have r0':=(hbW.cell (p:=⟨b2,off2+m'*9,none⟩) hb2).trans r0;have r1':=(hbW.cell (p:=⟨b2,off2+m'*9+1,none⟩) hb2).trans r1;have r2':=(hbW.cell (p:=⟨b2,off2+m'*9+2,none⟩) hb2).trans r2;have r3':=(hbW.cell (p:=⟨b2,off2+m'*9+3,none⟩) hb2).trans r3;have r4':=(hbW.cell (p:=⟨b2,off2+m'*9+4,none⟩) hb2).trans r4;have r5':=(hbW.cell (p:=⟨b2,off2+m'*9+5,none⟩) hb2).trans r5;have r6':=(hbW.cell (p:=⟨b2,off2+m'*9+6,none⟩) hb2).trans r6;have r7':=(hbW.cell (p:=⟨b2,off2+m'*9+7,none⟩) hb2).trans r7;have r8':=(hbW.cell (p:=⟨b2,off2+m'*9+8,none⟩) hb2).trans r8;have hCW:wr.heap.size<W2.heap.size:=zc hbox;have hBW:B<W2.heap.size:=zzW hBlt HBW2.out.size;have hbW2:b<W2.heap.size:=zzW hblt HBW2.out.size;have hb1W:b1<W2.heap.size:=zzW hb1 HBW2.out.size;have hb2W:b2<W2.heap.size:=zzW hb2 HBW2.out.size;have HDW:Hid (Below wr.heap.size wr W2.drew):=zzH HBW2.out.drew;have SK0:=zzH (zY ((zzR W2.heap.size W2).drew));have SD:=zzH ((zzR W2.heap.size W2).drew);clear hbW hbox q0 q1 q0' q1' p0 p1 p2 p3 p4 p5 p6 p7 p8 r0 r1 r2 r3 r4 r5 r6 r7 r8 hprev hpin hcl' hla u2 d8 hit' hok' hlo' hco' rl' rt' k0 hk';generalize decide (zcl u.lits[m'] u.lits[m]<0)=q at *;generalize u.lits[m']=t' at *;generalize u.lits[m]=t at *;rcases hko with rfl|rfl|rfl
        all_goals
         cases q with
         |true=>
          have HK2:Hid (∀j,j<k+1->zca u.lits x.cases j=true):=zzH (fun j hj=>by
           rcases Nat.eq_or_lt_of_le (Nat.le_of_lt_succ hj)with h|h
           ·rw [h];exact HOKK.out
           ·exact HK.out j h)
          go_wp2_with fail
          first|go_region_held3 (fun w'=>W2.heap.size<=w'.heap.size/\ ∀b o,b<W2.heap.size->w'.cell? ⟨b,o,none⟩=W2.cell? ⟨b,o,none⟩) (first|with_reducible exact SK0.out|with_reducible exact HK5.out)
           ((go_at_call 115;refine(hLess _ HDW.out).mono ?_;rintro e w5 ⟨rfl,hb5⟩;have HK5:=zzH (zY (zd SD.out hb5));have HB5:=zzH (zd HDW.out hb5)))|fail
          go_wp2_with fail;go_roundw
          case rel=>exact⟨k+1,by omega,by go_num,HK2,HBW.out.trans (HB5.out.mono HBW.out.size)⟩
          case measure=>simp [intOf];omega
         |false=>
          have E:Hid (zbo u.lits x=false):=zzH (by rw [HE1.out,zeK hlt HOKK.out];rfl);go_wp2_with fail
          first|go_region_held3 (fun w'=>W2.heap.size<=w'.heap.size/\ ∀b o,b<W2.heap.size->w'.cell? ⟨b,o,none⟩=W2.cell? ⟨b,o,none⟩) (first|with_reducible exact SK0.out|with_reducible exact HK5.out)
           ((go_at_call 115;refine(hLess _ HDW.out).mono ?_;rintro e w5 ⟨rfl,hb5⟩;have HK5:=zzH (zY (zd SD.out hb5));have HB5:=zzH (zd HDW.out hb5)))|fail
          go_wp2;go_ret;exact⟨zn E.out.symm,HBW.out.trans (HB5.out.mono HBW.out.size)⟩
      ·have E:Hid (zbo u.lits x=false):=zzH (by
        rw [HE1.out,zeK hlt (by
         unfold zca zdb;rw [HCL.out,HW1.out,hla,HKK.out,decide_eq_false hko];rfl)];rfl)
       have t1:(kk==1)=false:=zzB.2 (fun h=>hko (.inl h));have t2:(kk==2)=false:=zzB.2 (fun h=>hko (.inr (.inl h)));have t8:(kk==8)=false:=zzB.2 (fun h=>hko (.inr (.inr h)));clear hko hbW hbox;go_wp2;go_ret;exact⟨zn E.out.symm,HBW.out.trans (HBW2.out.mono HBW.out.size)⟩
     ·have E:Hid (zbo u.lits x=false):=zzH (by rw [HE1.out,zeK hlt (by unfold zca;rw [hcl,zdK hin];rfl)];rfl)
      have hw0:=zdK hin;have hwr1:=zzV u.lits.length (by omega)
      have hwc:=fun wx=>zO cl 0 ((u.lits.length:Int)-1) wx
      rw [hw0]at hwc;clear hcl hw0 hin rl rt hxr;have hcx:Below wr.heap.size wr (wr.alloc (.cells #[.int .i64 cl,.int .i64 ct] 119)):=zzE _ _;have v2:=(hcx.cell (p:=⟨B,2,none⟩) hBlt).trans u2;have HCX:=zzH (hBw.trans (hcx.mono hBw.size));clear hcx;go_wp2_with fail;go_quiet ((go_at_call 110;exact zze ((hwc _).mono fun _ _ ⟨a,b⟩=>⟨a,b.symm⟩)));go_wp2;go_ret;exact⟨zn E.out.symm,zP HCX.out _⟩
    ·have HC1:Hid (zet u.lits x.cases=true):=zzH (ziw (fun j hj=>HK.out j (by omega)))
     have HE2:Hid (zbo u.lits x=x.segs.all (zbN u.lits.length)):=zzH (by rw [HE1.out,HC1.out,zzq15]);have hxr:=HX.out.below hBw;have d9:=hxr.c9;have HBW:=zzH hBw;have HI:Hid (x.segs.all (zbN u.lits.length)=(x.segs.drop 0).all (zbN u.lits.length)):=zzH rfl;clear hxr HK;obtain⟨wo,rfl⟩: ∃wo:World,wo=wr:=⟨_,rfl⟩;go_wp2_with fail;go_loopw [100] (fun i wq=> ∃k:Nat,k<=x.segs.length/\i= .int .i64 k/\Hid (x.segs.all (zbN u.lits.length)=(x.segs.drop k).all (zbN u.lits.length))/\Below w.heap.size w wq) (fun i _=>x.segs.length-(intOf i).toNat)
     case atStart=>exact⟨0,zzZ _,rfl,HI,HBW.out⟩
     case round=>
      obtain⟨k,hk,rfl,HK,hBq⟩:=hrel;rename World=>wr
      by_cases hlt:k<x.segs.length
      ·have hxr:=HX.out.below hBq
       obtain⟨b1,off1,hgo,hb1,s0,s1,s2,s3,s4,s5,t0,t1,t2,t3,t4⟩:=hxr.segs.seg hlt;subst hgo;have HST:Hid ((x.segs.drop k).all (zbN u.lits.length)=(zbN u.lits.length x.segs[k]&&(x.segs.drop (k+1)).all (zbN u.lits.length))):=zzH (by rw [List.drop_eq_getElem_cons hlt,List.all_cons]);have HUW:=HU.out.below hBq;have hu0:=HUW;have HBQ:=zzH hBq;have hop1:=fun wx (hx:Below wr.heap.size wr wx)=>zfo B u lo fo go co lc fc gc cc x.segs[k].val wx (hu0.below hx) hl ⟨t1,t2⟩
       have hop2:=fun wx (hx:Below wr.heap.size wr wx)=>zfo B u lo fo go co lc fc gc cc x.segs[k].size wx (hu0.below hx) hl ⟨t3,t4⟩
       have HSB:Hid (zbN u.lits.length x.segs[k]=(wi x.segs[k].type 1 3&&(zbi u.lits.length x.segs[k].val&&(((decide (x.segs[k].size.kind=0)&&decide (x.segs[k].size.n=0))||zbi u.lits.length x.segs[k].size)&&(!x.segs[k].little||x.segs[k].type==1))))):=zzH rfl;have hwt:=fun wx=>zO x.segs[k].type 1 3 wx
       generalize zbN u.lits.length x.segs[k]=sb at *;generalize zbi u.lits.length x.segs[k].val=ov at *;generalize zbi u.lits.length x.segs[k].size=os at *;generalize wi x.segs[k].type 1 3=wt at *;generalize x.segs[k]=g at *;obtain⟨ty,⟨vk,vn⟩,⟨sk,sn⟩,lit⟩:=g;simp only at *;have hbx:Below wr.heap.size wr (wr.alloc (.cells #[.int .i64 ty,.int .i64 vk,.int .i64 vn,.int .i64 sk,.int .i64 sn,.bool lit] 121)):=zzE _ _;have hbr:=zzF wr (.cells #[.int .i64 ty,.int .i64 vk,.int .i64 vn,.int .i64 sk,.int .i64 sn,.bool lit] 121);have HBX:=zzH hbx;have HBR:=zzH hbr;clear hbx hbr t0 t1 t2 t3 t4 hxr HUW hu0 hBq
       cases wt with
       |false=>
        cases sk0:(sk==0)with
        |false=>
         have hz:(decide (sk=0)&&decide (sn=0))=false:=by rw [decide_eq_false (by simpa using sk0)];rfl
         exact zz67
        |true=>
         cases sn0:(sn==0)with
         |false=>
          have hz:(decide (sk=0)&&decide (sn=0))=false:=by rw [decide_eq_false (p:=sn=0) (by simpa using sn0)];exact Bool.and_false _
          exact zz67
         |true=>
          have hz:(decide (sk=0)&&decide (sn=0))=true:=by rw [decide_eq_true (by simpa using sk0),decide_eq_true (by simpa using sn0)];rfl
          exact zz67
       |true=>
        cases ov with
        |false=>
         cases sk0:(sk==0)with
         |false=>
          have hz:(decide (sk=0)&&decide (sn=0))=false:=by rw [decide_eq_false (by simpa using sk0)];rfl
          exact zz66
         |true=>
          cases sn0:(sn==0)with
          |false=>
           have hz:(decide (sk=0)&&decide (sn=0))=false:=by rw [decide_eq_false (p:=sn=0) (by simpa using sn0)];exact Bool.and_false _
           exact zz66
          |true=>
           have hz:(decide (sk=0)&&decide (sn=0))=true:=by rw [decide_eq_true (by simpa using sk0),decide_eq_true (by simpa using sn0)];rfl
           exact zz66
        |true=>
         cases sk0:(sk==0)with
         |false=>
          have hz:(decide (sk=0)&&decide (sn=0))=false:=by rw [decide_eq_false (by simpa using sk0)];rfl
          exact zz65
         |true=>
          cases sn0:(sn==0)with
          |false=>
           have hz:(decide (sk=0)&&decide (sn=0))=false:=by rw [decide_eq_false (p:=sn=0) (by simpa using sn0)];exact Bool.and_false _
           exact zz65
          |true=>
           have hz:(decide (sk=0)&&decide (sn=0))=true:=by rw [decide_eq_true (by simpa using sk0),decide_eq_true (by simpa using sn0)];rfl
           rw [hz]at HSB;clear hz;go_wp2_with (go_at_call 110;refine(hwt _).mono ?_;rintro e w1 ⟨rfl,rfl⟩);refine(hop1 _ HBX.out).mono ?_;rintro e w5 ⟨rfl,hb5⟩;have HB5:=zzH (zd HBX.out hb5);have hbra:=(hb5.block wr.heap.size (zc HBR.out)).trans HBR.out;obtain⟨g0,g1,g2,g3,g4,g5⟩:=zc4 hbra;clear hb5
           cases lit with
           |false=>
            have hsv0:sb=true:=by rw [HSB.out];simp []
            exact zz68
           |true=>
            cases ty1:(ty==1)with
            |true=>
             have ty2 : (ty != 1) = false := by unfold bne; rw [ty1]; rfl
             have hsv0:sb=true:=by rw [HSB.out];simp [ty1]
             exact zz68
            |false=>
             have ty2 : (ty != 1) = true := by unfold bne; rw [ty1]; rfl
             have hsv0:sb=false:=by rw [HSB.out];simp [ty1]
             have HSV:=zzH hsv0;clear hsv0;have HE3:Hid (zbo u.lits x=false):=zzH (by rw [HE2.out,HK.out,HST.out,HSV.out];rfl);go_wp2;go_ret;exact⟨zn HE3.out.symm,HBQ.out.trans (HB5.out.mono HBQ.out.size)⟩
      ·have HE3:Hid (zbo u.lits x=true):=zzH (by rw [HE2.out,HK.out,zzq8 (by omega)];rfl)
       go_wp2;go_ret;exact⟨zn HE3.out.symm,hBq⟩
def ztJ (w:World) (lo:Option Addr) (u:RUnit) (e:Ending) (w':World):Prop:=
 ∃b,e= .returned (.bool b)/\Below w.heap.size w w'/\(b=false->u.lits.length<=400/\ ∃f,SlAt w 9 (TmAt w f) lo u.lits/\0<=zbS f u.lits 3000)
theorem zsV {w:World} {lo:zzA} {l:List Tm} {f:Nat} (h:SlAt w 9 (TmAt w f) lo l) (hp:0<=zbS f l 3000): ∃g,SlAt w 9 (TmAt w (g+1)) lo l/\ ∀t∈l,(zG (g+1) t:Int)<=1152921504606846976:=by
 cases f with
 |zero=>obtain rfl:=h.zero;exact⟨0,.inl rfl,fun t ht=>by cases ht⟩
 |succ g=>
  refine⟨g,h,fun t ht=>?_⟩
  have hc:=zkV (w:=w) (g+1) l 3000 (fun x hx=>by
   obtain⟨j,hj,rfl⟩:=List.getElem_of_mem hx;obtain⟨_,_,_,_,hr⟩:=h.row hj;obtain⟨cs',_,_,h'⟩:=hr j hj;exact⟨cs',h'⟩) hp
  have hm:=zko (l.map (zG (g+1))) _ (List.mem_map.2 ⟨t,ht,rfl⟩);omega
theorem zm9 (u:RUnit) (lo fo go co:zzA) (lc fc gc cc:Nat) (w:World) (h:UP w u lo fo go co):
  Calls Tryz.prog 4 #[.agg (zzu u lo lc fo fc go gc co cc)] w (ztJ w lo u):=by
 unfold zzu;obtain⟨f,hf⟩:=zjp h.lits;have HF:=zzH hf;have HU:=zzH h;clear hf;have r1:=h.litsLen;have r2:=h.funcsLen;have r3:=h.funsLen;have r4:=h.codeLen;clear h;go_in;go_upto_region 1 with fail;have hbx:=zcJ w u lo fo go co lc fc gc cc;have hba:Below w.heap.size w (w.alloc (.cells (zzu u lo lc fo fc go gc co cc) 27)):=zzE _ _;generalize w.alloc (.cells (zzu u lo lc fo fc go gc co cc) 27)=Wa at *;have HBA:=zzH hba;generalize w.heap.size=B at hbx ⊢;have b2:=hbx.c2;have b3:=hbx.c3;have b4:=hbx.c4;have b5:=hbx.c5;clear hbx hba;by_cases c0:2000<u.code.length
 ·have d0:decide ((2000:Int)<(u.code.length:Int))=true:=zzT (by omega)
  exact zz131
 have d0:decide ((2000:Int)<(u.code.length:Int))=false:=zzD (by omega);by_cases c1:300<u.lits.length
 ·have d1:decide ((300:Int)<(u.lits.length:Int))=true:=zzT (by omega)
  exact zz131
 have d1:decide ((300:Int)<(u.lits.length:Int))=false:=zzD (by omega);by_cases c2:300<u.funcs.length
 ·have d2:decide ((300:Int)<(u.funcs.length:Int))=true:=zzT (by omega)
  exact zz131
 have d2:decide ((300:Int)<(u.funcs.length:Int))=false:=zzD (by omega);by_cases c3:1100<u.funs.length
 ·have d3:decide ((1100:Int)<(u.funs.length:Int))=true:=zzT (by omega)
  exact zz131
 have d3:decide ((1100:Int)<(u.funs.length:Int))=false:=zzD (by omega);have hG:=zpF f lo lc u.lits 3000 Wa (HF.out.tms HBA.out) (by unfold maxLen;omega) (by decide) (by decide);have HD:Hid (decide (zbS f u.lits 3000<0)=false->0<=zbS f u.lits 3000):=zzH (fun e=>by have:=of_decide_eq_false e;omega);generalize decide (zbS f u.lits 3000<0)=q at *;go_wp2_with fail;refine hG.mono ?_;rintro e w5 ⟨rfl,hb5⟩;go_wp2;go_ret;exact⟨q,rfl,HBA.out.trans (hb5.mono HBA.out.size),fun e=>⟨by omega,f,HF.out,HD.out e⟩⟩
theorem zoA (u:RUnit) (lo fo go co:zzA) (lc fc gc cc:Nat) (n:ByteArray) (ar:Int) (w:World) (h:UP w u lo fo go co):
  Calls Tryz.prog 123 #[.agg (zzu u lo lc fo fc go gc co cc),.string n,.int .i64 ar] w fun e w'=>
   e= .returned (.tuple #[.int .i64 (zgI n ar u.funcs),.bool (zhy n ar u.funcs)])/\Below w.heap.size w w':=by
 unfold zzu;have HU:=zzH h;have r2:=h.funcsLen;have HI:Hid (zcT n ar u.funcs 0=zcT n ar (u.funcs.drop 0) 0):=zzH rfl;clear h;go_in;go_wp2_with fail;have hbx:=zcJ w u lo fo go co lc fc gc cc;have hba:Below w.heap.size w (w.alloc (.cells (zzu u lo lc fo fc go gc co cc) 27)):=zzE _ _;generalize w.alloc (.cells (zzu u lo lc fo fc go gc co cc) 27)=Wa at *;have HUa:=zzH (HU.out.below hba);have HBA:=zzH hba;generalize w.heap.size=B at hbx ⊢;have b3:=hbx.c3;clear hbx hba;go_loop [6,7,8] (fun rv sv iv=> ∃k:Nat,k<=u.funcs.length/\iv= .int .i64 k/\rv= .int .i64 0/\sv= .bool false/\Hid (zcT n ar u.funcs 0=zcT n ar (u.funcs.drop k) k)) (fun _ _ iv=>u.funcs.length-(intOf iv).toNat)
 case atStart=>exact⟨0,zzZ _,rfl,rfl,rfl,HI⟩
 case round=>
  obtain⟨k,hk,rfl,rfl,rfl,HK⟩:=hrel;by_cases hlt:k<u.funcs.length
  ·obtain⟨b,off,hao,hb,q0,q1,q2,q3,s1,s2,s3⟩:=HUa.out.funcs.func hlt
   subst hao;unfold maxLen at s1;have hhit:=zpU (n:=n) (a:=ar) (i:=k) hlt;have hmiss:=zm4 (n:=n) (a:=ar) (i:=k) hlt;have HH:=zzH hhit;have HM:=zzH hmiss;clear hhit hmiss;generalize u.funcs[k]=x at *;by_cases c1:x.name=n
   ·have hn:(x.name.toList==n.toList)=true:=by rw [c1];exact beq_self_eq_true _
    by_cases c2:x.arity=ar
    ·have ha:(x.arity==ar)=true:=by rw [c2];exact beq_self_eq_true _
     have E1:Hid (zgI n ar u.funcs=k):=zzH (by unfold zgI;rw [HK.out,HH.out ⟨c1,c2⟩]);have E2:Hid (zhy n ar u.funcs=true):=zzH (by unfold zhy;rw [HK.out,HH.out ⟨c1,c2⟩];rfl);clear c1 c2;go_wp2;go_ret2;exact⟨zoL E1.out.symm E2.out.symm,HBA.out⟩
    ·have ha:(x.arity==ar)=false:=zzB.2 c2
     have HK2:Hid (zcT n ar u.funcs 0=zcT n ar (u.funcs.drop (k+1)) (k+1)):=zzH (by rw [HK.out,HM.out (fun h=>c2 h.2)]);clear c1 c2;exact zz176
   ·have hn:(x.name.toList==n.toList)=false:=by
     rw [zzq14,zzq14,zzq3];exact fun e=>c1 (ByteArray.ext (by simpa using e))
    have HK2:Hid (zcT n ar u.funcs 0=zcT n ar (u.funcs.drop (k+1)) (k+1)):=zzH (by rw [HK.out,HM.out (fun h=>c1 h.1)]);clear c1;exact zz176
  ·have E:Hid (zcT n ar u.funcs 0=none):=zzH (by rw [HK.out,zzq8 (by omega)];rfl)
   have E1:Hid (zgI n ar u.funcs=0):=zzH (by unfold zgI;rw [E.out]);have E2:Hid (zhy n ar u.funcs=false):=zzH (by unfold zhy;rw [E.out];rfl);go_wp2;go_ret2;exact⟨zoL E1.out.symm E2.out.symm,HBA.out⟩
theorem zqd (w:World) (n:Int) (h0:0<=n) (h9:n<=9):(convert 65 9 (.slice (some ⟨w.heap.size,0,none⟩) 1 1)).run Tryz.prog (w.alloc (.cells #[.int .u8 (48+n)] 5))= .ok (.string ⟨#[UInt8.ofNat (48+n.toNat)]⟩) (w.alloc (.cells #[.int .u8 (48+n)] 5)):=by
 have:=run_convert_bytes_back (P:=Tryz.prog) (w.alloc (.cells #[.int .u8 (48+n)] 5)) 65 9 5 ⟨w.heap.size,0,none⟩ 1 [UInt8.ofNat (48+n.toNat)] Tryz.underlying65 Tryz.underlying5 Tryz.underlying9 (fun j hj=>by
  have hj0:j=0:=by simp at hj;exact hj
  subst hj0;have ha:(⟨w.heap.size,0,none⟩:Addr).add 0=⟨w.heap.size,0,none⟩:=by unfold Addr.add;split<;>simp_all
  rw [ha,zzq2 _ _ _ _ _ _ (heap_alloc_new _ _)];have:((UInt8.ofNat (48+n.toNat)).toNat:Int)=48+n:=by rw [UInt8.toNat_ofNat'];omega
  simp only [List.getElem_cons_zero];rw [this]
  rfl)
 exact this
theorem zeY (s:ByteArray) (n:Int) (w:World) (hs:s.size<=maxLen):Calls Tryz.prog 128 #[.string s,.int .i64 n] w fun e w'=>e= .returned (.int .i64 (zc7 s n))/\Below w.heap.size w w':=by
 have hn:=zdE s w hs;have HC:Hid (¬(zw s=true/\0<=n/\n<=9)->zc7 s n=0):=zzH (fun h=>by unfold zc7;rw [if_neg h])
 cases hv:zw s with
 |false=>
  have E:Hid (zc7 s n=0):=zzH (HC.out (by rw [hv];simp));rw [hv]at hn;exact zz194
 |true=>
  rw [hv]at hn;by_cases h0:n<0
  ·have E:Hid (zc7 s n=0):=zzH (HC.out (by rintro⟨_,h,_⟩;omega))
   exact zz194
  ·by_cases h9:9<n
   ·have E:Hid (zc7 s n=0):=zzH (HC.out (by rintro⟨_,_,h⟩;omega))
    exact zz194
   ·have hz:s.size<=32:=(by unfold zw at hv;rw [zzq6,zzq6,zzq7,zzq7]at hv;exact hv.1.2)
    have HV:=zzH hv;have hcv:=zqd w n (by omega) (by omega);clear hv HC;go_in;go_upto_region 4 with(go_at_call 121;refine hn.mono ?_;rintro e w1 ⟨rfl,rfl⟩);clear hcv hn
    have hwd:((({data:=#[32]}:ByteArray)++s++ {data:=#[47]}++ {data:=#[48+UInt8.ofNat n.toNat]}++ {data:=#[32]}):ByteArray).data.toList=32::(zb5 s n.toNat++ [32]):=by
     unfold zb5;simp
    have hws:((({data:=#[32]}:ByteArray)++s++ {data:=#[47]}++ {data:=#[48+UInt8.ofNat n.toNat]}++ {data:=#[32]}):ByteArray).size<=100:=by
     have:=congrArg List.length hwd;unfold zb5 at this;simp only [Array.length_toList,zzq18,zzq1,List.length_nil]at this;show _<=_;have e:s.data.size=s.size:=rfl;rw [e]at this;exact zzY (Nat.le_of_eq this) (by omega)
    have HWD:=zzH hwd;generalize((({data:=#[32]}:ByteArray)++s++ {data:=#[47]}++ {data:=#[48+UInt8.ofNat n.toNat]}++ {data:=#[32]}):ByteArray)=W at *;have HB:Hid (Below w.heap.size w (w.alloc (.cells #[.int .u8 (48+n)] 5))):=zzH (zzE _ _);have HCL:Hid (zc7 s n=if zb5 s n.toNat∈zdQ 1 then 1 else if zb5 s n.toNat∈zdQ 2 then 2 else if zb5 s n.toNat∈zdQ 3 then 3 else if zb5 s n.toNat∈zdQ 4 then 4 else 0):=zzH (by unfold zc7;rw [if_pos ⟨HV.out,by omega,by omega⟩];rfl);have HHO:Hid (∀c,1<=c/\c<=4->zd8 (zif c) W.data.toList=decide (zb5 s n.toNat∈zdQ c)):=zzH (fun c hc=>by rw [HWD.out];exact zmC HV.out (by omega) hc);clear hwd;generalize w.alloc (.cells #[.int .u8 (48+n)] 5)=Wa at *;go_wp2_with fail;go_loop [6] (fun cv=> ∃c:Nat,1<=c/\c<=5/\cv= .int .i64 c/\Hid (∀j,1<=j->j<c->zb5 s n.toNat∉zdQ j)) (fun cv=>5-(intOf cv).toNat)
    case atStart=>exact⟨1,by decide,by decide,by go_num,zzH (fun j h1 h2=>by omega)⟩
    case round=>
     obtain⟨c,hc1,hc5,rfl,HK⟩:=hrel;by_cases hlt:c<=4
     ·have hna:=zmG c ⟨hc1,hlt⟩ Wa
      have hho:=zou (zgq c) W Wa (zzY (zlF c hlt) (by decide)) (by omega)
      have hq:zd8 (zgq c).data.toList W.data.toList=decide (zb5 s n.toNat∈zdQ c):=by
       have e:(zgq c).data.toList=zif c:=by unfold zgq;simp
       rw [e];exact HHO.out c ⟨hc1,hlt⟩
      rw [hq]at hho;clear hq;by_cases hm:zb5 s n.toNat∈zdQ c
      ·have E:Hid (zc7 s n=c):=zzH (by
        rw [HCL.out];have n1:=HK.out 1;have n2:=HK.out 2;have n3:=HK.out 3;rcases(show c=1\/c=2\/c=3\/c=4 by omega)with rfl|rfl|rfl|rfl
        ·rw [if_pos hm];rfl
        ·rw [if_neg (n1 (by decide) (by decide)),if_pos hm];rfl
        ·rw [if_neg (n1 (by decide) (by decide)),if_neg (n2 (by decide) (by decide)),if_pos hm];rfl
        ·rw [if_neg (n1 (by decide) (by decide)),if_neg (n2 (by decide) (by decide)),if_neg (n3 (by decide) (by decide)),if_pos hm];rfl)
       rw [decide_eq_true hm]at hho;clear hm;go_wp2_with fail;refine hna.mono ?_;rintro e w1 ⟨rfl,rfl⟩;go_wp2_with fail;refine hho.mono ?_;rintro e w1 ⟨rfl,rfl⟩;go_wp2;go_ret;exact⟨zcQ E.out.symm,HB.out⟩
      ·have HN2:Hid (∀j,1<=j->j<c+1->zb5 s n.toNat∉zdQ j):=zzH (fun j h1 h2=>by
        rcases Nat.eq_or_lt_of_le (Nat.le_of_lt_succ h2)with e|e
        ·subst e;exact hm
        ·exact HK.out j h1 e)
       rw [decide_eq_false hm]at hho;clear hm;go_wp2_with fail;refine hna.mono ?_;rintro e w1 ⟨rfl,rfl⟩;go_wp2_with fail;refine hho.mono ?_;rintro e w1 ⟨rfl,rfl⟩;go_wp2_with fail;go_round
       case rel=>exact⟨c+1,by omega,by omega,by go_num,HN2⟩
       case measure=>simp [intOf];omega
     ·have E:Hid (zc7 s n=0):=zzH (by
       rw [HCL.out,if_neg (HK.out 1 (by decide) (by omega)),if_neg (HK.out 2 (by decide) (by omega)),if_neg (HK.out 3 (by decide) (by omega)),if_neg (HK.out 4 (by decide) (by omega))])
      go_wp2;go_ret;exact⟨zcQ E.out.symm,HB.out⟩
end Go.Proofs.YtijekmeocadkeaaGreatDoor
