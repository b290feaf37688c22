import Derived.Test.YthajedcbgnloeaaGreatDoorW03
import Derived.Test.YthajedcbgnloeaaGreatDoorW04
namespace Go.Proofs.YthajedcbgnloeaaGreatDoor
open Go.RowKit
set_option linter.unusedVariables false
set_option linter.unusedSimpArgs false
set_option maxRecDepth 100000
set_option maxHeartbeats 0
theorem zjy (x:Int) (w:World):Calls Tryz.prog 193 #[.int .i64 x] w fun e w'=>e= .returned (.bool false)/\w=w':=by
 go_in;go_wp2;go_ret;exact⟨rfl,rfl⟩
theorem zid (x y:Int) (w:World):Calls Tryz.prog 151 #[.int .i64 x,.int .i64 y] w fun e w'=>e= .returned (.int .i64 (Lib.compareInt x y))/\w=w':=by
 by_cases h1:x<y
 ·have E:Hid (Lib.compareInt x y= -1):=zzH (by unfold Lib.compareInt;rw [if_pos h1])
  exact zz47
 ·by_cases h2:y<x
  ·have E:Hid (Lib.compareInt x y=1):=zzH (by unfold Lib.compareInt;rw [if_neg h1,if_pos h2])
   have h1':y<=x:=by omega
   clear h1;exact zz47
  ·obtain rfl:x=y:=by omega
   have E:Hid (Lib.compareInt x x=0):=zzH (by unfold Lib.compareInt;rw [if_neg h1,if_neg h1]);clear h1 h2;exact zz47
def orL:List Int->Int
 |[]=>0
 |x::l=>if x=0 then orL l else x
theorem zoV {l:List Int} {k:Nat} (h:k<l.length):orL (l.drop k)=if l[k]=0 then orL (l.drop (k+1))else l[k]:=by rw [List.drop_eq_getElem_cons h,orL]
theorem zqA (l:List Int) (hl:l.length<=1000) (B c:Nat) (w:World) (hc: ∀k (h:k<l.length),w.cell? ⟨B,k,none⟩=some (.int .i64 l[k])):
  Calls Tryz.prog 149 #[.slice (some ⟨B,0,none⟩) l.length c] w fun e w'=>e= .returned (.int .i64 (orL l))/\w=w':=by
 have HC:=zzH hc;have HI:Hid (orL l=orL (l.drop 0)):=zzH rfl;clear hc;go_in;go_wp2_with fail;go_loop [5,8] (fun _ i=> ∃k:Nat,k<=l.length/\i= .int .i64 k/\Hid (orL l=orL (l.drop k))) (fun _ i=>l.length-(intOf i).toNat)
 case atStart=>exact⟨0,zzZ _,rfl,HI⟩
 case round=>
  obtain⟨k,hk,rfl,HK⟩:=hrel;by_cases hlt:k<l.length
  ·have hcell:=HC.out k hlt
   have HD:=zzH (zoV hlt);generalize l[k]=x at *;by_cases hx:x=0
   ·have HK2:Hid (orL l=orL (l.drop (k+1))):=zzH (by rw [HK.out,HD.out,if_pos hx])
    have hb : (x != 0) = false := by rw [hx]; rfl
    clear hx;go_wp2;go_round
    case rel=>exact⟨k+1,by omega,by go_num,HK2⟩
    case measure=>simp [intOf];omega
   ·have E:Hid (orL l=x):=zzH (by rw [HK.out,HD.out,if_neg hx])
    have hb : (x != 0) = true := by rw [bne_iff_ne]; exact hx
    clear hx;go_wp2;go_ret;exact⟨zcF E.out.symm,rfl⟩
  ·have E:Hid (orL l=0):=zzH (by rw [HK.out,zzq10 (by omega)];rfl)
   go_wp2;go_ret;exact⟨zcF E.out.symm,rfl⟩
theorem znF (ao bo:zzA) (c d:Nat) (v:Value) (w:World):
  Calls Tryz.prog 190 #[.slice ao 0 c,.slice bo 0 d,v] w fun e w'=>e= .returned (.int .i64 0)/\w=w':=by
 go_in;go_wp2_with fail;go_loop [11] (fun i=>i= .int .i64 0) (fun _=>0)
 case atStart=>rfl
 case round=>
  obtain rfl:=hrel;exact zz48
theorem zmm (ao bo:zzA) (c d:Nat) (w:World):
  Calls Tryz.prog 146 #[.slice ao 0 c,.slice bo 0 d] w fun e w'=>e= .returned (.int .i64 0)/\w=w':=by
 have hc:=Tryz.cmp_Compare_int 0 0 w;rw [show Lib.compareInt 0 0=0 by decide]at hc;go_in;go_wp2_with fail;refine hc.mono ?_;rintro e w1 ⟨rfl,rfl⟩;go_wp2_with (go_at_call 190;refine(znF _ _ _ _ _ _).mono ?_;rintro e w2 ⟨rfl,rfl⟩);go_ret;exact⟨rfl,rfl⟩
theorem zoU (w:World) (x1 x2 x3 x4 x5:Int): ∀k (h:k< [x1,x2,x3,x4,x5].length),(w.alloc (.cells #[.int .i64 x1,.int .i64 x2,.int .i64 x3,.int .i64 x4,.int .i64 x5] 3)).drew.cell? ⟨w.heap.size,k,none⟩=some (.int .i64 [x1,x2,x3,x4,x5][k]):=fun k h=>by
 have hr:=zzF w (.cells #[.int .i64 x1,.int .i64 x2,.int .i64 x3,.int .i64 x4,.int .i64 x5] 3);have hc:=zzq0 _ _ k _ _ _ hr;refine Eq.trans (show _=(w.alloc (.cells #[.int .i64 x1,.int .i64 x2,.int .i64 x3,.int .i64 x4,.int .i64 x5] 3)).cell? ⟨w.heap.size,k,none⟩from rfl) (hc.trans ?_)
 match k,h with
 |0,_=>rfl
 |1,_=>rfl
 |2,_=>rfl
 |3,_=>rfl
 |4,_=>rfl
 |k+5,h=>exact absurd h (by simp)
def zcl (a b:Tm):Int:=if Lib.compareInt a.kind b.kind=0 then orL [Lib.compareBytes a.name.data.toList b.name.data.toList,Lib.compareBytes a.func.data.toList b.func.data.toList,Lib.compareInt a.gen b.gen,Lib.compareInt a.int b.int,Lib.compareInt a.arity b.arity]else Lib.compareInt a.kind b.kind
theorem ziI (a b:Tm) (ao bo:zzA) (c d:Nat) (w:World) (ha:a.items= []) (hb:b.items= []) (h7:a.kind≠7) (h9:a.kind≠9) (h10:a.kind≠10):
  Calls Tryz.prog 127 #[.agg (zzt a ao c),.agg (zzt b bo d)] w fun e w'=>e= .returned (.int .i64 (zcl a b))/\Below w.heap.size w w':=by
 unfold zzt;have hla:a.items.length=0:=by rw [ha];rfl
 have hlb:b.items.length=0:=by rw [hb];rfl
 rw [hla,hlb];have hB:=zZ w (.cells #[.int .i64 a.kind,.int .i64 a.int,.int .i64 a.gen,.string a.name,.string a.func,.int .i64 a.arity,.slice ao 0 c,.string a.bytes,.int .i64 a.bits] 110) (.cells #[.int .i64 b.kind,.int .i64 b.int,.int .i64 b.gen,.string b.name,.string b.func,.int .i64 b.arity,.slice bo 0 d,.string b.bytes,.int .i64 b.bits] 110);have r0:=zfy w (.cells #[.int .i64 a.kind,.int .i64 a.int,.int .i64 a.gen,.string a.name,.string a.func,.int .i64 a.arity,.slice ao 0 c,.string a.bytes,.int .i64 a.bits] 110) (.cells #[.int .i64 b.kind,.int .i64 b.int,.int .i64 b.gen,.string b.name,.string b.func,.int .i64 b.arity,.slice bo 0 d,.string b.bytes,.int .i64 b.bits] 110);have r1:=zeP w (.cells #[.int .i64 a.kind,.int .i64 a.int,.int .i64 a.gen,.string a.name,.string a.func,.int .i64 a.arity,.slice ao 0 c,.string a.bytes,.int .i64 a.bits] 110) (.cells #[.int .i64 b.kind,.int .i64 b.int,.int .i64 b.gen,.string b.name,.string b.func,.int .i64 b.arity,.slice bo 0 d,.string b.bytes,.int .i64 b.bits] 110);have hcmp:=fun wx=>Tryz.cmp_Compare_int a.kind b.kind wx
 have E0:Hid (zcl a b=if Lib.compareInt a.kind b.kind=0 then orL [Lib.compareBytes a.name.data.toList b.name.data.toList,Lib.compareBytes a.func.data.toList b.func.data.toList,Lib.compareInt a.gen b.gen,Lib.compareInt a.int b.int,Lib.compareInt a.arity b.arity]else Lib.compareInt a.kind b.kind):=zzH rfl;have HB:=zzH hB;clear hla hlb ha hb;generalize hk:Lib.compareInt a.kind b.kind=kk at *;by_cases hz:kk=0
 ·subst hz
  rw [if_pos rfl]at E0;have hs1: ∀wx,Calls Tryz.prog 150 #[.string a.name,.string b.name] wx fun e w'=>e= .returned (.int .i64 (Lib.compareBytes a.name.data.toList b.name.data.toList))/\wx=w':=fun wx=>(Tryz.strings_Compare _ _ wx).mono fun _ _ ⟨h,h'⟩=>⟨h,h'.symm⟩
  have hs2: ∀wx,Calls Tryz.prog 150 #[.string a.func,.string b.func] wx fun e w'=>e= .returned (.int .i64 (Lib.compareBytes a.func.data.toList b.func.data.toList))/\wx=w':=fun wx=>(Tryz.strings_Compare _ _ wx).mono fun _ _ ⟨h,h'⟩=>⟨h,h'.symm⟩
  have hs3:=fun wx=>zid a.gen b.gen wx
  have hs4:=fun wx=>zid a.int b.int wx
  have hs5: ∀wx,Calls Tryz.prog 145 #[.int .i64 a.arity,.int .i64 b.arity] wx fun e w'=>e= .returned (.int .i64 (Lib.compareInt a.arity b.arity))/\wx=w':=fun wx=>(Tryz.cmp_Compare_int _ _ wx).mono fun _ _ ⟨h,h'⟩=>⟨h,h'.symm⟩
  generalize Lib.compareBytes a.name.data.toList b.name.data.toList=x1 at *;generalize Lib.compareBytes a.func.data.toList b.func.data.toList=x2 at *;generalize Lib.compareInt a.gen b.gen=x3 at *;generalize Lib.compareInt a.int b.int=x4 at *;generalize Lib.compareInt a.arity b.arity=x5 at *;have t7:(a.kind==7)=false:=zzB.2 h7;have t9:(a.kind==9)=false:=zzB.2 h9;have t10:(a.kind==10)=false:=zzB.2 h10;clear h7 h9 h10 hk;go_in;go_upto_region 11 with((go_at_call 145;refine(hcmp _).mono ?_;rintro e w1 ⟨rfl,rfl⟩));generalize(w.alloc (.cells #[.int .i64 a.kind,.int .i64 a.int,.int .i64 a.gen,.string a.name,.string a.func,.int .i64 a.arity,.slice ao 0 c,.string a.bytes,.int .i64 a.bits] 110)).alloc (.cells #[.int .i64 b.kind,.int .i64 b.int,.int .i64 b.gen,.string b.name,.string b.func,.int .i64 b.arity,.slice bo 0 d,.string b.bytes,.int .i64 b.bits] 110)=W at *;obtain⟨q0,q1,q2,q3,q4,q5,q6,q7,q8,zq⟩:=zv r0;obtain⟨p0,p1,p2,p3,p4,p5,p6,p7,p8,zp⟩:=zv r1;have hl0:=zd r0;have hl1:=zd r1;clear zq zp r0 r1;generalize hBe:w.heap.size=B at *;have HBE:=zzH hBe;clear hBe;refine zzK3 (zby (zzR W.heap.size W).drew) (zby ((zzR W.heap.size W).alloc (zzL _) (.cells #[.int .i64 x1,.int .i64 x2,.int .i64 x3,.int .i64 x4,.int .i64 x5] 3)).drew) (zoU W x1 x2 x3 x4 x5) fun SK0 SK1 HC=>?_;have hor:=fun(B c:Nat) (wx:World) hc=>zqA [x1,x2,x3,x4,x5] (by simp) B c wx hc
  generalize orL [x1,x2,x3,x4,x5]=r at *;have HOR:=zzH hor;clear hor
  first|go_region_held3 (fun w'=>W.heap.size<=w'.heap.size/\ ∀b o,b<W.heap.size->w'.cell? ⟨b,o,none⟩=W.cell? ⟨b,o,none⟩) (first|with_reducible exact SK0.out|with_reducible exact SK1.out)
   (first
    |(go_at_call 150;(first|(with_reducible refine(hs1 _).mono ?_)|(with_reducible refine(hs2 _).mono ?_));rintro e w1 ⟨rfl,rfl⟩)
    |(go_at_call 151;(first|(with_reducible refine(hs3 _).mono ?_)|(with_reducible refine(hs4 _).mono ?_));rintro e w1 ⟨rfl,rfl⟩)
    |(go_at_call 145;(with_reducible refine(hs5 _).mono ?_);rintro e w1 ⟨rfl,rfl⟩)
    |(go_at_call 149;refine(HOR.out _ _ _ HC.out).mono ?_;rintro e w1 ⟨rfl,rfl⟩))|fail
  by_cases hr:r=0
  ·have hrb : (r != 0) = false := by rw [hr]; rfl
   have ER:Hid (zcl a b=0):=zzH (E0.out.trans hr);clear hr;go_wp2_with (go_at_call 146;refine(zmm _ _ _ _ _).mono ?_;rintro e w2 ⟨rfl,rfl⟩);go_ret;exact⟨zcF ER.out.symm,(by rw [HBE.out];exact(HB.out.alloc (by rw [<-HBE.out];exact HB.out.size) _).drew)⟩
  ·have hrb : (r != 0) = true := by rw [bne_iff_ne]; exact hr
   clear hr;go_wp2;go_ret;exact⟨zcF E0.out.symm,(by rw [HBE.out];exact(HB.out.alloc (by rw [<-HBE.out];exact HB.out.size) _).drew)⟩
 ·have hnb : (kk != 0) = true := by rw [bne_iff_ne]; exact hz
  rw [if_neg hz]at E0;clear hz hk;go_in;go_wp2_with ((go_at_call 145;refine(hcmp _).mono ?_;rintro e w1 ⟨rfl,hw1⟩;rw [hw1]));go_ret;exact⟨zcF E0.out.symm,HB.out⟩
theorem zhE (f:Nat) (a b:Tm) (ao bo:zzA) (c d:Nat) (w:World) (hta:SlAt w 9 (TmAt w f) ao a.items) (htb:SlAt w 9 (TmAt w f) bo b.items) (oa:a.Ok) (ob:b.Ok) (ca:(zR (f+1) a:Int)<=1152921504606846976) (cb:(zR (f+1) b:Int)<=1152921504606846976)
  (va:zM (f+1) a=true) (vb:zM (f+1) b=true) (ha:a.items= []) (hb:b.items= []) (h7:a.kind≠7) (h9:a.kind≠9) (h10:a.kind≠10):
  Calls Tryz.prog 95 #[.agg (zzt a ao c),.agg (zzt b bo d)] w fun e w'=>e= .returned (.int .i64 (zcl a b))/\Below w.heap.size w w':=by
 unfold zzt;have hB:=zZ w (.cells #[.int .i64 a.kind,.int .i64 a.int,.int .i64 a.gen,.string a.name,.string a.func,.int .i64 a.arity,.slice ao a.items.length c,.string a.bytes,.int .i64 a.bits] 110) (.cells #[.int .i64 b.kind,.int .i64 b.int,.int .i64 b.gen,.string b.name,.string b.func,.int .i64 b.arity,.slice bo b.items.length d,.string b.bytes,.int .i64 b.bits] 110);have r0:=zfy w (.cells #[.int .i64 a.kind,.int .i64 a.int,.int .i64 a.gen,.string a.name,.string a.func,.int .i64 a.arity,.slice ao a.items.length c,.string a.bytes,.int .i64 a.bits] 110) (.cells #[.int .i64 b.kind,.int .i64 b.int,.int .i64 b.gen,.string b.name,.string b.func,.int .i64 b.arity,.slice bo b.items.length d,.string b.bytes,.int .i64 b.bits] 110);have r1:=zeP w (.cells #[.int .i64 a.kind,.int .i64 a.int,.int .i64 a.gen,.string a.name,.string a.func,.int .i64 a.arity,.slice ao a.items.length c,.string a.bytes,.int .i64 a.bits] 110) (.cells #[.int .i64 b.kind,.int .i64 b.int,.int .i64 b.gen,.string b.name,.string b.func,.int .i64 b.arity,.slice bo b.items.length d,.string b.bytes,.int .i64 b.bits] 110);have hva: ∀wx,Below w.heap.size w wx->Calls Tryz.prog 46 #[.agg #[.int .i64 a.kind,.int .i64 a.int,.int .i64 a.gen,.string a.name,.string a.func,.int .i64 a.arity,.slice ao a.items.length c,.string a.bytes,.int .i64 a.bits]] wx fun e w'=>e= .returned (.bool true)/\Below wx.heap.size wx w':=fun wx hx=>by have h:=zfO f a ao c wx (hta.tms hx) oa ca;rwa [va]at h
 have hvb: ∀wx,Below w.heap.size w wx->Calls Tryz.prog 46 #[.agg #[.int .i64 b.kind,.int .i64 b.int,.int .i64 b.gen,.string b.name,.string b.func,.int .i64 b.arity,.slice bo b.items.length d,.string b.bytes,.int .i64 b.bits]] wx fun e w'=>e= .returned (.bool true)/\Below wx.heap.size wx w':=fun wx hx=>by have h:=zfO f b bo d wx (htb.tms hx) ob cb;rwa [vb]at h
 have hvs:=fun wx=>ziI a b ao bo c d wx ha hb h7 h9 h10
 have HB:=zzH hB;clear hta htb oa ob ca cb va vb ha hb h7 h9 h10 hB;generalize zcl a b=r at *;go_in;go_wp2_with fail;generalize(w.alloc (.cells (zzt a ao c) 110)).alloc (.cells (zzt b bo d) 110)=W at *;obtain⟨q0,q1,q2,q3,q4,q5,q6,q7,q8,zq⟩:=zv r0;obtain⟨p0,p1,p2,p3,p4,p5,p6,p7,p8,zp⟩:=zv r1;have hl0:=zd r0;have hl1:=zd r1;have R0:=zzH r0;have R1:=zzH r1;clear zq zp r0 r1;have HW:=zzH HB.out;generalize hBe:w.heap.size=B at *;have HBE:=zzH hBe;have HB':Hid (Below w.heap.size w W):=zzH (by rw [hBe];exact HB.out);have hva': ∀wx,Below W.heap.size W wx->Calls Tryz.prog 46 #[.agg #[.int .i64 a.kind,.int .i64 a.int,.int .i64 a.gen,.string a.name,.string a.func,.int .i64 a.arity,.slice ao a.items.length c,.string a.bytes,.int .i64 a.bits]] wx fun e w'=>e= .returned (.bool true)/\Below W.heap.size W w':=fun wx hx=>(hva wx (by rw [<-hBe];exact ze HB'.out hx)).mono fun _ _ ⟨h,h'⟩=>⟨h,ze hx h'⟩
 have hvb': ∀wx,Below W.heap.size W wx->Calls Tryz.prog 46 #[.agg #[.int .i64 b.kind,.int .i64 b.int,.int .i64 b.gen,.string b.name,.string b.func,.int .i64 b.arity,.slice bo b.items.length d,.string b.bytes,.int .i64 b.bits]] wx fun e w'=>e= .returned (.bool true)/\Below W.heap.size W w':=fun wx hx=>(hvb wx (by rw [<-hBe];exact ze HB'.out hx)).mono fun _ _ ⟨h,h'⟩=>⟨h,ze hx h'⟩
 clear hBe hva hvb;have HDR:=zzH ((zzR W.heap.size W).drew);have SK0:=zzH (zby HDR.out)
 first|go_region_held3 (fun w'=>W.heap.size<=w'.heap.size/\ ∀b o,b<W.heap.size->w'.cell? ⟨b,o,none⟩=W.cell? ⟨b,o,none⟩) (first|with_reducible exact SK0.out|with_reducible exact HK5.out|with_reducible exact HK6.out)
  (first
   |(go_at_call 46;(first|(with_reducible refine(hva' _ HDR.out).mono ?_)|(with_reducible refine(hvb' _ HDR.out).mono ?_));rintro e w5 ⟨rfl,hb5⟩;have HK5:=zzH (zby hb5))
   |(go_at_call 46;(first|(with_reducible refine(hva' _ hb5).mono ?_)|(with_reducible refine(hvb' _ hb5).mono ?_));rintro e w6 ⟨rfl,hb6⟩;have HK6:=zzH (zby hb6)))|fail
 all_goals
  obtain⟨s0,s1,s2,s3,s4,s5,s6,s7,s8,zs⟩:=zv ((hb6.block B hl0).trans R0.out);obtain⟨u0,u1,u2,u3,u4,u5,u6,u7,u8,zu⟩:=zv ((hb6.block (B+1) hl1).trans R1.out);go_wp2_with (go_at_call 127;refine(hvs _).mono ?_;rintro e w8 ⟨rfl,hb8⟩);go_ret;exact⟨rfl,ze HB'.out (ze hb6 hb8)⟩
theorem zkg (f:Nat) (a b:Tm) (ao bo:zzA) (c d:Nat) (w:World) (hta:SlAt w 9 (TmAt w f) ao a.items) (htb:SlAt w 9 (TmAt w f) bo b.items) (oa:a.Ok) (ob:b.Ok) (ca:(zR (f+1) a:Int)<=1152921504606846976) (cb:(zR (f+1) b:Int)<=1152921504606846976)
  (va:zM (f+1) a=true) (vb:zM (f+1) b=true) (ha:a.items= []) (hb:b.items= []) (h7:a.kind≠7) (h9:a.kind≠9) (h10:a.kind≠10):
  Calls Tryz.prog 52 #[.agg #[.int .i64 a.kind,.int .i64 a.int,.int .i64 a.gen,.string a.name,.string a.func,.int .i64 a.arity,.slice ao a.items.length c,.string a.bytes,.int .i64 a.bits],.agg #[.int .i64 b.kind,.int .i64 b.int,.int .i64 b.gen,.string b.name,.string b.func,.int .i64 b.arity,.slice bo b.items.length d,.string b.bytes,.int .i64 b.bits]] w fun e w'=>e= .returned (.bool (decide (zcl a b<0)))/\Below w.heap.size w w':=by
 have hB:=zZ w (.cells #[.int .i64 a.kind,.int .i64 a.int,.int .i64 a.gen,.string a.name,.string a.func,.int .i64 a.arity,.slice ao a.items.length c,.string a.bytes,.int .i64 a.bits] 110) (.cells #[.int .i64 b.kind,.int .i64 b.int,.int .i64 b.gen,.string b.name,.string b.func,.int .i64 b.arity,.slice bo b.items.length d,.string b.bytes,.int .i64 b.bits] 110);have hC:=zhE f a b ao bo c d _ (hta.tms hB) (htb.tms hB) oa ob ca cb va vb ha hb h7 h9 h10;have HB:=zzH hB;clear hta htb oa ob ca cb va vb ha hb h7 h9 h10 hB;generalize zcl a b=r at *;go_in;go_wp2_with fail;refine hC.mono ?_;rintro e w5 ⟨rfl,hb5⟩;go_wp2;go_ret;exact⟨rfl,ze HB.out hb5⟩
def zg2 (lits:List Tm) (i:Int):Tm:=(lits[i.toNat]?).getD zeh
def zhO (cases:List RCase) (k:Nat):Int:=((cases[k]?).map RCase.lit).getD 0
def zcV (t:Tm):Bool:=decide (t.kind=1\/t.kind=2\/t.kind=8)
def zcf (lits:List Tm) (cases:List RCase) (k:Nat):Bool:=wi (zhO cases k) 0 ((lits.length:Int)-1)&&(zcV (zg2 lits (zhO cases k))&&(decide (k=0)||decide (zcl (zg2 lits (zhO cases (k-1))) (zg2 lits (zhO cases k))<0)))
def zdZ (lits:List Tm) (cases:List RCase):Bool:=decide (∀k,k<cases.length->zcf lits cases k=true)
def zbE (nl:Nat) (g:RSeg):Bool:=wi g.type 1 3&&(zbh nl g.val&&(((decide (g.size.kind=0)&&decide (g.size.n=0))||zbh nl g.size)&&(!g.little||g.type==1)))
def zbl (lits:List Tm) (x:RIns):Bool:=((!(x.op==12)||wi x.cases.length 1 1000)&&decide ((x.segs.length:Int)<=60))&&(zdZ lits x.cases&&x.segs.all (zbE lits.length))
theorem zd9 {lits:List Tm} {cases:List RCase} {k:Nat} (h:k<cases.length) (e:zcf lits cases k=false):zdZ lits cases=false:=by
 unfold zdZ;exact zzD (fun hh=>by rw [hh k h]at e;cases e)
theorem zhw {lits:List Tm} {cases:List RCase} (h: ∀k,k<cases.length->zcf lits cases k=true):zdZ lits cases=true:=zzT h
theorem zgo {cases:List RCase} {k:Nat} (h:k<cases.length):zhO cases k=cases[k].lit:=by unfold zhO;rw [zzq3 h];rfl
theorem zep {lits:List Tm} {m:Nat} (h:m<lits.length):zg2 lits (m:Int)=lits[m]:=by unfold zg2;rw [zzq11,zzq3 h];rfl
theorem zgG {f:Nat} {t:Tm} (h:zM (f+1) t=true) (hk:t.kind=1\/t.kind=2\/t.kind=8):t.items= []:=by
 unfold zM zh zc0 ze6 at h;have h4:decide (t.kind=4\/t.kind=7\/t.kind=9)=false:=zzD (by omega);simp only [h4,zzq4,zzq9]at h;have:=h.1.1.2.1.1.2;unfold zL at this;exact zzQ (zza this)
structure LitsOk (w:World) (f:Nat) (lo:Option Addr) (lits:List Tm):Prop where
 at':SlAt w 9 (TmAt w (f+1)) lo lits
 ok: ∀t∈lits,zM (f+1) t=true/\(zR (f+1) t:Int)<=1152921504606846976
theorem LitsOk.below {w w':World} {f:Nat} {lo:zzA} {lits:List Tm} (h:LitsOk w f lo lits) (hb:Below w.heap.size w w'):LitsOk w' f lo lits:=⟨h.at'.tms hb,h.ok⟩
theorem znp {w:World} {f:Nat} {lo:zzA} {lits:List Tm} (h:LitsOk w f lo lits) {i j:Nat} (hi:i<lits.length) (hj:j<lits.length) (ki:zcV lits[i]=true) (kj:zcV lits[j]=true) {ai aj:zzA} {ci cj:Nat}
  (si:SlAt w 9 (TmAt w f) ai lits[i].items) (sj:SlAt w 9 (TmAt w f) aj lits[j].items) (oi:lits[i].Ok) (oj:lits[j].Ok) (wx:World) (hx:Below w.heap.size w wx):
  Calls Tryz.prog 52 #[.agg #[.int .i64 lits[i].kind,.int .i64 lits[i].int,.int .i64 lits[i].gen,.string lits[i].name,.string lits[i].func,.int .i64 lits[i].arity,.slice ai lits[i].items.length ci,.string lits[i].bytes,.int .i64 lits[i].bits],.agg #[.int .i64 lits[j].kind,.int .i64 lits[j].int,.int .i64 lits[j].gen,.string lits[j].name,.string lits[j].func,.int .i64 lits[j].arity,.slice aj lits[j].items.length cj,.string lits[j].bytes,.int .i64 lits[j].bits]] wx fun e w'=>e= .returned (.bool (decide (zcl lits[i] lits[j]<0)))/\Below wx.heap.size wx w':=by
 obtain⟨vi,bi⟩:=h.ok _ (zzM hi);obtain⟨vj,bj⟩:=h.ok _ (zzM hj);have ki':=zza ki;have kj':=zza kj;exact zkg f lits[i] lits[j] ai aj ci cj wx (si.tms hx) (sj.tms hx) oi oj bi bj vi vj (zgG vi ki') (zgG vj kj') (by omega) (by omega) (by omega)
theorem zc7 {w:World} {B:Nat} {v0 v1 v2 v3 v4 v5:Value} (h:w.heap[B]?=some (.cells #[v0,v1,v2,v3,v4,v5] 126 (0,0))):
  w.cell? ⟨B,0,none⟩=some v0/\w.cell? ⟨B,1,none⟩=some v1/\w.cell? ⟨B,2,none⟩=some v2/\w.cell? ⟨B,3,none⟩=some v3/\w.cell? ⟨B,4,none⟩=some v4/\w.cell? ⟨B,5,none⟩=some v5:=by
 have hc:=fun j=>zzq0 w B j _ _ _ h
 exact⟨hc 0,hc 1,hc 2,hc 3,hc 4,hc 5⟩
theorem zmR (B:Nat) (u:RUnit) (lo fo go co:zzA) (lc fc gc cc:Nat) (b o:Nat) (x:RIns) (so co' go':zzA) (sc cc' gc':Nat) (f:Nat) (w:World) (hu:UBox w B u lo fo go co lc fc gc cc) (hl:u.lits.length<=9223372036854775807) (hlit:LitsOk w f lo u.lits) (hx:IBox w b o x so co' go' sc cc' gc'):
  Calls Tryz.prog 27 #[.pointer (some ⟨B,0,none⟩),.pointer (some ⟨b,o,none⟩)] w fun e w'=>e= .returned (.bool (zbl u.lits x))/\Below w.heap.size w w':=by
 refine zzK3 hu hx hlit fun HU HX HLI=>?_;have c0:=hx.c0;have c8:=hx.c8;have c9:=hx.c9;have rc:=hx.rcases;have rs:=hx.rsegs;have hwi:=fun wx=>zK (x.cases.length:Int) 1 1000 wx
 have HE:Hid (zbl u.lits x=(((!(x.op==12)||wi x.cases.length 1 1000)&&decide ((x.segs.length:Int)<=60))&&(zdZ u.lits x.cases&&x.segs.all (zbE u.lits.length)))):=zzH rfl;clear hu hx hlit;go_in;go_upto_region 1 with fail;generalize hr1:((!(x.op==12)||wi x.cases.length 1 1000)&&decide ((x.segs.length:Int)<=60))=r1 at HE;have HR1:=zzH hr1;clear hr1;go_cut [31] (fun s wx=> ∃n1:Bool,s= .bool n1/\Hid (n1= !r1)/\w=wx)
 case first=>
  generalize wi x.cases.length 1 1000=w1 at *
  cases t12:(x.op==12)with
  |true=>
   cases w1 with
   |false=>
    have hv:=zzH (HR1.out.symm.trans (by rw [t12];rfl:_=false));exact zz53
   |true=>
    by_cases s60:(x.segs.length:Int)<=60
    ·have hv:=zzH (HR1.out.symm.trans (by rw [t12,decide_eq_true s60];rfl:_=true))
     have sd:decide ((60:Int)<(x.segs.length:Int))=false:=zzD (by omega);exact zz53
    ·have hv:=zzH (HR1.out.symm.trans (by rw [t12,decide_eq_false s60];rfl:_=false))
     have s60':60<(x.segs.length:Int):=by omega
     clear s60;exact zz53
  |false=>
   by_cases s60:(x.segs.length:Int)<=60
   ·have hv:=zzH (HR1.out.symm.trans (by rw [t12,decide_eq_true s60];rfl:_=true))
    have sd:decide ((60:Int)<(x.segs.length:Int))=false:=zzD (by omega);exact zz54
   ·have hv:=zzH (HR1.out.symm.trans (by rw [t12,decide_eq_false s60];rfl:_=false))
    have s60':60<(x.segs.length:Int):=by omega
    clear s60;exact zz54
 case rest=>
  obtain⟨n1,rfl,hn1,rfl⟩:=hcut;clear HR1
  cases r1 with
  |false=>
   obtain rfl:n1=true:=hn1.out;go_wp2;go_ret;exact⟨zl (by rw [HE.out];rfl),zzR _ _⟩
  |true=>
   obtain rfl:n1=false:=hn1.out;have HE1:Hid (zbl u.lits x=(zdZ u.lits x.cases&&x.segs.all (zbE u.lits.length))):=zzH (by rw [HE.out,zzq15]);clear HE hwi;go_wp2_with fail;go_loopw [37] (fun i wr=> ∃k:Nat,k<=x.cases.length/\i= .int .i64 k/\Hid (∀j,j<k->zcf u.lits x.cases j=true)/\Below w.heap.size w wr) (fun i _=>x.cases.length-(intOf i).toNat)
   case atStart=>exact⟨0,zzZ _,rfl,zzH (fun j h=>absurd h (zzC _)),zzR _ _⟩
   case round=>
    obtain⟨k,hk,rfl,HK,hBw⟩:=hrel;rename World=>wr
    by_cases hlt:k<x.cases.length
    ·have hxr:=HX.out.below hBw
     obtain⟨b1,off1,hco,hb1,q0,q1,rl,rt⟩:=hxr.cases.case hlt;subst hco;have hcl:=zgo hlt;have HBW:=zzH hBw;have u2:=(HU.out.below hBw).c2;have d8:=hxr.c8;have hBlt:=(HU.out.below hBw).lt;have hblt:=hxr.lt;generalize x.cases[k].to=ct at *;generalize x.cases[k].lit=cl at *;by_cases hin:0<=cl/\cl<=(u.lits.length:Int)-1
     ·obtain⟨m,rfl⟩: ∃m:Nat,cl=(m:Int):=⟨cl.toNat,by omega⟩
      have hm:m<u.lits.length:=by omega
      have hw1:=zd0 hin.1 hin.2;have hwr1:=zzV u.lits.length (by omega)
      have hwc:=fun wx=>zK (m:Int) 0 ((u.lits.length:Int)-1) wx
      have HW1:=zzH hw1;rw [hw1]at hwc;have HLW:=zzH (HLI.out.below hBw);obtain⟨b2,off2,ai,ci,hlo,hb2,p0,p1,p2,p3,p4,p5,p6,p7,p8,hit,hok⟩:=(HLI.out.below hBw).at'.tm hm;have hla:=zep hm;refine zzK3 hcl hit hok fun HCL HIT HOK=>?_;clear hcl hw1 hin rl rt hxr hit hok;have hcx:Below wr.heap.size wr (wr.alloc (.cells #[.int .i64 (m:Int),.int .i64 ct] 123)):=zzE _ _;have v2:=(hcx.cell (p:=⟨B,2,none⟩) hBlt).trans u2;have HCX:=zzH hcx;clear hcx;go_wp2_with fail;go_quiet ((go_at_call 47;exact zze ((hwc _).mono fun _ _ ⟨a,b⟩=>⟨a,b.symm⟩)));have hbW:Below wr.heap.size wr ((wr.alloc (.cells #[.int .i64 (m:Int),.int .i64 ct] 123)).drewN nq):=zm HCX.out nq;have hbox:((wr.alloc (.cells #[.int .i64 (m:Int),.int .i64 ct] 123)).drewN nq).heap[wr.heap.size]?=some (.cells #[.int .i64 (m:Int),.int .i64 ct] 123 (0,0)):=zzF _ _
      clear v2 HCX;generalize(wr.alloc (.cells #[.int .i64 (m:Int),.int .i64 ct] 123)).drewN nq=W1 at *;have hCW:wr.heap.size<W1.heap.size:=zd hbox;have hlo2:lo=some ⟨b2,off2,none⟩:=hlo;subst hlo2;have v2:=(hbW.cell (p:=⟨B,2,none⟩) hBlt).trans u2;have n0:W1.cell? ⟨wr.heap.size,0,none⟩=some (.int .i64 (m:Int)):=by rw [zzq0 _ _ _ _ _ _ hbox];rfl
      have p0':=(hbW.cell (p:=⟨b2,off2+m*9,none⟩) hb2).trans p0;have HBW1:=zzH hbW;have HBOX:=zzH hbox;clear hbW hbox hwc;generalize hkk:(u.lits[m]).kind=kk at p0';have HKK:=zzH hkk;clear hkk;go_wp2_with fail;go_quiet (fail);have hbW:Below wr.heap.size wr (W1.drewN nq):=zm HBW1.out nq;have hbox:(W1.drewN nq).heap[wr.heap.size]?=some (.cells #[.int .i64 (m:Int),.int .i64 ct] 123 (0,0)):=HBOX.out
      clear v2 n0 p0' hCW HBW1 HBOX;generalize W1.drewN nq=W2 at *;have HBW2:=zzH hbW;by_cases hko:kk=1\/kk=2\/kk=8
      ·have HKO:Hid (zcV u.lits[m]=true):=zzH (by unfold zcV;rw [HKK.out];exact zzT hko)
       by_cases k0:k=0
       ·have HK2:Hid (∀j,j<k+1->zcf u.lits x.cases j=true):=zzH (fun j hj=>by
         obtain rfl:j=k:=by omega
         unfold zcf;rw [HCL.out,HW1.out,hla,HKO.out,decide_eq_true k0];rfl)
        have hd0:decide ((0:Int)<(k:Int))=false:=zzD (by omega);have hd1:decide (0<k)=false:=zzD (by omega);clear k0 hbW hbox;rcases hko with rfl|rfl|rfl
        all_goals
         go_wp2_with fail;go_quiet (fail);go_wp2_with fail;go_roundw
         case rel=>exact⟨k+1,by omega,by go_num,HK2,zm (HBW.out.trans (HBW2.out.mono HBW.out.size)) _⟩
         case measure=>simp [intOf];omega
       ·obtain⟨k',hk'⟩: ∃k',k=k'+1:=⟨k-1,by omega⟩
        have hlt':k'<x.cases.length:=by omega
        have hprev:=HK.out k' (by omega);obtain⟨b1',off1',hco',hb1',q0',q1',rl',rt'⟩:=(HX.out.below HBW.out).cases.case hlt';obtain⟨rfl,rfl⟩:b1=b1'/\off1=off1':=by injection hco' with h;injection h with h1 h2;exact⟨h1,h2⟩
        have hcl':=zgo hlt';generalize x.cases[k'].lit=cl' at *;generalize x.cases[k'].to=ct' at *;unfold zcf at hprev;rw [hcl']at hprev
        have hpin:0<=cl'/\cl'<=(u.lits.length:Int)-1:=by
         exact zz55
        obtain⟨m',rfl⟩: ∃m':Nat,cl'=(m':Int):=⟨cl'.toNat,by omega⟩;have hm':m'<u.lits.length:=by omega
        rw [zep hm']at hprev
        have hko':zcV u.lits[m']=true:=by
         cases h:zcV u.lits[m']with
         |true=>rfl
         |false=>rw [h]at hprev;simp at hprev
        obtain⟨b2',off2',ai',ci',hlo',hb2',r0,r1,r2,r3,r4,r5,r6,r7,r8,hit',hok'⟩:=HLW.out.at'.tm hm';obtain⟨rfl,rfl⟩:b2=b2'/\off2=off2':=by injection hlo' with h;injection h with h1 h2;exact⟨h1,h2⟩
        have hLess:=znp (ci:=ci') (cj:=ci) HLW.out hm' hm hko' HKO.out hit' HIT.out hok' HOK.out
        have HOKK:Hid (zcf u.lits x.cases k=decide (zcl u.lits[m'] u.lits[m]<0)):=zzH (by
         unfold zcf;rw [HCL.out,HW1.out,hla,HKO.out,decide_eq_false k0,hk',Nat.add_sub_cancel,hcl',zep hm'];simp)
        have hd0:decide ((0:Int)<(k:Int))=true:=zzT (by omega);have hd1:decide (0<k)=true:=zzT (by omega);have hwk:IntKind.i64.wrap ((k:Int)-1)=(k':Int):=by rw [zzq2];omega
        rw [HKK.out]at hLess p0;have v2:=(hbW.cell (p:=⟨B,2,none⟩) hBlt).trans u2;have v8:=(hbW.cell (p:=⟨b,o+8,none⟩) hblt).trans d8;have n0:W2.cell? ⟨wr.heap.size,0,none⟩=some (.int .i64 (m:Int)):=by rw [zzq0 _ _ _ _ _ _ hbox];rfl
        have q0'':=(hbW.cell (p:=⟨b1,off1+k'*2,none⟩) hb1).trans q0';have p0':=(hbW.cell (p:=⟨b2,off2+m*9,none⟩) hb2).trans p0;have p1':=(hbW.cell (p:=⟨b2,off2+m*9+1,none⟩) hb2).trans p1;have p2':=(hbW.cell (p:=⟨b2,off2+m*9+2,none⟩) hb2).trans p2;have p3':=(hbW.cell (p:=⟨b2,off2+m*9+3,none⟩) hb2).trans p3;have p4':=(hbW.cell (p:=⟨b2,off2+m*9+4,none⟩) hb2).trans p4;have p5':=(hbW.cell (p:=⟨b2,off2+m*9+5,none⟩) hb2).trans p5;have p6':=(hbW.cell (p:=⟨b2,off2+m*9+6,none⟩) hb2).trans p6;have p7':=(hbW.cell (p:=⟨b2,off2+m*9+7,none⟩) hb2).trans p7;have p8':=(hbW.cell (p:=⟨b2,off2+m*9+8,none⟩) hb2).trans p8;have r0':=(hbW.cell (p:=⟨b2,off2+m'*9,none⟩) hb2).trans r0;have r1':=(hbW.cell (p:=⟨b2,off2+m'*9+1,none⟩) hb2).trans r1;have r2':=(hbW.cell (p:=⟨b2,off2+m'*9+2,none⟩) hb2).trans r2;have r3':=(hbW.cell (p:=⟨b2,off2+m'*9+3,none⟩) hb2).trans r3;have r4':=(hbW.cell (p:=⟨b2,off2+m'*9+4,none⟩) hb2).trans r4;have r5':=(hbW.cell (p:=⟨b2,off2+m'*9+5,none⟩) hb2).trans r5;have r6':=(hbW.cell (p:=⟨b2,off2+m'*9+6,none⟩) hb2).trans r6;have r7':=(hbW.cell (p:=⟨b2,off2+m'*9+7,none⟩) hb2).trans r7;have r8':=(hbW.cell (p:=⟨b2,off2+m'*9+8,none⟩) hb2).trans r8;have hCW:wr.heap.size<W2.heap.size:=zd hbox;have hBW:B<W2.heap.size:=zzW hBlt HBW2.out.size;have hbW2:b<W2.heap.size:=zzW hblt HBW2.out.size;have hb1W:b1<W2.heap.size:=zzW hb1 HBW2.out.size;have hb2W:b2<W2.heap.size:=zzW hb2 HBW2.out.size;have HDW:Hid (Below wr.heap.size wr W2.drew):=zzH HBW2.out.drew;have SK0:=zzH (zby ((zzR W2.heap.size W2).drew));have SD:=zzH ((zzR W2.heap.size W2).drew);clear hbW hbox q0 q1 q0' q1' p0 p1 p2 p3 p4 p5 p6 p7 p8 r0 r1 r2 r3 r4 r5 r6 r7 r8 hprev hpin hcl' hla u2 d8 hit' hok' hlo' hco' rl' rt' k0 hk';generalize decide (zcl u.lits[m'] u.lits[m]<0)=q at *;generalize u.lits[m']=t' at *;generalize u.lits[m]=t at *;rcases hko with rfl|rfl|rfl
        all_goals
         cases q with
         |true=>
          have HK2:Hid (∀j,j<k+1->zcf u.lits x.cases j=true):=zzH (fun j hj=>by
           rcases Nat.eq_or_lt_of_le (Nat.le_of_lt_succ hj)with h|h
           ·rw [h];exact HOKK.out
           ·exact HK.out j h)
          go_wp2_with fail
          first|go_region_held3 (fun w'=>W2.heap.size<=w'.heap.size/\ ∀b o,b<W2.heap.size->w'.cell? ⟨b,o,none⟩=W2.cell? ⟨b,o,none⟩) (first|with_reducible exact SK0.out|with_reducible exact HK5.out)
           ((go_at_call 52;refine(hLess _ HDW.out).mono ?_;rintro e w5 ⟨rfl,hb5⟩;have HK5:=zzH (zby (ze SD.out hb5));have HB5:=zzH (ze HDW.out hb5)))|fail
          go_wp2_with fail;go_roundw
          case rel=>exact⟨k+1,by omega,by go_num,HK2,HBW.out.trans (HB5.out.mono HBW.out.size)⟩
          case measure=>simp [intOf];omega
         |false=>
          have E:Hid (zbl u.lits x=false):=zzH (by rw [HE1.out,zd9 hlt HOKK.out];rfl);go_wp2_with fail
          first|go_region_held3 (fun w'=>W2.heap.size<=w'.heap.size/\ ∀b o,b<W2.heap.size->w'.cell? ⟨b,o,none⟩=W2.cell? ⟨b,o,none⟩) (first|with_reducible exact SK0.out|with_reducible exact HK5.out)
           ((go_at_call 52;refine(hLess _ HDW.out).mono ?_;rintro e w5 ⟨rfl,hb5⟩;have HK5:=zzH (zby (ze SD.out hb5));have HB5:=zzH (ze HDW.out hb5)))|fail
          go_wp2;go_ret;exact⟨zl E.out.symm,HBW.out.trans (HB5.out.mono HBW.out.size)⟩
      ·have E:Hid (zbl u.lits x=false):=zzH (by
        rw [HE1.out,zd9 hlt (by
         unfold zcf zcV;rw [HCL.out,HW1.out,hla,HKK.out,decide_eq_false hko];rfl)];rfl)
       have t1:(kk==1)=false:=zzB.2 (fun h=>hko (.inl h));have t2:(kk==2)=false:=zzB.2 (fun h=>hko (.inr (.inl h)));have t8:(kk==8)=false:=zzB.2 (fun h=>hko (.inr (.inr h)));clear hko hbW hbox;go_wp2;go_ret;exact⟨zl E.out.symm,HBW.out.trans (HBW2.out.mono HBW.out.size)⟩
     ·have E:Hid (zbl u.lits x=false):=zzH (by rw [HE1.out,zd9 hlt (by unfold zcf;rw [hcl,zdx hin];rfl)];rfl)
      have hw0:=zdx hin;have hwr1:=zzV u.lits.length (by omega)
      have hwc:=fun wx=>zK cl 0 ((u.lits.length:Int)-1) wx
      rw [hw0]at hwc;clear hcl hw0 hin rl rt hxr;have hcx:Below wr.heap.size wr (wr.alloc (.cells #[.int .i64 cl,.int .i64 ct] 123)):=zzE _ _;have v2:=(hcx.cell (p:=⟨B,2,none⟩) hBlt).trans u2;have HCX:=zzH (hBw.trans (hcx.mono hBw.size));clear hcx;go_wp2_with fail;go_quiet ((go_at_call 47;exact zze ((hwc _).mono fun _ _ ⟨a,b⟩=>⟨a,b.symm⟩)));go_wp2;go_ret;exact⟨zl E.out.symm,zm HCX.out _⟩
    ·have HC1:Hid (zdZ u.lits x.cases=true):=zzH (zhw (fun j hj=>HK.out j (by omega)))
     have HE2:Hid (zbl u.lits x=x.segs.all (zbE u.lits.length)):=zzH (by rw [HE1.out,HC1.out,zzq15]);have hxr:=HX.out.below hBw;have d9:=hxr.c9;have HBW:=zzH hBw;have HI:Hid (x.segs.all (zbE u.lits.length)=(x.segs.drop 0).all (zbE u.lits.length)):=zzH rfl;clear hxr HK;obtain⟨wo,rfl⟩: ∃wo:World,wo=wr:=⟨_,rfl⟩;go_wp2_with fail;go_loopw [100] (fun i wq=> ∃k:Nat,k<=x.segs.length/\i= .int .i64 k/\Hid (x.segs.all (zbE u.lits.length)=(x.segs.drop k).all (zbE u.lits.length))/\Below w.heap.size w wq) (fun i _=>x.segs.length-(intOf i).toNat)
     case atStart=>exact⟨0,zzZ _,rfl,HI,HBW.out⟩
     case round=>
      obtain⟨k,hk,rfl,HK,hBq⟩:=hrel;rename World=>wr
      by_cases hlt:k<x.segs.length
      ·have hxr:=HX.out.below hBq
       obtain⟨b1,off1,hgo,hb1,s0,s1,s2,s3,s4,s5,t0,t1,t2,t3,t4⟩:=hxr.segs.seg hlt;subst hgo;have HST:Hid ((x.segs.drop k).all (zbE u.lits.length)=(zbE u.lits.length x.segs[k]&&(x.segs.drop (k+1)).all (zbE u.lits.length))):=zzH (by rw [List.drop_eq_getElem_cons hlt,List.all_cons]);have HUW:=HU.out.below hBq;have hu0:=HUW;have HBQ:=zzH hBq;have hop1:=fun wx (hx:Below wr.heap.size wr wx)=>zeu B u lo fo go co lc fc gc cc x.segs[k].val wx (hu0.below hx) hl ⟨t1,t2⟩
       have hop2:=fun wx (hx:Below wr.heap.size wr wx)=>zeu B u lo fo go co lc fc gc cc x.segs[k].size wx (hu0.below hx) hl ⟨t3,t4⟩
       have HSB:Hid (zbE u.lits.length x.segs[k]=(wi x.segs[k].type 1 3&&(zbh u.lits.length x.segs[k].val&&(((decide (x.segs[k].size.kind=0)&&decide (x.segs[k].size.n=0))||zbh u.lits.length x.segs[k].size)&&(!x.segs[k].little||x.segs[k].type==1))))):=zzH rfl;have hwt:=fun wx=>zK x.segs[k].type 1 3 wx
       generalize zbE u.lits.length x.segs[k]=sb at *;generalize zbh u.lits.length x.segs[k].val=ov at *;generalize zbh u.lits.length x.segs[k].size=os at *;generalize wi x.segs[k].type 1 3=wt at *;generalize x.segs[k]=g at *;obtain⟨ty,⟨vk,vn⟩,⟨sk,sn⟩,lit⟩:=g;simp only at *;have hbx:Below wr.heap.size wr (wr.alloc (.cells #[.int .i64 ty,.int .i64 vk,.int .i64 vn,.int .i64 sk,.int .i64 sn,.bool lit] 126)):=zzE _ _;have hbr:=zzF wr (.cells #[.int .i64 ty,.int .i64 vk,.int .i64 vn,.int .i64 sk,.int .i64 sn,.bool lit] 126);have HBX:=zzH hbx;have HBR:=zzH hbr;clear hbx hbr t0 t1 t2 t3 t4 hxr HUW hu0 hBq
       cases wt with
       |false=>
        cases sk0:(sk==0)with
        |false=>
         have hz:(decide (sk=0)&&decide (sn=0))=false:=by rw [decide_eq_false (by simpa using sk0)];rfl
         exact zz51
        |true=>
         cases sn0:(sn==0)with
         |false=>
          have hz:(decide (sk=0)&&decide (sn=0))=false:=by rw [decide_eq_false (p:=sn=0) (by simpa using sn0)];exact Bool.and_false _
          exact zz51
         |true=>
          have hz:(decide (sk=0)&&decide (sn=0))=true:=by rw [decide_eq_true (by simpa using sk0),decide_eq_true (by simpa using sn0)];rfl
          exact zz51
       |true=>
        cases ov with
        |false=>
         cases sk0:(sk==0)with
         |false=>
          have hz:(decide (sk=0)&&decide (sn=0))=false:=by rw [decide_eq_false (by simpa using sk0)];rfl
          exact zz50
         |true=>
          cases sn0:(sn==0)with
          |false=>
           have hz:(decide (sk=0)&&decide (sn=0))=false:=by rw [decide_eq_false (p:=sn=0) (by simpa using sn0)];exact Bool.and_false _
           exact zz50
          |true=>
           have hz:(decide (sk=0)&&decide (sn=0))=true:=by rw [decide_eq_true (by simpa using sk0),decide_eq_true (by simpa using sn0)];rfl
           exact zz50
        |true=>
         cases sk0:(sk==0)with
         |false=>
          have hz:(decide (sk=0)&&decide (sn=0))=false:=by rw [decide_eq_false (by simpa using sk0)];rfl
          exact zz49
         |true=>
          cases sn0:(sn==0)with
          |false=>
           have hz:(decide (sk=0)&&decide (sn=0))=false:=by rw [decide_eq_false (p:=sn=0) (by simpa using sn0)];exact Bool.and_false _
           exact zz49
          |true=>
           have hz:(decide (sk=0)&&decide (sn=0))=true:=by rw [decide_eq_true (by simpa using sk0),decide_eq_true (by simpa using sn0)];rfl
           rw [hz]at HSB;clear hz;go_wp2_with (go_at_call 47;refine(hwt _).mono ?_;rintro e w1 ⟨rfl,rfl⟩);refine(hop1 _ HBX.out).mono ?_;rintro e w5 ⟨rfl,hb5⟩;have HB5:=zzH (ze HBX.out hb5);have hbra:=(hb5.block wr.heap.size (zd HBR.out)).trans HBR.out;obtain⟨g0,g1,g2,g3,g4,g5⟩:=zc7 hbra;clear hb5
           cases lit with
           |false=>
            have hsv0:sb=true:=by rw [HSB.out];simp []
            exact zz52
           |true=>
            cases ty1:(ty==1)with
            |true=>
             have ty2 : (ty != 1) = false := by unfold bne; rw [ty1]; rfl
             have hsv0:sb=true:=by rw [HSB.out];simp [ty1]
             exact zz52
            |false=>
             have ty2 : (ty != 1) = true := by unfold bne; rw [ty1]; rfl
             have hsv0:sb=false:=by rw [HSB.out];simp [ty1]
             have HSV:=zzH hsv0;clear hsv0;have HE3:Hid (zbl u.lits x=false):=zzH (by rw [HE2.out,HK.out,HST.out,HSV.out];rfl);go_wp2;go_ret;exact⟨zl HE3.out.symm,HBQ.out.trans (HB5.out.mono HBQ.out.size)⟩
      ·have HE3:Hid (zbl u.lits x=true):=zzH (by rw [HE2.out,HK.out,zzq10 (by omega)];rfl)
       go_wp2;go_ret;exact⟨zl HE3.out.symm,hBq⟩
def XBox (w:World) (X:Nat) (x:RIns) (so co' go':Option Addr) (sc cc' gc':Nat):Prop:=w.heap[X]?=some (.cells #[.int .i64 x.op,.int .i64 x.dst.kind,.int .i64 x.dst.n,.slice so x.src.length sc,.int .i64 x.to,.int .i64 x.n,.int .i64 x.live,.string x.name,.slice co' x.cases.length cc',.slice go' x.segs.length gc'] 47 (0,0))
section
variable {w:World} {X:Nat} {x:RIns} {so co' go':Option Addr} {sc cc' gc':Nat}
theorem XBox.lt (h:XBox w X x so co' go' sc cc' gc'):X<w.heap.size:=zd h
theorem XBox.below {w':World} (h:XBox w X x so co' go' sc cc' gc') (hb:Below w.heap.size w w'):XBox w' X x so co' go' sc cc' gc':=(hb.block X (zd h)).trans h
theorem XBox.c0 (h:XBox w X x so co' go' sc cc' gc'):w.cell? ⟨X,0,none⟩=some (.int .i64 x.op):=by rw [zzq0 _ _ _ _ _ _ h];rfl
theorem XBox.c1 (h:XBox w X x so co' go' sc cc' gc'):w.cell? ⟨X,1,none⟩=some (.int .i64 x.dst.kind):=by rw [zzq0 _ _ _ _ _ _ h];rfl
theorem XBox.c2 (h:XBox w X x so co' go' sc cc' gc'):w.cell? ⟨X,2,none⟩=some (.int .i64 x.dst.n):=by rw [zzq0 _ _ _ _ _ _ h];rfl
theorem XBox.c3 (h:XBox w X x so co' go' sc cc' gc'):w.cell? ⟨X,3,none⟩=some (.slice so x.src.length sc):=by rw [zzq0 _ _ _ _ _ _ h];rfl
theorem XBox.c4 (h:XBox w X x so co' go' sc cc' gc'):w.cell? ⟨X,4,none⟩=some (.int .i64 x.to):=by rw [zzq0 _ _ _ _ _ _ h];rfl
theorem XBox.c5 (h:XBox w X x so co' go' sc cc' gc'):w.cell? ⟨X,5,none⟩=some (.int .i64 x.n):=by rw [zzq0 _ _ _ _ _ _ h];rfl
theorem XBox.c6 (h:XBox w X x so co' go' sc cc' gc'):w.cell? ⟨X,6,none⟩=some (.int .i64 x.live):=by rw [zzq0 _ _ _ _ _ _ h];rfl
theorem XBox.c7 (h:XBox w X x so co' go' sc cc' gc'):w.cell? ⟨X,7,none⟩=some (.string x.name):=by rw [zzq0 _ _ _ _ _ _ h];rfl
theorem XBox.c8 (h:XBox w X x so co' go' sc cc' gc'):w.cell? ⟨X,8,none⟩=some (.slice co' x.cases.length cc'):=by rw [zzq0 _ _ _ _ _ _ h];rfl
theorem XBox.c9 (h:XBox w X x so co' go' sc cc' gc'):w.cell? ⟨X,9,none⟩=some (.slice go' x.segs.length gc'):=by rw [zzq0 _ _ _ _ _ _ h];rfl
end
theorem zbA (w:World) (u:RUnit) (lo fo go co:zzA) (lc fc gc cc:Nat) (x:RIns) (so co' go':zzA) (sc cc' gc':Nat):UBox ((w.alloc (.cells #[.string u.mdl,.int .i64 u.vsn,.slice lo u.lits.length lc,.slice fo u.funcs.length fc,.slice go u.funs.length gc,.slice co u.code.length cc] 27)).alloc (.cells #[.int .i64 x.op,.int .i64 x.dst.kind,.int .i64 x.dst.n,.slice so x.src.length sc,.int .i64 x.to,.int .i64 x.n,.int .i64 x.live,.string x.name,.slice co' x.cases.length cc',.slice go' x.segs.length gc'] 47)) w.heap.size u lo fo go co lc fc gc cc/\XBox ((w.alloc (.cells #[.string u.mdl,.int .i64 u.vsn,.slice lo u.lits.length lc,.slice fo u.funcs.length fc,.slice go u.funs.length gc,.slice co u.code.length cc] 27)).alloc (.cells #[.int .i64 x.op,.int .i64 x.dst.kind,.int .i64 x.dst.n,.slice so x.src.length sc,.int .i64 x.to,.int .i64 x.n,.int .i64 x.live,.string x.name,.slice co' x.cases.length cc',.slice go' x.segs.length gc'] 47)) (w.heap.size+1) x so co' go' sc cc' gc'/\Below w.heap.size w ((w.alloc (.cells #[.string u.mdl,.int .i64 u.vsn,.slice lo u.lits.length lc,.slice fo u.funcs.length fc,.slice go u.funs.length gc,.slice co u.code.length cc] 27)).alloc (.cells #[.int .i64 x.op,.int .i64 x.dst.kind,.int .i64 x.dst.n,.slice so x.src.length sc,.int .i64 x.to,.int .i64 x.n,.int .i64 x.live,.string x.name,.slice co' x.cases.length cc',.slice go' x.segs.length gc'] 47)):=by
 have s:(w.alloc (.cells (zzu u lo lc fo fc go gc co cc) 27)).heap.size=w.heap.size+1:=by simp
 refine⟨⟨(Below.heap_alloc _ _ _ (by rw [s];omega)).trans (zzF _ _)⟩,?_,(zzE _ _).alloc (by rw [s];omega) _⟩;unfold XBox;rw [<-s];exact zzF _ _
theorem zJ (n a b:Int) (w:World):Calls Tryz.prog 72 #[.int .i64 n,.int .i64 a,.int .i64 b] w fun e w'=>e= .returned (.bool (wi n a b))/\w=w':=by
 exact zz151
def zd2 (a:RArg):Bool:=decide (a.kind=0)&&decide (a.n=0)
theorem zim (a:RArg) (w:World):Calls Tryz.prog 78 #[.agg #[.int .i64 a.kind,.int .i64 a.n]] w fun e w'=>e= .returned (.bool (zd2 a))/\Below w.heap.size w w':=by
 obtain⟨k,n⟩:=a;have HB:=zzH ((zzR w.heap.size w).alloc (zzL _) (.cells #[.int .i64 k,.int .i64 n] 42));by_cases h:k=0
 ·by_cases h':n=0
  ·subst h;subst h'
   have E:Hid (zd2 ⟨0,0⟩=true):=zzH rfl;exact zz169
  ·subst h
   have E:Hid (zd2 ⟨0,n⟩=false):=zzH (by unfold zd2;simp [h']);have t:(n==0)=false:=zzB.2 h';clear h';exact zz169
 ·have E:Hid (zd2 ⟨k,n⟩=false):=zzH (by unfold zd2;simp [h])
  have t:(k==0)=false:=zzB.2 h;clear h;exact zz169
theorem zek (u:RUnit) (lo fo go co:zzA) (lc fc gc cc:Nat) (a:RArg) (w:World) (hl:u.lits.length<=9223372036854775807) (ha:I64 a.kind/\I64 a.n):
  Calls Tryz.prog 77 #[.agg (zzu u lo lc fo fc go gc co cc),.agg #[.int .i64 a.kind,.int .i64 a.n]] w fun e w'=>e= .returned (.bool (zbh u.lits.length a))/\Below w.heap.size w w':=by
 unfold zzu;obtain⟨⟨x1,x2⟩,⟨y1,y2⟩⟩:=ha;obtain⟨ak,an⟩:=a;simp only at x1 x2 y1 y2;have HB:Hid (Below w.heap.size w ((w.alloc (.cells (zzu u lo lc fo fc go gc co cc) 27)).alloc (.cells #[.int .i64 ak,.int .i64 an] 42))):=zzH ((zzE _ _).alloc (by simp) _);by_cases k1:ak=1
 ·subst k1
  by_cases h0:0<=an
  ·by_cases h1:an<256
   ·have E:Hid (zbh u.lits.length ⟨1,an⟩=true):=zzH (zd0 (n:=an) h0 (by omega))
    exact zz152
   ·exact zz170
  ·exact zz170
 ·by_cases k2:ak=2
  ·subst k2
   clear k1;by_cases h0:0<=an
   ·by_cases h1:an<8192
    ·have E:Hid (zbh u.lits.length ⟨2,an⟩=true):=zzH (zd0 (n:=an) h0 (by omega))
     exact zz152
    ·exact zz171
   ·exact zz171
  ·by_cases k3:ak=3
   ·subst k3
    clear k1 k2;by_cases h0:0<=an
    ·by_cases h1:an<(u.lits.length:Int)
     ·have E:Hid (zbh u.lits.length ⟨3,an⟩=true):=zzH (zd0 (n:=an) h0 (by omega))
      exact zz152
     ·exact zz172
    ·exact zz172
   ·have E:Hid (zbh u.lits.length ⟨ak,an⟩=false):=zzH (by unfold zbh;rw [if_neg k1,if_neg k2,if_neg k3])
    have t1:(ak==1)=false:=zzB.2 k1;have t2:(ak==2)=false:=zzB.2 k2;have t3:(ak==3)=false:=zzB.2 k3;clear k1 k2 k3;exact zz152
section
variable {H:Type} {enc:TypeId × Value->H} {P:Program} {w:World} {base:Nat} {spare:Nat->Bool} {held:Bool}
def Wt (P:Program) (t:TypeId) (d:DataW H):Prop:=(d.weights P t).all (· <=reachBytes)=true
theorem zgs: ∀(ts:List TypeId) (ds:List (DataW H)),(DataW.weightsEach P ts ds).all (· <=reachBytes)=true-> ∀(i:Nat) (t:TypeId) (d:DataW H),ts[i]?=some t->ds[i]?=some d->Wt P t d
 |[],_,_,i,t,d,h,_=>by simp at h
 |_::_,[],_,i,t,d,_,h=>by simp at h
 |t0::ts,d0::ds,h,i,t,d,ht,hd=>by
  unfold DataW.weightsEach at h;rw [List.all_append,zzq4]at h
  cases i with
  |zero=>
   simp at ht hd;subst ht;subst hd;exact h.1
  |succ i=>exact zgs ts ds h.2 i t d (by simpa using ht) (by simpa using hd)
theorem zmZ (e:TypeId): ∀(ds:List (DataW H)),(DataW.weightsAll P e ds).all (· <=reachBytes)=true-> ∀d∈ds,Wt P e d
 |[],_,_,h=>by cases h
 |d0::ds,h,d,hd=>by
  unfold DataW.weightsAll at h;rw [List.all_append,zzq4]at h;rcases List.mem_cons.1 hd with rfl|hd
  ·exact h.1
  ·exact zmZ e ds h.2 d hd
theorem zc5 {t:TypeId} {fuel:Nat} {cs:List Value} {x:DataW H × List MemPlace} {fs:Array Field} (hS:P.underlying t=some (.struct fs)) (h:DataW.trod enc P w base spare held fuel t cs=some x) (hw:Wt P t x.1):
  ∃n,fuel=n+1/\cs.length=P.cellsOf t/\ ∀(i:Nat) (f:Field) (ty:TypeId) (o m:Nat),fs[i]?=some f->f.type=ty->f.offset=o->P.cellsOf ty=m-> ∃y,DataW.trod enc P w base spare held n ty ((cs.drop o).take m)=some y/\Wt P ty y.1:=by
 obtain⟨xs,n,rfl,rfl,hl,hxl,hx⟩:=DataW.trod_struct hS h;refine⟨n,rfl,hl,fun i f ty o m hf e1 e2 e3=>?_⟩;have hi:=hx i f hf;have hil:i<xs.length:=by rw [hxl];exact(Array.getElem?_eq_some_iff.1 hf).1
 rw [zzq3 hil]at hi;refine⟨xs[i],by rw [<-e1,<-e2,<-e3,<-e1];exact hi,?_⟩;unfold Wt DataW.weights at hw;simp only [hS]at hw;refine zgs _ _ hw i ty _ ?_ (by rw [List.getElem?_map,zzq3 hil];rfl);rw [List.getElem?_map,<-e1];simp [hf]
theorem zmI {t:TypeId} {fuel:Nat} {cs:List Value} {x:DataW H × List MemPlace} (ht:P.underlying t=some .string) (h:DataW.trod enc P w base spare held fuel t cs=some x) (hw:Wt P t x.1): ∃s,cs= [.string s]/\s.size<=140737488351232:=by
 obtain⟨s,e,rfl,hs⟩:=DataW.trod_string ht h;refine⟨s,e,?_⟩;unfold Wt DataW.weights at hw;have h1:s.data.toList.length<=reachBytes:=zza (zzp.1 hw _ (zzP.2 rfl));rw [Array.length_toList]at h1;exact h1
theorem zg6 {t:TypeId} {fuel:Nat} {cs:List Value} {x:DataW H × List MemPlace} (ht:P.underlying t=some .bool) (h:DataW.trod enc P w base spare held fuel t cs=some x): ∃b,cs= [.bool b]:=by
 obtain⟨b,e,_⟩:=DataW.trod_bool ht h;exact⟨b,e⟩
theorem zdP {α:Type} {t e:TypeId} {size fuel:Nat} {cs:List Value} {x:DataW H × List MemPlace} (R:List Value->α->Prop) (ht:P.underlying t=some (.slice e)) (hC:P.cellsOf e=size) (h0:0<size)
  (h:DataW.trod enc P w base spare held fuel t cs=some x) (hw:Wt P t x.1)
  (hR: ∀n cs' y,n<fuel->cs'.length=size->DataW.trod enc P w base spare held n e cs'=some y->Wt P e y.1-> ∃a,R cs' a):
  ∃ao c l,cs= [.slice ao l.length c]/\SlAt w size R ao l/\l.length<=maxLen:=by
 rcases DataW.trod_slice ht h with⟨e1,_⟩|⟨a,len,cap,elems,rest,n,hf,e1,rfl,hb,hl,hm,hlen,hel,_,_⟩
 ·exact⟨none,0,[],e1,.inl rfl,zzZ _⟩
 ·have hwe: ∀d∈elems.map (·.1),Wt P e d:=by
   unfold Wt DataW.weights at hw;simp only [ht]at hw;rw [List.all_cons,List.all_append,zzq4,zzq4]at hw;exact zmZ e _ hw.2.1
  have each: ∀i,i<len-> ∃(x:α) (cs':List Value),cs'.length=size/\(∀k,k<size->w.cell? ((a.add (i*size)).add k)=cs'[k]?)/\R cs' x:=fun i hi=>by
   have hx:=hel i hi;have hil:i<elems.length:=by omega
   rw [zzq3 hil,Option.bind_eq_some_iff]at hx;obtain⟨cs',hc,ht'⟩:=hx;rw [hC]at hc;obtain⟨_,hcl,hat⟩:=World.cells?_some hc;obtain⟨x,hx⟩:=hR n cs' _ (by omega) hcl ht' (hwe _ (List.mem_map.2 ⟨_,zzM hil,rfl⟩));exact⟨x,cs',hcl,hat,hx⟩
  have all: ∀m,m<=len-> ∃l:List α,l.length=m/\ ∀j (h:j<l.length),∃cs':List Value,cs'.length=size/\(∀k,k<size->w.cell? ((a.add (j*size)).add k)=cs'[k]?)/\R cs' l[j]:=by
   intro m
   induction m with
   |zero=>exact fun _=>⟨[],rfl,fun j h=>absurd h (zzC _)⟩
   |succ m ih=>
    intro hm';obtain⟨l,hl',hr⟩:=ih (by omega);obtain⟨x,cs',h1,h2,h3⟩:=each m (by omega);refine⟨l++ [x],by simp [hl'],fun j hj=>?_⟩;by_cases hjl:j<l.length
    ·obtain⟨cs2,g1,g2,g3⟩:=hr j hjl
     exact⟨cs2,g1,g2,by rw [List.getElem_append_left hjl];exact g3⟩
    ·have hj2:j=m:=by simp at hj;omega
     subst hj2;refine⟨cs',h1,h2,?_⟩;rw [List.getElem_append_right (by omega)]
     simpa [hl'] using h3
  obtain⟨l,hl2,hr⟩:=all len (zzL _);refine⟨some a,cap,l,by rw [hl2];exact e1,?_,by omega⟩;rcases Nat.eq_zero_or_pos len with hz|hz
  ·left;exact zzQ (by omega)
  ·right
   obtain⟨cs0,k1,k2,_⟩:=hr 0 (by omega)
   have hc0:w.cell? a=some (cs0[0]'(by omega)):=by
    have:=k2 0 h0;rw [Nat.zero_mul]at this;rw [<-zzq3,<-this];rfl
   have hsp:=World.cell?_spot (a:=a) hc0;obtain⟨b,off,sp⟩:=a;simp only at hsp;subst hsp;have hadd: ∀k,(⟨b,off,none⟩:Addr).add k=⟨b,off+k,none⟩:=fun k=>by unfold Addr.add;split<;>simp_all
   have hadd2: ∀o k,(⟨b,o,none⟩:Addr).add k=⟨b,o+k,none⟩:=fun o k=>by unfold Addr.add;split<;>simp_all
   refine⟨b,off,rfl,?_,fun j hj=>?_⟩
   ·rcases Nat.lt_or_ge b w.heap.size with h|h
    ·exact h
    ·simp [World.cell?,Array.getElem?_eq_none h]at hc0
   ·obtain⟨cs2,g1,g2,g3⟩:=hr j hj
    refine⟨cs2,g1,fun i hi=>?_,g3⟩;have:=g2 i hi
    rwa [hadd,hadd2]at this
end
theorem cI:Tryz.prog.cellsOf 3=1:=by kernel_rfl
theorem zo1:Tryz.prog.cellsOf 2=1:=by kernel_rfl
theorem cS:Tryz.prog.cellsOf 9=1:=by kernel_rfl
theorem cB:Tryz.prog.cellsOf 4=1:=by kernel_rfl
theorem zjd:Tryz.prog.cellsOf 42=2:=by kernel_rfl
theorem zo9:Tryz.prog.cellsOf 123=2:=by kernel_rfl
theorem zqz:Tryz.prog.cellsOf 126=6:=by kernel_rfl
theorem zo5:Tryz.prog.cellsOf 70=4:=by kernel_rfl
theorem zqE:Tryz.prog.cellsOf 84=3:=by kernel_rfl
theorem zqr:Tryz.prog.cellsOf 47=10:=by kernel_rfl
theorem zle:Tryz.prog.cellsOf 110=9:=by kernel_rfl
theorem zqT:Tryz.prog.cellsOf 27=6:=by kernel_rfl
theorem zmw:Tryz.prog.cellsOf 22=1:=by kernel_rfl
theorem zqN:Tryz.prog.cellsOf 43=1:=by kernel_rfl
theorem zqo:Tryz.prog.cellsOf 44=1:=by kernel_rfl
theorem zqO:Tryz.prog.cellsOf 45=1:=by kernel_rfl
theorem zqu:Tryz.prog.cellsOf 23=1:=by kernel_rfl
theorem zqM:Tryz.prog.cellsOf 24=1:=by kernel_rfl
theorem zqP:Tryz.prog.cellsOf 25=1:=by kernel_rfl
theorem zq5 {cs:List Value} (h:cs.length=2): ∃a b,cs= [a,b]:=by
 match cs,h with
 |[a,b],_=>exact⟨a,b,rfl⟩
theorem zq3 {cs:List Value} (h:cs.length=3): ∃a b c,cs= [a,b,c]:=by
 match cs,h with
 |[a,b,c],_=>exact⟨a,b,c,rfl⟩
theorem zq6 {cs:List Value} (h:cs.length=4): ∃a b c d,cs= [a,b,c,d]:=by
 match cs,h with
 |[a,b,c,d],_=>exact⟨a,b,c,d,rfl⟩
theorem zqD {cs:List Value} (h:cs.length=6): ∃a b c d e f,cs= [a,b,c,d,e,f]:=by
 match cs,h with
 |[a,b,c,d,e,f],_=>exact⟨a,b,c,d,e,f,rfl⟩
theorem zq2 {cs:List Value} (h:cs.length=9): ∃a b c d e f g i j,cs= [a,b,c,d,e,f,g,i,j]:=by
 match cs,h with
 |[a,b,c,d,e,f,g,i,j],_=>exact⟨a,b,c,d,e,f,g,i,j,rfl⟩
theorem zqR {cs:List Value} (h:cs.length=10): ∃a b c d e f g i j k,cs= [a,b,c,d,e,f,g,i,j,k]:=by
 match cs,h with
 |[a,b,c,d,e,f,g,i,j,k],_=>exact⟨a,b,c,d,e,f,g,i,j,k,rfl⟩
theorem zbo {a b:Value} (h: [a]= [b]):a=b:=by injection h
section
variable {H:Type} {enc:TypeId × Value->H} {w:World} {base:Nat} {spare:Nat->Bool} {held:Bool} {fuel:Nat} {cs:List Value} {x:DataW H × List MemPlace}
theorem zfB (h:DataW.trod enc Tryz.prog w base spare held fuel 42 cs=some x) (hw:Wt Tryz.prog 42 x.1): ∃a,zeG cs a:=by
 obtain⟨n,rfl,hl,hf⟩:=zc5 Tryz.underlying42 h hw;rw [zjd]at hl;exact zz196
theorem zmC (h:DataW.trod enc Tryz.prog w base spare held fuel 123 cs=some x) (hw:Wt Tryz.prog 123 x.1): ∃a,zed cs a:=by
 obtain⟨n,rfl,hl,hf⟩:=zc5 Tryz.underlying123 h hw;rw [zo9]at hl;exact zz196
theorem zn3 (h:DataW.trod enc Tryz.prog w base spare held fuel 126 cs=some x) (hw:Wt Tryz.prog 126 x.1): ∃a,zfu cs a:=by
 obtain⟨n,rfl,hl,hf⟩:=zc5 Tryz.underlying126 h hw;rw [zqz]at hl;obtain⟨a,b,c,d,e,f,rfl⟩:=zqD hl;obtain⟨y0,h0,_⟩:=hf 0 _ 3 0 1 rfl rfl rfl cI;obtain⟨y1,h1,w1⟩:=hf 1 _ 42 1 2 rfl rfl rfl zjd;obtain⟨y2,h2,w2⟩:=hf 2 _ 42 3 2 rfl rfl rfl zjd;obtain⟨y3,h3,_⟩:=hf 3 _ 4 5 1 rfl rfl rfl cB;obtain⟨n0,e0,i0⟩:=zbV Tryz.underlying3 h0;obtain⟨a1,e1,i1,j1⟩:=zfB h1 w1;obtain⟨a2,e2,i2,j2⟩:=zfB h2 w2;obtain⟨b3,e3⟩:=zg6 Tryz.underlying4 h3;obtain rfl:=zbo e0;obtain rfl:=zbo e3;have e1': [b,c]= [Value.int .i64 a1.kind,.int .i64 a1.n]:=e1;have e2': [d,e]= [Value.int .i64 a2.kind,.int .i64 a2.n]:=e2;simp only [List.cons.injEq,and_true]at e1' e2';obtain⟨rfl,rfl⟩:=e1';obtain⟨rfl,rfl⟩:=e2';exact⟨⟨n0,a1,a2,b3⟩,rfl,i0,i1,j1,i2,j2⟩
theorem znc (h:DataW.trod enc Tryz.prog w base spare held fuel 70 cs=some x) (hw:Wt Tryz.prog 70 x.1): ∃a,zfp cs a:=by
 obtain⟨n,rfl,hl,hf⟩:=zc5 Tryz.underlying70 h hw;rw [zo5]at hl;obtain⟨a,b,c,d,rfl⟩:=zq6 hl;obtain⟨y0,h0,_⟩:=hf 0 _ 9 0 1 rfl rfl rfl cS;obtain⟨y1,h1,_⟩:=hf 1 _ 3 1 1 rfl rfl rfl cI;obtain⟨y2,h2,_⟩:=hf 2 _ 4 2 1 rfl rfl rfl cB;obtain⟨y3,h3,_⟩:=hf 3 _ 3 3 1 rfl rfl rfl cI;obtain⟨s0,e0,i0⟩:=zeY Tryz.underlying9 h0;obtain⟨n1,e1,i1⟩:=zbV Tryz.underlying3 h1;obtain⟨b2,e2⟩:=zg6 Tryz.underlying4 h2;obtain⟨n3,e3,i3⟩:=zbV Tryz.underlying3 h3;obtain rfl:=zbo e0;obtain rfl:=zbo e1;obtain rfl:=zbo e2;obtain rfl:=zbo e3;exact⟨⟨s0,n1,b2,n3⟩,rfl,i0,i1,i3⟩
theorem zoH (h:DataW.trod enc Tryz.prog w base spare held fuel 84 cs=some x) (hw:Wt Tryz.prog 84 x.1): ∃a,zbX cs a:=by
 obtain⟨n,rfl,hl,hf⟩:=zc5 Tryz.underlying84 h hw;rw [zqE]at hl;obtain⟨a,b,c,rfl⟩:=zq3 hl;obtain⟨y0,h0,_⟩:=hf 0 _ 3 0 1 rfl rfl rfl cI;obtain⟨y1,h1,_⟩:=hf 1 _ 3 1 1 rfl rfl rfl cI;obtain⟨y2,h2,_⟩:=hf 2 _ 3 2 1 rfl rfl rfl cI;obtain⟨n0,e0,i0⟩:=zbV Tryz.underlying3 h0;obtain⟨n1,e1,i1⟩:=zbV Tryz.underlying3 h1;obtain⟨n2,e2,i2⟩:=zbV Tryz.underlying3 h2;obtain rfl:=zbo e0;obtain rfl:=zbo e1;obtain rfl:=zbo e2;exact⟨⟨n0,n1,n2⟩,rfl,i0,i1,i2⟩
def zqn (w:World) (cs:List Value) (x:RIns):Prop:=InsR w cs x/\x.name.size<=140737488351232
theorem zoe (h:DataW.trod enc Tryz.prog w base spare held fuel 47 cs=some x) (hw:Wt Tryz.prog 47 x.1): ∃a,zqn w cs a:=by
 obtain⟨n,rfl,hl,hf⟩:=zc5 Tryz.underlying47 h hw;rw [zqr]at hl;obtain⟨a,b,c,d,e,f,g,i,j,k,rfl⟩:=zqR hl;obtain⟨y0,h0,_⟩:=hf 0 _ 3 0 1 rfl rfl rfl cI;obtain⟨y1,h1,w1⟩:=hf 1 _ 42 1 2 rfl rfl rfl zjd;obtain⟨y2,h2,w2⟩:=hf 2 _ 43 3 1 rfl rfl rfl zqN;obtain⟨y3,h3,_⟩:=hf 3 _ 3 4 1 rfl rfl rfl cI;obtain⟨y4,h4,_⟩:=hf 4 _ 3 5 1 rfl rfl rfl cI;obtain⟨y5,h5,_⟩:=hf 5 _ 3 6 1 rfl rfl rfl cI;obtain⟨y6,h6,w6⟩:=hf 6 _ 9 7 1 rfl rfl rfl cS;obtain⟨y7,h7,w7⟩:=hf 7 _ 44 8 1 rfl rfl rfl zqo;obtain⟨y8,h8,w8⟩:=hf 8 _ 45 9 1 rfl rfl rfl zqO;obtain⟨n0,e0,i0⟩:=zbV Tryz.underlying3 h0;obtain⟨a1,e1,i1,j1⟩:=zfB h1 w1;obtain⟨so,sc,l2,e2,s2,b2⟩:=zdP zeG Tryz.underlying43 zjd (by decide) h2 w2 (fun n cs' y _ _ hy wy=>zfB hy wy);obtain⟨n3,e3,i3⟩:=zbV Tryz.underlying3 h3;obtain⟨n4,e4,i4⟩:=zbV Tryz.underlying3 h4;obtain⟨n5,e5,i5⟩:=zbV Tryz.underlying3 h5;obtain⟨s6,e6,i6⟩:=zmI Tryz.underlying9 h6 w6;obtain⟨co,cc,l7,e7,s7,b7⟩:=zdP zed Tryz.underlying44 zo9 (by decide) h7 w7 (fun n cs' y _ _ hy wy=>zmC hy wy);obtain⟨go,gc,l8,e8,s8,b8⟩:=zdP zfu Tryz.underlying45 zqz (by decide) h8 w8 (fun n cs' y _ _ hy wy=>zn3 hy wy);obtain rfl:=zbo e0;obtain rfl:=zbo e2;obtain rfl:=zbo e3;obtain rfl:=zbo e4;obtain rfl:=zbo e5;obtain rfl:=zbo e6;obtain rfl:=zbo e7;obtain rfl:=zbo e8;have e1': [b,c]= [Value.int .i64 a1.kind,.int .i64 a1.n]:=e1;simp only [List.cons.injEq,and_true]at e1';obtain⟨rfl,rfl⟩:=e1';exact⟨⟨n0,a1,l2,n3,n4,n5,s6,l7,l8⟩,⟨⟨so,sc,co,cc,go,gc,rfl,s2,s7,s8⟩,i0,i1,j1,b2,i3,i4,i5,zzY i6 (by decide),b7,b8⟩,i6⟩
end
section
variable {H:Type} {enc:TypeId × Value->H} {w:World} {base:Nat} {spare:Nat->Bool} {held:Bool}
theorem zpu: ∀(fuel:Nat) {cs:List Value} {x:DataW H × List MemPlace},DataW.trod enc Tryz.prog w base spare held fuel 110 cs=some x->Wt Tryz.prog 110 x.1-> ∃t,TmA w cs t:=by
 intro fuel
 induction fuel using Nat.strongRecOn with
 |_ fuel ih=>
  intro cs x h hw;obtain⟨n,rfl,hl,hf⟩:=zc5 Tryz.underlying110 h hw;rw [zle]at hl;obtain⟨a,b,c,d,e,f,g,i,j,rfl⟩:=zq2 hl;obtain⟨y0,h0,_⟩:=hf 0 _ 3 0 1 rfl rfl rfl cI;obtain⟨y1,h1,_⟩:=hf 1 _ 2 1 1 rfl rfl rfl zo1;obtain⟨y2,h2,_⟩:=hf 2 _ 2 2 1 rfl rfl rfl zo1;obtain⟨y3,h3,_⟩:=hf 3 _ 9 3 1 rfl rfl rfl cS;obtain⟨y4,h4,_⟩:=hf 4 _ 9 4 1 rfl rfl rfl cS;obtain⟨y5,h5,_⟩:=hf 5 _ 3 5 1 rfl rfl rfl cI;obtain⟨y6,h6,w6⟩:=hf 6 _ 22 6 1 rfl rfl rfl zmw;obtain⟨y7,h7,_⟩:=hf 7 _ 9 7 1 rfl rfl rfl cS;obtain⟨y8,h8,_⟩:=hf 8 _ 3 8 1 rfl rfl rfl cI;obtain⟨n0,e0,i0⟩:=zbV Tryz.underlying3 h0;obtain⟨n1,e1,i1⟩:=zbV Tryz.underlying2 h1;obtain⟨n2,e2,i2⟩:=zbV Tryz.underlying2 h2;obtain⟨s3,e3,i3⟩:=zeY Tryz.underlying9 h3;obtain⟨s4,e4,i4⟩:=zeY Tryz.underlying9 h4;obtain⟨n5,e5,i5⟩:=zbV Tryz.underlying3 h5;obtain⟨ao,ac,l6,e6,s6,b6⟩:=zdP (TmA w) Tryz.underlying22 zle (by decide) h6 w6 (fun m cs' y hm _ hy wy=>ih m (by omega) hy wy);obtain⟨s7,e7,i7⟩:=zeY Tryz.underlying9 h7;obtain⟨n8,e8,i8⟩:=zbV Tryz.underlying3 h8;obtain rfl:=zbo e0;obtain rfl:=zbo e1;obtain rfl:=zbo e2;obtain rfl:=zbo e3;obtain rfl:=zbo e4;obtain rfl:=zbo e5;obtain rfl:=zbo e6;obtain rfl:=zbo e7;obtain rfl:=zbo e8;obtain⟨q,hq⟩:=ze5 s6;exact⟨.mk n0 n1 n2 s3 s4 n5 l6 s7 n8,q+1,⟨ao,ac,rfl,hq⟩,i0,i1,i2,i3,i4,i5,b6,i7,i8⟩
end
theorem zh8 {H:Type} {enc:TypeId × Value->H} {W:World} {base b0:Nat} {spare:Nat->Bool} {held:Bool} {r:Reach} {v:Value} {d:DataW H} {p:List MemPlace}
  (hv:Value.okWide Tryz.prog W r b0 27 v) (h:DataW.Trod enc Tryz.prog W base spare held 27 v d p) (hw:Wt Tryz.prog 27 d):
  ∃(u:RUnit) (lo fo go co:zzA) (lc fc gc cc:Nat),v= .agg #[.string u.mdl,.int .i64 u.vsn,.slice lo u.lits.length lc,.slice fo u.funcs.length fc,.slice go u.funs.length gc,.slice co u.code.length cc]/\UP W u lo fo go co/\ ∀x∈u.code,x.name.size<=140737488351232:=by
 obtain⟨cs,rfl,_⟩: ∃cs,v= .agg cs/\True:=by
  unfold Value.okWide at hv;simp only [Tryz.underlying27]at hv;obtain⟨cs,e,_⟩:=hv;exact⟨cs,e,trivial⟩
 obtain⟨fuel,hf0⟩:=h;obtain⟨n,rfl,hl,hf⟩:=zc5 Tryz.underlying27 hf0 hw;rw [zqT]at hl;have hcs:(Value.agg cs).cells.toList=cs.toList:=rfl;rw [hcs]at hl hf;obtain⟨a,b,c,e,f,g,hcl⟩:=zqD hl;obtain rfl:cs=#[a,b,c,e,f,g]:=Array.toList_inj.1 hcl;obtain⟨y0,h0,w0⟩:=hf 0 _ 9 0 1 rfl rfl rfl cS;obtain⟨y1,h1,_⟩:=hf 1 _ 2 1 1 rfl rfl rfl zo1;obtain⟨y2,h2,w2⟩:=hf 2 _ 22 2 1 rfl rfl rfl zmw;obtain⟨y3,h3,w3⟩:=hf 3 _ 23 3 1 rfl rfl rfl zqu;obtain⟨y4,h4,w4⟩:=hf 4 _ 24 4 1 rfl rfl rfl zqM;obtain⟨y5,h5,w5⟩:=hf 5 _ 25 5 1 rfl rfl rfl zqP;obtain⟨s0,e0,i0⟩:=zeY Tryz.underlying9 h0;obtain⟨n1,e1,i1⟩:=zbV Tryz.underlying2 h1;obtain⟨lo,lc,l2,e2,s2,b2⟩:=zdP (TmA W) Tryz.underlying22 zle (by decide) h2 w2 (fun m cs' y hm _ hy wy=>zpu m hy wy);obtain⟨fo,fc,l3,e3,s3,b3⟩:=zdP zfp Tryz.underlying23 zo5 (by decide) h3 w3 (fun m cs' y hm _ hy wy=>znc hy wy);obtain⟨go,gc,l4,e4,s4,b4⟩:=zdP zbX Tryz.underlying24 zqE (by decide) h4 w4 (fun m cs' y hm _ hy wy=>zoH hy wy);obtain⟨co,cc,l5,e5,s5,b5⟩:=zdP (zqn W) Tryz.underlying25 zqr (by decide) h5 w5 (fun m cs' y hm _ hy wy=>zoe hy wy);obtain rfl:=zbo e0;obtain rfl:=zbo e1;obtain rfl:=zbo e2;obtain rfl:=zbo e3;obtain rfl:=zbo e4;obtain rfl:=zbo e5;refine⟨⟨s0,n1,l2,l3,l4,l5⟩,lo,fo,go,co,lc,fc,gc,cc,rfl,⟨s2,s3,s4,s5.imp fun _ _ h=>h.1,i0,i1,b2,b3,b4,b5⟩,fun x hx=>?_⟩;obtain⟨j,hj,rfl⟩:=List.getElem_of_mem hx;obtain⟨_,_,_,_,hr⟩:=s5.row hj;obtain⟨_,_,_,hr2⟩:=hr j hj;exact hr2.2
end Go.Proofs.YthajedcbgnloeaaGreatDoor
