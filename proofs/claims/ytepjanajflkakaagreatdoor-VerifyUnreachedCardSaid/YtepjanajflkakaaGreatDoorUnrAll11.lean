/- part 11 -/
import Derived.Test.YtepjanajflkakaaGreatDoorUnrAll03
import Derived.Test.YtepjanajflkakaaGreatDoorUnrAll05
import Derived.Test.YtepjanajflkakaaGreatDoorUnrAll07
namespace Go.Proofs.YtepjanajflkakaaGreatDoor
open Go.RowKit
set_option linter.unusedVariables false
set_option linter.unusedSimpArgs false
set_option maxRecDepth 100000
set_option maxHeartbeats 40000000
theorem isNaN64_any (x:Int) (w:World):Calls Tryz.prog 226 #[.int .i64 x] w fun e w'=>e= .returned (.bool false)/\w=w':=by
 go_enter Tryz.func226,Tryz.ntmps226
 go_wp2
 go_ret
 exact⟨rfl,rfl⟩
theorem cmp64_any (x y:Int) (w:World):Calls Tryz.prog 184 #[.int .i64 x,.int .i64 y] w fun e w'=>e= .returned (.int .i64 (Lib.compareInt x y))/\w=w':=by
 by_cases h1:x<y
 ·have E:Hid (Lib.compareInt x y= -1):=Lib.hid (by unfold Lib.compareInt;rw [if_pos h1])
  go_enter Tryz.func184,Tryz.ntmps184
  go_wp2_with (go_at_call 226;refine(isNaN64_any _ _).mono ?_;rintro e w1 ⟨rfl,rfl⟩)
  go_ret
  exact⟨ret1 E.out.symm,rfl⟩
 ·by_cases h2:y<x
  ·have E:Hid (Lib.compareInt x y=1):=Lib.hid (by unfold Lib.compareInt;rw [if_neg h1,if_pos h2])
   have h1':y<=x:=by omega
   clear h1
   go_enter Tryz.func184,Tryz.ntmps184
   go_wp2_with (go_at_call 226;refine(isNaN64_any _ _).mono ?_;rintro e w1 ⟨rfl,rfl⟩)
   go_ret
   exact⟨ret1 E.out.symm,rfl⟩
  ·obtain rfl:x=y:=by omega
   have E:Hid (Lib.compareInt x x=0):=Lib.hid (by unfold Lib.compareInt;rw [if_neg h1,if_neg h1])
   clear h1 h2
   go_enter Tryz.func184,Tryz.ntmps184
   go_wp2_with (go_at_call 226;refine(isNaN64_any _ _).mono ?_;rintro e w1 ⟨rfl,rfl⟩)
   go_ret
   exact⟨ret1 E.out.symm,rfl⟩
def orL:List Int->Int
 |[]=>0
 |x::l=>if x=0 then orL l else x
theorem orL_drop {l:List Int} {k:Nat} (h:k<l.length):orL (l.drop k)=if l[k]=0 then orL (l.drop (k+1))else l[k]:=by rw [List.drop_eq_getElem_cons h,orL]
theorem or_any (l:List Int) (hl:l.length<=1000) (B c:Nat) (w:World) (hc: ∀k (h:k<l.length),w.cell? ⟨B,k,none⟩=some (.int .i64 l[k])):
  Calls Tryz.prog 182 #[.slice (some ⟨B,0,none⟩) l.length c] w fun e w'=>e= .returned (.int .i64 (orL l))/\w=w':=by
 have HC:=Lib.hid hc
 have HI:Hid (orL l=orL (l.drop 0)):=Lib.hid rfl
 clear hc
 go_enter Tryz.func182,Tryz.ntmps182
 go_wp2_with fail
 go_loop [5,8] (fun _ i=> ∃k:Nat,k<=l.length/\i= .int .i64 k/\Hid (orL l=orL (l.drop k))) (fun _ i=>l.length-(intOf i).toNat)
 case atStart=>exact⟨0,Nat.zero_le _,rfl,HI⟩
 case round=>
  obtain⟨k,hk,rfl,HK⟩:=hrel
  by_cases hlt:k<l.length
  ·have hcell:=HC.out k hlt
   have HD:=Lib.hid (orL_drop hlt)
   generalize l[k]=x at *
   by_cases hx:x=0
   ·have HK2:Hid (orL l=orL (l.drop (k+1))):=Lib.hid (by rw [HK.out,HD.out,if_pos hx])
    have hb : (x != 0) = false := by rw [hx]; rfl
    clear hx
    go_wp2
    go_round
    case rel=>exact⟨k+1,by omega,by go_num,HK2⟩
    case measure=>simp [intOf];omega
   ·have E:Hid (orL l=x):=Lib.hid (by rw [HK.out,HD.out,if_neg hx])
    have hb : (x != 0) = true := by rw [bne_iff_ne]; exact hx
    clear hx
    go_wp2
    go_ret
    exact⟨ret1 E.out.symm,rfl⟩
  ·have E:Hid (orL l=0):=Lib.hid (by rw [HK.out,List.drop_eq_nil_of_le (by omega)];rfl)
   go_wp2
   go_ret
   exact⟨ret1 E.out.symm,rfl⟩
theorem each_nil (ao bo:Option Addr) (c d:Nat) (v:Value) (w:World):
  Calls Tryz.prog 223 #[.slice ao 0 c,.slice bo 0 d,v] w fun e w'=>e= .returned (.int .i64 0)/\w=w':=by
 go_enter Tryz.func223,Tryz.ntmps223
 go_wp2_with fail
 go_loop [11] (fun i=>i= .int .i64 0) (fun _=>0)
 case atStart=>rfl
 case round=>
  obtain rfl:=hrel
  go_wp2_with fail
  go_ret
  exact⟨rfl,rfl⟩
theorem items_nil (ao bo:Option Addr) (c d:Nat) (w:World):
  Calls Tryz.prog 179 #[.slice ao 0 c,.slice bo 0 d] w fun e w'=>e= .returned (.int .i64 0)/\w=w':=by
 have hc:=Tryz.cmp_Compare_int 0 0 w
 rw [show Lib.compareInt 0 0=0 by decide]at hc
 go_enter Tryz.func179,Tryz.ntmps179
 go_wp2_with fail
 refine hc.mono ?_
 rintro e w1 ⟨rfl,rfl⟩
 go_wp2_with (go_at_call 223;refine(each_nil _ _ _ _ _ _).mono ?_;rintro e w2 ⟨rfl,rfl⟩)
 go_ret
 exact⟨rfl,rfl⟩
theorem or_cells (w:World) (x1 x2 x3 x4 x5:Int): ∀k (h:k< [x1,x2,x3,x4,x5].length),(w.alloc (.cells #[.int .i64 x1,.int .i64 x2,.int .i64 x3,.int .i64 x4,.int .i64 x5] 3)).drew.cell? ⟨w.heap.size,k,none⟩=some (.int .i64 [x1,x2,x3,x4,x5][k]):=fun k h=>by
 have hr:=heap_alloc_new w (.cells #[.int .i64 x1,.int .i64 x2,.int .i64 x3,.int .i64 x4,.int .i64 x5] 3)
 have hc:=cell_of_row _ _ k _ _ _ hr
 refine Eq.trans (show _=(w.alloc (.cells #[.int .i64 x1,.int .i64 x2,.int .i64 x3,.int .i64 x4,.int .i64 x5] 3)).cell? ⟨w.heap.size,k,none⟩from rfl) (hc.trans ?_)
 match k,h with
 |0,_=>rfl
 |1,_=>rfl
 |2,_=>rfl
 |3,_=>rfl
 |4,_=>rfl
 |k+5,h=>exact absurd h (by simp)
def cmpS (a b:Tm):Int:=if Lib.compareInt a.kind b.kind=0 then orL [Lib.compareBytes a.name.data.toList b.name.data.toList,Lib.compareBytes a.func.data.toList b.func.data.toList,Lib.compareInt a.gen b.gen,Lib.compareInt a.int b.int,Lib.compareInt a.arity b.arity]else Lib.compareInt a.kind b.kind
theorem valid_simple (a b:Tm) (ao bo:Option Addr) (c d:Nat) (w:World) (ha:a.items= []) (hb:b.items= []) (h7:a.kind≠7) (h9:a.kind≠9) (h10:a.kind≠10):
  Calls Tryz.prog 160 #[.agg #[.int .i64 a.kind,.int .i64 a.int,.int .i64 a.gen,.string a.name,.string a.func,.int .i64 a.arity,.slice ao a.items.length c,.string a.bytes,.int .i64 a.bits],.agg #[.int .i64 b.kind,.int .i64 b.int,.int .i64 b.gen,.string b.name,.string b.func,.int .i64 b.arity,.slice bo b.items.length d,.string b.bytes,.int .i64 b.bits]] w fun e w'=>e= .returned (.int .i64 (cmpS a b))/\Below w.heap.size w w':=by
 have hla:a.items.length=0:=by rw [ha];rfl
 have hlb:b.items.length=0:=by rw [hb];rfl
 rw [hla,hlb]
 have hB:=two_below w (.cells #[.int .i64 a.kind,.int .i64 a.int,.int .i64 a.gen,.string a.name,.string a.func,.int .i64 a.arity,.slice ao 0 c,.string a.bytes,.int .i64 a.bits] 116) (.cells #[.int .i64 b.kind,.int .i64 b.int,.int .i64 b.gen,.string b.name,.string b.func,.int .i64 b.arity,.slice bo 0 d,.string b.bytes,.int .i64 b.bits] 116)
 have r0:=two0 w (.cells #[.int .i64 a.kind,.int .i64 a.int,.int .i64 a.gen,.string a.name,.string a.func,.int .i64 a.arity,.slice ao 0 c,.string a.bytes,.int .i64 a.bits] 116) (.cells #[.int .i64 b.kind,.int .i64 b.int,.int .i64 b.gen,.string b.name,.string b.func,.int .i64 b.arity,.slice bo 0 d,.string b.bytes,.int .i64 b.bits] 116)
 have r1:=two1 w (.cells #[.int .i64 a.kind,.int .i64 a.int,.int .i64 a.gen,.string a.name,.string a.func,.int .i64 a.arity,.slice ao 0 c,.string a.bytes,.int .i64 a.bits] 116) (.cells #[.int .i64 b.kind,.int .i64 b.int,.int .i64 b.gen,.string b.name,.string b.func,.int .i64 b.arity,.slice bo 0 d,.string b.bytes,.int .i64 b.bits] 116)
 have hcmp:=fun wx=>Tryz.cmp_Compare_int a.kind b.kind wx
 have E0:Hid (cmpS a b=if Lib.compareInt a.kind b.kind=0 then orL [Lib.compareBytes a.name.data.toList b.name.data.toList,Lib.compareBytes a.func.data.toList b.func.data.toList,Lib.compareInt a.gen b.gen,Lib.compareInt a.int b.int,Lib.compareInt a.arity b.arity]else Lib.compareInt a.kind b.kind):=Lib.hid rfl
 have HB:=Lib.hid hB
 clear hla hlb ha hb
 generalize hk:Lib.compareInt a.kind b.kind=kk at *
 by_cases hz:kk=0
 ·subst hz
  rw [if_pos rfl]at E0
  have hs1: ∀wx,Calls Tryz.prog 183 #[.string a.name,.string b.name] wx fun e w'=>e= .returned (.int .i64 (Lib.compareBytes a.name.data.toList b.name.data.toList))/\wx=w':=fun wx=>(Tryz.strings_Compare _ _ wx).mono fun _ _ ⟨h,h'⟩=>⟨h,h'.symm⟩
  have hs2: ∀wx,Calls Tryz.prog 183 #[.string a.func,.string b.func] wx fun e w'=>e= .returned (.int .i64 (Lib.compareBytes a.func.data.toList b.func.data.toList))/\wx=w':=fun wx=>(Tryz.strings_Compare _ _ wx).mono fun _ _ ⟨h,h'⟩=>⟨h,h'.symm⟩
  have hs3:=fun wx=>cmp64_any a.gen b.gen wx
  have hs4:=fun wx=>cmp64_any a.int b.int wx
  have hs5: ∀wx,Calls Tryz.prog 178 #[.int .i64 a.arity,.int .i64 b.arity] wx fun e w'=>e= .returned (.int .i64 (Lib.compareInt a.arity b.arity))/\wx=w':=fun wx=>(Tryz.cmp_Compare_int _ _ wx).mono fun _ _ ⟨h,h'⟩=>⟨h,h'.symm⟩
  generalize Lib.compareBytes a.name.data.toList b.name.data.toList=x1 at *
  generalize Lib.compareBytes a.func.data.toList b.func.data.toList=x2 at *
  generalize Lib.compareInt a.gen b.gen=x3 at *
  generalize Lib.compareInt a.int b.int=x4 at *
  generalize Lib.compareInt a.arity b.arity=x5 at *
  have t7:(a.kind==7)=false:=beq_eq_false_iff_ne.2 h7
  have t9:(a.kind==9)=false:=beq_eq_false_iff_ne.2 h9
  have t10:(a.kind==10)=false:=beq_eq_false_iff_ne.2 h10
  clear h7 h9 h10 hk
  go_enter Tryz.func160,Tryz.ntmps160
  go_upto_region 11 with((go_at_call 178;refine(hcmp _).mono ?_;rintro e w1 ⟨rfl,rfl⟩))
  generalize(w.alloc (.cells #[.int .i64 a.kind,.int .i64 a.int,.int .i64 a.gen,.string a.name,.string a.func,.int .i64 a.arity,.slice ao 0 c,.string a.bytes,.int .i64 a.bits] 116)).alloc (.cells #[.int .i64 b.kind,.int .i64 b.int,.int .i64 b.gen,.string b.name,.string b.func,.int .i64 b.arity,.slice bo 0 d,.string b.bytes,.int .i64 b.bits] 116)=W at *
  obtain⟨q0,q1,q2,q3,q4,q5,q6,q7,q8,zq⟩:=term_cells r0
  obtain⟨p0,p1,p2,p3,p4,p5,p6,p7,p8,zp⟩:=term_cells r1
  have hl0:=lt_of_row r0
  have hl1:=lt_of_row r1
  clear zq zp r0 r1
  generalize hBe:w.heap.size=B at *
  have HBE:=Lib.hid hBe
  clear hBe
  have SK0:=Lib.hid (sk_of (Below.refl W.heap.size W).drew)
  have SK1:=Lib.hid (sk_of ((Below.refl W.heap.size W).alloc (Nat.le_refl _) (.cells #[.int .i64 x1,.int .i64 x2,.int .i64 x3,.int .i64 x4,.int .i64 x5] 3)).drew)
  have HC:=Lib.hid (or_cells W x1 x2 x3 x4 x5)
  have hor:=fun(B c:Nat) (wx:World) hc=>or_any [x1,x2,x3,x4,x5] (by simp) B c wx hc
  generalize orL [x1,x2,x3,x4,x5]=r at *
  have HOR:=Lib.hid hor
  clear hor
  first|go_region_held3 (fun w'=>W.heap.size<=w'.heap.size/\ ∀b o,b<W.heap.size->w'.cell? ⟨b,o,none⟩=W.cell? ⟨b,o,none⟩) (first|with_reducible exact SK0.out|with_reducible exact SK1.out)
   (first
    |(go_at_call 183;(first|(with_reducible refine(hs1 _).mono ?_)|(with_reducible refine(hs2 _).mono ?_));rintro e w1 ⟨rfl,rfl⟩)
    |(go_at_call 184;(first|(with_reducible refine(hs3 _).mono ?_)|(with_reducible refine(hs4 _).mono ?_));rintro e w1 ⟨rfl,rfl⟩)
    |(go_at_call 178;(with_reducible refine(hs5 _).mono ?_);rintro e w1 ⟨rfl,rfl⟩)
    |(go_at_call 182;refine(HOR.out _ _ _ HC.out).mono ?_;rintro e w1 ⟨rfl,rfl⟩))|fail
  by_cases hr:r=0
  ·have hrb : (r != 0) = false := by rw [hr]; rfl
   have ER:Hid (cmpS a b=0):=Lib.hid (E0.out.trans hr)
   clear hr
   go_wp2_with (go_at_call 179;refine(items_nil _ _ _ _ _).mono ?_;rintro e w2 ⟨rfl,rfl⟩)
   go_ret
   exact⟨ret1 ER.out.symm,(by rw [HBE.out];exact(HB.out.alloc (by rw [<-HBE.out];exact HB.out.size) _).drew)⟩
  ·have hrb : (r != 0) = true := by rw [bne_iff_ne]; exact hr
   clear hr
   go_wp2_with fail
   go_ret
   exact⟨ret1 E0.out.symm,(by rw [HBE.out];exact(HB.out.alloc (by rw [<-HBE.out];exact HB.out.size) _).drew)⟩
 ·have hnb : (kk != 0) = true := by rw [bne_iff_ne]; exact hz
  rw [if_neg hz]at E0
  clear hz hk
  go_enter Tryz.func160,Tryz.ntmps160
  go_wp2_with ((go_at_call 178;refine(hcmp _).mono ?_;rintro e w1 ⟨rfl,hw1⟩;rw [hw1]))
  go_ret
  exact⟨ret1 E0.out.symm,HB.out⟩
theorem compare_simple (f:Nat) (a b:Tm) (ao bo:Option Addr) (c d:Nat) (w:World) (hta:SlAt w 9 (TmAt w f) ao a.items) (htb:SlAt w 9 (TmAt w f) bo b.items) (oa:a.Ok) (ob:b.Ok) (ca:(capF (f+1) a:Int)<=1152921504606846976) (cb:(capF (f+1) b:Int)<=1152921504606846976)
  (va:validF (f+1) a=true) (vb:validF (f+1) b=true) (ha:a.items= []) (hb:b.items= []) (h7:a.kind≠7) (h9:a.kind≠9) (h10:a.kind≠10):
  Calls Tryz.prog 127 #[.agg #[.int .i64 a.kind,.int .i64 a.int,.int .i64 a.gen,.string a.name,.string a.func,.int .i64 a.arity,.slice ao a.items.length c,.string a.bytes,.int .i64 a.bits],.agg #[.int .i64 b.kind,.int .i64 b.int,.int .i64 b.gen,.string b.name,.string b.func,.int .i64 b.arity,.slice bo b.items.length d,.string b.bytes,.int .i64 b.bits]] w fun e w'=>e= .returned (.int .i64 (cmpS a b))/\Below w.heap.size w w':=by
 have hB:=two_below w (.cells #[.int .i64 a.kind,.int .i64 a.int,.int .i64 a.gen,.string a.name,.string a.func,.int .i64 a.arity,.slice ao a.items.length c,.string a.bytes,.int .i64 a.bits] 116) (.cells #[.int .i64 b.kind,.int .i64 b.int,.int .i64 b.gen,.string b.name,.string b.func,.int .i64 b.arity,.slice bo b.items.length d,.string b.bytes,.int .i64 b.bits] 116)
 have r0:=two0 w (.cells #[.int .i64 a.kind,.int .i64 a.int,.int .i64 a.gen,.string a.name,.string a.func,.int .i64 a.arity,.slice ao a.items.length c,.string a.bytes,.int .i64 a.bits] 116) (.cells #[.int .i64 b.kind,.int .i64 b.int,.int .i64 b.gen,.string b.name,.string b.func,.int .i64 b.arity,.slice bo b.items.length d,.string b.bytes,.int .i64 b.bits] 116)
 have r1:=two1 w (.cells #[.int .i64 a.kind,.int .i64 a.int,.int .i64 a.gen,.string a.name,.string a.func,.int .i64 a.arity,.slice ao a.items.length c,.string a.bytes,.int .i64 a.bits] 116) (.cells #[.int .i64 b.kind,.int .i64 b.int,.int .i64 b.gen,.string b.name,.string b.func,.int .i64 b.arity,.slice bo b.items.length d,.string b.bytes,.int .i64 b.bits] 116)
 have hva: ∀wx,Below w.heap.size w wx->Calls Tryz.prog 70 #[.agg #[.int .i64 a.kind,.int .i64 a.int,.int .i64 a.gen,.string a.name,.string a.func,.int .i64 a.arity,.slice ao a.items.length c,.string a.bytes,.int .i64 a.bits]] wx fun e w'=>e= .returned (.bool true)/\Below wx.heap.size wx w':=fun wx hx=>by have h:=tvalid_any f a ao c wx (hta.tms hx) oa ca;rwa [va]at h
 have hvb: ∀wx,Below w.heap.size w wx->Calls Tryz.prog 70 #[.agg #[.int .i64 b.kind,.int .i64 b.int,.int .i64 b.gen,.string b.name,.string b.func,.int .i64 b.arity,.slice bo b.items.length d,.string b.bytes,.int .i64 b.bits]] wx fun e w'=>e= .returned (.bool true)/\Below wx.heap.size wx w':=fun wx hx=>by have h:=tvalid_any f b bo d wx (htb.tms hx) ob cb;rwa [vb]at h
 have hvs:=fun wx=>valid_simple a b ao bo c d wx ha hb h7 h9 h10
 have HB:=Lib.hid hB
 clear hta htb oa ob ca cb va vb ha hb h7 h9 h10 hB
 generalize cmpS a b=r at *
 go_enter Tryz.func127,Tryz.ntmps127
 go_wp2_with fail
 generalize(w.alloc (.cells #[.int .i64 a.kind,.int .i64 a.int,.int .i64 a.gen,.string a.name,.string a.func,.int .i64 a.arity,.slice ao a.items.length c,.string a.bytes,.int .i64 a.bits] 116)).alloc (.cells #[.int .i64 b.kind,.int .i64 b.int,.int .i64 b.gen,.string b.name,.string b.func,.int .i64 b.arity,.slice bo b.items.length d,.string b.bytes,.int .i64 b.bits] 116)=W at *
 obtain⟨q0,q1,q2,q3,q4,q5,q6,q7,q8,zq⟩:=term_cells r0
 obtain⟨p0,p1,p2,p3,p4,p5,p6,p7,p8,zp⟩:=term_cells r1
 have hl0:=lt_of_row r0
 have hl1:=lt_of_row r1
 have R0:=Lib.hid r0;have R1:=Lib.hid r1
 clear zq zp r0 r1
 have HW:=Lib.hid HB.out
 generalize hBe:w.heap.size=B at *
 have HBE:=Lib.hid hBe
 have HB':Hid (Below w.heap.size w W):=Lib.hid (by rw [hBe];exact HB.out)
 have hva': ∀wx,Below W.heap.size W wx->Calls Tryz.prog 70 #[.agg #[.int .i64 a.kind,.int .i64 a.int,.int .i64 a.gen,.string a.name,.string a.func,.int .i64 a.arity,.slice ao a.items.length c,.string a.bytes,.int .i64 a.bits]] wx fun e w'=>e= .returned (.bool true)/\Below W.heap.size W w':=fun wx hx=>(hva wx (by rw [<-hBe];exact below_next HB'.out hx)).mono fun _ _ ⟨h,h'⟩=>⟨h,below_next hx h'⟩
 have hvb': ∀wx,Below W.heap.size W wx->Calls Tryz.prog 70 #[.agg #[.int .i64 b.kind,.int .i64 b.int,.int .i64 b.gen,.string b.name,.string b.func,.int .i64 b.arity,.slice bo b.items.length d,.string b.bytes,.int .i64 b.bits]] wx fun e w'=>e= .returned (.bool true)/\Below W.heap.size W w':=fun wx hx=>(hvb wx (by rw [<-hBe];exact below_next HB'.out hx)).mono fun _ _ ⟨h,h'⟩=>⟨h,below_next hx h'⟩
 clear hBe hva hvb
 have HDR:=Lib.hid ((Below.refl W.heap.size W).drew)
 have SK0:=Lib.hid (sk_of HDR.out)
 first|go_region_held3 (fun w'=>W.heap.size<=w'.heap.size/\ ∀b o,b<W.heap.size->w'.cell? ⟨b,o,none⟩=W.cell? ⟨b,o,none⟩) (first|with_reducible exact SK0.out|with_reducible exact HK5.out|with_reducible exact HK6.out)
  (first
   |(go_at_call 70;(first|(with_reducible refine(hva' _ HDR.out).mono ?_)|(with_reducible refine(hvb' _ HDR.out).mono ?_));rintro e w5 ⟨rfl,hb5⟩;have HK5:=Lib.hid (sk_of hb5))
   |(go_at_call 70;(first|(with_reducible refine(hva' _ hb5).mono ?_)|(with_reducible refine(hvb' _ hb5).mono ?_));rintro e w6 ⟨rfl,hb6⟩;have HK6:=Lib.hid (sk_of hb6)))|fail
 all_goals
  obtain⟨s0,s1,s2,s3,s4,s5,s6,s7,s8,zs⟩:=term_cells ((hb6.block B hl0).trans R0.out)
  obtain⟨u0,u1,u2,u3,u4,u5,u6,u7,u8,zu⟩:=term_cells ((hb6.block (B+1) hl1).trans R1.out)
  go_wp2_with (go_at_call 160;refine(hvs _).mono ?_;rintro e w8 ⟨rfl,hb8⟩)
  go_ret
  exact⟨rfl,below_next HB'.out (below_next hb6 hb8)⟩
theorem less_simple (f:Nat) (a b:Tm) (ao bo:Option Addr) (c d:Nat) (w:World) (hta:SlAt w 9 (TmAt w f) ao a.items) (htb:SlAt w 9 (TmAt w f) bo b.items) (oa:a.Ok) (ob:b.Ok) (ca:(capF (f+1) a:Int)<=1152921504606846976) (cb:(capF (f+1) b:Int)<=1152921504606846976)
  (va:validF (f+1) a=true) (vb:validF (f+1) b=true) (ha:a.items= []) (hb:b.items= []) (h7:a.kind≠7) (h9:a.kind≠9) (h10:a.kind≠10):
  Calls Tryz.prog 76 #[.agg #[.int .i64 a.kind,.int .i64 a.int,.int .i64 a.gen,.string a.name,.string a.func,.int .i64 a.arity,.slice ao a.items.length c,.string a.bytes,.int .i64 a.bits],.agg #[.int .i64 b.kind,.int .i64 b.int,.int .i64 b.gen,.string b.name,.string b.func,.int .i64 b.arity,.slice bo b.items.length d,.string b.bytes,.int .i64 b.bits]] w fun e w'=>e= .returned (.bool (decide (cmpS a b<0)))/\Below w.heap.size w w':=by
 have hB:=two_below w (.cells #[.int .i64 a.kind,.int .i64 a.int,.int .i64 a.gen,.string a.name,.string a.func,.int .i64 a.arity,.slice ao a.items.length c,.string a.bytes,.int .i64 a.bits] 116) (.cells #[.int .i64 b.kind,.int .i64 b.int,.int .i64 b.gen,.string b.name,.string b.func,.int .i64 b.arity,.slice bo b.items.length d,.string b.bytes,.int .i64 b.bits] 116)
 have hC:=compare_simple f a b ao bo c d _ (hta.tms hB) (htb.tms hB) oa ob ca cb va vb ha hb h7 h9 h10
 have HB:=Lib.hid hB
 clear hta htb oa ob ca cb va vb ha hb h7 h9 h10 hB
 generalize cmpS a b=r at *
 go_enter Tryz.func76,Tryz.ntmps76
 go_wp2_with fail
 refine hC.mono ?_
 rintro e w5 ⟨rfl,hb5⟩
 go_wp2_with fail
 go_ret
 exact⟨rfl,below_next HB.out hb5⟩
def litAt (lits:List Tm) (i:Int):Tm:=(lits[i.toNat]?).getD zeroTm
def clit (cases:List RCase) (k:Nat):Int:=((cases[k]?).map RCase.lit).getD 0
def kindOk (t:Tm):Bool:=decide (t.kind=1∨t.kind=2∨t.kind=8)
def caseOk (lits:List Tm) (cases:List RCase) (k:Nat):Bool:=wi (clit cases k) 0 ((lits.length:Int)-1)&&(kindOk (litAt lits (clit cases k))&&(decide (k=0)||decide (cmpS (litAt lits (clit cases (k-1))) (litAt lits (clit cases k))<0)))
def casesB (lits:List Tm) (cases:List RCase):Bool:=decide (∀k,k<cases.length->caseOk lits cases k=true)
def segB (nl:Nat) (g:RSeg):Bool:=wi g.type 1 3&&(opdB nl g.val&&(((decide (g.size.kind=0)&&decide (g.size.n=0))||opdB nl g.size)&&(!g.little||g.type==1)))
def listsB (lits:List Tm) (x:RIns):Bool:=((!(x.op==12)||wi x.cases.length 1 1000)&&decide ((x.segs.length:Int)<=60))&&(casesB lits x.cases&&x.segs.all (segB lits.length))
theorem casesB_no {lits:List Tm} {cases:List RCase} {k:Nat} (h:k<cases.length) (e:caseOk lits cases k=false):casesB lits cases=false:=by
 unfold casesB;exact decide_eq_false (fun hh=>by rw [hh k h]at e;cases e)
theorem casesB_yes {lits:List Tm} {cases:List RCase} (h: ∀k,k<cases.length->caseOk lits cases k=true):casesB lits cases=true:=decide_eq_true h
theorem clit_at {cases:List RCase} {k:Nat} (h:k<cases.length):clit cases k=cases[k].lit:=by unfold clit;rw [List.getElem?_eq_getElem h];rfl
theorem litAt_at {lits:List Tm} {m:Nat} (h:m<lits.length):litAt lits (m:Int)=lits[m]:=by unfold litAt;rw [Int.toNat_natCast,List.getElem?_eq_getElem h];rfl
theorem valid_items {f:Nat} {t:Tm} (h:validF (f+1) t=true) (hk:t.kind=1∨t.kind=2∨t.kind=8):t.items= []:=by
 unfold validF formF locB zeroK at h
 have h4:decide (t.kind=4∨t.kind=7∨t.kind=9)=false:=decide_eq_false (by omega)
 simp only [h4,Bool.and_eq_true,Bool.false_or]at h
 have:=h.1.1.2.1.1.2
 unfold zL at this
 exact List.eq_nil_of_length_eq_zero (of_decide_eq_true this)
structure LitsOk (w:World) (f:Nat) (lo:Option Addr) (lits:List Tm):Prop where
 at':SlAt w 9 (TmAt w (f+1)) lo lits
 ok: ∀t∈lits,validF (f+1) t=true/\(capF (f+1) t:Int)<=1152921504606846976
theorem LitsOk.below {w w':World} {f:Nat} {lo:Option Addr} {lits:List Tm} (h:LitsOk w f lo lits) (hb:Below w.heap.size w w'):LitsOk w' f lo lits:=⟨h.at'.tms hb,h.ok⟩
theorem less_lits {w:World} {f:Nat} {lo:Option Addr} {lits:List Tm} (h:LitsOk w f lo lits) {i j:Nat} (hi:i<lits.length) (hj:j<lits.length) (ki:kindOk lits[i]=true) (kj:kindOk lits[j]=true) {ai aj:Option Addr} {ci cj:Nat}
  (si:SlAt w 9 (TmAt w f) ai lits[i].items) (sj:SlAt w 9 (TmAt w f) aj lits[j].items) (oi:lits[i].Ok) (oj:lits[j].Ok) (wx:World) (hx:Below w.heap.size w wx):
  Calls Tryz.prog 76 #[.agg #[.int .i64 lits[i].kind,.int .i64 lits[i].int,.int .i64 lits[i].gen,.string lits[i].name,.string lits[i].func,.int .i64 lits[i].arity,.slice ai lits[i].items.length ci,.string lits[i].bytes,.int .i64 lits[i].bits],.agg #[.int .i64 lits[j].kind,.int .i64 lits[j].int,.int .i64 lits[j].gen,.string lits[j].name,.string lits[j].func,.int .i64 lits[j].arity,.slice aj lits[j].items.length cj,.string lits[j].bytes,.int .i64 lits[j].bits]] wx fun e w'=>e= .returned (.bool (decide (cmpS lits[i] lits[j]<0)))/\Below wx.heap.size wx w':=by
 obtain⟨vi,bi⟩:=h.ok _ (List.getElem_mem hi)
 obtain⟨vj,bj⟩:=h.ok _ (List.getElem_mem hj)
 have ki':=of_decide_eq_true ki
 have kj':=of_decide_eq_true kj
 exact less_simple f lits[i] lits[j] ai aj ci cj wx (si.tms hx) (sj.tms hx) oi oj bi bj vi vj (valid_items vi ki') (valid_items vj kj') (by omega) (by omega) (by omega)
theorem seg_cells {w:World} {B:Nat} {v0 v1 v2 v3 v4 v5:Value} (h:w.heap[B]?=some (.cells #[v0,v1,v2,v3,v4,v5] 113 (0,0))):
  w.cell? ⟨B,0,none⟩=some v0/\w.cell? ⟨B,1,none⟩=some v1/\w.cell? ⟨B,2,none⟩=some v2/\w.cell? ⟨B,3,none⟩=some v3/\w.cell? ⟨B,4,none⟩=some v4/\w.cell? ⟨B,5,none⟩=some v5:=by
 have hc:=fun j=>cell_of_row w B j _ _ _ h
 exact⟨hc 0,hc 1,hc 2,hc 3,hc 4,hc 5⟩
theorem lists_any (B:Nat) (u:RUnit) (lo fo go co:Option Addr) (lc fc gc cc:Nat) (b o:Nat) (x:RIns) (so co' go':Option Addr) (sc cc' gc':Nat) (f:Nat) (w:World) (hu:UBox w B u lo fo go co lc fc gc cc) (hl:u.lits.length<=9223372036854775807) (hlit:LitsOk w f lo u.lits) (hx:IBox w b o x so co' go' sc cc' gc'):
  Calls Tryz.prog 43 #[.pointer (some ⟨B,0,none⟩),.pointer (some ⟨b,o,none⟩)] w fun e w'=>e= .returned (.bool (listsB u.lits x))/\Below w.heap.size w w':=by
 have HU:=Lib.hid hu;have HX:=Lib.hid hx;have HLI:=Lib.hid hlit
 have c0:=hx.c0;have c8:=hx.c8;have c9:=hx.c9
 have rc:=hx.rcases;have rs:=hx.rsegs
 have hwi:=fun wx=>within_any (x.cases.length:Int) 1 1000 wx
 have HE:Hid (listsB u.lits x=(((!(x.op==12)||wi x.cases.length 1 1000)&&decide ((x.segs.length:Int)<=60))&&(casesB u.lits x.cases&&x.segs.all (segB u.lits.length)))):=Lib.hid rfl
 clear hu hx hlit
 go_enter Tryz.func43,Tryz.ntmps43
 go_upto_region 1 with fail
 generalize hr1:((!(x.op==12)||wi x.cases.length 1 1000)&&decide ((x.segs.length:Int)<=60))=r1 at HE
 have HR1:=Lib.hid hr1
 clear hr1
 go_cut [31] (fun s wx=> ∃n1:Bool,s= .bool n1/\Hid (n1= !r1)/\w=wx)
 case first=>
  generalize wi x.cases.length 1 1000=w1 at *
  cases t12:(x.op==12)with
  |true=>
   cases w1 with
   |false=>
    have hv:=Lib.hid (HR1.out.symm.trans (by rw [t12];rfl:_=false))
    go_wp2_with (go_at_call 71;refine(hwi _).mono ?_;rintro e w1 ⟨rfl,rfl⟩)
    go_meet
    case rel=>exact⟨_,rfl,Lib.hid (by rw [hv.out];(first|rfl|(rw [sd];rfl)|(rw [decide_eq_true s60'];rfl))),rfl⟩
   |true=>
    by_cases s60:(x.segs.length:Int)<=60
    ·have hv:=Lib.hid (HR1.out.symm.trans (by rw [t12,decide_eq_true s60];rfl:_=true))
     have sd:decide ((60:Int)<(x.segs.length:Int))=false:=decide_eq_false (by omega)
     go_wp2_with (go_at_call 71;refine(hwi _).mono ?_;rintro e w1 ⟨rfl,rfl⟩)
     go_meet
     case rel=>exact⟨_,rfl,Lib.hid (by rw [hv.out];(first|rfl|(rw [sd];rfl)|(rw [decide_eq_true s60'];rfl))),rfl⟩
    ·have hv:=Lib.hid (HR1.out.symm.trans (by rw [t12,decide_eq_false s60];rfl:_=false))
     have s60':60<(x.segs.length:Int):=by omega
     clear s60
     go_wp2_with (go_at_call 71;refine(hwi _).mono ?_;rintro e w1 ⟨rfl,rfl⟩)
     go_meet
     case rel=>exact⟨_,rfl,Lib.hid (by rw [hv.out];(first|rfl|(rw [sd];rfl)|(rw [decide_eq_true s60'];rfl))),rfl⟩
  |false=>
   by_cases s60:(x.segs.length:Int)<=60
   ·have hv:=Lib.hid (HR1.out.symm.trans (by rw [t12,decide_eq_true s60];rfl:_=true))
    have sd:decide ((60:Int)<(x.segs.length:Int))=false:=decide_eq_false (by omega)
    go_wp2_with fail
    go_meet
    case rel=>exact⟨_,rfl,Lib.hid (by rw [hv.out];(first|rfl|(rw [sd];rfl)|(rw [decide_eq_true s60'];rfl))),rfl⟩
   ·have hv:=Lib.hid (HR1.out.symm.trans (by rw [t12,decide_eq_false s60];rfl:_=false))
    have s60':60<(x.segs.length:Int):=by omega
    clear s60
    go_wp2_with fail
    go_meet
    case rel=>exact⟨_,rfl,Lib.hid (by rw [hv.out];(first|rfl|(rw [sd];rfl)|(rw [decide_eq_true s60'];rfl))),rfl⟩
 case rest=>
  obtain⟨n1,rfl,hn1,rfl⟩:=hcut
  clear HR1
  cases r1 with
  |false=>
   obtain rfl:n1=true:=hn1.out
   go_wp2_with fail
   go_ret
   exact⟨retb (by rw [HE.out];rfl),Below.refl _ _⟩
  |true=>
   obtain rfl:n1=false:=hn1.out
   have HE1:Hid (listsB u.lits x=(casesB u.lits x.cases&&x.segs.all (segB u.lits.length))):=Lib.hid (by rw [HE.out,Bool.true_and])
   clear HE hwi
   go_wp2_with fail
   go_loopw [37] (fun i wr=> ∃k:Nat,k<=x.cases.length/\i= .int .i64 k/\Hid (∀j,j<k->caseOk u.lits x.cases j=true)/\Below w.heap.size w wr) (fun i _=>x.cases.length-(intOf i).toNat)
   case atStart=>exact⟨0,Nat.zero_le _,rfl,Lib.hid (fun j h=>absurd h (Nat.not_lt_zero _)),Below.refl _ _⟩
   case round=>
    obtain⟨k,hk,rfl,HK,hBw⟩:=hrel
    rename World=>wr
    by_cases hlt:k<x.cases.length
    ·have hxr:=HX.out.below hBw
     obtain⟨b1,off1,hco,hb1,q0,q1,rl,rt⟩:=hxr.cases.case hlt
     subst hco
     have hcl:=clit_at hlt
     have HBW:=Lib.hid hBw
     have u2:=(HU.out.below hBw).c2
     have d8:=hxr.c8
     have hBlt:=(HU.out.below hBw).lt
     have hblt:=hxr.lt
     generalize x.cases[k].to=ct at *
     generalize x.cases[k].lit=cl at *
     by_cases hin:0<=cl/\cl<=(u.lits.length:Int)-1
     ·obtain⟨m,rfl⟩: ∃m:Nat,cl=(m:Int):=⟨cl.toNat,by omega⟩
      have hm:m<u.lits.length:=by omega
      have hw1:=wi_yes hin.1 hin.2
      have hwr1:IntKind.i64.wrap ((u.lits.length:Int)-1)=(u.lits.length:Int)-1:=by rw [IntKind.wrap_i64];omega
      have hwc:=fun wx=>within_any (m:Int) 0 ((u.lits.length:Int)-1) wx
      have HW1:=Lib.hid hw1
      rw [hw1]at hwc
      have HLW:=Lib.hid (HLI.out.below hBw)
      obtain⟨b2,off2,ai,ci,hlo,hb2,p0,p1,p2,p3,p4,p5,p6,p7,p8,hit,hok⟩:=(HLI.out.below hBw).at'.tm hm
      have hla:=litAt_at hm
      have HCL:=Lib.hid hcl
      have HIT:=Lib.hid hit;have HOK:=Lib.hid hok
      clear hcl hw1 hin rl rt hxr hit hok
      have hcx:Below wr.heap.size wr (wr.alloc (.cells #[.int .i64 (m:Int),.int .i64 ct] 111)):=(Below.refl _ _).alloc (Nat.le_refl _) _
      have v2:=(hcx.cell (p:=⟨B,2,none⟩) hBlt).trans u2
      have HCX:=Lib.hid hcx
      clear hcx
      go_wp2_with fail
      go_quiet ((go_at_call 71;exact Calls.quiet_of_same ((hwc _).mono fun _ _ ⟨a,b⟩=>⟨a,b.symm⟩)))
      have hbW:Below wr.heap.size wr ((wr.alloc (.cells #[.int .i64 (m:Int),.int .i64 ct] 111)).drewN nq):=below_drewN HCX.out nq
      have hbox:((wr.alloc (.cells #[.int .i64 (m:Int),.int .i64 ct] 111)).drewN nq).heap[wr.heap.size]?=some (.cells #[.int .i64 (m:Int),.int .i64 ct] 111 (0,0)):=heap_alloc_new _ _
      clear v2 HCX
      generalize(wr.alloc (.cells #[.int .i64 (m:Int),.int .i64 ct] 111)).drewN nq=W1 at *
      have hCW:wr.heap.size<W1.heap.size:=lt_of_row hbox
      have hlo2:lo=some ⟨b2,off2,none⟩:=hlo
      subst hlo2
      have v2:=(hbW.cell (p:=⟨B,2,none⟩) hBlt).trans u2
      have n0:W1.cell? ⟨wr.heap.size,0,none⟩=some (.int .i64 (m:Int)):=by rw [cell_of_row _ _ _ _ _ _ hbox];rfl
      have p0':=(hbW.cell (p:=⟨b2,off2+m*9,none⟩) hb2).trans p0
      have HBW1:=Lib.hid hbW;have HBOX:=Lib.hid hbox
      clear hbW hbox hwc
      generalize hkk:(u.lits[m]).kind=kk at p0'
      have HKK:=Lib.hid hkk
      clear hkk
      go_wp2_with fail
      go_quiet (fail)
      have hbW:Below wr.heap.size wr (W1.drewN nq):=below_drewN HBW1.out nq
      have hbox:(W1.drewN nq).heap[wr.heap.size]?=some (.cells #[.int .i64 (m:Int),.int .i64 ct] 111 (0,0)):=HBOX.out
      clear v2 n0 p0' hCW HBW1 HBOX
      generalize W1.drewN nq=W2 at *
      have HBW2:=Lib.hid hbW
      by_cases hko:kk=1∨kk=2∨kk=8
      ·have HKO:Hid (kindOk u.lits[m]=true):=Lib.hid (by unfold kindOk;rw [HKK.out];exact decide_eq_true hko)
       by_cases k0:k=0
       ·have HK2:Hid (∀j,j<k+1->caseOk u.lits x.cases j=true):=Lib.hid (fun j hj=>by
         obtain rfl:j=k:=by omega
         unfold caseOk
         rw [HCL.out,HW1.out,hla,HKO.out,decide_eq_true k0];rfl)
        have hd0:decide ((0:Int)<(k:Int))=false:=decide_eq_false (by omega)
        have hd1:decide (0<k)=false:=decide_eq_false (by omega)
        clear k0 hbW hbox
        rcases hko with rfl|rfl|rfl
        all_goals
         go_wp2_with fail
         go_quiet (fail)
         go_wp2_with fail
         go_roundw
         case rel=>exact⟨k+1,by omega,by go_num,HK2,below_drewN (HBW.out.trans (HBW2.out.mono HBW.out.size)) _⟩
         case measure=>simp [intOf];omega
       ·obtain⟨k',hk'⟩: ∃k',k=k'+1:=⟨k-1,by omega⟩
        have hlt':k'<x.cases.length:=by omega
        have hprev:=HK.out k' (by omega)
        obtain⟨b1',off1',hco',hb1',q0',q1',rl',rt'⟩:=(HX.out.below HBW.out).cases.case hlt'
        obtain⟨rfl,rfl⟩:b1=b1'/\off1=off1':=by injection hco' with h;injection h with h1 h2;exact⟨h1,h2⟩
        have hcl':=clit_at hlt'
        generalize x.cases[k'].lit=cl' at *
        generalize x.cases[k'].to=ct' at *
        unfold caseOk at hprev
        rw [hcl']at hprev
        have hpin:0<=cl'/\cl'<=(u.lits.length:Int)-1:=by
         by_cases h:0<=cl'/\cl'<=(u.lits.length:Int)-1
         ·exact h
         ·rw [wi_no h]at hprev;cases hprev
        obtain⟨m',rfl⟩: ∃m':Nat,cl'=(m':Int):=⟨cl'.toNat,by omega⟩
        have hm':m'<u.lits.length:=by omega
        rw [litAt_at hm']at hprev
        have hko':kindOk u.lits[m']=true:=by
         cases h:kindOk u.lits[m']with
         |true=>rfl
         |false=>rw [h]at hprev;simp at hprev
        obtain⟨b2',off2',ai',ci',hlo',hb2',r0,r1,r2,r3,r4,r5,r6,r7,r8,hit',hok'⟩:=HLW.out.at'.tm hm'
        obtain⟨rfl,rfl⟩:b2=b2'/\off2=off2':=by injection hlo' with h;injection h with h1 h2;exact⟨h1,h2⟩
        have hLess:=less_lits (ci:=ci') (cj:=ci) HLW.out hm' hm hko' HKO.out hit' HIT.out hok' HOK.out
        have HOKK:Hid (caseOk u.lits x.cases k=decide (cmpS u.lits[m'] u.lits[m]<0)):=Lib.hid (by
         unfold caseOk
         rw [HCL.out,HW1.out,hla,HKO.out,decide_eq_false k0,hk',Nat.add_sub_cancel,hcl',litAt_at hm']
         simp)
        have hd0:decide ((0:Int)<(k:Int))=true:=decide_eq_true (by omega)
        have hd1:decide (0<k)=true:=decide_eq_true (by omega)
        have hwk:IntKind.i64.wrap ((k:Int)-1)=(k':Int):=by rw [IntKind.wrap_i64];omega
        rw [HKK.out]at hLess p0
        have v2:=(hbW.cell (p:=⟨B,2,none⟩) hBlt).trans u2
        have v8:=(hbW.cell (p:=⟨b,o+8,none⟩) hblt).trans d8
        have n0:W2.cell? ⟨wr.heap.size,0,none⟩=some (.int .i64 (m:Int)):=by rw [cell_of_row _ _ _ _ _ _ hbox];rfl
        have q0'':=(hbW.cell (p:=⟨b1,off1+k'*2,none⟩) hb1).trans q0'
        have p0':=(hbW.cell (p:=⟨b2,off2+m*9,none⟩) hb2).trans p0
        have p1':=(hbW.cell (p:=⟨b2,off2+m*9+1,none⟩) hb2).trans p1
        have p2':=(hbW.cell (p:=⟨b2,off2+m*9+2,none⟩) hb2).trans p2
        have p3':=(hbW.cell (p:=⟨b2,off2+m*9+3,none⟩) hb2).trans p3
        have p4':=(hbW.cell (p:=⟨b2,off2+m*9+4,none⟩) hb2).trans p4
        have p5':=(hbW.cell (p:=⟨b2,off2+m*9+5,none⟩) hb2).trans p5
        have p6':=(hbW.cell (p:=⟨b2,off2+m*9+6,none⟩) hb2).trans p6
        have p7':=(hbW.cell (p:=⟨b2,off2+m*9+7,none⟩) hb2).trans p7
        have p8':=(hbW.cell (p:=⟨b2,off2+m*9+8,none⟩) hb2).trans p8
        have r0':=(hbW.cell (p:=⟨b2,off2+m'*9,none⟩) hb2).trans r0
        have r1':=(hbW.cell (p:=⟨b2,off2+m'*9+1,none⟩) hb2).trans r1
        have r2':=(hbW.cell (p:=⟨b2,off2+m'*9+2,none⟩) hb2).trans r2
        have r3':=(hbW.cell (p:=⟨b2,off2+m'*9+3,none⟩) hb2).trans r3
        have r4':=(hbW.cell (p:=⟨b2,off2+m'*9+4,none⟩) hb2).trans r4
        have r5':=(hbW.cell (p:=⟨b2,off2+m'*9+5,none⟩) hb2).trans r5
        have r6':=(hbW.cell (p:=⟨b2,off2+m'*9+6,none⟩) hb2).trans r6
        have r7':=(hbW.cell (p:=⟨b2,off2+m'*9+7,none⟩) hb2).trans r7
        have r8':=(hbW.cell (p:=⟨b2,off2+m'*9+8,none⟩) hb2).trans r8
        have hCW:wr.heap.size<W2.heap.size:=lt_of_row hbox
        have hBW:B<W2.heap.size:=Nat.lt_of_lt_of_le hBlt HBW2.out.size
        have hbW2:b<W2.heap.size:=Nat.lt_of_lt_of_le hblt HBW2.out.size
        have hb1W:b1<W2.heap.size:=Nat.lt_of_lt_of_le hb1 HBW2.out.size
        have hb2W:b2<W2.heap.size:=Nat.lt_of_lt_of_le hb2 HBW2.out.size
        have HDW:Hid (Below wr.heap.size wr W2.drew):=Lib.hid HBW2.out.drew
        have SK0:=Lib.hid (sk_of ((Below.refl W2.heap.size W2).drew))
        have SD:=Lib.hid ((Below.refl W2.heap.size W2).drew)
        clear hbW hbox q0 q1 q0' q1' p0 p1 p2 p3 p4 p5 p6 p7 p8 r0 r1 r2 r3 r4 r5 r6 r7 r8 hprev hpin hcl' hla u2 d8 hit' hok' hlo' hco' rl' rt' k0 hk'
        generalize decide (cmpS u.lits[m'] u.lits[m]<0)=q at *
        generalize u.lits[m']=t' at *
        generalize u.lits[m]=t at *
        rcases hko with rfl|rfl|rfl
        all_goals
         cases q with
         |true=>
          have HK2:Hid (∀j,j<k+1->caseOk u.lits x.cases j=true):=Lib.hid (fun j hj=>by
           rcases Nat.eq_or_lt_of_le (Nat.le_of_lt_succ hj)with h|h
           ·rw [h];exact HOKK.out
           ·exact HK.out j h)
          go_wp2_with fail
          first|go_region_held3 (fun w'=>W2.heap.size<=w'.heap.size/\ ∀b o,b<W2.heap.size->w'.cell? ⟨b,o,none⟩=W2.cell? ⟨b,o,none⟩) (first|with_reducible exact SK0.out|with_reducible exact HK5.out)
           ((go_at_call 76;refine(hLess _ HDW.out).mono ?_;rintro e w5 ⟨rfl,hb5⟩;have HK5:=Lib.hid (sk_of (below_next SD.out hb5));have HB5:=Lib.hid (below_next HDW.out hb5)))|fail
          go_wp2_with fail
          go_roundw
          case rel=>exact⟨k+1,by omega,by go_num,HK2,HBW.out.trans (HB5.out.mono HBW.out.size)⟩
          case measure=>simp [intOf];omega
         |false=>
          have E:Hid (listsB u.lits x=false):=Lib.hid (by rw [HE1.out,casesB_no hlt HOKK.out];rfl)
          go_wp2_with fail
          first|go_region_held3 (fun w'=>W2.heap.size<=w'.heap.size/\ ∀b o,b<W2.heap.size->w'.cell? ⟨b,o,none⟩=W2.cell? ⟨b,o,none⟩) (first|with_reducible exact SK0.out|with_reducible exact HK5.out)
           ((go_at_call 76;refine(hLess _ HDW.out).mono ?_;rintro e w5 ⟨rfl,hb5⟩;have HK5:=Lib.hid (sk_of (below_next SD.out hb5));have HB5:=Lib.hid (below_next HDW.out hb5)))|fail
          go_wp2_with fail
          go_ret
          exact⟨retb E.out.symm,HBW.out.trans (HB5.out.mono HBW.out.size)⟩
      ·have E:Hid (listsB u.lits x=false):=Lib.hid (by
        rw [HE1.out,casesB_no hlt (by
         unfold caseOk kindOk
         rw [HCL.out,HW1.out,hla,HKK.out,decide_eq_false hko];rfl)];rfl)
       have t1:(kk==1)=false:=beq_eq_false_iff_ne.2 (fun h=>hko (.inl h))
       have t2:(kk==2)=false:=beq_eq_false_iff_ne.2 (fun h=>hko (.inr (.inl h)))
       have t8:(kk==8)=false:=beq_eq_false_iff_ne.2 (fun h=>hko (.inr (.inr h)))
       clear hko hbW hbox
       go_wp2_with fail
       go_ret
       exact⟨retb E.out.symm,HBW.out.trans (HBW2.out.mono HBW.out.size)⟩
     ·have E:Hid (listsB u.lits x=false):=Lib.hid (by rw [HE1.out,casesB_no hlt (by unfold caseOk;rw [hcl,wi_no hin];rfl)];rfl)
      have hw0:=wi_no hin
      have hwr1:IntKind.i64.wrap ((u.lits.length:Int)-1)=(u.lits.length:Int)-1:=by rw [IntKind.wrap_i64];omega
      have hwc:=fun wx=>within_any cl 0 ((u.lits.length:Int)-1) wx
      rw [hw0]at hwc
      clear hcl hw0 hin rl rt hxr
      have hcx:Below wr.heap.size wr (wr.alloc (.cells #[.int .i64 cl,.int .i64 ct] 111)):=(Below.refl _ _).alloc (Nat.le_refl _) _
      have v2:=(hcx.cell (p:=⟨B,2,none⟩) hBlt).trans u2
      have HCX:=Lib.hid (hBw.trans (hcx.mono hBw.size))
      clear hcx
      go_wp2_with fail
      go_quiet ((go_at_call 71;exact Calls.quiet_of_same ((hwc _).mono fun _ _ ⟨a,b⟩=>⟨a,b.symm⟩)))
      go_wp2_with fail
      go_ret
      exact⟨retb E.out.symm,below_drewN HCX.out _⟩
    ·have HC1:Hid (casesB u.lits x.cases=true):=Lib.hid (casesB_yes (fun j hj=>HK.out j (by omega)))
     have HE2:Hid (listsB u.lits x=x.segs.all (segB u.lits.length)):=Lib.hid (by rw [HE1.out,HC1.out,Bool.true_and])
     have hxr:=HX.out.below hBw
     have d9:=hxr.c9
     have HBW:=Lib.hid hBw
     have HI:Hid (x.segs.all (segB u.lits.length)=(x.segs.drop 0).all (segB u.lits.length)):=Lib.hid rfl
     clear hxr HK
     obtain⟨wo,rfl⟩: ∃wo:World,wo=wr:=⟨_,rfl⟩
     go_wp2_with fail
     go_loopw [100] (fun i wq=> ∃k:Nat,k<=x.segs.length/\i= .int .i64 k/\Hid (x.segs.all (segB u.lits.length)=(x.segs.drop k).all (segB u.lits.length))/\Below w.heap.size w wq) (fun i _=>x.segs.length-(intOf i).toNat)
     case atStart=>exact⟨0,Nat.zero_le _,rfl,HI,HBW.out⟩
     case round=>
      obtain⟨k,hk,rfl,HK,hBq⟩:=hrel
      rename World=>wr
      by_cases hlt:k<x.segs.length
      ·have hxr:=HX.out.below hBq
       obtain⟨b1,off1,hgo,hb1,s0,s1,s2,s3,s4,s5,t0,t1,t2,t3,t4⟩:=hxr.segs.seg hlt
       subst hgo
       have HST:Hid ((x.segs.drop k).all (segB u.lits.length)=(segB u.lits.length x.segs[k]&&(x.segs.drop (k+1)).all (segB u.lits.length))):=Lib.hid (by rw [List.drop_eq_getElem_cons hlt,List.all_cons])
       have HUW:=HU.out.below hBq
       have hu0:=HUW
       have HBQ:=Lib.hid hBq
       have hop1:=fun wx (hx:Below wr.heap.size wr wx)=>operand_any B u lo fo go co lc fc gc cc x.segs[k].val wx (hu0.below hx) hl ⟨t1,t2⟩
       have hop2:=fun wx (hx:Below wr.heap.size wr wx)=>operand_any B u lo fo go co lc fc gc cc x.segs[k].size wx (hu0.below hx) hl ⟨t3,t4⟩
       have HSB:Hid (segB u.lits.length x.segs[k]=(wi x.segs[k].type 1 3&&(opdB u.lits.length x.segs[k].val&&(((decide (x.segs[k].size.kind=0)&&decide (x.segs[k].size.n=0))||opdB u.lits.length x.segs[k].size)&&(!x.segs[k].little||x.segs[k].type==1))))):=Lib.hid rfl
       have hwt:=fun wx=>within_any x.segs[k].type 1 3 wx
       generalize segB u.lits.length x.segs[k]=sb at *
       generalize opdB u.lits.length x.segs[k].val=ov at *
       generalize opdB u.lits.length x.segs[k].size=os at *
       generalize wi x.segs[k].type 1 3=wt at *
       generalize x.segs[k]=g at *
       obtain⟨ty,⟨vk,vn⟩,⟨sk,sn⟩,lit⟩:=g
       simp only at *
       have hbx:Below wr.heap.size wr (wr.alloc (.cells #[.int .i64 ty,.int .i64 vk,.int .i64 vn,.int .i64 sk,.int .i64 sn,.bool lit] 113)):=(Below.refl _ _).alloc (Nat.le_refl _) _
       have hbr:=heap_alloc_new wr (.cells #[.int .i64 ty,.int .i64 vk,.int .i64 vn,.int .i64 sk,.int .i64 sn,.bool lit] 113)
       have HBX:=Lib.hid hbx;have HBR:=Lib.hid hbr
       clear hbx hbr t0 t1 t2 t3 t4 hxr HUW hu0 hBq
       cases wt with
       |false=>
        cases sk0:(sk==0)with
        |false=>
         have hz:(decide (sk=0)&&decide (sn=0))=false:=by rw [decide_eq_false (by simpa using sk0)];rfl
         rw [hz]at HSB
         clear hz
         have hsv0:sb=false:=by rw [HSB.out];simp []
         have HSV:=Lib.hid hsv0
         clear hsv0
         go_wp2_with (go_at_call 71;refine(hwt _).mono ?_;rintro e w1 ⟨rfl,rfl⟩)
         have HE3:Hid (listsB u.lits x=false):=Lib.hid (by rw [HE2.out,HK.out,HST.out,HSV.out];rfl)
         go_ret
         exact⟨retb HE3.out.symm,HBQ.out.trans (HBX.out.mono HBQ.out.size)⟩
        |true=>
         cases sn0:(sn==0)with
         |false=>
          have hz:(decide (sk=0)&&decide (sn=0))=false:=by rw [decide_eq_false (p:=sn=0) (by simpa using sn0)];exact Bool.and_false _
          rw [hz]at HSB
          clear hz
          have hsv0:sb=false:=by rw [HSB.out];simp []
          have HSV:=Lib.hid hsv0
          clear hsv0
          go_wp2_with (go_at_call 71;refine(hwt _).mono ?_;rintro e w1 ⟨rfl,rfl⟩)
          have HE3:Hid (listsB u.lits x=false):=Lib.hid (by rw [HE2.out,HK.out,HST.out,HSV.out];rfl)
          go_ret
          exact⟨retb HE3.out.symm,HBQ.out.trans (HBX.out.mono HBQ.out.size)⟩
         |true=>
          have hz:(decide (sk=0)&&decide (sn=0))=true:=by rw [decide_eq_true (by simpa using sk0),decide_eq_true (by simpa using sn0)];rfl
          rw [hz]at HSB
          clear hz
          have hsv0:sb=false:=by rw [HSB.out];simp []
          have HSV:=Lib.hid hsv0
          clear hsv0
          go_wp2_with (go_at_call 71;refine(hwt _).mono ?_;rintro e w1 ⟨rfl,rfl⟩)
          have HE3:Hid (listsB u.lits x=false):=Lib.hid (by rw [HE2.out,HK.out,HST.out,HSV.out];rfl)
          go_ret
          exact⟨retb HE3.out.symm,HBQ.out.trans (HBX.out.mono HBQ.out.size)⟩
       |true=>
        cases ov with
        |false=>
         cases sk0:(sk==0)with
         |false=>
          have hz:(decide (sk=0)&&decide (sn=0))=false:=by rw [decide_eq_false (by simpa using sk0)];rfl
          rw [hz]at HSB
          clear hz
          have hsv0:sb=false:=by rw [HSB.out];simp []
          have HSV:=Lib.hid hsv0
          clear hsv0
          go_wp2_with (go_at_call 71;refine(hwt _).mono ?_;rintro e w1 ⟨rfl,rfl⟩)
          refine(hop1 _ HBX.out).mono ?_
          rintro e w5 ⟨rfl,hb5⟩
          have HB5:=Lib.hid (below_next HBX.out hb5)
          have hbra:=(hb5.block wr.heap.size (lt_of_row HBR.out)).trans HBR.out
          obtain⟨g0,g1,g2,g3,g4,g5⟩:=seg_cells hbra
          clear hb5
          have HE3:Hid (listsB u.lits x=false):=Lib.hid (by rw [HE2.out,HK.out,HST.out,HSV.out];rfl)
          go_wp2_with fail
          go_ret
          exact⟨retb HE3.out.symm,HBQ.out.trans (HB5.out.mono HBQ.out.size)⟩
         |true=>
          cases sn0:(sn==0)with
          |false=>
           have hz:(decide (sk=0)&&decide (sn=0))=false:=by rw [decide_eq_false (p:=sn=0) (by simpa using sn0)];exact Bool.and_false _
           rw [hz]at HSB
           clear hz
           have hsv0:sb=false:=by rw [HSB.out];simp []
           have HSV:=Lib.hid hsv0
           clear hsv0
           go_wp2_with (go_at_call 71;refine(hwt _).mono ?_;rintro e w1 ⟨rfl,rfl⟩)
           refine(hop1 _ HBX.out).mono ?_
           rintro e w5 ⟨rfl,hb5⟩
           have HB5:=Lib.hid (below_next HBX.out hb5)
           have hbra:=(hb5.block wr.heap.size (lt_of_row HBR.out)).trans HBR.out
           obtain⟨g0,g1,g2,g3,g4,g5⟩:=seg_cells hbra
           clear hb5
           have HE3:Hid (listsB u.lits x=false):=Lib.hid (by rw [HE2.out,HK.out,HST.out,HSV.out];rfl)
           go_wp2_with fail
           go_ret
           exact⟨retb HE3.out.symm,HBQ.out.trans (HB5.out.mono HBQ.out.size)⟩
          |true=>
           have hz:(decide (sk=0)&&decide (sn=0))=true:=by rw [decide_eq_true (by simpa using sk0),decide_eq_true (by simpa using sn0)];rfl
           rw [hz]at HSB
           clear hz
           have hsv0:sb=false:=by rw [HSB.out];simp []
           have HSV:=Lib.hid hsv0
           clear hsv0
           go_wp2_with (go_at_call 71;refine(hwt _).mono ?_;rintro e w1 ⟨rfl,rfl⟩)
           refine(hop1 _ HBX.out).mono ?_
           rintro e w5 ⟨rfl,hb5⟩
           have HB5:=Lib.hid (below_next HBX.out hb5)
           have hbra:=(hb5.block wr.heap.size (lt_of_row HBR.out)).trans HBR.out
           obtain⟨g0,g1,g2,g3,g4,g5⟩:=seg_cells hbra
           clear hb5
           have HE3:Hid (listsB u.lits x=false):=Lib.hid (by rw [HE2.out,HK.out,HST.out,HSV.out];rfl)
           go_wp2_with fail
           go_ret
           exact⟨retb HE3.out.symm,HBQ.out.trans (HB5.out.mono HBQ.out.size)⟩
        |true=>
         cases sk0:(sk==0)with
         |false=>
          have hz:(decide (sk=0)&&decide (sn=0))=false:=by rw [decide_eq_false (by simpa using sk0)];rfl
          rw [hz]at HSB
          clear hz
          cases os with
          |false=>
           have hsv0:sb=false:=by rw [HSB.out];simp []
           have HSV:=Lib.hid hsv0
           clear hsv0
           go_wp2_with (go_at_call 71;refine(hwt _).mono ?_;rintro e w1 ⟨rfl,rfl⟩)
           refine(hop1 _ HBX.out).mono ?_
           rintro e w5 ⟨rfl,hb5⟩
           have HB5:=Lib.hid (below_next HBX.out hb5)
           have hbra:=(hb5.block wr.heap.size (lt_of_row HBR.out)).trans HBR.out
           obtain⟨g0,g1,g2,g3,g4,g5⟩:=seg_cells hbra
           clear hb5
           go_wp2_with fail
           refine(hop2 _ HB5.out).mono ?_
           rintro e w6 ⟨rfl,hb6⟩
           have HB6:=Lib.hid (below_next HB5.out hb6)
           clear g0 g1 g2 g3 g4 g5
           have hbrb:=(hb6.block wr.heap.size (lt_of_row hbra)).trans hbra
           obtain⟨g0,g1,g2,g3,g4,g5⟩:=seg_cells hbrb
           clear hb6
           have HE3:Hid (listsB u.lits x=false):=Lib.hid (by rw [HE2.out,HK.out,HST.out,HSV.out];rfl)
           go_wp2_with fail
           go_ret
           exact⟨retb HE3.out.symm,HBQ.out.trans (HB6.out.mono HBQ.out.size)⟩
          |true=>
           go_wp2_with (go_at_call 71;refine(hwt _).mono ?_;rintro e w1 ⟨rfl,rfl⟩)
           refine(hop1 _ HBX.out).mono ?_
           rintro e w5 ⟨rfl,hb5⟩
           have HB5:=Lib.hid (below_next HBX.out hb5)
           have hbra:=(hb5.block wr.heap.size (lt_of_row HBR.out)).trans HBR.out
           obtain⟨g0,g1,g2,g3,g4,g5⟩:=seg_cells hbra
           clear hb5
           go_wp2_with fail
           refine(hop2 _ HB5.out).mono ?_
           rintro e w6 ⟨rfl,hb6⟩
           have HB6:=Lib.hid (below_next HB5.out hb6)
           clear g0 g1 g2 g3 g4 g5
           have hbrb:=(hb6.block wr.heap.size (lt_of_row hbra)).trans hbra
           obtain⟨g0,g1,g2,g3,g4,g5⟩:=seg_cells hbrb
           clear hb6
           cases lit with
           |false=>
            have hsv0:sb=true:=by rw [HSB.out];simp []
            have HSV:=Lib.hid hsv0
            clear hsv0
            have HK2:Hid (x.segs.all (segB u.lits.length)=(x.segs.drop (k+1)).all (segB u.lits.length)):=Lib.hid (by rw [HK.out,HST.out,HSV.out];rfl)
            go_wp2_with fail
            go_roundw
            case rel=>exact⟨k+1,by omega,by go_num,HK2,HBQ.out.trans (HB6.out.mono HBQ.out.size)⟩
            case measure=>simp [intOf];omega
           |true=>
            cases ty1:(ty==1)with
            |true=>
             have ty2 : (ty != 1) = false := by unfold bne; rw [ty1]; rfl
             have hsv0:sb=true:=by rw [HSB.out];simp [ty1]
             have HSV:=Lib.hid hsv0
             clear hsv0
             have HK2:Hid (x.segs.all (segB u.lits.length)=(x.segs.drop (k+1)).all (segB u.lits.length)):=Lib.hid (by rw [HK.out,HST.out,HSV.out];rfl)
             go_wp2_with fail
             go_roundw
             case rel=>exact⟨k+1,by omega,by go_num,HK2,HBQ.out.trans (HB6.out.mono HBQ.out.size)⟩
             case measure=>simp [intOf];omega
            |false=>
             have ty2 : (ty != 1) = true := by unfold bne; rw [ty1]; rfl
             have hsv0:sb=false:=by rw [HSB.out];simp [ty1]
             have HSV:=Lib.hid hsv0
             clear hsv0
             have HE3:Hid (listsB u.lits x=false):=Lib.hid (by rw [HE2.out,HK.out,HST.out,HSV.out];rfl)
             go_wp2_with fail
             go_ret
             exact⟨retb HE3.out.symm,HBQ.out.trans (HB6.out.mono HBQ.out.size)⟩
         |true=>
          cases sn0:(sn==0)with
          |false=>
           have hz:(decide (sk=0)&&decide (sn=0))=false:=by rw [decide_eq_false (p:=sn=0) (by simpa using sn0)];exact Bool.and_false _
           rw [hz]at HSB
           clear hz
           cases os with
           |false=>
            have hsv0:sb=false:=by rw [HSB.out];simp []
            have HSV:=Lib.hid hsv0
            clear hsv0
            go_wp2_with (go_at_call 71;refine(hwt _).mono ?_;rintro e w1 ⟨rfl,rfl⟩)
            refine(hop1 _ HBX.out).mono ?_
            rintro e w5 ⟨rfl,hb5⟩
            have HB5:=Lib.hid (below_next HBX.out hb5)
            have hbra:=(hb5.block wr.heap.size (lt_of_row HBR.out)).trans HBR.out
            obtain⟨g0,g1,g2,g3,g4,g5⟩:=seg_cells hbra
            clear hb5
            go_wp2_with fail
            refine(hop2 _ HB5.out).mono ?_
            rintro e w6 ⟨rfl,hb6⟩
            have HB6:=Lib.hid (below_next HB5.out hb6)
            clear g0 g1 g2 g3 g4 g5
            have hbrb:=(hb6.block wr.heap.size (lt_of_row hbra)).trans hbra
            obtain⟨g0,g1,g2,g3,g4,g5⟩:=seg_cells hbrb
            clear hb6
            have HE3:Hid (listsB u.lits x=false):=Lib.hid (by rw [HE2.out,HK.out,HST.out,HSV.out];rfl)
            go_wp2_with fail
            go_ret
            exact⟨retb HE3.out.symm,HBQ.out.trans (HB6.out.mono HBQ.out.size)⟩
           |true=>
            go_wp2_with (go_at_call 71;refine(hwt _).mono ?_;rintro e w1 ⟨rfl,rfl⟩)
            refine(hop1 _ HBX.out).mono ?_
            rintro e w5 ⟨rfl,hb5⟩
            have HB5:=Lib.hid (below_next HBX.out hb5)
            have hbra:=(hb5.block wr.heap.size (lt_of_row HBR.out)).trans HBR.out
            obtain⟨g0,g1,g2,g3,g4,g5⟩:=seg_cells hbra
            clear hb5
            go_wp2_with fail
            refine(hop2 _ HB5.out).mono ?_
            rintro e w6 ⟨rfl,hb6⟩
            have HB6:=Lib.hid (below_next HB5.out hb6)
            clear g0 g1 g2 g3 g4 g5
            have hbrb:=(hb6.block wr.heap.size (lt_of_row hbra)).trans hbra
            obtain⟨g0,g1,g2,g3,g4,g5⟩:=seg_cells hbrb
            clear hb6
            cases lit with
            |false=>
             have hsv0:sb=true:=by rw [HSB.out];simp []
             have HSV:=Lib.hid hsv0
             clear hsv0
             have HK2:Hid (x.segs.all (segB u.lits.length)=(x.segs.drop (k+1)).all (segB u.lits.length)):=Lib.hid (by rw [HK.out,HST.out,HSV.out];rfl)
             go_wp2_with fail
             go_roundw
             case rel=>exact⟨k+1,by omega,by go_num,HK2,HBQ.out.trans (HB6.out.mono HBQ.out.size)⟩
             case measure=>simp [intOf];omega
            |true=>
             cases ty1:(ty==1)with
             |true=>
              have ty2 : (ty != 1) = false := by unfold bne; rw [ty1]; rfl
              have hsv0:sb=true:=by rw [HSB.out];simp [ty1]
              have HSV:=Lib.hid hsv0
              clear hsv0
              have HK2:Hid (x.segs.all (segB u.lits.length)=(x.segs.drop (k+1)).all (segB u.lits.length)):=Lib.hid (by rw [HK.out,HST.out,HSV.out];rfl)
              go_wp2_with fail
              go_roundw
              case rel=>exact⟨k+1,by omega,by go_num,HK2,HBQ.out.trans (HB6.out.mono HBQ.out.size)⟩
              case measure=>simp [intOf];omega
             |false=>
              have ty2 : (ty != 1) = true := by unfold bne; rw [ty1]; rfl
              have hsv0:sb=false:=by rw [HSB.out];simp [ty1]
              have HSV:=Lib.hid hsv0
              clear hsv0
              have HE3:Hid (listsB u.lits x=false):=Lib.hid (by rw [HE2.out,HK.out,HST.out,HSV.out];rfl)
              go_wp2_with fail
              go_ret
              exact⟨retb HE3.out.symm,HBQ.out.trans (HB6.out.mono HBQ.out.size)⟩
          |true=>
           have hz:(decide (sk=0)&&decide (sn=0))=true:=by rw [decide_eq_true (by simpa using sk0),decide_eq_true (by simpa using sn0)];rfl
           rw [hz]at HSB
           clear hz
           go_wp2_with (go_at_call 71;refine(hwt _).mono ?_;rintro e w1 ⟨rfl,rfl⟩)
           refine(hop1 _ HBX.out).mono ?_
           rintro e w5 ⟨rfl,hb5⟩
           have HB5:=Lib.hid (below_next HBX.out hb5)
           have hbra:=(hb5.block wr.heap.size (lt_of_row HBR.out)).trans HBR.out
           obtain⟨g0,g1,g2,g3,g4,g5⟩:=seg_cells hbra
           clear hb5
           cases lit with
           |false=>
            have hsv0:sb=true:=by rw [HSB.out];simp []
            have HSV:=Lib.hid hsv0
            clear hsv0
            have HK2:Hid (x.segs.all (segB u.lits.length)=(x.segs.drop (k+1)).all (segB u.lits.length)):=Lib.hid (by rw [HK.out,HST.out,HSV.out];rfl)
            go_wp2_with fail
            go_roundw
            case rel=>exact⟨k+1,by omega,by go_num,HK2,HBQ.out.trans (HB5.out.mono HBQ.out.size)⟩
            case measure=>simp [intOf];omega
           |true=>
            cases ty1:(ty==1)with
            |true=>
             have ty2 : (ty != 1) = false := by unfold bne; rw [ty1]; rfl
             have hsv0:sb=true:=by rw [HSB.out];simp [ty1]
             have HSV:=Lib.hid hsv0
             clear hsv0
             have HK2:Hid (x.segs.all (segB u.lits.length)=(x.segs.drop (k+1)).all (segB u.lits.length)):=Lib.hid (by rw [HK.out,HST.out,HSV.out];rfl)
             go_wp2_with fail
             go_roundw
             case rel=>exact⟨k+1,by omega,by go_num,HK2,HBQ.out.trans (HB5.out.mono HBQ.out.size)⟩
             case measure=>simp [intOf];omega
            |false=>
             have ty2 : (ty != 1) = true := by unfold bne; rw [ty1]; rfl
             have hsv0:sb=false:=by rw [HSB.out];simp [ty1]
             have HSV:=Lib.hid hsv0
             clear hsv0
             have HE3:Hid (listsB u.lits x=false):=Lib.hid (by rw [HE2.out,HK.out,HST.out,HSV.out];rfl)
             go_wp2_with fail
             go_ret
             exact⟨retb HE3.out.symm,HBQ.out.trans (HB5.out.mono HBQ.out.size)⟩
      ·have HE3:Hid (listsB u.lits x=true):=Lib.hid (by rw [HE2.out,HK.out,List.drop_eq_nil_of_le (by omega)];rfl)
       go_wp2_with fail
       go_ret
       exact⟨retb HE3.out.symm,hBq⟩
end Go.Proofs.YtepjanajflkakaaGreatDoor
